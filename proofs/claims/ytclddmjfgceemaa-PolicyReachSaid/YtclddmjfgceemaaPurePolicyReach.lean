/- PolicyReach: whatever is picked can be come to; no conditions. -/
import Derived.Test.YtclddmjfgceemaaXPolicy
import Derived.Test.YtclddmjfgceemaaQx16
namespace Go.Proofs.Ytclddmjfgceemaa.Pure
open Go.RowKit Go.Proofs.Ytclddmjfgceemaa.Q Go.Proofs.YtclddmjfgceemaaW.PrintWords Go.Proofs.YtclddmjfgceemaaW.PrintLast Go.Proofs.YtclddmjfgceemaaW.PrintMore Go.Proofs.YtclddmjfgceemaaW.PrintX
set_option linter.unusedVariables false
set_option linter.unusedSimpArgs false
theorem s31_eq (x y : S31) : ((x.f0 == y.f0 && ((x.f1.f0 == y.f1.f0 && (x.f1.f1 == y.f1.f1)) && (x.f2 == y.f2 && (x.f3 == y.f3 && (x.f4 == y.f4))))) = true) ↔ x = y := by
  obtain ⟨x0, ⟨x1, x2⟩, x3, x4, x5⟩ := x
  obtain ⟨y0, ⟨y1, y2⟩, y3, y4, y5⟩ := y
  simp only [Bool.and_eq_true, beq_iff_eq, S31.mk.injEq, S24.mk.injEq]
theorem reachL_sub (c : Int) : ∀ l : List S31, (reachL c l).Sublist l
  | [] => List.Sublist.slnil
  | x :: t => by
    have ih := reachL_sub c t
    simp only [reachL]
    cases keepB c x <;> cases totalB c x <;> simp
    · exact ih.cons x
    · exact ih
theorem total_fits (v0 v1 : Int) (as_ : List Int) (v3 : Int) (x : S31) (h : totalB v3 x = true) : fitsB v0 v1 as_ v3 x = true := by
  unfold totalB at h
  unfold fitsB
  by_cases h0 : x.f0 = 0
  · rw [if_pos h0]
  · by_cases h4 : x.f0 = 4
    · simp [h4] at h
      simp [h4, h]
    · simp [h0, h4] at h
theorem fits_keep (v0 v1 : Int) (as_ : List Int) (v3 : Int) (x : S31) (h : fitsB v0 v1 as_ v3 x = true) : keepB v3 x = true := by
  unfold keepB policy_Reach.q2
  unfold fitsB at h
  by_cases h4 : x.f0 = 4
  · simp [h4] at h
    simp [h4, h]
  · simp [h4]
theorem reach_find (v0 v1 : Int) (as_ : List Int) (v3 : Int) : ∀ l : List S31, (reachL v3 l).find? (fitsB v0 v1 as_ v3) = l.find? (fitsB v0 v1 as_ v3)
  | [] => rfl
  | x :: t => by
    have ih := reach_find v0 v1 as_ v3 t
    simp only [reachL]
    cases hq : fitsB v0 v1 as_ v3 x
    · have ht : totalB v3 x = false := by
        cases ht : totalB v3 x
        · rfl
        · rw [total_fits v0 v1 as_ v3 x ht] at hq; cases hq
      rw [ht, List.find?_append, List.find?_cons, hq]
      simp only [Bool.false_eq_true, if_false]
      rw [ih]
      cases keepB v3 x <;> simp [hq]
    · rw [fits_keep v0 v1 as_ v3 x hq, if_pos rfl, List.find?_append, List.find?_cons, hq]
      simp [hq]
theorem sub_loop (l m : List S31) (v0 v1 : Int) (as_ : List Int) (v3 : Int) (ha : as_.length ≤ 100) (hl : l.length ≤ 30) (hm : m.length ≤ 30) (hf : m.find? (fitsB v0 v1 as_ v3) = l.find? (fitsB v0 v1 as_ v3)) : ∀ (d k i j : Nat), i + d = l.length → 2 * d + 150 < k → j ≤ m.length → (m.drop j).Sublist (l.drop i) →
    ridgewaylaw10_PolicyReach.l0 k l true m (j : Int) (i : Int) v0 v1 as_ v3 = some true := by
  have fin : ∀ (k i : Nat), 150 ≤ k → ridgewaylaw10_PolicyReach.j2 k l true m (m.length : Int) (i : Int) false v0 v1 as_ v3 = some true := by
    intro k i hk
    obtain ⟨k, rfl⟩ : ∃ m, k = m + 1 := ⟨k - 1, by omega⟩
    simp only [ridgewaylaw10_PolicyReach.j2]
    rw [if_neg (by decide), pick_eq k l v0 v1 as_ v3 ha (by omega) (by omega), pick_eq k m v0 v1 as_ v3 ha (by omega) (by omega)]
    have he : pickT (fitsB v0 v1 as_ v3) m = pickT (fitsB v0 v1 as_ v3) l := by unfold pickT; rw [hf]
    rw [he]
    simp
  intro d
  induction d with
  | zero =>
    intro k i j h0 hk hj hs
    obtain ⟨k, rfl⟩ : ∃ m, k = m + 1 := ⟨k - 1, by omega⟩
    rw [show l.drop i = [] from List.drop_eq_nil_of_le (by omega)] at hs
    have hj2 : j = m.length := by
      have := List.sublist_nil.mp hs
      have := congrArg List.length this
      simp at this
      omega
    subst hj2
    simp only [ridgewaylaw10_PolicyReach.l0]
    rw [if_neg (by omega)]
    exact fin k i (by omega)
  | succ d ih =>
    intro k i j h0 hk hj hs
    obtain ⟨k, rfl⟩ : ∃ m, k = m + 2 := ⟨k - 2, by omega⟩
    rw [ridgewaylaw10_PolicyReach.l0]
    rw [if_pos (by omega)]
    by_cases hjm : j < m.length
    · rw [show decide ((j : Int) < (m.length : Int)) = true from decide_eq_true (by omega)]
      simp only [ridgewaylaw10_PolicyReach.j2]
      rw [if_pos trivial, if_pos (by omega), if_pos (by omega), if_pos (by omega), if_pos (by omega)]
      rw [drop_rd31 l i (by omega), drop_rd31 m j hjm] at hs
      rw [w64 (n := (i : Int) + 1) (by omega) (by omega), w64 (n := (j : Int) + 1) (by omega) (by omega), show ((i : Int) + 1) = ((i + 1 : Nat) : Int) by omega, show ((j : Int) + 1) = ((j + 1 : Nat) : Int) by omega]
      by_cases he : rd_T31 l (i : Int) = rd_T31 m (j : Int)
      · rw [if_pos ((s31_eq _ _).mpr he)]
        rw [he] at hs
        exact ih k (i + 1) (j + 1) (by omega) (by omega) (by omega) (List.cons_sublist_cons.mp hs)
      · rw [if_neg (fun h => he ((s31_eq _ _).mp h))]
        refine ih k (i + 1) j (by omega) (by omega) hj ?_
        rw [drop_rd31 m j hjm]
        rcases List.sublist_cons_iff.mp hs with h | ⟨r, h1, h2⟩
        · exact h
        · injection h1 with h1 _
          exact absurd h1.symm he
    · rw [show decide ((j : Int) < (m.length : Int)) = false from decide_eq_false (by omega)]
      have hj2 : j = m.length := by omega
      subst hj2
      exact fin (k + 1) i (by omega)
theorem PolicyReach : ridgewaylaw10_PolicyReach.Pure := by
  intro l0 x1 _ _
  refine ⟨400, ?_⟩
  unfold ridgewaylaw10_PolicyReach.f
  rw [show ridgewaylaw10_awake.f = some true from rfl]
  simp only [Option.bind_some, ridgewaylaw10_PolicyReach.j0]
  by_cases h : (l0.length : Int) > 30
  · rw [if_pos h, if_pos trivial]
  · rw [if_neg h]
    by_cases h2 : (x1.f1.length : Int) > 100
    · rw [if_pos (decide_eq_true h2)]
    · rw [if_neg (by simpa using h2), reach_eq l0 x1.f2 (by omega)]
      simp only [Option.bind_some]
      have hr := reachL_le x1.f2 l0
      have := sub_loop l0 (reachL x1.f2 l0) x1.f0.f0 x1.f0.f1 x1.f1 x1.f2 (by omega) (by omega) (by omega) (reach_find _ _ _ _ _) l0.length 399 0 0 (by omega) (by omega) (by omega) (reachL_sub _ _)
      exact_mod_cast this
end Go.Proofs.Ytclddmjfgceemaa.Pure
