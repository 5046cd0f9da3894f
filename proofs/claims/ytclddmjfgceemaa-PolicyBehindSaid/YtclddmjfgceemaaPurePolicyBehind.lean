/- PolicyBehind: what stands behind a total rule is never picked; no conditions. -/
import Derived.Test.YtclddmjfgceemaaXPolicy
import Derived.Test.YtclddmjfgceemaaQx18
namespace Go.Proofs.Ytclddmjfgceemaa.Pure
open Go.RowKit Go.Proofs.Ytclddmjfgceemaa.Q Go.Proofs.YtclddmjfgceemaaW.PrintWords Go.Proofs.YtclddmjfgceemaaW.PrintLast Go.Proofs.YtclddmjfgceemaaW.PrintMore Go.Proofs.YtclddmjfgceemaaW.PrintX
set_option linter.unusedVariables false
set_option linter.unusedSimpArgs false
theorem total_fits3 (v0 v1 : Int) (as_ : List Int) (v3 : Int) (x : S31) (h : totalB v3 x = true) : fitsB v0 v1 as_ v3 x = true := by
  unfold totalB at h
  unfold fitsB
  by_cases h0 : x.f0 = 0
  · rw [if_pos h0]
  · by_cases h4 : x.f0 = 4
    · simp [h4] at h
      simp [h4, h]
    · simp [h0, h4] at h
theorem reach_behind (c : Int) (more : List S31) (y : S31) (hy : totalB c y = true) : ∀ l : List S31, reachL c ((l ++ [y]) ++ more) = reachL c (l ++ [y])
  | [] => by simp [reachL, hy]
  | x :: t => by
    have ih := reach_behind c more y hy t
    simp only [List.cons_append, reachL]
    rw [ih]
theorem find_some (q : S31 → Bool) (l : List S31) (y : S31) (hy : q y = true) : ∃ x, (l ++ [y]).find? q = some x := by
  cases h : (l ++ [y]).find? q with
  | some x => exact ⟨x, rfl⟩
  | none =>
    have := List.find?_eq_none.mp h y (by simp)
    exact absurd hy this
theorem behind_j1 (k : Nat) (l2 a : List S31) (v0 v1 : Int) (as_ : List Int) (v3 : Int) (x : S31) (ha : as_.length ≤ 100) (hk : 150 ≤ k) (hl : a.length ≤ 100) (hf : a.find? (fitsB v0 v1 as_ v3) = some x) :
    ridgewaylaw10_PolicyBehind.j1 k l2 true a false v0 v1 as_ v3 x.f0 x.f1.f0 x.f1.f1 x.f2 x.f3 x.f4 = some true := by
  obtain ⟨k, rfl⟩ : ∃ m, k = m + 1 := ⟨k - 1, by omega⟩
  simp only [ridgewaylaw10_PolicyBehind.j1]
  rw [if_neg (by decide)]
  cases l2 with
  | nil => simp
  | cons z t =>
    rw [if_neg (by first | (simp; done) | (simp; omega)), if_pos (by first | (simp; done) | (simp; omega)), fits_eq k _ v0 v1 as_ v3 ha (by omega)]
    simp only [Option.bind_some]
    have hz : rd_T31 (z :: t) 0 = z := rfl
    rw [hz]
    cases hq : fitsB v0 v1 as_ v3 z
    · rw [if_neg (by decide), if_pos (by first | (simp; done) | (simp; omega)), pick_eq k _ v0 v1 as_ v3 ha (by omega) (by first | (simp; done) | (simp; omega))]
      simp only [Option.bind_some]
      have hp : pickT (fitsB v0 v1 as_ v3) ([(⟨z.f0, ⟨z.f1.f0, z.f1.f1⟩, z.f2, z.f3, z.f4⟩ : S31)] ++ a) = tup x true := by
        unfold pickT
        rw [show ([(⟨z.f0, ⟨z.f1.f0, z.f1.f1⟩, z.f2, z.f3, z.f4⟩ : S31)] ++ a) = z :: a from rfl, List.find?_cons, hq]
        simp only []
        rw [hf]
      rw [hp]
      simp [tup]
    · rw [if_pos rfl]
theorem PolicyBehind : ridgewaylaw10_PolicyBehind.Pure := by
  intro l0 y l2 x3 _ _ _ _
  refine ⟨400, ?_⟩
  unfold ridgewaylaw10_PolicyBehind.f
  rw [show ridgewaylaw10_awake.f = some true from rfl]
  simp only [Option.bind_some]
  have hup : ∀ k x0 x2 a0 a1 a2 a3 a4 a5 v0 v1 as_ v3, ridgewaylaw10_PolicyBehind.j0 (k + 1) x0 x2 true true a0 a1 a2 a3 a4 a5 v0 v1 as_ v3 = some true := fun _ _ _ _ _ _ _ _ _ _ _ _ _ => by simp only [ridgewaylaw10_PolicyBehind.j0]; rw [if_pos trivial]
  by_cases h : (l0.length : Int) > 20
  · rw [if_pos h]
    exact hup 399 _ _ _ _ _ _ _ _ _ _ _ _
  rw [if_neg h]
  by_cases h1 : (l2.length : Int) > 20
  · rw [if_pos h1]
    exact hup 399 _ _ _ _ _ _ _ _ _ _ _ _
  rw [if_neg h1]
  by_cases h2 : (x3.f1.length : Int) > 100
  · rw [if_pos h2]
    exact hup 399 _ _ _ _ _ _ _ _ _ _ _ _
  rw [if_neg h2, total_eq x3.f2 y]
  simp only [Option.bind_some]
  cases ht : totalB x3.f2 y
  · exact hup 399 _ _ _ _ _ _ _ _ _ _ _ _
  · have hq := total_fits3 x3.f0.f0 x3.f0.f1 x3.f1 x3.f2 y ht
    obtain ⟨x, hx⟩ := find_some (fitsB x3.f0.f0 x3.f0.f1 x3.f1 x3.f2) l0 y hq
    have hx2 : ((l0 ++ [y]) ++ l2).find? (fitsB x3.f0.f0 x3.f0.f1 x3.f1 x3.f2) = some x := by rw [List.find?_append, hx]; rfl
    have hr := reach_behind x3.f2 l2 y ht l0
    have hy : (⟨y.f0, ⟨y.f1.f0, y.f1.f1⟩, y.f2, y.f3, y.f4⟩ : S31) = y := rfl
    simp only [ridgewaylaw10_PolicyBehind.j0, Bool.not_true]
    rw [if_neg (by decide), hy]
    simp only [List.nil_append, List.length_nil, Nat.zero_add, List.length_append, List.length_singleton, Option.bind_some]
    rw [if_pos (by omega), if_pos (by omega), if_pos (by omega), if_pos (by omega), pick_eq 399 (l0 ++ [y]) _ _ _ _ (by omega) (by omega) (by first | (simp; done) | (simp; omega)), pick_eq 399 ((l0 ++ [y]) ++ l2) _ _ _ _ (by omega) (by omega) (by first | (simp; done) | (simp; omega))]
    simp only [Option.bind_some]
    have e1 : pickT (fitsB x3.f0.f0 x3.f0.f1 x3.f1 x3.f2) (l0 ++ [y]) = tup x true := by unfold pickT; rw [hx]
    have e2 : pickT (fitsB x3.f0.f0 x3.f0.f1 x3.f1 x3.f2) ((l0 ++ [y]) ++ l2) = tup x true := by unfold pickT; rw [hx2]
    rw [e1, e2]
    simp only [tup, beq_self_eq_true, Bool.not_true, Bool.or_self]
    rw [if_pos trivial, if_pos trivial, if_neg (by decide), reach_eq _ _ (by first | (simp; done) | (simp; omega)), reach_eq _ _ (by first | (simp; done) | (simp; omega))]
    simp only [Option.bind_some]
    rw [hr]
    simp only [bne_self_eq_false]
    exact behind_j1 399 l2 (l0 ++ [y]) _ _ _ _ x (by omega) (by omega) (by first | (simp; done) | (simp; omega)) hx
end Go.Proofs.Ytclddmjfgceemaa.Pure
