/- What the document's answer comes to: the same. Conditions: rounds enough (200), at most 100 ASes, at most 1000 rules. -/
import Derived.Test.YtclddmjfgceemaaXPolicy
import Derived.Test.YtclddmjfgceemaaQx10
import Derived.Test.YtclddmjfgceemaaQx11
import Derived.Test.YtclddmjfgceemaaQx12
import Derived.Test.YtclddmjfgceemaaQx13
import Derived.Test.YtclddmjfgceemaaQx9
namespace Go.Proofs.Ytclddmjfgceemaa.Pure
open Go.RowKit Go.Proofs.Ytclddmjfgceemaa.Q Go.Proofs.YtclddmjfgceemaaW.PrintWords Go.Proofs.YtclddmjfgceemaaW.PrintLast Go.Proofs.YtclddmjfgceemaaW.PrintMore Go.Proofs.YtclddmjfgceemaaW.PrintX
set_option linter.unusedVariables false
set_option linter.unusedSimpArgs false
theorem size_loop : ∀ (d k : Nat) (s i : Int), i + d = 32 → 0 ≤ i → d < k → 1 ≤ s → s * 2 ^ d ≤ 4294967296 → ridgewayref02_size.l0 k s i = some (s * 2 ^ d) := by
  intro d
  induction d with
  | zero =>
    intro k s i h0 hi hk hs hb
    obtain ⟨k, rfl⟩ : ∃ m, k = m + 1 := ⟨k - 1, by omega⟩
    simp only [ridgewayref02_size.l0]
    rw [if_neg (by omega)]
    simp
  | succ d ih =>
    intro k s i h0 hi hk hs hb
    obtain ⟨k, rfl⟩ : ∃ m, k = m + 1 := ⟨k - 1, by omega⟩
    have e : s * 2 ^ (d + 1) = s * 2 * 2 ^ d := by rw [Int.pow_succ, Int.mul_comm (2 ^ d) 2, Int.mul_assoc]
    have hp : (1 : Int) ≤ 2 ^ d := by
      have := Nat.one_le_two_pow (n := d)
      exact_mod_cast this
    have h1 : s * 2 * 1 ≤ s * 2 * 2 ^ d := Int.mul_le_mul_of_nonneg_left hp (by omega)
    rw [e] at hb
    simp only [ridgewayref02_size.l0]
    rw [if_pos (by omega), w64 (n := s * 2) (by omega) (by omega), w64 (n := i + 1) (by omega) (by omega), ih k (s * 2) (i + 1) (by omega) (by omega) (by omega) (by omega) hb, e]
theorem size_eq (k : Nat) (a : Int) (hk : 40 ≤ k) : ridgewayref02_size.f k a = some (2 ^ (32 - (mx 0 (mn a 32))).toNat) := by
  unfold ridgewayref02_size.f
  rw [mx_eq, mx_eq, mn_eq]
  by_cases h : a > 32
  · obtain ⟨k, rfl⟩ : ∃ m, k = m + 1 := ⟨k - 1, by omega⟩
    simp only [ridgewayref02_size.l0]
    rw [if_neg (by omega)]
    rw [show (32 - max 0 (min a 32)).toNat = 0 by omega]
    rfl
  · have h2 : (2 : Int) ^ (32 - max 0 (min a 32)).toNat ≤ 2 ^ 32 := by
      have := Nat.pow_le_pow_right (n := 2) (by decide) (show (32 - max 0 (min a 32)).toNat ≤ 32 by omega)
      exact_mod_cast this
    rw [size_loop (32 - max 0 (min a 32)).toNat k 1 (max a 0) (by omega) (by omega) (by omega) (by omega) (by rw [Int.one_mul]; exact h2), Int.one_mul]
theorem mask_eq (k : Nat) (a n : Int) (hk : 40 ≤ k) : ridgewayref02_Mask.f k a n = prefix_Mask.f a n := by
  unfold ridgewayref02_Mask.f prefix_Mask.f
  rw [size_eq k n hk, and_32]
  simp only [Option.bind_some]
  have hp := pow_pos2 (32 - (mx 0 (mn n 32))).toNat
  generalize (2 : Int) ^ (32 - (mx 0 (mn n 32))).toNat = p at hp ⊢
  rw [if_neg (by omega), Int.tmod_eq_emod_of_nonneg (by omega)]
  congr 2
  have := Int.mul_ediv_add_emod (a % 4294967296) p
  rw [Int.mul_comm] at this
  omega
theorem sane_eq (k : Nat) (a n : Int) (hk : 40 ≤ k) : ridgewayref02_Sane.f k a n = prefix_Sane.f a n := by
  unfold ridgewayref02_Sane.f prefix_Sane.f
  rw [mask_eq k a n hk]
  obtain ⟨v, hv, h0, h1⟩ := mask_some a n
  rw [hv]
  simp only [Option.bind_some]
  by_cases c0 : n ≥ 0
  · by_cases c1 : n ≤ 32
    · rw [if_pos c0, if_pos c1, if_pos c0, if_pos c1]
      by_cases c2 : a ≥ 0
      · by_cases c3 : a ≤ 4294967295
        · rw [if_pos c2, if_pos c3, Bool.beq_comm]
        · rw [if_pos c2, if_neg c3]
          congr 1
          symm
          rw [beq_eq_false_iff_ne]
          omega
      · rw [if_neg c2]
        congr 1
        symm
        rw [beq_eq_false_iff_ne]
        omega
    · rw [if_pos c0, if_neg c1, if_pos c0, if_neg c1]
  · rw [if_neg c0, if_neg c0]
theorem has_eq (k : Nat) (a n b m : Int) (hk : 40 ≤ k) : ridgewayref02_Has.f k a n b m = prefix_Has.f a n b m := by
  unfold ridgewayref02_Has.f prefix_Has.f
  rw [sane_eq k a n hk, sane_eq k b m hk, mask_eq k b n hk]
theorem has_loop (l : List Int) (v : Int) (hl : l.length ≤ 1000) : ∀ (d k i : Nat), i + d = l.length → d < k → ridgewayref10_has.l0 k l v (i : Int) = some (decide (v ∈ l.drop i)) := by
  intro d
  induction d with
  | zero =>
    intro k i h0 hk
    obtain ⟨k, rfl⟩ : ∃ m, k = m + 1 := ⟨k - 1, by omega⟩
    simp only [ridgewayref10_has.l0]
    rw [if_neg (by omega), List.drop_eq_nil_of_le (by omega)]
    simp
  | succ d ih =>
    intro k i h0 hk
    obtain ⟨k, rfl⟩ : ∃ m, k = m + 1 := ⟨k - 1, by omega⟩
    simp only [ridgewayref10_has.l0]
    rw [if_pos (by omega), if_pos (by omega), drop_rd l i (by omega)]
    by_cases c : rd l (i : Int) = v
    · rw [if_pos c]
      simp [c]
    · rw [if_neg c, w64 (n := (i : Int) + 1) (by omega) (by omega)]
      have h1 := ih k (i + 1) (by omega) (by omega)
      rw [show ((i : Int) + 1) = ((i + 1 : Nat) : Int) by omega, h1]
      have c' : ¬ v = rd l (i : Int) := fun h => c h.symm
      simp [c']
theorem fits_ref (k : Nat) (x : S31) (v0 v1 : Int) (as_ : List Int) (v3 : Int) (ha : as_.length ≤ 100) (hk : 101 ≤ k) : ridgewayref10_Fits.f k x.f0 x.f1.f0 x.f1.f1 x.f2 x.f3 x.f4 v0 v1 as_ v3 = some (fitsB v0 v1 as_ v3 x) := by
  unfold ridgewayref10_Fits.f fitsB ridgewayref10_has.f
  have hl := has_loop as_ x.f2 (by omega) as_.length k 0 (by omega) (by omega)
  have hl' : ridgewayref10_has.l0 k as_ x.f2 0 = some (decide (x.f2 ∈ as_)) := by exact_mod_cast hl
  rw [hl', has_eq k _ _ _ _ (by omega)]
  obtain ⟨h, hh⟩ := has_some x.f1.f0 x.f1.f1 v0 v1
  rw [hh]
  simp only [Option.bind_some, Option.getD_some]
  (repeat' split) <;> rfl
theorem total_ref (c : Int) (x : S31) : ridgewayref10_Total.f x.f0 x.f1.f0 x.f1.f1 x.f2 x.f3 x.f4 c = some (totalB c x) := policy_Reach.q1_f c x
theorem match_eq (k : Nat) (a0 a1 a2 a3 a4 a5 : Int) (hk : 40 ≤ k) : ridgewayref10_match.f k a0 a1 a2 a3 a4 a5 = policy_Sane.t a0 a1 a2 a3 a4 a5 := by
  unfold ridgewayref10_match.f policy_Sane.t policy_kinds_1.f policy_kinds_3.f policy_kinds_5.f policy_kinds_7.f policy_kinds_9.f policy_number.f
  rw [sane_eq k a1 a2 hk]
  obtain ⟨s, hs⟩ := sane_some a1 a2
  rw [hs]
  by_cases c0 : a0 = 0
  · rw [if_pos c0, if_pos c0]
    by_cases c : (a1 == 0 && a2 == 0) = true
    · rw [if_pos c, if_pos c]
      by_cases h : a3 ≥ 0
      · rw [if_pos h]
        simp only [Option.bind_some]
        congr 1
        rw [Bool.eq_iff_iff]
        simp
        omega
      · rw [if_neg h]
        simp only [Option.bind_some]
        congr 1
        rw [beq_eq_false_iff_ne]
        omega
    · rw [if_neg c, if_neg c]
      rfl
  · rw [if_neg c0, if_neg c0]
    simp only [Option.bind_some]
    (repeat' split) <;> rfl
theorem sane10 (k : Nat) (a0 a1 a2 a3 a4 a5 : Int) (i : Bool) (hk : 41 ≤ k) : ∃ b, policy_Sane.f a0 a1 a2 a3 a4 a5 i = some b ∧ ridgewayref10_Sane.f k a0 a1 a2 a3 a4 a5 i = some b := by
  obtain ⟨k, rfl⟩ : ∃ m, k = m + 1 := ⟨k - 1, by omega⟩
  unfold policy_Sane.f ridgewayref10_Sane.f
  rw [match_eq (k + 1) a0 a1 a2 a3 a4 a5 (by omega)]
  obtain ⟨t, ht⟩ := t_some a0 a1 a2 a3 a4 a5
  rw [ht]
  simp only [Option.bind_some, ridgewayref10_Sane.j0]
  refine ⟨_, rfl, ?_⟩
  unfold saneG
  cases t <;> cases i <;> simp
  · (repeat' split) <;> simp_all <;> omega
  · by_cases h4 : a0 = 4
    · simp [h4]
    · have h4' : (a0 == 4) = false := by simp [h4]
      simp only [h4, h4', Bool.not_false, Bool.true_and, if_false]
      by_cases c0 : a4 = 0
      · simp [c0]
      · by_cases c1 : a4 = 1
        · simp [c1]
        · by_cases c2 : a4 = 2
          · by_cases c3 : 1 ≤ a5
            · simp [c2, c3]
              rw [Bool.eq_iff_iff]
              simp
              omega
            · simp [c2, c3]
              omega
          · simp [c0, c1, c2]
theorem pick_loop (l : List S31) (v0 v1 : Int) (as_ : List Int) (v3 : Int) (ha : as_.length ≤ 100) (hl : l.length ≤ 1000) : ∀ (d k i : Nat), i + d = l.length → d + 101 < k → ridgewayref10_Pick.l0 k l (i : Int) v0 v1 as_ v3 = some (pickT (fitsB v0 v1 as_ v3) (l.drop i)) := by
  intro d
  induction d with
  | zero =>
    intro k i h0 hk
    obtain ⟨k, rfl⟩ : ∃ m, k = m + 1 := ⟨k - 1, by omega⟩
    simp only [ridgewayref10_Pick.l0]
    rw [if_neg (by omega), List.drop_eq_nil_of_le (by omega)]
    rfl
  | succ d ih =>
    intro k i h0 hk
    obtain ⟨k, rfl⟩ : ∃ m, k = m + 1 := ⟨k - 1, by omega⟩
    simp only [ridgewayref10_Pick.l0]
    rw [if_pos (by omega), if_pos (by omega), fits_ref k _ v0 v1 as_ v3 ha (by omega), drop_rd31 l i (by omega)]
    simp only [Option.bind_some]
    unfold pickT
    cases hq : fitsB v0 v1 as_ v3 (rd_T31 l (i : Int))
    · rw [if_neg (by decide), w64 (n := (i : Int) + 1) (by omega) (by omega), show ((i : Int) + 1) = ((i + 1 : Nat) : Int) by omega, ih k (i + 1) (by omega) (by omega), List.find?_cons, hq]
      rfl
    · rw [if_pos rfl, List.find?_cons, hq]
      rfl
theorem pick_ref (k : Nat) (l : List S31) (v0 v1 : Int) (as_ : List Int) (v3 : Int) (ha : as_.length ≤ 100) (hl : l.length ≤ 1000) (hk : l.length + 102 ≤ k) : ridgewayref10_Pick.f k l v0 v1 as_ v3 = some (pickT (fitsB v0 v1 as_ v3) l) := by
  unfold ridgewayref10_Pick.f
  have h := pick_loop l v0 v1 as_ v3 ha hl l.length k 0 (by omega) (by omega)
  exact_mod_cast h
theorem reach_loop (l : List S31) (c : Int) (hl : l.length ≤ 1000) : ∀ (d k i : Nat) (out : List S31), i + d = l.length → 2 * d < k → out.length ≤ i → ridgewayref10_Reach.l0 k l c out (i : Int) = some (out ++ reachL c (l.drop i)) := by
  intro d
  induction d with
  | zero =>
    intro k i out h0 hk ho
    obtain ⟨k, rfl⟩ : ∃ m, k = m + 1 := ⟨k - 1, by omega⟩
    simp only [ridgewayref10_Reach.l0]
    rw [if_neg (by omega), List.drop_eq_nil_of_le (by omega)]
    simp [reachL]
  | succ d ih =>
    intro k i out h0 hk ho
    obtain ⟨k, rfl⟩ : ∃ m, k = m + 2 := ⟨k - 2, by omega⟩
    have hkeep : ridgewayref10_Reach.l0 (k + 2) l c out (i : Int) = ridgewayref10_Reach.j1 (k + 1) l c out (i : Int) (keepB c (rd_T31 l (i : Int))) := by
      rw [ridgewayref10_Reach.l0]
      rw [if_pos (by omega), if_pos (by omega)]
      unfold keepB policy_Reach.q2
      by_cases h4 : (rd_T31 l (i : Int)).f0 = 4
      · rw [if_pos h4]
        simp [h4, bne]
      · rw [if_neg h4]
        have h4' : ((rd_T31 l (i : Int)).f0 == 4) = false := by simp [h4]
        rw [h4']
        rfl
    rw [hkeep, drop_rd31 l i (by omega)]
    simp only [ridgewayref10_Reach.j1, reachL]
    generalize hx : rd_T31 l (i : Int) = x
    have hs : (⟨x.f0, ⟨x.f1.f0, x.f1.f1⟩, x.f2, x.f3, x.f4⟩ : S31) = x := rfl
    rw [total_ref c x]
    simp only [Option.bind_some]
    rw [w64 (n := (i : Int) + 1) (by omega) (by omega), show ((i : Int) + 1) = ((i + 1 : Nat) : Int) by omega]
    cases hk1 : keepB c x
    · rw [if_neg (by decide), if_pos (by omega), if_pos (by omega)]
      cases ht : totalB c x
      · rw [if_neg (by decide), ih k (i + 1) out (by omega) (by omega) (by omega)]
        simp
      · rw [if_pos rfl]
        simp
    · rw [if_pos rfl, if_pos (by omega), if_pos (by omega), if_pos (by omega)]
      cases ht : totalB c x
      · rw [if_neg (by decide), ih k (i + 1) _ (by omega) (by omega) (by rw [List.length_append, List.length_singleton]; omega)]
        simp
      · rw [if_pos rfl]
        simp
theorem reach_ref (k : Nat) (l : List S31) (c : Int) (hl : l.length ≤ 1000) (hk : 2 * l.length + 1 ≤ k) : ridgewayref10_Reach.f k l c = some (reachL c l) := by
  unfold ridgewayref10_Reach.f
  have h := reach_loop l c hl l.length k 0 [] (by omega) (by omega) (by simp)
  exact_mod_cast h
theorem same_loop (l : List S31) (hl : l.length ≤ 1000) : ∀ (d k i : Nat), i + d = l.length → d < k → ridgewayref10_Same.l0 k l l (i : Int) = some true := by
  intro d
  induction d with
  | zero =>
    intro k i h0 hk
    obtain ⟨k, rfl⟩ : ∃ m, k = m + 1 := ⟨k - 1, by omega⟩
    simp only [ridgewayref10_Same.l0]
    rw [if_neg (by omega)]
  | succ d ih =>
    intro k i h0 hk
    obtain ⟨k, rfl⟩ : ∃ m, k = m + 1 := ⟨k - 1, by omega⟩
    simp only [ridgewayref10_Same.l0]
    rw [if_pos (by omega), if_pos (by omega), if_pos (by omega), if_neg (by simp), w64 (n := (i : Int) + 1) (by omega) (by omega), show ((i : Int) + 1) = ((i + 1 : Nat) : Int) by omega]
    exact ih k (i + 1) (by omega) (by omega)
theorem same_eq (k : Nat) (l : List S31) (hl : l.length ≤ 1000) (hk : l.length < k) : ridgewayref10_Same.f k l l = some true := by
  unfold ridgewayref10_Same.f
  rw [if_pos rfl]
  have h := same_loop l hl l.length k 0 (by omega) hk
  exact_mod_cast h
end Go.Proofs.Ytclddmjfgceemaa.Pure
