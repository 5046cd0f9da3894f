/- What prefix and policy come to, in plain words. Conditions: rounds enough (200), at most 100 ASes, at most 1000 rules. -/
import Derived.Test.YtclddmjfgceemaaQx3
import Derived.Test.YtclddmjfgceemaaQx4
import Derived.Test.YtclddmjfgceemaaQx5
import Derived.Test.YtclddmjfgceemaaQx6
import Derived.Test.YtclddmjfgceemaaXPure
namespace Go.Proofs.Ytclddmjfgceemaa.Pure
open Go.RowKit Go.Proofs.Ytclddmjfgceemaa.Q Go.Proofs.YtclddmjfgceemaaW.PrintWords Go.Proofs.YtclddmjfgceemaaW.PrintLast Go.Proofs.YtclddmjfgceemaaW.PrintMore Go.Proofs.YtclddmjfgceemaaW.PrintX
set_option linter.unusedVariables false
set_option linter.unusedSimpArgs false
theorem and_32 (a : Int) : Go.bits .and .i64 a 4294967295 = a % 4294967296 := and_mask a 32 (by omega)
theorem pow_pos2 (n : Nat) : (0 : Int) < 2 ^ n := by exact_mod_cast Nat.two_pow_pos n
theorem mask_some (a n : Int) : ∃ v, prefix_Mask.f a n = some v ∧ 0 ≤ v ∧ v ≤ 4294967295 := by
  refine ⟨_, rfl, ?_⟩
  rw [and_32]
  have hp := pow_pos2 (32 - (mx 0 (mn n 32))).toNat
  generalize (2 : Int) ^ (32 - (mx 0 (mn n 32))).toNat = p at hp ⊢
  have h1 := Int.ediv_mul_le (a % 4294967296) (show p ≠ 0 by omega)
  have h2 : 0 ≤ a % 4294967296 / p * p := Int.mul_nonneg (Int.ediv_nonneg (by omega) (by omega)) (by omega)
  rw [w64 (by omega) (by omega)]
  omega
theorem sane_some (a n : Int) : ∃ b, prefix_Sane.f a n = some b := by
  unfold prefix_Sane.f
  obtain ⟨v, hv, _, _⟩ := mask_some a n
  rw [hv]
  simp only [Option.bind_some]
  (repeat' split) <;> exact ⟨_, rfl⟩
theorem has_some (a n b m : Int) : ∃ r, prefix_Has.f a n b m = some r := by
  unfold prefix_Has.f
  obtain ⟨s, hs⟩ := sane_some a n
  obtain ⟨t, ht⟩ := sane_some b m
  obtain ⟨v, hv, _, _⟩ := mask_some b n
  rw [hs, ht, hv]
  simp only [Option.bind_some]
  (repeat' split) <;> exact ⟨_, rfl⟩
/-- The row from i on. -/
theorem drop_rd (l : List Int) (i : Nat) (h : i < l.length) : l.drop i = rd l (i : Int) :: l.drop (i + 1) := by
  rw [List.drop_eq_getElem_cons h]
  simp [rd, h]
theorem drop_rd31 (l : List S31) (i : Nat) (h : i < l.length) : l.drop i = rd_T31 l (i : Int) :: l.drop (i + 1) := by
  rw [List.drop_eq_getElem_cons h]
  simp [rd_T31, h]
theorem index_loop (l : List Int) (v : Int) (hl : l.length ≤ 1000) : ∀ (d k i : Nat), i + d = l.length → d < k → ∃ r, slices_Index_int_int.l0 k l v (l.length : Int) (i : Int) = some r ∧ decide (r ≥ 0) = decide (v ∈ l.drop i) := by
  intro d
  induction d with
  | zero =>
    intro k i h0 hk
    obtain ⟨k, rfl⟩ : ∃ m, k = m + 1 := ⟨k - 1, by omega⟩
    simp only [slices_Index_int_int.l0]
    rw [if_neg (by omega)]
    refine ⟨-1, rfl, ?_⟩
    rw [List.drop_eq_nil_of_le (by omega)]
    simp
  | succ d ih =>
    intro k i h0 hk
    obtain ⟨k, rfl⟩ : ∃ m, k = m + 1 := ⟨k - 1, by omega⟩
    simp only [slices_Index_int_int.l0]
    rw [if_pos (by omega), if_pos (by omega), if_pos (by omega), drop_rd l i (by omega)]
    by_cases c : v = rd l (i : Int)
    · rw [if_pos c]
      refine ⟨_, rfl, ?_⟩
      simp [c]
    · rw [if_neg c, w64 (n := (i : Int) + 1) (by omega) (by omega)]
      obtain ⟨r, h1, h2⟩ := ih k (i + 1) (by omega) (by omega)
      refine ⟨r, by exact_mod_cast h1, ?_⟩
      rw [h2]
      simp [c]
theorem contains_eq (k : Nat) (l : List Int) (v : Int) (hl : l.length ≤ 1000) (hk : l.length < k) : slices_Contains_int_int.f k l v = some (decide (v ∈ l)) := by
  unfold slices_Contains_int_int.f slices_Index_int_int.f
  obtain ⟨r, h1, h2⟩ := index_loop l v hl l.length k 0 (by omega) hk
  have h1' : slices_Index_int_int.l0 k l v (l.length : Int) 0 = some r := by exact_mod_cast h1
  rw [h1']
  simp only [Option.bind_some]
  rw [h2]
  rfl
/-! ### Rules -/
def fitsB (v0 v1 : Int) (as_ : List Int) (v3 : Int) (x : S31) : Bool :=
  if x.f0 = 0 then true else if x.f0 = 1 then (prefix_Has.f x.f1.f0 x.f1.f1 v0 v1).getD false else if x.f0 = 2 then decide (x.f2 ∈ as_) else if x.f0 = 3 then decide ((as_.length : Int) > x.f2) else if x.f0 = 4 then v3 == x.f2 else false
theorem fits_eq (k : Nat) (x : S31) (v0 v1 : Int) (as_ : List Int) (v3 : Int) (ha : as_.length ≤ 100) (hk : 101 ≤ k) : policy_Fits.f k x.f0 x.f1.f0 x.f1.f1 x.f2 x.f3 x.f4 v0 v1 as_ v3 = some (fitsB v0 v1 as_ v3 x) := by
  unfold policy_Fits.f fitsB policy_kinds_2.f policy_kinds_4.f policy_kinds_6.f policy_kinds_8.f policy_kinds_10.f
  rw [contains_eq k as_ x.f2 (by omega) (by omega)]
  obtain ⟨h, hh⟩ := has_some x.f1.f0 x.f1.f1 v0 v1
  rw [hh]
  simp only [Option.bind_some, Option.getD_some]
  (repeat' split) <;> rfl
def totalB (c : Int) (x : S31) : Bool := x.f0 == 0 || (x.f0 == 4 && x.f2 == c)
theorem total_eq (c : Int) (x : S31) : policy_Total.f x.f0 x.f1.f0 x.f1.f1 x.f2 x.f3 x.f4 c = some (totalB c x) := policy_Reach.q1_f c x
theorem t_some (a0 a1 a2 a3 a4 a5 : Int) : ∃ t, policy_Sane.t a0 a1 a2 a3 a4 a5 = some t := by
  unfold policy_Sane.t policy_kinds_1.f policy_kinds_3.f policy_kinds_5.f policy_kinds_7.f policy_kinds_9.f policy_number.f
  obtain ⟨s, hs⟩ := sane_some a1 a2
  rw [hs]
  simp only [Option.bind_some]
  (repeat' split) <;> exact ⟨_, rfl⟩
/-! ### Lists of rules -/
def tup (x : S31) (b : Bool) : Int × Int × Int × Int × Int × Int × Bool := (x.f0, x.f1.f0, x.f1.f1, x.f2, x.f3, x.f4, b)
def pickT (q : S31 → Bool) (l : List S31) : Int × Int × Int × Int × Int × Int × Bool := match l.find? q with
  | some x => tup x true
  | none => tup z31 false
theorem pick_gen (q : S31 → Bool) : ∀ (s pre : List S31), ((idxM (fun x => some (q x)) s (pre.length : Int)).bind fun i => if i < 0 then some (0, 0, 0, 0, 0, 0, false) else some ((rd_T31 (pre ++ s) i).f0, (rd_T31 (pre ++ s) i).f1.f0, (rd_T31 (pre ++ s) i).f1.f1, (rd_T31 (pre ++ s) i).f2, (rd_T31 (pre ++ s) i).f3, (rd_T31 (pre ++ s) i).f4, true)) = some (pickT q s)
  | [], pre => rfl
  | x :: t, pre => by
    simp only [idxM, Option.bind_some]
    cases hq : q x
    · rw [if_neg (by decide)]
      have ih := pick_gen q t (pre ++ [x])
      rw [List.append_assoc, List.length_append, List.length_singleton] at ih
      rw [show ((pre.length : Int) + 1) = ((pre.length + 1 : Nat) : Int) by omega]
      rw [show pickT q (x :: t) = pickT q t by unfold pickT; rw [List.find?_cons, hq]]
      exact ih
    · rw [if_pos rfl]
      simp only [Option.bind_some]
      rw [if_neg (by omega)]
      have hr : rd_T31 (pre ++ x :: t) (pre.length : Int) = x := by simp [rd_T31]
      rw [hr]
      unfold pickT
      rw [List.find?_cons, hq]
      rfl
theorem pick_eq (k : Nat) (l : List S31) (v0 v1 : Int) (as_ : List Int) (v3 : Int) (ha : as_.length ≤ 100) (hk : 101 ≤ k) (hl : l.length ≤ 1000) : policy_Pick.f k l v0 v1 as_ v3 = some (pickT (fitsB v0 v1 as_ v3) l) := by
  unfold policy_Pick.f
  rw [if_pos (by omega)]
  have hp : policy_Pick.p k v0 v1 as_ v3 = fun x => some (fitsB v0 v1 as_ v3 x) := funext fun x => fits_eq k x v0 v1 as_ v3 ha hk
  rw [hp]
  exact pick_gen (fitsB v0 v1 as_ v3) l []
def keepB (c : Int) (x : S31) : Bool := !policy_Reach.q2 c x
def reachL (c : Int) : List S31 → List S31
  | [] => []
  | x :: t => (if keepB c x = true then [x] else []) ++ (if totalB c x = true then [] else reachL c t)
theorem cut_gen (c : Int) : ∀ (l : List S31) (i : Int), 0 ≤ i → ∃ r, idxM (fun x => some (policy_Reach.q1 c x)) l i = some r ∧ ((r = -1 ∧ l.filter (keepB c) = reachL c l) ∨ ∃ n : Nat, r = i + n ∧ (l.take (n + 1)).filter (keepB c) = reachL c l)
  | [], i, h => ⟨-1, rfl, .inl ⟨rfl, rfl⟩⟩
  | x :: t, i, h => by
    simp only [idxM, Option.bind_some]
    have e : policy_Reach.q1 c x = totalB c x := rfl
    cases hq : totalB c x
    · rw [e, hq, if_neg (by decide)]
      obtain ⟨r, h1, h2⟩ := cut_gen c t (i + 1) (by omega)
      refine ⟨r, h1, ?_⟩
      simp only [reachL, hq]
      rcases h2 with ⟨h2, h3⟩ | ⟨n, h2, h3⟩
      · refine .inl ⟨h2, ?_⟩
        rw [List.filter_cons, h3]
        cases keepB c x <;> simp
      · refine .inr ⟨n + 1, by omega, ?_⟩
        rw [List.take_succ_cons, List.filter_cons, h3]
        cases keepB c x <;> simp
    · rw [e, hq, if_pos rfl]
      refine ⟨i, rfl, .inr ⟨0, by omega, ?_⟩⟩
      simp only [reachL, hq]
      cases hk : keepB c x <;> simp [hk]
theorem reach_eq (l : List S31) (c : Int) (hl : l.length ≤ 1000) : policy_Reach.f l c = some (reachL c l) := by
  unfold policy_Reach.f
  rw [if_pos (by omega)]
  congr 1
  obtain ⟨r, h1, h2⟩ := cut_gen c l 0 (by omega)
  unfold policy_Reach.cut
  rw [h1]
  show List.filter (keepB c) (if 0 ≤ r then l.take (r + 1).toNat else l) = _
  rcases h2 with ⟨h2, h3⟩ | ⟨n, h2, h3⟩
  · rw [if_neg (by omega), h3]
  · rw [if_pos (by omega), show (r + 1).toNat = n + 1 by omega, h3]
theorem reachL_le (c : Int) : ∀ l : List S31, (reachL c l).length ≤ l.length
  | [] => Nat.le_refl _
  | x :: t => by
    have := reachL_le c t
    simp only [reachL, List.length_append, List.length_cons]
    cases keepB c x <;> cases totalB c x <;> simp <;> omega
theorem saneP (a0 a1 a2 a3 a4 a5 : Int) (i : Bool) : ∃ b, policy_Sane.f a0 a1 a2 a3 a4 a5 i = some b := by
  obtain ⟨t, ht⟩ := t_some a0 a1 a2 a3 a4 a5
  unfold policy_Sane.f
  rw [ht]
  exact ⟨_, rfl⟩
end Go.Proofs.Ytclddmjfgceemaa.Pure
