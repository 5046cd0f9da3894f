/- RolePairs: who goes together, of any two roles, either way round; no conditions. -/
import Derived.Test.YtjifgkimcepakaaDoorXRole13
import Derived.Test.YtjifgkimcepakaaDoorQx5
namespace Go.Proofs.YtjifgkimcepakaaDoor.Pure
open Go.RowKit Go.Proofs.YtjifgkimcepakaaDoor.Q Go.Proofs.YtjifgkimcepakaaDoorW.PrintWords Go.Proofs.YtjifgkimcepakaaDoorW.PrintLast Go.Proofs.YtjifgkimcepakaaDoorW.PrintMore Go.Proofs.YtjifgkimcepakaaDoorW.PrintX
set_option linter.unusedVariables false
set_option linter.unusedSimpArgs false
def cntS (a : Int) : Int := if 0 ≤ a ∧ a ≤ 4 then 1 else 0
theorem pairs_loop (a b rel tx : Int) (n : Int) (k : Nat) (hn : 0 ≤ n) (hn1 : n ≤ 100) : ∀ (d : Nat) (c n : Int), -2 ≤ c → c + d = 8 → 0 ≤ n → n ≤ 20 - d →
    ridgewaylaw13_RolePairs.l0 (k + 1 + d) a b rel tx true n c = ridgewaylaw13_RolePairs.l0 (k + 1) a b rel tx true (n + ((List.range d).filter fun j : Nat => pairsS a (c + (j : Int))).length) 8 := by
  intro d
  induction d with
  | zero =>
    intro c n h0 h1 h2 h3
    have : c = 8 := by omega
    subst this
    simp
  | succ d ih =>
    intro c n h0 h1 h2 h3
    rw [show k + 1 + (d + 1) = (k + 1 + d) + 1 by omega]
    conv => lhs; unfold ridgewaylaw13_RolePairs.l0
    rw [if_pos (by omega), role_pairs]
    simp only [Option.bind_some]
    rw [w64 (n := c + 1) (by omega) (by omega), w64 (n := n + 1) (by omega) (by omega)]
    have e : ((List.range (d + 1)).filter fun j : Nat => pairsS a (c + (j : Int))).length = (if pairsS a c = true then 1 else 0) + ((List.range d).filter fun j : Nat => pairsS a (c + 1 + (j : Int))).length := by
      rw [List.range_succ_eq_map, List.filter_cons, List.filter_map]
      have e2 : ((fun j : Nat => pairsS a (c + j)) ∘ Nat.succ) = fun j : Nat => pairsS a (c + 1 + j) := by
        funext j
        simp only [Function.comp]
        congr 1
        push_cast
        omega
      by_cases hp : pairsS a c = true
      · rw [if_pos hp]
        have h3 : pairsS a (c + (0 : Nat)) = true := by simpa using hp
        rw [if_pos h3, List.length_cons, List.length_map, e2]
        omega
      · rw [if_neg hp]
        have h3 : ¬ pairsS a (c + (0 : Nat)) = true := by simpa using hp
        rw [if_neg h3, List.length_map, e2]
        omega
    rw [e]
    by_cases hp : pairsS a c = true
    · rw [if_pos hp, if_pos hp, ih (c + 1) (n + 1) (by omega) (by push_cast at h1; omega) (by omega) (by push_cast at h3; omega)]
      congr 1
      push_cast
      omega
    · rw [if_neg hp, if_neg hp, ih (c + 1) n (by omega) (by push_cast at h1; omega) (by omega) (by push_cast at h3; omega)]
      congr 1
      push_cast
      omega
theorem pairs_count (a : Int) : ((((List.range 10).filter fun j : Nat => pairsS a (-2 + (j : Int))).length : Nat) : Int) = cntS a := by
  by_cases h : 0 ≤ a ∧ a ≤ 4
  · have : a = 0 ∨ a = 1 ∨ a = 2 ∨ a = 3 ∨ a = 4 := by omega
    rcases this with rfl | rfl | rfl | rfl | rfl <;> decide
  · unfold cntS
    rw [if_neg h]
    have : ∀ j : Nat, pairsS a (-2 + j) = false := by
      intro j
      unfold pairsS
      rw [decide_eq_false_iff_not]
      omega
    rw [List.filter_eq_nil_iff.2 (by intro j _; simp [this j])]
    rfl
theorem pairs_sym (a b : Int) : pairsS a b = pairsS b a := by
  unfold pairsS
  rw [Bool.eq_iff_iff]
  simp only [decide_eq_true_eq]
  omega
theorem pairs_in (a b : Int) (h : pairsS a b = true) : 0 ≤ b ∧ b ≤ 4 := by
  unfold pairsS at h
  simp only [decide_eq_true_eq] at h
  omega
theorem pairs_mine (rel tx : Int) : pairsS (mineS rel) (mineS tx) = decide (rel ≥ 1 ∧ rel ≤ 3 ∧ tx ≥ 1 ∧ tx ≤ 3 ∧ rel + tx = 4) := by
  unfold pairsS mineS
  rw [Bool.eq_iff_iff]
  simp only [decide_eq_true_eq]
  (repeat' split) <;> omega
theorem pairs_end (rel tx : Int) (k : Nat) : ridgewaylaw13_RolePairs.j3 (k + 1) rel tx true false = some true := by
  simp only [ridgewaylaw13_RolePairs.j3]
  rw [if_neg (by decide)]
  simp only [role_mine, role_pairs, Option.bind_some, pairs_mine, if_true]
  by_cases h1 : rel ≥ 1
  · rw [if_pos h1]
    by_cases h3 : rel ≤ 3
    · rw [if_pos h3]
      by_cases g1 : tx ≥ 1
      · rw [if_pos g1]
        by_cases g3 : tx ≤ 3
        · rw [if_pos g3, w64 (by omega) (by omega)]
          congr 1
          rw [beq_iff_eq, Bool.eq_iff_iff]
          simp only [decide_eq_true_eq, beq_iff_eq]
          omega
        · rw [if_neg g3]
          congr 1
          rw [beq_iff_eq]
          exact decide_eq_false (by omega)
      · rw [if_neg g1]
        congr 1
        rw [beq_iff_eq]
        exact decide_eq_false (by omega)
    · rw [if_neg h3]
      congr 1
      rw [beq_iff_eq]
      exact decide_eq_false (by omega)
  · rw [if_neg h1]
    congr 1
    rw [beq_iff_eq]
    exact decide_eq_false (by omega)
theorem RolePairs : ridgewaylaw13_RolePairs.Pure := by
  intro a b rel tx _ _ _ _
  refine ⟨4 + 10, ?_⟩
  unfold ridgewaylaw13_RolePairs.f
  rw [awake13 14 (by omega)]
  simp only [Option.bind_some]
  rw [show 4 + 10 = 3 + 1 + 10 by rfl, pairs_loop a b rel tx 0 3 (by omega) (by omega) 10 (-2) 0 (by omega) (by omega) (by omega) (by omega), pairs_count, Int.zero_add]
  unfold ridgewaylaw13_RolePairs.l0
  rw [if_neg (by omega)]
  have j2 : ∀ k, ridgewaylaw13_RolePairs.j2 (k + 2) a b rel tx true (cntS a) (cntS a) = some true := by
    intro k
    simp only [ridgewaylaw13_RolePairs.j2, role_pairs, Option.bind_some]
    rw [pairs_sym b a, bne_self_eq_false, if_neg (by decide), if_pos trivial]
    by_cases hp : pairsS a b = true
    · have hb := pairs_in a b hp
      rw [if_pos hp, if_neg (by omega), decide_eq_false (by omega)]
      exact pairs_end rel tx k
    · rw [if_neg hp]
      exact pairs_end rel tx k
  by_cases h0 : a ≥ 0
  · rw [if_pos h0]
    by_cases h4 : a ≤ 4
    · rw [decide_eq_true h4]
      simp only [ridgewaylaw13_RolePairs.j1]
      rw [if_pos trivial]
      have := j2 0
      rwa [show cntS a = 1 from if_pos ⟨h0, h4⟩] at this ⊢
    · rw [decide_eq_false h4]
      simp only [ridgewaylaw13_RolePairs.j1]
      rw [if_neg (by decide)]
      have := j2 0
      rwa [show cntS a = 0 from if_neg (by omega)] at this ⊢
  · rw [if_neg h0]
    simp only [ridgewaylaw13_RolePairs.j1]
    rw [if_neg (by decide)]
    have := j2 0
    rwa [show cntS a = 0 from if_neg (by omega)] at this ⊢
end Go.Proofs.YtjifgkimcepakaaDoor.Pure
