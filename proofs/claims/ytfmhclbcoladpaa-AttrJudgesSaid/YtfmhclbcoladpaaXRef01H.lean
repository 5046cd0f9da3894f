/- What the reference of chapter 1 reads: the same words as octet's. Conditions: rounds enough (7); octets are octets. -/
import Derived.Test.YtfmhclbcoladpaaXOctetPG
import Derived.Test.YtfmhclbcoladpaaJx8
namespace Go.Proofs.Ytfmhclbcoladpaa.Pure
open Go.RowKit Go.Proofs.Ytfmhclbcoladpaa.J Go.Proofs.YtfmhclbcoladpaaW.PrintWords Go.Proofs.YtfmhclbcoladpaaW.PrintLast Go.Proofs.YtfmhclbcoladpaaW.PrintMore Go.Proofs.YtfmhclbcoladpaaW.PrintX
set_option linter.unusedVariables false
set_option linter.unusedSimpArgs false
theorem ref01_get_loop (l : List Int) (n : Int) (h : Octs l) (hn4 : n ≤ 4) (hn : n ≤ l.length) : ∀ (d k i : Nat), (i : Int) + d = n → d < k →
    ridgewayref01_Get.l0 k l n (getL (l.take i)) i = some (getL (l.take n.toNat), l.drop n.toNat, true) := by
  intro d
  induction d with
  | zero =>
    intro k i hi hk
    obtain ⟨k, rfl⟩ : ∃ m, k = m + 1 := ⟨k - 1, by omega⟩
    simp only [ridgewayref01_Get.l0]
    rw [if_neg (by omega), if_pos (by omega), if_pos hn]
    have : i = n.toNat := by omega
    rw [this]
  | succ d ih =>
    intro k i hi hk
    obtain ⟨k, rfl⟩ : ∃ m, k = m + 1 := ⟨k - 1, by omega⟩
    simp only [ridgewayref01_Get.l0]
    rw [if_pos (by omega), if_pos (by omega), if_pos (by omega)]
    have hb := getL_bounds (l.take i) (h.take i)
    have hl : (l.take i).length ≤ 3 := by rw [List.length_take]; omega
    have hp := getL_lt3 (l.take i) (h.take i) hl
    have hr := h.rd (i : Int)
    rw [w64 (n := getL (l.take i) * 256) (by omega) (by omega), w64 (n := rd l i) (by omega) (by omega), w64 (by omega) (by omega), w64 (n := (i : Int) + 1) (by omega) (by omega), ← getL_snoc, ← take_rd i (by omega)]
    exact ih k (i + 1) (by push_cast; omega) (by omega)
theorem ref01_get (k : Nat) (l : List Int) (n : Int) (hk : 7 ≤ k) (h : Octs l) :
    ridgewayref01_Get.f k l n = some (if n < 1 ∨ n > 4 ∨ (l.length : Int) < n then (0, [], false) else (getL (l.take n.toNat), l.drop n.toNat, true)) := by
  obtain ⟨m, rfl⟩ : ∃ m, k = m + 7 := ⟨k - 7, by omega⟩
  unfold ridgewayref01_Get.f
  by_cases h1 : n < 1
  · rw [if_pos h1, if_pos (Or.inl h1)]
    simp only [ridgewayref01_Get.j0]
    rw [if_pos trivial]
  · rw [if_neg h1]
    by_cases h4 : n > 4
    · rw [if_pos h4, if_pos (Or.inr (Or.inl h4))]
      simp only [ridgewayref01_Get.j0]
      rw [if_pos trivial]
    · rw [if_neg h4]
      simp only [ridgewayref01_Get.j0]
      by_cases h5 : (l.length : Int) < n
      · rw [if_pos (decide_eq_true h5), if_pos (Or.inr (Or.inr h5))]
      · rw [if_neg (by rw [decide_eq_false h5]; decide), if_neg (by omega)]
        have := ref01_get_loop l n h (by omega) (by omega) n.toNat (m + 6) 0 (by omega) (by omega)
        rw [List.take_zero, getL_nil] at this
        exact this
end Go.Proofs.Ytfmhclbcoladpaa.Pure
