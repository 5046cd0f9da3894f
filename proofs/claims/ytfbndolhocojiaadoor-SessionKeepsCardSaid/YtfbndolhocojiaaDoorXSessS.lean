/- Which session may be, in plain words (saneS). Conditions: those that each states. -/
import Derived.Test.YtfbndolhocojiaaDoorKx3
import Derived.Test.YtfbndolhocojiaaDoorXPure
namespace Go.Proofs.YtfbndolhocojiaaDoor.Pure
open Go.RowKit Go.Proofs.YtfbndolhocojiaaDoor.K Go.Proofs.YtfbndolhocojiaaDoorW.PrintWords Go.Proofs.YtfbndolhocojiaaDoorW.PrintLast Go.Proofs.YtfbndolhocojiaaDoorW.PrintMore Go.Proofs.YtfbndolhocojiaaDoorW.PrintX
set_option linter.unusedVariables false
set_option linter.unusedSimpArgs false

abbrev MsgS := S45
def saneS (a b c d : Int) : Prop := (a = 0 ∧ b = 0 ∧ c = 0 ∧ d = 0) ∨ (a = 1 ∧ b = 0 ∧ d = 0 ∧ 0 < c ∧ c ≤ 240) ∨ ((a = 2 ∨ a = 3) ∧ ((b = 0 ∧ c = 0 ∧ d = 0) ∨ (3 ≤ b ∧ b ≤ 65535 ∧ 0 < c ∧ c ≤ b ∧ 0 < d ∧ d ≤ b / 3)))
theorem third (b : Int) (h : 0 ≤ b) (h2 : b ≤ 65535) : wrap64 (Int.tdiv b 3) = b / 3 := by
  rw [Int.tdiv_eq_ediv_of_nonneg h, w64 (by omega) (by omega)]
theorem timed_eq (a b c d : Int) : ∃ x, session_timed.f a b c d = some x ∧ (x = true ↔ ((b = 0 ∧ c = 0 ∧ d = 0) ∨ (3 ≤ b ∧ b ≤ 65535 ∧ 0 < c ∧ c ≤ b ∧ 0 < d ∧ d ≤ b / 3))) := by
  unfold session_timed.f
  by_cases h0 : b = 0
  · rw [if_pos h0]
    by_cases h1 : c = 0
    · rw [if_pos h1]
      exact ⟨_, rfl, by simp; omega⟩
    · rw [if_neg h1]
      exact ⟨_, rfl, by simp; omega⟩
  rw [if_neg h0]
  by_cases h3 : b ≥ 3
  · rw [if_pos h3]
    by_cases h4 : b ≤ 65535
    · rw [if_pos h4, third b (by omega) h4]
      by_cases h5 : c > 0
      · rw [if_pos h5]
        by_cases h6 : c ≤ b
        · rw [if_pos h6]
          by_cases h7 : d > 0
          · rw [if_pos h7]
            exact ⟨_, rfl, by simp; omega⟩
          · rw [if_neg h7]
            exact ⟨_, rfl, by simp; omega⟩
        · rw [if_neg h6]
          exact ⟨_, rfl, by simp; omega⟩
      · rw [if_neg h5]
        exact ⟨_, rfl, by simp; omega⟩
    · rw [if_neg h4]
      exact ⟨_, rfl, by simp; omega⟩
  · rw [if_neg h3]
    exact ⟨_, rfl, by simp; omega⟩
theorem ssane_eq (a b c d : Int) : ∃ x, session_Sane.f a b c d = some x ∧ (x = true ↔ saneS a b c d) := by
  unfold session_Sane.f saneS
  by_cases h0 : a < 0
  · rw [if_pos h0]
    exact ⟨_, rfl, by simp; omega⟩
  rw [if_neg h0]
  by_cases h4 : a ≥ 4
  · rw [if_pos h4]
    exact ⟨_, rfl, by simp; omega⟩
  rw [if_neg h4]
  by_cases e0 : a = 0
  · rw [if_pos e0]
    unfold session_Sane_1.f
    exact ⟨_, rfl, by simp; omega⟩
  rw [if_neg e0]
  by_cases e1 : a = 1
  · rw [if_pos e1]
    unfold session_Sane_2.f
    by_cases h1 : b = 0
    · rw [if_pos h1]
      by_cases h2 : d = 0
      · rw [if_pos h2]
        by_cases h3 : c > 0
        · rw [if_pos h3]
          exact ⟨_, rfl, by simp; omega⟩
        · rw [if_neg h3]
          exact ⟨_, rfl, by simp; omega⟩
      · rw [if_neg h2]
        exact ⟨_, rfl, by simp; omega⟩
    · rw [if_neg h1]
      exact ⟨_, rfl, by simp; omega⟩
  rw [if_neg e1]
  obtain ⟨x, hx, hx2⟩ := timed_eq a b c d
  exact ⟨x, hx, by rw [hx2]; omega⟩
theorem sane_true (a b c d : Int) (h : saneS a b c d) : session_Sane.f a b c d = some true := by
  obtain ⟨x, h1, h2⟩ := ssane_eq a b c d
  rw [h1, h2.2 h]
theorem sane_false (a b c d : Int) (h : ¬ saneS a b c d) : session_Sane.f a b c d = some false := by
  obtain ⟨x, h1, h2⟩ := ssane_eq a b c d
  cases x
  · exact h1
  · exact absurd (h2.1 rfl) h
theorem known_in (a b c d : Int) (h : saneS a b c d) : session_known.f a b c d = some (a, b, c, d) := by
  unfold session_known.f
  rw [sane_true a b c d h, Option.bind_some, if_pos rfl]
theorem known_out (a b c d : Int) (h : ¬ saneS a b c d) : session_known.f a b c d = some (0, 0, 0, 0) := by
  unfold session_known.f
  rw [sane_false a b c d h, Option.bind_some, if_neg (by decide)]
end Go.Proofs.YtfbndolhocojiaaDoor.Pure
