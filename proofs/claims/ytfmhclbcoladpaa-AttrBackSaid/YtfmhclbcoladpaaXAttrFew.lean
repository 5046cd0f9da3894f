/- ridgewayref07.Few in plain words. Conditions: those that each states. -/
import Derived.Test.YtfmhclbcoladpaaNx8
import Derived.Test.YtfmhclbcoladpaaXAttr
namespace Go.Proofs.Ytfmhclbcoladpaa.Pure
open Go.RowKit Go.Proofs.Ytfmhclbcoladpaa.N Go.Proofs.YtfmhclbcoladpaaW.PrintWords Go.Proofs.YtfmhclbcoladpaaW.PrintLast Go.Proofs.YtfmhclbcoladpaaW.PrintMore Go.Proofs.YtfmhclbcoladpaaW.PrintX
set_option linter.unusedVariables false
set_option linter.unusedSimpArgs false

theorem few_loop (l : List S24) (hl : l.length ≤ 9223372036854775807) : ∀ (n k i : Nat), i + n = l.length → n < k → ∃ b, ridgewayref07_Few.l0 k l (i : Int) = some b ∧ (b = true → l.length ≤ 20 ∧ ∀ j, i ≤ j → (hj : j < l.length) → (l[j]).f2.length ≤ 2000) := by
  intro n
  induction n with
  | zero =>
    intro k i hi hk
    obtain ⟨k, rfl⟩ : ∃ k', k = k' + 1 := ⟨k - 1, by omega⟩
    rw [ridgewayref07_Few.l0, if_neg (by omega)]
    exact ⟨_, rfl, fun h => ⟨by have := of_decide_eq_true h; omega, fun j h1 h2 => by omega⟩⟩
  | succ n ih =>
    intro k i hi hk
    obtain ⟨k, rfl⟩ : ∃ k', k = k' + 1 := ⟨k - 1, by omega⟩
    have hrd : rd_T24 l (i : Int) = l[i]'(by omega) := by
      have : i < l.length := by omega
      simp [rd_T24, this]
    rw [ridgewayref07_Few.l0, if_pos (by omega), if_pos (by omega), hrd]
    by_cases c : ((l[i]'(by omega)).f2.length : Int) > 2000
    · rw [if_pos c]
      exact ⟨false, rfl, fun h => by cases h⟩
    · rw [if_neg c, w64 (by omega) (by omega)]
      obtain ⟨b, hb, hb2⟩ := ih k (i + 1) (by omega) (by omega)
      refine ⟨b, hb, fun h => ⟨(hb2 h).1, fun j h1 h2 => ?_⟩⟩
      rcases Nat.lt_or_ge i j with h3 | h3
      · exact (hb2 h).2 j h3 h2
      · obtain rfl : j = i := by omega
        omega
theorem few_tot (k : Nat) (l : List S24) (hl : l.length ≤ 9223372036854775807) (hk : l.length < k) : ∃ b, ridgewayref07_Few.f k l = some b ∧ (b = true → l.length ≤ 20 ∧ ∀ a ∈ l, a.f2.length ≤ 2000) := by
  obtain ⟨b, h1, h2⟩ := few_loop l hl l.length k 0 (by omega) hk
  refine ⟨b, h1, fun h => ⟨(h2 h).1, fun a ha => ?_⟩⟩
  obtain ⟨j, hj, rfl⟩ := List.getElem_of_mem ha
  exact (h2 h).2 j (by omega) hj
theorem fine_of (l : List S24) (hw : ∀ y ∈ l, wf24 y) (hf : ∀ a ∈ l, a.f2.length ≤ 2000) : ∀ a ∈ l, fineA a := fun a ha => by
  obtain ⟨h1, h2, h3, h4⟩ := hw a ha
  refine ⟨octs_of_wf h4, by have := hf a ha; omega, ?_⟩
  simp [Lit.wf, IntKind.min, IntKind.max, IntKind.bits, IntKind.signed] at h2
  omega
end Go.Proofs.Ytfmhclbcoladpaa.Pure
