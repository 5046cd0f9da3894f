/- AttrJudges: of any attributes what they say, and what is wrong with them. No conditions but those of the statement. -/
import Derived.Test.YtfmhclbcoladpaaJx11
import Derived.Test.YtfmhclbcoladpaaXAttrFew
import Derived.Test.YtfmhclbcoladpaaXAttrJR
namespace Go.Proofs.Ytfmhclbcoladpaa.Pure
open Go.RowKit Go.Proofs.Ytfmhclbcoladpaa.J Go.Proofs.YtfmhclbcoladpaaW.PrintWords Go.Proofs.YtfmhclbcoladpaaW.PrintLast Go.Proofs.YtfmhclbcoladpaaW.PrintMore Go.Proofs.YtfmhclbcoladpaaW.PrintX
set_option linter.unusedVariables false
set_option linter.unusedSimpArgs false

theorem AttrJudges : ridgewaylaw07_AttrJudges.Pure := by
  intro l hw
  have hlen : l.length ≤ 9223372036854775807 := by have := hw.1; simp only [maxLen] at this; omega
  refine ⟨l.length + 4000, ?_⟩
  unfold ridgewaylaw07_AttrJudges.f ridgewaylaw07_awake.f
  rw [Option.bind_some]
  obtain ⟨b, hb, hb2⟩ := few_tot (l.length + 4000) l hlen (by omega)
  rw [hb, Option.bind_some]
  cases b with
  | false => rw [if_neg (by decide)]
  | true =>
    rw [if_pos rfl]
    obtain ⟨hl20, hl2⟩ := hb2 rfl
    have hfine := fine_of l hw.2 hl2
    obtain ⟨R, hR⟩ := judgeL_tot l [] (0, [], 0, 0) false hfine
    obtain ⟨R', hR1, hR2⟩ := rj_eq l (fun a ha => ⟨hfine a ha, hl2 a ha⟩) R hR
    have hlen2 := judgeL_len l _ _ _ R 2001 (fun a ha => by have := hl2 a ha; omega) (by simp) (by omega) hR
    have hrf : ridgewayref07_Judge.f l = some R := by
      unfold ridgewayref07_Judge.f
      rw [if_pos, hR1]
      · rw [Option.map_some, hR2]
      · simp only [Bool.and_eq_true, List.all_eq_true, decide_eq_true_eq]
        exact ⟨fun a ha => (hfine a ha).1, by omega⟩
    rw [judge_eq l hfine (by omega), hR, Option.bind_some, hrf, Option.bind_some, if_pos rfl, if_pos rfl, same_refl _ _ _ _ _ (by omega) (by omega), Option.bind_some, if_pos rfl]
    unfold ridgewayref03_SameNote.f
    rw [if_pos rfl, if_pos rfl]
    simp
end Go.Proofs.Ytfmhclbcoladpaa.Pure
