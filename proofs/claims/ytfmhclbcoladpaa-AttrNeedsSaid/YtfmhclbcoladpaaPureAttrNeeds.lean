/- AttrNeeds, the plain law (its walk stands in the printed text). No conditions but those of the statement. -/
import Derived.Test.YtfmhclbcoladpaaEx8
namespace Go.Proofs.Ytfmhclbcoladpaa.Pure
open Go.RowKit Go.Proofs.Ytfmhclbcoladpaa.E Go.Proofs.YtfmhclbcoladpaaW.PrintWords Go.Proofs.YtfmhclbcoladpaaW.PrintLast Go.Proofs.YtfmhclbcoladpaaW.PrintMore Go.Proofs.YtfmhclbcoladpaaW.PrintX
set_option linter.unusedVariables false
set_option linter.unusedSimpArgs false
theorem AttrNeeds : ridgewaylaw07_AttrNeeds.Pure := by
  intro x0 a1 a2 hw _ _
  unfold ridgewaylaw07_AttrNeeds.f
  have h : x0.f1.length ≤ 9223372036854775807 := hw.2.1.1
  rw [if_pos h]
end Go.Proofs.Ytfmhclbcoladpaa.Pure
