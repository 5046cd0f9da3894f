/- The document's example of chapter 13, and the words on marks that its laws use. Conditions: rounds enough. -/
import Derived.Test.YtjifgkimcepakaaDoorXRole
import Derived.Test.YtjifgkimcepakaaDoorQx1
namespace Go.Proofs.YtjifgkimcepakaaDoor.Pure
open Go.RowKit Go.Proofs.YtjifgkimcepakaaDoor.Q Go.Proofs.YtjifgkimcepakaaDoorW.PrintWords Go.Proofs.YtjifgkimcepakaaDoorW.PrintLast Go.Proofs.YtjifgkimcepakaaDoorW.PrintMore Go.Proofs.YtjifgkimcepakaaDoorW.PrintX
set_option linter.unusedVariables false
set_option linter.unusedSimpArgs false
theorem awake13 (k : Nat) (hk : 1 ≤ k) : ridgewaylaw13_awake.f k = some true := by
  unfold ridgewaylaw13_awake.f
  rw [role_in k _ _ _ hk]
  simp only [Option.bind_some]
  rw [role_out k _ _ _ hk, role_pairs, role_mine]
  simp [inS, outS, orS, pairsS, mineS]
end Go.Proofs.YtjifgkimcepakaaDoor.Pure
