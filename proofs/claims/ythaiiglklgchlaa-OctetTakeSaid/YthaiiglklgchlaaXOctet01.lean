/- What the reference of chapter 1 comes to, and its awake: the document's examples. No conditions but rounds enough. -/
import Derived.Test.YthaiiglklgchlaaXOctet
import Derived.Test.YthaiiglklgchlaaQx1
namespace Go.Proofs.Ythaiiglklgchlaa.Pure
open Go.RowKit Go.Proofs.Ythaiiglklgchlaa.Q Go.Proofs.YthaiiglklgchlaaW.PrintWords Go.Proofs.YthaiiglklgchlaaW.PrintLast Go.Proofs.YthaiiglklgchlaaW.PrintMore Go.Proofs.YthaiiglklgchlaaW.PrintX
set_option linter.unusedVariables false
set_option linter.unusedSimpArgs false
theorem awake01 (k : Nat) (hk : 7 ≤ k) : ridgewaylaw01_awake.f k = some true := by
  unfold ridgewaylaw01_awake.f
  rw [octet_get k _ _ hk (by intro x hx; simp at hx; omega), octet_take, octet_put k _ _ _ hk (by simp)]
  simp [getL, putL, str_list, rd]
end Go.Proofs.Ythaiiglklgchlaa.Pure
