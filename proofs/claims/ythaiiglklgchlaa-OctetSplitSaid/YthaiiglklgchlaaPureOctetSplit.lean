/- OctetSplit: of any number its four octets are those of its upper half and behind them those of its lower half; no conditions. -/
import Derived.Test.YthaiiglklgchlaaXOctet01
import Derived.Test.YthaiiglklgchlaaQx6
namespace Go.Proofs.Ythaiiglklgchlaa.Pure
open Go.RowKit Go.Proofs.Ythaiiglklgchlaa.Q Go.Proofs.YthaiiglklgchlaaW.PrintWords Go.Proofs.YthaiiglklgchlaaW.PrintLast Go.Proofs.YthaiiglklgchlaaW.PrintMore Go.Proofs.YthaiiglklgchlaaW.PrintX
set_option linter.unusedVariables false
set_option linter.unusedSimpArgs false
theorem OctetSplit : ridgewaylaw01_OctetSplit.Pure := by
  intro v _
  refine ⟨7, ?_⟩
  unfold ridgewaylaw01_OctetSplit.f
  rw [awake01 7 (by omega)]
  simp only [Option.bind_some]
  rw [octet_put 7 _ _ _ (by omega) (by simp), octet_put 7 _ _ _ (by omega) (by simp)]
  simp only [Option.bind_some]
  rw [octet_put 7 _ _ _ (by omega) (by simp [putL_length]), octet_put 7 _ _ _ (by omega) (by simp)]
  simp only [Option.bind_some]
  rw [octet_put 7 _ _ _ (by omega) (by simp [putL_length])]
  simp only [Option.bind_some]
  rw [octet_put 7 _ _ _ (by omega) (by simp [putL_length])]
  simp only [Option.bind_some]
  rw [octet_put 7 _ _ _ (by omega) (by simp)]
  have e1 : v / 65536 / 256 = v / 256 / 256 / 256 := by omega
  have e2 : v / 65536 = v / 256 / 256 := by omega
  simp [putL, str_list, e1, e2]
end Go.Proofs.Ythaiiglklgchlaa.Pure
