/- OctetIs: of any octets and numbers what is put, got and taken is what the document says; no conditions. -/
import Derived.Test.YthaiiglklgchlaaXOctet01
import Derived.Test.YthaiiglklgchlaaXRef01
import Derived.Test.YthaiiglklgchlaaQx2
import Derived.Test.YthaiiglklgchlaaQx3
namespace Go.Proofs.Ythaiiglklgchlaa.Pure
open Go.RowKit Go.Proofs.Ythaiiglklgchlaa.Q Go.Proofs.YthaiiglklgchlaaW.PrintWords Go.Proofs.YthaiiglklgchlaaW.PrintLast Go.Proofs.YthaiiglklgchlaaW.PrintMore Go.Proofs.YthaiiglklgchlaaW.PrintX
set_option linter.unusedVariables false
set_option linter.unusedSimpArgs false
theorem ref01_take (l : List Int) (n : Int) : ridgewayref01_Take.f l n = some (if n < 0 ∨ n > (l.length : Int) then ([], [], false) else (l.take n.toNat, l.drop n.toNat, true)) := by
  unfold ridgewayref01_Take.f
  by_cases h1 : n < 0
  · rw [if_pos h1, if_pos (Or.inl h1)]
  · rw [if_neg h1]
    by_cases h2 : (l.length : Int) < n
    · rw [if_pos h2, if_pos (Or.inr h2)]
    · rw [if_neg h2, if_pos (by omega), if_pos (by omega), if_neg (by omega)]
theorem OctetIs : ridgewaylaw01_OctetIs.Pure := by
  intro l v n _ _ hwf _ _
  have ho := octs_of_wf hwf
  refine ⟨7, ?_⟩
  unfold ridgewaylaw01_OctetIs.f
  rw [awake01 7 (by omega)]
  simp only [Option.bind_some]
  by_cases hm : (l.length : Int) > 400
  · rw [if_pos hm]
  rw [if_neg hm, octet_get 7 l n (by omega) ho, ref01_get 7 l n (by omega) ho, octet_take, ref01_take]
  simp only [Option.bind_some]
  rw [if_pos trivial, octet_put 7 l v n (by omega) (by omega), ref01_put 7 l v n (by omega) (by omega)]
  simp
end Go.Proofs.Ythaiiglklgchlaa.Pure
