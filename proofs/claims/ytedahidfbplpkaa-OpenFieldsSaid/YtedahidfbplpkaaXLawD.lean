/- Words of ours for laws that are walked by hand: the lowest bit of an octet. No conditions but those that each states. -/
import Derived.Test.YtedahidfbplpkaaXLawC
set_option linter.unusedVariables false
namespace Go.Proofs.YtedahidfbplpkaaW.PrintX
open Go.RowKit
theorem and8 (x : Int) (h0 : 0 ≤ x) (h1 : x < 256) : Go.bits .and .u8 x 1 = x % 2 := by
  have h : ∀ n : Fin 256, Go.bits .and .u8 ((n.val : Nat) : Int) 1 = ((n.val : Nat) : Int) % 2 := by decide +kernel
  have h2 := h ⟨x.toNat, by omega⟩
  simp only [Int.toNat_of_nonneg h0] at h2
  exact h2
end Go.Proofs.YtedahidfbplpkaaW.PrintX
