/- RoleWays: there and back, of any two nodes whose roles go together; no conditions. -/
import Derived.Test.YtjifgkimcepakaaDoorXRole13
import Derived.Test.YtjifgkimcepakaaDoorQx4
namespace Go.Proofs.YtjifgkimcepakaaDoor.Pure
open Go.RowKit Go.Proofs.YtjifgkimcepakaaDoor.Q Go.Proofs.YtjifgkimcepakaaDoorW.PrintWords Go.Proofs.YtjifgkimcepakaaDoorW.PrintLast Go.Proofs.YtjifgkimcepakaaDoorW.PrintMore Go.Proofs.YtjifgkimcepakaaDoorW.PrintX
set_option linter.unusedVariables false
set_option linter.unusedSimpArgs false
theorem RoleWays : ridgewaylaw13_RoleWays.Pure := by
  intro rel a b _ _ _
  refine ⟨3, ?_⟩
  unfold ridgewaylaw13_RoleWays.f
  rw [awake13 3 (by omega)]
  simp only [Option.bind_some]
  have out : ∀ y, ridgewaylaw13_RoleWays.j0 3 rel a true y true = some true := fun y => by simp [ridgewaylaw13_RoleWays.j0]
  by_cases h1 : rel < 1
  · rw [if_pos h1]; exact out _
  rw [if_neg h1]
  by_cases h3 : rel > 3
  · rw [if_pos h3]; exact out _
  rw [if_neg h3]
  by_cases ha : a = 0
  · rw [if_pos ha]; exact out _
  rw [if_neg ha]
  by_cases hb : b = 0
  · subst hb; exact out _
  rw [show (b == 0) = false from beq_eq_false_iff_ne.2 hb, w64 (n := 4 - rel) (by omega) (by omega)]
  simp only [ridgewaylaw13_RoleWays.j0]
  rw [if_neg (by decide), role_out 2 _ _ _ (by omega)]
  simp only [Option.bind_some]
  rw [role_in 2 _ _ _ (by omega), role_mine, role_mine]
  simp only [Option.bind_some]
  rw [role_pairs]
  have : rel = 1 ∨ rel = 2 ∨ rel = 3 := by omega
  rcases this with rfl | rfl | rfl <;> simp [outS, inS, orS, mineS, pairsS, ha]
end Go.Proofs.YtjifgkimcepakaaDoor.Pure
