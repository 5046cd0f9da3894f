/- RoleLeaks: what came from a peer or provider goes to customers alone; no conditions. -/
import Derived.Test.YtjifgkimcepakaaDoorXRole13
import Derived.Test.YtjifgkimcepakaaDoorQx4
namespace Go.Proofs.YtjifgkimcepakaaDoor.Pure
open Go.RowKit Go.Proofs.YtjifgkimcepakaaDoor.Q Go.Proofs.YtjifgkimcepakaaDoorW.PrintWords Go.Proofs.YtjifgkimcepakaaDoorW.PrintLast Go.Proofs.YtjifgkimcepakaaDoorW.PrintMore Go.Proofs.YtjifgkimcepakaaDoorW.PrintX
set_option linter.unusedVariables false
set_option linter.unusedSimpArgs false
theorem RoleLeaks : ridgewaylaw13_RoleLeaks.Pure := by
  intro rel ax otc own tx _ _ _ _ _
  refine ⟨3, ?_⟩
  unfold ridgewaylaw13_RoleLeaks.f
  rw [awake13 3 (by omega), role_in 3 _ _ _ (by omega)]
  simp only [Option.bind_some]
  rw [role_out 3 _ _ _ (by omega)]
  simp only [Option.bind_some]
  by_cases hi : (inS rel ax otc).2 = true
  · rw [if_pos hi]
    by_cases h0 : ax = 0
    · simp [h0]
    · by_cases h1 : own = 0
      · simp [h0, h1]
      · by_cases hr : rel = 1
        · simp [h0, h1, hr]
        · rw [if_neg h0, if_neg h1, if_neg hr, if_pos trivial]
          have hm : (inS rel ax otc).1 ≠ 0 := by
            unfold inS at hi ⊢
            split
            · unfold orS
              simp only
              split <;> omega
            · rename_i hh
              rw [if_neg hh, if_neg (by omega)] at hi
              cases hi
          rw [if_neg hm]
          generalize (inS rel ax otc).1 = m at hm
          by_cases ht : tx = 1
          · subst ht
            simp [outS, orS, hm]
          · simp [outS, ht, hm]
  · rw [if_neg hi, if_pos trivial]
    have hm : (inS rel ax otc).1 = 0 := by
      unfold inS at hi ⊢
      split
      · rename_i hh
        rw [if_pos hh] at hi
        exact absurd rfl hi
      · split <;> rfl
    simp [hm]
end Go.Proofs.YtjifgkimcepakaaDoor.Pure
