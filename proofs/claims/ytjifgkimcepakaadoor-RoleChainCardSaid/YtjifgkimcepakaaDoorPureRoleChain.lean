/- RoleChain: a mark stays, once it is there, along any chain of customers; no conditions. -/
import Derived.Test.YtjifgkimcepakaaDoorXRole13
import Derived.Test.YtjifgkimcepakaaDoorQx5
namespace Go.Proofs.YtjifgkimcepakaaDoor.Pure
open Go.RowKit Go.Proofs.YtjifgkimcepakaaDoor.Q Go.Proofs.YtjifgkimcepakaaDoorW.PrintWords Go.Proofs.YtjifgkimcepakaaDoorW.PrintLast Go.Proofs.YtjifgkimcepakaaDoorW.PrintMore Go.Proofs.YtjifgkimcepakaaDoorW.PrintX
set_option linter.unusedVariables false
set_option linter.unusedSimpArgs false
theorem chain_loop (l : List Int) (hl : l.length ≤ 100) : ∀ (d k : Nat) (m first i : Int), 0 ≤ i → i + d = l.length → 2 * d + 1 < k → (first = m) →
    ridgewaylaw13_RoleChain.l0 k l true m first i = some true := by
  intro d
  induction d with
  | zero =>
    intro k m first i h0 hi hk hf
    obtain ⟨k, rfl⟩ : ∃ j, k = j + 1 := ⟨k - 1, by omega⟩
    simp only [ridgewaylaw13_RoleChain.l0]
    rw [if_neg (by omega)]
  | succ d ih =>
    intro k m first i h0 hi hk hf
    obtain ⟨k, rfl⟩ : ∃ j, k = j + 3 := ⟨k - 3, by omega⟩
    simp only [ridgewaylaw13_RoleChain.l0]
    rw [if_pos (by omega), if_pos h0]
    by_cases hz : rd l i = 0
    · rw [if_pos hz]
    · rw [if_neg hz]
      have step : ∀ f : Int, f = orS m (rd l i) → ridgewaylaw13_RoleChain.j1 (k + 2) l true m f i = some true := by
        intro f hf2
        simp only [ridgewaylaw13_RoleChain.j1]
        rw [if_pos h0, if_pos (by omega), role_out (k + 1) _ _ _ (by omega)]
        simp only [Option.bind_some]
        rw [role_in (k + 1) _ _ _ (by omega)]
        simp only [Option.bind_some]
        have e1 : outS 1 (rd l i) m = (f, true) := by rw [hf2]; simp [outS]
        have hfz : f ≠ 0 := by
          rw [hf2]
          unfold orS
          split <;> omega
        have e2 : inS 3 (rd l i) f = (f, true) := by simp [inS, orS, hfz]
        rw [e1]
        simp only
        rw [e2]
        simp only
        rw [if_pos trivial, if_pos trivial, if_pos trivial, if_pos trivial, w64 (n := i + 1) (by omega) (by omega)]
        exact ih (k + 1) f f (i + 1) (by omega) (by push_cast at hi; omega) (by omega) rfl
      by_cases hm : first = 0
      · rw [if_pos hm]
        exact step _ (by rw [← hf, hm]; simp [orS])
      · rw [if_neg hm]
        exact step _ (by rw [← hf]; simp [orS, hm])
theorem RoleChain : ridgewaylaw13_RoleChain.Pure := by
  intro otc l _ _
  refine ⟨300, ?_⟩
  unfold ridgewaylaw13_RoleChain.f
  rw [awake13 300 (by omega)]
  simp only [Option.bind_some]
  by_cases hl : (l.length : Int) > 100
  · rw [if_pos hl]
  · rw [if_neg hl]
    exact chain_loop l (by omega) l.length 300 otc otc 0 (by omega) (by omega) (by omega) rfl
end Go.Proofs.YtjifgkimcepakaaDoor.Pure
