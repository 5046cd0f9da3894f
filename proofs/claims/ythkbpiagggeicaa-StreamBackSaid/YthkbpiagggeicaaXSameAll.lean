/- A list of messages is the same as itself. Conditions: fewer than 1000000 messages, rounds enough. -/
import Derived.Test.YthkbpiagggeicaaQx7
import Derived.Test.YthkbpiagggeicaaXPure
namespace Go.Proofs.Ythkbpiagggeicaa.Pure
open Go.RowKit Go.Proofs.Ythkbpiagggeicaa.Q Go.Proofs.YthkbpiagggeicaaW.PrintWords Go.Proofs.YthkbpiagggeicaaW.PrintLast Go.Proofs.YthkbpiagggeicaaW.PrintMore Go.Proofs.YthkbpiagggeicaaW.PrintX
set_option linter.unusedVariables false
set_option linter.unusedSimpArgs false
theorem sameAll_loop (l : List S43) (hl : l.length ≤ 1000000) : ∀ (d k i : Nat), i + d = l.length → d < k → ridgewayref03_SameAll.l0 k l l (i : Int) = some true := by
  intro d
  induction d with
  | zero =>
    intro k i hi hk
    obtain ⟨k, rfl⟩ : ∃ m, k = m + 1 := ⟨k - 1, by omega⟩
    simp only [ridgewayref03_SameAll.l0]
    rw [if_neg (by omega)]
  | succ d ih =>
    intro k i hi hk
    obtain ⟨k, rfl⟩ : ∃ m, k = m + 1 := ⟨k - 1, by omega⟩
    simp only [ridgewayref03_SameAll.l0]
    rw [if_pos (by omega), if_pos (by omega), if_pos (by omega)]
    unfold ridgewayref03_Same.f
    rw [if_pos rfl]
    simp only [Option.bind_some, beq_self_eq_true, if_true]
    rw [w64 (n := (i : Int) + 1) (by omega) (by omega), show ((i : Int) + 1) = ((i + 1 : Nat) : Int) by omega]
    exact ih k (i + 1) (by omega) (by omega)
theorem sameAll_self (k : Nat) (l : List S43) (hl : l.length ≤ 1000000) (hk : l.length < k) : ridgewayref03_SameAll.f k l l = some true := by
  unfold ridgewayref03_SameAll.f
  rw [if_pos rfl]
  exact sameAll_loop l hl l.length k 0 (by omega) hk
end Go.Proofs.Ythkbpiagggeicaa.Pure
