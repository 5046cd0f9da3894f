/- What the functions of package role come to, in plain words. Conditions: rounds enough. -/
import Derived.Test.YtjifgkimcepakaaDoorQx1
import Derived.Test.YtjifgkimcepakaaDoorXPure
namespace Go.Proofs.YtjifgkimcepakaaDoor.Pure
open Go.RowKit Go.Proofs.YtjifgkimcepakaaDoor.Q Go.Proofs.YtjifgkimcepakaaDoorW.PrintWords Go.Proofs.YtjifgkimcepakaaDoorW.PrintLast Go.Proofs.YtjifgkimcepakaaDoorW.PrintMore Go.Proofs.YtjifgkimcepakaaDoorW.PrintX
set_option linter.unusedVariables false
set_option linter.unusedSimpArgs false
def orS (otc ax : Int) : Int := if otc = 0 then ax else otc
def inS (rel ax otc : Int) : Int × Bool := if rel = 3 ∨ rel = 2 ∧ orS otc ax = ax then (orS otc ax, true) else if rel = 1 ∧ otc = 0 then (0, true) else (0, false)
def outS (rel own otc : Int) : Int × Bool := if rel = 1 ∨ rel = 2 ∧ otc = 0 then (orS otc own, true) else if rel = 3 ∧ otc = 0 then (0, true) else (0, false)
def mineS (rel : Int) : Int := if rel = 1 then 0 else if rel = 2 then 4 else if rel = 3 then 3 else -1
def pairsS (a b : Int) : Bool := decide (a = 0 ∧ b = 3 ∨ a = 3 ∧ b = 0 ∨ a = 1 ∧ b = 2 ∨ a = 2 ∧ b = 1 ∨ a = 4 ∧ b = 4)
theorem role_or (otc ax : Int) : role_or.f otc ax = some (orS otc ax) := by
  unfold role_or.f orS
  split <;> rfl
theorem role_in (k : Nat) (rel ax otc : Int) (hk : 1 ≤ k) : role_In.f k rel ax otc = some (inS rel ax otc) := by
  obtain ⟨m, rfl⟩ : ∃ m, k = m + 1 := ⟨k - 1, by omega⟩
  unfold role_In.f inS
  simp only [role_In.j0, role_or, Option.bind_some]
  by_cases h3 : rel = 3
  · subst h3
    simp
  · by_cases h2 : rel = 2
    · subst h2
      by_cases h : orS otc ax = ax <;> simp [h]
    · by_cases h1 : rel = 1
      · subst h1
        by_cases h : otc = 0 <;> simp [h]
      · simp [h1, h2, h3]
theorem role_out (k : Nat) (rel own otc : Int) (hk : 1 ≤ k) : role_Out.f k rel own otc = some (outS rel own otc) := by
  obtain ⟨m, rfl⟩ : ∃ m, k = m + 1 := ⟨k - 1, by omega⟩
  unfold role_Out.f outS
  simp only [role_Out.j0, role_or, Option.bind_some]
  by_cases h1 : rel = 1
  · subst h1
    simp
  · by_cases h2 : rel = 2
    · subst h2
      by_cases h : otc = 0 <;> simp [h]
    · by_cases h3 : rel = 3
      · subst h3
        by_cases h : otc = 0 <;> simp [h]
      · simp [h1, h2, h3]
theorem role_mine (rel : Int) : role_Mine.f rel = some (mineS rel) := by
  unfold role_Mine.f mineS
  (repeat' split) <;> rfl
theorem role_pairs (a b : Int) : role_Pairs.f a b = some (pairsS a b) := by
  unfold role_Pairs.f pairsS
  congr 1
  rw [Bool.eq_iff_iff]
  by_cases h : 0 ≤ a ∧ a < 5
  · have : a = 0 ∨ a = 1 ∨ a = 2 ∨ a = 3 ∨ a = 4 := by omega
    rcases this with rfl | rfl | rfl | rfl | rfl <;> simp <;> omega
  · simp only [Bool.and_eq_true, decide_eq_true_eq, beq_iff_eq]
    omega
end Go.Proofs.YtjifgkimcepakaaDoor.Pure
