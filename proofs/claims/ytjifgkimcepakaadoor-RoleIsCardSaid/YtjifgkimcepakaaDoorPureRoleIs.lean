/- RoleIs: of any numbers the own role, which go together, and the marks, are what the document says; no conditions. -/
import Derived.Test.YtjifgkimcepakaaDoorXRole13
import Derived.Test.YtjifgkimcepakaaDoorQx2
import Derived.Test.YtjifgkimcepakaaDoorQx3
namespace Go.Proofs.YtjifgkimcepakaaDoor.Pure
open Go.RowKit Go.Proofs.YtjifgkimcepakaaDoor.Q Go.Proofs.YtjifgkimcepakaaDoorW.PrintWords Go.Proofs.YtjifgkimcepakaaDoorW.PrintLast Go.Proofs.YtjifgkimcepakaaDoorW.PrintMore Go.Proofs.YtjifgkimcepakaaDoorW.PrintX
set_option linter.unusedVariables false
set_option linter.unusedSimpArgs false
theorem ref13_in (k : Nat) (rel ax otc : Int) (hk : 3 ≤ k) : ridgewayref13_In.f k rel ax otc = some (inS rel ax otc) := by
  obtain ⟨m, rfl⟩ : ∃ m, k = m + 3 := ⟨k - 3, by omega⟩
  unfold ridgewayref13_In.f inS orS
  simp only [ridgewayref13_In.j0, ridgewayref13_In.j1, ridgewayref13_In.j2]
  by_cases h1 : rel = 1
  · subst h1
    by_cases h : otc = 0 <;> simp [h]
  · by_cases h2 : rel = 2
    · subst h2
      by_cases h : otc = 0
      · simp [h]
      · by_cases h' : otc = ax <;> simp [h, h']
    · by_cases h3 : rel = 3
      · subst h3
        by_cases h : otc = 0 <;> simp [h]
      · simp [h1, h2, h3]
theorem ref13_out (k : Nat) (rel own otc : Int) (hk : 3 ≤ k) : ridgewayref13_Out.f k rel own otc = some (outS rel own otc) := by
  obtain ⟨m, rfl⟩ : ∃ m, k = m + 3 := ⟨k - 3, by omega⟩
  unfold ridgewayref13_Out.f outS orS
  simp only [ridgewayref13_Out.j0, ridgewayref13_Out.j1]
  by_cases h1 : rel = 1
  · subst h1
    by_cases h : otc = 0 <;> simp [h]
  · by_cases h2 : rel = 2
    · subst h2
      by_cases h : otc = 0 <;> simp [h]
    · by_cases h3 : rel = 3
      · subst h3
        by_cases h : otc = 0 <;> simp [h]
      · simp [h1, h2, h3]
theorem ref13_mine (rel : Int) : ridgewayref13_Mine.f rel = some (mineS rel) := by
  unfold ridgewayref13_Mine.f mineS
  (repeat' split) <;> rfl
theorem ref13_pairs (a b : Int) : ridgewayref13_Pairs.f a b = some (pairsS a b) := by
  by_cases h : a = 0 ∨ a = 1 ∨ a = 2 ∨ a = 3 ∨ a = 4
  · rcases h with rfl | rfl | rfl | rfl | rfl
    · by_cases hb : b = 3 <;> simp [ridgewayref13_Pairs.f, pairsS, hb]
    · by_cases hb : b = 2 <;> simp [ridgewayref13_Pairs.f, pairsS, hb]
    · by_cases hb : b = 1 <;> simp [ridgewayref13_Pairs.f, pairsS, hb]
    · by_cases hb : b = 0 <;> simp [ridgewayref13_Pairs.f, pairsS, hb]
    · by_cases hb : b = 4 <;> simp [ridgewayref13_Pairs.f, pairsS, hb]
  · have h0 : a ≠ 0 := by omega
    have h1 : a ≠ 1 := by omega
    have h2 : a ≠ 2 := by omega
    have h3 : a ≠ 3 := by omega
    have h4 : a ≠ 4 := by omega
    simp [ridgewayref13_Pairs.f, pairsS, h0, h1, h2, h3, h4]
theorem RoleIs : ridgewaylaw13_RoleIs.Pure := by
  intro rel a b otc _ _ _ _
  refine ⟨3, ?_⟩
  unfold ridgewaylaw13_RoleIs.f
  rw [awake13 3 (by omega), role_in 3 _ _ _ (by omega), ref13_in 3 _ _ _ (by omega), role_out 3 _ _ _ (by omega), ref13_out 3 _ _ _ (by omega)]
  simp only [Option.bind_some]
  rw [role_mine, ref13_mine, role_pairs, ref13_pairs]
  simp
end Go.Proofs.YtjifgkimcepakaaDoor.Pure
