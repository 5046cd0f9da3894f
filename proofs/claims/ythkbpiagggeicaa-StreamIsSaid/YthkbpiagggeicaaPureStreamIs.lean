/- StreamIs, the plain law: what the document's answer is and what the program's is are the same. Conditions: those of the statement's inputs. -/
import Derived.Test.YthkbpiagggeicaaXStreamRef
import Derived.Test.YthkbpiagggeicaaXSameAll
import Derived.Test.YthkbpiagggeicaaQx12
namespace Go.Proofs.Ythkbpiagggeicaa.Pure
open Go.RowKit Go.Proofs.Ythkbpiagggeicaa.Q Go.Proofs.YthkbpiagggeicaaW.PrintWords Go.Proofs.YthkbpiagggeicaaW.PrintLast Go.Proofs.YthkbpiagggeicaaW.PrintMore Go.Proofs.YthkbpiagggeicaaW.PrintX
set_option linter.unusedVariables false
set_option linter.unusedSimpArgs false
theorem fv_len (all : List Int) (hl : all.length ≤ 500000) : (fv all).2.2.1.length ≤ 500001 := by
  have := msgsV_len (all.length + 1) all
  unfold fv
  split <;> (dsimp only; omega)
theorem feedV_len (b0 : List Int) (bad : Bool) (b : List Int) (h0 : b0.length ≤ 5000) (h : b.length ≤ 5000) : (feedV b0 bad b).2.2.1.length ≤ 500001 := by
  unfold feedV
  (repeat' split)
  · simp
  · exact fv_len _ (by rw [List.length_append]; omega)
  · exact fv_len _ (by omega)
theorem StreamIs : ridgewaylaw04_StreamIs.Pure := by
  intro x l hx hl
  refine ⟨600000, ?_⟩
  have ho := octs_of_wf hl.2
  have hb : Octs x.f0 := octs_of_wf hx.1.2
  unfold ridgewaylaw04_StreamIs.f ridgewaylaw04_awake.f
  simp only [Option.bind_some]
  have key : ∀ b : Bool, (b = false → l.length ≤ 5000 ∧ x.f0.length ≤ 5000) → ridgewaylaw04_StreamIs.j0 600000 l true b x.f0 x.f1 = some true := by
    intro b hbb
    simp only [ridgewaylaw04_StreamIs.j0]
    cases b
    · obtain ⟨h1, h2⟩ := hbb rfl
      rw [if_neg (by decide), feed_eq _ _ _ hb ho (by omega) (by omega), feedR_eq _ _ _ hb ho (by omega) (by omega)]
      simp only [Option.bind_some, if_true]
      rw [saneS_eq _ _ _ hb (by omega) (by omega), saneR_eq _ _ _ hb (by omega) (by omega)]
      simp only [Option.bind_some, beq_self_eq_true, if_true]
      rw [sameAll_self _ _ (by have := feedV_len x.f0 x.f1 l h2 h1; omega) (by have := feedV_len x.f0 x.f1 l h2 h1; omega)]
      simp only [Option.bind_some, if_true]
      unfold ridgewayref03_SameNote.f
      simp
    · rw [if_pos rfl]
  by_cases c : (x.f0.length : Int) > 5000
  · rw [if_pos c]
    exact key _ (by simp)
  · rw [if_neg c]
    exact key _ (by simp; omega)
end Go.Proofs.Ythkbpiagggeicaa.Pure
