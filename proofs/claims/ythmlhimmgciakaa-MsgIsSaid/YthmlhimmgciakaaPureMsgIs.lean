/- MsgIs, the plain law: what the document's answer is and what the program's is are the same. Conditions: those of the statement's inputs. -/
import Derived.Test.YthmlhimmgciakaaXMsgRef
import Derived.Test.YthmlhimmgciakaaQx7
namespace Go.Proofs.Ythmlhimmgciakaa.Pure
open Go.RowKit Go.Proofs.Ythmlhimmgciakaa.Q Go.Proofs.YthmlhimmgciakaaW.PrintWords Go.Proofs.YthmlhimmgciakaaW.PrintLast Go.Proofs.YthmlhimmgciakaaW.PrintMore Go.Proofs.YthmlhimmgciakaaW.PrintX
set_option linter.unusedVariables false
set_option linter.unusedSimpArgs false
theorem MsgIs : ridgewaylaw03_MsgIs.Pure := by
  intro l x a hl hx ha
  refine ⟨60, ?_⟩
  have ho := octs_of_wf hl.2
  have hb : Octs x.f1 := octs_of_wf hx.2.2
  unfold ridgewaylaw03_MsgIs.f ridgewaylaw03_awake.f
  simp only [Option.bind_some]
  have key : ∀ b : Bool, (b = false → l.length ≤ 5000 ∧ x.f1.length ≤ 5000) → ridgewaylaw03_MsgIs.j0 60 l a true b x.f0 x.f1 = some true := by
    intro b hbb
    simp only [ridgewaylaw03_MsgIs.j0]
    cases b
    · obtain ⟨h1, h2⟩ := hbb rfl
      rw [if_neg (by decide), msg_get _ l ho (by omega) (by omega), get_ref _ l ho (by omega) (by omega)]
      simp only [Option.bind_some, if_true]
      rw [same_self]
      simp only [Option.bind_some, if_true]
      rw [sameNote_self]
      simp only [Option.bind_some, if_true]
      rw [least_eq, least_ref]
      simp only [Option.bind_some, if_true]
      rw [sane_eq _ _ (by omega), sane_ref _ _ (by omega)]
      simp only [Option.bind_some, beq_self_eq_true, if_true]
      rw [msg_put _ _ _ _ (by omega) (by omega) (by omega), put_ref _ _ _ _ (by omega) (by omega) (by omega)]
      simp only [Option.bind_some, beq_self_eq_true]
    · rw [if_pos rfl]
  by_cases c : (l.length : Int) > 5000
  · rw [if_pos c]
    exact key _ (by simp)
  · rw [if_neg c]
    exact key _ (by simp; omega)
end Go.Proofs.Ythmlhimmgciakaa.Pure
