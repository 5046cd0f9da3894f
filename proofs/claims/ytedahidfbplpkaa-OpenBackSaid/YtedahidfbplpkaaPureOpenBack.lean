/- OpenBack, the plain law: what is put is got. Conditions: those of the statement's inputs. -/
import Derived.Test.YtedahidfbplpkaaXOpenP
import Derived.Test.YtedahidfbplpkaaQx5
namespace Go.Proofs.Ytedahidfbplpkaa.Pure
open Go.RowKit Go.Proofs.Ytedahidfbplpkaa.Q Go.Proofs.YtedahidfbplpkaaW.PrintWords Go.Proofs.YtedahidfbplpkaaW.PrintLast Go.Proofs.YtedahidfbplpkaaW.PrintMore Go.Proofs.YtedahidfbplpkaaW.PrintX
set_option linter.unusedVariables false
set_option linter.unusedSimpArgs false
theorem OpenBack : ridgewaylaw06_OpenBack.Pure := by
  intro x ax hx ha
  refine ⟨8, ?_⟩
  unfold ridgewaylaw06_OpenBack.f ridgewaylaw06_awake.f
  simp only [Option.bind_some]
  rw [put_eq 8 _ _ _ _ (by omega)]
  simp only [Option.bind_some]
  rw [saneH_eq]
  simp only [Option.bind_some]
  cases hs : saneH x.f0 x.f1 x.f2 x.f3
  · simp
  · simp only [if_true]
    rw [get_put _ _ _ _ _ hs, get_put _ _ _ _ _ hs, sane_eq _ _ (by rw [body_len, tail_len]; split <;> omega), body_sane]
    simp only [Option.bind_some, if_true]
    by_cases c : ax = x.f0
    · simp [c]
    · have c' : ¬ x.f0 = ax := fun e => c e.symm
      simp [c, c']
end Go.Proofs.Ytedahidfbplpkaa.Pure
