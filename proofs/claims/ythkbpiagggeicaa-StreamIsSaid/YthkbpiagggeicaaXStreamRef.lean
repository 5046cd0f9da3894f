/- The document's answer for streams comes to the same (feedV, saneS); lists that are the same. Conditions: octets are octets, few of them. -/
import Derived.Test.YthkbpiagggeicaaXStream
import Derived.Test.YthkbpiagggeicaaXMsgRG
import Derived.Test.YthkbpiagggeicaaQx11
import Derived.Test.YthkbpiagggeicaaQx7
namespace Go.Proofs.Ythkbpiagggeicaa.Pure
open Go.RowKit Go.Proofs.Ythkbpiagggeicaa.Q Go.Proofs.YthkbpiagggeicaaW.PrintWords Go.Proofs.YthkbpiagggeicaaW.PrintLast Go.Proofs.YthkbpiagggeicaaW.PrintMore Go.Proofs.YthkbpiagggeicaaW.PrintX
set_option linter.unusedVariables false
set_option linter.unusedSimpArgs false
theorem rmsgs_eq : ∀ (j : Nat) (b : List Int), Octs b → b.length ≤ 1000000 → b.length < j → rmsgs 100 j b = some (msgsV j b) := by
  intro j
  induction j with
  | zero => intro b h hl hj; omega
  | succ j ih =>
    intro b h hl hj
    simp only [rmsgs, msgsV]
    rw [get_ref 100 b h hl (by omega)]
    simp only [Option.bind_some]
    by_cases c : (getV b).2.2.2.1 = 0
    · rw [if_pos c, if_pos c]
      by_cases n : (getV b).2.2.1 = 0
      · rw [if_pos n, if_pos n]
      · obtain ⟨h1, h2, h3, h4, h5⟩ := getV_some b h c n
        rw [if_neg n, if_neg n, if_pos ⟨by omega, h2⟩, ih _ (h.drop _) (by rw [List.length_drop]; omega) (by rw [List.length_drop]; omega)]
        rfl
    · rw [if_neg c, if_neg c]
theorem saneR_eq (k : Nat) (b : List Int) (bad : Bool) (h : Octs b) (hl : b.length ≤ 1000000) (hk : 20 ≤ k) : ridgewayref04_Sane.f k b bad = some (saneS b bad) := by
  unfold ridgewayref04_Sane.f saneS
  cases bad
  · rw [if_neg (by decide), if_neg (by decide), get_ref k b h hl hk]
    simp only [Option.bind_some]
    (repeat' split) <;> rfl
  · rw [if_pos rfl, if_pos rfl]
theorem rfeedF_eq (all : List Int) (h : Octs all) (hl : all.length ≤ 1000000) : rfeedF all = some (fv all) := by
  unfold rfeedF fv
  rw [if_pos (by omega), rmsgs_eq _ all h hl (by omega)]
  simp only [Option.map_some] <;> (split <;> rfl)
theorem feedR_eq (b0 : List Int) (bad : Bool) (b : List Int) (h0 : Octs b0) (h : Octs b) (hl0 : b0.length ≤ 400000) (hl : b.length ≤ 400000) : ridgewayref04_Feed.f b0 bad b = some (feedV b0 bad b) := by
  unfold ridgewayref04_Feed.f feedV
  rw [saneR_eq 100 b0 bad h0 (by omega) (by omega)]
  simp only [Option.bind_some]
  cases saneS b0 bad
  · rw [if_neg (by decide), if_neg (by decide), rfeedF_eq _ h (by omega)]
  · rw [if_pos rfl, if_pos rfl]
    cases bad
    · rw [if_neg (by decide), if_neg (by decide), rfeedF_eq _ (h0.app h) (by rw [List.length_append]; omega)]
    · rw [if_pos rfl, if_pos rfl]
end Go.Proofs.Ythkbpiagggeicaa.Pure
