/- What stream.Feed and stream.Sane come to, in plain words (feedV, saneS). Conditions: octets are octets, few of them. -/
import Derived.Test.YthkbpiagggeicaaXMsgLaw
import Derived.Test.YthkbpiagggeicaaQx2
import Derived.Test.YthkbpiagggeicaaQx4
namespace Go.Proofs.Ythkbpiagggeicaa.Pure
open Go.RowKit Go.Proofs.Ythkbpiagggeicaa.Q Go.Proofs.YthkbpiagggeicaaW.PrintWords Go.Proofs.YthkbpiagggeicaaW.PrintLast Go.Proofs.YthkbpiagggeicaaW.PrintMore Go.Proofs.YthkbpiagggeicaaW.PrintX
set_option linter.unusedVariables false
set_option linter.unusedSimpArgs false
def msgsV : Nat → List Int → List S43 × List Int × Int × Int × List Int
  | 0, b => ([], b, 0, 0, [])
  | j + 1, b => if (getV b).2.2.2.1 = 0 then (if (getV b).2.2.1 = 0 then ([], b, 0, 0, []) else (⟨(getV b).1, (getV b).2.1⟩ :: (msgsV j (b.drop (getV b).2.2.1.toNat)).1, (msgsV j (b.drop (getV b).2.2.1.toNat)).2)) else ([], b, (getV b).2.2.2.1, (getV b).2.2.2.2.1, (getV b).2.2.2.2.2)
theorem getV_some (b : List Int) (h : Octs b) (hc : (getV b).2.2.2.1 = 0) (hn : (getV b).2.2.1 ≠ 0) : 19 ≤ (getV b).2.2.1 ∧ (getV b).2.2.1 ≤ b.length ∧ saneV (getV b).1 (getV b).2.1 = true ∧ encM (getV b).1 (getV b).2.1 = b.take (getV b).2.2.1.toNat ∧ (getV b).2.1.length ≤ 4096 := by
  rcases hg : getV b with ⟨t, bd, n, c, s, d⟩
  rw [hg] at hc hn
  dsimp only at hc hn ⊢
  rcases got_enc b h t n c s bd d hg with ⟨h1, h2, h3, h4, _⟩ | ⟨h1, h2, h3, h4, h5, h6, h7, h8⟩ | ⟨h1, _⟩
  · exact absurd h4 hn
  · have hl := congrArg List.length h8
    rw [encM_length, List.length_take] at hl
    exact ⟨h4, h5, h7, h8, by omega⟩
  · omega
theorem getV_none (b : List Int) (h : Octs b) (hc : (getV b).2.2.2.1 = 0) (hn : (getV b).2.2.1 = 0) : b.length < 4096 := by
  rcases hg : getV b with ⟨t, bd, n, c, s, d⟩
  rw [hg] at hc hn
  dsimp only at hc hn
  rcases got_enc b h t n c s bd d hg with ⟨h1, h2, h3, h4, h5, h6, h7⟩ | ⟨h1, h2, h3, h4, _⟩ | ⟨h1, _⟩
  · omega
  · omega
  · omega
theorem msgsF_eq : ∀ (j : Nat) (b : List Int), Octs b → b.length ≤ 1000000 → b.length < j → msgsF 100 j b = some (msgsV j b) := by
  intro j
  induction j with
  | zero => intro b h hl hj; omega
  | succ j ih =>
    intro b h hl hj
    simp only [msgsF, msgsV]
    rw [msg_get 100 b h hl (by omega)]
    simp only [Option.bind_some]
    by_cases c : (getV b).2.2.2.1 = 0
    · rw [if_pos c, if_pos c]
      by_cases n : (getV b).2.2.1 = 0
      · rw [if_pos n, if_pos n]
      · obtain ⟨h1, h2, h3, h4, h5⟩ := getV_some b h c n
        rw [if_neg n, if_neg n, if_pos ⟨by omega, h2⟩, ih _ (h.drop _) (by rw [List.length_drop]; omega) (by rw [List.length_drop]; omega)]
        rfl
    · rw [if_neg c, if_neg c]
def saneS (b : List Int) (bad : Bool) : Bool := if bad = true then ((b.length : Int) == 0) else (if (getV b).2.2.1 = 0 then (getV b).2.2.2.1 == 0 else false)
theorem saneS_eq (k : Nat) (b : List Int) (bad : Bool) (h : Octs b) (hl : b.length ≤ 1000000) (hk : 8 ≤ k) : stream_Sane.f k b bad = some (saneS b bad) := by
  unfold stream_Sane.f saneS
  cases bad
  · rw [if_neg (by decide), if_neg (by decide), msg_get k b h hl hk]
    simp only [Option.bind_some]
    (repeat' split) <;> rfl
  · rw [if_pos rfl, if_pos rfl]
def fv (all : List Int) : List Int × Bool × List S43 × Int × Int × List Int :=
  if (msgsV (all.length + 1) all).2.2.1 = 0 then ((msgsV (all.length + 1) all).2.1, false, (msgsV (all.length + 1) all).1, 0, 0, []) else ([], true, (msgsV (all.length + 1) all).1, (msgsV (all.length + 1) all).2.2.1, (msgsV (all.length + 1) all).2.2.2.1, (msgsV (all.length + 1) all).2.2.2.2)
def feedV (b0 : List Int) (bad : Bool) (b : List Int) : List Int × Bool × List S43 × Int × Int × List Int :=
  if saneS b0 bad = true then (if bad = true then (b0, true, [], 0, 0, []) else fv (b0 ++ b)) else fv b
theorem feedF_eq (all : List Int) (h : Octs all) (hl : all.length ≤ 1000000) : feedF all = some (fv all) := by
  unfold feedF fv
  rw [if_pos (by omega), msgsF_eq _ all h hl (by omega)]
  simp only [Option.map_some] <;> (split <;> rfl)
theorem feed_eq (b0 : List Int) (bad : Bool) (b : List Int) (h0 : Octs b0) (h : Octs b) (hl0 : b0.length ≤ 400000) (hl : b.length ≤ 400000) : stream_Feed.f b0 bad b = some (feedV b0 bad b) := by
  unfold stream_Feed.f feedV
  rw [saneS_eq 100 b0 bad h0 (by omega) (by omega)]
  simp only [Option.bind_some]
  cases saneS b0 bad
  · rw [if_neg (by decide), if_neg (by decide), feedF_eq _ h (by omega)]
  · rw [if_pos rfl, if_pos rfl]
    cases bad
    · rw [if_neg (by decide), if_neg (by decide), feedF_eq _ (h0.app h) (by rw [List.length_append]; omega)]
    · rw [if_pos rfl, if_pos rfl]
theorem msgsV_rest : ∀ (j : Nat) (b : List Int), Octs b → b.length < j → (msgsV j b).2.2.1 = 0 → saneS (msgsV j b).2.1 false = true ∧ Octs (msgsV j b).2.1 ∧ (msgsV j b).2.1.length < 4096 ∧ (msgsV j b).2.2 = (0, 0, []) := by
  intro j
  induction j with
  | zero => intro b h hj; omega
  | succ j ih =>
    intro b h hj hz
    simp only [msgsV] at hz ⊢
    by_cases c : (getV b).2.2.2.1 = 0
    · rw [if_pos c] at hz ⊢
      by_cases n : (getV b).2.2.1 = 0
      · rw [if_pos n] at hz ⊢
        exact ⟨by unfold saneS; rw [if_neg (by decide), if_pos n, c]; rfl, h, getV_none b h c n, rfl⟩
      · obtain ⟨h1, h2, h3, h4, h5⟩ := getV_some b h c n
        rw [if_neg n] at hz ⊢
        exact ih _ (h.drop _) (by rw [List.length_drop]; omega) hz
    · rw [if_neg c] at hz
      exact absurd hz c
theorem msgsV_sane : ∀ (j : Nat) (b : List Int), Octs b → ∀ m ∈ (msgsV j b).1, saneV m.f0 m.f1 = true ∧ m.f1.length ≤ 4096 := by
  intro j
  induction j with
  | zero => intro b h m hm; simp [msgsV] at hm
  | succ j ih =>
    intro b h m hm
    simp only [msgsV] at hm
    by_cases c : (getV b).2.2.2.1 = 0
    · rw [if_pos c] at hm
      by_cases n : (getV b).2.2.1 = 0
      · rw [if_pos n] at hm; simp at hm
      · obtain ⟨h1, h2, h3, h4, h5⟩ := getV_some b h c n
        rw [if_neg n] at hm
        rcases List.mem_cons.1 hm with rfl | hm
        · exact ⟨h3, h5⟩
        · exact ih _ (h.drop _) m hm
    · rw [if_neg c] at hm; simp at hm
theorem msgsV_len : ∀ (j : Nat) (b : List Int), (msgsV j b).1.length ≤ j := by
  intro j
  induction j with
  | zero => intro b; simp [msgsV]
  | succ j ih =>
    intro b
    simp only [msgsV]
    (repeat' split)
    · simp
    · have := ih (b.drop (getV b).2.2.1.toNat); simp; omega
    · simp
end Go.Proofs.Ythkbpiagggeicaa.Pure
