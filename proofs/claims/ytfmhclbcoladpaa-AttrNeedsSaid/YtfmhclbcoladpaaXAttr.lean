/- What a number of four octets, segments and attributes say, in plain words. Conditions: octets are octets; lengths as each states. -/
import Derived.Test.YtfmhclbcoladpaaEx2
import Derived.Test.YtfmhclbcoladpaaEx5
import Derived.Test.YtfmhclbcoladpaaEx6
import Derived.Test.YtfmhclbcoladpaaEx7
import Derived.Test.YtfmhclbcoladpaaXOctetPG
import Derived.Test.YtfmhclbcoladpaaXPure
namespace Go.Proofs.Ytfmhclbcoladpaa.Pure
open Go.RowKit Go.Proofs.Ytfmhclbcoladpaa.E Go.Proofs.YtfmhclbcoladpaaW.PrintWords Go.Proofs.YtfmhclbcoladpaaW.PrintLast Go.Proofs.YtfmhclbcoladpaaW.PrintMore Go.Proofs.YtfmhclbcoladpaaW.PrintX
set_option linter.unusedVariables false
set_option linter.unusedSimpArgs false

def numV (d : List Int) : Int := if 4 ≤ d.length then getL (d.take 4) else 0
theorem number_eq (k : Nat) (d : List Int) (hk : 7 ≤ k) (h : Octs d) : attr_number.f k d = some (numV d, decide (0 < numV d) && decide (d.length = 4)) := by
  unfold attr_number.f numV
  by_cases c : 4 ≤ d.length
  · rw [octet_getS k d 4 hk h (by omega) (by omega) (by omega), Option.bind_some, if_pos c]
    simp only [if_true]
    rw [show (4 : Int).toNat = 4 from rfl]
    by_cases p : 0 < getL (d.take 4)
    · rw [if_pos p]
      simp only [decide_eq_true p, Bool.true_and, List.length_drop]
      congr 2
      by_cases e : d.length = 4
      · simp [e]
      · simp [e]; omega
    · rw [if_neg p]
      simp [p]
  · rw [octet_getF k d 4 hk h (by omega), Option.bind_some, if_neg c]
    simp
theorem quads_tot : ∀ (j : Nat) (acc b : List Int), Octs b → b.length < j → ∃ Q, quads 100 j acc b = some Q
  | 0, _, _, _, h => by omega
  | j + 1, acc, b, ho, h => by
    simp only [quads]
    by_cases c : b.length = 0
    · exact ⟨_, if_pos c⟩
    · rw [if_neg c, number_eq 100 _ (by omega) (ho.take 4), Option.bind_some]
      dsimp only
      by_cases d : (decide (0 < numV (b.take 4)) && decide ((b.take 4).length = 4)) = true
      · rw [if_pos d]
        exact quads_tot j _ _ (ho.drop 4) (by rw [List.length_drop]; omega)
      · rw [if_neg d]
        exact ⟨_, rfl⟩
theorem segL_tot : ∀ (j : Nat) (acc b : List Int), Octs b → b.length < j → ∃ Q, segL 100 j acc b = some Q
  | 0, _, _, _, h => by omega
  | j + 1, acc, b, ho, h => by
    simp only [segL]
    by_cases c : b.length = 0
    · exact ⟨_, if_pos c⟩
    · rw [if_neg c]
      split
      · exact ⟨_, rfl⟩
      · next hn =>
        obtain ⟨q, hq⟩ := quads_tot (b.length + 1) acc ((b.drop 2).take (4 * b.getD 1 0).toNat) ((ho.drop 2).take _) (by rw [List.length_take, List.length_drop]; omega)
        rw [hq, Option.bind_some]
        by_cases d : q.2 = true
        · rw [if_pos d]
          exact segL_tot j _ _ (ho.drop _) (by rw [List.length_drop]; omega)
        · rw [if_neg d]
          exact ⟨_, rfl⟩
theorem rdF_tot (t : Int) (p : Pth) (d : List Int) (h : Octs d) : ∃ r, rdF 100 t p d = some r := by
  unfold rdF
  split
  · exact ⟨_, rfl⟩
  split
  · obtain ⟨q, hq⟩ := segL_tot (d.length + 1) [] d h (by omega)
    exact ⟨_, by rw [hq]; rfl⟩
  split
  · exact ⟨_, by rw [number_eq 100 d (by omega) h]; rfl⟩
  split
  · exact ⟨_, rfl⟩
  · exact ⟨_, by rw [number_eq 100 d (by omega) h]; rfl⟩
theorem put_tot (f0 f1 : Int) (d : List Int) (hd : d.length ≤ 1000000) : ∃ r, attr_Put.f 100 [] f0 f1 d = some r := by
  have hc : slices_Clone_byte_byte.f [] = some ([] : List Int) := by simp [slices_Clone_byte_byte.f]
  have hj : ∀ b, ∃ r, attr_Put.j0 100 [] b f0 f1 d = some r := by
    intro b
    show ∃ r, attr_Put.j0 (99 + 1) [] b f0 f1 d = some r
    rw [attr_Put.j0]
    by_cases e : b = true
    · rw [if_pos e, hc]; exact ⟨_, rfl⟩
    · rw [if_neg e]
      have p1 : ∀ l v, l.length < 1000 → octet_Put.f 99 l v 1 = some (l ++ putL v 1) := fun l v h => octet_putN 99 l v 1 (by omega) (by omega) (by omega) (by omega)
      have p2 : ∀ l v, l.length < 1000 → octet_Put.f 99 l v 2 = some (l ++ putL v 2) := fun l v h => octet_putN 99 l v 2 (by omega) (by omega) (by omega) (by omega)
      by_cases g : (d.length : Int) > 255
      · rw [if_pos g, p1 _ _ (by simp), Option.bind_some, p1 _ _ (by simp [putL_length]), Option.bind_some, p2 _ _ (by simp [putL_length]), Option.bind_some, if_pos (by simp [putL_length]; omega)]
        exact ⟨_, rfl⟩
      · rw [if_neg g, p1 _ _ (by simp), Option.bind_some, p1 _ _ (by simp [putL_length]), Option.bind_some, p1 _ _ (by simp [putL_length]), Option.bind_some, if_pos (by simp [putL_length]; omega)]
        exact ⟨_, rfl⟩
  unfold attr_Put.f
  split
  · exact hj _
  split
  · exact hj _
  split
  · exact hj _
  split
  · exact hj _
  · exact hj _
/-- Attributes that may come up here. -/
def fineA (a : S24) : Prop := Octs a.f2 ∧ a.f2.length < 1000000 ∧ (-9223372036854775808 ≤ a.f1 ∧ a.f1 ≤ 9223372036854775807)
theorem judgeL_tot : ∀ (l : List S24) (seen : List Int) (p : Pth) (sp : Bool), (∀ a ∈ l, fineA a) → ∃ R, judgeL 100 l seen p sp = some R
  | [], _, _, _, _ => ⟨_, rfl⟩
  | ⟨f0, f1, f2⟩ :: l, seen, p, sp, h => by
    have hl : ∀ a ∈ l, fineA a := fun a ha => h a (by simp [ha])
    have h0 := h _ (List.mem_cons_self)
    rw [judgeL_cons]
    split
    · exact judgeL_tot l _ _ _ hl
    split
    · split
      · exact judgeL_tot l _ _ _ hl
      · obtain ⟨r, hr⟩ := rdF_tot f1 p f2 h0.1
        rw [hr, Option.bind_some]
        exact judgeL_tot l _ _ _ hl
    split
    · obtain ⟨r, hr⟩ := put_tot f0 f1 f2 (by have := h0.2.1; dsimp only at this; omega)
      rw [hr]
      exact ⟨_, rfl⟩
    · exact judgeL_tot l _ _ _ hl
theorem judge_eq (l : List S24) (h : ∀ a ∈ l, fineA a) (hl : l.length < 1000000) : attr_Judge.f l = judgeL 100 l [] (0, [], 0, 0) false := by
  unfold attr_Judge.f
  rw [if_pos]
  simp only [Bool.and_eq_true, List.all_eq_true, decide_eq_true_eq, octB]
  exact ⟨fun a ha => ⟨⟨(h a ha).1, (h a ha).2.1⟩, (h a ha).2.2⟩, hl⟩
theorem same_loop (as_ : List Int) (o h t : Int) (hl : as_.length < 1000000000) : ∀ (n k : Nat) (i : Nat), i + n = as_.length → n < k → ridgewayref07_SamePath.l0 k (i : Int) o as_ h t o as_ h t = some true := by
  intro n
  induction n with
  | zero =>
    intro k i hi hk
    obtain ⟨k, rfl⟩ : ∃ k', k = k' + 1 := ⟨k - 1, by omega⟩
    rw [ridgewayref07_SamePath.l0, if_neg (by omega)]
  | succ n ih =>
    intro k i hi hk
    obtain ⟨k, rfl⟩ : ∃ k', k = k' + 1 := ⟨k - 1, by omega⟩
    rw [ridgewayref07_SamePath.l0, if_pos (by omega), if_pos (by omega), if_pos (by omega), if_pos rfl, w64 (by omega) (by omega)]
    exact ih k (i + 1) (by omega) (by omega)
theorem same_refl (k : Nat) (o : Int) (as_ : List Int) (h t : Int) (hl : as_.length < 1000000000) (hk : as_.length + 3 ≤ k) : ridgewayref07_SamePath.f k o as_ h t o as_ h t = some true := by
  obtain ⟨k, rfl⟩ : ∃ k', k = k' + 1 := ⟨k - 1, by omega⟩
  unfold ridgewayref07_SamePath.f
  rw [if_pos rfl, if_pos rfl, if_pos rfl, ridgewayref07_SamePath.j0, if_neg (by simp)]
  exact same_loop as_ o h t hl as_.length k 0 (by omega) (by omega)
/-- How long the path's ASes come to be. -/
theorem judgeL_len : ∀ (l : List S24) (seen : List Int) (p : Pth) (sp : Bool) (R : JR) (n : Nat), (∀ a ∈ l, a.f2.length < n) → p.2.1.length < n → 0 < n → judgeL 100 l seen p sp = some R → R.2.1.length < n
  | [], seen, p, sp, R, n, _, hp, hn, h => by
    simp only [judgeL, Option.some.injEq] at h
    subst h
    split
    · exact hn
    · exact hp
  | ⟨f0, f1, f2⟩ :: l, seen, p, sp, R, n, hl, hp, hn, h => by
    have hl' : ∀ a ∈ l, a.f2.length < n := fun a ha => hl a (by simp [ha])
    have h2 : f2.length < n := hl ⟨f0, f1, f2⟩ (by simp)
    rw [judgeL_cons] at h
    split at h
    · exact judgeL_len l _ _ _ R n hl' hp hn h
    split at h
    · split at h
      · exact judgeL_len l _ _ _ R n hl' hp hn h
      · obtain ⟨r, hr, h⟩ := Option.bind_eq_some_iff.mp h
        refine judgeL_len l _ _ _ R n hl' ?_ hn h
        unfold rdF at hr
        split at hr
        · cases hr
          split
          · exact hp
          · exact hp
        split at hr
        · obtain ⟨q, hq, hr⟩ := Option.bind_eq_some_iff.mp hr
          cases hr
          have := (segL_len _ _ _ _ hq).2
          simp only [List.length_nil] at this
          dsimp only
          omega
        split at hr
        · obtain ⟨q, hq, hr⟩ := Option.bind_eq_some_iff.mp hr
          cases hr
          exact hp
        split at hr
        · cases hr
          exact hp
        · obtain ⟨q, hq, hr⟩ := Option.bind_eq_some_iff.mp hr
          cases hr
          exact hp
    split at h
    · obtain ⟨q, hq, h⟩ := Option.bind_eq_some_iff.mp h
      cases h
      exact hn
    · exact judgeL_len l _ _ _ R n hl' hp hn h
end Go.Proofs.Ytfmhclbcoladpaa.Pure
