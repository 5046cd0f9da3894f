/- What open.each and open.Get come to, in plain words. Conditions: octets are octets; at most 4999 of them. -/
import Derived.Test.YtfbndolhocojiaaDoorXOctetT
import Derived.Test.YtfbndolhocojiaaDoorXMsgS
import Derived.Test.YtfbndolhocojiaaDoorKx11
import Derived.Test.YtfbndolhocojiaaDoorKx7
import Derived.Test.YtfbndolhocojiaaDoorKx8
namespace Go.Proofs.YtfbndolhocojiaaDoor.Pure
open Go.RowKit Go.Proofs.YtfbndolhocojiaaDoor.K Go.Proofs.YtfbndolhocojiaaDoorW.PrintWords Go.Proofs.YtfbndolhocojiaaDoorW.PrintLast Go.Proofs.YtfbndolhocojiaaDoorW.PrintMore Go.Proofs.YtfbndolhocojiaaDoorW.PrintX
set_option linter.unusedVariables false
set_option linter.unusedSimpArgs false
theorem get1 (x : Int) (l : List Int) (h : Octs (x :: l)) : octet_Get.f 8 (x :: l) 1 = some (x, l, true) := by
  rw [octet_getS 8 (x :: l) 1 (by omega) h (by omega) (by omega) (by simp; omega)]
  simp [getL]
theorem get0 : octet_Get.f 8 [] 1 = some (0, [], false) := octet_getF 8 [] 1 (by omega) Octs.nil (by simp)
theorem each_nil (f : Int × Int → Int → List Int → Option (Int × Bool × (Int × Int))) (k : Nat) (st : Int × Int) : eachG f (k + 1) st [] = some (0, true, st) := by
  simp [eachG]
theorem each_one (f : Int × Int → Int → List Int → Option (Int × Bool × (Int × Int))) (k : Nat) (st : Int × Int) (x : Int) (h : Octs [x]) : eachG f (k + 1) st [x] = some (0, false, st) := by
  simp only [eachG]
  rw [if_pos (by simp), get1 x [] h]
  simp only [Option.bind_some]
  rw [get0]
  simp
theorem each_cut (f : Int × Int → Int → List Int → Option (Int × Bool × (Int × Int))) (k : Nat) (st : Int × Int) (x n : Int) (r : List Int) (h : Octs (x :: n :: r)) (hn : n > (r.length : Int)) : eachG f (k + 1) st (x :: n :: r) = some (0, false, st) := by
  simp only [eachG]
  rw [if_pos (by simp only [List.length_cons]; omega), get1 x _ h]
  simp only [Option.bind_some]
  rw [get1 n r h.tail]
  simp only [Option.bind_some, if_true]
  rw [octet_takeF r n (.inr hn)]
  simp
theorem each_cons (f : Int × Int → Int → List Int → Option (Int × Bool × (Int × Int))) (k : Nat) (st : Int × Int) (x n : Int) (r : List Int) (h : Octs (x :: n :: r)) (hn : n ≤ (r.length : Int)) :
    eachG f (k + 1) st (x :: n :: r) = (f st x (r.take n.toNat)).bind fun q => if q.2.1 = true then eachG f k q.2.2 (r.drop n.toNat) else some (q.1, false, q.2.2) := by
  have h0 := h.tail.head
  simp only [eachG]
  rw [if_pos (by simp only [List.length_cons]; omega), get1 x _ h]
  simp only [Option.bind_some]
  rw [get1 n r h.tail]
  simp only [Option.bind_some, if_true]
  rw [octet_takeS r n h0.1 hn]
  simp only [Option.bind_some, if_true]
theorem each_ok (P : Int × Int → Prop) (f : Int × Int → Int → List Int → Option (Int × Bool × (Int × Int))) (hf : ∀ st kind x, P st → x.length < 5000 → Octs x → ∃ sub ok st', f st kind x = some (sub, ok, st') ∧ P st') :
    ∀ (k : Nat) (st : Int × Int) (b : List Int), Octs b → b.length < k → b.length < 5000 → P st → ∃ sub ok st', eachG f k st b = some (sub, ok, st') ∧ P st' := by
  intro k
  induction k with
  | zero => intro st b _ hk; omega
  | succ k ih =>
    intro st b hb hk h5 hP
    cases b with
    | nil => exact ⟨0, true, st, each_nil f k st, hP⟩
    | cons x b =>
      cases b with
      | nil => exact ⟨0, false, st, each_one f k st x hb, hP⟩
      | cons n r =>
        simp only [List.length_cons] at hk h5
        by_cases hn : n > (r.length : Int)
        · exact ⟨0, false, st, each_cut f k st x n r hb hn, hP⟩
        · rw [each_cons f k st x n r hb (by omega)]
          obtain ⟨sub, ok, st', h1, h2⟩ := hf st x (r.take n.toNat) hP (by rw [List.length_take]; omega) (hb.tail.tail.take _)
          rw [h1]
          simp only [Option.bind_some]
          cases ok
          · exact ⟨sub, false, st', by simp, h2⟩
          · obtain ⟨s2, o2, st2, h3, h4⟩ := ih st' (r.drop n.toNat) (hb.tail.tail.drop _) (by rw [List.length_drop]; omega) (by rw [List.length_drop]; omega) h2
            exact ⟨s2, o2, st2, by simp [h3], h4⟩
/-- The state that a reader may have. -/
def RD (st : Int × Int) : Prop := -1 ≤ st.1 ∧ st.1 < 4294967296 ∧ -1 ≤ st.2 ∧ st.2 < 256
theorem open1_ok (st : Int × Int) (code : Int) (x : List Int) (h : RD st) (hx : Octs x) : ∃ sub ok st', open1 st code x = some (sub, ok, st') ∧ RD st' := by
  obtain ⟨h1, h2, h3, h4⟩ := h
  unfold open1
  by_cases c1 : (code = 65 ∧ (x.length : Int) ≠ 4) ∨ (code = 9 ∧ (x.length : Int) ≠ 1)
  · rw [if_pos c1]
    exact ⟨_, _, _, rfl, h1, h2, h3, h4⟩
  rw [if_neg c1]
  by_cases c2 : code = 65 ∧ st.1 < 0
  · have hl : (x.length : Int) = 4 := by omega
    rw [if_pos c2, octet_getS 8 x 4 (by omega) hx (by omega) (by omega) (by omega)]
    have hb := getL_bounds (x.take 4) (hx.take 4)
    have hb2 := getL_lt4 (x.take 4) (hx.take 4) (by rw [List.length_take]; omega)
    exact ⟨_, _, _, rfl, by show -1 ≤ getL (x.take 4); omega, hb2, h3, h4⟩
  rw [if_neg c2]
  by_cases c3 : code = 9 ∧ 0 ≤ st.2 ∧ st.2 ≠ wrap64 (rd x 0)
  · rw [if_pos c3]
    exact ⟨_, _, _, rfl, h1, h2, h3, h4⟩
  rw [if_neg c3]
  by_cases c4 : code = 9
  · rw [if_pos c4]
    have hr := hx.rd 0
    rw [w64 (n := rd x 0) (by omega) (by omega)]
    exact ⟨_, _, _, rfl, h1, h2, by show -1 ≤ rd x 0; omega, hr.2⟩
  · rw [if_neg c4]
    exact ⟨_, _, _, rfl, h1, h2, h3, h4⟩
theorem open2_ok (st : Int × Int) (kind : Int) (x : List Int) (h : RD st) (hl : x.length < 5000) (hx : Octs x) : ∃ sub ok st', open2 st kind x = some (sub, ok, st') ∧ RD st' := by
  unfold open2
  by_cases c : kind = 2
  · rw [if_pos c]
    exact each_ok RD open1 (fun st kind x hP hl hx => open1_ok st kind x hP hx) 5000 st x hx hl hl h
  · rw [if_neg c]
    exact ⟨_, _, _, rfl, h⟩
theorem reads_ok (b : List Int) (hl : b.length < 5000) (hb : Octs b) : ∃ sub ok st', eachG open2 5000 (-1, -1) b = some (sub, ok, st') ∧ RD st' :=
  each_ok RD open2 (fun st kind x hP hl hx => open2_ok st kind x hP hl hx) 5000 (-1, -1) b hb hl hl ⟨by simp, by simp, by simp, by simp⟩
def twoV (a : Int) : Int := if a > 65535 then 23456 else a
theorem written_eq (a : Int) : open_written.f a = some (twoV a) := by
  unfold open_written.f twoV
  split <;> rfl
theorem saneV1 (b : List Int) (h : saneV 1 b = true) : 10 ≤ b.length ∧ b.length ≤ 4077 := by
  unfold saneV fitsV leastV at h
  simp only [eq_self_iff_true, if_true, Bool.and_eq_true, decide_eq_true_eq] at h
  omega
end Go.Proofs.YtfbndolhocojiaaDoor.Pure
