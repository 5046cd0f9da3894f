/- What open.each and open.Get come to, in plain words. Conditions: octets are octets; at most 4999 of them. -/
import Derived.Test.YtedahidfbplpkaaXOctetT
import Derived.Test.YtedahidfbplpkaaXMsgS
import Derived.Test.YtedahidfbplpkaaQx2
import Derived.Test.YtedahidfbplpkaaQx3
import Derived.Test.YtedahidfbplpkaaQx4
namespace Go.Proofs.Ytedahidfbplpkaa.Pure
open Go.RowKit Go.Proofs.Ytedahidfbplpkaa.Q Go.Proofs.YtedahidfbplpkaaW.PrintWords Go.Proofs.YtedahidfbplpkaaW.PrintLast Go.Proofs.YtedahidfbplpkaaW.PrintMore Go.Proofs.YtedahidfbplpkaaW.PrintX
set_option linter.unusedVariables false
set_option linter.unusedSimpArgs false
theorem get1 (x : Int) (l : List Int) (h : Octs (x :: l)) : octet_Get.f 8 (x :: l) 1 = some (x, l, true) := by
  rw [octet_getS 8 (x :: l) 1 (by omega) h (by omega) (by omega) (by simp; omega)]
  simp [getL]
theorem get0 : octet_Get.f 8 [] 1 = some (0, [], false) := octet_getF 8 [] 1 (by omega) Octs.nil (by simp)
theorem each_nil (f : Int × Int → Int → List Int → Option (Int × Bool × (Int × Int))) (k : Nat) (st : Int × Int) : eachG f (k + 1) st [] = some (0, true, st) := by
  simp [eachG]
theorem each_one (f : Int × Int → Int → List Int → Option (Int × Bool × (Int × Int))) (k : Nat) (st : Int × Int) (x : Int) (h : Octs [x]) : eachG f (k + 1) st [x] = some (0, false, st) := by
  simp only [eachG]
  rw [if_pos (by simp), get1 x [] h]
  simp only [Option.bind_some]
  rw [get0]
  simp
theorem each_cut (f : Int × Int → Int → List Int → Option (Int × Bool × (Int × Int))) (k : Nat) (st : Int × Int) (x n : Int) (r : List Int) (h : Octs (x :: n :: r)) (hn : n > (r.length : Int)) : eachG f (k + 1) st (x :: n :: r) = some (0, false, st) := by
  simp only [eachG]
  rw [if_pos (by simp only [List.length_cons]; omega), get1 x _ h]
  simp only [Option.bind_some]
  rw [get1 n r h.tail]
  simp only [Option.bind_some, if_true]
  rw [octet_takeF r n (.inr hn)]
  simp
theorem each_cons (f : Int × Int → Int → List Int → Option (Int × Bool × (Int × Int))) (k : Nat) (st : Int × Int) (x n : Int) (r : List Int) (h : Octs (x :: n :: r)) (hn : n ≤ (r.length : Int)) :
    eachG f (k + 1) st (x :: n :: r) = (f st x (r.take n.toNat)).bind fun q => if q.2.1 = true then eachG f k q.2.2 (r.drop n.toNat) else some (q.1, false, q.2.2) := by
  have h0 := h.tail.head
  simp only [eachG]
  rw [if_pos (by simp only [List.length_cons]; omega), get1 x _ h]
  simp only [Option.bind_some]
  rw [get1 n r h.tail]
  simp only [Option.bind_some, if_true]
  rw [octet_takeS r n h0.1 hn]
  simp only [Option.bind_some, if_true]
theorem each_ok (P : Int × Int → Prop) (f : Int × Int → Int → List Int → Option (Int × Bool × (Int × Int))) (hf : ∀ st kind x, P st → x.length < 5000 → Octs x → ∃ sub ok st', f st kind x = some (sub, ok, st') ∧ P st') :
    ∀ (k : Nat) (st : Int × Int) (b : List Int), Octs b → b.length < k → b.length < 5000 → P st → ∃ sub ok st', eachG f k st b = some (sub, ok, st') ∧ P st' := by
  intro k
  induction k with
  | zero => intro st b _ hk; omega
  | succ k ih =>
    intro st b hb hk h5 hP
    cases b with
    | nil => exact ⟨0, true, st, each_nil f k st, hP⟩
    | cons x b =>
      cases b with
      | nil => exact ⟨0, false, st, each_one f k st x hb, hP⟩
      | cons n r =>
        simp only [List.length_cons] at hk h5
        by_cases hn : n > (r.length : Int)
        · exact ⟨0, false, st, each_cut f k st x n r hb hn, hP⟩
        · rw [each_cons f k st x n r hb (by omega)]
          obtain ⟨sub, ok, st', h1, h2⟩ := hf st x (r.take n.toNat) hP (by rw [List.length_take]; omega) (hb.tail.tail.take _)
          rw [h1]
          simp only [Option.bind_some]
          cases ok
          · exact ⟨sub, false, st', by simp, h2⟩
          · obtain ⟨s2, o2, st2, h3, h4⟩ := ih st' (r.drop n.toNat) (hb.tail.tail.drop _) (by rw [List.length_drop]; omega) (by rw [List.length_drop]; omega) h2
            exact ⟨s2, o2, st2, by simp [h3], h4⟩
/-- The state that a reader may have. -/
def RD (st : Int × Int) : Prop := -1 ≤ st.1 ∧ st.1 < 4294967296 ∧ -1 ≤ st.2 ∧ st.2 < 256
theorem open1_ok (st : Int × Int) (code : Int) (x : List Int) (h : RD st) (hx : Octs x) : ∃ sub ok st', open1 st code x = some (sub, ok, st') ∧ RD st' := by
  obtain ⟨h1, h2, h3, h4⟩ := h
  unfold open1
  by_cases c1 : (code = 65 ∧ (x.length : Int) ≠ 4) ∨ (code = 9 ∧ (x.length : Int) ≠ 1)
  · rw [if_pos c1]
    exact ⟨_, _, _, rfl, h1, h2, h3, h4⟩
  rw [if_neg c1]
  by_cases c2 : code = 65 ∧ st.1 < 0
  · have hl : (x.length : Int) = 4 := by omega
    rw [if_pos c2, octet_getS 8 x 4 (by omega) hx (by omega) (by omega) (by omega)]
    have hb := getL_bounds (x.take 4) (hx.take 4)
    have hb2 := getL_lt4 (x.take 4) (hx.take 4) (by rw [List.length_take]; omega)
    exact ⟨_, _, _, rfl, by show -1 ≤ getL (x.take 4); omega, hb2, h3, h4⟩
  rw [if_neg c2]
  by_cases c3 : code = 9 ∧ 0 ≤ st.2 ∧ st.2 ≠ wrap64 (rd x 0)
  · rw [if_pos c3]
    exact ⟨_, _, _, rfl, h1, h2, h3, h4⟩
  rw [if_neg c3]
  by_cases c4 : code = 9
  · rw [if_pos c4]
    have hr := hx.rd 0
    rw [w64 (n := rd x 0) (by omega) (by omega)]
    exact ⟨_, _, _, rfl, h1, h2, by show -1 ≤ rd x 0; omega, hr.2⟩
  · rw [if_neg c4]
    exact ⟨_, _, _, rfl, h1, h2, h3, h4⟩
theorem open2_ok (st : Int × Int) (kind : Int) (x : List Int) (h : RD st) (hl : x.length < 5000) (hx : Octs x) : ∃ sub ok st', open2 st kind x = some (sub, ok, st') ∧ RD st' := by
  unfold open2
  by_cases c : kind = 2
  · rw [if_pos c]
    exact each_ok RD open1 (fun st kind x hP hl hx => open1_ok st kind x hP hx) 5000 st x hx hl hl h
  · rw [if_neg c]
    exact ⟨_, _, _, rfl, h⟩
theorem reads_ok (b : List Int) (hl : b.length < 5000) (hb : Octs b) : ∃ sub ok st', eachG open2 5000 (-1, -1) b = some (sub, ok, st') ∧ RD st' :=
  each_ok RD open2 (fun st kind x hP hl hx => open2_ok st kind x hP hl hx) 5000 (-1, -1) b hb hl hl ⟨by simp, by simp, by simp, by simp⟩
def twoV (a : Int) : Int := if a > 65535 then 23456 else a
theorem written_eq (a : Int) : open_written.f a = some (twoV a) := by
  unfold open_written.f twoV
  split <;> rfl
/-- What the fields and what the reader found come to. -/
def judge (lg rl ax s hh ii : Int) : Int × Int × Int × Int × Int × Int × List Int :=
  if lg < 0 then (0, 0, 0, 0, 2, 7, [65, 0]) else if lg = 0 ∨ lg ≠ ax ∨ s ≠ twoV lg then (0, 0, 0, 0, 2, 2, []) else if hh = 1 ∨ hh = 2 then (0, 0, 0, 0, 2, 6, []) else if ii = 0 then (0, 0, 0, 0, 2, 3, []) else (lg, hh, ii, rl, 0, 0, [])
theorem saneV1 (b : List Int) (h : saneV 1 b = true) : 10 ≤ b.length ∧ b.length ≤ 4077 := by
  unfold saneV fitsV leastV at h
  simp only [eq_self_iff_true, if_true, Bool.and_eq_true, decide_eq_true_eq] at h
  omega
/-- A body in its parts. -/
theorem get_form (a0 n ax : Int) (s hh ii tl : List Int) (hs : s.length = 2) (hh2 : hh.length = 2) (hi : ii.length = 4) (ho : Octs (a0 :: (s ++ (hh ++ (ii ++ (n :: tl)))))) (hl : tl.length ≤ 4067) :
    open_Get.f 1 (a0 :: (s ++ (hh ++ (ii ++ (n :: tl))))) ax = if a0 = 4 then if n = (tl.length : Int) then (eachG open2 5000 (-1, -1) tl).bind fun e => if e.2.1 = true then some (judge e.2.2.1 e.2.2.2 ax (getL s) (getL hh) (getL ii)) else some (0, 0, 0, 0, 2, e.1, []) else some (0, 0, 0, 0, 2, 0, []) else some (0, 0, 0, 0, 2, 1, [0, 4]) := by
  have hlen : (a0 :: (s ++ (hh ++ (ii ++ (n :: tl))))).length = 10 + tl.length := by simp only [List.length_cons, List.length_append, hs, hh2, hi]; omega
  have o1 : Octs (s ++ (hh ++ (ii ++ (n :: tl)))) := ho.tail
  have os : Octs s := fun x hx => o1 x (List.mem_append_left _ hx)
  have o2 : Octs (hh ++ (ii ++ (n :: tl))) := fun x hx => o1 x (List.mem_append_right _ hx)
  have o3 : Octs (ii ++ (n :: tl)) := fun x hx => o2 x (List.mem_append_right _ hx)
  have d1 : (a0 :: (s ++ (hh ++ (ii ++ (n :: tl))))).drop 1 = s ++ (hh ++ (ii ++ (n :: tl))) := rfl
  have ds : (s ++ (hh ++ (ii ++ (n :: tl)))).drop 2 = hh ++ (ii ++ (n :: tl)) := by rw [List.drop_append_of_le_length (by omega), List.drop_of_length_le (by omega), List.nil_append]
  have dh : (hh ++ (ii ++ (n :: tl))).drop 2 = ii ++ (n :: tl) := by rw [List.drop_append_of_le_length (by omega), List.drop_of_length_le (by omega), List.nil_append]
  have di : (ii ++ (n :: tl)).drop 4 = n :: tl := by rw [List.drop_append_of_le_length (by omega), List.drop_of_length_le (by omega), List.nil_append]
  have ts : (s ++ (hh ++ (ii ++ (n :: tl)))).take 2 = s := by rw [List.take_append_of_le_length (by omega), List.take_of_length_le (by omega)]
  have th : (hh ++ (ii ++ (n :: tl))).take 2 = hh := by rw [List.take_append_of_le_length (by omega), List.take_of_length_le (by omega)]
  have ti : (ii ++ (n :: tl)).take 4 = ii := by rw [List.take_append_of_le_length (by omega), List.take_of_length_le (by omega)]
  have d9 : (a0 :: (s ++ (hh ++ (ii ++ (n :: tl))))).drop 9 = n :: tl := by
    rw [show 9 = 1 + (2 + (2 + 4)) from rfl, ← List.drop_drop, d1, ← List.drop_drop, ds, ← List.drop_drop, dh, di]
  have d10 : (a0 :: (s ++ (hh ++ (ii ++ (n :: tl))))).drop 10 = tl := by
    rw [show 10 = 9 + 1 from rfl, ← List.drop_drop, d9]
    rfl
  have r9 : rd (a0 :: (s ++ (hh ++ (ii ++ (n :: tl))))) 9 = n := by
    have h := congrArg (fun l => l[0]?) d9
    simp only [List.getElem?_drop, List.getElem?_cons_zero] at h
    unfold rd
    rw [List.getD_eq_getElem?_getD, show (9 : Int).toNat = 9 + 0 from rfl, h]
    rfl
  have hn : 0 ≤ n ∧ n < 256 := ho n (by simp)
  have hsv : saneV 1 (a0 :: (s ++ (hh ++ (ii ++ (n :: tl))))) = true := by
    unfold saneV fitsV leastV
    rw [hlen]
    simp
    omega
  unfold open_Get.f
  rw [if_pos rfl, sane_eq _ _ (by rw [hlen]; omega), hsv]
  simp only [Option.bind_some, if_true]
  rw [if_pos ⟨by rw [hlen]; omega, by rw [hlen]; omega, by rw [r9]; exact hn.1, by rw [r9]; exact hn.2⟩, r9, hlen, d10, d1, show rd (a0 :: (s ++ (hh ++ (ii ++ (n :: tl))))) 0 = a0 from rfl]
  by_cases c1 : a0 = 4
  · rw [if_pos c1, if_pos c1]
    by_cases c2 : n = (tl.length : Int)
    · rw [if_pos c2, if_pos (by omega)]
      congr 1
      funext e
      rw [octet_getS 8 _ 2 (by omega) o1 (by omega) (by omega) (by simp only [List.length_append, hs, hh2]; omega)]
      simp only [Option.bind_some, show (2 : Int).toNat = 2 from rfl, ts, ds]
      rw [octet_getS 8 _ 2 (by omega) o2 (by omega) (by omega) (by simp only [List.length_append, hh2, hi]; omega)]
      simp only [Option.bind_some, show (2 : Int).toNat = 2 from rfl, th, dh]
      rw [octet_getS 8 _ 4 (by omega) o3 (by omega) (by omega) (by simp only [List.length_append, hi]; omega)]
      simp only [Option.bind_some, show (4 : Int).toNat = 4 from rfl, ti, di]
      rw [written_eq]
      simp only [Option.bind_some]
      rfl
    · rw [if_neg c2, if_neg (by omega)]
  · rw [if_neg c1, if_neg c1]
end Go.Proofs.Ytedahidfbplpkaa.Pure
