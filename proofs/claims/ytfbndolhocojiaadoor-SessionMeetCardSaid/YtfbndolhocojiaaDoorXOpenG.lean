/- What open.each and open.Get come to, in plain words. Conditions: octets are octets; at most 4999 of them. -/
import Derived.Test.YtfbndolhocojiaaDoorXOctetT
import Derived.Test.YtfbndolhocojiaaDoorXMsgS
import Derived.Test.YtfbndolhocojiaaDoorMx11
import Derived.Test.YtfbndolhocojiaaDoorMx7
import Derived.Test.YtfbndolhocojiaaDoorMx8
namespace Go.Proofs.YtfbndolhocojiaaDoor.Pure
open Go.RowKit Go.Proofs.YtfbndolhocojiaaDoor.M Go.Proofs.YtfbndolhocojiaaDoorW.PrintWords Go.Proofs.YtfbndolhocojiaaDoorW.PrintLast Go.Proofs.YtfbndolhocojiaaDoorW.PrintMore Go.Proofs.YtfbndolhocojiaaDoorW.PrintX
set_option linter.unusedVariables false
set_option linter.unusedSimpArgs false
theorem get1 (x : Int) (l : List Int) (h : Octs (x :: l)) : octet_Get.f 8 (x :: l) 1 = some (x, l, true) := by
  rw [octet_getS 8 (x :: l) 1 (by omega) h (by omega) (by omega) (by simp; omega)]
  simp [getL]
theorem each_nil (f : Int × Int → Int → List Int → Option (Int × Bool × (Int × Int))) (k : Nat) (st : Int × Int) : eachG f (k + 1) st [] = some (0, true, st) := by
  simp [eachG]
theorem each_cons (f : Int × Int → Int → List Int → Option (Int × Bool × (Int × Int))) (k : Nat) (st : Int × Int) (x n : Int) (r : List Int) (h : Octs (x :: n :: r)) (hn : n ≤ (r.length : Int)) :
    eachG f (k + 1) st (x :: n :: r) = (f st x (r.take n.toNat)).bind fun q => if q.2.1 = true then eachG f k q.2.2 (r.drop n.toNat) else some (q.1, false, q.2.2) := by
  have h0 := h.tail.head
  simp only [eachG]
  rw [if_pos (by simp only [List.length_cons]; omega), get1 x _ h]
  simp only [Option.bind_some]
  rw [get1 n r h.tail]
  simp only [Option.bind_some, if_true]
  rw [octet_takeS r n h0.1 hn]
  simp only [Option.bind_some, if_true]
def twoV (a : Int) : Int := if a > 65535 then 23456 else a
theorem written_eq (a : Int) : open_written.f a = some (twoV a) := by
  unfold open_written.f twoV
  split <;> rfl
/-- What the fields and what the reader found come to. -/
def judge (lg rl ax s hh ii : Int) : Int × Int × Int × Int × Int × Int × List Int :=
  if lg < 0 then (0, 0, 0, 0, 2, 7, [65, 0]) else if lg = 0 ∨ lg ≠ ax ∨ s ≠ twoV lg then (0, 0, 0, 0, 2, 2, []) else if hh = 1 ∨ hh = 2 then (0, 0, 0, 0, 2, 6, []) else if ii = 0 then (0, 0, 0, 0, 2, 3, []) else (lg, hh, ii, rl, 0, 0, [])
/-- A body in its parts. -/
theorem get_form (a0 n ax : Int) (s hh ii tl : List Int) (hs : s.length = 2) (hh2 : hh.length = 2) (hi : ii.length = 4) (ho : Octs (a0 :: (s ++ (hh ++ (ii ++ (n :: tl)))))) (hl : tl.length ≤ 4067) :
    open_Get.f 1 (a0 :: (s ++ (hh ++ (ii ++ (n :: tl))))) ax = if a0 = 4 then if n = (tl.length : Int) then (eachG open2 5000 (-1, -1) tl).bind fun e => if e.2.1 = true then some (judge e.2.2.1 e.2.2.2 ax (getL s) (getL hh) (getL ii)) else some (0, 0, 0, 0, 2, e.1, []) else some (0, 0, 0, 0, 2, 0, []) else some (0, 0, 0, 0, 2, 1, [0, 4]) := by
  have hlen : (a0 :: (s ++ (hh ++ (ii ++ (n :: tl))))).length = 10 + tl.length := by simp only [List.length_cons, List.length_append, hs, hh2, hi]; omega
  have o1 : Octs (s ++ (hh ++ (ii ++ (n :: tl)))) := ho.tail
  have os : Octs s := fun x hx => o1 x (List.mem_append_left _ hx)
  have o2 : Octs (hh ++ (ii ++ (n :: tl))) := fun x hx => o1 x (List.mem_append_right _ hx)
  have o3 : Octs (ii ++ (n :: tl)) := fun x hx => o2 x (List.mem_append_right _ hx)
  have d1 : (a0 :: (s ++ (hh ++ (ii ++ (n :: tl))))).drop 1 = s ++ (hh ++ (ii ++ (n :: tl))) := rfl
  have ds : (s ++ (hh ++ (ii ++ (n :: tl)))).drop 2 = hh ++ (ii ++ (n :: tl)) := by rw [List.drop_append_of_le_length (by omega), List.drop_of_length_le (by omega), List.nil_append]
  have dh : (hh ++ (ii ++ (n :: tl))).drop 2 = ii ++ (n :: tl) := by rw [List.drop_append_of_le_length (by omega), List.drop_of_length_le (by omega), List.nil_append]
  have di : (ii ++ (n :: tl)).drop 4 = n :: tl := by rw [List.drop_append_of_le_length (by omega), List.drop_of_length_le (by omega), List.nil_append]
  have ts : (s ++ (hh ++ (ii ++ (n :: tl)))).take 2 = s := by rw [List.take_append_of_le_length (by omega), List.take_of_length_le (by omega)]
  have th : (hh ++ (ii ++ (n :: tl))).take 2 = hh := by rw [List.take_append_of_le_length (by omega), List.take_of_length_le (by omega)]
  have ti : (ii ++ (n :: tl)).take 4 = ii := by rw [List.take_append_of_le_length (by omega), List.take_of_length_le (by omega)]
  have d9 : (a0 :: (s ++ (hh ++ (ii ++ (n :: tl))))).drop 9 = n :: tl := by
    rw [show 9 = 1 + (2 + (2 + 4)) from rfl, ← List.drop_drop, d1, ← List.drop_drop, ds, ← List.drop_drop, dh, di]
  have d10 : (a0 :: (s ++ (hh ++ (ii ++ (n :: tl))))).drop 10 = tl := by
    rw [show 10 = 9 + 1 from rfl, ← List.drop_drop, d9]
    rfl
  have r9 : rd (a0 :: (s ++ (hh ++ (ii ++ (n :: tl))))) 9 = n := by
    have h := congrArg (fun l => l[0]?) d9
    simp only [List.getElem?_drop, List.getElem?_cons_zero] at h
    unfold rd
    rw [List.getD_eq_getElem?_getD, show (9 : Int).toNat = 9 + 0 from rfl, h]
    rfl
  have hn : 0 ≤ n ∧ n < 256 := ho n (by simp)
  have hsv : saneV 1 (a0 :: (s ++ (hh ++ (ii ++ (n :: tl))))) = true := by
    unfold saneV fitsV leastV
    rw [hlen]
    simp
    omega
  unfold open_Get.f
  rw [if_pos rfl, sane_eq _ _ (by rw [hlen]; omega), hsv]
  simp only [Option.bind_some, if_true]
  rw [if_pos ⟨by rw [hlen]; omega, by rw [hlen]; omega, by rw [r9]; exact hn.1, by rw [r9]; exact hn.2⟩, r9, hlen, d10, d1, show rd (a0 :: (s ++ (hh ++ (ii ++ (n :: tl))))) 0 = a0 from rfl]
  by_cases c1 : a0 = 4
  · rw [if_pos c1, if_pos c1]
    by_cases c2 : n = (tl.length : Int)
    · rw [if_pos c2, if_pos (by omega)]
      congr 1
      funext e
      rw [octet_getS 8 _ 2 (by omega) o1 (by omega) (by omega) (by simp only [List.length_append, hs, hh2]; omega)]
      simp only [Option.bind_some, show (2 : Int).toNat = 2 from rfl, ts, ds]
      rw [octet_getS 8 _ 2 (by omega) o2 (by omega) (by omega) (by simp only [List.length_append, hh2, hi]; omega)]
      simp only [Option.bind_some, show (2 : Int).toNat = 2 from rfl, th, dh]
      rw [octet_getS 8 _ 4 (by omega) o3 (by omega) (by omega) (by simp only [List.length_append, hi]; omega)]
      simp only [Option.bind_some, show (4 : Int).toNat = 4 from rfl, ti, di]
      rw [written_eq]
      simp only [Option.bind_some]
      rfl
    · rw [if_neg c2, if_neg (by omega)]
  · rw [if_neg c1, if_neg c1]
end Go.Proofs.YtfbndolhocojiaaDoor.Pure
