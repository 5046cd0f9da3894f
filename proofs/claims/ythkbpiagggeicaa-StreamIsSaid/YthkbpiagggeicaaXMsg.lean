/- What msg.Put and msg.Get and the document's answers come to, in plain words (putV, getV). Conditions: rounds enough (40), octets are octets, at most 1000000 of them. -/
import Derived.Test.YthkbpiagggeicaaXOctetPG
import Derived.Test.YthkbpiagggeicaaQx1
import Derived.Test.YthkbpiagggeicaaQx2
import Derived.Test.YthkbpiagggeicaaQx5
namespace Go.Proofs.Ythkbpiagggeicaa.Pure
open Go.RowKit Go.Proofs.Ythkbpiagggeicaa.Q Go.Proofs.YthkbpiagggeicaaW.PrintWords Go.Proofs.YthkbpiagggeicaaW.PrintLast Go.Proofs.YthkbpiagggeicaaW.PrintMore Go.Proofs.YthkbpiagggeicaaW.PrintX
set_option linter.unusedVariables false
set_option linter.unusedSimpArgs false
def leastV (t : Int) : Int := if t = 1 then 29 else if t = 2 then 23 else if t = 3 then 21 else if t = 4 then 19 else 0
def fitsV (t s : Int) : Bool := decide (leastV t > 0) && (decide (s ≥ leastV t) && (decide (s ≤ 4096) && (if t = 4 then s == leastV t else true)))
def saneV (t : Int) (b : List Int) : Bool := fitsV t (19 + b.length)
def encM (t : Int) (b : List Int) : List Int := List.replicate 16 255 ++ putL (19 + (b.length : Int)) 2 ++ putL t 1 ++ b
def putV (l : List Int) (t : Int) (b : List Int) : List Int := if saneV t b = true then l ++ encM t b else l
theorem least_eq (t : Int) : msg_Least.f t = some (leastV t) := by
  unfold msg_Least.f leastV
  (repeat' split) <;> rfl
theorem fits_eq (t s : Int) : msg_fits.f t s = some (fitsV t s) := by
  unfold msg_fits.f fitsV
  rw [least_eq]
  simp only [Option.bind_some]
  (repeat' split) <;> simp_all <;> omega
theorem sane_eq (t : Int) (b : List Int) (hb : b.length ≤ 1000000) : msg_Sane.f t b = some (saneV t b) := by
  unfold msg_Sane.f saneV
  rw [w64 (by omega) (by omega), fits_eq]
  rfl
theorem msg_put (k : Nat) (l : List Int) (t : Int) (b : List Int) (hk : 7 ≤ k) (hl : l.length ≤ 1000000) (hb : b.length ≤ 1000000) : msg_Put.f k l t b = some (putV l t b) := by
  unfold msg_Put.f putV
  rw [sane_eq t b hb]
  simp only [Option.bind_some]
  cases hs : saneV t b
  · rw [if_neg (by decide), if_neg (by decide)]
    unfold slices_Clone_byte_byte.f
    rw [if_pos (by omega)]
    rfl
  · rw [if_pos rfl, if_pos rfl]
    unfold bytes_Repeat.f
    rw [if_pos ⟨rfl, rfl⟩]
    simp only [Option.bind_some]
    unfold slices_Concat_byte_byte.f
    rw [if_pos (by constructor <;> simp <;> omega)]
    simp only [Option.bind_some]
    rw [w64 (n := 19 + (b.length : Int)) (by omega) (by omega)]
    have e : ([l, List.replicate 16 255] : List (List Int)).flatten = l ++ List.replicate 16 255 := by simp
    rw [e, octet_put k _ _ 2 hk (by simp; omega), if_neg (by omega), show (2 : Int).toNat = 2 from rfl]
    simp only [Option.bind_some]
    rw [octet_put k _ _ 1 hk (by simp [putL_length]; omega), if_neg (by omega), show (1 : Int).toNat = 1 from rfl]
    simp only [Option.bind_some]
    rw [if_pos (by simp [putL_length]; omega)]
    unfold encM
    simp only [List.append_assoc]
def getV (l : List Int) : Int × List Int × Int × Int × Int × List Int :=
  if (l.length : Int) < 19 then (0, [], 0, 0, 0, [])
  else if (l.take 16).any (fun c => c != 255) = true then (0, [], 0, 1, 1, [])
  else if getL ((l.drop 16).take 2) < 19 ∨ getL ((l.drop 16).take 2) > 4096 then (0, [], 0, 1, 2, (l.take 18).drop 16)
  else if leastV (rd l 18) = 0 then (0, [], 0, 1, 3, [rd l 18])
  else if fitsV (rd l 18) (getL ((l.drop 16).take 2)) = false then (0, [], 0, 1, 2, (l.take 18).drop 16)
  else if (l.length : Int) < getL ((l.drop 16).take 2) then (0, [], 0, 0, 0, [])
  else (rd l 18, (l.take (getL ((l.drop 16).take 2)).toNat).drop 19, getL ((l.drop 16).take 2), 0, 0, [])
theorem msg_get (k : Nat) (l : List Int) (h : Octs l) (hl : l.length ≤ 1000000) (hk : 8 ≤ k) : msg_Get.f k l = some (getV l) := by
  unfold msg_Get.f getV
  by_cases c0 : (l.length : Int) < 19
  · rw [if_pos c0, if_pos c0]
  · rw [if_neg c0, if_neg c0, if_pos (by omega)]
    rw [octet_getS k (l.drop 16) 2 (by omega) (h.drop 16) (by omega) (by omega) (by rw [List.length_drop]; omega)]
    simp only [Option.bind_some]
    rw [if_pos (by omega), if_pos (by omega), if_pos (by omega)]
    unfold slices_Clone_byte_byte.f
    rw [if_pos (by rw [List.length_drop, List.length_take]; omega)]
    simp only [Option.bind_some]
    unfold slices_ContainsFunc_byte_byte.f
    rw [if_pos (by rw [List.length_take]; omega)]
    simp only [Option.bind_some]
    rw [show (2 : Int).toNat = 2 from rfl]
    have hs := getL_bounds ((l.drop 16).take 2) ((h.drop 16).take 2)
    have hs2 := getL_lt2 ((l.drop 16).take 2) ((h.drop 16).take 2) (by rw [List.length_take]; omega)
    have hr := h.rd 18
    rw [w64 (n := rd l 18) (by omega) (by omega)]
    generalize getL ((l.drop 16).take 2) = s at *
    have hs0 := hs.1
    clear hs
    by_cases c1 : (l.take 16).any (fun c => c != 255) = true
    · rw [if_pos c1, if_pos c1]
    · rw [if_neg c1, if_neg c1]
      obtain ⟨k, rfl⟩ : ∃ m, k = m + 1 := ⟨k - 1, by omega⟩
      have j0 : ∀ b : Bool, (b = true ↔ s < 19 ∨ s > 4096) → msg_Get.j0 (k + 1) l s (rd l 18) b 1 2 ((l.take 18).drop 16) = some (if s < 19 ∨ s > 4096 then (0, [], 0, 1, 2, (l.take 18).drop 16) else if leastV (rd l 18) = 0 then (0, [], 0, 1, 3, [rd l 18]) else if fitsV (rd l 18) s = false then (0, [], 0, 1, 2, (l.take 18).drop 16) else if (l.length : Int) < s then (0, [], 0, 0, 0, []) else (rd l 18, (l.take s.toNat).drop 19, s, 0, 0, [])) := by
        intro b hb
        simp only [msg_Get.j0]
        by_cases c2 : s < 19 ∨ s > 4096
        · rw [if_pos (hb.mpr c2), if_pos c2]
        · rw [if_neg (fun e => c2 (hb.mp e)), if_neg c2, least_eq]
          simp only [Option.bind_some]
          by_cases c3 : leastV (rd l 18) = 0
          · rw [if_pos c3, if_pos c3, if_pos (by omega)]
          · rw [if_neg c3, if_neg c3, fits_eq]
            simp only [Option.bind_some]
            cases c4 : fitsV (rd l 18) s
            · rw [if_neg (by decide), if_pos rfl]
            · simp only [eq_self_iff_true, if_true, Bool.true_eq_false, if_false]
              by_cases c5 : (l.length : Int) < s
              · rw [if_pos c5, if_pos c5]
              · rw [if_neg c5, if_neg c5, if_pos (by omega), if_pos (by omega)]
                unfold slices_Clone_byte_byte.f
                rw [if_pos (by rw [List.length_drop, List.length_take]; omega)]
                rfl
      by_cases c2 : s < 19
      · rw [if_pos c2, j0 true (by simp [c2])]
      · rw [if_neg c2, j0 _ (by simp [c2])]
end Go.Proofs.Ythkbpiagggeicaa.Pure
