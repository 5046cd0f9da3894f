/- What open.Sane and open.Put come to, and that what is put is got, in plain words. Conditions: those in each statement. -/
import Derived.Test.YtfbndolhocojiaaDoorXOpenG
import Derived.Test.YtfbndolhocojiaaDoorKx7
import Derived.Test.YtfbndolhocojiaaDoorKx8
namespace Go.Proofs.YtfbndolhocojiaaDoor.Pure
open Go.RowKit Go.Proofs.YtfbndolhocojiaaDoor.K Go.Proofs.YtfbndolhocojiaaDoorW.PrintWords Go.Proofs.YtfbndolhocojiaaDoorW.PrintLast Go.Proofs.YtfbndolhocojiaaDoorW.PrintMore Go.Proofs.YtfbndolhocojiaaDoorW.PrintX
set_option linter.unusedVariables false
set_option linter.unusedSimpArgs false
def saneH (a h i r : Int) : Bool := (h == 0 || (decide (h ≥ 3) && decide (h ≤ 65535))) && (decide (a > 0) && (decide (a ≤ 4294967295) && (decide (i > 0) && (decide (i ≤ 4294967295) && (decide (r ≥ -1) && decide (r ≤ 4))))))
theorem saneH_eq (a h i r : Int) : open_Sane.f a h i r = some (saneH a h i r) := by
  unfold open_Sane.f saneH
  (repeat' split) <;> simp_all <;> omega
theorem saneH_iff (a h i r : Int) : saneH a h i r = true ↔ (h = 0 ∨ 3 ≤ h ∧ h ≤ 65535) ∧ 0 < a ∧ a ≤ 4294967295 ∧ 0 < i ∧ i ≤ 4294967295 ∧ -1 ≤ r ∧ r ≤ 4 := by
  unfold saneH
  simp only [Bool.and_eq_true, Bool.or_eq_true, beq_iff_eq, decide_eq_true_eq]
  first | done | omega
def roleL (r : Int) : List Int := if r ≥ 0 then [2, 3, 9, 1, r] else []
def tailH (a r : Int) : List Int := [2, 6, 65, 4] ++ (putL a 4 ++ roleL r)
def bodyH (a h i r : Int) : List Int := 4 :: (putL (twoV a) 2 ++ (putL h 2 ++ (putL i 4 ++ (((tailH a r).length : Int) :: tailH a r))))
theorem tlv_eq (k : Int) (b : List Int) (hb : b.length ≤ 1000) : open_tlv.f k b = some (k % 256 :: (b.length : Int) % 256 :: b) := by
  unfold open_tlv.f slices_Concat_byte_byte.f
  rw [if_pos (by constructor <;> simp <;> omega)]
  simp
theorem putL1' (v : Int) (h0 : 0 ≤ v) (h1 : v < 256) : putL v 1 = [v] := by simp [putL]; omega
theorem roleL_len (r : Int) : (roleL r).length = if r ≥ 0 then 5 else 0 := by
  unfold roleL
  split <;> rfl
theorem tail_len (a r : Int) : (tailH a r).length = if r ≥ 0 then 13 else 8 := by
  unfold tailH
  simp only [List.length_append, putL_length, roleL_len]
  split <;> rfl
theorem put_eq (k : Nat) (a h i r : Int) (hk : 8 ≤ k) : open_Put.f k a h i r = some (if saneH a h i r = true then (1, bodyH a h i r) else (0, [])) := by
  obtain ⟨k, rfl⟩ : ∃ m, k = m + 1 := ⟨k - 1, by omega⟩
  unfold open_Put.f
  rw [saneH_eq]
  simp only [Option.bind_some]
  cases hs : saneH a h i r
  · rw [if_neg (by decide), if_neg (by decide)]
  rw [if_pos rfl, if_pos rfl]
  obtain ⟨h1, h2, h3, h4, h5, h6, h7⟩ := (saneH_iff a h i r).mp hs
  rw [octet_put (k + 1) [] a 4 (by omega) (by simp), if_neg (by omega), show (4 : Int).toNat = 4 from rfl, List.nil_append]
  simp only [Option.bind_some]
  rw [tlv_eq 65 _ (by rw [putL_length]; omega)]
  simp only [Option.bind_some]
  rw [tlv_eq 2 _ (by simp only [List.length_cons, putL_length]; omega)]
  simp only [Option.bind_some, List.length_cons, putL_length]
  have key : ∀ tl : List Int, tl = tailH a r → open_Put.j0 (k + 1) tl a h i r = some (1, bodyH a h i r) := by
    intro tl ht
    have hl : tl.length ≤ 13 := by rw [ht, tail_len]; split <;> omega
    simp only [open_Put.j0]
    rw [written_eq]
    simp only [Option.bind_some]
    rw [octet_put k _ _ 2 (by omega) (by simp), if_neg (by omega), show (2 : Int).toNat = 2 from rfl]
    simp only [Option.bind_some]
    rw [octet_put k _ _ 2 (by omega) (by simp [putL_length]), if_neg (by omega), show (2 : Int).toNat = 2 from rfl]
    simp only [Option.bind_some]
    rw [octet_put k _ _ 4 (by omega) (by simp [putL_length]), if_neg (by omega), show (4 : Int).toNat = 4 from rfl]
    simp only [Option.bind_some]
    rw [octet_put k _ _ 1 (by omega) (by simp [putL_length]), if_neg (by omega), show (1 : Int).toNat = 1 from rfl, putL1' _ (by omega) (by omega)]
    simp only [Option.bind_some]
    rw [if_pos (by simp only [List.length_append, putL_length, List.length_cons, List.length_nil]; omega)]
    unfold bodyH
    rw [ht]
    simp only [List.append_assoc, List.cons_append, List.nil_append]
  by_cases c : r ≥ 0
  · rw [if_pos c, tlv_eq 9 _ (by simp)]
    simp only [Option.bind_some, List.length_cons, List.length_nil]
    rw [tlv_eq 2 _ (by simp)]
    simp only [Option.bind_some, List.length_cons, List.length_nil]
    rw [if_pos (by simp [putL_length])]
    refine key _ ?_
    unfold tailH roleL
    rw [if_pos c, show r % 256 = r by omega]
    simp
  · rw [if_neg c]
    refine key _ ?_
    unfold tailH roleL
    rw [if_neg c]
    simp
theorem body_len (a h i r : Int) : (bodyH a h i r).length = 10 + (tailH a r).length := by
  unfold bodyH
  simp only [List.length_cons, List.length_append, putL_length]
  omega
theorem body_sane (a h i r : Int) : saneV 1 (bodyH a h i r) = true := by
  have hl := tail_len a r
  unfold saneV fitsV leastV
  rw [body_len]
  simp
  split at hl <;> omega
end Go.Proofs.YtfbndolhocojiaaDoor.Pure
