/- What open.Sane and open.Put come to, and that what is put is got, in plain words. Conditions: those in each statement. -/
import Derived.Test.YtfbndolhocojiaaDoorXOpenG
import Derived.Test.YtfbndolhocojiaaDoorMx7
import Derived.Test.YtfbndolhocojiaaDoorMx8
namespace Go.Proofs.YtfbndolhocojiaaDoor.Pure
open Go.RowKit Go.Proofs.YtfbndolhocojiaaDoor.M Go.Proofs.YtfbndolhocojiaaDoorW.PrintWords Go.Proofs.YtfbndolhocojiaaDoorW.PrintLast Go.Proofs.YtfbndolhocojiaaDoorW.PrintMore Go.Proofs.YtfbndolhocojiaaDoorW.PrintX
set_option linter.unusedVariables false
set_option linter.unusedSimpArgs false
def saneH (a h i r : Int) : Bool := (h == 0 || (decide (h ≥ 3) && decide (h ≤ 65535))) && (decide (a > 0) && (decide (a ≤ 4294967295) && (decide (i > 0) && (decide (i ≤ 4294967295) && (decide (r ≥ -1) && decide (r ≤ 4))))))
theorem saneH_eq (a h i r : Int) : open_Sane.f a h i r = some (saneH a h i r) := by
  unfold open_Sane.f saneH
  (repeat' split) <;> simp_all <;> omega
theorem saneH_iff (a h i r : Int) : saneH a h i r = true ↔ (h = 0 ∨ 3 ≤ h ∧ h ≤ 65535) ∧ 0 < a ∧ a ≤ 4294967295 ∧ 0 < i ∧ i ≤ 4294967295 ∧ -1 ≤ r ∧ r ≤ 4 := by
  unfold saneH
  simp only [Bool.and_eq_true, Bool.or_eq_true, beq_iff_eq, decide_eq_true_eq]
  first | done | omega
def roleL (r : Int) : List Int := if r ≥ 0 then [2, 3, 9, 1, r] else []
def tailH (a r : Int) : List Int := [2, 6, 65, 4] ++ (putL a 4 ++ roleL r)
def bodyH (a h i r : Int) : List Int := 4 :: (putL (twoV a) 2 ++ (putL h 2 ++ (putL i 4 ++ (((tailH a r).length : Int) :: tailH a r))))
theorem tlv_eq (k : Int) (b : List Int) (hb : b.length ≤ 1000) : open_tlv.f k b = some (k % 256 :: (b.length : Int) % 256 :: b) := by
  unfold open_tlv.f slices_Concat_byte_byte.f
  rw [if_pos (by constructor <;> simp <;> omega)]
  simp
theorem putL1' (v : Int) (h0 : 0 ≤ v) (h1 : v < 256) : putL v 1 = [v] := by simp [putL]; omega
theorem roleL_len (r : Int) : (roleL r).length = if r ≥ 0 then 5 else 0 := by
  unfold roleL
  split <;> rfl
theorem tail_len (a r : Int) : (tailH a r).length = if r ≥ 0 then 13 else 8 := by
  unfold tailH
  simp only [List.length_append, putL_length, roleL_len]
  split <;> rfl
theorem put_eq (k : Nat) (a h i r : Int) (hk : 8 ≤ k) : open_Put.f k a h i r = some (if saneH a h i r = true then (1, bodyH a h i r) else (0, [])) := by
  obtain ⟨k, rfl⟩ : ∃ m, k = m + 1 := ⟨k - 1, by omega⟩
  unfold open_Put.f
  rw [saneH_eq]
  simp only [Option.bind_some]
  cases hs : saneH a h i r
  · rw [if_neg (by decide), if_neg (by decide)]
  rw [if_pos rfl, if_pos rfl]
  obtain ⟨h1, h2, h3, h4, h5, h6, h7⟩ := (saneH_iff a h i r).mp hs
  rw [octet_put (k + 1) [] a 4 (by omega) (by simp), if_neg (by omega), show (4 : Int).toNat = 4 from rfl, List.nil_append]
  simp only [Option.bind_some]
  rw [tlv_eq 65 _ (by rw [putL_length]; omega)]
  simp only [Option.bind_some]
  rw [tlv_eq 2 _ (by simp only [List.length_cons, putL_length]; omega)]
  simp only [Option.bind_some, List.length_cons, putL_length]
  have key : ∀ tl : List Int, tl = tailH a r → open_Put.j0 (k + 1) tl a h i r = some (1, bodyH a h i r) := by
    intro tl ht
    have hl : tl.length ≤ 13 := by rw [ht, tail_len]; split <;> omega
    simp only [open_Put.j0]
    rw [written_eq]
    simp only [Option.bind_some]
    rw [octet_put k _ _ 2 (by omega) (by simp), if_neg (by omega), show (2 : Int).toNat = 2 from rfl]
    simp only [Option.bind_some]
    rw [octet_put k _ _ 2 (by omega) (by simp [putL_length]), if_neg (by omega), show (2 : Int).toNat = 2 from rfl]
    simp only [Option.bind_some]
    rw [octet_put k _ _ 4 (by omega) (by simp [putL_length]), if_neg (by omega), show (4 : Int).toNat = 4 from rfl]
    simp only [Option.bind_some]
    rw [octet_put k _ _ 1 (by omega) (by simp [putL_length]), if_neg (by omega), show (1 : Int).toNat = 1 from rfl, putL1' _ (by omega) (by omega)]
    simp only [Option.bind_some]
    rw [if_pos (by simp only [List.length_append, putL_length, List.length_cons, List.length_nil]; omega)]
    unfold bodyH
    rw [ht]
    simp only [List.append_assoc, List.cons_append, List.nil_append]
  by_cases c : r ≥ 0
  · rw [if_pos c, tlv_eq 9 _ (by simp)]
    simp only [Option.bind_some, List.length_cons, List.length_nil]
    rw [tlv_eq 2 _ (by simp)]
    simp only [Option.bind_some, List.length_cons, List.length_nil]
    rw [if_pos (by simp [putL_length])]
    refine key _ ?_
    unfold tailH roleL
    rw [if_pos c, show r % 256 = r by omega]
    simp
  · rw [if_neg c]
    refine key _ ?_
    unfold tailH roleL
    rw [if_neg c]
    simp
theorem two_range (a : Int) (h : 0 < a) : 0 ≤ twoV a ∧ twoV a < 65536 := by unfold twoV; split <;> omega
theorem tail_octs (a r : Int) (h6 : -1 ≤ r) (h7 : r ≤ 4) : Octs (tailH a r) := by
  unfold tailH roleL
  intro x hx
  rcases List.mem_append.1 hx with h | h
  · simp at h
    omega
  · rcases List.mem_append.1 h with h | h
    · exact putL_octs _ _ x h
    · split at h
      · simp at h
        omega
      · cases h
theorem body_octs (n : Int) (s hh ii tl : List Int) (a0 : Int) (h0 : 0 ≤ a0 ∧ a0 < 256) (hs : Octs s) (hh2 : Octs hh) (hi : Octs ii) (hn : 0 ≤ n ∧ n < 256) (ht : Octs tl) : Octs (a0 :: (s ++ (hh ++ (ii ++ (n :: tl))))) :=
  Octs.cons h0.1 h0.2 (hs.app (hh2.app (hi.app (Octs.cons hn.1 hn.2 ht))))
/-- The reader over an AS' capability. -/
theorem read_as (k : Nat) (lg rl a : Int) (r : List Int) (h0 : 0 ≤ a) (h1 : a ≤ 4294967295) (hr : Octs r) (hl : lg < 0) : eachG open2 (k + 1) (lg, rl) (2 :: 6 :: 65 :: 4 :: (putL a 4 ++ r)) = eachG open2 k (a, rl) r := by
  have hp := putL_length 4 a
  have o : Octs (65 :: 4 :: (putL a 4 ++ r)) := Octs.cons (by omega) (by omega) (Octs.cons (by omega) (by omega) ((putL_octs _ _).app hr))
  have t6 : (65 :: 4 :: (putL a 4 ++ r)).take (6 : Int).toNat = 65 :: 4 :: putL a 4 := by
    show 65 :: 4 :: (putL a 4 ++ r).take 4 = _
    rw [List.take_append_of_le_length (by omega), List.take_of_length_le (by omega)]
  have d6 : (65 :: 4 :: (putL a 4 ++ r)).drop (6 : Int).toNat = r := by
    show (putL a 4 ++ r).drop 4 = _
    rw [List.drop_append_of_le_length (by omega), List.drop_of_length_le (by omega), List.nil_append]
  rw [each_cons open2 k (lg, rl) 2 6 _ (Octs.cons (by omega) (by omega) (Octs.cons (by omega) (by omega) o)) (by simp only [List.length_cons, List.length_append, hp]; omega), t6, d6]
  have hin : open2 (lg, rl) 2 (65 :: 4 :: putL a 4) = some (0, true, (a, rl)) := by
    unfold open2
    rw [if_pos rfl, each_cons open1 4999 (lg, rl) 65 4 (putL a 4) (Octs.cons (by omega) (by omega) (Octs.cons (by omega) (by omega) (putL_octs _ _))) (by rw [hp]; omega)]
    rw [show (4 : Int).toNat = 4 from rfl, List.take_of_length_le (by omega), List.drop_of_length_le (by omega)]
    have h1' : open1 (lg, rl) 65 (putL a 4) = some (0, true, (a, rl)) := by
      unfold open1
      rw [if_neg (by rw [hp]; omega), if_pos ⟨rfl, hl⟩, octet_getS 8 _ 4 (by omega) (putL_octs _ _) (by omega) (by omega) (by rw [hp]; omega)]
      simp only [Option.bind_some, show (4 : Int).toNat = 4 from rfl]
      rw [List.take_of_length_le (by omega), getL_putL, show a % 256 ^ 4 = a by omega]
    rw [h1']
    simp only [Option.bind_some, if_true]
    rw [each_nil]
  rw [hin]
  simp only [Option.bind_some, if_true]
theorem read_role (k : Nat) (lg r : Int) (t : List Int) (h0 : 0 ≤ r) (h1 : r < 256) (ht : Octs t) : eachG open2 (k + 1) (lg, -1) (2 :: 3 :: 9 :: 1 :: r :: t) = eachG open2 k (lg, r) t := by
  rw [each_cons open2 k (lg, -1) 2 3 _ (Octs.cons (by omega) (by omega) (Octs.cons (by omega) (by omega) (Octs.cons (by omega) (by omega) (Octs.cons (by omega) (by omega) (Octs.cons h0 h1 ht))))) (by simp only [List.length_cons]; omega)]
  have hin : open2 (lg, -1) 2 [9, 1, r] = some (0, true, (lg, r)) := by
    unfold open2
    rw [if_pos rfl, each_cons open1 4999 (lg, -1) 9 1 [r] (Octs.cons (by omega) (by omega) (Octs.cons (by omega) (by omega) (Octs.cons h0 h1 Octs.nil))) (by simp)]
    have h1' : open1 (lg, -1) 9 [r] = some (0, true, (lg, r)) := by
      unfold open1
      rw [if_neg (by simp), if_neg (by omega), if_neg (by omega), if_pos rfl]
      have : rd [r] 0 = r := rfl
      rw [this, w64 (by omega) (by omega)]
    show (open1 (lg, -1) 9 [r]).bind _ = _
    rw [h1']
    simp only [Option.bind_some, if_true]
    exact each_nil open1 4998 (lg, r)
  show (open2 (lg, -1) 2 [9, 1, r]).bind _ = _
  rw [hin]
  simp only [Option.bind_some, if_true]
  rfl
theorem read_tail (k : Nat) (a r : Int) (h0 : 0 ≤ a) (h1 : a ≤ 4294967295) (h6 : -1 ≤ r) (h7 : r ≤ 4) (t : List Int) (ht : Octs t) : ∃ m, (m + 2 = k + 2 ∨ m + 1 = k + 2) ∧ eachG open2 (k + 2) (-1, -1) (tailH a r ++ t) = eachG open2 m (a, r) t := by
  unfold tailH roleL
  by_cases c : r ≥ 0
  · refine ⟨k, .inl rfl, ?_⟩
    rw [if_pos c]
    have e : [2, 6, 65, 4] ++ (putL a 4 ++ [2, 3, 9, 1, r]) ++ t = 2 :: 6 :: 65 :: 4 :: (putL a 4 ++ (2 :: 3 :: 9 :: 1 :: r :: t)) := by simp
    rw [e, read_as (k + 1) (-1) (-1) a _ h0 h1 (Octs.cons (by omega) (by omega) (Octs.cons (by omega) (by omega) (Octs.cons (by omega) (by omega) (Octs.cons (by omega) (by omega) (Octs.cons (by omega) (by omega) ht))))) (by omega), read_role k a r t c (by omega) ht]
  · refine ⟨k + 1, .inr rfl, ?_⟩
    rw [if_neg c]
    have e : [2, 6, 65, 4] ++ (putL a 4 ++ []) ++ t = 2 :: 6 :: 65 :: 4 :: (putL a 4 ++ t) := by simp
    rw [e, read_as (k + 1) (-1) (-1) a t h0 h1 ht (by omega), show r = -1 by omega]
theorem read_whole (a r : Int) (h0 : 0 ≤ a) (h1 : a ≤ 4294967295) (h6 : -1 ≤ r) (h7 : r ≤ 4) : eachG open2 5000 (-1, -1) (tailH a r) = some (0, true, (a, r)) := by
  obtain ⟨m, hm, e⟩ := read_tail 4998 a r h0 h1 h6 h7 [] Octs.nil
  rw [List.append_nil] at e
  rw [e]
  obtain ⟨q, rfl⟩ : ∃ q, m = q + 1 := ⟨m - 1, by omega⟩
  exact each_nil open2 q (a, r)
/-- Got of what was put. -/
theorem get_put (a h i r ax : Int) (hs : saneH a h i r = true) : open_Get.f 1 (bodyH a h i r) ax = some (if a = ax then (a, h, i, r, 0, 0, []) else (0, 0, 0, 0, 2, 2, [])) := by
  obtain ⟨h1, h2, h3, h4, h5, h6, h7⟩ := (saneH_iff a h i r).mp hs
  have ht := two_range a h2
  have hl : (tailH a r).length ≤ 13 := by rw [tail_len]; split <;> omega
  unfold bodyH
  rw [get_form 4 _ ax (putL (twoV a) 2) (putL h 2) (putL i 4) (tailH a r) (putL_length _ _) (putL_length _ _) (putL_length _ _) (body_octs _ _ _ _ _ 4 (by omega) (putL_octs _ _) (putL_octs _ _) (putL_octs _ _) (by omega) (tail_octs a r h6 h7)) (by omega), if_pos rfl, if_pos rfl, read_whole a r (by omega) h3 h6 h7]
  simp only [Option.bind_some, if_true]
  rw [getL_putL, getL_putL, getL_putL, show twoV a % 256 ^ 2 = twoV a by omega, show h % 256 ^ 2 = h by omega, show i % 256 ^ 4 = i by omega]
  unfold judge
  rw [if_neg (by omega)]
  by_cases c : a = ax
  · rw [if_pos c, if_neg (by simp [c]; omega), if_neg (by omega), if_neg (by omega)]
  · rw [if_neg c, if_pos (.inr (.inl c))]
theorem body_len (a h i r : Int) : (bodyH a h i r).length = 10 + (tailH a r).length := by
  unfold bodyH
  simp only [List.length_cons, List.length_append, putL_length]
  omega
theorem body_sane (a h i r : Int) : saneV 1 (bodyH a h i r) = true := by
  have hl := tail_len a r
  unfold saneV fitsV leastV
  rw [body_len]
  simp
  split at hl <;> omega
end Go.Proofs.YtfbndolhocojiaaDoor.Pure
