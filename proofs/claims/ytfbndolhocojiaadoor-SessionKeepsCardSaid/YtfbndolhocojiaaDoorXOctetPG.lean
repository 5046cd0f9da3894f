/- What octet.Put and octet.Get come to, in plain words (putL, getL, take, drop). Conditions: rounds enough (7); octets are octets. -/
import Derived.Test.YtfbndolhocojiaaDoorKx10
import Derived.Test.YtfbndolhocojiaaDoorKx8
import Derived.Test.YtfbndolhocojiaaDoorXPure
namespace Go.Proofs.YtfbndolhocojiaaDoor.Pure
open Go.RowKit Go.Proofs.YtfbndolhocojiaaDoor.K Go.Proofs.YtfbndolhocojiaaDoorW.PrintWords Go.Proofs.YtfbndolhocojiaaDoorW.PrintLast Go.Proofs.YtfbndolhocojiaaDoorW.PrintMore Go.Proofs.YtfbndolhocojiaaDoorW.PrintX
set_option linter.unusedVariables false
set_option linter.unusedSimpArgs false

theorem octet_put_loop (v n : Int) (hn : n ≤ 4) : ∀ (d k : Nat) (acc : List Int) (i : Int), 0 ≤ i → i + d = n → d < k → acc.length + d < 140737488355328 →
    octet_Put.l0 k v n acc n i = some (acc ++ putL v d) := by
  intro d
  induction d with
  | zero =>
    intro k acc i h0 hi hk hl
    obtain ⟨k, rfl⟩ : ∃ m, k = m + 1 := ⟨k - 1, by omega⟩
    simp only [octet_Put.l0]
    rw [if_neg (by omega)]
    simp [putL]
  | succ d ih =>
    intro k acc i h0 hi hk hl
    obtain ⟨k, rfl⟩ : ∃ m, k = m + 1 := ⟨k - 1, by omega⟩
    simp only [octet_Put.l0]
    rw [w64 (n := n - 1) (by omega) (by omega), w64 (n := n - 1 - i) (by omega) (by omega), w64 (n := 8 * (n - 1 - i)) (by omega) (by omega), w64 (n := i + 1) (by omega) (by omega)]
    rw [if_pos (by omega), if_pos (by omega), if_pos (by omega), ih k _ (i + 1) (by omega) (by omega) (by omega) (by rw [List.length_append, List.length_singleton]; omega)]
    have hd : n - 1 - i = (d : Int) := by omega
    have hs : shr .i64 v (8 * (d : Int)) = v / 256 ^ d := by
      unfold shr
      rw [show (8 * (d : Int)).toNat = 8 * d by omega, Nat.min_eq_left (by simp [IntKind.bits]; omega), Int.pow_mul]
      rfl
    rw [hd, hs, Nat.add_comm d 1, putL_add 1 d v, List.append_assoc]
    rfl
theorem octet_put (k : Nat) (l : List Int) (v n : Int) (hk : 7 ≤ k) (hl : l.length < 140737488355320) :
    octet_Put.f k l v n = some (if n < 1 ∨ n > 4 then l else l ++ putL v n.toNat) := by
  obtain ⟨m, rfl⟩ : ∃ m, k = m + 7 := ⟨k - 7, by omega⟩
  unfold octet_Put.f slices_Clone_byte_byte.f
  rw [if_pos (by omega)]
  simp only [Option.bind_some]
  by_cases h1 : n < 1
  · rw [if_pos h1, if_pos (Or.inl h1)]
    simp only [octet_Put.j0]
    rw [if_pos trivial]
  · rw [if_neg h1]
    by_cases h4 : n > 4
    · rw [if_pos (Or.inr h4)]
      simp only [octet_Put.j0]
      rw [if_pos (decide_eq_true h4)]
    · rw [if_neg (by omega)]
      simp only [octet_Put.j0]
      rw [if_neg (by rw [decide_eq_false h4]; decide)]
      have := octet_put_loop v n (by omega) n.toNat (m + 6) l 0 (by omega) (by omega) (by omega) (by omega)
      exact this

theorem get_step {x : Int} {l : List Int} (i : Int) (h : Octs l) (h0 : 0 ≤ x) (h1 : x < 36028797018963968) : Go.bits .or .i64 (wrap64 (x * 256)) (wrap64 (rd l i)) = x * 256 + rd l i := by
  have hr := h.rd i
  rw [w64 (by omega) (by omega), w64 (by omega) (by omega)]
  exact or_256 x _ h0 h1 hr.1 hr.2
theorem take_rd {l : List Int} (i : Nat) (h : i < l.length) : l.take (i + 1) = l.take i ++ [rd l i] := by
  unfold rd
  rw [List.take_succ_eq_append_getElem h, List.getD_eq_getElem?_getD, List.getElem?_eq_getElem (by simpa using h)]
  simp
theorem octet_get_loop (l : List Int) (n : Int) (h : Octs l) (hn4 : n ≤ 4) (hn : n ≤ l.length) : ∀ (d k i : Nat), (i : Int) + d = n → d < k →
    octet_Get.l0 k l n (getL (l.take i)) n i = some (getL (l.take n.toNat), l.drop n.toNat, true) := by
  intro d
  induction d with
  | zero =>
    intro k i hi hk
    obtain ⟨k, rfl⟩ : ∃ m, k = m + 1 := ⟨k - 1, by omega⟩
    simp only [octet_Get.l0]
    rw [if_neg (by omega), if_pos (by omega), if_pos hn]
    have : i = n.toNat := by omega
    rw [this]
  | succ d ih =>
    intro k i hi hk
    obtain ⟨k, rfl⟩ : ∃ m, k = m + 1 := ⟨k - 1, by omega⟩
    simp only [octet_Get.l0]
    rw [if_pos (by omega), if_pos (by omega), if_pos (by omega)]
    have hb := getL_bounds (l.take i) (h.take i)
    have hl : (l.take i).length ≤ 3 := by rw [List.length_take]; omega
    have hp := getL_lt3 (l.take i) (h.take i) hl
    rw [get_step _ h hb.1 (by omega), w64 (by omega) (by omega), ← getL_snoc, ← take_rd i (by omega)]
    exact ih k (i + 1) (by push_cast; omega) (by omega)
theorem octet_get (k : Nat) (l : List Int) (n : Int) (hk : 7 ≤ k) (h : Octs l) :
    octet_Get.f k l n = some (if n < 1 ∨ n > 4 ∨ (l.length : Int) < n then (0, [], false) else (getL (l.take n.toNat), l.drop n.toNat, true)) := by
  obtain ⟨m, rfl⟩ : ∃ m, k = m + 7 := ⟨k - 7, by omega⟩
  unfold octet_Get.f
  by_cases h1 : n < 1
  · rw [if_pos h1, if_pos (Or.inl h1)]
    simp only [octet_Get.j0]
    rw [if_pos trivial]
  · rw [if_neg h1]
    by_cases h4 : n > 4
    · rw [if_pos h4, if_pos (Or.inr (Or.inl h4))]
      simp only [octet_Get.j0]
      rw [if_pos trivial]
    · rw [if_neg h4]
      simp only [octet_Get.j0]
      by_cases h5 : (l.length : Int) < n
      · rw [if_pos (decide_eq_true h5), if_pos (Or.inr (Or.inr h5))]
      · rw [if_neg (by rw [decide_eq_false h5]; decide), if_neg (by omega)]
        have := octet_get_loop l n h (by omega) (by omega) n.toNat (m + 6) 0 (by omega) (by omega)
        rw [List.take_zero, getL_nil] at this
        exact this
theorem octet_getS (k : Nat) (l : List Int) (n : Int) (hk : 7 ≤ k) (h : Octs l) (h1 : 1 ≤ n) (h4 : n ≤ 4) (hl : n ≤ l.length) : octet_Get.f k l n = some (getL (l.take n.toNat), l.drop n.toNat, true) := by
  rw [octet_get k l n hk h, if_neg (by omega)]
theorem octet_getF (k : Nat) (l : List Int) (n : Int) (hk : 7 ≤ k) (h : Octs l) (h1 : n < 1 ∨ n > 4 ∨ (l.length : Int) < n) : octet_Get.f k l n = some (0, [], false) := by
  rw [octet_get k l n hk h, if_pos h1]
end Go.Proofs.YtfbndolhocojiaaDoor.Pure
