/- What the reference of chapter 1 comes to: the same words as octet's. Conditions: rounds enough (7); octets are octets. -/
import Derived.Test.YtedahidfbplpkaaXOctetPG
import Derived.Test.YtedahidfbplpkaaQx10
import Derived.Test.YtedahidfbplpkaaQx6
namespace Go.Proofs.Ytedahidfbplpkaa.Pure
open Go.RowKit Go.Proofs.Ytedahidfbplpkaa.Q Go.Proofs.YtedahidfbplpkaaW.PrintWords Go.Proofs.YtedahidfbplpkaaW.PrintLast Go.Proofs.YtedahidfbplpkaaW.PrintMore Go.Proofs.YtedahidfbplpkaaW.PrintX
set_option linter.unusedVariables false
set_option linter.unusedSimpArgs false
theorem ref01_put_loop (v : Int) : ∀ (d k : Nat) (acc : List Int), d ≤ 4 → d < k → acc.length + d < 140737488355328 →
    ridgewayref01_Put.l0 k v acc ((d : Int) - 1) = some (acc ++ putL v d) := by
  intro d
  induction d with
  | zero =>
    intro k acc hd hk hl
    obtain ⟨k, rfl⟩ : ∃ m, k = m + 1 := ⟨k - 1, by omega⟩
    simp only [ridgewayref01_Put.l0]
    rw [if_neg (by omega)]
    simp [putL]
  | succ d ih =>
    intro k acc hd hk hl
    obtain ⟨k, rfl⟩ : ∃ m, k = m + 1 := ⟨k - 1, by omega⟩
    simp only [ridgewayref01_Put.l0]
    rw [show ((d + 1 : Nat) : Int) - 1 = (d : Int) by omega]
    rw [w64 (n := 8 * (d : Int)) (by omega) (by omega), wu64 (by omega) (by omega), w64 (n := (d : Int) - 1) (by omega) (by omega)]
    rw [if_pos (by omega), if_pos (by omega), if_pos (by omega), ih k _ (by omega) (by omega) (by rw [List.length_append, List.length_singleton]; omega)]
    have hs : shr .i64 v (8 * (d : Int)) = v / 256 ^ d := by
      unfold shr
      rw [show (8 * (d : Int)).toNat = 8 * d by omega, Nat.min_eq_left (by simp [IntKind.bits]; omega), Int.pow_mul]
      rfl
    rw [hs, Nat.add_comm d 1, putL_add 1 d v, List.append_assoc]
    rfl
theorem ref01_put (k : Nat) (l : List Int) (v n : Int) (hk : 7 ≤ k) (hl : l.length < 140737488355320) :
    ridgewayref01_Put.f k l v n = some (if n < 1 ∨ n > 4 then l else l ++ putL v n.toNat) := by
  obtain ⟨m, rfl⟩ : ∃ m, k = m + 7 := ⟨k - 7, by omega⟩
  unfold ridgewayref01_Put.f
  simp only [Option.bind_some, List.nil_append, List.length_nil, Nat.zero_add]
  rw [if_pos (by omega)]
  by_cases h1 : n < 1
  · rw [if_pos h1, if_pos (Or.inl h1)]
    simp only [ridgewayref01_Put.j0]
    rw [if_pos trivial]
  · rw [if_neg h1]
    by_cases h4 : n > 4
    · rw [if_pos (Or.inr h4)]
      simp only [ridgewayref01_Put.j0]
      rw [if_pos (decide_eq_true h4)]
    · rw [if_neg (by omega)]
      simp only [ridgewayref01_Put.j0]
      rw [if_neg (by rw [decide_eq_false h4]; decide), w64 (n := n - 1) (by omega) (by omega)]
      have := ref01_put_loop v n.toNat (m + 6) l (by omega) (by omega) (by omega)
      rwa [show ((n.toNat : Nat) : Int) = n by omega] at this
theorem ref01_get_loop (l : List Int) (n : Int) (h : Octs l) (hn4 : n ≤ 4) (hn : n ≤ l.length) : ∀ (d k i : Nat), (i : Int) + d = n → d < k →
    ridgewayref01_Get.l0 k l n (getL (l.take i)) i = some (getL (l.take n.toNat), l.drop n.toNat, true) := by
  intro d
  induction d with
  | zero =>
    intro k i hi hk
    obtain ⟨k, rfl⟩ : ∃ m, k = m + 1 := ⟨k - 1, by omega⟩
    simp only [ridgewayref01_Get.l0]
    rw [if_neg (by omega), if_pos (by omega), if_pos hn]
    have : i = n.toNat := by omega
    rw [this]
  | succ d ih =>
    intro k i hi hk
    obtain ⟨k, rfl⟩ : ∃ m, k = m + 1 := ⟨k - 1, by omega⟩
    simp only [ridgewayref01_Get.l0]
    rw [if_pos (by omega), if_pos (by omega), if_pos (by omega)]
    have hb := getL_bounds (l.take i) (h.take i)
    have hl : (l.take i).length ≤ 3 := by rw [List.length_take]; omega
    have hp := getL_lt3 (l.take i) (h.take i) hl
    have hr := h.rd (i : Int)
    rw [w64 (n := getL (l.take i) * 256) (by omega) (by omega), w64 (n := rd l i) (by omega) (by omega), w64 (by omega) (by omega), w64 (n := (i : Int) + 1) (by omega) (by omega), ← getL_snoc, ← take_rd i (by omega)]
    exact ih k (i + 1) (by push_cast; omega) (by omega)
theorem ref01_get (k : Nat) (l : List Int) (n : Int) (hk : 7 ≤ k) (h : Octs l) :
    ridgewayref01_Get.f k l n = some (if n < 1 ∨ n > 4 ∨ (l.length : Int) < n then (0, [], false) else (getL (l.take n.toNat), l.drop n.toNat, true)) := by
  obtain ⟨m, rfl⟩ : ∃ m, k = m + 7 := ⟨k - 7, by omega⟩
  unfold ridgewayref01_Get.f
  by_cases h1 : n < 1
  · rw [if_pos h1, if_pos (Or.inl h1)]
    simp only [ridgewayref01_Get.j0]
    rw [if_pos trivial]
  · rw [if_neg h1]
    by_cases h4 : n > 4
    · rw [if_pos h4, if_pos (Or.inr (Or.inl h4))]
      simp only [ridgewayref01_Get.j0]
      rw [if_pos trivial]
    · rw [if_neg h4]
      simp only [ridgewayref01_Get.j0]
      by_cases h5 : (l.length : Int) < n
      · rw [if_pos (decide_eq_true h5), if_pos (Or.inr (Or.inr h5))]
      · rw [if_neg (by rw [decide_eq_false h5]; decide), if_neg (by omega)]
        have := ref01_get_loop l n h (by omega) (by omega) n.toNat (m + 6) 0 (by omega) (by omega)
        rw [List.take_zero, getL_nil] at this
        exact this
end Go.Proofs.Ytedahidfbplpkaa.Pure
