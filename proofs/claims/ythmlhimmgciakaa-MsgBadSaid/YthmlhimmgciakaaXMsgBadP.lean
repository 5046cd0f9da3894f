/- Spoilt heads, in plain words: a mark's octet, the size, the type of a message turned into others. Conditions: those in each statement. -/
import Derived.Test.YthmlhimmgciakaaXMsgLaw
namespace Go.Proofs.Ythmlhimmgciakaa.Pure
open Go.RowKit Go.Proofs.Ythmlhimmgciakaa.Q Go.Proofs.YthmlhimmgciakaaW.PrintWords Go.Proofs.YthmlhimmgciakaaW.PrintLast Go.Proofs.YthmlhimmgciakaaW.PrintMore Go.Proofs.YthmlhimmgciakaaW.PrintX
set_option linter.unusedVariables false
set_option linter.unusedSimpArgs false
theorem enc_form (t : Int) (b : List Int) (hs : saneV t b = true) : ∃ p q, encM t b = List.replicate 16 255 ++ p :: q :: t :: b ∧ p * 256 + q = 19 + (b.length : Int) := by
  unfold saneV at hs
  obtain ⟨ht, h1, h2, h3, h4⟩ := fitsV_t hs
  refine ⟨(19 + (b.length : Int)) / 256 % 256, (19 + (b.length : Int)) % 256, ?_, ?_⟩
  · unfold encM
    have p1 : putL t 1 = [t] := by simp [putL]; omega
    have p2 : putL (19 + (b.length : Int)) 2 = [(19 + (b.length : Int)) / 256 % 256, (19 + (b.length : Int)) % 256] := by simp [putL]
    rw [p1, p2]
    simp only [List.append_assoc, List.cons_append, List.nil_append]
  · omega
theorem get_raw (p q k : Int) (r : List Int) : getV (List.replicate 16 255 ++ p :: q :: k :: r) = (if p * 256 + q < 19 ∨ p * 256 + q > 4096 then (0, [], 0, 1, 2, [p, q]) else if leastV k = 0 then (0, [], 0, 1, 3, [k]) else if fitsV k (p * 256 + q) = false then (0, [], 0, 1, 2, [p, q]) else if (19 + r.length : Int) < p * 256 + q then (0, [], 0, 0, 0, []) else (k, r.take ((p * 256 + q).toNat - 19), p * 256 + q, 0, 0, [])) := by
  have l16 : (List.replicate 16 (255 : Int)).length = 16 := List.length_replicate
  have ha : (List.replicate 16 (255 : Int)).any (fun c => c != 255) = false := by decide
  generalize hR : List.replicate 16 (255 : Int) = R at *
  have hlen : (R ++ p :: q :: k :: r).length = r.length + 19 := by simp only [List.length_append, List.length_cons, l16]; omega
  have t16 : (R ++ p :: q :: k :: r).take 16 = R := by rw [List.take_append_of_le_length (by omega), List.take_of_length_le (by omega)]
  have d16 : (R ++ p :: q :: k :: r).drop 16 = p :: q :: k :: r := by rw [List.drop_append_of_le_length (by omega), List.drop_of_length_le (by omega), List.nil_append]
  have r18 : rd (R ++ p :: q :: k :: r) 18 = k := by
    unfold rd
    rw [List.getD_eq_getElem?_getD, List.getElem?_append_right (by rw [l16]; decide), l16]
    rfl
  have d18 : ((R ++ p :: q :: k :: r).take 18).drop 16 = [p, q] := by rw [List.drop_take, d16]; rfl
  have dd : ∀ n : Nat, ((R ++ p :: q :: k :: r).take n).drop 19 = r.take (n - 19) := by
    intro n
    rw [List.drop_take, show 19 = 16 + 3 from rfl, ← List.drop_drop, d16]
    rfl
  have g2 : getL [p, q] = p * 256 + q := by simp [getL]
  unfold getV
  rw [hlen, t16, d16, r18, d18, dd, show (p :: q :: k :: r).take 2 = [p, q] from rfl, g2, if_neg (by omega), if_neg (by rw [ha]; decide)]
  by_cases h1 : p * 256 + q < 19 ∨ p * 256 + q > 4096
  · rw [if_pos h1, if_pos h1]
  rw [if_neg h1, if_neg h1]
  by_cases h2 : leastV k = 0
  · rw [if_pos h2, if_pos h2]
  rw [if_neg h2, if_neg h2]
  by_cases h3 : fitsV k (p * 256 + q) = false
  · rw [if_pos h3, if_pos h3]
  rw [if_neg h3, if_neg h3]
  by_cases h4 : (19 + r.length : Int) < p * 256 + q
  · rw [if_pos h4, if_pos (by omega)]
  · rw [if_neg h4, if_neg (by omega)]
theorem set16 (v : Int) (p q k : Int) (r : List Int) : (List.replicate 16 (255 : Int) ++ p :: q :: k :: r).set 16 v = List.replicate 16 255 ++ v :: q :: k :: r := by
  rw [List.set_append_right _ _ (by simp)]
  simp
theorem set17 (v : Int) (p q k : Int) (r : List Int) : (List.replicate 16 (255 : Int) ++ p :: q :: k :: r).set 17 v = List.replicate 16 255 ++ p :: v :: k :: r := by
  rw [List.set_append_right _ _ (by simp)]
  simp
theorem set18 (v : Int) (p q k : Int) (r : List Int) : (List.replicate 16 (255 : Int) ++ p :: q :: k :: r).set 18 v = List.replicate 16 255 ++ p :: q :: v :: r := by
  rw [List.set_append_right _ _ (by simp)]
  simp
theorem Octs.setP {l : List Int} (h : Octs l) (i : Nat) {v : Int} (h0 : 0 ≤ v) (h1 : v < 256) : Octs (l.set i v) := by
  intro x hx
  rcases List.mem_or_eq_of_mem_set hx with hm | rfl
  · exact h x hm
  · exact ⟨h0, h1⟩
theorem bad_mark (t : Int) (b : List Int) (j : Nat) (c : Int) (hj : j < 16) (hc : c ≠ 255) : getV ((encM t b).set j c) = (0, [], 0, 1, 1, []) := by
  have hl : ((encM t b).set j c).length = 19 + b.length := by rw [List.length_set, encM_length]
  have ha : (((encM t b).set j c).take 16).any (fun c => c != 255) = true := by
    rw [List.any_eq_true]
    refine ⟨c, ?_, by simp [hc]⟩
    rw [List.mem_take_iff_getElem]
    exact ⟨j, by omega, by rw [List.getElem_set_self]⟩
  unfold getV
  rw [if_neg (by rw [hl]; omega), if_pos ha]
theorem bad_size (t : Int) (b : List Int) (s : Int) (hs : saneV t b = true) (h : s < 19 ∨ s > 4096) : getV (((encM t b).set 16 (s / 256)).set 17 (s % 256)) = (0, [], 0, 1, 2, [s / 256, s % 256]) := by
  obtain ⟨p, q, e, _⟩ := enc_form t b hs
  rw [e, set16, set17, get_raw, if_pos (by omega)]
theorem bad_type (t : Int) (b : List Int) (v : Int) (hs : saneV t b = true) (h : leastV v = 0) : getV ((encM t b).set 18 v) = (0, [], 0, 1, 3, [v]) := by
  obtain ⟨p, q, e, h2⟩ := enc_form t b hs
  unfold saneV at hs
  obtain ⟨_, _, h3, h4, _⟩ := fitsV_t hs
  rw [e, set18, get_raw, if_neg (by omega), if_pos h]
theorem or4 (x : Int) (h0 : 0 ≤ x) (h1 : x < 256) : 0 ≤ Go.bits .or .u8 x 4 ∧ Go.bits .or .u8 x 4 < 256 ∧ (Go.bits .or .u8 x 4 = 4 ∨ leastV (Go.bits .or .u8 x 4) = 0) := by
  have h : ∀ n : Fin 256, 0 ≤ Go.bits .or .u8 ((n.val : Nat) : Int) 4 ∧ Go.bits .or .u8 ((n.val : Nat) : Int) 4 < 256 ∧ (Go.bits .or .u8 ((n.val : Nat) : Int) 4 = 4 ∨ leastV (Go.bits .or .u8 ((n.val : Nat) : Int) 4) = 0) := by decide +kernel
  have h2 := h ⟨x.toNat, by omega⟩
  simp only [Int.toNat_of_nonneg h0] at h2
  exact h2
end Go.Proofs.Ythmlhimmgciakaa.Pure
