/- What is put is got, and what is got was put, in plain words (encM, getV). Conditions: those in each statement. -/
import Derived.Test.YthkbpiagggeicaaXMsg
namespace Go.Proofs.Ythkbpiagggeicaa.Pure
open Go.RowKit Go.Proofs.Ythkbpiagggeicaa.Q Go.Proofs.YthkbpiagggeicaaW.PrintWords Go.Proofs.YthkbpiagggeicaaW.PrintLast Go.Proofs.YthkbpiagggeicaaW.PrintMore Go.Proofs.YthkbpiagggeicaaW.PrintX
set_option linter.unusedVariables false
set_option linter.unusedSimpArgs false
theorem fitsV_t {t s : Int} (h : fitsV t s = true) : (t = 1 ∨ t = 2 ∨ t = 3 ∨ t = 4) ∧ leastV t ≤ s ∧ 19 ≤ s ∧ s ≤ 4096 ∧ leastV t ≠ 0 := by
  unfold fitsV leastV at *
  simp only [Bool.and_eq_true, decide_eq_true_eq] at h
  obtain ⟨h1, h2, h3, h4⟩ := h
  (repeat' split at *) <;> refine ⟨?_, ?_, ?_, ?_, ?_⟩ <;> omega
theorem encM_length (t : Int) (b : List Int) : (encM t b).length = 19 + b.length := by
  unfold encM
  simp only [List.length_append, List.length_replicate, putL_length]
theorem rep_octs : Octs (List.replicate 16 (255 : Int)) := by
  intro x hx
  have := (List.mem_replicate.1 hx).2
  omega
theorem encM_octs (t : Int) (b : List Int) (hb : Octs b) : Octs (encM t b) := by
  unfold encM
  exact ((rep_octs.app (putL_octs _ _)).app (putL_octs _ _)).app hb
theorem get_head (t s : Int) (c : List Int) (hf : fitsV t s = true) : getV (List.replicate 16 255 ++ putL s 2 ++ putL t 1 ++ c) = if (c.length : Int) + 19 < s then (0, [], 0, 0, 0, []) else (t, c.take (s - 19).toNat, s, 0, 0, []) := by
  obtain ⟨ht, h1, h2, h3, h4⟩ := fitsV_t hf
  have p2 : (putL s 2).length = 2 := putL_length _ _
  have p1 : putL t 1 = [t] := by simp [putL]; omega
  have pg : getL (putL s 2) = s := by rw [getL_putL]; omega
  have e0 : List.replicate 16 (255 : Int) ++ putL s 2 ++ putL t 1 ++ c = List.replicate 16 255 ++ (putL s 2 ++ (t :: c)) := by rw [p1]; simp
  rw [e0]
  have l16 : (List.replicate 16 (255 : Int)).length = 16 := List.length_replicate
  generalize putL s 2 = q at *
  have t16 : (List.replicate 16 (255 : Int) ++ (q ++ (t :: c))).take 16 = List.replicate 16 255 := by
    rw [List.take_append_of_le_length (by omega), List.take_of_length_le (by omega)]
  have d16 : (List.replicate 16 (255 : Int) ++ (q ++ (t :: c))).drop 16 = q ++ (t :: c) := by
    rw [List.drop_append_of_le_length (by omega), List.drop_of_length_le (by omega), List.nil_append]
  have tq : (q ++ (t :: c)).take 2 = q := by
    rw [List.take_append_of_le_length (by omega), List.take_of_length_le (by omega)]
  have r18 : rd (List.replicate 16 (255 : Int) ++ (q ++ (t :: c))) 18 = t := by
    unfold rd
    rw [List.getD_eq_getElem?_getD, List.getElem?_append_right (by rw [l16]; decide), l16, List.getElem?_append_right (by rw [p2]; decide), p2]
    rfl
  have d19 : ∀ n : Nat, 19 ≤ n → ((List.replicate 16 (255 : Int) ++ (q ++ (t :: c))).take n).drop 19 = c.take (n - 19) := by
    intro n hn
    have d2 : (q ++ (t :: c)).drop 2 = t :: c := by
      rw [List.drop_append_of_le_length (by omega), List.drop_of_length_le (by omega), List.nil_append]
    have d3 : (List.replicate 16 (255 : Int) ++ (q ++ (t :: c))).drop 19 = c := by
      rw [show 19 = 16 + 3 from rfl, ← List.drop_drop, d16, show 3 = 2 + 1 from rfl, ← List.drop_drop, d2]
      rfl
    rw [List.drop_take, d3]
  have hlen : (List.replicate 16 (255 : Int) ++ (q ++ (t :: c))).length = c.length + 19 := by
    simp only [List.length_append, l16, p2, List.length_cons]
    omega
  unfold getV
  rw [hlen, t16, d16, tq, pg, r18, if_neg (by omega), if_neg (by decide), if_neg (by omega), if_neg h4, if_neg (by rw [hf]; decide), d19 _ (by omega)]
  by_cases h : (c.length : Int) + 19 < s
  · rw [if_pos h, if_pos (by omega)]
  · rw [if_neg h, if_neg (by omega), show s.toNat - 19 = (s - 19).toNat by omega]
theorem get_enc (t : Int) (b r : List Int) (hs : saneV t b = true) : getV (encM t b ++ r) = (t, b, 19 + (b.length : Int), 0, 0, []) := by
  unfold saneV at hs
  have h := get_head t _ (b ++ r) hs
  have e : encM t b ++ r = List.replicate 16 255 ++ putL (19 + (b.length : Int)) 2 ++ putL t 1 ++ (b ++ r) := by unfold encM; simp
  rw [e, h, if_neg (by rw [List.length_append]; omega), show (19 + (b.length : Int) - 19).toNat = b.length by omega, List.take_left]
theorem get_pre (t : Int) (b : List Int) (n : Nat) (hs : saneV t b = true) (hn : n < 19 + b.length) : getV ((encM t b).take n) = (0, [], 0, 0, 0, []) := by
  unfold saneV at hs
  by_cases h : n < 19
  · unfold getV
    rw [if_pos (by rw [List.length_take]; omega)]
  · have e : (encM t b).take n = List.replicate 16 255 ++ putL (19 + (b.length : Int)) 2 ++ putL t 1 ++ b.take (n - 19) := by
      unfold encM
      rw [List.take_append, List.take_of_length_le (by simp [putL_length]; omega)]
      congr 2
    rw [e, get_head t _ _ hs, if_pos (by rw [List.length_take]; omega)]
theorem all255 : ∀ (m : List Int), m.any (fun c => c != 255) = false → m = List.replicate m.length 255 := by
  intro m
  induction m with
  | nil => intro _; rfl
  | cons x t ih =>
    intro h
    simp only [List.any_cons, Bool.or_eq_false_iff] at h
    have hx : x = 255 := by simpa using h.1
    rw [List.length_cons, List.replicate_succ, ← ih h.2, hx]
theorem got_enc (l : List Int) (h : Octs l) (t n c s : Int) (b d : List Int) (hg : getV l = (t, b, n, c, s, d)) :
    (c = 0 ∧ s = 0 ∧ d = [] ∧ n = 0 ∧ t = 0 ∧ b = [] ∧ (l.length : Int) < 4096) ∨ (c = 0 ∧ s = 0 ∧ d = [] ∧ 19 ≤ n ∧ n ≤ l.length ∧ n ≤ 4096 ∧ saneV t b = true ∧ encM t b = l.take n.toNat) ∨
    (c = 1 ∧ n = 0 ∧ t = 0 ∧ b = [] ∧ 19 ≤ (l.length : Int) ∧ (s = 1 ∧ d = [] ∨ s = 2 ∧ d = (l.take 18).drop 16 ∨ s = 3 ∧ d = (l.take 19).drop 18)) := by
  unfold getV at hg
  by_cases c0 : (l.length : Int) < 19
  · rw [if_pos c0] at hg
    cases hg
    exact .inl ⟨rfl, rfl, rfl, rfl, rfl, rfl, by omega⟩
  rw [if_neg c0] at hg
  by_cases c1 : (l.take 16).any (fun c => c != 255) = true
  · rw [if_pos c1] at hg
    cases hg
    exact .inr (.inr ⟨rfl, rfl, rfl, rfl, by omega, .inl ⟨rfl, rfl⟩⟩)
  rw [if_neg c1] at hg
  obtain ⟨z, hz⟩ : ∃ z, z = getL ((l.drop 16).take 2) := ⟨_, rfl⟩
  rw [← hz] at hg
  by_cases c2 : z < 19 ∨ z > 4096
  · rw [if_pos c2] at hg
    cases hg
    exact .inr (.inr ⟨rfl, rfl, rfl, rfl, by omega, .inr (.inl ⟨rfl, rfl⟩)⟩)
  rw [if_neg c2] at hg
  have e18 : (l.take 19).drop 18 = [rd l 18] := by
    have hl : 18 < l.length := by omega
    rw [List.drop_take, List.drop_eq_getElem_cons hl]
    show [l[18]] = [l.getD 18 0]
    simp [List.getD_eq_getElem?_getD, hl]
  by_cases c3 : leastV (rd l 18) = 0
  · rw [if_pos c3] at hg
    cases hg
    exact .inr (.inr ⟨rfl, rfl, rfl, rfl, by omega, .inr (.inr ⟨rfl, e18.symm⟩)⟩)
  rw [if_neg c3] at hg
  cases c4 : fitsV (rd l 18) z
  · rw [c4, if_pos rfl] at hg
    cases hg
    exact .inr (.inr ⟨rfl, rfl, rfl, rfl, by omega, .inr (.inl ⟨rfl, rfl⟩)⟩)
  rw [c4, if_neg (by decide)] at hg
  by_cases c5 : (l.length : Int) < z
  · rw [if_pos c5] at hg
    cases hg
    exact .inl ⟨rfl, rfl, rfl, rfl, rfl, rfl, by omega⟩
  rw [if_neg c5] at hg
  simp only [Prod.mk.injEq] at hg
  obtain ⟨rfl, rfl, rfl, rfl, rfl, rfl⟩ := hg
  have hbl : ((l.take z.toNat).drop 19).length = z.toNat - 19 := by rw [List.length_drop, List.length_take]; omega
  have hs : 19 + (((l.take z.toNat).drop 19).length : Int) = z := by rw [hbl]; omega
  refine .inr (.inl ⟨rfl, rfl, rfl, by omega, by omega, by omega, by unfold saneV; rw [hs, c4], ?_⟩)
  unfold encM
  rw [hs]
  have q1 : List.replicate 16 (255 : Int) = (l.take z.toNat).take 16 := by
    have := all255 _ (by simpa using c1)
    rw [List.length_take, show min 16 l.length = 16 by omega] at this
    rw [← this, List.take_take, show min 16 z.toNat = 16 by omega]
  have q2 : putL z 2 = ((l.take z.toNat).drop 16).take 2 := by
    have ho : Octs ((l.drop 16).take 2) := (h.drop 16).take 2
    have h2 : ((l.drop 16).take 2).length = 2 := by rw [List.length_take, List.length_drop]; omega
    have := putL_getL _ ho
    rw [h2, ← hz] at this
    rw [this, List.drop_take, List.take_take, show min 2 (z.toNat - 16) = 2 by omega]
  have q3 : putL (rd l 18) 1 = ((l.take z.toNat).drop 18).take 1 := by
    have := h.rd 18
    have p1 : putL (rd l 18) 1 = [rd l 18] := by simp [putL]; omega
    rw [p1, ← e18, List.drop_take, List.drop_take, List.take_take, show min 1 (z.toNat - 18) = 1 by omega]
  rw [q1, q2, q3]
  generalize l.take z.toNat = m
  have a1 : m.take 16 ++ (m.drop 16).take 2 = m.take 18 := by rw [← List.take_add]
  have a2 : m.take 18 ++ (m.drop 18).take 1 = m.take 19 := by rw [← List.take_add]
  rw [a1, a2, List.take_append_drop]
end Go.Proofs.Ythkbpiagggeicaa.Pure
