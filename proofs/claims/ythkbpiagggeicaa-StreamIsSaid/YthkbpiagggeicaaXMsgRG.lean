/- The document's reader of messages comes to the same (getV). Conditions: rounds enough (60), octets are octets, at most 1000000 of them. -/
import Derived.Test.YthkbpiagggeicaaXMsg
import Derived.Test.YthkbpiagggeicaaQx10
import Derived.Test.YthkbpiagggeicaaQx9
namespace Go.Proofs.Ythkbpiagggeicaa.Pure
open Go.RowKit Go.Proofs.Ythkbpiagggeicaa.Q Go.Proofs.YthkbpiagggeicaaW.PrintWords Go.Proofs.YthkbpiagggeicaaW.PrintLast Go.Proofs.YthkbpiagggeicaaW.PrintMore Go.Proofs.YthkbpiagggeicaaW.PrintX
set_option linter.unusedVariables false
set_option linter.unusedSimpArgs false
theorem least_ref (t : Int) : ridgewayref03_Least.f t = some (leastV t) := by
  unfold ridgewayref03_Least.f leastV
  (repeat' split) <;> rfl
theorem fits_ref (t s : Int) : ridgewayref03_fits.f t s = some (fitsV t s) := by
  unfold ridgewayref03_fits.f fitsV
  rw [least_ref]
  simp only [Option.bind_some]
  by_cases h4 : t = 4
  · subst h4
    have e : leastV 4 = 19 := rfl
    rw [e]
    (repeat' split) <;> simp_all <;> omega
  · (repeat' split) <;> simp_all <;> omega
theorem getL2 (l : List Int) (i : Nat) (h : i + 2 ≤ l.length) : getL ((l.drop i).take 2) = rd l i * 256 + rd l (i + 1 : Nat) := by
  have e : (l.drop i).take 2 = [rd l i, rd l (i + 1 : Nat)] := by
    have h1 : i < l.length := by omega
    have h2 : i + 1 < l.length := by omega
    rw [List.drop_eq_getElem_cons h1, List.drop_eq_getElem_cons h2]
    show [l[i], l[i + 1]] = [l.getD (i : Int).toNat 0, l.getD ((i + 1 : Nat) : Int).toNat 0]
    simp only [Int.toNat_natCast, List.getD_eq_getElem?_getD, List.getElem?_eq_getElem h1, List.getElem?_eq_getElem h2, Option.getD_some]
  rw [e]
  simp [getL]
theorem any_take (l : List Int) (i : Nat) (h : i < l.length) : (l.take (i + 1)).any (fun c => c != 255) = ((l.take i).any (fun c => c != 255) || rd l i != 255) := by
  rw [take_rd i h]
  simp
theorem get_tail (k : Nat) (l : List Int) (h : Octs l) (h0 : 19 ≤ l.length) (hl : l.length ≤ 1000000) (hk : 1 ≤ k) (h1 : (l.take 16).any (fun c => c != 255) = false) (s : Int) (hs : s = getL ((l.drop 16).take 2)) (b : Bool) (hb : b = true ↔ s < 19 ∨ s > 4096) :
    ridgewayref03_Get.j1 k l s b 1 2 ((l.take 18).drop 16) = some (getV l) := by
  obtain ⟨k, rfl⟩ : ∃ m, k = m + 1 := ⟨k - 1, by omega⟩
  unfold getV
  rw [← hs, if_neg (by omega), if_neg (by rw [h1]; decide)]
  simp only [ridgewayref03_Get.j1]
  have hr := h.rd 18
  by_cases c2 : s < 19 ∨ s > 4096
  · rw [if_pos (hb.mpr c2), if_pos c2]
  · rw [if_neg (fun e => c2 (hb.mp e)), if_neg c2, if_pos (by omega), w64 (n := rd l 18) (by omega) (by omega), least_ref]
    simp only [Option.bind_some]
    by_cases c3 : leastV (rd l 18) = 0
    · rw [if_pos c3, if_pos c3, if_pos (by omega), if_pos (by omega)]
      have e : (l.take 19).drop 18 = [rd l 18] := by
        have hl : 18 < l.length := by omega
        rw [List.drop_take, List.drop_eq_getElem_cons hl]
        show [l[18]] = [l.getD 18 0]
        simp [List.getD_eq_getElem?_getD, hl]
      rw [e]
    · rw [if_neg c3, if_neg c3, fits_ref]
      simp only [Option.bind_some]
      cases c4 : fitsV (rd l 18) s
      · rw [if_neg (by decide), if_pos rfl]
      · simp only [eq_self_iff_true, if_true, Bool.true_eq_false, if_false]
        by_cases c5 : (l.length : Int) < s
        · rw [if_pos c5, if_pos c5]
        · rw [if_neg c5, if_neg c5, if_pos (by omega), if_pos (by omega)]
theorem get_loop (l : List Int) (h : Octs l) (h0 : 19 ≤ l.length) (hl : l.length ≤ 1000000) : ∀ (d k i : Nat), i + d = 16 → d + 2 ≤ k → (l.take i).any (fun c => c != 255) = false →
    ridgewayref03_Get.l0 k l (i : Int) = some (getV l) := by
  intro d
  induction d with
  | zero =>
    intro k i hi hk ha
    obtain ⟨k, rfl⟩ : ∃ m, k = m + 1 := ⟨k - 1, by omega⟩
    have e : i = 16 := by omega
    subst e
    simp only [ridgewayref03_Get.l0]
    have r6 := h.rd 16
    have r7 := h.rd 17
    have es : getL ((l.drop 16).take 2) = rd l 16 * 256 + rd l 17 := getL2 l 16 (by omega)
    rw [if_neg (by omega), if_pos (by omega), if_pos (by omega), if_pos (by omega), if_pos (by omega), w64 (n := rd l 16) (by omega) (by omega), w64 (n := rd l 17) (by omega) (by omega), w64 (n := rd l 16 * 256) (by omega) (by omega), w64 (n := rd l 16 * 256 + rd l 17) (by omega) (by omega)]
    simp only [Option.bind_some]
    by_cases c : rd l 16 * 256 + rd l 17 < 19
    · rw [if_pos c]
      exact get_tail k l h h0 hl (by omega) ha _ es.symm _ (by simp [c])
    · rw [if_neg c]
      exact get_tail k l h h0 hl (by omega) ha _ es.symm _ (by simp [c])
  | succ d ih =>
    intro k i hi hk ha
    obtain ⟨k, rfl⟩ : ∃ m, k = m + 1 := ⟨k - 1, by omega⟩
    simp only [ridgewayref03_Get.l0]
    rw [if_pos (by omega), if_pos (by omega), if_pos (by omega), w64 (n := (i : Int) + 1) (by omega) (by omega)]
    have ht := any_take l i (by omega)
    by_cases c : rd l i = 255
    · rw [if_pos c, show ((i : Int) + 1) = ((i + 1 : Nat) : Int) by omega]
      exact ih k (i + 1) (by omega) (by omega) (by rw [ht, ha, c]; rfl)
    · rw [if_neg c]
      have hn : (l.take 16).any (fun c => c != 255) = true := by
        rw [List.any_eq_true]
        refine ⟨rd l i, ?_, by simp [c]⟩
        unfold rd
        have : i < l.length := by omega
        simp only [Int.toNat_natCast, List.getD_eq_getElem?_getD, List.getElem?_eq_getElem this, Option.getD_some]
        rw [List.mem_take_iff_getElem]
        exact ⟨i, by omega, rfl⟩
      unfold getV
      rw [if_neg (by omega), if_pos hn]
theorem get_ref (k : Nat) (l : List Int) (h : Octs l) (hl : l.length ≤ 1000000) (hk : 20 ≤ k) : ridgewayref03_Get.f k l = some (getV l) := by
  unfold ridgewayref03_Get.f
  by_cases c : (l.length : Int) < 19
  · rw [if_pos c]
    unfold getV
    rw [if_pos c]
  · rw [if_neg c]
    exact get_loop l h (by omega) hl 16 k 0 (by omega) (by omega) rfl
end Go.Proofs.Ythkbpiagggeicaa.Pure
