/- OpenIs, the plain law: open and the document's answer come to the same. Conditions: those of the statement's inputs. -/
import Derived.Test.YtedahidfbplpkaaXOpenR
import Derived.Test.YtedahidfbplpkaaQx10
import Derived.Test.YtedahidfbplpkaaQx11
import Derived.Test.YtedahidfbplpkaaQx9
namespace Go.Proofs.Ytedahidfbplpkaa.Pure
open Go.RowKit Go.Proofs.Ytedahidfbplpkaa.Q Go.Proofs.YtedahidfbplpkaaW.PrintWords Go.Proofs.YtedahidfbplpkaaW.PrintLast Go.Proofs.YtedahidfbplpkaaW.PrintMore Go.Proofs.YtedahidfbplpkaaW.PrintX
set_option linter.unusedVariables false
set_option linter.unusedSimpArgs false
theorem ref01_getS (k : Nat) (l : List Int) (n : Int) (hk : 7 ≤ k) (h : Octs l) (h1 : 1 ≤ n) (h4 : n ≤ 4) (hl : n ≤ l.length) : ridgewayref01_Get.f k l n = some (getL (l.take n.toNat), l.drop n.toNat, true) := by
  rw [ref01_get k l n hk h, if_neg (by omega)]
theorem get_ref (t ax : Int) (b : List Int) (hb : Octs b) (hl : b.length ≤ 5000) : ∃ e : Int × Int × Int × Int × Int × Int × List Int, open_Get.f t b ax = some e ∧ ridgewayref06_Get.f t b ax = some e := by
  unfold open_Get.f ridgewayref06_Get.f
  by_cases c0 : t = 1
  rotate_left
  · rw [if_neg c0, if_neg c0]
    exact ⟨_, rfl, rfl⟩
  subst c0
  rw [if_pos rfl, if_pos rfl, sane_eq _ _ (by omega), sane_ref _ _ (by omega)]
  simp only [Option.bind_some]
  cases hs : saneV 1 b
  · exact ⟨_, rfl, rfl⟩
  have hlen := saneV1 b hs
  have h9 := hb.rd 9
  simp only [if_true]
  have hc : 10 ≤ b.length ∧ b.length ≤ 5000 ∧ 0 ≤ rd b 9 ∧ rd b 9 < 256 := ⟨hlen.1, by omega, h9.1, h9.2⟩
  rw [if_pos hc, if_pos hc]
  by_cases c1 : rd b 0 = 4
  rotate_left
  · rw [if_neg c1, if_neg c1]
    exact ⟨_, rfl, rfl⟩
  rw [if_pos c1, if_pos c1]
  by_cases c2 : rd b 9 = (b.length : Int) - 10
  rotate_left
  · rw [if_neg c2, if_neg c2]
    exact ⟨_, rfl, rfl⟩
  rw [if_pos c2, if_pos c2]
  have hd : (b.drop 10).length ≤ 255 := by rw [List.length_drop]; omega
  obtain ⟨sub, ok, st, a, h, r, e1, e2, g1, g2, g3⟩ := params_rel _ (b.drop 10) (Nat.le_refl _) 5000 5000 (-1, -1) 0 (-1) false (hb.drop 10) (by omega) (by omega) (by omega) ⟨by simp, rfl⟩ ⟨by simp, by simp, by simp, by simp⟩
  have e2' : ridgewayref06_reader_params.f 5000 0 false (-1) (-1) (b.drop 10) = _ := e2
  rw [e1, e2']
  simp only [Option.bind_some]
  cases ok
  · simp only [Bool.false_eq_true, if_false]
    rw [if_pos (g3 rfl)]
    exact ⟨_, rfl, rfl⟩
  simp only [if_true]
  rw [if_neg (by decide)]
  rw [octet_getS 8 _ 2 (by omega) (hb.drop 1) (by omega) (by omega) (by rw [List.length_drop]; omega), ref01_getS 8 _ 2 (by omega) (hb.drop 1) (by omega) (by omega) (by rw [List.length_drop]; omega)]
  simp only [Option.bind_some, show (2 : Int).toNat = 2 from rfl, List.drop_drop]
  rw [octet_getS 8 _ 2 (by omega) (hb.drop _) (by omega) (by omega) (by rw [List.length_drop]; omega), ref01_getS 8 _ 2 (by omega) (hb.drop 3) (by omega) (by omega) (by rw [List.length_drop]; omega)]
  simp only [Option.bind_some, show (2 : Int).toNat = 2 from rfl, List.drop_drop]
  rw [octet_getS 8 _ 4 (by omega) (hb.drop _) (by omega) (by omega) (by rw [List.length_drop]; omega), ref01_getS 8 _ 4 (by omega) (hb.drop 5) (by omega) (by omega) (by rw [List.length_drop]; omega)]
  simp only [Option.bind_some, show (4 : Int).toNat = 4 from rfl, List.drop_drop]
  rw [written_eq, two_ref]
  simp only [Option.bind_some]
  obtain ⟨hA, rfl⟩ := g2 rfl
  by_cases c3 : st.1 < 0
  · rw [if_pos c3] at hA
    obtain ⟨rfl, rfl⟩ := hA
    rw [if_pos c3, if_pos rfl]
    exact ⟨_, rfl, rfl⟩
  · rw [if_neg c3] at hA
    obtain ⟨rfl, rfl⟩ := hA
    rw [if_neg c3, if_neg (show ¬ (true = false) by decide)]
    exact ⟨_, rfl, rfl⟩
theorem saneH_ref (a h i r : Int) : ridgewayref06_Sane.f a h i r = some (saneH a h i r) := by
  unfold ridgewayref06_Sane.f
  (repeat' split) <;> (congr 1; rw [Bool.eq_iff_iff, saneH_iff]; (try simp only [decide_eq_true_eq, Bool.false_eq_true, false_iff]); omega)
theorem put_ref (k : Nat) (a h i r : Int) (hk : 8 ≤ k) : ridgewayref06_Put.f k a h i r = some (if saneH a h i r = true then (1, bodyH a h i r) else (0, [])) := by
  unfold ridgewayref06_Put.f
  rw [saneH_ref]
  simp only [Option.bind_some]
  cases hs : saneH a h i r
  · rw [if_neg (by decide), if_neg (by decide)]
  rw [if_pos rfl, if_pos rfl, two_ref]
  obtain ⟨h1, h2, h3, h4, h5, h6, h7⟩ := (saneH_iff a h i r).mp hs
  simp only [Option.bind_some]
  rw [ref01_put k _ _ 2 (by omega) (by simp), if_neg (by omega), show (2 : Int).toNat = 2 from rfl]
  simp only [Option.bind_some]
  rw [ref01_put k _ _ 2 (by omega) (by simp [putL_length]), if_neg (by omega), show (2 : Int).toNat = 2 from rfl]
  simp only [Option.bind_some]
  rw [ref01_put k _ _ 4 (by omega) (by simp [putL_length]), if_neg (by omega), show (4 : Int).toNat = 4 from rfl]
  simp only [Option.bind_some]
  rw [ref01_put k _ a 4 (by omega) (by simp), if_neg (by omega), show (4 : Int).toNat = 4 from rfl]
  simp only [Option.bind_some]
  by_cases c : r ≥ 0
  · rw [if_pos c, if_pos (by simp [putL_length]), if_pos (by simp [putL_length]), if_pos (by simp [putL_length])]
    have hr : r % 256 = r := by omega
    simp [bodyH, tailH, roleL, c, hr, putL_length]
  · rw [if_neg c, if_pos (by simp [putL_length]), if_pos (by simp [putL_length])]
    simp [bodyH, tailH, roleL, c, putL_length]
theorem same_self (t : Int) (b : List Int) : ridgewayref03_Same.f t b t b = some true := by
  unfold ridgewayref03_Same.f
  simp
theorem sameNote_self (c s : Int) (b : List Int) : ridgewayref03_SameNote.f c s b c s b = some true := by
  unfold ridgewayref03_SameNote.f
  simp
theorem OpenIs : ridgewaylaw06_OpenIs.Pure := by
  intro x m ax hx hm ha
  refine ⟨8, ?_⟩
  unfold ridgewaylaw06_OpenIs.f ridgewaylaw06_awake.f
  simp only [Option.bind_some]
  by_cases hl : (m.f1.length : Int) > 5000
  · rw [if_pos hl]
  rw [if_neg hl]
  have ho : Octs m.f1 := octs_of_wf hm.2.2
  obtain ⟨e, h1, h2⟩ := get_ref m.f0 ax m.f1 ho (by omega)
  rw [h1, h2]
  simp only [Option.bind_some, if_true]
  rw [sameNote_self, saneH_eq, saneH_ref, put_eq 8 _ _ _ _ (by omega), put_ref 8 _ _ _ _ (by omega)]
  simp [same_self]
end Go.Proofs.Ytedahidfbplpkaa.Pure
