/- A hello's message with a field that is another one. Conditions: those in each statement. -/
import Derived.Test.YtedahidfbplpkaaXOpenP
namespace Go.Proofs.Ytedahidfbplpkaa.Pure
open Go.RowKit Go.Proofs.Ytedahidfbplpkaa.Q Go.Proofs.YtedahidfbplpkaaW.PrintWords Go.Proofs.YtedahidfbplpkaaW.PrintLast Go.Proofs.YtedahidfbplpkaaW.PrintMore Go.Proofs.YtedahidfbplpkaaW.PrintX
set_option linter.unusedVariables false
set_option linter.unusedSimpArgs false
theorem len2 {l : List Int} (h : l.length = 2) : ∃ a b, l = [a, b] := by
  match l, h with
  | [a, b], _ => exact ⟨a, b, rfl⟩
theorem len4 {l : List Int} (h : l.length = 4) : ∃ a b c d, l = [a, b, c, d] := by
  match l, h with
  | [a, b, c, d], _ => exact ⟨a, b, c, d, rfl⟩
theorem setO {l : List Int} (h : Octs l) (i : Nat) {v : Int} (h0 : 0 ≤ v) (h1 : v < 256) : Octs (l.set i v) := by
  intro x hx
  rcases List.mem_or_eq_of_mem_set hx with hm | rfl
  · exact h x hm
  · exact ⟨h0, h1⟩
theorem body_ok (a h i r : Int) (hs : saneH a h i r = true) : Octs (bodyH a h i r) ∧ (tailH a r).length ≤ 13 := by
  obtain ⟨h1, h2, h3, h4, h5, h6, h7⟩ := (saneH_iff a h i r).mp hs
  have hl : (tailH a r).length ≤ 13 := by rw [tail_len]; split <;> omega
  exact ⟨body_octs _ _ _ _ _ 4 (by omega) (putL_octs _ _) (putL_octs _ _) (putL_octs _ _) (by omega) (tail_octs a r h6 h7), hl⟩
theorem get_x (a h i r v ax : Int) (hs : saneH a h i r = true) (h0 : 0 ≤ v) (h1 : v < 256) (hv : v ≠ 4) : open_Get.f 1 ((bodyH a h i r).set 0 v) ax = some (0, 0, 0, 0, 2, 1, [0, 4]) := by
  obtain ⟨ho, hl⟩ := body_ok a h i r hs
  have e : (bodyH a h i r).set 0 v = v :: (putL (twoV a) 2 ++ (putL h 2 ++ (putL i 4 ++ (((tailH a r).length : Int) :: tailH a r)))) := rfl
  have ho2 := setO ho 0 h0 h1
  rw [e] at ho2 ⊢
  rw [get_form v _ ax _ _ _ _ (putL_length _ _) (putL_length _ _) (putL_length _ _) ho2 (by omega), if_neg hv]
theorem get_y (a h i r e : Int) (hs : saneH a h i r = true) (he : e = 1 ∨ e = 2) : open_Get.f 1 (((bodyH a h i r).set 3 0).set 4 e) a = some (0, 0, 0, 0, 2, 6, []) := by
  obtain ⟨ho, hl⟩ := body_ok a h i r hs
  obtain ⟨k1, k2, k3, k4, k5, k6, k7⟩ := (saneH_iff a h i r).mp hs
  obtain ⟨s1, s2, hs2⟩ := len2 (putL_length 2 (twoV a))
  obtain ⟨h1, h2, hh⟩ := len2 (putL_length 2 h)
  have ex : ((bodyH a h i r).set 3 0).set 4 e = 4 :: (putL (twoV a) 2 ++ ([0, e] ++ (putL i 4 ++ (((tailH a r).length : Int) :: tailH a r)))) := by
    unfold bodyH
    rw [hs2, hh]
    rfl
  have ho2 := setO (setO ho 3 (v := 0) (by omega) (by omega)) 4 (v := e) (by omega) (by omega)
  rw [ex] at ho2 ⊢
  have ht := two_range a k2
  rw [get_form 4 _ a _ _ _ _ (putL_length _ _) rfl (putL_length _ _) ho2 (by omega), if_pos rfl, if_pos rfl, read_whole a r (by omega) k3 k6 k7]
  simp only [Option.bind_some, if_true]
  rw [getL_putL, show twoV a % 256 ^ 2 = twoV a by omega, show getL [0, e] = e by simp [getL]]
  unfold judge
  rw [if_neg (by omega), if_neg (by simp; omega), if_pos he]
theorem get_z (a h i r : Int) (hs : saneH a h i r = true) : open_Get.f 1 (((((bodyH a h i r).set 5 0).set 6 0).set 7 0).set 8 0) a = some (0, 0, 0, 0, 2, 3, []) := by
  obtain ⟨ho, hl⟩ := body_ok a h i r hs
  obtain ⟨k1, k2, k3, k4, k5, k6, k7⟩ := (saneH_iff a h i r).mp hs
  obtain ⟨s1, s2, hs2⟩ := len2 (putL_length 2 (twoV a))
  obtain ⟨h1, h2, hh⟩ := len2 (putL_length 2 h)
  obtain ⟨i1, i2, i3, i4, hi⟩ := len4 (putL_length 4 i)
  have ex : ((((bodyH a h i r).set 5 0).set 6 0).set 7 0).set 8 0 = 4 :: (putL (twoV a) 2 ++ (putL h 2 ++ ([0, 0, 0, 0] ++ (((tailH a r).length : Int) :: tailH a r)))) := by
    unfold bodyH
    rw [hs2, hh, hi]
    rfl
  have ho2 := setO (setO (setO (setO ho 5 (v := 0) (by omega) (by omega)) 6 (v := 0) (by omega) (by omega)) 7 (v := 0) (by omega) (by omega)) 8 (v := 0) (by omega) (by omega)
  rw [ex] at ho2 ⊢
  have ht := two_range a k2
  rw [get_form 4 _ a _ _ _ _ (putL_length _ _) (putL_length _ _) rfl ho2 (by omega), if_pos rfl, if_pos rfl, read_whole a r (by omega) k3 k6 k7]
  simp only [Option.bind_some, if_true]
  rw [getL_putL, getL_putL, show twoV a % 256 ^ 2 = twoV a by omega, show h % 256 ^ 2 = h by omega, show getL [0, 0, 0, 0] = 0 by simp [getL]]
  unfold judge
  rw [if_neg (by omega), if_neg (by simp; omega), if_neg (by omega), if_pos rfl]
end Go.Proofs.Ytedahidfbplpkaa.Pure
