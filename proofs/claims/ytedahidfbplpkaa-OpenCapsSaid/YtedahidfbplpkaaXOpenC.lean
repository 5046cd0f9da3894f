/- A hello's message with a capability that nobody knows. Conditions: those in each statement. -/
import Derived.Test.YtedahidfbplpkaaXOpenF
namespace Go.Proofs.Ytedahidfbplpkaa.Pure
open Go.RowKit Go.Proofs.Ytedahidfbplpkaa.Q Go.Proofs.YtedahidfbplpkaaW.PrintWords Go.Proofs.YtedahidfbplpkaaW.PrintLast Go.Proofs.YtedahidfbplpkaaW.PrintMore Go.Proofs.YtedahidfbplpkaaW.PrintX
set_option linter.unusedVariables false
set_option linter.unusedSimpArgs false
def capL (code : Int) (b : List Int) : List Int := 2 :: ((b.length : Int) + 2) :: code :: (b.length : Int) :: b
theorem cap_octs (code : Int) (b : List Int) (h0 : 0 ≤ code) (h1 : code < 256) (hb : Octs b) (hl : b.length ≤ 100) : Octs (capL code b) :=
  Octs.cons (by omega) (by omega) (Octs.cons (by omega) (by omega) (Octs.cons h0 h1 (Octs.cons (by omega) (by omega) hb)))
theorem other_in (st : Int × Int) (code : Int) (b : List Int) (h0 : 0 ≤ code) (h1 : code < 256) (hb : Octs b) (hl : b.length ≤ 100) (c1 : code ≠ 65) (c2 : code ≠ 9) : open2 st 2 (code :: (b.length : Int) :: b) = some (0, true, st) := by
  unfold open2
  rw [if_pos rfl, each_cons open1 4999 st code _ b (Octs.cons h0 h1 (Octs.cons (by omega) (by omega) hb)) (by omega), Int.toNat_natCast, List.take_length, List.drop_length]
  have h : open1 st code b = some (0, true, st) := by
    unfold open1
    rw [if_neg (by omega), if_neg (by omega), if_neg (by omega), if_neg c2]
  rw [h]
  simp only [Option.bind_some, if_true]
  exact each_nil open1 4998 st
theorem cap_cut (code : Int) (b r : List Int) : (code :: (b.length : Int) :: (b ++ r)).take ((b.length : Int) + 2).toNat = code :: (b.length : Int) :: b ∧ (code :: (b.length : Int) :: (b ++ r)).drop ((b.length : Int) + 2).toNat = r := by
  have e : ((b.length : Int) + 2).toNat = b.length + 2 := by omega
  rw [e]
  constructor
  · rw [List.take_succ_cons, List.take_succ_cons, List.take_left]
  · rw [List.drop_succ_cons, List.drop_succ_cons, List.drop_left]
theorem read_cap (k : Nat) (st : Int × Int) (code : Int) (b r : List Int) (h0 : 0 ≤ code) (h1 : code < 256) (hb : Octs b) (hl : b.length ≤ 100) (c1 : code ≠ 65) (c2 : code ≠ 9) (hr : Octs r) : eachG open2 (k + 1) st (capL code b ++ r) = eachG open2 k st r := by
  have o : Octs (capL code b ++ r) := (cap_octs code b h0 h1 hb hl).app hr
  have e : capL code b ++ r = 2 :: ((b.length : Int) + 2) :: (code :: (b.length : Int) :: (b ++ r)) := by simp [capL]
  rw [e] at o ⊢
  rw [each_cons open2 k st 2 _ _ o (by simp only [List.length_cons, List.length_append]; omega), (cap_cut code b r).1, (cap_cut code b r).2, other_in st code b h0 h1 hb hl c1 c2]
  simp only [Option.bind_some, if_true]
theorem read_bad (k : Nat) (st : Int × Int) (kind code : Int) (b : List Int) (hk0 : 0 ≤ kind) (hk1 : kind < 256) (hk : kind ≠ 2) (h0 : 0 ≤ code) (h1 : code < 256) (hb : Octs b) (hl : b.length ≤ 100) : eachG open2 (k + 1) st (kind :: ((b.length : Int) + 2) :: code :: (b.length : Int) :: b) = some (4, false, st) := by
  have o : Octs (kind :: ((b.length : Int) + 2) :: code :: (b.length : Int) :: b) := Octs.cons hk0 hk1 (cap_octs code b h0 h1 hb hl).tail
  rw [each_cons open2 k st kind _ _ o (by simp only [List.length_cons]; omega)]
  have h : ∀ x, open2 st kind x = some (4, false, st) := by
    intro x
    unfold open2
    rw [if_neg hk]
  rw [h]
  simp
/-- The body's octets, and what stands behind them. -/
theorem body_split (a h i r : Int) : ∃ s1 s2 h1 h2 i1 i2 i3 i4, putL (twoV a) 2 = [s1, s2] ∧ putL h 2 = [h1, h2] ∧ putL i 4 = [i1, i2, i3, i4] ∧ bodyH a h i r = 4 :: s1 :: s2 :: h1 :: h2 :: i1 :: i2 :: i3 :: i4 :: ((tailH a r).length : Int) :: tailH a r := by
  obtain ⟨s1, s2, hs2⟩ := len2 (putL_length 2 (twoV a))
  obtain ⟨h1, h2, hh⟩ := len2 (putL_length 2 h)
  obtain ⟨i1, i2, i3, i4, hi⟩ := len4 (putL_length 4 i)
  refine ⟨s1, s2, h1, h2, i1, i2, i3, i4, hs2, hh, hi, ?_⟩
  unfold bodyH
  rw [hs2, hh, hi]
  rfl
theorem get_tail (a h i r n : Int) (tl : List Int) (hs : saneH a h i r = true) (ho : Octs tl) (hl : tl.length ≤ 200) (hn : n = (tl.length : Int)) : open_Get.f 1 (4 :: (putL (twoV a) 2 ++ (putL h 2 ++ (putL i 4 ++ (n :: tl))))) a = (eachG open2 5000 (-1, -1) tl).bind fun e => if e.2.1 = true then some (judge e.2.2.1 e.2.2.2 a (twoV a) h i) else some (0, 0, 0, 0, 2, e.1, []) := by
  obtain ⟨k1, k2, k3, k4, k5, k6, k7⟩ := (saneH_iff a h i r).mp hs
  have ht := two_range a k2
  by_cases hc : tl.length < 256
  · rw [get_form 4 n a _ _ _ tl (putL_length _ _) (putL_length _ _) (putL_length _ _) (body_octs _ _ _ _ _ 4 (by omega) (putL_octs _ _) (putL_octs _ _) (putL_octs _ _) (by omega) ho) (by omega), if_pos rfl, if_pos hn, getL_putL, getL_putL, getL_putL, show twoV a % 256 ^ 2 = twoV a by omega, show h % 256 ^ 2 = h by omega, show i % 256 ^ 4 = i by omega]
  · omega
theorem judge_ok (a h i r : Int) (hs : saneH a h i r = true) : judge a r a (twoV a) h i = (a, h, i, r, 0, 0, []) := by
  obtain ⟨k1, k2, k3, k4, k5, k6, k7⟩ := (saneH_iff a h i r).mp hs
  unfold judge
  rw [if_neg (by omega), if_neg (by simp; omega), if_neg (by omega), if_neg (by omega)]
theorem caps_x (a h i r code n : Int) (b : List Int) (hs : saneH a h i r = true) (h0 : 0 ≤ code) (h1 : code < 256) (hb : Octs b) (hl : b.length ≤ 100) (c1 : code ≠ 65) (c2 : code ≠ 9)
    (hn : n = (((bodyH a h i r).take 10 ++ capL code b ++ (bodyH a h i r).drop 10).length : Int) - 10) : open_Get.f 1 (((bodyH a h i r).take 10 ++ capL code b ++ (bodyH a h i r).drop 10).set 9 n) a = some (a, h, i, r, 0, 0, []) := by
  obtain ⟨ho, htl⟩ := body_ok a h i r hs
  obtain ⟨k1, k2, k3, k4, k5, k6, k7⟩ := (saneH_iff a h i r).mp hs
  obtain ⟨s1, s2, e1, e2, i1, i2, i3, i4, es, eh, ei, eb⟩ := body_split a h i r
  have cl : (capL code b).length = b.length + 4 := by simp [capL]
  have hlen : (((bodyH a h i r).take 10 ++ capL code b ++ (bodyH a h i r).drop 10).length : Int) = 10 + ((capL code b ++ tailH a r).length : Int) := by
    rw [eb]
    simp only [List.take_succ_cons, List.take_zero, List.drop_succ_cons, List.drop_zero, List.length_append, List.length_cons, List.length_nil]
    omega
  have ex : ((bodyH a h i r).take 10 ++ capL code b ++ (bodyH a h i r).drop 10).set 9 n = 4 :: (putL (twoV a) 2 ++ (putL h 2 ++ (putL i 4 ++ (n :: (capL code b ++ tailH a r))))) := by
    rw [eb, es, eh, ei]
    rfl
  rw [ex, get_tail a h i r n _ hs ((cap_octs code b h0 h1 hb hl).app (tail_octs a r k6 k7)) (by rw [List.length_append]; omega) (by omega), read_cap 4999 (-1, -1) code b _ h0 h1 hb hl c1 c2 (tail_octs a r k6 k7)]
  obtain ⟨m, hm, e⟩ := read_tail 4997 a r (by omega) k3 k6 k7 [] Octs.nil
  rw [List.append_nil] at e
  rw [e]
  obtain ⟨q, rfl⟩ : ∃ q, m = q + 1 := ⟨m - 1, by omega⟩
  rw [each_nil]
  simp only [Option.bind_some, if_true]
  rw [judge_ok a h i r hs]
theorem y_form (a h i r n : Int) (p : List Int) : (bodyH a h i r ++ p).set 9 n = 4 :: (putL (twoV a) 2 ++ (putL h 2 ++ (putL i 4 ++ (n :: (tailH a r ++ p))))) := by
  obtain ⟨s1, s2, e1, e2, i1, i2, i3, i4, es, eh, ei, eb⟩ := body_split a h i r
  rw [eb, es, eh, ei]
  rfl
theorem caps_y (a h i r code n : Int) (b : List Int) (hs : saneH a h i r = true) (h0 : 0 ≤ code) (h1 : code < 256) (hb : Octs b) (hl : b.length ≤ 100) (c1 : code ≠ 65) (c2 : code ≠ 9)
    (hn : n = ((bodyH a h i r ++ capL code b).length : Int) - 10) : open_Get.f 1 ((bodyH a h i r ++ capL code b).set 9 n) a = some (a, h, i, r, 0, 0, []) := by
  obtain ⟨ho, htl⟩ := body_ok a h i r hs
  obtain ⟨k1, k2, k3, k4, k5, k6, k7⟩ := (saneH_iff a h i r).mp hs
  have cl : (capL code b).length = b.length + 4 := by simp [capL]
  have oc := cap_octs code b h0 h1 hb hl
  rw [List.length_append, body_len] at hn
  rw [y_form, get_tail a h i r n _ hs ((tail_octs a r k6 k7).app oc) (by rw [List.length_append]; omega) (by rw [List.length_append]; omega)]
  obtain ⟨m, hm, e⟩ := read_tail 4998 a r (by omega) k3 k6 k7 (capL code b) oc
  rw [e]
  obtain ⟨q, rfl⟩ : ∃ q, m = q + 1 + 1 := ⟨m - 2, by omega⟩
  have e2 := read_cap (q + 1) (a, r) code b [] h0 h1 hb hl c1 c2 Octs.nil
  rw [List.append_nil] at e2
  rw [e2, each_nil]
  simp only [Option.bind_some, if_true]
  rw [judge_ok a h i r hs]
theorem caps_z (a h i r code n kind : Int) (b : List Int) (hs : saneH a h i r = true) (h0 : 0 ≤ code) (h1 : code < 256) (hb : Octs b) (hl : b.length ≤ 100) (hk0 : 0 ≤ kind) (hk1 : kind < 256) (hk : kind ≠ 2)
    (hn : n = ((bodyH a h i r ++ capL code b).length : Int) - 10) : open_Get.f 1 (((bodyH a h i r ++ capL code b).set 9 n).set (bodyH a h i r).length kind) a = some (0, 0, 0, 0, 2, 4, []) := by
  obtain ⟨ho, htl⟩ := body_ok a h i r hs
  obtain ⟨k1, k2, k3, k4, k5, k6, k7⟩ := (saneH_iff a h i r).mp hs
  have cl : (capL code b).length = b.length + 4 := by simp [capL]
  have oc := cap_octs code b h0 h1 hb hl
  have ok : Octs (kind :: ((b.length : Int) + 2) :: code :: (b.length : Int) :: b) := Octs.cons hk0 hk1 oc.tail
  rw [List.length_append, body_len] at hn
  have e0 : ((bodyH a h i r ++ capL code b).set 9 n).set (bodyH a h i r).length kind = (bodyH a h i r ++ (kind :: ((b.length : Int) + 2) :: code :: (b.length : Int) :: b)).set 9 n := by
    rw [List.set_comm _ _ (by rw [body_len]; omega), List.set_append_right _ _ (Nat.le_refl _), Nat.sub_self]
    rfl
  rw [e0, y_form, get_tail a h i r n _ hs ((tail_octs a r k6 k7).app ok) (by rw [List.length_append]; simp only [List.length_cons]; omega) (by rw [List.length_append]; simp only [List.length_cons]; omega)]
  obtain ⟨m, hm, e⟩ := read_tail 4998 a r (by omega) k3 k6 k7 _ ok
  rw [e]
  obtain ⟨q, rfl⟩ : ∃ q, m = q + 1 := ⟨m - 1, by omega⟩
  rw [read_bad q (a, r) kind code b hk0 hk1 hk h0 h1 hb hl]
  simp
end Go.Proofs.Ytedahidfbplpkaa.Pure
