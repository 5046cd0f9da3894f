/- What the document's answer of chapter 6 reads: the same as open.each with its two function values. Conditions: octets are octets; rounds enough. -/
import Derived.Test.YtedahidfbplpkaaXOpenP
import Derived.Test.YtedahidfbplpkaaXRef01G
import Derived.Test.YtedahidfbplpkaaQx5
import Derived.Test.YtedahidfbplpkaaQx8
namespace Go.Proofs.Ytedahidfbplpkaa.Pure
open Go.RowKit Go.Proofs.Ytedahidfbplpkaa.Q Go.Proofs.YtedahidfbplpkaaW.PrintWords Go.Proofs.YtedahidfbplpkaaW.PrintLast Go.Proofs.YtedahidfbplpkaaW.PrintMore Go.Proofs.YtedahidfbplpkaaW.PrintX
set_option linter.unusedVariables false
set_option linter.unusedSimpArgs false
theorem least_ref (t : Int) : ridgewayref03_Least.f t = some (leastV t) := by
  unfold ridgewayref03_Least.f leastV
  (repeat' split) <;> rfl
theorem fits_ref (t s : Int) : ridgewayref03_fits.f t s = some (fitsV t s) := by
  unfold ridgewayref03_fits.f fitsV
  rw [least_ref]
  simp only [Option.bind_some]
  by_cases h4 : t = 4
  · subst h4
    have e : leastV 4 = 19 := rfl
    rw [e]
    (repeat' split) <;> simp_all <;> omega
  · (repeat' split) <;> simp_all <;> omega
theorem sane_ref (t : Int) (b : List Int) (hb : b.length ≤ 1000000) : ridgewayref03_Sane.f t b = some (saneV t b) := by
  unfold ridgewayref03_Sane.f saneV
  rw [w64 (by omega) (by omega), fits_ref, Int.add_comm]
  rfl
theorem two_ref (a : Int) : ridgewayref06_two.f a = some (twoV a) := by
  unfold ridgewayref06_two.f twoV
  split <;> rfl
theorem wrong_eq (a r s v : Int) (h : Bool) : ridgewayref06_reader_wrong.f a h r s v = some (a, h, r, if s < 0 then v else s) := by
  unfold ridgewayref06_reader_wrong.f
  split <;> rfl
/-- What the document's reader holds, beside the two variables. -/
def REL (st : Int × Int) (a : Int) (h : Bool) (r : Int) : Prop := (if st.1 < 0 then h = false ∧ a = 0 else h = true ∧ a = st.1) ∧ r = st.2
theorem one_rel (k : Nat) (hk : 7 ≤ k) (st : Int × Int) (code : Int) (x : List Int) (a r : Int) (h : Bool) (hR : REL st a h r) (hD : RD st) (hx : Octs x) :
    ∃ sub ok st' a' h' r', open1 st code x = some (sub, ok, st') ∧ ridgewayref06_reader_one.f k a h r (-1) code x = some (a', h', r', if ok = true then -1 else sub) ∧ RD st' ∧ (ok = true → REL st' a' h' r') ∧ (ok = false → 0 ≤ sub) := by
  obtain ⟨sub, ok, st', h1, h2⟩ := open1_ok st code x hD hx
  obtain ⟨d1, d2, d3, d4⟩ := hD
  obtain ⟨hA, rfl⟩ := hR
  have w1 : ∀ v : Int, (if (-1 : Int) < 0 then v else -1) = v := fun v => if_pos (by decide)
  unfold open1 at h1
  unfold ridgewayref06_reader_one.f
  by_cases c1 : code = 65
  · subst c1
    rw [if_pos rfl]
    by_cases c2 : (x.length : Int) = 4
    · rw [if_neg (by omega)] at h1
      rw [if_pos c2]
      by_cases c3 : st.1 < 0
      · rw [if_pos c3] at hA
        obtain ⟨rfl, rfl⟩ := hA
        rw [if_pos ⟨rfl, c3⟩, octet_getS 8 x 4 (by omega) hx (by omega) (by omega) (by omega)] at h1
        simp only [Option.bind_some] at h1
        rw [if_neg (by decide), ref01_get k x 4 hk hx, if_neg (by omega)]
        cases h1
        have hb := getL_bounds (x.take 4) (hx.take 4)
        refine ⟨_, _, _, getL (x.take 4), true, st.2, (by unfold open1; rw [if_neg (by omega), if_pos ⟨rfl, c3⟩, octet_getS 8 x 4 (by omega) hx (by omega) (by omega) (by omega)]; rfl), rfl, h2, fun _ => ⟨?_, rfl⟩, fun e => (by cases e)⟩
        rw [if_neg (by show ¬ getL (x.take 4) < 0; omega)]
        exact ⟨rfl, rfl⟩
      · rw [if_neg c3] at hA
        obtain ⟨rfl, rfl⟩ := hA
        rw [if_neg (fun e => c3 e.2), if_neg (by omega), if_neg (by decide)] at h1
        cases h1
        refine ⟨_, _, _, st.1, true, st.2, (by unfold open1; rw [if_neg (by omega), if_neg (fun e => c3 e.2), if_neg (by omega), if_neg (by decide)]), (by rw [if_pos rfl]; rfl), h2, fun _ => ⟨?_, rfl⟩, fun e => (by cases e)⟩
        rw [if_neg c3]
        exact ⟨rfl, rfl⟩
    · rw [if_pos (.inl ⟨rfl, c2⟩)] at h1
      cases h1
      rw [if_neg c2, wrong_eq, w1]
      exact ⟨0, false, st, a, h, st.2, (by unfold open1; rw [if_pos (.inl ⟨rfl, c2⟩)]), rfl, h2, fun e => (by cases e), fun _ => (by decide)⟩
  · rw [if_neg c1]
    by_cases c4 : code = 9
    · subst c4
      rw [if_pos rfl]
      by_cases c5 : (x.length : Int) = 1
      · have hr := hx.rd 0
        rw [if_neg (by omega), if_neg (by omega), w64 (n := rd x 0) (by omega) (by omega)] at h1
        rw [if_pos c5, w64 (n := rd x 0) (by omega) (by omega)]
        by_cases c6 : 0 ≤ st.2
        · rw [if_pos (show st.2 ≥ 0 from c6), if_pos (by omega)]
          by_cases c7 : st.2 = rd x 0
          · rw [if_neg (by omega), if_pos rfl] at h1
            cases h1
            rw [if_pos c7]
            refine ⟨_, _, _, a, h, rd x 0, (by unfold open1; rw [if_neg (by omega), if_neg (by omega), w64 (n := rd x 0) (by omega) (by omega), if_neg (by omega), if_pos rfl]), rfl, h2, fun _ => ⟨hA, rfl⟩, fun e => (by cases e)⟩
          · rw [if_pos ⟨rfl, c6, c7⟩] at h1
            cases h1
            rw [if_neg c7, wrong_eq, w1]
            exact ⟨11, false, st, a, h, st.2, (by unfold open1; rw [if_neg (by omega), if_neg (by omega), w64 (n := rd x 0) (by omega) (by omega), if_pos ⟨rfl, c6, c7⟩]), rfl, h2, fun e => (by cases e), fun _ => (by decide)⟩
        · rw [if_neg (show ¬ st.2 ≥ 0 from c6), if_pos (by omega)]
          rw [if_neg (by omega), if_pos rfl] at h1
          cases h1
          refine ⟨_, _, _, a, h, rd x 0, (by unfold open1; rw [if_neg (by omega), if_neg (by omega), w64 (n := rd x 0) (by omega) (by omega), if_neg (by omega), if_pos rfl]), rfl, h2, fun _ => ⟨hA, rfl⟩, fun e => (by cases e)⟩
      · rw [if_pos (.inr ⟨rfl, c5⟩)] at h1
        cases h1
        rw [if_neg c5, wrong_eq, w1]
        exact ⟨0, false, st, a, h, st.2, (by unfold open1; rw [if_pos (.inr ⟨rfl, c5⟩)]), rfl, h2, fun e => (by cases e), fun _ => (by decide)⟩
    · rw [if_neg (by omega), if_neg (by omega), if_neg (by omega), if_neg c4] at h1
      cases h1
      rw [if_neg c4]
      refine ⟨_, _, _, a, h, st.2, (by unfold open1; rw [if_neg (by omega), if_neg (by omega), if_neg (by omega), if_neg c4]), rfl, h2, fun _ => ⟨hA, rfl⟩, fun e => (by cases e)⟩
theorem cut2 (x n : Int) (r : List Int) (h0 : 0 ≤ n) : ((x :: n :: r).take (2 + n).toNat).drop 2 = r.take n.toNat := by
  rw [show (2 + n).toNat = n.toNat + 2 by omega]
  rfl
theorem drop2 (x n : Int) (r : List Int) (h0 : 0 ≤ n) : (x :: n :: r).drop (2 + n).toNat = r.drop n.toNat := by
  rw [show (2 + n).toNat = n.toNat + 2 by omega]
  rfl
theorem rd1 (x n : Int) (r : List Int) : rd (x :: n :: r) 1 = n := rfl
theorem rd0 (x n : Int) (r : List Int) : rd (x :: n :: r) 0 = x := rfl
theorem caps_stop (k : Nat) (x : List Int) (a r s : Int) (h : Bool) (hs : 0 ≤ s) : ridgewayref06_reader_caps.l0 (k + 2) x a h r s = some (a, h, r, s) := by
  simp only [ridgewayref06_reader_caps.l0, ridgewayref06_reader_caps.j1]
  rw [decide_eq_false (by omega)]
  simp
theorem caps_nil (k : Nat) (a r s : Int) (h : Bool) : ridgewayref06_reader_caps.l0 (k + 2) [] a h r s = some (a, h, r, s) := by
  simp [ridgewayref06_reader_caps.l0, ridgewayref06_reader_caps.j1]
theorem caps_one (k : Nat) (x a r : Int) (h : Bool) : ridgewayref06_reader_caps.l0 (k + 3) [x] a h r (-1) = some (a, h, r, 0) := by
  simp [ridgewayref06_reader_caps.l0, ridgewayref06_reader_caps.j1, ridgewayref06_reader_caps.j2, wrong_eq]
theorem caps_cut (k : Nat) (x n : Int) (t : List Int) (a r : Int) (h : Bool) (ho : Octs (x :: n :: t)) (hn : n > (t.length : Int)) : ridgewayref06_reader_caps.l0 (k + 3) (x :: n :: t) a h r (-1) = some (a, h, r, 0) := by
  have h0 := ho.tail.head
  simp only [ridgewayref06_reader_caps.l0, ridgewayref06_reader_caps.j1, ridgewayref06_reader_caps.j2, rd1, rd0, List.length_cons]
  have e1 : wrap64 n = n := w64 (by omega) (by omega)
  have e2 : wrap64 (2 + n) = 2 + n := w64 (by omega) (by omega)
  simp only [e1, e2]
  rw [if_pos (by omega), decide_eq_true (by omega), if_pos rfl, if_neg (by omega), if_pos (by omega), decide_eq_true (by omega), if_pos rfl, wrong_eq]
  rfl
theorem caps_step (k : Nat) (x n : Int) (t : List Int) (a r : Int) (h : Bool) (ho : Octs (x :: n :: t)) (hn : n ≤ (t.length : Int)) : ridgewayref06_reader_caps.l0 (k + 3) (x :: n :: t) a h r (-1) = (ridgewayref06_reader_one.f k a h r (-1) x (t.take n.toNat)).bind fun e => ridgewayref06_reader_caps.l0 k (t.drop n.toNat) e.1 e.2.1 e.2.2.1 e.2.2.2 := by
  have h0 := ho.tail.head
  simp only [ridgewayref06_reader_caps.l0, ridgewayref06_reader_caps.j1, ridgewayref06_reader_caps.j2, rd1, rd0, List.length_cons]
  have e1 : wrap64 n = n := w64 (by omega) (by omega)
  have e2 : wrap64 (2 + n) = 2 + n := w64 (by omega) (by omega)
  simp only [e1, e2]
  rw [if_pos (by omega), decide_eq_true (by omega), if_pos rfl, if_neg (by omega), if_pos (by omega), decide_eq_false (by omega), if_neg (by decide), if_pos (by omega), if_pos (by omega), if_pos (by omega), if_pos (by omega), cut2 x n t h0.1]
  congr 1
  funext e
  rw [if_pos (by omega), drop2 x n t h0.1]
theorem caps_rel : ∀ (m : Nat) (x : List Int), x.length ≤ m → ∀ (k K : Nat) (st : Int × Int) (a r : Int) (h : Bool), Octs x → x.length < K → 3 * x.length + 20 ≤ k → REL st a h r → RD st →
    ∃ sub ok st' a' h' r', eachG open1 K st x = some (sub, ok, st') ∧ ridgewayref06_reader_caps.l0 k x a h r (-1) = some (a', h', r', if ok = true then -1 else sub) ∧ RD st' ∧ (ok = true → REL st' a' h' r') ∧ (ok = false → 0 ≤ sub) := by
  intro m
  induction m with
  | zero =>
    intro x hx k K st a r h ho hK hk hR hD
    obtain ⟨K, rfl⟩ : ∃ j, K = j + 1 := ⟨K - 1, by omega⟩
    obtain ⟨k, rfl⟩ : ∃ j, k = j + 3 := ⟨k - 3, by omega⟩
    cases x with
    | nil => exact ⟨_, _, _, _, _, _, each_nil _ _ _, caps_nil _ _ _ _ _, hD, fun _ => hR, fun e => (by cases e)⟩
    | cons => simp at hx
  | succ m ih =>
    intro x hx k K st a r h ho hK hk hR hD
    obtain ⟨K, rfl⟩ : ∃ j, K = j + 1 := ⟨K - 1, by omega⟩
    obtain ⟨k, rfl⟩ : ∃ j, k = j + 3 := ⟨k - 3, by omega⟩
    cases x with
    | nil => exact ⟨_, _, _, _, _, _, each_nil _ _ _, caps_nil _ _ _ _ _, hD, fun _ => hR, fun e => (by cases e)⟩
    | cons c x =>
      cases x with
      | nil => exact ⟨_, _, _, _, _, _, each_one _ _ _ _ ho, caps_one _ _ _ _ _, hD, fun e => (by cases e), fun _ => (by decide)⟩
      | cons n t =>
        simp only [List.length_cons] at hx hK hk
        by_cases hn : n > (t.length : Int)
        · exact ⟨_, _, _, _, _, _, each_cut _ _ _ _ _ _ ho hn, caps_cut _ _ _ _ _ _ _ ho hn, hD, fun e => (by cases e), fun _ => (by decide)⟩
        · rw [each_cons _ _ _ _ _ _ ho (by omega), caps_step _ _ _ _ _ _ _ ho (by omega)]
          obtain ⟨sub, ok, st', a', h', r', e1, e2, g1, g2, g3⟩ := one_rel k (by omega) st c (t.take n.toNat) a r h hR hD (ho.tail.tail.take _)
          rw [e1, e2]
          simp only [Option.bind_some]
          cases ok
          · obtain ⟨k, rfl⟩ : ∃ j, k = j + 2 := ⟨k - 2, by omega⟩
            simp only [Bool.false_eq_true, if_false]
            exact ⟨_, _, _, _, _, _, rfl, caps_stop _ _ _ _ _ _ (g3 rfl), g1, fun e => (by cases e), fun _ => g3 rfl⟩
          · simp only [if_true]
            exact ih (t.drop n.toNat) (by rw [List.length_drop]; omega) k K st' a' r' h' (ho.tail.tail.drop _) (by rw [List.length_drop]; omega) (by rw [List.length_drop]; omega) (g2 rfl) g1
theorem params_stop (k : Nat) (x : List Int) (a r s : Int) (h : Bool) (hs : 0 ≤ s) : ridgewayref06_reader_params.l0 (k + 2) x a h r s = some (a, h, r, s) := by
  simp only [ridgewayref06_reader_params.l0, ridgewayref06_reader_params.j1]
  rw [decide_eq_false (by omega)]
  simp
theorem params_nil (k : Nat) (a r s : Int) (h : Bool) : ridgewayref06_reader_params.l0 (k + 2) [] a h r s = some (a, h, r, s) := by
  simp [ridgewayref06_reader_params.l0, ridgewayref06_reader_params.j1]
theorem params_one (k : Nat) (x a r : Int) (h : Bool) : ridgewayref06_reader_params.l0 (k + 3) [x] a h r (-1) = some (a, h, r, 0) := by
  simp [ridgewayref06_reader_params.l0, ridgewayref06_reader_params.j1, ridgewayref06_reader_params.j2, wrong_eq]
theorem params_cut (k : Nat) (x n : Int) (t : List Int) (a r : Int) (h : Bool) (ho : Octs (x :: n :: t)) (hn : n > (t.length : Int)) : ridgewayref06_reader_params.l0 (k + 3) (x :: n :: t) a h r (-1) = some (a, h, r, 0) := by
  have h0 := ho.tail.head
  simp only [ridgewayref06_reader_params.l0, ridgewayref06_reader_params.j1, ridgewayref06_reader_params.j2, rd1, rd0, List.length_cons]
  have e1 : wrap64 n = n := w64 (by omega) (by omega)
  have e2 : wrap64 (2 + n) = 2 + n := w64 (by omega) (by omega)
  simp only [e1, e2]
  rw [if_pos (by omega), decide_eq_true (by omega), if_pos rfl, if_neg (by omega), if_pos (by omega), decide_eq_true (by omega), if_pos rfl, wrong_eq]
  rfl
theorem params_other (k : Nat) (x n : Int) (t : List Int) (a r : Int) (h : Bool) (ho : Octs (x :: n :: t)) (hn : n ≤ (t.length : Int)) (hx : x ≠ 2) : ridgewayref06_reader_params.l0 (k + 3) (x :: n :: t) a h r (-1) = some (a, h, r, 4) := by
  have h0 := ho.tail.head
  simp only [ridgewayref06_reader_params.l0, ridgewayref06_reader_params.j1, ridgewayref06_reader_params.j2, rd1, rd0, List.length_cons]
  have e1 : wrap64 n = n := w64 (by omega) (by omega)
  have e2 : wrap64 (2 + n) = 2 + n := w64 (by omega) (by omega)
  simp only [e1, e2]
  rw [if_pos (by omega), decide_eq_true (by omega), if_pos rfl, if_neg (by omega), if_pos (by omega), decide_eq_false (by omega), if_neg (by decide), if_pos (by omega), if_pos (by omega), if_neg hx, wrong_eq]
  rfl
theorem params_step (k : Nat) (n : Int) (t : List Int) (a r : Int) (h : Bool) (ho : Octs (2 :: n :: t)) (hn : n ≤ (t.length : Int)) : ridgewayref06_reader_params.l0 (k + 3) (2 :: n :: t) a h r (-1) = (ridgewayref06_reader_caps.f k a h r (-1) (t.take n.toNat)).bind fun e => ridgewayref06_reader_params.l0 k (t.drop n.toNat) e.1 e.2.1 e.2.2.1 e.2.2.2 := by
  have h0 := ho.tail.head
  simp only [ridgewayref06_reader_params.l0, ridgewayref06_reader_params.j1, ridgewayref06_reader_params.j2, rd1, rd0, List.length_cons]
  have e1 : wrap64 n = n := w64 (by omega) (by omega)
  have e2 : wrap64 (2 + n) = 2 + n := w64 (by omega) (by omega)
  simp only [e1, e2]
  rw [if_pos (by omega), decide_eq_true (by omega), if_pos rfl, if_neg (by omega), if_pos (by omega), decide_eq_false (by omega), if_neg (by decide), if_pos (by omega), if_pos (by omega), if_pos trivial, if_pos (by omega), if_pos (by omega), cut2 2 n t h0.1]
  congr 1
  funext e
  rw [if_pos (by omega), drop2 2 n t h0.1]
theorem params_rel : ∀ (m : Nat) (x : List Int), x.length ≤ m → ∀ (k K : Nat) (st : Int × Int) (a r : Int) (h : Bool), Octs x → x.length < K → x.length < 5000 → 6 * x.length + 40 ≤ k → REL st a h r → RD st →
    ∃ sub ok st' a' h' r', eachG open2 K st x = some (sub, ok, st') ∧ ridgewayref06_reader_params.l0 k x a h r (-1) = some (a', h', r', if ok = true then -1 else sub) ∧ RD st' ∧ (ok = true → REL st' a' h' r') ∧ (ok = false → 0 ≤ sub) := by
  intro m
  induction m with
  | zero =>
    intro x hx k K st a r h ho hK h5 hk hR hD
    obtain ⟨K, rfl⟩ : ∃ j, K = j + 1 := ⟨K - 1, by omega⟩
    obtain ⟨k, rfl⟩ : ∃ j, k = j + 3 := ⟨k - 3, by omega⟩
    cases x with
    | nil => exact ⟨_, _, _, _, _, _, each_nil _ _ _, params_nil _ _ _ _ _, hD, fun _ => hR, fun e => (by cases e)⟩
    | cons => simp at hx
  | succ m ih =>
    intro x hx k K st a r h ho hK h5 hk hR hD
    obtain ⟨K, rfl⟩ : ∃ j, K = j + 1 := ⟨K - 1, by omega⟩
    obtain ⟨k, rfl⟩ : ∃ j, k = j + 3 := ⟨k - 3, by omega⟩
    cases x with
    | nil => exact ⟨_, _, _, _, _, _, each_nil _ _ _, params_nil _ _ _ _ _, hD, fun _ => hR, fun e => (by cases e)⟩
    | cons c x =>
      cases x with
      | nil => exact ⟨_, _, _, _, _, _, each_one _ _ _ _ ho, params_one _ _ _ _ _, hD, fun e => (by cases e), fun _ => (by decide)⟩
      | cons n t =>
        simp only [List.length_cons] at hx hK hk h5
        by_cases hn : n > (t.length : Int)
        · exact ⟨_, _, _, _, _, _, each_cut _ _ _ _ _ _ ho hn, params_cut _ _ _ _ _ _ _ ho hn, hD, fun e => (by cases e), fun _ => (by decide)⟩
        · rw [each_cons _ _ _ _ _ _ ho (by omega)]
          by_cases hc : c = 2
          · subst hc
            rw [params_step _ _ _ _ _ _ ho (by omega)]
            have hl : (t.take n.toNat).length ≤ t.length := by rw [List.length_take]; omega
            obtain ⟨sub, ok, st', a', h', r', e1, e2, g1, g2, g3⟩ := caps_rel _ (t.take n.toNat) (Nat.le_refl _) k 5000 st a r h (ho.tail.tail.take _) (by omega) (by omega) hR hD
            have e1' : open2 st 2 (t.take n.toNat) = some (sub, ok, st') := by
              unfold open2
              rw [if_pos rfl]
              exact e1
            have e2' : ridgewayref06_reader_caps.f k a h r (-1) (t.take n.toNat) = _ := e2
            rw [e1', e2']
            simp only [Option.bind_some]
            cases ok
            · obtain ⟨k, rfl⟩ : ∃ j, k = j + 2 := ⟨k - 2, by omega⟩
              simp only [Bool.false_eq_true, if_false]
              exact ⟨_, _, _, _, _, _, rfl, params_stop _ _ _ _ _ _ (g3 rfl), g1, fun e => (by cases e), fun _ => g3 rfl⟩
            · simp only [if_true]
              exact ih (t.drop n.toNat) (by rw [List.length_drop]; omega) k K st' a' r' h' (ho.tail.tail.drop _) (by rw [List.length_drop]; omega) (by rw [List.length_drop]; omega) (by rw [List.length_drop]; omega) (g2 rfl) g1
          · rw [params_other _ _ _ _ _ _ _ ho (by omega) hc]
            have e1' : open2 st c (t.take n.toNat) = some (4, false, st) := by
              unfold open2
              rw [if_neg hc]
            rw [e1']
            simp only [Option.bind_some, Bool.false_eq_true, if_false]
            exact ⟨_, _, _, _, _, _, rfl, rfl, hD, fun e => (by cases e), fun _ => (by decide)⟩
end Go.Proofs.Ytedahidfbplpkaa.Pure
