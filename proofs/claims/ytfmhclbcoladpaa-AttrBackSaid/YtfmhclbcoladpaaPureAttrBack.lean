/- AttrBack: what is put is got. No conditions but those of the statement. -/
import Derived.Test.YtfmhclbcoladpaaNx1
import Derived.Test.YtfmhclbcoladpaaNx2
import Derived.Test.YtfmhclbcoladpaaNx8
import Derived.Test.YtfmhclbcoladpaaNx9
import Derived.Test.YtfmhclbcoladpaaXOctetT
import Derived.Test.YtfmhclbcoladpaaXAttrFew
namespace Go.Proofs.Ytfmhclbcoladpaa.Pure
open Go.RowKit Go.Proofs.Ytfmhclbcoladpaa.N Go.Proofs.YtfmhclbcoladpaaW.PrintWords Go.Proofs.YtfmhclbcoladpaaW.PrintLast Go.Proofs.YtfmhclbcoladpaaW.PrintMore Go.Proofs.YtfmhclbcoladpaaW.PrintX
set_option linter.unusedVariables false
set_option linter.unusedSimpArgs false

def bitB (f : Int) : Bool := decide (0 ≤ Go.bits .and .i64 f 239) && decide (Go.bits .and .i64 f 239 ≤ 255) && decide (Go.bits .andNot .i64 f 16 = Go.bits .and .i64 f 239) && decide (Go.bits .and .i64 (Go.bits .and .i64 f 239) 16 = 0) && decide (0 ≤ Go.bits .or .i64 (Go.bits .and .i64 f 239) 16) && decide (Go.bits .or .i64 (Go.bits .and .i64 f 239) 16 ≤ 255) && !decide (Go.bits .and .i64 (Go.bits .or .i64 (Go.bits .and .i64 f 239) 16) 16 = 0)
theorem bit_all : ((List.range 256).all fun n => bitB (n : Int)) = true := by decide +kernel
theorem bit_of (f : Int) (h0 : 0 ≤ f) (h1 : f ≤ 255) : (0 ≤ Go.bits .and .i64 f 239 ∧ Go.bits .and .i64 f 239 ≤ 255) ∧ Go.bits .andNot .i64 f 16 = Go.bits .and .i64 f 239 ∧ Go.bits .and .i64 (Go.bits .and .i64 f 239) 16 = 0 ∧ (0 ≤ Go.bits .or .i64 (Go.bits .and .i64 f 239) 16 ∧ Go.bits .or .i64 (Go.bits .and .i64 f 239) 16 ≤ 255) ∧ Go.bits .and .i64 (Go.bits .or .i64 (Go.bits .and .i64 f 239) 16) 16 ≠ 0 := by
  have h := List.all_eq_true.1 bit_all f.toNat (List.mem_range.2 (by omega))
  rw [show ((f.toNat : Nat) : Int) = f by omega] at h
  unfold bitB at h
  simp only [Bool.and_eq_true, decide_eq_true_eq, Bool.not_eq_true', decide_eq_false_iff_not] at h
  exact ⟨⟨h.1.1.1.1.1.1, h.1.1.1.1.1.2⟩, h.1.1.1.1.2, h.1.1.1.2, ⟨h.1.1.2, h.1.2⟩, h.2⟩
abbrev Atr := S24
/-- An attribute as it is got: flag 16 says how long its data is. -/
def okW (a : Atr) : Prop := 0 ≤ a.f0 ∧ a.f0 ≤ 255 ∧ 0 ≤ a.f1 ∧ a.f1 ≤ 255 ∧ Octs a.f2 ∧ a.f2.length ≤ 2000 ∧ (Go.bits .and .i64 a.f0 16 = 0 ↔ a.f2.length ≤ 255)
def encW (a : Atr) : List Int := a.f0 :: a.f1 :: (putL a.f2.length (if a.f2.length ≤ 255 then 1 else 2) ++ a.f2)
def encL (l : List Atr) : List Int := l.flatMap encW
theorem encW_len (a : Atr) (h : okW a) : (encW a).length ≤ 2004 := by
  unfold encW
  rw [List.length_cons, List.length_cons, List.length_append, putL_length]
  have := h.2.2.2.2.2.1
  split <;> omega
theorem encW_octs (a : Atr) (h : okW a) : Octs (encW a) := Octs.cons h.1 (by have := h.2.1; omega) (Octs.cons h.2.2.1 (by have := h.2.2.2.1; omega) ((putL_octs _ _).app h.2.2.2.2.1))
theorem encL_octs : ∀ l : List Atr, (∀ a ∈ l, okW a) → Octs (encL l)
  | [], _ => Octs.nil
  | a :: l, h => by
    unfold encL
    rw [List.flatMap_cons]
    exact (encW_octs a (h a (by simp))).app (encL_octs l fun b hb => h b (by simp [hb]))
theorem encL_len : ∀ l : List Atr, (∀ a ∈ l, okW a) → (encL l).length ≤ 2004 * l.length
  | [], _ => by simp [encL]
  | a :: l, h => by
    have h1 := encW_len a (h a (by simp))
    have h2 := encL_len l fun b hb => h b (by simp [hb])
    unfold encL at h2 ⊢
    rw [List.flatMap_cons, List.length_append, List.length_cons]
    omega
theorem putL_one (v : Int) (h0 : 0 ≤ v) (h1 : v < 256) : putL v 1 = [v] := by simp [putL]; omega
theorem put_ok (k : Nat) (b : List Int) (f t : Int) (d : List Int) (hk : 10 ≤ k) (hb : b.length ≤ 100000) (f0 : 0 ≤ f) (f1 : f ≤ 255) (t0 : 0 ≤ t) (t1 : t ≤ 255) (hd : d.length ≤ 2000) :
    attr_Put.f k b f t d = some (b ++ encW ⟨if d.length ≤ 255 then Go.bits .and .i64 f 239 else Go.bits .or .i64 (Go.bits .and .i64 f 239) 16, t, d⟩) := by
  obtain ⟨⟨g0, g1⟩, g2, g3, ⟨g4, g5⟩, g6⟩ := bit_of f f0 f1
  unfold attr_Put.f
  rw [if_neg (by omega), if_neg (by omega), if_neg (by omega), if_neg (by omega), decide_eq_false (by omega)]
  obtain ⟨k, rfl⟩ : ∃ k', k = k' + 1 := ⟨k - 1, by omega⟩
  have p1 : ∀ l v, l.length < 200000 → octet_Put.f k l v 1 = some (l ++ putL v 1) := fun l v h => octet_putN k l v 1 (by omega) (by omega) (by omega) (by omega)
  have p2 : ∀ l v, l.length < 200000 → octet_Put.f k l v 2 = some (l ++ putL v 2) := fun l v h => octet_putN k l v 2 (by omega) (by omega) (by omega) (by omega)
  rw [attr_Put.j0, if_neg (by decide), g2]
  unfold encW
  by_cases c : d.length ≤ 255
  · rw [if_neg (by omega), p1 _ _ (by omega), Option.bind_some, p1 _ _ (by rw [List.length_append, putL_length]; omega), Option.bind_some, p1 _ _ (by rw [List.length_append, List.length_append, putL_length, putL_length]; omega), Option.bind_some, if_pos (by simp only [List.length_append, putL_length]; omega), putL_one _ g0 (by omega), putL_one t t0 (by omega)]
    simp only [if_pos c]
    simp
  · rw [if_pos (by omega), p1 _ _ (by omega), Option.bind_some, p1 _ _ (by rw [List.length_append, putL_length]; omega), Option.bind_some, p2 _ _ (by rw [List.length_append, List.length_append, putL_length, putL_length]; omega), Option.bind_some, if_pos (by simp only [List.length_append, putL_length]; omega), putL_one _ g4 (by omega), putL_one t t0 (by omega)]
    simp only [if_neg c]
    simp
theorem put_no (k : Nat) (b : List Int) (f t : Int) (d : List Int) (hk : 10 ≤ k) (hb : b.length ≤ 100000) (h : f < 0 ∨ f > 255 ∨ t < 0 ∨ t > 255) : attr_Put.f k b f t d = some b := by
  obtain ⟨k, rfl⟩ : ∃ k', k = k' + 1 := ⟨k - 1, by omega⟩
  have hj : attr_Put.j0 (k + 1) b true f t d = some b := by
    rw [attr_Put.j0, if_pos rfl]
    simp only [slices_Clone_byte_byte.f]
    rw [if_pos (by omega)]
    rfl
  unfold attr_Put.f
  by_cases h1 : f < 0
  · rw [if_pos h1, hj]
  rw [if_neg h1]
  by_cases h2 : f > 255
  · rw [if_pos h2, hj]
  rw [if_neg h2]
  by_cases h3 : t < 0
  · rw [if_pos h3, hj]
  rw [if_neg h3, if_pos (by omega), hj]
theorem oget1 (k : Nat) (x : Int) (l : List Int) (hk : 7 ≤ k) (h : Octs (x :: l)) : octet_Get.f k (x :: l) 1 = some (x, l, true) := by
  rw [octet_getS k (x :: l) 1 hk h (by omega) (by omega) (by simp; omega)]
  simp [getL]
theorem get_enc (k : Nat) (a : Atr) (r : List Int) (hk : 20 ≤ k) (h : okW a) (hr : Octs r) : attr_Get.f k (encW a ++ r) = some (a.f0, a.f1, a.f2, r, true) := by
  obtain ⟨h0, h1, h2, h3, h4, h5, h6⟩ := h
  obtain ⟨k, rfl⟩ : ∃ k', k = k' + 1 := ⟨k - 1, by omega⟩
  have ho : ∀ n, Octs (putL a.f2.length n ++ (a.f2 ++ r)) := fun n => (putL_octs _ _).app (h4.app hr)
  have hg : ∀ n : Nat, 1 ≤ n → n ≤ 2 → (a.f2.length : Int) < 256 ^ n → attr_Get.j0 (k + 1) a.f0 (putL a.f2.length n ++ (a.f2 ++ r)) a.f1 (n : Int) = some (a.f0, a.f1, a.f2, r, true) := fun n n1 n2 n3 => by
    rw [attr_Get.j0, octet_getS k _ (n : Int) (by omega) (ho n) (by omega) (by omega) (by rw [List.length_append, putL_length]; omega), Option.bind_some, if_pos rfl]
    dsimp only
    rw [Int.toNat_natCast, List.take_left' (putL_length n _), List.drop_left' (putL_length n _), getL_putL, Int.emod_eq_of_lt (by omega) n3, octet_takeS _ _ (by omega) (by rw [List.length_append]; omega), Option.bind_some, if_pos rfl]
    dsimp only
    rw [Int.toNat_natCast, List.take_left' rfl, List.drop_left' rfl]
  unfold attr_Get.f encW
  rw [List.cons_append, List.cons_append, List.append_assoc]
  rw [oget1 (k + 1) a.f0 _ (by omega) (Octs.cons h0 (by omega) (Octs.cons h2 (by omega) (ho _))), Option.bind_some]
  dsimp only
  rw [oget1 (k + 1) a.f1 _ (by omega) (Octs.cons h2 (by omega) (ho _)), Option.bind_some]
  dsimp only
  by_cases c : a.f2.length ≤ 255
  · rw [if_pos (h6.2 c), if_pos c]
    exact hg 1 (by omega) (by omega) (by omega)
  · rw [if_neg (fun h => c (h6.1 h)), if_neg c]
    exact hg 2 (by omega) (by omega) (by omega)
theorem all_loop : ∀ (l acc : List Atr) (k : Nat), (∀ a ∈ l, okW a) → l.length + acc.length ≤ 1000 → l.length + 30 ≤ k → attr_All.l0 k (encL l) acc = some (acc ++ l, true)
  | [], acc, k, _, _, hk => by
    obtain ⟨k, rfl⟩ : ∃ k', k = k' + 1 := ⟨k - 1, by omega⟩
    rw [attr_All.l0, if_neg (by simp [encL])]
    simp
  | a :: l, acc, k, h, hl, hk => by
    obtain ⟨k, rfl⟩ : ∃ k', k = k' + 1 := ⟨k - 1, by omega⟩
    have ha := h a (by simp)
    have hl2 : ∀ b ∈ l, okW b := fun b hb => h b (by simp [hb])
    simp only [List.length_cons] at hl hk
    have e : encL (a :: l) = encW a ++ encL l := by unfold encL; rw [List.flatMap_cons]
    rw [e, attr_All.l0, if_pos (by unfold encW; simp; omega), get_enc k a _ (by omega) ha (encL_octs l hl2), Option.bind_some, if_pos rfl, if_pos (by omega)]
    dsimp only
    rw [all_loop l _ k hl2 (by rw [List.length_append, List.length_singleton]; omega) (by omega)]
    simp
theorem same_l (l : List Atr) (hl : l.length ≤ 1000) : ∀ (n k i : Nat), i + n = l.length → n < k → ridgewayref07_Same.l0 k l l (i : Int) = some true := by
  intro n
  induction n with
  | zero =>
    intro k i hi hk
    obtain ⟨k, rfl⟩ : ∃ k', k = k' + 1 := ⟨k - 1, by omega⟩
    rw [ridgewayref07_Same.l0, if_neg (by omega)]
  | succ n ih =>
    intro k i hi hk
    obtain ⟨k, rfl⟩ : ∃ k', k = k' + 1 := ⟨k - 1, by omega⟩
    rw [ridgewayref07_Same.l0, if_pos (by omega), if_pos (by omega), if_pos (by omega), if_pos rfl, if_pos rfl, if_pos rfl, w64 (by omega) (by omega)]
    exact ih k (i + 1) (by omega) (by omega)
theorem back_loop (l : List Atr) (hl : l.length ≤ 20) (hf : ∀ a ∈ l, fineA a) (hd : ∀ a ∈ l, a.f2.length ≤ 2000) : ∀ (n k i : Nat) (W : List Atr), i + n = l.length → W.length ≤ i → (∀ a ∈ W, okW a) → 2 * n + 100 ≤ k → ridgewaylaw07_AttrBack.l0 k l true (encL W) W (i : Int) = some true := by
  intro n
  induction n with
  | zero =>
    intro k i W hi hW hok hk
    obtain ⟨k, rfl⟩ : ∃ k', k = k' + 1 := ⟨k - 1, by omega⟩
    rw [ridgewaylaw07_AttrBack.l0, if_neg (by omega)]
    unfold attr_All.f ridgewayref07_Same.f
    rw [all_loop W [] k hok (by simp; omega) (by omega), Option.bind_some, if_pos rfl, if_pos rfl]
    dsimp only
    rw [List.nil_append, if_pos rfl]
    have hs := same_l W (by omega) W.length k 0 (by omega) (by omega)
    rw [show ((0 : Nat) : Int) = 0 from rfl] at hs
    rw [hs]
    rfl
  | succ n ih =>
    intro k i W hi hW hok hk
    obtain ⟨k, rfl⟩ : ∃ k', k = k' + 2 := ⟨k - 2, by omega⟩
    have hil : i < l.length := by omega
    have hrd : rd_T24 l (i : Int) = l[i] := by simp [rd_T24, hil]
    obtain ⟨a, ha⟩ : ∃ a, a = l[i] := ⟨_, rfl⟩
    have hm : a ∈ l := by rw [ha]; exact List.getElem_mem hil
    have hfa := hf a hm
    have hda := hd a hm
    have hel : (encL W).length ≤ 100000 := by have := encL_len W hok; omega
    rw [ridgewaylaw07_AttrBack.l0, if_pos (by omega), if_pos (by omega), hrd, ← ha]
    have hw1 : wrap64 ((i : Int) + 1) = ((i + 1 : Nat) : Int) := by rw [w64 (by omega) (by omega)]; omega
    by_cases hno : a.f0 < 0 ∨ a.f0 > 255 ∨ a.f1 < 0 ∨ a.f1 > 255
    · rw [put_no (k + 1) _ _ _ _ (by omega) hel hno, Option.bind_some]
      have hj : ridgewaylaw07_AttrBack.j1 (k + 1) l true (encL W) W (i : Int) (encL W) true a.f0 a.f1 a.f2 = some true := by
        rw [ridgewaylaw07_AttrBack.j1, if_pos rfl, if_pos rfl, hw1]
        exact ih k (i + 1) W (by omega) (by omega) hok (by omega)
      by_cases h1 : a.f0 < 0
      · rw [if_pos h1, hj]
      rw [if_neg h1]
      by_cases h2 : a.f0 > 255
      · rw [if_pos h2, hj]
      rw [if_neg h2]
      by_cases h3 : a.f1 < 0
      · rw [if_pos h3, hj]
      rw [if_neg h3, decide_eq_true (by omega), hj]
    · obtain ⟨⟨g0, g1⟩, g2, g3, ⟨g4, g5⟩, g6⟩ := bit_of a.f0 (by omega) (by omega)
      rw [put_ok (k + 1) _ _ _ _ (by omega) hel (by omega) (by omega) (by omega) (by omega) hda, Option.bind_some, if_neg (by omega), if_neg (by omega), if_neg (by omega), decide_eq_false (by omega), ridgewaylaw07_AttrBack.j1, if_neg (by decide)]
      have hnext : ∀ z : Atr, okW z → ridgewaylaw07_AttrBack.l0 k l true (encL W ++ encW z) (W ++ [z]) ((i + 1 : Nat) : Int) = some true := fun z hz => by
        have e : encL W ++ encW z = encL (W ++ [z]) := by unfold encL; rw [List.flatMap_append]; simp
        rw [e]
        exact ih k (i + 1) (W ++ [z]) (by omega) (by rw [List.length_append, List.length_singleton]; omega) (fun b hb => by
          rcases List.mem_append.1 hb with hb | hb
          · exact hok b hb
          · rw [List.mem_singleton.1 hb]; exact hz) (by omega)
      by_cases c : a.f2.length ≤ 255
      · rw [if_neg (by omega), if_pos (by omega), hw1, if_pos c]
        exact hnext _ ⟨g0, g1, by dsimp only; omega, by dsimp only; omega, hfa.1, hda, ⟨fun _ => c, fun _ => g3⟩⟩
      · rw [if_pos (by omega), if_pos (by omega), hw1, if_neg c]
        exact hnext _ ⟨g4, g5, by dsimp only; omega, by dsimp only; omega, hfa.1, hda, ⟨fun h => absurd h g6, fun h => absurd h c⟩⟩
theorem AttrBack : ridgewaylaw07_AttrBack.Pure := by
  intro l ⟨hl, hw⟩
  have hlen : l.length ≤ 9223372036854775807 := by simp only [maxLen] at hl; omega
  refine ⟨l.length + 1000, ?_⟩
  unfold ridgewaylaw07_AttrBack.f ridgewaylaw07_awake.f
  obtain ⟨b, hb, hb2⟩ := few_tot (l.length + 1000) l hlen (by omega)
  rw [Option.bind_some, hb, Option.bind_some]
  cases b
  · rfl
  · obtain ⟨h1, h2⟩ := hb2 rfl
    rw [if_pos rfl]
    exact back_loop l h1 (fine_of l hw h2) h2 l.length (l.length + 1000) 0 [] (by omega) (by simp) (by simp) (by omega)
end Go.Proofs.Ytfmhclbcoladpaa.Pure
