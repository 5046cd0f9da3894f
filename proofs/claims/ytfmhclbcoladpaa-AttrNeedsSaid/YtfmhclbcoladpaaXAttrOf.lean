/- What attr.Sane and attr.Of come to, and how its attributes are judged. Conditions: those that each states. -/
import Derived.Test.YtfmhclbcoladpaaEx3
import Derived.Test.YtfmhclbcoladpaaEx4
import Derived.Test.YtfmhclbcoladpaaEx6
import Derived.Test.YtfmhclbcoladpaaXAttr
namespace Go.Proofs.Ytfmhclbcoladpaa.Pure
open Go.RowKit Go.Proofs.Ytfmhclbcoladpaa.E Go.Proofs.YtfmhclbcoladpaaW.PrintWords Go.Proofs.YtfmhclbcoladpaaW.PrintLast Go.Proofs.YtfmhclbcoladpaaW.PrintMore Go.Proofs.YtfmhclbcoladpaaW.PrintX
set_option linter.unusedVariables false
set_option linter.unusedSimpArgs false

def saneP (o : Int) (as_ : List Int) (h t : Int) : Prop := (∀ a ∈ as_, 1 ≤ a ∧ a ≤ 4294967295) ∧ as_.length ≤ 255 ∧ 0 ≤ o ∧ o ≤ 2 ∧ 0 < h ∧ h ≤ 4294967295 ∧ 0 ≤ t ∧ t ≤ 4294967295
theorem sane_tot (o : Int) (as_ : List Int) (h t : Int) (hl : as_.length ≤ 9223372036854775807) : ∃ b, attr_Sane.f o as_ h t = some b ∧ (b = true → saneP o as_ h t) := by
  unfold attr_Sane.f slices_ContainsFunc_int_int.f
  rw [if_pos (by omega), Option.bind_some]
  by_cases c : (as_.any fun c => decide (c < 1 ∨ c > 4294967295)) = true
  · exact ⟨false, if_pos c, fun h => by cases h⟩
  rw [if_neg c]
  have ha : ∀ a ∈ as_, 1 ≤ a ∧ a ≤ 4294967295 := fun a ha => by
    simp only [List.any_eq_true, decide_eq_true_eq, not_exists, not_and] at c
    have := c a ha
    omega
  split
  · split
    · split
      · split
        · split
          · split
            · refine ⟨_, rfl, fun hb => ?_⟩
              have := of_decide_eq_true hb
              exact ⟨ha, by omega, by omega, by omega, by omega, by omega, by omega, by omega⟩
            · exact ⟨false, rfl, fun h => by cases h⟩
          · exact ⟨false, rfl, fun h => by cases h⟩
        · exact ⟨false, rfl, fun h => by cases h⟩
      · exact ⟨false, rfl, fun h => by cases h⟩
    · exact ⟨false, rfl, fun h => by cases h⟩
  · exact ⟨false, rfl, fun h => by cases h⟩
def bodyL (as_ : List Int) : List Int := as_.flatMap fun a => putL a 4
def segOf (as_ : List Int) : List Int := (if as_.length = 0 then [] else [2, (as_.length : Int) % 256]) ++ bodyL as_
def ofL (o : Int) (as_ : List Int) (h t : Int) : List S24 := [⟨64, 1, [o % 256]⟩, ⟨64, 2, segOf as_⟩, ⟨64, 3, putL h 4⟩] ++ (if t > 0 then [⟨192, 35, putL t 4⟩] else [])
theorem bodyL_len (as_ : List Int) : (bodyL as_).length = 4 * as_.length := by
  induction as_ with
  | nil => rfl
  | cons a l ih => simp only [bodyL, List.flatMap_cons, List.length_append, putL_length, List.length_cons] at *; omega
theorem bodyL_octs (as_ : List Int) : Octs (bodyL as_) := by
  induction as_ with
  | nil => exact Octs.nil
  | cons a l ih => simp only [bodyL, List.flatMap_cons] at *; exact (putL_octs 4 a).app ih
theorem of_loop (o : Int) (as_ : List Int) (h t : Int) (hl : as_.length < 1000000) : ∀ (n k i : Nat) (acc : List Int), i + n = as_.length → n + 10 ≤ k → acc.length ≤ 10 + 4 * i →
    attr_Of.l0 k acc as_ (as_.length : Int) (i : Int) o as_ h t = some ([⟨64, 1, [o % 256]⟩, ⟨64, 2, acc ++ bodyL (as_.drop i)⟩, ⟨64, 3, putL h 4⟩] ++ (if t > 0 then [⟨192, 35, putL t 4⟩] else [])) := by
  intro n
  induction n with
  | zero =>
    intro k i acc hi hk ha
    obtain ⟨k, rfl⟩ : ∃ k', k = k' + 1 := ⟨k - 1, by omega⟩
    have hd : as_.drop i = [] := List.drop_eq_nil_of_le (by omega)
    have hp : ∀ v, octet_Put.f k ([] : List Int) v 4 = some (putL v 4) := fun v => by rw [octet_put k [] v 4 (by omega) (by simp), if_neg (by omega)]; rfl
    rw [attr_Of.l0, if_neg (by omega), hd, hp, Option.bind_some, Option.bind_some]
    by_cases ct : t > 0
    · rw [if_pos ct, if_pos ct, hp, Option.bind_some, if_pos (by simp)]
      simp [bodyL]
    · rw [if_neg ct, if_neg ct]
      simp [bodyL]
  | succ n ih =>
    intro k i acc hi hk ha
    obtain ⟨k, rfl⟩ : ∃ k', k = k' + 1 := ⟨k - 1, by omega⟩
    have hil : i < as_.length := by omega
    have hrd : rd as_ (i : Int) = as_[i] := by simp [rd, hil]
    rw [attr_Of.l0, if_pos (by omega), if_pos (by omega), if_pos (by omega), hrd, octet_put k acc _ 4 (by omega) (by omega), if_neg (by omega), Option.bind_some, w64 (by omega) (by omega)]
    have hih := ih k (i + 1) (acc ++ putL as_[i] (4 : Int).toNat) (by omega) (by omega) (by rw [List.length_append, putL_length]; have : (4 : Int).toNat = 4 := rfl; omega)
    rw [show ((i + 1 : Nat) : Int) = (i : Int) + 1 by omega] at hih
    have e : acc ++ putL as_[i] (4 : Int).toNat ++ bodyL (as_.drop (i + 1)) = acc ++ bodyL (as_.drop i) := by
      rw [List.drop_eq_getElem_cons hil, List.append_assoc]
      rfl
    rw [hih, e]
theorem of_eq (k : Nat) (o : Int) (as_ : List Int) (h t : Int) (hs : attr_Sane.f o as_ h t = some true) (hl : as_.length < 1000000) (hk : as_.length + 20 ≤ k) : attr_Of.f k o as_ h t = some (ofL o as_ h t) := by
  unfold attr_Of.f
  rw [hs, Option.bind_some, if_pos rfl]
  obtain ⟨k, rfl⟩ : ∃ k', k = k' + 1 := ⟨k - 1, by omega⟩
  unfold ofL segOf
  by_cases c : as_.length = 0
  · rw [if_neg (by omega), if_pos c, attr_Of.j0]
    have := of_loop o as_ h t hl as_.length k 0 [] (by omega) (by omega) (by simp)
    simpa using this
  · rw [if_pos (by omega), if_neg c, attr_Of.j0]
    have := of_loop o as_ h t hl as_.length k 0 [2, (as_.length : Int) % 256] (by omega) (by omega) (by simp)
    simpa using this
theorem numV_put (a : Int) (h0 : 0 ≤ a) (h1 : a ≤ 4294967295) : numV (putL a 4) = a := by
  unfold numV
  rw [if_pos (by rw [putL_length]; omega), List.take_of_length_le (by rw [putL_length]; omega), getL_putL]
  have : (256 : Int) ^ 4 = 4294967296 := by decide
  omega
theorem number_put (a : Int) (h0 : 1 ≤ a) (h1 : a ≤ 4294967295) : attr_number.f 100 (putL a 4) = some (a, true) := by
  rw [number_eq 100 _ (by omega) (putL_octs 4 a), numV_put a (by omega) h1, putL_length, decide_eq_true (show 0 < a by omega)]
  rfl
theorem quads_body : ∀ (as_ : List Int) (j : Nat) (acc : List Int), (∀ a ∈ as_, 1 ≤ a ∧ a ≤ 4294967295) → as_.length < j → quads 100 j acc (bodyL as_) = some (acc ++ as_, true)
  | [], 0, _, _, h => by omega
  | [], j + 1, acc, _, _ => by rw [quads, if_pos (by rfl)]; simp
  | a :: l, 0, _, _, h => by omega
  | a :: l, j + 1, acc, ha, hj => by
    have h0 := ha a (by simp)
    have e : bodyL (a :: l) = putL a 4 ++ bodyL l := by simp [bodyL]
    rw [quads, if_neg (by rw [bodyL_len]; simp), e, List.take_left' (by rw [putL_length]), List.drop_left' (by rw [putL_length]), number_put a h0.1 h0.2, Option.bind_some, if_pos rfl, quads_body l j _ (fun x hx => ha x (by simp [hx])) (by simp only [List.length_cons] at hj; omega)]
    simp
theorem segL_of (as_ : List Int) (ha : ∀ a ∈ as_, 1 ≤ a ∧ a ≤ 4294967295) (hl : as_.length ≤ 255) : segL 100 ((segOf as_).length + 1) [] (segOf as_) = some (as_, true) := by
  unfold segOf
  by_cases c : as_.length = 0
  · obtain rfl := List.eq_nil_of_length_eq_zero c
    rfl
  · rw [if_neg c]
    obtain ⟨n, hn⟩ : ∃ n : Nat, n = as_.length := ⟨_, rfl⟩
    have hm : (as_.length : Int) % 256 = (n : Int) := by omega
    rw [hm]
    have hlen : ([2, (n : Int)] ++ bodyL as_).length = 2 + 4 * n := by rw [List.length_append, bodyL_len, hn]; simp <;> omega
    have e4 : (4 * (n : Int)).toNat = 4 * n := by omega
    rw [segL, if_neg (by rw [hlen]; omega)]
    have g0 : ([2, (n : Int)] ++ bodyL as_).getD 0 0 = 2 := rfl
    have g1 : ([2, (n : Int)] ++ bodyL as_).getD 1 0 = (n : Int) := rfl
    have gd : ([2, (n : Int)] ++ bodyL as_).drop 2 = bodyL as_ := rfl
    rw [g0, g1, if_neg (by rw [hlen]; omega), gd, e4, List.take_of_length_le (by rw [bodyL_len]; omega), quads_body as_ _ [] ha (by rw [hlen]; omega), Option.bind_some, if_pos rfl, List.drop_eq_nil_of_le (Nat.le_of_eq hlen), hlen]
    show segL 100 (2 + 4 * n) ([] ++ as_) [] = _
    rw [show 2 + 4 * n = (1 + 4 * n) + 1 by omega, segL]
    simp
theorem segOf_octs (as_ : List Int) : Octs (segOf as_) := by
  unfold segOf
  refine Octs.app ?_ (bodyL_octs as_)
  split
  · exact Octs.nil
  · exact Octs.cons (by decide) (by decide) (Octs.cons (Int.emod_nonneg _ (by decide)) (Int.emod_lt_of_pos _ (by decide)) Octs.nil)
theorem segOf_len (as_ : List Int) (hl : as_.length ≤ 255) : (segOf as_).length ≤ 1100 := by
  unfold segOf
  rw [List.length_append, bodyL_len]
  split <;> simp <;> omega
theorem ofL_fine (o : Int) (as_ : List Int) (h t : Int) (hl : as_.length ≤ 255) : ∀ a ∈ ofL o as_ h t, fineA a := by
  have f1 : fineA ⟨64, 1, [o % 256]⟩ := ⟨Octs.cons (Int.emod_nonneg _ (by decide)) (Int.emod_lt_of_pos _ (by decide)) Octs.nil, by simp, by simp⟩
  have f2 : fineA ⟨64, 2, segOf as_⟩ := ⟨segOf_octs as_, by have := segOf_len as_ hl; show (segOf as_).length < _; omega, by simp⟩
  have f3 : fineA ⟨64, 3, putL h 4⟩ := ⟨putL_octs 4 h, by show (putL h 4).length < _; rw [putL_length]; omega, by simp⟩
  have f4 : fineA ⟨192, 35, putL t 4⟩ := ⟨putL_octs 4 t, by show (putL t 4).length < _; rw [putL_length]; omega, by simp⟩
  intro a ha
  unfold ofL at ha
  split at ha
  · simp only [List.cons_append, List.nil_append, List.mem_cons, List.not_mem_nil, or_false] at ha
    rcases ha with rfl | rfl | rfl | rfl <;> assumption
  · simp only [List.append_nil, List.mem_cons, List.not_mem_nil, or_false] at ha
    rcases ha with rfl | rfl | rfl <;> assumption
theorem b192 : Go.bits .and .i64 64 192 = 64 := by decide
theorem b192' : Go.bits .and .i64 192 192 = 192 := by decide
theorem j_skip (f0 f1 : Int) (f2 : List Int) (l : List S24) (seen : List Int) (p : Pth) (sp : Bool) (h : f1 ∈ seen ∨ (5 ≤ f1 ∧ f1 ≤ 7)) : judgeL 100 (⟨f0, f1, f2⟩ :: l) seen p sp = judgeL 100 l (f1 :: seen) p sp := by
  rw [judgeL_cons, if_pos h]
theorem j_read (f0 f1 : Int) (f2 : List Int) (l : List S24) (seen : List Int) (p p' : Pth) (sp b : Bool) (h : f1 ∉ seen) (hn : ¬ (5 ≤ f1 ∧ f1 ≤ 7)) (hk : kindB f1 = true) (hf : Go.bits .and .i64 f0 192 = flagV f1) (hr : rdF 100 f1 p f2 = some (p', b)) :
    judgeL 100 (⟨f0, f1, f2⟩ :: l) seen p sp = judgeL 100 l (f1 :: seen) p' (if b = true then sp else true) := by
  rw [judgeL_cons, if_neg (by rintro (h1 | h1); exact h h1; exact hn h1), if_pos hk, if_neg (by simpa using hf), hr]
  rfl
theorem j_one (o : Int) (ho : 0 ≤ o ∧ o ≤ 2) (l : List S24) (seen : List Int) (p : Pth) (sp : Bool) (h : 1 ∉ seen) : judgeL 100 (⟨64, 1, [o % 256]⟩ :: l) seen p sp = judgeL 100 l (1 :: seen) (o, p.2) sp := by
  have e : o % 256 = o := by omega
  rw [j_read 64 1 [o % 256] l seen p (o, p.2) sp true h (by omega) rfl b192 (by rw [rdF, if_pos rfl, if_pos ⟨rfl, by rw [e]; exact ho.2⟩, e]; rfl)]
  rfl
theorem j_two (as_ : List Int) (ha : ∀ a ∈ as_, 1 ≤ a ∧ a ≤ 4294967295) (hl : as_.length ≤ 255) (l : List S24) (seen : List Int) (p : Pth) (sp : Bool) (h : 2 ∉ seen) : judgeL 100 (⟨64, 2, segOf as_⟩ :: l) seen p sp = judgeL 100 l (2 :: seen) (p.1, as_, p.2.2) sp := by
  rw [j_read 64 2 (segOf as_) l seen p (p.1, as_, p.2.2) sp true h (by omega) rfl b192 (by rw [rdF, if_neg (by decide), if_pos rfl, segL_of as_ ha hl]; rfl)]
  rfl
theorem j_three (a : Int) (h0 : 1 ≤ a ∧ a ≤ 4294967295) (l : List S24) (seen : List Int) (p : Pth) (sp : Bool) (h : 3 ∉ seen) : judgeL 100 (⟨64, 3, putL a 4⟩ :: l) seen p sp = judgeL 100 l (3 :: seen) (p.1, p.2.1, a, p.2.2.2) sp := by
  rw [j_read 64 3 (putL a 4) l seen p (p.1, p.2.1, a, p.2.2.2) sp true h (by omega) rfl b192 (by rw [rdF, if_neg (by decide), if_neg (by decide), if_pos rfl, number_put a h0.1 h0.2]; rfl)]
  rfl
theorem j_otc (a : Int) (h0 : 1 ≤ a ∧ a ≤ 4294967295) (l : List S24) (seen : List Int) (p : Pth) (sp : Bool) (h : 35 ∉ seen) : judgeL 100 (⟨192, 35, putL a 4⟩ :: l) seen p sp = judgeL 100 l (35 :: seen) (p.1, p.2.1, p.2.2.1, a) sp := by
  rw [j_read 192 35 (putL a 4) l seen p (p.1, p.2.1, p.2.2.1, a) sp true h (by omega) rfl b192' (by rw [rdF, if_neg (by decide), if_neg (by decide), if_neg (by decide), if_neg (by decide), number_put a h0.1 h0.2]; rfl)]
  rfl
theorem j_end (seen : List Int) (p : Pth) (h1 : 1 ∈ seen) (h2 : 2 ∈ seen) (h3 : 3 ∈ seen) : judgeL 100 [] seen p false = some (p.1, p.2.1, p.2.2.1, p.2.2.2, 0, 0, 0, []) := by
  rw [judgeL, if_neg (by rintro (h | h | h | h); cases h; exact h h1; exact h h2; exact h h3)]
end Go.Proofs.Ytfmhclbcoladpaa.Pure
