/- What attr.Judge says of a path's attributes without one of three, with other flags, with an octet more, in plain words. Conditions: those in each statement. -/
import Derived.Test.YtfmhclbcoladpaaXAttrOf
import Derived.Test.YtfmhclbcoladpaaEx3
import Derived.Test.YtfmhclbcoladpaaEx4
import Derived.Test.YtfmhclbcoladpaaEx6
namespace Go.Proofs.Ytfmhclbcoladpaa.Pure
open Go.RowKit Go.Proofs.Ytfmhclbcoladpaa.E Go.Proofs.YtfmhclbcoladpaaW.PrintWords Go.Proofs.YtfmhclbcoladpaaW.PrintLast Go.Proofs.YtfmhclbcoladpaaW.PrintMore Go.Proofs.YtfmhclbcoladpaaW.PrintX
set_option linter.unusedVariables false
set_option linter.unusedSimpArgs false
abbrev AT := S24
abbrev spoiltR : JR := (0, [], 0, 0, 1, 0, 0, [])
def badA (a : AT) : Prop := Go.bits .and .i64 a.f0 192 ≠ flagV a.f1 ∨ ∀ p r, rdF 100 a.f1 p a.f2 = some r → r.2 = false
theorem j_spoilt : ∀ (l : List AT) (seen : List Int) (p : Pth) (sp : Bool), (∀ a ∈ l, kindB a.f1 = true ∧ Octs a.f2) →
    (sp = true ∨ ∃ t, (t = 1 ∨ t = 2 ∨ t = 3) ∧ t ∉ seen ∧ ∀ a ∈ l, a.f1 = t → badA a) → judgeL 100 l seen p sp = some spoiltR
  | [], seen, p, sp, _, hc => by
    rw [judgeL]
    rw [if_pos]
    rcases hc with h | ⟨t, ht, hs, -⟩
    · exact .inl h
    · rcases ht with rfl | rfl | rfl
      · exact .inr (.inl hs)
      · exact .inr (.inr (.inl hs))
      · exact .inr (.inr (.inr hs))
  | a :: l, seen, p, sp, hk, hc => by
    have hk' : ∀ x ∈ l, kindB x.f1 = true ∧ Octs x.f2 := fun x hx => hk x (List.mem_cons_of_mem _ hx)
    obtain ⟨hka, hoa⟩ := hk a (by simp)
    rw [judgeL_cons]
    by_cases c : a.f1 ∈ seen ∨ (5 ≤ a.f1 ∧ a.f1 ≤ 7)
    · rw [if_pos c]
      refine j_spoilt l _ p sp hk' ?_
      rcases hc with h | ⟨t, ht, hs, hb⟩
      · exact .inl h
      · have hne : a.f1 ≠ t := by
          rintro rfl
          rcases c with c | c
          · exact hs c
          · omega
        exact .inr ⟨t, ht, by simp only [List.mem_cons, not_or]; exact ⟨Ne.symm hne, hs⟩, fun x hx => hb x (List.mem_cons_of_mem _ hx)⟩
    rw [if_neg c, if_pos hka]
    by_cases d : Go.bits .and .i64 a.f0 192 ≠ flagV a.f1
    · rw [if_pos d]
      exact j_spoilt l _ p true hk' (.inl rfl)
    rw [if_neg d]
    obtain ⟨r, hr⟩ := rdF_tot a.f1 p a.f2 hoa
    rw [hr, Option.bind_some]
    refine j_spoilt l _ _ _ hk' ?_
    rcases hc with h | ⟨t, ht, hs, hb⟩
    · left
      rw [h]
      split <;> rfl
    · by_cases hne : a.f1 = t
      · left
        rcases hb a (by simp) hne with h | h
        · exact absurd h d
        · rw [h p r hr]
          rfl
      · exact .inr ⟨t, ht, by simp only [List.mem_cons, not_or]; exact ⟨fun h => hne h.symm, hs⟩, fun x hx => hb x (List.mem_cons_of_mem _ hx)⟩
theorem ofL_kind (o : Int) (as_ : List Int) (h t : Int) : ∀ a ∈ ofL o as_ h t, kindB a.f1 = true := by
  intro a ha
  unfold ofL at ha
  split at ha <;> simp at ha <;> rcases ha with rfl | rfl | rfl | rfl <;> rfl
/-- The octet more. -/
abbrev moreA (a : AT) : AT := ⟨a.f0, a.f1, a.f2 ++ [9]⟩
abbrev flagA (a : AT) (f : Int) : AT := ⟨f, a.f1, a.f2⟩
theorem number_five (b : List Int) (hb : b.length = 4) (ho : Octs b) : ∀ r, attr_number.f 100 (b ++ [9]) = some r → r.2 = false := by
  intro r hr
  rw [number_eq 100 (b ++ [9]) (by omega) (fun x hx => by
    simp only [List.mem_append, List.mem_singleton] at hx
    rcases hx with h | rfl
    · exact ho x h
    · omega)] at hr
  obtain rfl := Option.some.inj hr
  simp [hb]
theorem seg_more (as_ : List Int) (ha : ∀ a ∈ as_, 1 ≤ a ∧ a ≤ 4294967295) (hl : as_.length ≤ 255) : segL 100 ((segOf as_ ++ [9]).length + 1) [] (segOf as_ ++ [9]) = some (as_, false) := by
  unfold segOf
  by_cases c : as_.length = 0
  · obtain rfl := List.eq_nil_of_length_eq_zero c
    rfl
  · rw [if_neg c]
    obtain ⟨n, hn⟩ : ∃ n : Nat, n = as_.length := ⟨_, rfl⟩
    have hm : (as_.length : Int) % 256 = (n : Int) := by omega
    rw [hm]
    have hlen : ([2, (n : Int)] ++ bodyL as_ ++ [9]).length = 2 + 4 * n + 1 := by rw [List.length_append, List.length_append, bodyL_len, hn]; simp <;> omega
    have e4 : (4 * (n : Int)).toNat = 4 * n := by omega
    rw [segL, if_neg (by rw [hlen]; omega)]
    have g0 : ([2, (n : Int)] ++ bodyL as_ ++ [9]).getD 0 0 = 2 := rfl
    have g1 : ([2, (n : Int)] ++ bodyL as_ ++ [9]).getD 1 0 = (n : Int) := rfl
    have gd : ([2, (n : Int)] ++ bodyL as_ ++ [9]).drop 2 = bodyL as_ ++ [9] := rfl
    have gx : ([2, (n : Int)] ++ bodyL as_ ++ [9]).drop (2 + 4 * n) = [9] := by
      rw [← List.drop_drop, gd, List.drop_left' (by rw [bodyL_len]; omega)]
    rw [g0, g1, if_neg (by rw [hlen]; omega), gd, e4, List.take_left' (by rw [bodyL_len]; omega), quads_body as_ _ [] ha (by rw [hlen]; omega), Option.bind_some, if_pos rfl, gx, hlen]
    show segL 100 (2 + 4 * n + 1) ([] ++ as_) [9] = _
    rw [segL]
    simp
theorem ofL_sub (o : Int) (as_ : List Int) (h t : Int) : ∃ R : List AT, ofL o as_ h t = ⟨64, 1, [o % 256]⟩ :: ⟨64, 2, segOf as_⟩ :: ⟨64, 3, putL h 4⟩ :: R ∧ (∀ a ∈ R, a.f1 = 35) ∧ R.length ≤ 1 := by
  unfold ofL
  split
  · exact ⟨_, rfl, by simp, by simp⟩
  · exact ⟨_, rfl, by simp, by simp⟩
theorem ok_of (o : Int) (as_ : List Int) (h t : Int) (hl : as_.length ≤ 255) : ∀ a ∈ ofL o as_ h t, kindB a.f1 = true ∧ Octs a.f2 := fun a ha => ⟨ofL_kind o as_ h t a ha, (ofL_fine o as_ h t hl a ha).1⟩
theorem less_judge (o : Int) (as_ : List Int) (h t : Int) (hl : as_.length ≤ 255) (i : Nat) (hi : i < 3) : attr_Judge.f ((ofL o as_ h t).take i ++ (ofL o as_ h t).drop (i + 1)) = some spoiltR := by
  have hf := ofL_fine o as_ h t hl
  have hk := ok_of o as_ h t hl
  have hm : ∀ a ∈ (ofL o as_ h t).take i ++ (ofL o as_ h t).drop (i + 1), a ∈ ofL o as_ h t := fun a ha => by
    rcases List.mem_append.1 ha with ha | ha
    · exact List.mem_of_mem_take ha
    · exact List.mem_of_mem_drop ha
  obtain ⟨R, hR, hr, hlr⟩ := ofL_sub o as_ h t
  rw [judge_eq _ (fun a ha => hf a (hm a ha)) (by rw [List.length_append, List.length_take, List.length_drop, hR]; simp only [List.length_cons]; omega)]
  refine j_spoilt _ _ _ _ (fun a ha => hk a (hm a ha)) (.inr ⟨(i : Int) + 1, by omega, by simp, fun a ha he => ?_⟩)
  exfalso
  have h3 : i = 0 ∨ i = 1 ∨ i = 2 := by omega
  rw [hR] at ha
  rcases h3 with rfl | rfl | rfl <;> simp at ha <;> rcases ha with rfl | rfl | ha <;> first | (simp at he; done) | (have := hr a ha; simp at he; omega)
theorem rest_ok (o : Int) (as_ : List Int) (h t : Int) (hl : as_.length ≤ 255) (i : Nat) (x : AT) (hx : fineA x ∧ kindB x.f1 = true) : (∀ a ∈ (ofL o as_ h t).set i x, fineA a) ∧ ∀ a ∈ (ofL o as_ h t).set i x, kindB a.f1 = true ∧ Octs a.f2 := by
  have hf := ofL_fine o as_ h t hl
  have hk := ok_of o as_ h t hl
  refine ⟨fun a ha => ?_, fun a ha => ?_⟩
  · rcases List.mem_or_eq_of_mem_set ha with ha | rfl
    · exact hf a ha
    · exact hx.1
  · rcases List.mem_or_eq_of_mem_set ha with ha | rfl
    · exact hk a ha
    · exact ⟨hx.2, hx.1.1⟩
theorem set_bad (o : Int) (as_ : List Int) (h t : Int) (i : Nat) (hi : i < 3) (x : AT) (hx : x.f1 = (i : Int) + 1) (hb : badA x) : ∀ a ∈ (ofL o as_ h t).set i x, a.f1 = (i : Int) + 1 → badA a := by
  intro a ha he
  obtain ⟨R, hR, hr, hlr⟩ := ofL_sub o as_ h t
  have h3 : i = 0 ∨ i = 1 ∨ i = 2 := by omega
  rw [hR] at ha
  rcases h3 with rfl | rfl | rfl <;> simp at ha <;> rcases ha with rfl | rfl | rfl | ha <;> first | exact hb | (simp at he; done) | (have := hr a ha; simp at he; omega)
def elL (o : Int) (as_ : List Int) (h : Int) : Nat → AT
  | 0 => ⟨64, 1, [o % 256]⟩
  | 1 => ⟨64, 2, segOf as_⟩
  | _ => ⟨64, 3, putL h 4⟩
theorem el_get (o : Int) (as_ : List Int) (h t : Int) (i : Nat) (hi : i < 3) : (ofL o as_ h t)[i]? = some (elL o as_ h i) := by
  obtain ⟨R, hR, -, -⟩ := ofL_sub o as_ h t
  have h3 : i = 0 ∨ i = 1 ∨ i = 2 := by omega
  rw [hR]
  rcases h3 with rfl | rfl | rfl <;> rfl
theorem el_ty (o : Int) (as_ : List Int) (h : Int) (i : Nat) (hi : i < 3) : (elL o as_ h i).f1 = (i : Int) + 1 ∧ (elL o as_ h i).f0 = 64 := by
  have h3 : i = 0 ∨ i = 1 ∨ i = 2 := by omega
  rcases h3 with rfl | rfl | rfl <;> exact ⟨rfl, rfl⟩
theorem el_len (o : Int) (as_ : List Int) (h : Int) (hl : as_.length ≤ 255) (i : Nat) : (elL o as_ h i).f2.length ≤ 1100 ∧ Octs (elL o as_ h i).f2 := by
  match i with
  | 0 => exact ⟨by simp [elL], Octs.cons (Int.emod_nonneg _ (by decide)) (Int.emod_lt_of_pos _ (by decide)) Octs.nil⟩
  | 1 => exact ⟨segOf_len as_ hl, segOf_octs as_⟩
  | _ + 2 => exact ⟨by simp [elL, putL_length], putL_octs 4 h⟩
theorem more_bad (o : Int) (as_ : List Int) (h t : Int) (hs : saneP o as_ h t) (i : Nat) (hi : i < 3) : badA (moreA (elL o as_ h i)) := by
  right
  intro p r hr
  have h3 : i = 0 ∨ i = 1 ∨ i = 2 := by omega
  rcases h3 with rfl | rfl | rfl
  · have hr' : rdF 100 1 p ([o % 256] ++ [9]) = some r := hr
    rw [rdF, if_pos rfl] at hr'
    obtain rfl := Option.some.inj hr'
    simp
  · have hr' : rdF 100 2 p (segOf as_ ++ [9]) = some r := hr
    rw [rdF, if_neg (by decide), if_pos rfl, seg_more as_ hs.1 hs.2.1] at hr'
    obtain rfl := Option.some.inj hr'
    rfl
  · have hr' : rdF 100 3 p (putL h 4 ++ [9]) = some r := hr
    rw [rdF, if_neg (by decide), if_neg (by decide), if_pos rfl] at hr'
    obtain ⟨q, hq, hr'⟩ := Option.bind_eq_some_iff.mp hr'
    obtain rfl := Option.some.inj hr'
    exact number_five (putL h 4) (putL_length _ _) (putL_octs 4 h) q hq
theorem longer_judge (o : Int) (as_ : List Int) (h t : Int) (hs : saneP o as_ h t) (i : Nat) (hi : i < 3) : attr_Judge.f ((ofL o as_ h t).set i (moreA (elL o as_ h i))) = some spoiltR := by
  have hl := hs.2.1
  have h1 := el_ty o as_ h i hi
  have h2 := el_len o as_ h hl i
  have hx : fineA (moreA (elL o as_ h i)) ∧ kindB (moreA (elL o as_ h i)).f1 = true := by
    refine ⟨⟨Octs.app h2.2 (Octs.cons (by decide) (by decide) Octs.nil), ?_, ?_⟩, ?_⟩
    · show ((elL o as_ h i).f2 ++ [9]).length < _
      rw [List.length_append, List.length_singleton]
      omega
    · show -9223372036854775808 ≤ (elL o as_ h i).f1 ∧ (elL o as_ h i).f1 ≤ 9223372036854775807
      omega
    · show kindB (elL o as_ h i).f1 = true
      rw [h1.1]
      have h3 : i = 0 ∨ i = 1 ∨ i = 2 := by omega
      rcases h3 with rfl | rfl | rfl <;> rfl
  obtain ⟨ha, hb⟩ := rest_ok o as_ h t hl i _ hx
  have hlen : ((ofL o as_ h t).set i (moreA (elL o as_ h i))).length < 1000000 := by
    rw [List.length_set]
    obtain ⟨R, hR, hr, hlr⟩ := ofL_sub o as_ h t
    rw [hR]
    simp only [List.length_cons]
    omega
  rw [judge_eq _ ha hlen]
  exact j_spoilt _ _ _ _ hb (.inr ⟨(i : Int) + 1, by omega, by simp, set_bad o as_ h t i hi _ h1.1 (more_bad o as_ h t hs i hi)⟩)
theorem turned_bad (o : Int) (as_ : List Int) (h t : Int) (hs : saneP o as_ h t) (i : Nat) (hi : i < 3) (f : Int) (hf : Go.bits .and .i64 f 192 ≠ 64) : attr_Judge.f ((ofL o as_ h t).set i (flagA (elL o as_ h i) f)) = some spoiltR := by
  have hl := hs.2.1
  have h1 := el_ty o as_ h i hi
  have h2 := el_len o as_ h hl i
  have h3 : i = 0 ∨ i = 1 ∨ i = 2 := by omega
  have hx : fineA (flagA (elL o as_ h i) f) ∧ kindB (flagA (elL o as_ h i) f).f1 = true := by
    refine ⟨⟨h2.2, ?_, ?_⟩, ?_⟩
    · show (elL o as_ h i).f2.length < _
      omega
    · show -9223372036854775808 ≤ (elL o as_ h i).f1 ∧ (elL o as_ h i).f1 ≤ 9223372036854775807
      omega
    · show kindB (elL o as_ h i).f1 = true
      rw [h1.1]
      rcases h3 with rfl | rfl | rfl <;> rfl
  obtain ⟨ha, hb⟩ := rest_ok o as_ h t hl i _ hx
  have hlen : ((ofL o as_ h t).set i (flagA (elL o as_ h i) f)).length < 1000000 := by
    rw [List.length_set]
    obtain ⟨R, hR, hr, hlr⟩ := ofL_sub o as_ h t
    rw [hR]
    simp only [List.length_cons]
    omega
  rw [judge_eq _ ha hlen]
  refine j_spoilt _ _ _ _ hb (.inr ⟨(i : Int) + 1, by omega, by simp, set_bad o as_ h t i hi _ h1.1 (.inl ?_)⟩)
  show Go.bits .and .i64 f 192 ≠ flagV (elL o as_ h i).f1
  rw [h1.1]
  rcases h3 with rfl | rfl | rfl <;> exact hf
theorem turned_good (o : Int) (as_ : List Int) (h t : Int) (hs : saneP o as_ h t) (i : Nat) (hi : i < 3) (f : Int) (hf : Go.bits .and .i64 f 192 = 64) : attr_Judge.f ((ofL o as_ h t).set i (flagA (elL o as_ h i) f)) = some (o, as_, h, t, 0, 0, 0, []) := by
  have hl := hs.2.1
  have h1 := el_ty o as_ h i hi
  have h2 := el_len o as_ h hl i
  have h3 : i = 0 ∨ i = 1 ∨ i = 2 := by omega
  have hx : fineA (flagA (elL o as_ h i) f) ∧ kindB (flagA (elL o as_ h i) f).f1 = true := by
    refine ⟨⟨h2.2, ?_, ?_⟩, ?_⟩
    · show (elL o as_ h i).f2.length < _
      omega
    · show -9223372036854775808 ≤ (elL o as_ h i).f1 ∧ (elL o as_ h i).f1 ≤ 9223372036854775807
      omega
    · show kindB (elL o as_ h i).f1 = true
      rw [h1.1]
      rcases h3 with rfl | rfl | rfl <;> rfl
  obtain ⟨ha, hb⟩ := rest_ok o as_ h t hl i _ hx
  have hlen : ((ofL o as_ h t).set i (flagA (elL o as_ h i) f)).length < 1000000 := by
    rw [List.length_set]
    obtain ⟨R, hR, hr, hlr⟩ := ofL_sub o as_ h t
    rw [hR]
    simp only [List.length_cons]
    omega
  have e : o % 256 = o := by have := hs.2.2; omega
  have k1 : ∀ (g : Int) (l : List AT) (seen : List Int) (p : Pth) (sp : Bool), Go.bits .and .i64 g 192 = 64 → 1 ∉ seen → judgeL 100 (⟨g, 1, [o % 256]⟩ :: l) seen p sp = judgeL 100 l (1 :: seen) (o, p.2) sp := fun g l seen p sp hg hn => by
    rw [j_read g 1 [o % 256] l seen p (o, p.2) sp true hn (by omega) rfl hg (by rw [rdF, if_pos rfl, if_pos ⟨rfl, by rw [e]; exact hs.2.2.2.1⟩, e]; rfl)]
    rfl
  have k2 : ∀ (g : Int) (l : List AT) (seen : List Int) (p : Pth) (sp : Bool), Go.bits .and .i64 g 192 = 64 → 2 ∉ seen → judgeL 100 (⟨g, 2, segOf as_⟩ :: l) seen p sp = judgeL 100 l (2 :: seen) (p.1, as_, p.2.2) sp := fun g l seen p sp hg hn => by
    rw [j_read g 2 (segOf as_) l seen p (p.1, as_, p.2.2) sp true hn (by omega) rfl hg (by rw [rdF, if_neg (by decide), if_pos rfl, segL_of as_ hs.1 hl]; rfl)]
    rfl
  have k3 : ∀ (g : Int) (l : List AT) (seen : List Int) (p : Pth) (sp : Bool), Go.bits .and .i64 g 192 = 64 → 3 ∉ seen → judgeL 100 (⟨g, 3, putL h 4⟩ :: l) seen p sp = judgeL 100 l (3 :: seen) (p.1, p.2.1, h, p.2.2.2) sp := fun g l seen p sp hg hn => by
    rw [j_read g 3 (putL h 4) l seen p (p.1, p.2.1, h, p.2.2.2) sp true hn (by omega) rfl hg (by rw [rdF, if_neg (by decide), if_neg (by decide), if_pos rfl, number_put h (by have := hs.2.2; omega) (by have := hs.2.2; omega)]; rfl)]
    rfl
  rw [judge_eq _ ha hlen]
  have hend : ∀ p : Pth, judgeL 100 (if t > 0 then [⟨192, 35, putL t 4⟩] else []) [3, 2, 1] (o, as_, h, 0) false = some (o, as_, h, t, 0, 0, 0, []) := fun p => by
    by_cases c : t > 0
    · rw [if_pos c, j_otc t (by have := hs.2.2; omega) [] [3, 2, 1] _ _ (by simp), j_end _ _ (by simp) (by simp) (by simp)]
    · have ht : t = 0 := by have := hs.2.2; omega
      rw [if_neg c, j_end _ _ (by simp) (by simp) (by simp), ht]
  unfold ofL
  rcases h3 with rfl | rfl | rfl
  · show judgeL 100 (⟨f, 1, [o % 256]⟩ :: ⟨64, 2, segOf as_⟩ :: ⟨64, 3, putL h 4⟩ :: (if t > 0 then [⟨192, 35, putL t 4⟩] else [])) [] (0, [], 0, 0) false = _
    rw [k1 f _ _ _ _ hf (by simp), k2 64 _ _ _ _ b192 (by simp), k3 64 _ _ _ _ b192 (by simp)]
    exact hend (0, [], 0, 0)
  · show judgeL 100 (⟨64, 1, [o % 256]⟩ :: ⟨f, 2, segOf as_⟩ :: ⟨64, 3, putL h 4⟩ :: (if t > 0 then [⟨192, 35, putL t 4⟩] else [])) [] (0, [], 0, 0) false = _
    rw [k1 64 _ _ _ _ b192 (by simp), k2 f _ _ _ _ hf (by simp), k3 64 _ _ _ _ b192 (by simp)]
    exact hend (0, [], 0, 0)
  · show judgeL 100 (⟨64, 1, [o % 256]⟩ :: ⟨64, 2, segOf as_⟩ :: ⟨f, 3, putL h 4⟩ :: (if t > 0 then [⟨192, 35, putL t 4⟩] else [])) [] (0, [], 0, 0) false = _
    rw [k1 64 _ _ _ _ b192 (by simp), k2 64 _ _ _ _ b192 (by simp), k3 f _ _ _ _ hf (by simp)]
    exact hend (0, [], 0, 0)
theorem of_bad (k : Nat) (o : Int) (as_ : List Int) (h t : Int) (hs : attr_Sane.f o as_ h t = some false) : attr_Of.f k o as_ h t = some [] := by
  unfold attr_Of.f
  rw [hs, Option.bind_some, if_neg (by decide)]
end Go.Proofs.Ytfmhclbcoladpaa.Pure
