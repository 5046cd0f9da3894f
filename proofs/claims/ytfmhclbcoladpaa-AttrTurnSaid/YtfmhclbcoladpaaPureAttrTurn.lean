/- AttrTurn: the order of attributes does not matter. No conditions but those of the statement. -/
import Derived.Test.YtfmhclbcoladpaaTx8
import Derived.Test.YtfmhclbcoladpaaXAttrFew
namespace Go.Proofs.Ytfmhclbcoladpaa.Pure
open Go.RowKit Go.Proofs.Ytfmhclbcoladpaa.T Go.Proofs.YtfmhclbcoladpaaW.PrintWords Go.Proofs.YtfmhclbcoladpaaW.PrintLast Go.Proofs.YtfmhclbcoladpaaW.PrintMore Go.Proofs.YtfmhclbcoladpaaW.PrintX
set_option linter.unusedVariables false
set_option linter.unusedSimpArgs false

/-- The same but for the octets of a fatal one. -/
def alikeJ (R R' : JR) : Prop := R'.1 = R.1 ∧ R'.2.1 = R.2.1 ∧ R'.2.2.1 = R.2.2.1 ∧ R'.2.2.2.1 = R.2.2.2.1 ∧ R'.2.2.2.2.1 = R.2.2.2.2.1 ∧ R'.2.2.2.2.2.1 = R.2.2.2.2.2.1 ∧ R'.2.2.2.2.2.2.1 = R.2.2.2.2.2.2.1
theorem alikeJ.refl (R : JR) : alikeJ R R := ⟨rfl, rfl, rfl, rfl, rfl, rfl, rfl⟩
theorem alikeJ.trans {A B C : JR} (h : alikeJ A B) (k : alikeJ B C) : alikeJ A C := ⟨k.1.trans h.1, k.2.1.trans h.2.1, k.2.2.1.trans h.2.2.1, k.2.2.2.1.trans h.2.2.2.1, k.2.2.2.2.1.trans h.2.2.2.2.1, k.2.2.2.2.2.1.trans h.2.2.2.2.2.1, k.2.2.2.2.2.2.trans h.2.2.2.2.2.2⟩
theorem judgeL_seen : ∀ (l : List S24) (s s' : List Int) (p : Pth) (sp : Bool), (∀ t, t ∈ s ↔ t ∈ s') → judgeL 100 l s p sp = judgeL 100 l s' p sp
  | [], s, s', p, sp, h => by simp only [judgeL, h]
  | ⟨f0, f1, f2⟩ :: l, s, s', p, sp, h => by
    have hc : ∀ t, t ∈ f1 :: s ↔ t ∈ f1 :: s' := fun t => by rw [List.mem_cons, List.mem_cons, h t]
    have e : ∀ p sp, judgeL 100 l (f1 :: s) p sp = judgeL 100 l (f1 :: s') p sp := fun p sp => judgeL_seen l _ _ p sp hc
    simp only [judgeL_cons, h f1, e]
def setP (e1 : Int → Int) (e2 : List Int → List Int) (e3 e4 : Int → Int) (p : Pth) : Pth := (e1 p.1, e2 p.2.1, e3 p.2.2.1, e4 p.2.2.2)
/-- A read turns its own field alone. -/
theorem rdF_form (t : Int) (d : List Int) (ho : Octs d) (hk : kindB t = true) : ∃ (e1 : Int → Int) (e2 : List Int → List Int) (e3 e4 : Int → Int) (b : Bool), (∀ p, rdF 100 t p d = some (setP e1 e2 e3 e4 p, b)) ∧ (t ≠ 1 → e1 = id) ∧ (t ≠ 2 → e2 = id) ∧ (t ≠ 3 → e3 = id) ∧ (t ≠ 35 → e4 = id) := by
  unfold rdF
  by_cases c1 : t = 1
  · by_cases c : d.length = 1 ∧ d.getD 0 0 ≤ 2
    · exact ⟨fun _ => d.getD 0 0, id, id, id, true, fun p => by rw [if_pos c1, if_pos c]; rfl, fun h => absurd c1 h, fun _ => rfl, fun _ => rfl, fun _ => rfl⟩
    · exact ⟨id, id, id, id, false, fun p => by rw [if_pos c1, if_neg c]; rfl, fun _ => rfl, fun _ => rfl, fun _ => rfl, fun _ => rfl⟩
  by_cases c2 : t = 2
  · obtain ⟨q, hq⟩ := segL_tot (d.length + 1) [] d ho (by omega)
    exact ⟨id, fun _ => q.1, id, id, q.2, fun p => by rw [if_neg c1, if_pos c2, hq]; rfl, fun _ => rfl, fun h => absurd c2 h, fun _ => rfl, fun _ => rfl⟩
  by_cases c3 : t = 3
  · exact ⟨id, id, fun _ => numV d, id, _, fun p => by rw [if_neg c1, if_neg c2, if_pos c3, number_eq 100 d (by omega) ho]; rfl, fun _ => rfl, fun _ => rfl, fun h => absurd c3 h, fun _ => rfl⟩
  by_cases c4 : t = 4
  · exact ⟨id, id, id, id, _, fun p => by rw [if_neg c1, if_neg c2, if_neg c3, if_pos c4]; rfl, fun _ => rfl, fun _ => rfl, fun _ => rfl, fun _ => rfl⟩
  have c35 : t = 35 := by simpa [kindB, c1, c2, c3, c4] using hk
  exact ⟨id, id, id, fun _ => numV d, _, fun p => by rw [if_neg c1, if_neg c2, if_neg c3, if_neg c4, number_eq 100 d (by omega) ho]; rfl, fun _ => rfl, fun _ => rfl, fun _ => rfl, fun h => absurd c35 h⟩
theorem setP_id (p : Pth) : setP id id id id p = p := rfl
/-- What one attribute does. -/
theorem j_form (x : S24) (hx : fineA x) (seen : List Int) :
    (∃ D, ∀ seen', (x.f1 ∈ seen' ↔ x.f1 ∈ seen) → ∀ l p sp, judgeL 100 (x :: l) seen' p sp = some (0, [], 0, 0, 2, 3, 2, D)) ∨
    (∃ (e1 : Int → Int) (e2 : List Int → List Int) (e3 e4 : Int → Int) (b : Bool), ((x.f1 ≠ 1 → e1 = id) ∧ (x.f1 ≠ 2 → e2 = id) ∧ (x.f1 ≠ 3 → e3 = id) ∧ (x.f1 ≠ 35 → e4 = id)) ∧ ∀ seen', (x.f1 ∈ seen' ↔ x.f1 ∈ seen) → ∀ l p sp, judgeL 100 (x :: l) seen' p sp = judgeL 100 l (x.f1 :: seen') (setP e1 e2 e3 e4 p) (if b = true then sp else true)) := by
  obtain ⟨f0, f1, f2⟩ := x
  dsimp only
  by_cases c : f1 ∈ seen ∨ (5 ≤ f1 ∧ f1 ≤ 7)
  · exact .inr ⟨id, id, id, id, true, ⟨fun _ => rfl, fun _ => rfl, fun _ => rfl, fun _ => rfl⟩, fun seen' h l p sp => by rw [judgeL_cons, if_pos (by rw [h]; exact c)]; rfl⟩
  by_cases k : kindB f1 = true
  · by_cases fl : Go.bits .and .i64 f0 192 ≠ flagV f1
    · exact .inr ⟨id, id, id, id, false, ⟨fun _ => rfl, fun _ => rfl, fun _ => rfl, fun _ => rfl⟩, fun seen' h l p sp => by rw [judgeL_cons, if_neg (by rw [h]; exact c), if_pos k, if_pos fl]; rfl⟩
    · obtain ⟨e1, e2, e3, e4, b, hr, hi⟩ := rdF_form f1 f2 hx.1 k
      exact .inr ⟨e1, e2, e3, e4, b, hi, fun seen' h l p sp => by rw [judgeL_cons, if_neg (by rw [h]; exact c), if_pos k, if_neg fl, hr]; rfl⟩
  by_cases o : Go.bits .and .i64 f0 128 = 0
  · obtain ⟨D, hD⟩ := put_tot f0 f1 f2 (by have := hx.2.1; dsimp only at this; omega)
    exact .inl ⟨D, fun seen' h l p sp => by rw [judgeL_cons, if_neg (by rw [h]; exact c), if_neg k, if_pos o, hD]; rfl⟩
  · exact .inr ⟨id, id, id, id, true, ⟨fun _ => rfl, fun _ => rfl, fun _ => rfl, fun _ => rfl⟩, fun seen' h l p sp => by rw [judgeL_cons, if_neg (by rw [h]; exact c), if_neg k, if_neg o]; rfl⟩
theorem comm2 {α : Type} (a b : α → α) (h : a = id ∨ b = id) (x : α) : a (b x) = b (a x) := by
  rcases h with rfl | rfl <;> rfl
theorem judge_perm {l l' : List S24} (hp : l.Perm l') : (∀ a ∈ l, fineA a) → (l.map (·.f1)).Nodup → ∀ (seen : List Int) (p : Pth) (sp : Bool) (R : JR), judgeL 100 l seen p sp = some R → ∃ R', judgeL 100 l' seen p sp = some R' ∧ alikeJ R R' := by
  induction hp with
  | nil => intro _ _ seen p sp R h; exact ⟨R, h, alikeJ.refl R⟩
  | cons x hp ih =>
    intro hf hn seen p sp R h
    have hf' := fun a ha => hf a (List.mem_cons_of_mem _ ha)
    rw [List.map_cons, List.nodup_cons] at hn
    rcases j_form x (hf x List.mem_cons_self) seen with ⟨D, hD⟩ | ⟨e1, e2, e3, e4, b, -, hJ⟩
    · rw [hD seen Iff.rfl] at h
      exact ⟨_, hD seen Iff.rfl _ _ _, by cases h; exact alikeJ.refl _⟩
    · rw [hJ seen Iff.rfl] at h ⊢
      exact ih hf' hn.2 _ _ _ R h
  | swap x y l =>
    intro hf hn seen p sp R h
    rw [List.map_cons, List.map_cons, List.nodup_cons, List.nodup_cons, List.mem_cons, not_or] at hn
    have hxy : y.f1 ≠ x.f1 := hn.1.1
    have mx : x.f1 ∈ y.f1 :: seen ↔ x.f1 ∈ seen := by rw [List.mem_cons]; exact ⟨fun h => h.resolve_left (fun e => hxy e.symm), .inr⟩
    have my : y.f1 ∈ x.f1 :: seen ↔ y.f1 ∈ seen := by rw [List.mem_cons]; exact ⟨fun h => h.resolve_left hxy, .inr⟩
    rcases j_form y (hf y List.mem_cons_self) seen with ⟨D, hD⟩ | ⟨e1, e2, e3, e4, b, hi, hJ⟩
    · rw [hD seen Iff.rfl] at h
      cases h
      rcases j_form x (hf x (by simp)) seen with ⟨D2, hD2⟩ | ⟨g1, g2, g3, g4, b2, hi2, hJ2⟩
      · exact ⟨_, hD2 seen Iff.rfl _ _ _, ⟨rfl, rfl, rfl, rfl, rfl, rfl, rfl⟩⟩
      · exact ⟨_, (hJ2 seen Iff.rfl _ _ _).trans (hD _ my _ _ _), alikeJ.refl _⟩
    · rw [hJ seen Iff.rfl] at h
      rcases j_form x (hf x (by simp)) seen with ⟨D2, hD2⟩ | ⟨g1, g2, g3, g4, b2, hi2, hJ2⟩
      · rw [hD2 _ mx] at h
        exact ⟨_, hD2 seen Iff.rfl _ _ _, by cases h; exact alikeJ.refl _⟩
      · rw [hJ2 _ mx] at h
        refine ⟨R, ?_, alikeJ.refl R⟩
        rw [hJ2 seen Iff.rfl, hJ _ my, ← h]
        have q1 : e1 = id ∨ g1 = id := by by_cases c : y.f1 = 1; exact .inr (hi2.1 (fun e => hxy (c.trans e.symm))); exact .inl (hi.1 c)
        have q2 : e2 = id ∨ g2 = id := by by_cases c : y.f1 = 2; exact .inr (hi2.2.1 (fun e => hxy (c.trans e.symm))); exact .inl (hi.2.1 c)
        have q3 : e3 = id ∨ g3 = id := by by_cases c : y.f1 = 3; exact .inr (hi2.2.2.1 (fun e => hxy (c.trans e.symm))); exact .inl (hi.2.2.1 c)
        have q4 : e4 = id ∨ g4 = id := by by_cases c : y.f1 = 35; exact .inr (hi2.2.2.2 (fun e => hxy (c.trans e.symm))); exact .inl (hi.2.2.2 c)
        have ep : setP e1 e2 e3 e4 (setP g1 g2 g3 g4 p) = setP g1 g2 g3 g4 (setP e1 e2 e3 e4 p) := by
          unfold setP
          dsimp only
          rw [comm2 e1 g1 q1, comm2 e2 g2 q2, comm2 e3 g3 q3, comm2 e4 g4 q4]
        have es : (if b = true then (if b2 = true then sp else true) else true) = (if b2 = true then (if b = true then sp else true) else true) := by cases b <;> cases b2 <;> rfl
        rw [ep, es]
        exact judgeL_seen l _ _ _ _ (fun t => by simp only [List.mem_cons]; exact ⟨fun h => by rcases h with h | h | h; exact .inr (.inl h); exact .inl h; exact .inr (.inr h), fun h => by rcases h with h | h | h; exact .inr (.inl h); exact .inl h; exact .inr (.inr h)⟩)
  | trans h1 h2 ih1 ih2 =>
    intro hf hn seen p sp R h
    obtain ⟨R1, hR1, a1⟩ := ih1 hf hn seen p sp R h
    obtain ⟨R2, hR2, a2⟩ := ih2 (fun a ha => hf a (h1.mem_iff.2 ha)) ((h1.map _).nodup_iff.1 hn) seen p sp R1 hR1
    exact ⟨R2, hR2, a1.trans a2⟩
theorem judgeL_good : ∀ (l : List S24) (seen : List Int) (p : Pth) (sp : Bool) (R : JR), judgeL 100 l seen p sp = some R → R.2.2.2.2.1 = 0 → R.2.2.2.2.2.1 = 0
  | [], seen, p, sp, R, h, hv => by
    simp only [judgeL, Option.some.injEq] at h
    subst h
    split
    · rfl
    · rfl
  | ⟨f0, f1, f2⟩ :: l, seen, p, sp, R, h, hv => by
    rw [judgeL_cons] at h
    split at h
    · exact judgeL_good l _ _ _ R h hv
    split at h
    · split at h
      · exact judgeL_good l _ _ _ R h hv
      · obtain ⟨r, hr, h⟩ := Option.bind_eq_some_iff.mp h
        exact judgeL_good l _ _ _ R h hv
    split at h
    · obtain ⟨q, hq, h⟩ := Option.bind_eq_some_iff.mp h
      cases h
      cases hv
    · exact judgeL_good l _ _ _ R h hv
theorem turn_inner (l : List S24) (hl : l.length ≤ 20) (acc : List S24) (ha : acc.length ≤ 20) (i : Nat) (hi : i < l.length) : ∀ (n j k : Nat), j + n = i → n < k →
    ridgewaylaw07_AttrTurn.l1 k l true acc (i : Int) (j : Int) = some true ∨ ((∀ q, j ≤ q → (hq : q < i) → (l[q]'(by omega)).f1 ≠ (l[i]).f1) ∧ ridgewaylaw07_AttrTurn.l1 k l true acc (i : Int) (j : Int) = ridgewaylaw07_AttrTurn.l0 (k - n - 1) l true (acc ++ [l[i]]) ((i : Int) - 1)) := by
  intro n
  induction n with
  | zero =>
    intro j k hj hk
    obtain ⟨k, rfl⟩ : ∃ k', k = k' + 1 := ⟨k - 1, by omega⟩
    have hrd : rd_T24 l (i : Int) = l[i] := by simp [rd_T24, hi]
    rw [ridgewaylaw07_AttrTurn.l1, if_neg (by omega), if_pos (by omega), if_pos (by omega), if_pos (by omega), w64 (by omega) (by omega), hrd]
    exact .inr ⟨fun q h1 h2 => by omega, rfl⟩
  | succ n ih =>
    intro j k hj hk
    obtain ⟨k, rfl⟩ : ∃ k', k = k' + 1 := ⟨k - 1, by omega⟩
    have hrd : rd_T24 l (i : Int) = l[i] := by simp [rd_T24, hi]
    have hjl : j < l.length := by omega
    have hrj : rd_T24 l (j : Int) = l[j] := by simp [rd_T24, hjl]
    rw [ridgewaylaw07_AttrTurn.l1, if_pos (by omega), if_pos (by omega), if_pos (by omega), if_pos (by omega), if_pos (by omega), hrd, hrj]
    by_cases c : (l[j]).f1 = (l[i]).f1
    · rw [if_pos c]
      exact .inl rfl
    · rw [if_neg c, w64 (by omega) (by omega)]
      have e1 : (j : Int) + 1 = ((j + 1 : Nat) : Int) := by omega
      rw [e1]
      rcases ih (j + 1) k (by omega) (by omega) with h | ⟨h1, h2⟩
      · exact .inl h
      · refine .inr ⟨fun q hq1 hq2 => ?_, ?_⟩
        · rcases Nat.lt_or_ge j q with h3 | h3
          · exact h1 q h3 hq2
          · obtain rfl : q = j := by omega
            exact c
        · rw [h2, show k + 1 - (n + 1) - 1 = k - n - 1 by omega]
theorem turn_outer (l : List S24) (hl : l.length ≤ 20) (hfine : ∀ a ∈ l, fineA a) (hl2 : ∀ a ∈ l, a.f2.length ≤ 2000) : ∀ (m k : Nat), m ≤ l.length → 25 * m + 2500 ≤ k → (∀ i j, m ≤ i → (hi : i < l.length) → (hj : j < i) → (l[j]'(by omega)).f1 ≠ (l[i]).f1) →
    ridgewaylaw07_AttrTurn.l0 k l true (l.drop m).reverse ((m : Int) - 1) = some true := by
  intro m
  induction m with
  | zero =>
    intro k hm hk hd
    obtain ⟨k, rfl⟩ : ∃ k', k = k' + 1 := ⟨k - 1, by omega⟩
    rw [ridgewaylaw07_AttrTurn.l0, if_neg (by omega), List.drop_zero, judge_eq l hfine (by omega), judge_eq l.reverse (fun a ha => hfine a (List.mem_reverse.1 ha)) (by rw [List.length_reverse]; omega)]
    obtain ⟨R, hR⟩ := judgeL_tot l [] (0, [], 0, 0) false hfine
    have hn : (l.map (·.f1)).Nodup := by
      rw [List.nodup_iff_pairwise_ne, List.pairwise_map, List.pairwise_iff_getElem]
      intro i j hi hj hij
      exact hd j i (by omega) hj hij
    obtain ⟨R', hR', a1, a2, a3, a4, a5, a6, a7⟩ := judge_perm (List.reverse_perm l).symm hfine hn [] (0, [], 0, 0) false R hR
    have hlen2 := judgeL_len l _ _ _ R 2001 (fun a ha => by have := hl2 a ha; omega) (by simp) (by omega) hR
    rw [hR, Option.bind_some, hR', Option.bind_some, if_pos rfl, if_pos a5.symm, a1, a2, a3, a4, same_refl _ _ _ _ _ (by omega) (by omega), Option.bind_some, if_pos rfl, if_pos a6.symm, if_pos a7.symm]
    split
    · next hv =>
      rw [judgeL_good l _ _ _ R hR hv]
      rfl
    · rfl
  | succ m ih =>
    intro k hm hk hd
    obtain ⟨k, rfl⟩ : ∃ k', k = k' + 1 := ⟨k - 1, by omega⟩
    rw [ridgewaylaw07_AttrTurn.l0, if_pos (by omega), show ((m + 1 : Nat) : Int) - 1 = (m : Int) by omega]
    rcases turn_inner l hl (l.drop (m + 1)).reverse (by rw [List.length_reverse, List.length_drop]; omega) m (by omega) m 0 k (by omega) (by omega) with h | ⟨h1, h2⟩
    · exact h
    · rw [show (0 : Int) = ((0 : Nat) : Int) from rfl, h2]
      have e : (l.drop (m + 1)).reverse ++ [l[m]] = (l.drop m).reverse := by
        rw [List.drop_eq_getElem_cons (show m < l.length by omega), List.reverse_cons]
      rw [e]
      refine ih _ (by omega) (by omega) ?_
      intro i j hi1 hi2 hj
      rcases Nat.lt_or_ge m i with h3 | h3
      · exact hd i j h3 hi2 hj
      · obtain rfl : i = m := by omega
        exact h1 j (by omega) hj
theorem AttrTurn : ridgewaylaw07_AttrTurn.Pure := by
  intro l hw
  have hlen : l.length ≤ 9223372036854775807 := by have := hw.1; simp only [maxLen] at this; omega
  refine ⟨l.length + 4000, ?_⟩
  unfold ridgewaylaw07_AttrTurn.f ridgewaylaw07_awake.f
  rw [Option.bind_some]
  obtain ⟨b, hb, hb2⟩ := few_tot (l.length + 4000) l hlen (by omega)
  rw [hb, Option.bind_some]
  cases b with
  | false => rw [if_neg (by decide)]
  | true =>
    rw [if_pos rfl]
    obtain ⟨hl20, hl2⟩ := hb2 rfl
    have hfine := fine_of l hw.2 hl2
    rw [w64 (by omega) (by omega)]
    have := turn_outer l hl20 hfine hl2 l.length (l.length + 4000) (Nat.le_refl _) (by omega) (fun i j h1 h2 h3 => by omega)
    rw [List.drop_eq_nil_of_le (Nat.le_refl _)] at this
    exact this
end Go.Proofs.Ytfmhclbcoladpaa.Pure
