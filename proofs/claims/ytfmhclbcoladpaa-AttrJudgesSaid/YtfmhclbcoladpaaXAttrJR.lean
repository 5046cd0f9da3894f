/- The reference's Judge says what attr.Judge says: judgeL against rjL and rjEnd. Conditions: attributes that may come up. -/
import Derived.Test.YtfmhclbcoladpaaJx10
import Derived.Test.YtfmhclbcoladpaaJx6
import Derived.Test.YtfmhclbcoladpaaJx8
import Derived.Test.YtfmhclbcoladpaaJx9
import Derived.Test.YtfmhclbcoladpaaXAttr
import Derived.Test.YtfmhclbcoladpaaXRef01H
namespace Go.Proofs.Ytfmhclbcoladpaa.Pure
open Go.RowKit Go.Proofs.Ytfmhclbcoladpaa.J Go.Proofs.YtfmhclbcoladpaaW.PrintWords Go.Proofs.YtfmhclbcoladpaaW.PrintLast Go.Proofs.YtfmhclbcoladpaaW.PrintMore Go.Proofs.YtfmhclbcoladpaaW.PrintX
set_option linter.unusedVariables false
set_option linter.unusedSimpArgs false

theorem pr (k : Nat) (h : 0 < k) : ∃ m, k = m + 1 := ⟨k - 1, by omega⟩
theorem four_eq (k : Nat) (d : List Int) (hk : 7 ≤ k) (h : Octs d) : ridgewayref07_four.f k d = some (if d.length = 4 then numV d else 0) := by
  unfold ridgewayref07_four.f
  by_cases c : d.length = 4
  · rw [if_pos (by omega), ref01_get k d 4 hk h, if_neg (by omega), Option.bind_some, if_pos c]
    unfold numV
    rw [if_pos (by omega)]
    rfl
  · rw [if_neg (by omega), if_neg c]
theorem ases_l1 (x0 : List Int) (n : Nat) (ho : Octs x0) (hz : x0.length ≤ 2000) (hn : rd x0 1 = (n : Int)) (hl : 2 + 4 * n ≤ x0.length) : ∀ (m i jj k : Nat) (acc : List Int) (Q : List Int × Bool), i + m = n → m + 10 ≤ k → acc.length + m < 100000 →
    quads 100 jj acc (((x0.drop 2).take (4 * n)).drop (4 * i)) = some Q → ridgewayref07_ases.l1 k x0 acc (i : Int) = if Q.2 = true then ridgewayref07_ases.l0 (k - m - 1) (x0.drop (2 + 4 * n)) Q.1 else some ([], false) := by
  intro m
  induction m with
  | zero =>
    intro i jj k acc Q hi hk hacc h
    obtain ⟨k, rfl⟩ := pr k (by omega)
    rcases jj with _ | jj
    · simp [quads] at h
    simp only [quads] at h
    rw [if_pos (by rw [List.length_drop, List.length_take, List.length_drop]; omega)] at h
    cases h
    rw [ridgewayref07_ases.l1, hn, if_pos (by omega), w64 (n := (n : Int)) (by omega) (by omega), if_neg (by omega), w64 (n := 4 * (n : Int)) (by omega) (by omega), w64 (n := 2 + 4 * (n : Int)) (by omega) (by omega), if_pos (by omega), if_pos (by omega), if_pos rfl]
    rw [show (2 + 4 * (n : Int)).toNat = 2 + 4 * n by omega, show k + 1 - 0 - 1 = k by omega]
  | succ m ih =>
    intro i jj k acc Q hi hk hacc h
    obtain ⟨k, rfl⟩ := pr k (by omega)
    rcases jj with _ | jj
    · simp [quads] at h
    simp only [quads] at h
    rw [if_neg (by rw [List.length_drop, List.length_take, List.length_drop]; omega)] at h
    have e4 : (((x0.drop 2).take (4 * n)).drop (4 * i)).take 4 = (x0.take (6 + 4 * i)).drop (2 + 4 * i) := by
      rw [List.drop_take, List.drop_take, List.take_take, List.drop_drop, Nat.min_eq_left (by omega), show 6 + 4 * i - (2 + 4 * i) = 4 by omega]
    have l4 : ((x0.take (6 + 4 * i)).drop (2 + 4 * i)).length = 4 := by rw [List.length_drop, List.length_take]; omega
    have o4 : Octs ((x0.take (6 + 4 * i)).drop (2 + 4 * i)) := (ho.take _).drop _
    rw [e4, number_eq 100 _ (by omega) o4, Option.bind_some] at h
    rw [ridgewayref07_ases.l1, hn, if_pos (by omega), w64 (n := (n : Int)) (by omega) (by omega), if_pos (by omega), w64 (n := 4 * (i : Int)) (by omega) (by omega), w64 (n := 2 + 4 * (i : Int)) (by omega) (by omega), w64 (n := 6 + 4 * (i : Int)) (by omega) (by omega), if_pos (by omega), if_pos (by omega), if_pos (by omega)]
    rw [show (6 + 4 * (i : Int)).toNat = 6 + 4 * i by omega, show (2 + 4 * (i : Int)).toNat = 2 + 4 * i by omega, four_eq k _ (by omega) o4, Option.bind_some, if_pos l4]
    dsimp only at h
    rw [l4] at h
    have hnn : 0 ≤ numV ((x0.take (6 + 4 * i)).drop (2 + 4 * i)) := by
      unfold numV
      split
      · exact (getL_bounds _ (o4.take 4)).1
      · omega
    by_cases c : 0 < numV ((x0.take (6 + 4 * i)).drop (2 + 4 * i))
    · rw [if_pos (by simp [c])] at h
      rw [if_neg (by omega), if_pos (by omega), w64 (by omega) (by omega)]
      rw [List.drop_drop] at h
      have := ih (i + 1) jj k _ Q (by omega) (by omega) (by rw [List.length_append, List.length_singleton]; omega) h
      rw [show ((i : Int) + 1) = ((i + 1 : Nat) : Int) by omega, this, show k + 1 - (m + 1) - 1 = k - m - 1 by omega]
    · rw [if_neg (by simp; omega)] at h
      cases h
      rw [if_pos (by omega), if_neg (by simp)]
theorem ases_l0 : ∀ (j : Nat) (x0 x4 : List Int) (q : List Int × Bool) (k : Nat), Octs x0 → x0.length ≤ 2000 → x0.length + 20 ≤ k → x4.length + x0.length ≤ 2000 → segL 100 j x4 x0 = some q →
    ∃ v, ridgewayref07_ases.l0 k x0 x4 = some (v, q.2) ∧ (q.2 = true → v = q.1)
  | 0, _, _, _, _, _, _, _, _, h => by simp [segL] at h
  | j + 1, x0, x4, q, k, ho, hz, hk, h4, h => by
    obtain ⟨k, rfl⟩ := pr k (by omega)
    simp only [segL] at h
    rw [ridgewayref07_ases.l0]
    by_cases c0 : x0.length = 0
    · rw [if_pos c0] at h
      cases h
      rw [if_neg (by omega)]
      exact ⟨_, rfl, fun _ => rfl⟩
    rw [if_neg c0] at h
    rw [if_pos (by omega)]
    have jt : ridgewayref07_ases.j1 k x0 x4 true = some ([], false) := by
      obtain ⟨k, rfl⟩ := pr k (by omega)
      rw [ridgewayref07_ases.j1, if_pos rfl]
    have r0 : rd x0 0 = x0.getD 0 0 := rfl
    have r1 : rd x0 1 = x0.getD 1 0 := rfl
    have hr1 := ho.rd 1
    by_cases bad : x0.length < 2 ∨ x0.getD 0 0 ≠ 2 ∨ x0.getD 1 0 = 0 ∨ (x0.length : Int) < 2 + 4 * x0.getD 1 0
    · rw [if_pos bad] at h
      cases h
      refine ⟨[], ?_, fun e => by cases e⟩
      dsimp only
      by_cases c1 : x0.length < 2
      · rw [if_pos (by omega), jt]
      rw [if_neg (by omega), if_pos (by omega)]
      by_cases c2 : x0.getD 0 0 = 2
      · rw [if_pos (by rw [r0]; exact c2), if_pos (by omega)]
        by_cases c3 : x0.getD 1 0 = 0
        · rw [if_pos (by rw [r1]; exact c3), jt]
        · rw [if_neg (by rw [r1]; exact c3), w64 (n := rd x0 1) (by omega) (by omega), w64 (n := 4 * rd x0 1) (by omega) (by omega), w64 (by omega) (by omega), decide_eq_true (by
            rw [r1]
            rcases bad with b | b | b | b
            · exact absurd b c1
            · exact absurd c2 b
            · exact absurd b c3
            · exact b), jt]
      · rw [if_neg (by rw [r0]; exact c2), jt]
    · rw [if_neg bad] at h
      have b1 : ¬ x0.length < 2 := fun e => bad (.inl e)
      have b2 : x0.getD 0 0 = 2 := Decidable.byContradiction fun e => bad (.inr (.inl e))
      have b3 : ¬ x0.getD 1 0 = 0 := fun e => bad (.inr (.inr (.inl e)))
      have b4 : ¬ (x0.length : Int) < 2 + 4 * x0.getD 1 0 := fun e => bad (.inr (.inr (.inr e)))
      obtain ⟨n, hn⟩ : ∃ n : Nat, rd x0 1 = (n : Int) := ⟨(rd x0 1).toNat, by omega⟩
      rw [← r1, hn] at b3 b4 h
      rw [show (4 * (n : Int)).toNat = 4 * n by omega] at h
      obtain ⟨Q, hQ, h⟩ := Option.bind_eq_some_iff.mp h
      rw [if_neg (by omega), if_pos (by omega), if_pos (by rw [r0]; exact b2), if_pos (by omega), hn, if_neg b3, w64 (n := (n : Int)) (by omega) (by omega), w64 (n := 4 * (n : Int)) (by omega) (by omega), w64 (by omega) (by omega), decide_eq_false (by omega)]
      obtain ⟨k, rfl⟩ := pr k (by omega)
      rw [ridgewayref07_ases.j1, if_neg (by decide)]
      have hl1 := ases_l1 x0 n ho hz hn (by omega) n 0 (x0.length + 1) k x4 Q (by omega) (by omega) (by omega) (by rw [Nat.mul_zero, List.drop_zero]; exact hQ)
      rw [show ((0 : Nat) : Int) = 0 from rfl] at hl1
      rw [hl1]
      by_cases c : Q.2 = true
      · rw [if_pos c] at h ⊢
        have hql := quads_len _ _ _ _ hQ
        rw [List.length_take, List.length_drop] at hql
        have hd : (x0.drop (2 + 4 * n)).length = x0.length - (2 + 4 * n) := List.length_drop
        exact ases_l0 j _ _ q _ (ho.drop _) (by omega) (by omega) (by omega) h
      · rw [if_neg c] at h ⊢
        rw [Option.some.injEq] at h
        subst h
        have c2 : Q.2 = false := by simpa using c
        rw [c2]
        exact ⟨_, rfl, fun e => by cases e⟩
theorem ases_eq (d : List Int) (q : List Int × Bool) (ho : Octs d) (hz : d.length ≤ 2000) (h : segL 100 (d.length + 1) [] d = some q) : ∃ v, ridgewayref07_ases.f 1000000 d = some (v, q.2) ∧ (q.2 = true → v = q.1) :=
  ases_l0 _ d [] q 1000000 ho hz (by omega) (by simpa using hz) h
def H4 : Prop := ∀ d : List Int, Octs d → d.length ≤ 2000 → ridgewayref07_four.f 1000000 d = some (if d.length = 4 then numV d else 0)
def HA : Prop := ∀ (d : List Int) (q : List Int × Bool), Octs d → d.length ≤ 2000 → segL 100 (d.length + 1) [] d = some q → ∃ v, ridgewayref07_ases.f 1000000 d = some (v, q.2) ∧ (q.2 = true → v = q.1)
theorem rj_fatal (hf4 : ∀ d : List Int, Octs d → d.length ≤ 2000 → ∃ v, ridgewayref07_four.f 1000000 d = some v)
    (has : ∀ d : List Int, Octs d → d.length ≤ 2000 → ∃ v, ridgewayref07_ases.f 1000000 d = some v) : ∀ (l : List S24) (seen : List Int) (p : PthR) (sp : Bool) (n : NtR), (∀ a ∈ l, fineA a ∧ a.f2.length ≤ 2000) → n.1 ≠ 0 → ∃ R, rjL 1000000 l seen p sp n = some R ∧ R.2.2.2 = n
  | [], _, _, _, _, _, _ => ⟨_, rfl, rfl⟩
  | ⟨f0, f1, f2⟩ :: l, seen, p, sp, n, h, hn => by
    have hl : ∀ a ∈ l, fineA a ∧ a.f2.length ≤ 2000 := fun a ha => h a (by simp [ha])
    have h0 := h _ (List.mem_cons_self)
    have ho : Octs f2 := h0.1.1
    have hz : f2.length ≤ 2000 := h0.2
    simp only [rjL]
    split
    · exact rj_fatal hf4 has l _ _ _ _ hl hn
    · have : ∃ p' sp', roneF 1000000 f0 f1 f2 p sp n = some (p', sp', n) := by
        unfold roneF
        obtain ⟨v, hv⟩ := hf4 f2 ho hz
        obtain ⟨q, hq⟩ := has f2 ho hz
        rw [hv, hq]
        split
        · exact ⟨_, _, rfl⟩
        split
        · exact ⟨_, _, rfl⟩
        split
        · exact ⟨_, _, rfl⟩
        split
        · exact ⟨_, _, rfl⟩
        split
        · exact ⟨_, _, rfl⟩
        split
        · exact ⟨_, _, rfl⟩
        split
        · next hh => exact absurd hh.2 hn
        · exact ⟨_, _, rfl⟩
      obtain ⟨p', sp', hr⟩ := this
      rw [hr, Option.bind_some]
      exact rj_fatal hf4 has l _ _ _ _ hl hn
theorem rone_kind (hf4 : H4)
    (has : HA)
    (f0 f1 : Int) (d : List Int) (ho : Octs d) (hz : d.length ≤ 2000) (k : kindB f1 = true) (p : Pth) (p' : PthR) (sp : Bool) (hp : sp = false → p = p') (r : Pth × Bool) (hr : rdF 100 f1 p d = some r) :
    ∃ p2, roneF 1000000 f0 f1 d p' sp (0, 0, []) = some (p2, (sp || !(decide (Go.bits .and .i64 f0 192 = flagV f1) && r.2)), (0, 0, [])) ∧ (r.2 = true → sp = false → r.1 = p2) := by
  have cs : f1 = 1 ∨ f1 = 2 ∨ f1 = 3 ∨ f1 = 4 ∨ f1 = 35 := by simpa [kindB, or_assoc] using k
  have hd : decide (0 < (if d.length = 4 then numV d else 0)) = (decide (0 < numV d) && decide (d.length = 4)) := by
    by_cases c : d.length = 4 <;> simp [c]
  clear k
  rcases cs with rfl | rfl | rfl | rfl | rfl
  · unfold rdF at hr
    unfold roneF
    rw [if_pos rfl, Option.some.injEq] at hr
    rw [if_pos rfl, show flagV 1 = 64 from rfl]
    by_cases c : d.length = 1 ∧ d.getD 0 0 ≤ 2
    · rw [if_pos c] at hr
      subst hr
      refine ⟨_, by rw [decide_eq_true c.1, decide_eq_true c.2]; rfl, fun _ e => ?_⟩
      rw [if_neg (by omega), hp e]
    · rw [if_neg c] at hr
      subst hr
      refine ⟨(if d.length = 0 then p'.1 else d.getD 0 0, p'.2), ?_, fun e => by simp at e⟩
      have : (decide (d.length = 1) && decide (d.getD 0 0 ≤ 2)) = false := by
        rw [← Bool.decide_and]; exact decide_eq_false c
      rw [this]
  · unfold rdF at hr
    unfold roneF
    rw [if_neg (by decide), if_pos rfl] at hr
    rw [if_neg (by decide), if_pos rfl, show flagV 2 = 64 from rfl]
    obtain ⟨q, hq, hr⟩ := Option.bind_eq_some_iff.mp hr
    obtain ⟨v, hv, hv2⟩ := has d q ho hz hq
    rw [Option.some.injEq] at hr
    subst hr
    rw [hv, Option.bind_some]
    refine ⟨_, rfl, fun e1 e => ?_⟩
    dsimp only at e1 ⊢
    rw [hv2 e1, hp e]
  · unfold rdF at hr
    unfold roneF
    simp only [Int.reduceEq, if_false, if_true] at hr ⊢
    rw [number_eq 100 d (by omega) ho, Option.bind_some, Option.some.injEq] at hr
    rw [show flagV 3 = 64 from rfl, hf4 d ho hz, Option.bind_some, hd]
    subst hr
    refine ⟨_, rfl, fun e1 e => ?_⟩
    simp only [Bool.and_eq_true, decide_eq_true_eq] at e1 ⊢
    rw [if_pos e1.2, hp e]
  · unfold rdF at hr
    unfold roneF
    simp only [Int.reduceEq, if_false, if_true, Option.some.injEq] at hr ⊢
    rw [show flagV 4 = 128 from rfl]
    subst hr
    exact ⟨_, rfl, fun _ e => hp e⟩
  · unfold rdF at hr
    unfold roneF
    simp only [Int.reduceEq, if_false, if_true] at hr ⊢
    rw [number_eq 100 d (by omega) ho, Option.bind_some, Option.some.injEq] at hr
    rw [show flagV 35 = 192 from rfl, hf4 d ho hz, Option.bind_some, hd]
    subst hr
    refine ⟨_, rfl, fun e1 e => ?_⟩
    simp only [Bool.and_eq_true, decide_eq_true_eq] at e1 ⊢
    rw [if_pos e1.2, hp e]
theorem rj_main (hf4 : H4)
    (has : HA)
    (hpt : ∀ (f0 f1 : Int) (d : List Int), fineA ⟨f0, f1, d⟩ → d.length ≤ 2000 → ∃ b, attr_Put.f 100 [] f0 f1 d = some b ∧ ridgewayref07_Put.f [] f0 f1 d = some b) :
    ∀ (l : List S24) (sA sR : List Int) (p : Pth) (p' : PthR) (sp : Bool) (R : JR), (∀ a ∈ l, fineA a ∧ a.f2.length ≤ 2000) → (∀ t, t ∈ sA ↔ t ∈ sR) → (sp = false → p = p') → judgeL 100 l sA p sp = some R → ∃ R', rjL 1000000 l sR p' sp (0, 0, []) = some R' ∧ rjEnd R' = R
  | [], sA, sR, p, p', sp, R, _, hs, hp, h => by
    refine ⟨_, rfl, ?_⟩
    simp only [judgeL, Option.some.injEq] at h
    rw [← h]
    unfold rjEnd
    dsimp only
    rw [if_neg (by decide)]
    by_cases c : sp = true ∨ 1 ∉ sA ∨ 2 ∉ sA ∨ 3 ∉ sA
    · rw [if_pos c, if_pos (by rw [← hs, ← hs, ← hs]; exact c)]
    · rw [if_neg c, if_neg (by rw [← hs, ← hs, ← hs]; exact c)]
      have e : sp = false := by cases sp; rfl; exact absurd (.inl rfl) c
      rw [hp e]
  | ⟨f0, f1, f2⟩ :: l, sA, sR, p, p', sp, R, hl, hs, hp, h => by
    have hl' : ∀ a ∈ l, fineA a ∧ a.f2.length ≤ 2000 := fun a ha => hl a (by simp [ha])
    have h0 := hl _ (List.mem_cons_self)
    have ho : Octs f2 := h0.1.1
    have hz : f2.length ≤ 2000 := h0.2
    have hs' : f1 ∉ sR → ∀ t, t ∈ f1 :: sA ↔ t ∈ sR ++ [f1] := fun _ t => by simp [hs t, or_comm]
    rw [judgeL_cons] at h
    simp only [rjL]
    have IH := rj_main hf4 has hpt l
    by_cases m : f1 ∈ sA
    · rw [if_pos (.inl m)] at h
      rw [if_pos ((hs f1).1 m)]
      exact IH _ _ _ _ _ _ hl' (fun t => by rw [← hs]; simp; intro e; rw [e]; exact m) hp h
    · rw [if_neg (fun e => m ((hs f1).2 e))]
      have hs2 := hs' (fun e => m ((hs f1).2 e))
      by_cases c57 : 5 ≤ f1 ∧ f1 ≤ 7
      · rw [if_pos (.inr c57)] at h
        rw [show roneF 1000000 f0 f1 f2 p' sp (0, 0, []) = some (p', sp, (0, 0, [])) from by
          unfold roneF
          rw [if_neg (by omega), if_neg (by omega), if_neg (by omega), if_neg (by omega), if_neg (by omega), if_pos (by omega)], Option.bind_some]
        exact IH _ _ _ _ _ _ hl' hs2 hp h
      rw [if_neg (by intro e; rcases e with e | e; exact m e; exact c57 e)] at h
      by_cases k : kindB f1 = true
      · rw [if_pos k] at h
        have cs : f1 = 1 ∨ f1 = 2 ∨ f1 = 3 ∨ f1 = 4 ∨ f1 = 35 := by simpa [kindB, or_assoc] using k
        obtain ⟨r, hrd⟩ := rdF_tot f1 p f2 ho
        obtain ⟨p2, hr, hp2⟩ := rone_kind hf4 has f0 f1 f2 ho hz k p p' sp hp r hrd
        rw [hr, Option.bind_some]
        by_cases g : Go.bits .and .i64 f0 192 = flagV f1
        · rw [if_neg (fun e => e g), hrd, Option.bind_some] at h
          have e : (sp || !(decide (Go.bits .and .i64 f0 192 = flagV f1) && r.2)) = (if r.2 = true then sp else true) := by
            rw [decide_eq_true g]
            cases r.2 <;> cases sp <;> rfl
          dsimp only
          rw [e]
          refine IH _ _ _ _ _ _ hl' hs2 ?_ h
          intro e
          cases h2 : r.2
          · rw [h2] at e; cases e
          · rw [h2] at e
            exact hp2 h2 e
        · rw [if_pos g] at h
          have e : (sp || !(decide (Go.bits .and .i64 f0 192 = flagV f1) && r.2)) = true := by
            rw [decide_eq_false g]
            cases sp <;> rfl
          dsimp only
          rw [e]
          exact IH _ _ _ _ _ _ hl' hs2 (by simp) h
      · rw [if_neg k] at h
        have hk : f1 ≠ 1 ∧ f1 ≠ 2 ∧ f1 ≠ 3 ∧ f1 ≠ 4 ∧ f1 ≠ 35 := by simpa [kindB, and_assoc] using k
        have hro : roneF 1000000 f0 f1 f2 p' sp (0, 0, []) = if Go.bits .and .i64 f0 128 = 0 ∧ (0 : Int) = 0 then (ridgewayref07_Put.f [] f0 f1 f2).bind fun r => some (p', sp, (3, 2, r)) else some (p', sp, (0, 0, [])) := by
          unfold roneF
          rw [if_neg hk.1, if_neg hk.2.1, if_neg hk.2.2.1, if_neg hk.2.2.2.1, if_neg hk.2.2.2.2, if_neg (by omega)]
        rw [hro]
        by_cases g : Go.bits .and .i64 f0 128 = 0
        · rw [if_pos g] at h
          rw [if_pos ⟨g, rfl⟩]
          obtain ⟨b, hb1, hb2⟩ := hpt f0 f1 f2 h0.1 h0.2
          rw [hb1, Option.bind_some, Option.some.injEq] at h
          rw [hb2, Option.bind_some, Option.bind_some]
          obtain ⟨R', hR1, hR2⟩ := rj_fatal (fun d h1 h2 => ⟨_, hf4 d h1 h2⟩) (fun d h1 h2 => by
            obtain ⟨q, hq⟩ := segL_tot (d.length + 1) [] d h1 (by omega)
            obtain ⟨v, hv, _⟩ := has d q h1 h2 hq
            exact ⟨_, hv⟩) l (sR ++ [f1]) p' sp (3, 2, b) hl' (show (3 : Int) ≠ 0 by decide)
          refine ⟨R', hR1, ?_⟩
          unfold rjEnd
          rw [hR2, if_pos (show (3 : Int) ≠ 0 by decide), ← h]
        · rw [if_neg g] at h
          rw [if_neg (fun e => g e.1), Option.bind_some]
          exact IH _ _ _ _ _ _ hl' hs2 hp h
theorem flag_eq (f : Int) (h0 : 0 ≤ f) (h1 : f ≤ 255) : Go.bits .andNot .i64 f 16 = wrap64 (f - wrap64 (Int.tmod (wrap64 (Int.tdiv f 16)) 2 * 16)) ∧ Go.bits .or .i64 (Go.bits .andNot .i64 f 16) 16 = wrap64 (wrap64 (f - wrap64 (Int.tmod (wrap64 (Int.tdiv f 16)) 2 * 16)) + 16) := by
  have h : ∀ n : Fin 256, Go.bits .andNot .i64 ((n.val : Nat) : Int) 16 = wrap64 (((n.val : Nat) : Int) - wrap64 (Int.tmod (wrap64 (Int.tdiv ((n.val : Nat) : Int) 16)) 2 * 16)) ∧ Go.bits .or .i64 (Go.bits .andNot .i64 ((n.val : Nat) : Int) 16) 16 = wrap64 (wrap64 (((n.val : Nat) : Int) - wrap64 (Int.tmod (wrap64 (Int.tdiv ((n.val : Nat) : Int) 16)) 2 * 16)) + 16) := by decide +kernel
  have := h ⟨f.toNat, by omega⟩
  rwa [show ((f.toNat : Nat) : Int) = f by omega] at this
theorem put_eq (f0 f1 : Int) (d : List Int) (hd : d.length ≤ 2000) : ∃ b, attr_Put.f 100 [] f0 f1 d = some b ∧ ridgewayref07_Put.f [] f0 f1 d = some b := by
  have hc : slices_Clone_byte_byte.f [] = some ([] : List Int) := by simp [slices_Clone_byte_byte.f]
  have hj : attr_Put.j0 100 [] true f0 f1 d = some [] := by
    show attr_Put.j0 (99 + 1) [] true f0 f1 d = some []
    rw [attr_Put.j0, if_pos rfl, hc]
    rfl
  have hr : ridgewayref07_right.f f0 f1 d = some (decide (0 ≤ f0 ∧ f0 ≤ 255 ∧ 0 ≤ f1 ∧ f1 ≤ 255)) := by
    unfold ridgewayref07_right.f
    have hq : decide ((d.length : Int) ≤ 65535) = true := decide_eq_true (by omega)
    rw [hq]
    (repeat' split) <;> congr 1 <;> symm <;> first | exact decide_eq_true (by omega) | exact decide_eq_false (by omega)
  by_cases c : 0 ≤ f0 ∧ f0 ≤ 255 ∧ 0 ≤ f1 ∧ f1 ≤ 255
  · obtain ⟨e1, e2⟩ := flag_eq f0 c.1 c.2.1
    unfold attr_Put.f ridgewayref07_Put.f
    rw [if_neg (by omega), if_neg (by omega), if_neg (by omega), if_neg (by omega), decide_eq_false (by omega)]
    show ∃ b, attr_Put.j0 (99 + 1) [] false f0 f1 d = some b ∧ _
    rw [attr_Put.j0, if_neg (by decide)]
    simp only [hr, decide_eq_true c, Option.bind_some, List.length_nil, List.nil_append, List.append_nil, Nat.add_zero, Nat.zero_add, if_true, List.length_cons]
    have p1 : ∀ l v, l.length < 1000 → octet_Put.f 99 l v 1 = some (l ++ putL v 1) := fun l v h => octet_putN 99 l v 1 (by omega) (by omega) (by omega) (by omega)
    have p2 : ∀ l v, l.length < 1000 → octet_Put.f 99 l v 2 = some (l ++ putL v 2) := fun l v h => octet_putN 99 l v 2 (by omega) (by omega) (by omega) (by omega)
    by_cases g : (d.length : Int) > 255
    · simp only [if_pos g]
      rw [p1 _ _ (by simp), Option.bind_some, p1 _ _ (by simp [putL_length]), Option.bind_some, p2 _ _ (by simp [putL_length]), Option.bind_some, if_pos (by simp [putL_length]; omega)]
      refine ⟨_, rfl, ?_⟩
      rw [if_pos (by omega), if_pos (by omega), if_pos (by omega), w64 (n := (d.length : Int) / 256) (by omega) (by omega), ← e2]
      rfl
    · simp only [if_neg g]
      rw [p1 _ _ (by simp), Option.bind_some, p1 _ _ (by simp [putL_length]), Option.bind_some, p1 _ _ (by simp [putL_length]), Option.bind_some, if_pos (by simp [putL_length]; omega)]
      refine ⟨_, rfl, ?_⟩
      rw [if_pos (by omega), if_pos (by omega), if_pos (by omega), ← e1]
      rfl
  · refine ⟨[], ?_, ?_⟩
    · unfold attr_Put.f
      by_cases a1 : f0 < 0
      · rw [if_pos a1, hj]
      rw [if_neg a1]
      by_cases a2 : f0 > 255
      · rw [if_pos a2, hj]
      rw [if_neg a2]
      by_cases a3 : f1 < 0
      · rw [if_pos a3, hj]
      rw [if_neg a3, if_pos (by omega), hj]
    · unfold ridgewayref07_Put.f
      simp only [hr, decide_eq_false c, Option.bind_some, List.length_nil, List.append_nil, Nat.add_zero]
      rw [if_pos (by omega), if_neg (by decide)]
theorem rj_eq (l : List S24) (h : ∀ a ∈ l, fineA a ∧ a.f2.length ≤ 2000) (R : JR) (hR : judgeL 100 l [] (0, [], 0, 0) false = some R) : ∃ R', rjL 1000000 l [] (0, [], 0, 0) false (0, 0, []) = some R' ∧ rjEnd R' = R :=
  rj_main (fun d h1 h2 => four_eq _ d (by omega) h1) (fun d q h1 h2 h3 => ases_eq d q h1 h2 h3) (fun f0 f1 d _ h2 => put_eq f0 f1 d h2) l [] [] _ _ _ R h (fun _ => Iff.rfl) (fun _ => rfl) hR
end Go.Proofs.Ytfmhclbcoladpaa.Pure
