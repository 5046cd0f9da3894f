/- AttrFlags: other flags than 128 and 64 do not count. No conditions but those of the statement. -/
import Derived.Test.YtfmhclbcoladpaaQx9
import Derived.Test.YtfmhclbcoladpaaXAttr
namespace Go.Proofs.Ytfmhclbcoladpaa.Pure
open Go.RowKit Go.Proofs.Ytfmhclbcoladpaa.Q Go.Proofs.YtfmhclbcoladpaaW.PrintWords Go.Proofs.YtfmhclbcoladpaaW.PrintLast Go.Proofs.YtfmhclbcoladpaaW.PrintMore Go.Proofs.YtfmhclbcoladpaaW.PrintX
set_option linter.unusedVariables false
set_option linter.unusedSimpArgs false

theorem ofInt_wrap (v : BitVec 64) : BitVec.ofInt 64 (IntKind.i64.wrap (v.toNat : Int)) = v := by
  apply BitVec.eq_of_toNat_eq
  rw [IntKind.wrap_i64, BitVec.toNat_ofInt]
  have h := v.isLt
  have e64 : ((2 ^ 64 : Nat) : Int) = 18446744073709551616 := by decide
  rw [e64]
  omega
theorem flag_and (x y c : Int) (hc : (63#64) &&& BitVec.ofInt 64 c = 0#64) : Go.bits .and .i64 (Go.bits .xor .i64 x (Go.bits .and .i64 y 63)) c = Go.bits .and .i64 x c := by
  have e1 : Go.bits .and .i64 y 63 = IntKind.i64.wrap ((BitVec.ofInt 64 y &&& BitVec.ofInt 64 63).toNat : Int) := rfl
  have e2 : ∀ z, Go.bits .xor .i64 x z = IntKind.i64.wrap ((BitVec.ofInt 64 x ^^^ BitVec.ofInt 64 z).toNat : Int) := fun _ => rfl
  have e3 : ∀ z, Go.bits .and .i64 z c = IntKind.i64.wrap ((BitVec.ofInt 64 z &&& BitVec.ofInt 64 c).toNat : Int) := fun _ => rfl
  rw [e3, e3, e2, ofInt_wrap, e1, ofInt_wrap]
  congr 2
  have h63 : BitVec.ofInt 64 63 = 63#64 := by decide
  rw [h63]
  congr 1
  generalize BitVec.ofInt 64 x = a at *
  generalize BitVec.ofInt 64 y = b at *
  generalize BitVec.ofInt 64 c = d at *
  apply BitVec.eq_of_getLsbD_eq
  intro i hi
  have h := congrArg (fun v : BitVec 64 => v.getLsbD i) hc
  simp only [BitVec.getLsbD_and, BitVec.getLsbD_xor, BitVec.getLsbD_zero] at h ⊢
  revert h
  cases (63#64).getLsbD i <;> cases d.getLsbD i <;> cases a.getLsbD i <;> cases b.getLsbD i <;> simp
def simA (a b : S24) : Prop := a.f1 = b.f1 ∧ a.f2 = b.f2 ∧ Go.bits .and .i64 a.f0 192 = Go.bits .and .i64 b.f0 192 ∧ Go.bits .and .i64 a.f0 128 = Go.bits .and .i64 b.f0 128
def simL : List S24 → List S24 → Prop
  | [], [] => True
  | a :: l, b :: m => simA a b ∧ simL l m
  | _, _ => False
theorem simL_refl : ∀ l, simL l l
  | [] => trivial
  | a :: l => ⟨⟨rfl, rfl, rfl, rfl⟩, simL_refl l⟩
theorem simL_set : ∀ (l : List S24) (i : Nat) (b : S24) (hi : i < l.length), simA l[i] b → simL l (l.set i b)
  | [], i, b, hi, _ => by simp at hi
  | a :: l, 0, b, hi, h => ⟨h, simL_refl l⟩
  | a :: l, i + 1, b, hi, h => ⟨⟨rfl, rfl, rfl, rfl⟩, simL_set l i b (by simpa using hi) (by simpa using h)⟩
theorem judgeL_sim : ∀ (l m : List S24) (seen : List Int) (p : Pth) (sp : Bool) (R : JR), simL l m → (∀ a ∈ m, fineA a) → judgeL 100 l seen p sp = some R →
    ∃ R', judgeL 100 m seen p sp = some R' ∧ (R'.1 = R.1 ∧ R'.2.1 = R.2.1 ∧ R'.2.2.1 = R.2.2.1 ∧ R'.2.2.2.1 = R.2.2.2.1) ∧ R'.2.2.2.2.1 = R.2.2.2.2.1 ∧ R'.2.2.2.2.2.1 = R.2.2.2.2.2.1 ∧ (R.2.2.2.2.1 = 2 ∨ (R'.2.2.2.2.2.2.1 = R.2.2.2.2.2.2.1 ∧ R'.2.2.2.2.2.2.2 = R.2.2.2.2.2.2.2))
  | [], [], seen, p, sp, R, _, _, h => ⟨R, h, ⟨rfl, rfl, rfl, rfl⟩, rfl, rfl, .inr ⟨rfl, rfl⟩⟩
  | [], _ :: _, _, _, _, _, hs, _, _ => hs.elim
  | _ :: _, [], _, _, _, _, hs, _, _ => hs.elim
  | ⟨f0, f1, f2⟩ :: l, ⟨g0, g1, g2⟩ :: m, seen, p, sp, R, hs, hf, h => by
    obtain ⟨⟨s1, s2, s3, s4⟩, hs⟩ := hs
    dsimp only at s1 s2 s3 s4
    subst s1
    subst s2
    have hm : ∀ a ∈ m, fineA a := fun a ha => hf a (by simp [ha])
    have h0 := hf _ (List.mem_cons_self)
    rw [judgeL_cons] at h ⊢
    rw [← s3, ← s4]
    split at h
    · next c => rw [if_pos c]; exact judgeL_sim l m _ _ _ R hs hm h
    next c =>
    rw [if_neg c]
    split at h
    · next c1 =>
      rw [if_pos c1]
      split at h
      · next c2 => rw [if_pos c2]; exact judgeL_sim l m _ _ _ R hs hm h
      · next c2 =>
        rw [if_neg c2]
        obtain ⟨r, hr, h⟩ := Option.bind_eq_some_iff.mp h
        rw [hr, Option.bind_some]
        exact judgeL_sim l m _ _ _ R hs hm h
    next c1 =>
    rw [if_neg c1]
    split at h
    · next c2 =>
      rw [if_pos c2]
      obtain ⟨r, hr, h⟩ := Option.bind_eq_some_iff.mp h
      cases h
      obtain ⟨r', hr'⟩ := put_tot g0 f1 f2 (by have := h0.2.1; dsimp only at this; omega)
      rw [hr']
      exact ⟨_, rfl, ⟨rfl, rfl, rfl, rfl⟩, rfl, rfl, .inl rfl⟩
    · next c2 => rw [if_neg c2]; exact judgeL_sim l m _ _ _ R hs hm h
theorem few_loop (l : List S24) (hl : l.length ≤ 9223372036854775807) : ∀ (n k i : Nat), i + n = l.length → n < k → ∃ b, ridgewayref07_Few.l0 k l (i : Int) = some b ∧ (b = true → l.length ≤ 20 ∧ ∀ j, i ≤ j → (hj : j < l.length) → (l[j]).f2.length ≤ 2000) := by
  intro n
  induction n with
  | zero =>
    intro k i hi hk
    obtain ⟨k, rfl⟩ : ∃ k', k = k' + 1 := ⟨k - 1, by omega⟩
    rw [ridgewayref07_Few.l0, if_neg (by omega)]
    exact ⟨_, rfl, fun h => ⟨by have := of_decide_eq_true h; omega, fun j h1 h2 => by omega⟩⟩
  | succ n ih =>
    intro k i hi hk
    obtain ⟨k, rfl⟩ : ∃ k', k = k' + 1 := ⟨k - 1, by omega⟩
    have hrd : rd_T24 l (i : Int) = l[i]'(by omega) := by
      have : i < l.length := by omega
      simp [rd_T24, this]
    rw [ridgewayref07_Few.l0, if_pos (by omega), if_pos (by omega), hrd]
    by_cases c : ((l[i]'(by omega)).f2.length : Int) > 2000
    · rw [if_pos c]
      exact ⟨false, rfl, fun h => by cases h⟩
    · rw [if_neg c, w64 (by omega) (by omega)]
      obtain ⟨b, hb, hb2⟩ := ih k (i + 1) (by omega) (by omega)
      refine ⟨b, hb, fun h => ⟨(hb2 h).1, fun j h1 h2 => ?_⟩⟩
      rcases Nat.lt_or_ge i j with h3 | h3
      · exact (hb2 h).2 j h3 h2
      · obtain rfl : j = i := by omega
        omega
theorem few_tot (k : Nat) (l : List S24) (hl : l.length ≤ 9223372036854775807) (hk : l.length < k) : ∃ b, ridgewayref07_Few.f k l = some b ∧ (b = true → l.length ≤ 20 ∧ ∀ a ∈ l, a.f2.length ≤ 2000) := by
  obtain ⟨b, h1, h2⟩ := few_loop l hl l.length k 0 (by omega) hk
  refine ⟨b, h1, fun h => ⟨(h2 h).1, fun a ha => ?_⟩⟩
  obtain ⟨j, hj, rfl⟩ := List.getElem_of_mem ha
  exact (h2 h).2 j (by omega) hj
theorem fine_of (l : List S24) (hw : ∀ y ∈ l, wf24 y) (hf : ∀ a ∈ l, a.f2.length ≤ 2000) : ∀ a ∈ l, fineA a := fun a ha => by
  obtain ⟨h1, h2, h3, h4⟩ := hw a ha
  refine ⟨octs_of_wf h4, by have := hf a ha; omega, ?_⟩
  simp [Lit.wf, IntKind.min, IntKind.max, IntKind.bits, IntKind.signed] at h2
  omega
theorem AttrFlags : ridgewaylaw07_AttrFlags.Pure := by
  intro l a1 a2 hw _ _
  have hlen : l.length ≤ 9223372036854775807 := by have := hw.1; simp only [maxLen] at this; omega
  refine ⟨l.length + 3000, ?_⟩
  unfold ridgewaylaw07_AttrFlags.f ridgewaylaw07_awake.f
  rw [Option.bind_some]
  obtain ⟨b, hb, hb2⟩ := few_tot (l.length + 3000) l hlen (by omega)
  rw [hb, Option.bind_some]
  have hskip : ridgewaylaw07_AttrFlags.j0 (l.length + 3000) l a1 a2 true true = some true := by
    rw [ridgewaylaw07_AttrFlags.j0, if_pos rfl]
  cases b with
  | false => rw [if_neg (by decide)]; exact hskip
  | true =>
    rw [if_pos rfl]
    obtain ⟨hl20, hl2⟩ := hb2 rfl
    have hfine := fine_of l hw.2 hl2
    by_cases he : l.length = 0
    · rw [show ((l.length : Int) == 0) = true by simp [he]]; exact hskip
    rw [show ((l.length : Int) == 0) = false from beq_eq_false_iff_ne.2 (by omega), ridgewaylaw07_AttrFlags.j0, if_neg (by decide), if_neg (by omega), Option.bind_some, if_pos (by simp; omega), Option.bind_some, List.nil_append]
    have hand : Go.bits .and .i64 a1 65535 = a1 % 65536 := and_mask a1 16 (by omega)
    rw [hand]
    obtain ⟨i, hi, hil⟩ : ∃ i : Nat, Int.tmod (a1 % 65536) (l.length : Int) = (i : Int) ∧ i < l.length := by
      have h1 : 0 ≤ a1 % 65536 := Int.emod_nonneg _ (by decide)
      refine ⟨(Int.tmod (a1 % 65536) (l.length : Int)).toNat, ?_, ?_⟩
      · have := Int.tmod_nonneg (l.length : Int) h1; omega
      · have := Int.tmod_lt_of_pos (a1 % 65536) (show (0 : Int) < l.length by omega); have := Int.tmod_nonneg (l.length : Int) h1; omega
    rw [hi, if_pos (by omega), if_pos (by omega), judge_eq l hfine (by omega)]
    have hrd : rd_T24 l (i : Int) = l[i] := by simp [rd_T24, hil]
    rw [hrd, Int.toNat_natCast]
    obtain ⟨R, hR⟩ := judgeL_tot l [] (0, [], 0, 0) false hfine
    have hb := hfine l[i] (List.getElem_mem hil)
    have hfm : ∀ a ∈ l.set i ⟨Go.bits .xor .i64 l[i].f0 (Go.bits .and .i64 a2 63), l[i].f1, l[i].f2⟩, fineA a := fun a ha => by
      rcases List.mem_or_eq_of_mem_set ha with h | h
      · exact hfine a h
      · subst h; exact hb
    obtain ⟨R', hR', ⟨p1, p2, p3, p4⟩, hv, hc, hd⟩ := judgeL_sim l _ [] (0, [], 0, 0) false R (simL_set l i ⟨Go.bits .xor .i64 l[i].f0 (Go.bits .and .i64 a2 63), l[i].f1, l[i].f2⟩ hil ⟨rfl, rfl, (flag_and _ _ 192 (by decide)).symm, (flag_and _ _ 128 (by decide)).symm⟩) hfm hR
    rw [hR, Option.bind_some, judge_eq _ hfm (by rw [List.length_set]; omega), hR', Option.bind_some, if_pos rfl, if_pos hv.symm, p1, p2, p3, p4]
    have hlen2 := judgeL_len l _ _ _ R 2001 (fun a ha => by have := hl2 a ha; omega) (by simp) (by omega) hR
    rw [same_refl _ _ _ _ _ (by omega) (by omega), Option.bind_some, if_pos rfl, if_pos hc.symm]
    rcases hd with hd | ⟨hd1, hd2⟩
    · rw [if_pos hd]
    · split
      · rfl
      · rw [hc, hd1, hd2]
        simp [ridgewayref03_SameNote.f]
end Go.Proofs.Ytfmhclbcoladpaa.Pure
