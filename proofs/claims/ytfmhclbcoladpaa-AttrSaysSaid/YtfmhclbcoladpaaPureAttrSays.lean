/- AttrSays: what a path's attributes say is the path. No conditions but those of the statement. -/
import Derived.Test.YtfmhclbcoladpaaQx4
import Derived.Test.YtfmhclbcoladpaaQx8
import Derived.Test.YtfmhclbcoladpaaXAttrOf
namespace Go.Proofs.Ytfmhclbcoladpaa.Pure
open Go.RowKit Go.Proofs.Ytfmhclbcoladpaa.Q Go.Proofs.YtfmhclbcoladpaaW.PrintWords Go.Proofs.YtfmhclbcoladpaaW.PrintLast Go.Proofs.YtfmhclbcoladpaaW.PrintMore Go.Proofs.YtfmhclbcoladpaaW.PrintX
set_option linter.unusedVariables false
set_option linter.unusedSimpArgs false

/-- Any turn of a path's attributes, with one of them a second time, says the path. -/
theorem judge_rot (o : Int) (as_ : List Int) (h t : Int) (hs : saneP o as_ h t) (s0 : List Int) (n1 : 1 ∉ s0) (n2 : 2 ∉ s0) (n3 : 3 ∉ s0) (n35 : 35 ∉ s0) (i : Nat) (hi : i < (ofL o as_ h t).length) (f0 : Int) (xd : List Int) :
    judgeL 100 ((ofL o as_ h t).drop i ++ (ofL o as_ h t).take i ++ [⟨f0, ((ofL o as_ h t)[i]).f1, xd⟩]) s0 (0, [], 0, 0) false = some (o, as_, h, t, 0, 0, 0, []) := by
  obtain ⟨ha, hl, o0, o2, h1, h2, t0, t2⟩ := hs
  have e1 := fun l seen p (hn : (1 : Int) ∉ seen) => j_one o ⟨o0, o2⟩ l seen p false hn
  have e2 := fun l seen p (hn : (2 : Int) ∉ seen) => j_two as_ ha hl l seen p false hn
  have e3 := fun l seen p (hn : (3 : Int) ∉ seen) => j_three h ⟨by omega, h2⟩ l seen p false hn
  unfold ofL at hi ⊢
  by_cases ct : t > 0
  · have e4 := fun l seen p (hn : (35 : Int) ∉ seen) => j_otc t ⟨by omega, t2⟩ l seen p false hn
    simp only [if_pos ct, List.cons_append, List.nil_append, List.length_cons, List.length_nil] at hi ⊢
    rcases i with _ | _ | _ | _ | i
    · simp only [List.drop_zero, List.take_zero, List.append_nil, List.cons_append, List.nil_append, List.getElem_cons_zero]
      rw [e1 _ _ _ n1, e2 _ _ _ (by simp [n2]), e3 _ _ _ (by simp [n3]), e4 _ _ _ (by simp [n35]), j_skip _ _ _ _ _ _ _ (.inl (by simp)), j_end _ _ (by simp) (by simp) (by simp)]
    · simp only [Nat.zero_add, List.drop_succ_cons, List.drop_zero, List.take_succ_cons, List.take_zero, List.cons_append, List.nil_append, List.getElem_cons_succ, List.getElem_cons_zero]
      rw [e2 _ _ _ n2, e3 _ _ _ (by simp [n3]), e4 _ _ _ (by simp [n35]), e1 _ _ _ (by simp [n1]), j_skip _ _ _ _ _ _ _ (.inl (by simp)), j_end _ _ (by simp) (by simp) (by simp)]
    · simp only [Nat.zero_add, Nat.reduceAdd, List.drop_succ_cons, List.drop_zero, List.take_succ_cons, List.take_zero, List.cons_append, List.nil_append, List.getElem_cons_succ, List.getElem_cons_zero]
      rw [e3 _ _ _ n3, e4 _ _ _ (by simp [n35]), e1 _ _ _ (by simp [n1]), e2 _ _ _ (by simp [n2]), j_skip _ _ _ _ _ _ _ (.inl (by simp)), j_end _ _ (by simp) (by simp) (by simp)]
    · simp only [Nat.zero_add, Nat.reduceAdd, List.drop_succ_cons, List.drop_zero, List.take_succ_cons, List.take_zero, List.cons_append, List.nil_append, List.getElem_cons_succ, List.getElem_cons_zero]
      rw [e4 _ _ _ n35, e1 _ _ _ (by simp [n1]), e2 _ _ _ (by simp [n2]), e3 _ _ _ (by simp [n3]), j_skip _ _ _ _ _ _ _ (.inl (by simp)), j_end _ _ (by simp) (by simp) (by simp)]
    · omega
  · obtain rfl : t = 0 := by omega
    simp only [if_neg ct, List.append_nil, List.cons_append, List.nil_append, List.length_cons, List.length_nil] at hi ⊢
    rcases i with _ | _ | _ | i
    · simp only [List.drop_zero, List.take_zero, List.append_nil, List.cons_append, List.nil_append, List.getElem_cons_zero]
      rw [e1 _ _ _ n1, e2 _ _ _ (by simp [n2]), e3 _ _ _ (by simp [n3]), j_skip _ _ _ _ _ _ _ (.inl (by simp)), j_end _ _ (by simp) (by simp) (by simp)]
    · simp only [Nat.zero_add, List.drop_succ_cons, List.drop_zero, List.take_succ_cons, List.take_zero, List.cons_append, List.nil_append, List.getElem_cons_succ, List.getElem_cons_zero]
      rw [e2 _ _ _ n2, e3 _ _ _ (by simp [n3]), e1 _ _ _ (by simp [n1]), j_skip _ _ _ _ _ _ _ (.inl (by simp)), j_end _ _ (by simp) (by simp) (by simp)]
    · simp only [Nat.zero_add, Nat.reduceAdd, List.drop_succ_cons, List.drop_zero, List.take_succ_cons, List.take_zero, List.cons_append, List.nil_append, List.getElem_cons_succ, List.getElem_cons_zero]
      rw [e3 _ _ _ n3, e1 _ _ _ (by simp [n1]), e2 _ _ _ (by simp [n2]), j_skip _ _ _ _ _ _ _ (.inl (by simp)), j_end _ _ (by simp) (by simp) (by simp)]
    · omega
def overX (f ty : Int) : Prop := (5 ≤ ty ∧ ty ≤ 7) ∨ (Go.bits .and .i64 f 128 ≠ 0 ∧ ty ≠ 4 ∧ ty ≠ 35 ∧ (ty < 1 ∨ ty > 3))
theorem judge_over (f ty : Int) (xd : List Int) (h : overX f ty) (l : List S24) (p : Pth) (sp : Bool) : judgeL 100 (⟨f, ty, xd⟩ :: l) [] p sp = judgeL 100 l [ty] p sp := by
  rcases h with h | ⟨h1, h2, h3, h4⟩
  · exact j_skip _ _ _ _ _ _ _ (.inr h)
  · by_cases c : 5 ≤ ty ∧ ty ≤ 7
    · exact j_skip _ _ _ _ _ _ _ (.inr c)
    · rw [judgeL_cons, if_neg (by simpa using c), if_neg (by simp [kindB]; omega), if_neg h1]
theorem ofL_len (o : Int) (as_ : List Int) (h t : Int) : (ofL o as_ h t).length = 3 ∨ (ofL o as_ h t).length = 4 := by
  unfold ofL
  split
  · exact .inr rfl
  · exact .inl rfl
theorem ofL_ty (o : Int) (as_ : List Int) (h t : Int) (hl : as_.length ≤ 255) (i : Nat) (hi : i < (ofL o as_ h t).length) : -9223372036854775808 ≤ ((ofL o as_ h t)[i]).f1 ∧ ((ofL o as_ h t)[i]).f1 ≤ 9223372036854775807 := (ofL_fine o as_ h t hl _ (List.getElem_mem hi)).2.2
theorem AttrSays : ridgewaylaw07_AttrSays.Pure := by
  intro x0 a1 x2 hw0 _ hw2
  obtain ⟨o, as_, h, t⟩ := x0
  obtain ⟨f, ty, xd⟩ := x2
  dsimp only
  refine ⟨1000, ?_⟩
  unfold ridgewaylaw07_AttrSays.f ridgewaylaw07_awake.f
  rw [Option.bind_some]
  have hskip : ridgewaylaw07_AttrSays.j0 1000 a1 true true o as_ h t f ty xd = some true := by rw [ridgewaylaw07_AttrSays.j0, if_pos rfl]
  by_cases c1 : (as_.length : Int) > 300
  · rw [if_pos c1]; exact hskip
  rw [if_neg c1]
  by_cases c2 : (xd.length : Int) > 2000
  · rw [decide_eq_true c2]; exact hskip
  rw [decide_eq_false c2, ridgewaylaw07_AttrSays.j0, if_neg (by decide)]
  obtain ⟨b, hb, hb2⟩ := sane_tot o as_ h t (by omega)
  cases b with
  | false =>
    have hof : attr_Of.f 999 o as_ h t = some [] := by
      unfold attr_Of.f
      rw [hb, Option.bind_some, if_neg (by decide)]
    rw [hof, Option.bind_some, hb, Option.bind_some, if_neg (by decide), if_pos rfl]
    rfl
  | true =>
    have hs := hb2 rfl
    rw [of_eq 999 o as_ h t hb (by omega) (by omega), Option.bind_some, hb, Option.bind_some, if_pos rfl]
    have hlen := ofL_len o as_ h t
    obtain ⟨L, hL⟩ : ∃ L, L = ofL o as_ h t := ⟨_, rfl⟩
    rw [if_neg (by omega), decide_eq_false (show ¬ ((ofL o as_ h t).length : Int) > 4 by omega), ridgewaylaw07_AttrSays.j1, if_neg (by decide), if_neg (by omega), Option.bind_some]
    have hand : Go.bits .and .i64 a1 65535 = a1 % 65536 := and_mask a1 16 (by omega)
    rw [hand]
    obtain ⟨i, hi, hil⟩ : ∃ i : Nat, Int.tmod (a1 % 65536) ((ofL o as_ h t).length : Int) = (i : Int) ∧ i < (ofL o as_ h t).length := by
      have h1 : 0 ≤ a1 % 65536 := Int.emod_nonneg _ (by decide)
      refine ⟨(Int.tmod (a1 % 65536) ((ofL o as_ h t).length : Int)).toNat, ?_, ?_⟩
      · have := Int.tmod_nonneg ((ofL o as_ h t).length : Int) h1; omega
      · have := Int.tmod_lt_of_pos (a1 % 65536) (show (0 : Int) < (ofL o as_ h t).length by omega); have := Int.tmod_nonneg ((ofL o as_ h t).length : Int) h1; omega
    rw [hi, if_pos (by omega), if_pos (by omega), Int.toNat_natCast, Option.bind_some, List.nil_append, if_pos (by rw [List.length_drop, List.length_nil]; omega), Option.bind_some, Option.bind_some, if_pos (by rw [List.length_drop, List.length_take]; omega), Option.bind_some]
    obtain ⟨w1, w2, w3, w4⟩ := hw2
    dsimp only at w2 w3 w4
    have hxo : Octs xd := octs_of_wf w4
    have htb : -9223372036854775808 ≤ ty ∧ ty ≤ 9223372036854775807 := by
      simp [Lit.wf, IntKind.min, IntKind.max, IntKind.bits, IntKind.signed] at w2
      omega
    have hfx : fineA ⟨f, ty, xd⟩ := ⟨hxo, by show xd.length < _; omega, htb⟩
    have hrd : rd_T24 (ofL o as_ h t) (i : Int) = (ofL o as_ h t)[i] := by simp [rd_T24, hil]
    have hfd : fineA ⟨0, ((ofL o as_ h t)[i]).f1, xd⟩ := ⟨hxo, by show xd.length < _; omega, ofL_ty o as_ h t hs.2.1 i hil⟩
    have hfm : ∀ a ∈ (ofL o as_ h t).drop i ++ (ofL o as_ h t).take i ++ ([⟨0, ((ofL o as_ h t)[i]).f1, xd⟩] : List S24), fineA a := fun a ha => by
      rw [List.mem_append, List.mem_append, List.mem_singleton] at ha
      rcases ha with (ha | ha) | ha
      · exact ofL_fine o as_ h t hs.2.1 a (List.mem_of_mem_drop ha)
      · exact ofL_fine o as_ h t hs.2.1 a (List.mem_of_mem_take ha)
      · rw [ha]; exact hfd
    have hml : ((ofL o as_ h t).drop i ++ (ofL o as_ h t).take i ++ ([⟨0, ((ofL o as_ h t)[i]).f1, xd⟩] : List S24)).length < 100 := by rw [List.length_append, List.length_append, List.length_drop, List.length_take, List.length_singleton]; omega
    have hj2 : ∀ B : Bool, (B = true → overX f ty) → ridgewaylaw07_AttrSays.j2 998 true (ofL o as_ h t) (i : Int) ((ofL o as_ h t).drop i ++ (ofL o as_ h t).take i) B o as_ h t f ty xd = some true := by
      intro B hB
      rw [ridgewaylaw07_AttrSays.j2, hrd]
      cases B with
      | true =>
        have hov := hB rfl
        have hty : ∀ z : Int, (z = 1 ∨ z = 2 ∨ z = 3 ∨ z = 35) → z ∉ [ty] := fun z hz hm => by
          have hzt := List.mem_singleton.1 hm
          rcases hov with h5 | ⟨_, h6, h7, h8⟩ <;> omega
        rw [if_pos rfl, Option.bind_some, if_pos (by rw [List.length_append, List.length_drop, List.length_take, List.length_singleton]; omega), Option.bind_some, if_pos (by omega), if_pos (by omega), if_pos (by rw [List.length_append, List.length_append, List.length_drop, List.length_take, List.length_singleton]; omega), List.append_assoc [_]]
        rw [judge_eq _ (fun a ha => by
          rcases List.mem_append.1 ha with ha | ha
          · rw [List.mem_singleton.1 ha]; exact hfx
          · exact hfm a ha) (by rw [List.length_append, List.length_singleton]; omega), List.singleton_append, judge_over f ty xd hov, judge_rot o as_ h t hs [ty] (hty 1 (by omega)) (hty 2 (by omega)) (hty 3 (by omega)) (hty 35 (by omega)) i hil 0 xd, Option.bind_some, if_pos rfl, if_pos rfl, if_pos rfl]
        dsimp only
        rw [same_refl _ _ _ _ _ (by omega) (by omega)]
        rfl
      | false =>
        rw [if_neg (by decide), if_pos (by omega), if_pos (by omega), if_pos (by rw [List.length_append, List.length_drop, List.length_take]; omega), judge_eq _ hfm (by omega), judge_rot o as_ h t hs [] (by simp) (by simp) (by simp) (by simp) i hil 0 xd, Option.bind_some, if_pos rfl, if_pos rfl, if_pos rfl]
        dsimp only
        rw [same_refl _ _ _ _ _ (by omega) (by omega)]
        rfl
    by_cases g0 : Go.bits .and .i64 f 128 = 0
    · rw [if_pos g0]
      split
      · next g5 => exact hj2 _ (fun hB => .inl ⟨g5, of_decide_eq_true hB⟩)
      · exact hj2 _ (fun hB => by cases hB)
    rw [if_neg g0]
    split
    · split
      · next g5 => exact hj2 _ (fun hB => .inl ⟨g5, of_decide_eq_true hB⟩)
      · exact hj2 _ (fun hB => by cases hB)
    next g4 =>
    split
    · split
      · next g5 => exact hj2 _ (fun hB => .inl ⟨g5, of_decide_eq_true hB⟩)
      · exact hj2 _ (fun hB => by cases hB)
    next g35 =>
    split
    · next g1 => exact hj2 _ (fun _ => .inr ⟨g0, g4, g35, .inl g1⟩)
    split
    · next g3 => exact hj2 _ (fun _ => .inr ⟨g0, g4, g35, .inr g3⟩)
    split
    · next g5 => exact hj2 _ (fun hB => .inl ⟨g5, of_decide_eq_true hB⟩)
    · exact hj2 _ (fun hB => by cases hB)
end Go.Proofs.Ytfmhclbcoladpaa.Pure
