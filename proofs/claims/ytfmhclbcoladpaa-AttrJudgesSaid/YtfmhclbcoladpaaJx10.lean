/- Each call of a Go function comes to what the Lean function of its name answers (written out by wip/tools/xprint.py, checked by Lean); conditions: those in each statement. -/
import Derived.Test.YtfmhclbcoladpaaJx0
import Derived.Test.YtfmhclbcoladpaaJx8
import Derived.Test.YtfmhclbcoladpaaJx9
namespace Go.Proofs.Ytfmhclbcoladpaa.J
open Go.RowKit Go.Proofs.YtfmhclbcoladpaaW.PrintWords Go.Proofs.YtfmhclbcoladpaaW.PrintLast Go.Proofs.YtfmhclbcoladpaaW.PrintMore Go.Proofs.YtfmhclbcoladpaaW.PrintX
attribute [local go_sem] max2_int min2_int max_two min_two max_three min_three max_four min_four   -- for this text's walks alone
set_option linter.unusedVariables false
set_option linter.unusedSimpArgs false

/-! ### ridgewayref07_Judge: function 24 -/
/-- What a judge's block holds. -/
def JB (W : World) (b : Nat) (o : Int) (va : Value) (h t : Int) (vs : Value) (sp : Bool) (c s : Int) (vd : Value) : Prop := W.heap[b]? = some (.cells #[.int .i64 o, va, .int .i64 h, .int .i64 t, vs, .bool sp, .int .i64 c, .int .i64 s, vd] 67 (0, 0))
/-- What a call leaves: the block anew, and all else as it was. -/
def JKeep (b : Nat) (w w' : World) : Prop := KeepBut w w' b none ∧ ∀ w0 : World, w0.heap.size ≤ b → Below w0.heap.size w0 w → Below w0.heap.size w0 w'
theorem JKeep.refl (b : Nat) (w : World) : JKeep b w w := ⟨KeepBut.refl w b none, fun _ _ h => h⟩
theorem JKeep.below {b : Nat} {w w' w2 : World} (h : JKeep b w w') (hb : Below w'.heap.size w' w2) : JKeep b w w2 := ⟨h.1.trans (KeepBut.of_below hb b none) (.inl rfl), fun w0 h0 h1 => below_step (h.2 w0 h0 h1) hb⟩
theorem JKeep.set {b j : Nat} {w w' : World} (h : JKeep b w w') (u : Value) : JKeep b w (w'.setCell ⟨b, j, none⟩ u) := ⟨h.1.set_ j u, fun w0 h0 h1 => set_below (g := b) (j := j) _ (h.2 w0 h0 h1) h0⟩
theorem JKeep.trans {b : Nat} {w w' w2 : World} (h : JKeep b w w') (k : JKeep b w' w2) : JKeep b w w2 := ⟨h.1.trans k.1 (.inl rfl), fun w0 h0 h1 => k.2 w0 h0 (h.2 w0 h0 h1)⟩
set_option maxHeartbeats 8000000 in
set_option maxRecDepth 100000 in
theorem need_any (b : Nat) (o : Int) (va : Value) (h t : Int) (vs : Value) (sp : Bool) (c s : Int) (vd : Value) (x : Bool) (w : World) (hb : JB w b o va h t vs sp c s vd) :
  Calls Try.prog 44 #[.pointer (some ⟨b, 0, none⟩), .bool x] w fun e w' => e = .returned (.tuple #[]) ∧ JB w' b o va h t vs (sp || !x) c s vd ∧ JKeep b w w' := by
 have y5 : w.cell? ⟨b, 5, none⟩ = some (.bool sp) := (blk_cell hb 5).trans rfl
 have f5 := blk_frozen hb 5
 have HB := Aside0.mk hb
 clear hb
 cases x
 ·
  go_enter Try.func44, Try.ntmps44
  go_wp2
  refine bodyPost_end (results_none rfl _ _ _) rfl ⟨rfl, ?_, (JKeep.refl b w).set _⟩
  rw [Bool.not_false, Bool.or_true]
  exact blk_put HB.out 5 _ rfl
 ·
  go_enter Try.func44, Try.ntmps44
  go_wp2
  refine bodyPost_end (results_none rfl _ _ _) rfl ⟨rfl, ?_, JKeep.refl b w⟩
  rw [Bool.not_true, Bool.or_false]
  exact HB.out
set_option maxHeartbeats 8000000 in
set_option maxRecDepth 100000 in
theorem has_any (b : Nat) (o : Int) (va : Value) (h t : Int) (A : Option Addr) (cs : Nat) (seen : List Int) (sp : Bool) (c s : Int) (vd : Value) (x : Int) (w : World) (hb : JB w b o va h t (.slice A seen.length cs) sp c s vd) (hr : Kd.C (Kd.int .i64) w A seen.length seen) (hl : seen.length < 1000000) :
  Calls Try.prog 36 #[.pointer (some ⟨b, 0, none⟩), .int .i64 x] w fun e w' => e = .returned (.bool (decide (x ∈ seen))) ∧ w' = w := by
 have y4 : w.cell? ⟨b, 4, none⟩ = some (.slice A seen.length cs) := (blk_cell hb 4).trans rfl
 have HR := Aside0.mk hr
 have HL := Aside0.mk hl
 clear hb hr hl
 go_enter Try.func36, Try.ntmps36
 go_wp2
 go_loopg [5] seen.length (fun kq v5 w' => ∃ (i : Nat), v5 = .int .i64 (i : Int) ∧ Aside0 (i + kq = seen.length ∧ ∀ y ∈ seen.take i, y ≠ x) ∧ w' = w)
 case atStart => exact ⟨0, rfl, ⟨Nat.zero_add _, fun y hy => by simp at hy⟩, rfl⟩
 case round =>
  obtain ⟨i, rfl, HI, rfl⟩ := hrel
  have hik := HI.out.1
  have hl := HL.out
  by_cases c1 : i < seen.length
  ·
   cases gk with
   | zero => omega
   | succ k1 =>
   have d1 : decide (i < seen.length) = true := decide_eq_true c1
   have d2 : (i : Int) < (seen.length : Int) := by omega
   obtain ⟨ad, e1, x0⟩ := Kd.at_int HR.out (i : Int) (by omega) (by omega)
   subst e1
   have hrd : rd seen (i : Int) = seen[i] := by simp [rd, c1]
   rw [hrd] at x0
   simp only [Int.toNat_natCast, Nat.mul_one] at x0
   have htk : seen.take (i + 1) = seen.take i ++ [seen[i]] := by rw [List.take_add_one, List.getElem?_eq_getElem c1]; rfl
   have hmem : seen[i] ∈ seen := List.getElem_mem c1
   obtain ⟨y, hy⟩ : ∃ y, y = seen[i] := ⟨_, rfl⟩
   rw [← hy] at x0 htk hmem
   have ib : (i : Int) ≤ 1000000 := by omega
   have HT := Aside0.mk htk
   have HM := Aside0.mk hmem
   clear hrd htk hmem hy hl hik
   by_cases c2 : y = x
   ·
    subst c2
    go_wp2
    go_ret
    exact ⟨by rw [decide_eq_true HM.out]; rfl, rfl⟩
   ·
    have d3 : (y == x) = false := by simp [c2]
    have C2 := Aside0.mk c2
    clear c2
    go_wp2
    go_roundg k1
    case measure => omega
    case rel => exact ⟨i + 1, by rw [Int.natCast_add]; rfl, ⟨by have := HI.out.1; omega, fun z hz => by
     rw [HT.out] at hz
     rcases List.mem_append.1 hz with hz | hz
     ·
      exact HI.out.2 z hz
     ·
      rw [List.mem_singleton.1 hz]; exact C2.out⟩, rfl⟩
  ·
   have d1 : decide (i < seen.length) = false := decide_eq_false c1
   have HN := Aside0.mk (show x ∉ seen from fun hx => by
    have h1 := HI.out.2 x (by rw [List.take_of_length_le (by omega)]; exact hx)
    exact h1 rfl)
   clear c1 hl hik
   go_wp2
   go_ret
   exact ⟨by rw [decide_eq_false HN.out]; rfl, rfl⟩
set_option maxHeartbeats 8000000 in
set_option maxRecDepth 100000 in
theorem one_hop (b : Nat) (o : Int) (va : Value) (h t : Int) (vs : Value) (sp : Bool) (c s : Int) (vd : Value) (fl : Int) (A2 : Option Addr) (c2 : Nat) (d : List Int) (w : World) (hb : JB w b o va h t vs sp c s vd) (w0 : World) (h0 : w0.heap.size ≤ b) (hbw : Below w0.heap.size w0 w) (hr : Kd.C (Kd.int .u8) w0 A2 d.length d) (hc : d.length ≤ c2) (k : Nat) (v : Int) (hv : ridgewayref07_four.f k d = some v) :
  Calls Try.prog 37 #[.pointer (some ⟨b, 0, none⟩), .agg #[.int .i64 fl, .int .i64 3, .slice A2 d.length c2]] w fun e w' => e = .returned (.tuple #[]) ∧ JB w' b o va v t vs (sp || !(decide (Go.bits .and .i64 fl 192 = 64) && decide (0 < v))) c s vd ∧ JKeep b w w' := by
 have hz := blk_lt hb
 have HB := Aside0.mk (show JB (w.alloc (.cells #[.int .i64 fl, .int .i64 3, .slice A2 d.length c2] 24)) b o va h t vs sp c s vd from blk_alloc hb _)
 have HK := Aside0.mk (show JKeep b w (w.alloc (.cells #[.int .i64 fl, .int .i64 3, .slice A2 d.length c2] 24)) from (JKeep.refl b w).below (below_alloc (Below.refl _ _) _))
 have HR := Aside0.mk (show ∀ W, JKeep b w W → Kd.C (Kd.int .u8) W A2 d.length d from fun W hk => Kd.C_below hr (hk.2 w0 h0 hbw))
 have HC := Aside0.mk hc
 have HZ := Aside0.mk hz
 have HV := Aside0.mk hv
 clear hb hr hc hv h0 hbw
 by_cases f1 : Go.bits .and .i64 fl 192 = 64
 ·
  have f2 : (Go.bits .and .i64 fl 192 == 64) = true := by simp [f1]
  have F1 := Aside0.mk f1
  clear f1
  go_enter Try.func37, Try.ntmps37
  go_wp2_with (first
   | (go_at_call 46; have hh := ridgewayref07_four.calls k A2 c2 d v (w.alloc (.cells #[.int .i64 fl, .int .i64 3, .slice A2 d.length c2] 24)) (HR.out _ HK.out) HC.out HV.out; (with_reducible refine hh.mono ?_); clear hh; rintro e w1 ⟨rfl, hb1⟩; have HB1 := Aside0.mk (show JB w1 b o va h t vs sp c s vd from blk_below HB.out hb1); have HK1 := Aside0.mk (HK.out.below hb1); clear hb1)
   | (go_at_call 44; have hh := need_any b o va h t vs sp c s vd (decide (0 < v)) w1 HB1.out; (with_reducible refine hh.mono ?_); clear hh; rintro e w2 ⟨rfl, hq2, hk2⟩; have HB2 := Aside0.mk hq2; have HK2 := Aside0.mk (HK1.out.trans hk2); clear hq2 hk2)
   | (go_at_call 46; have hh := ridgewayref07_four.calls k A2 c2 d v w2 (HR.out _ HK2.out) HC.out HV.out; (with_reducible refine hh.mono ?_); clear hh; rintro e w3 ⟨rfl, hb3⟩; have hq3 := blk_below HB2.out hb3; have HQ3 := Aside0.mk hq3; have HK3 := Aside0.mk (HK2.out.below hb3); have z3 : w3.cell? ⟨b, 2, none⟩ = some (.int .i64 h) := (blk_cell hq3 2).trans rfl; have g3 := blk_frozen hq3 2; clear hb3 hq3))
  refine bodyPost_end (results_none rfl _ _ _) rfl ⟨rfl, ?_, HK3.out.set _⟩
  exact blk_put HQ3.out 2 _ (by simp [F1.out])
 ·
  have f2 : (Go.bits .and .i64 fl 192 == 64) = false := by simp [f1]
  have F1 := Aside0.mk f1
  clear f1
  go_enter Try.func37, Try.ntmps37
  go_wp2_with (first
   | (go_at_call 44; have hh := need_any b o va h t vs sp c s vd false (w.alloc (.cells #[.int .i64 fl, .int .i64 3, .slice A2 d.length c2] 24)) HB.out; (with_reducible refine hh.mono ?_); clear hh; rintro e w2 ⟨rfl, hq2, hk2⟩; have HB2 := Aside0.mk hq2; have HK2 := Aside0.mk (HK.out.trans hk2); clear hq2 hk2)
   | (go_at_call 46; have hh := ridgewayref07_four.calls k A2 c2 d v w2 (HR.out _ HK2.out) HC.out HV.out; (with_reducible refine hh.mono ?_); clear hh; rintro e w3 ⟨rfl, hb3⟩; have hq3 := blk_below HB2.out hb3; have HQ3 := Aside0.mk hq3; have HK3 := Aside0.mk (HK2.out.below hb3); have z3 : w3.cell? ⟨b, 2, none⟩ = some (.int .i64 h) := (blk_cell hq3 2).trans rfl; have g3 := blk_frozen hq3 2; clear hb3 hq3))
  refine bodyPost_end (results_none rfl _ _ _) rfl ⟨rfl, ?_, HK3.out.set _⟩
  exact blk_put HQ3.out 2 _ (by simp [F1.out])

set_option maxHeartbeats 8000000 in
set_option maxRecDepth 100000 in
theorem one_otc (b : Nat) (o : Int) (va : Value) (h t : Int) (vs : Value) (sp : Bool) (c s : Int) (vd : Value) (fl : Int) (A2 : Option Addr) (c2 : Nat) (d : List Int) (w : World) (hb : JB w b o va h t vs sp c s vd) (w0 : World) (h0 : w0.heap.size ≤ b) (hbw : Below w0.heap.size w0 w) (hr : Kd.C (Kd.int .u8) w0 A2 d.length d) (hc : d.length ≤ c2) (k : Nat) (v : Int) (hv : ridgewayref07_four.f k d = some v) :
  Calls Try.prog 37 #[.pointer (some ⟨b, 0, none⟩), .agg #[.int .i64 fl, .int .i64 35, .slice A2 d.length c2]] w fun e w' => e = .returned (.tuple #[]) ∧ JB w' b o va h v vs (sp || !(decide (Go.bits .and .i64 fl 192 = 192) && decide (0 < v))) c s vd ∧ JKeep b w w' := by
 have hz := blk_lt hb
 have HB := Aside0.mk (show JB (w.alloc (.cells #[.int .i64 fl, .int .i64 35, .slice A2 d.length c2] 24)) b o va h t vs sp c s vd from blk_alloc hb _)
 have HK := Aside0.mk (show JKeep b w (w.alloc (.cells #[.int .i64 fl, .int .i64 35, .slice A2 d.length c2] 24)) from (JKeep.refl b w).below (below_alloc (Below.refl _ _) _))
 have HR := Aside0.mk (show ∀ W, JKeep b w W → Kd.C (Kd.int .u8) W A2 d.length d from fun W hk => Kd.C_below hr (hk.2 w0 h0 hbw))
 have HC := Aside0.mk hc
 have HZ := Aside0.mk hz
 have HV := Aside0.mk hv
 clear hb hr hc hv h0 hbw
 by_cases f1 : Go.bits .and .i64 fl 192 = 192
 ·
  have f2 : (Go.bits .and .i64 fl 192 == 192) = true := by simp [f1]
  have F1 := Aside0.mk f1
  clear f1
  go_enter Try.func37, Try.ntmps37
  go_wp2_with (first
   | (go_at_call 46; have hh := ridgewayref07_four.calls k A2 c2 d v (w.alloc (.cells #[.int .i64 fl, .int .i64 35, .slice A2 d.length c2] 24)) (HR.out _ HK.out) HC.out HV.out; (with_reducible refine hh.mono ?_); clear hh; rintro e w1 ⟨rfl, hb1⟩; have HB1 := Aside0.mk (show JB w1 b o va h t vs sp c s vd from blk_below HB.out hb1); have HK1 := Aside0.mk (HK.out.below hb1); clear hb1)
   | (go_at_call 44; have hh := need_any b o va h t vs sp c s vd (decide (0 < v)) w1 HB1.out; (with_reducible refine hh.mono ?_); clear hh; rintro e w2 ⟨rfl, hq2, hk2⟩; have HB2 := Aside0.mk hq2; have HK2 := Aside0.mk (HK1.out.trans hk2); clear hq2 hk2)
   | (go_at_call 46; have hh := ridgewayref07_four.calls k A2 c2 d v w2 (HR.out _ HK2.out) HC.out HV.out; (with_reducible refine hh.mono ?_); clear hh; rintro e w3 ⟨rfl, hb3⟩; have hq3 := blk_below HB2.out hb3; have HQ3 := Aside0.mk hq3; have HK3 := Aside0.mk (HK2.out.below hb3); have z3 : w3.cell? ⟨b, 3, none⟩ = some (.int .i64 t) := (blk_cell hq3 3).trans rfl; have g3 := blk_frozen hq3 3; clear hb3 hq3))
  refine bodyPost_end (results_none rfl _ _ _) rfl ⟨rfl, ?_, HK3.out.set _⟩
  exact blk_put HQ3.out 3 _ (by simp [F1.out])
 ·
  have f2 : (Go.bits .and .i64 fl 192 == 192) = false := by simp [f1]
  have F1 := Aside0.mk f1
  clear f1
  go_enter Try.func37, Try.ntmps37
  go_wp2_with (first
   | (go_at_call 44; have hh := need_any b o va h t vs sp c s vd false (w.alloc (.cells #[.int .i64 fl, .int .i64 35, .slice A2 d.length c2] 24)) HB.out; (with_reducible refine hh.mono ?_); clear hh; rintro e w2 ⟨rfl, hq2, hk2⟩; have HB2 := Aside0.mk hq2; have HK2 := Aside0.mk (HK.out.trans hk2); clear hq2 hk2)
   | (go_at_call 46; have hh := ridgewayref07_four.calls k A2 c2 d v w2 (HR.out _ HK2.out) HC.out HV.out; (with_reducible refine hh.mono ?_); clear hh; rintro e w3 ⟨rfl, hb3⟩; have hq3 := blk_below HB2.out hb3; have HQ3 := Aside0.mk hq3; have HK3 := Aside0.mk (HK2.out.below hb3); have z3 : w3.cell? ⟨b, 3, none⟩ = some (.int .i64 t) := (blk_cell hq3 3).trans rfl; have g3 := blk_frozen hq3 3; clear hb3 hq3))
  refine bodyPost_end (results_none rfl _ _ _) rfl ⟨rfl, ?_, HK3.out.set _⟩
  exact blk_put HQ3.out 3 _ (by simp [F1.out])

set_option maxHeartbeats 8000000 in
set_option maxRecDepth 100000 in
theorem one_med (b : Nat) (o : Int) (va : Value) (h t : Int) (vs : Value) (sp : Bool) (c s : Int) (vd : Value) (fl : Int) (A2 : Option Addr) (c2 : Nat) (d : List Int) (w : World) (hb : JB w b o va h t vs sp c s vd) (w0 : World) (h0 : w0.heap.size ≤ b) (hbw : Below w0.heap.size w0 w) (hr : Kd.C (Kd.int .u8) w0 A2 d.length d) (hc : d.length ≤ c2)  :
  Calls Try.prog 37 #[.pointer (some ⟨b, 0, none⟩), .agg #[.int .i64 fl, .int .i64 4, .slice A2 d.length c2]] w fun e w' => e = .returned (.tuple #[]) ∧ JB w' b o va h t vs (sp || !(decide (Go.bits .and .i64 fl 192 = 128) && decide (d.length = 4))) c s vd ∧ JKeep b w w' := by
 have hz := blk_lt hb
 have HB := Aside0.mk (show JB (w.alloc (.cells #[.int .i64 fl, .int .i64 4, .slice A2 d.length c2] 24)) b o va h t vs sp c s vd from blk_alloc hb _)
 have HK := Aside0.mk (show JKeep b w (w.alloc (.cells #[.int .i64 fl, .int .i64 4, .slice A2 d.length c2] 24)) from (JKeep.refl b w).below (below_alloc (Below.refl _ _) _))
 have HR := Aside0.mk (show ∀ W, JKeep b w W → Kd.C (Kd.int .u8) W A2 d.length d from fun W hk => Kd.C_below hr (hk.2 w0 h0 hbw))
 have HC := Aside0.mk hc
 have HZ := Aside0.mk hz
 clear hb hr hc h0 hbw
 by_cases f1 : Go.bits .and .i64 fl 192 = 128
 ·
  have f2 : (Go.bits .and .i64 fl 192 == 128) = true := by simp [f1]
  have F1 := Aside0.mk f1
  clear f1
  by_cases c4 : d.length = 4
  ·
   have l4 : ((d.length : Int) == 4) = true := by simp; omega
   have C4 := Aside0.mk c4
   clear c4
   go_enter Try.func37, Try.ntmps37
   go_wp2_with (first
    | (go_at_call 44; have hh := need_any b o va h t vs sp c s vd true (w.alloc (.cells #[.int .i64 fl, .int .i64 4, .slice A2 d.length c2] 24)) HB.out; (with_reducible refine hh.mono ?_); clear hh; rintro e w2 ⟨rfl, hq2, hk2⟩; have HB2 := Aside0.mk hq2; have HK2 := Aside0.mk (HK.out.trans hk2); clear hq2 hk2))
   refine bodyPost_end (results_none rfl _ _ _) rfl ⟨rfl, ?_, HK2.out⟩
   have hq := HB2.out
   simp only [F1.out, C4.out, decide_true, Bool.and_true] at hq ⊢
   exact hq
  ·
   have l4 : ((d.length : Int) == 4) = false := by simp; omega
   have C4 := Aside0.mk c4
   clear c4
   go_enter Try.func37, Try.ntmps37
   go_wp2_with (first
    | (go_at_call 44; have hh := need_any b o va h t vs sp c s vd false (w.alloc (.cells #[.int .i64 fl, .int .i64 4, .slice A2 d.length c2] 24)) HB.out; (with_reducible refine hh.mono ?_); clear hh; rintro e w2 ⟨rfl, hq2, hk2⟩; have HB2 := Aside0.mk hq2; have HK2 := Aside0.mk (HK.out.trans hk2); clear hq2 hk2))
   refine bodyPost_end (results_none rfl _ _ _) rfl ⟨rfl, ?_, HK2.out⟩
   have hq := HB2.out
   simp only [F1.out, decide_eq_false C4.out, decide_true, Bool.and_false] at hq ⊢
   exact hq
 ·
  have f2 : (Go.bits .and .i64 fl 192 == 128) = false := by simp [f1]
  have F1 := Aside0.mk f1
  clear f1
  go_enter Try.func37, Try.ntmps37
  go_wp2_with (first
   | (go_at_call 44; have hh := need_any b o va h t vs sp c s vd false (w.alloc (.cells #[.int .i64 fl, .int .i64 4, .slice A2 d.length c2] 24)) HB.out; (with_reducible refine hh.mono ?_); clear hh; rintro e w2 ⟨rfl, hq2, hk2⟩; have HB2 := Aside0.mk hq2; have HK2 := Aside0.mk (HK.out.trans hk2); clear hq2 hk2))
  refine bodyPost_end (results_none rfl _ _ _) rfl ⟨rfl, ?_, HK2.out⟩
  have hq := HB2.out
  simp only [decide_eq_false F1.out, Bool.false_and] at hq ⊢
  exact hq

set_option maxHeartbeats 8000000 in
set_option maxRecDepth 100000 in
theorem one_skip5 (b : Nat) (o : Int) (va : Value) (h t : Int) (vs : Value) (sp : Bool) (c s : Int) (vd : Value) (fl : Int) (A2 : Option Addr) (c2 : Nat) (d : List Int) (w : World) (hb : JB w b o va h t vs sp c s vd) (w0 : World) (h0 : w0.heap.size ≤ b) (hbw : Below w0.heap.size w0 w) (hr : Kd.C (Kd.int .u8) w0 A2 d.length d) (hc : d.length ≤ c2)  :
  Calls Try.prog 37 #[.pointer (some ⟨b, 0, none⟩), .agg #[.int .i64 fl, .int .i64 5, .slice A2 d.length c2]] w fun e w' => e = .returned (.tuple #[]) ∧ JB w' b o va h t vs sp c s vd ∧ JKeep b w w' := by
 have hz := blk_lt hb
 have HB := Aside0.mk (show JB (w.alloc (.cells #[.int .i64 fl, .int .i64 5, .slice A2 d.length c2] 24)) b o va h t vs sp c s vd from blk_alloc hb _)
 have HK := Aside0.mk (show JKeep b w (w.alloc (.cells #[.int .i64 fl, .int .i64 5, .slice A2 d.length c2] 24)) from (JKeep.refl b w).below (below_alloc (Below.refl _ _) _))
 have HR := Aside0.mk (show ∀ W, JKeep b w W → Kd.C (Kd.int .u8) W A2 d.length d from fun W hk => Kd.C_below hr (hk.2 w0 h0 hbw))
 have HC := Aside0.mk hc
 have HZ := Aside0.mk hz
 clear hb hr hc h0 hbw
 go_enter Try.func37, Try.ntmps37
 go_wp2
 exact bodyPost_end (results_none rfl _ _ _) rfl ⟨rfl, HB.out, HK.out⟩

set_option maxHeartbeats 8000000 in
set_option maxRecDepth 100000 in
theorem one_skip6 (b : Nat) (o : Int) (va : Value) (h t : Int) (vs : Value) (sp : Bool) (c s : Int) (vd : Value) (fl : Int) (A2 : Option Addr) (c2 : Nat) (d : List Int) (w : World) (hb : JB w b o va h t vs sp c s vd) (w0 : World) (h0 : w0.heap.size ≤ b) (hbw : Below w0.heap.size w0 w) (hr : Kd.C (Kd.int .u8) w0 A2 d.length d) (hc : d.length ≤ c2)  :
  Calls Try.prog 37 #[.pointer (some ⟨b, 0, none⟩), .agg #[.int .i64 fl, .int .i64 6, .slice A2 d.length c2]] w fun e w' => e = .returned (.tuple #[]) ∧ JB w' b o va h t vs sp c s vd ∧ JKeep b w w' := by
 have hz := blk_lt hb
 have HB := Aside0.mk (show JB (w.alloc (.cells #[.int .i64 fl, .int .i64 6, .slice A2 d.length c2] 24)) b o va h t vs sp c s vd from blk_alloc hb _)
 have HK := Aside0.mk (show JKeep b w (w.alloc (.cells #[.int .i64 fl, .int .i64 6, .slice A2 d.length c2] 24)) from (JKeep.refl b w).below (below_alloc (Below.refl _ _) _))
 have HR := Aside0.mk (show ∀ W, JKeep b w W → Kd.C (Kd.int .u8) W A2 d.length d from fun W hk => Kd.C_below hr (hk.2 w0 h0 hbw))
 have HC := Aside0.mk hc
 have HZ := Aside0.mk hz
 clear hb hr hc h0 hbw
 go_enter Try.func37, Try.ntmps37
 go_wp2
 exact bodyPost_end (results_none rfl _ _ _) rfl ⟨rfl, HB.out, HK.out⟩

set_option maxHeartbeats 8000000 in
set_option maxRecDepth 100000 in
theorem one_skip7 (b : Nat) (o : Int) (va : Value) (h t : Int) (vs : Value) (sp : Bool) (c s : Int) (vd : Value) (fl : Int) (A2 : Option Addr) (c2 : Nat) (d : List Int) (w : World) (hb : JB w b o va h t vs sp c s vd) (w0 : World) (h0 : w0.heap.size ≤ b) (hbw : Below w0.heap.size w0 w) (hr : Kd.C (Kd.int .u8) w0 A2 d.length d) (hc : d.length ≤ c2)  :
  Calls Try.prog 37 #[.pointer (some ⟨b, 0, none⟩), .agg #[.int .i64 fl, .int .i64 7, .slice A2 d.length c2]] w fun e w' => e = .returned (.tuple #[]) ∧ JB w' b o va h t vs sp c s vd ∧ JKeep b w w' := by
 have hz := blk_lt hb
 have HB := Aside0.mk (show JB (w.alloc (.cells #[.int .i64 fl, .int .i64 7, .slice A2 d.length c2] 24)) b o va h t vs sp c s vd from blk_alloc hb _)
 have HK := Aside0.mk (show JKeep b w (w.alloc (.cells #[.int .i64 fl, .int .i64 7, .slice A2 d.length c2] 24)) from (JKeep.refl b w).below (below_alloc (Below.refl _ _) _))
 have HR := Aside0.mk (show ∀ W, JKeep b w W → Kd.C (Kd.int .u8) W A2 d.length d from fun W hk => Kd.C_below hr (hk.2 w0 h0 hbw))
 have HC := Aside0.mk hc
 have HZ := Aside0.mk hz
 clear hb hr hc h0 hbw
 go_enter Try.func37, Try.ntmps37
 go_wp2
 exact bodyPost_end (results_none rfl _ _ _) rfl ⟨rfl, HB.out, HK.out⟩

set_option maxHeartbeats 8000000 in
set_option maxRecDepth 100000 in
theorem one_origin (b : Nat) (o : Int) (va : Value) (h t : Int) (vs : Value) (sp : Bool) (c s : Int) (vd : Value) (fl : Int) (A2 : Option Addr) (c2 : Nat) (d : List Int) (w : World) (hb : JB w b o va h t vs sp c s vd) (w0 : World) (h0 : w0.heap.size ≤ b) (hbw : Below w0.heap.size w0 w) (hr : Kd.C (Kd.int .u8) w0 A2 d.length d) (hc : d.length ≤ c2) (ho : ∀ x ∈ d, 0 ≤ x ∧ x < 256) :
  Calls Try.prog 37 #[.pointer (some ⟨b, 0, none⟩), .agg #[.int .i64 fl, .int .i64 1, .slice A2 d.length c2]] w fun e w' => e = .returned (.tuple #[]) ∧ JB w' b (if d.length = 0 then o else d.getD 0 0) va h t vs (sp || !(decide (Go.bits .and .i64 fl 192 = 64) && (decide (d.length = 1) && decide (d.getD 0 0 ≤ 2)))) c s vd ∧ JKeep b w w' := by
 have hz := blk_lt hb
 have HB := Aside0.mk (show JB (w.alloc (.cells #[.int .i64 fl, .int .i64 1, .slice A2 d.length c2] 24)) b o va h t vs sp c s vd from blk_alloc hb _)
 have HK := Aside0.mk (show JKeep b w (w.alloc (.cells #[.int .i64 fl, .int .i64 1, .slice A2 d.length c2] 24)) from (JKeep.refl b w).below (below_alloc (Below.refl _ _) _))
 have HR := Aside0.mk (show ∀ W, JKeep b w W → Kd.C (Kd.int .u8) W A2 d.length d from fun W hk => Kd.C_below hr (hk.2 w0 h0 hbw))
 have HC := Aside0.mk hc
 have HZ := Aside0.mk hz
 have HO := Aside0.mk ho
 clear hb h0 hbw ho hc
 rcases d with _ | ⟨x, tl⟩
 ·
  clear hr
  simp only [List.length_nil, if_true]
  by_cases f1 : Go.bits .and .i64 fl 192 = 64
  ·
   have f2 : (Go.bits .and .i64 fl 192 == 64) = true := by simp [f1]
   clear f1
   go_enter Try.func37, Try.ntmps37
   go_wp2_with (first
    | (go_at_call 44; have hh := need_any b o va h t vs sp c s vd false (w.alloc (.cells #[.int .i64 fl, .int .i64 1, .slice A2 0 c2] 24)) HB.out; (with_reducible refine hh.mono ?_); clear hh; rintro e w2 ⟨rfl, hq2, hk2⟩; have HB2 := Aside0.mk hq2; have HK2 := Aside0.mk (HK.out.trans hk2); clear hq2 hk2))
   refine bodyPost_end (results_none rfl _ _ _) rfl ⟨rfl, ?_, HK2.out⟩
   have hq := HB2.out
   simpa using hq
  ·
   have f2 : (Go.bits .and .i64 fl 192 == 64) = false := by simp [f1]
   clear f1
   go_enter Try.func37, Try.ntmps37
   go_wp2_with (first
    | (go_at_call 44; have hh := need_any b o va h t vs sp c s vd false (w.alloc (.cells #[.int .i64 fl, .int .i64 1, .slice A2 0 c2] 24)) HB.out; (with_reducible refine hh.mono ?_); clear hh; rintro e w2 ⟨rfl, hq2, hk2⟩; have HB2 := Aside0.mk hq2; have HK2 := Aside0.mk (HK.out.trans hk2); clear hq2 hk2))
   refine bodyPost_end (results_none rfl _ _ _) rfl ⟨rfl, ?_, HK2.out⟩
   have hq := HB2.out
   simpa using hq
 ·
  obtain ⟨n, hn⟩ : ∃ n, n = tl.length := ⟨_, rfl⟩
  obtain ⟨ad, e1, -⟩ := Kd.at_int hr (0 : Int) (by decide) (by simp)
  subst e1
  clear hr
  have HX := Aside0.mk (show ∀ W, JKeep b w W → W.cell? ad = some (.int .u8 x) from fun W hk => by
   obtain ⟨ad2, e2, x2⟩ := Kd.at_int (HR.out W hk) (0 : Int) (by decide) (by simp)
   cases e2
   simpa only [rd, Int.toNat_zero, Addr.add_zero', List.getD_cons_zero] using x2)
  have HW := Aside0.mk (show wrap64 x = x from by have h1 := HO.out x (by simp); unfold wrap64; omega)
  have hL : (x :: tl).length = n + 1 := by simp [hn]
  have hB2 := HB.out
  have hK2 := HK.out
  rw [hL] at hB2 hK2
  have HBn := Aside0.mk hB2
  have HKn := Aside0.mk hK2
  have xc := HX.out _ HKn.out
  clear hB2 hK2
  rw [hL]
  simp only [List.getD_cons_zero]
  rw [if_neg (by omega)]
  have lp : decide ((0 : Int) < ((n + 1 : Nat) : Int)) = true := decide_eq_true (by omega)
  have lq : decide (0 < n + 1) = true := decide_eq_true (by omega)
  have HN := Aside0.mk hn
  have nn : (0 : Int) ≤ (n : Int) := by omega
  clear hn hL
  by_cases f1 : Go.bits .and .i64 fl 192 = 64
  ·
   have f2 : (Go.bits .and .i64 fl 192 == 64) = true := by simp [f1]
   have F1 := Aside0.mk f1
   clear f1
   by_cases c1 : n = 0
   ·
    subst c1
    have hB3 := HBn.out
    have hK3 := HKn.out
    simp only [Nat.zero_add] at hB3 hK3
    have HBm := Aside0.mk hB3
    have HKm := Aside0.mk hK3
    have xd := HX.out _ HKm.out
    clear hB3 hK3 nn lp lq
    simp only [Nat.zero_add]
    by_cases c3 : x ≤ 2
    ·
     have l3 : decide (x ≤ 2) = true := decide_eq_true c3
     have C3 := Aside0.mk c3
     clear c3
     go_enter Try.func37, Try.ntmps37
     go_wp2_with (first
      | (go_at_call 44; have hh := need_any b o va h t vs sp c s vd true (w.alloc (.cells #[.int .i64 fl, .int .i64 1, .slice (some ad) 1 c2] 24)) HBm.out; (with_reducible refine hh.mono ?_); clear hh; rintro e w2 ⟨rfl, hq2, hk2⟩; have HB2 := Aside0.mk hq2; have HK2 := Aside0.mk (HKm.out.trans hk2); have xb := HX.out _ HK2.out; have z0 : w2.cell? ⟨b, 0, none⟩ = some (.int .i64 o) := (blk_cell hq2 0).trans rfl; have g0 := blk_frozen hq2 0; clear hq2 hk2))
     refine bodyPost_end (results_none rfl _ _ _) rfl ⟨rfl, ?_, HK2.out.set _⟩
     exact blk_put HB2.out 0 _ (by simp [F1.out, C3.out, HW.out])
    ·
     have l3 : decide (x ≤ 2) = false := decide_eq_false c3
     have C3 := Aside0.mk c3
     clear c3
     go_enter Try.func37, Try.ntmps37
     go_wp2_with (first
      | (go_at_call 44; have hh := need_any b o va h t vs sp c s vd false (w.alloc (.cells #[.int .i64 fl, .int .i64 1, .slice (some ad) 1 c2] 24)) HBm.out; (with_reducible refine hh.mono ?_); clear hh; rintro e w2 ⟨rfl, hq2, hk2⟩; have HB2 := Aside0.mk hq2; have HK2 := Aside0.mk (HKm.out.trans hk2); have xb := HX.out _ HK2.out; have z0 : w2.cell? ⟨b, 0, none⟩ = some (.int .i64 o) := (blk_cell hq2 0).trans rfl; have g0 := blk_frozen hq2 0; clear hq2 hk2))
     refine bodyPost_end (results_none rfl _ _ _) rfl ⟨rfl, ?_, HK2.out.set _⟩
     exact blk_put HB2.out 0 _ (by have h3 := C3.out; simp [F1.out, HW.out]; omega)
   ·
    have l1 : (((n + 1 : Nat) : Int) == 1) = false := by simp; omega
    have l2 : ((n : Int) + 1 == 1) = false := by simp; omega
    have C1 := Aside0.mk c1
    clear c1
    go_enter Try.func37, Try.ntmps37
    go_wp2_with (first
     | (go_at_call 44; have hh := need_any b o va h t vs sp c s vd false (w.alloc (.cells #[.int .i64 fl, .int .i64 1, .slice (some ad) (n + 1) c2] 24)) HBn.out; (with_reducible refine hh.mono ?_); clear hh; rintro e w2 ⟨rfl, hq2, hk2⟩; have HB2 := Aside0.mk hq2; have HK2 := Aside0.mk (HKn.out.trans hk2); have xb := HX.out _ HK2.out; have z0 : w2.cell? ⟨b, 0, none⟩ = some (.int .i64 o) := (blk_cell hq2 0).trans rfl; have g0 := blk_frozen hq2 0; clear hq2 hk2))
    refine bodyPost_end (results_none rfl _ _ _) rfl ⟨rfl, ?_, HK2.out.set _⟩
    exact blk_put HB2.out 0 _ (by simp [C1.out, HW.out])
  ·
   have f2 : (Go.bits .and .i64 fl 192 == 64) = false := by simp [f1]
   have F1 := Aside0.mk f1
   clear f1
   go_enter Try.func37, Try.ntmps37
   go_wp2_with (first
    | (go_at_call 44; have hh := need_any b o va h t vs sp c s vd false (w.alloc (.cells #[.int .i64 fl, .int .i64 1, .slice (some ad) (n + 1) c2] 24)) HBn.out; (with_reducible refine hh.mono ?_); clear hh; rintro e w2 ⟨rfl, hq2, hk2⟩; have HB2 := Aside0.mk hq2; have HK2 := Aside0.mk (HKn.out.trans hk2); have xb := HX.out _ HK2.out; have z0 : w2.cell? ⟨b, 0, none⟩ = some (.int .i64 o) := (blk_cell hq2 0).trans rfl; have g0 := blk_frozen hq2 0; clear hq2 hk2))
   refine bodyPost_end (results_none rfl _ _ _) rfl ⟨rfl, ?_, HK2.out.set _⟩
   exact blk_put HB2.out 0 _ (by simp [F1.out, HW.out])

set_option maxHeartbeats 8000000 in
set_option maxRecDepth 100000 in
theorem one_ases (b : Nat) (o : Int) (va : Value) (h t : Int) (vs : Value) (sp : Bool) (c s : Int) (vd : Value) (fl : Int) (A2 : Option Addr) (c2 : Nat) (d : List Int) (w : World) (hb : JB w b o va h t vs sp c s vd) (w0 : World) (h0 : w0.heap.size ≤ b) (hbw : Below w0.heap.size w0 w) (hr : Kd.C (Kd.int .u8) w0 A2 d.length d) (hc : d.length ≤ c2) (k : Nat) (r1 : List Int) (r2 : Bool) (hv : ridgewayref07_ases.f k d = some (r1, r2)) :
  Calls Try.prog 37 #[.pointer (some ⟨b, 0, none⟩), .agg #[.int .i64 fl, .int .i64 2, .slice A2 d.length c2]] w fun e w' => e = .returned (.tuple #[]) ∧ (∃ v6, JB w' b o v6 h t vs (sp || !(decide (Go.bits .and .i64 fl 192 = 64) && r2)) c s vd ∧ Kd.V (Kd.int .i64) 3 w' 0 (fun k => w.heap.size ≤ k) v6 r1) ∧ JKeep b w w' := by
 have hz := blk_lt hb
 have HB := Aside0.mk (show JB (w.alloc (.cells #[.int .i64 fl, .int .i64 2, .slice A2 d.length c2] 24)) b o va h t vs sp c s vd from blk_alloc hb _)
 have HK := Aside0.mk (show JKeep b w (w.alloc (.cells #[.int .i64 fl, .int .i64 2, .slice A2 d.length c2] 24)) from (JKeep.refl b w).below (below_alloc (Below.refl _ _) _))
 have HR := Aside0.mk (show ∀ W, JKeep b w W → Kd.C (Kd.int .u8) W A2 d.length d from fun W hk => Kd.C_below hr (hk.2 w0 h0 hbw))
 have HC := Aside0.mk hc
 have HZ := Aside0.mk hz
 have HV := Aside0.mk hv
 have HVV := Aside0.mk (show Kd.V (Kd.int .u8) 5 (w.alloc (.cells #[.int .i64 fl, .int .i64 2, .slice A2 d.length c2] 24)) (w.alloc (.cells #[.int .i64 fl, .int .i64 2, .slice A2 d.length c2] 24)).heap.size (fun k_ => k_ < (w.alloc (.cells #[.int .i64 fl, .int .i64 2, .slice A2 d.length c2] 24)).heap.size) (.slice A2 d.length c2) d from ⟨A2, c2, rfl, hc, Kd.C_F (Kd.heap_int .u8) (HR.out _ HK.out)⟩)
 clear hb hr hc hv h0 hbw
 by_cases f1 : Go.bits .and .i64 fl 192 = 64
 ·
  have f2 : (Go.bits .and .i64 fl 192 == 64) = true := by simp [f1]
  have F1 := Aside0.mk f1
  clear f1
  go_enter Try.func37, Try.ntmps37
  go_wp2_with (first
   | (go_at_call 45; have hh := ridgewayref07_ases.calls k (fun k_ => k_ < (w.alloc (.cells #[.int .i64 fl, .int .i64 2, .slice A2 d.length c2] 24)).heap.size) A2 c2 d r1 r2 (w.alloc (.cells #[.int .i64 fl, .int .i64 2, .slice A2 d.length c2] 24)) HVV.out HV.out; (with_reducible refine hh.mono ?_); clear hh; rintro e w1 ⟨v6, rfl, hR6, hb1⟩; obtain ⟨A6, c6, rfl⟩ := Kd.V_slice (Kd.R_V (base' := 0) hR6); have HR6 := Aside0.mk (show Kd.V (Kd.int .i64) 3 w1 0 (fun k => w.heap.size ≤ k) (.slice A6 r1.length c6) r1 from Kd.V_mono (Kd.R_V hR6) (fun k hk => by rw [World.size_alloc] at hk; omega)); have HB1 := Aside0.mk (show JB w1 b o va h t vs sp c s vd from blk_below HB.out hb1); have HK1 := Aside0.mk (HK.out.below hb1); clear hR6 hb1)
   | (go_at_call 44; have hh := need_any b o va h t vs sp c s vd r2 w1 HB1.out; (with_reducible refine hh.mono ?_); clear hh; rintro e w2 ⟨rfl, hq2, hk2⟩; have HB2 := Aside0.mk hq2; have HK2 := Aside0.mk (HK1.out.trans hk2); have HR7 := Aside0.mk (Kd.V_keep HR6.out hk2.1 (fun k hk => by have := HZ.out; omega)); have z1 : w2.cell? ⟨b, 1, none⟩ = some va := (blk_cell hq2 1).trans rfl; have g1 := blk_frozen hq2 1; clear hq2 hk2))
  refine bodyPost_end (results_none rfl _ _ _) rfl ⟨rfl, ⟨_, ?_, Kd.V_far (p := ⟨b, 1, none⟩) HR7.out (fun k hk => by have := HZ.out; show k ≠ b; omega) _⟩, HK2.out.set _⟩
  exact blk_put HB2.out 1 _ (by simp [F1.out])
 ·
  have f2 : (Go.bits .and .i64 fl 192 == 64) = false := by simp [f1]
  have F1 := Aside0.mk f1
  clear f1
  go_enter Try.func37, Try.ntmps37
  go_wp2_with (first
   | (go_at_call 45; have hh := ridgewayref07_ases.calls k (fun k_ => k_ < (w.alloc (.cells #[.int .i64 fl, .int .i64 2, .slice A2 d.length c2] 24)).heap.size) A2 c2 d r1 r2 (w.alloc (.cells #[.int .i64 fl, .int .i64 2, .slice A2 d.length c2] 24)) HVV.out HV.out; (with_reducible refine hh.mono ?_); clear hh; rintro e w1 ⟨v6, rfl, hR6, hb1⟩; obtain ⟨A6, c6, rfl⟩ := Kd.V_slice (Kd.R_V (base' := 0) hR6); have HR6 := Aside0.mk (show Kd.V (Kd.int .i64) 3 w1 0 (fun k => w.heap.size ≤ k) (.slice A6 r1.length c6) r1 from Kd.V_mono (Kd.R_V hR6) (fun k hk => by rw [World.size_alloc] at hk; omega)); have HB1 := Aside0.mk (show JB w1 b o va h t vs sp c s vd from blk_below HB.out hb1); have HK1 := Aside0.mk (HK.out.below hb1); clear hR6 hb1)
   | (go_at_call 44; have hh := need_any b o va h t vs sp c s vd false w1 HB1.out; (with_reducible refine hh.mono ?_); clear hh; rintro e w2 ⟨rfl, hq2, hk2⟩; have HB2 := Aside0.mk hq2; have HK2 := Aside0.mk (HK1.out.trans hk2); have HR7 := Aside0.mk (Kd.V_keep HR6.out hk2.1 (fun k hk => by have := HZ.out; omega)); have z1 : w2.cell? ⟨b, 1, none⟩ = some va := (blk_cell hq2 1).trans rfl; have g1 := blk_frozen hq2 1; clear hq2 hk2))
  refine bodyPost_end (results_none rfl _ _ _) rfl ⟨rfl, ⟨_, ?_, Kd.V_far (p := ⟨b, 1, none⟩) HR7.out (fun k hk => by have := HZ.out; show k ≠ b; omega) _⟩, HK2.out.set _⟩
  exact blk_put HB2.out 1 _ (by simp [F1.out])

set_option maxHeartbeats 8000000 in
set_option maxRecDepth 100000 in
theorem one_pass (b : Nat) (o : Int) (va : Value) (h t : Int) (vs : Value) (sp : Bool) (c s : Int) (vd : Value) (fl : Int) (A2 : Option Addr) (c2 : Nat) (d : List Int) (w : World) (hb : JB w b o va h t vs sp c s vd) (w0 : World) (h0 : w0.heap.size ≤ b) (hbw : Below w0.heap.size w0 w) (hr : Kd.C (Kd.int .u8) w0 A2 d.length d) (hc : d.length ≤ c2) (ty : Int) (e1 : ty ≠ 1) (e2 : ty ≠ 2) (e3 : ty ≠ 3) (e4 : ty ≠ 4) (e35 : ty ≠ 35) (e5 : ty ≠ 5) (e6 : ty ≠ 6) (e7 : ty ≠ 7) (hp : ¬ (Go.bits .and .i64 fl 128 = 0 ∧ c = 0)) :
  Calls Try.prog 37 #[.pointer (some ⟨b, 0, none⟩), .agg #[.int .i64 fl, .int .i64 ty, .slice A2 d.length c2]] w fun e w' => e = .returned (.tuple #[]) ∧ JB w' b o va h t vs sp c s vd ∧ JKeep b w w' := by
 have hz := blk_lt hb
 have HB := Aside0.mk (show JB (w.alloc (.cells #[.int .i64 fl, .int .i64 ty, .slice A2 d.length c2] 24)) b o va h t vs sp c s vd from blk_alloc hb _)
 have HK := Aside0.mk (show JKeep b w (w.alloc (.cells #[.int .i64 fl, .int .i64 ty, .slice A2 d.length c2] 24)) from (JKeep.refl b w).below (below_alloc (Below.refl _ _) _))
 have HR := Aside0.mk (show ∀ W, JKeep b w W → Kd.C (Kd.int .u8) W A2 d.length d from fun W hk => Kd.C_below hr (hk.2 w0 h0 hbw))
 have HC := Aside0.mk hc
 have HZ := Aside0.mk hz
 have q1 : (ty == 1) = false := by simp [e1]
 have q2 : (ty == 2) = false := by simp [e2]
 have q3 : (ty == 3) = false := by simp [e3]
 have q4 : (ty == 4) = false := by simp [e4]
 have q35 : (ty == 35) = false := by simp [e35]
 have q5 : (ty == 5) = false := by simp [e5]
 have q6 : (ty == 6) = false := by simp [e6]
 have q7 : (ty == 7) = false := by simp [e7]
 clear hb hr hc h0 hbw e1 e2 e3 e4 e35 e5 e6 e7
 have y6 : (w.alloc (.cells #[.int .i64 fl, .int .i64 ty, .slice A2 d.length c2] 24)).cell? ⟨b, 6, none⟩ = some (.int .i64 c) := (blk_cell HB.out 6).trans rfl
 by_cases f1 : Go.bits .and .i64 fl 128 = 0
 ·
  have f2 : (Go.bits .and .i64 fl 128 == 0) = true := by simp [f1]
  have f3 : (c == 0) = false := by simpa using fun h => hp ⟨f1, h⟩
  clear f1 hp
  go_enter Try.func37, Try.ntmps37
  go_wp2
  exact bodyPost_end (results_none rfl _ _ _) rfl ⟨rfl, HB.out, HK.out⟩
 ·
  have f2 : (Go.bits .and .i64 fl 128 == 0) = false := by simp [f1]
  clear f1 hp
  go_enter Try.func37, Try.ntmps37
  go_wp2
  exact bodyPost_end (results_none rfl _ _ _) rfl ⟨rfl, HB.out, HK.out⟩

set_option maxHeartbeats 8000000 in
set_option maxRecDepth 100000 in
theorem one_fatal (b : Nat) (o : Int) (va : Value) (h t : Int) (vs : Value) (sp : Bool) (c s : Int) (vd : Value) (fl : Int) (A2 : Option Addr) (c2 : Nat) (d : List Int) (w : World) (hb : JB w b o va h t vs sp c s vd) (w0 : World) (h0 : w0.heap.size ≤ b) (hbw : Below w0.heap.size w0 w) (hr : Kd.C (Kd.int .u8) w0 A2 d.length d) (hc : d.length ≤ c2) (ty : Int) (e1 : ty ≠ 1) (e2 : ty ≠ 2) (e3 : ty ≠ 3) (e4 : ty ≠ 4) (e35 : ty ≠ 35) (e5 : ty ≠ 5) (e6 : ty ≠ 6) (e7 : ty ≠ 7) (f1 : Go.bits .and .i64 fl 128 = 0) (hc0 : c = 0) (r : List Int) (hv : ridgewayref07_Put.f [] fl ty d = some r) :
  Calls Try.prog 37 #[.pointer (some ⟨b, 0, none⟩), .agg #[.int .i64 fl, .int .i64 ty, .slice A2 d.length c2]] w fun e w' => e = .returned (.tuple #[]) ∧ (∃ v7, JB w' b o va h t vs sp 3 2 v7 ∧ Kd.V (Kd.int .u8) 5 w' 0 (fun k => w.heap.size ≤ k) v7 r) ∧ JKeep b w w' := by
 have hz := blk_lt hb
 have HB := Aside0.mk (show JB (w.alloc (.cells #[.int .i64 fl, .int .i64 ty, .slice A2 d.length c2] 24)) b o va h t vs sp c s vd from blk_alloc hb _)
 have HK := Aside0.mk (show JKeep b w (w.alloc (.cells #[.int .i64 fl, .int .i64 ty, .slice A2 d.length c2] 24)) from (JKeep.refl b w).below (below_alloc (Below.refl _ _) _))
 have HR := Aside0.mk (show ∀ W, JKeep b w W → Kd.C (Kd.int .u8) W A2 d.length d from fun W hk => Kd.C_below hr (hk.2 w0 h0 hbw))
 have HC := Aside0.mk hc
 have HZ := Aside0.mk hz
 subst hc0
 have f2 : (Go.bits .and .i64 fl 128 == 0) = true := by simp [f1]
 have HV := Aside0.mk hv
 have q1 : (ty == 1) = false := by simp [e1]
 have q2 : (ty == 2) = false := by simp [e2]
 have q3 : (ty == 3) = false := by simp [e3]
 have q4 : (ty == 4) = false := by simp [e4]
 have q35 : (ty == 35) = false := by simp [e35]
 have q5 : (ty == 5) = false := by simp [e5]
 have q6 : (ty == 6) = false := by simp [e6]
 have q7 : (ty == 7) = false := by simp [e7]
 clear hb hr hc h0 hbw e1 e2 e3 e4 e35 e5 e6 e7 f1 hv
 have y6 : (w.alloc (.cells #[.int .i64 fl, .int .i64 ty, .slice A2 d.length c2] 24)).cell? ⟨b, 6, none⟩ = some (.int .i64 0) := (blk_cell HB.out 6).trans rfl
 go_enter Try.func37, Try.ntmps37
 go_wp2_with (first
  | (go_at_call 17; have hh := ridgewayref07_Put.calls none 0 [] fl ty A2 c2 d r (w.alloc (.cells #[.int .i64 fl, .int .i64 ty, .slice A2 d.length c2] 24)) (Kd.C_nil _ _) (Nat.le_refl _) (HR.out _ HK.out) HC.out HV.out; (try simp only [List.length_nil] at hh); (with_reducible refine hh.mono ?_); clear hh; rintro e w1 ⟨v7, rfl, hR7, hb1⟩; obtain ⟨A7, c7, rfl⟩ := Kd.V_slice (Kd.R_V (base' := 0) hR7); have HR7 := Aside0.mk (show Kd.V (Kd.int .u8) 5 w1 0 (fun k => w.heap.size ≤ k) (.slice A7 r.length c7) r from Kd.V_mono (Kd.R_V (Kd.R_mono (Kd.R_bound hR7) (fun _ hk => hk.2.1))) (fun k hk => by rw [World.size_alloc] at hk; omega)); have hq1 : JB w1 b o va h t vs sp 0 s vd := blk_below HB.out hb1; have HB1 := Aside0.mk hq1; have HK1 := Aside0.mk (HK.out.below hb1); have z6 : w1.cell? ⟨b, 6, none⟩ = some (.int .i64 0) := (blk_cell hq1 6).trans rfl; have z7 : w1.cell? ⟨b, 7, none⟩ = some (.int .i64 s) := (blk_cell hq1 7).trans rfl; have z8 : w1.cell? ⟨b, 8, none⟩ = some vd := (blk_cell hq1 8).trans rfl; have g6 := blk_frozen hq1 6; have g7 := blk_frozen hq1 7; have g8 := blk_frozen hq1 8; clear hR7 hb1 hq1))
 refine bodyPost_end (results_none rfl _ _ _) rfl ⟨rfl, ⟨_, blk_put (blk_put (blk_put HB1.out 6 _ rfl) 7 _ rfl) 8 _ rfl, ?_⟩, ((HK1.out.set _).set _).set _⟩
 exact Kd.V_far (p := ⟨b, 8, none⟩) (Kd.V_far (p := ⟨b, 7, none⟩) (Kd.V_far (p := ⟨b, 6, none⟩) HR7.out (fun k hk => by have := HZ.out; show k ≠ b; omega) _) (fun k hk => by have := HZ.out; show k ≠ b; omega) _) (fun k hk => by have := HZ.out; show k ≠ b; omega) _
abbrev NtR := Int × Int × List Int
/-- One attribute, as the reference takes it. -/
def roneF (K : Nat) (fl ty : Int) (d : List Int) (p : Int × List Int × Int × Int) (sp : Bool) (n : NtR) : Option ((Int × List Int × Int × Int) × Bool × NtR) :=
 if ty = 1 then some ((if d.length = 0 then p.1 else d.getD 0 0, p.2), (sp || !(decide (Go.bits .and .i64 fl 192 = 64) && (decide (d.length = 1) && decide (d.getD 0 0 ≤ 2)))), n)
 else if ty = 2 then (ridgewayref07_ases.f K d).bind fun q => some ((p.1, q.1, p.2.2), (sp || !(decide (Go.bits .and .i64 fl 192 = 64) && q.2)), n)
 else if ty = 3 then (ridgewayref07_four.f K d).bind fun v => some ((p.1, p.2.1, v, p.2.2.2), (sp || !(decide (Go.bits .and .i64 fl 192 = 64) && decide (0 < v))), n)
 else if ty = 4 then some (p, (sp || !(decide (Go.bits .and .i64 fl 192 = 128) && decide (d.length = 4))), n)
 else if ty = 35 then (ridgewayref07_four.f K d).bind fun v => some ((p.1, p.2.1, p.2.2.1, v), (sp || !(decide (Go.bits .and .i64 fl 192 = 192) && decide (0 < v))), n)
 else if ty = 5 ∨ ty = 6 ∨ ty = 7 then some (p, sp, n)
 else if Go.bits .and .i64 fl 128 = 0 ∧ n.1 = 0 then (ridgewayref07_Put.f [] fl ty d).bind fun r => some (p, sp, (3, 2, r))
 else some (p, sp, n)
/-- What a call of one leaves. -/
def OnePost (b : Nat) (p p' : Int × List Int × Int × Int) (va vs : Value) (sp' : Bool) (n n' : NtR) (vd : Value) (w : World) (e : Ending) (w' : World) : Prop :=
 e = .returned (.tuple #[]) ∧ ∃ va' vd', JB w' b p'.1 va' p'.2.2.1 p'.2.2.2 vs sp' n'.1 n'.2.1 vd' ∧ JKeep b w w' ∧
  ((va' = va ∧ p'.2.1 = p.2.1) ∨ Kd.V (Kd.int .i64) 3 w' 0 (fun k => w.heap.size ≤ k) va' p'.2.1) ∧ ((vd' = vd ∧ n'.2.2 = n.2.2) ∨ Kd.V (Kd.int .u8) 5 w' 0 (fun k => w.heap.size ≤ k) vd' n'.2.2)
theorem one_all (K : Nat) (b : Nat) (p p' : Int × List Int × Int × Int) (va vs vd : Value) (sp sp' : Bool) (n n' : NtR) (fl ty : Int) (A2 : Option Addr) (c2 : Nat) (d : List Int) (w w0 : World) (hb : JB w b p.1 va p.2.2.1 p.2.2.2 vs sp n.1 n.2.1 vd) (h0 : w0.heap.size ≤ b) (hbw : Below w0.heap.size w0 w) (hr : Kd.C (Kd.int .u8) w0 A2 d.length d) (hc : d.length ≤ c2) (ho : ∀ x ∈ d, 0 ≤ x ∧ x < 256) (hf : roneF K fl ty d p sp n = some (p', sp', n')) :
  Calls Try.prog 37 #[.pointer (some ⟨b, 0, none⟩), .agg #[.int .i64 fl, .int .i64 ty, .slice A2 d.length c2]] w (OnePost b p p' va vs sp' n n' vd w) := by
 unfold roneF at hf
 by_cases t1 : ty = 1
 ·
  subst t1
  rw [if_pos rfl] at hf
  cases hf
  refine (one_origin b p.1 va p.2.2.1 p.2.2.2 vs sp n.1 n.2.1 vd fl A2 c2 d w hb w0 h0 hbw hr hc ho).mono ?_
  rintro e w' ⟨rfl, h1, h2⟩
  exact ⟨rfl, va, vd, h1, h2, .inl ⟨rfl, rfl⟩, .inl ⟨rfl, rfl⟩⟩
 rw [if_neg t1] at hf
 by_cases t2 : ty = 2
 ·
  subst t2
  rw [if_pos rfl] at hf
  obtain ⟨q, hq, hf⟩ := Option.bind_eq_some_iff.mp hf
  cases hf
  refine (one_ases b p.1 va p.2.2.1 p.2.2.2 vs sp n.1 n.2.1 vd fl A2 c2 d w hb w0 h0 hbw hr hc K q.1 q.2 hq).mono ?_
  rintro e w' ⟨rfl, ⟨v6, h1, h3⟩, h2⟩
  exact ⟨rfl, v6, vd, h1, h2, .inr h3, .inl ⟨rfl, rfl⟩⟩
 rw [if_neg t2] at hf
 by_cases t3 : ty = 3
 ·
  subst t3
  rw [if_pos rfl] at hf
  obtain ⟨v, hq, hf⟩ := Option.bind_eq_some_iff.mp hf
  cases hf
  refine (one_hop b p.1 va p.2.2.1 p.2.2.2 vs sp n.1 n.2.1 vd fl A2 c2 d w hb w0 h0 hbw hr hc K v hq).mono ?_
  rintro e w' ⟨rfl, h1, h2⟩
  exact ⟨rfl, va, vd, h1, h2, .inl ⟨rfl, rfl⟩, .inl ⟨rfl, rfl⟩⟩
 rw [if_neg t3] at hf
 by_cases t4 : ty = 4
 ·
  subst t4
  rw [if_pos rfl] at hf
  cases hf
  refine (one_med b p.1 va p.2.2.1 p.2.2.2 vs sp n.1 n.2.1 vd fl A2 c2 d w hb w0 h0 hbw hr hc).mono ?_
  rintro e w' ⟨rfl, h1, h2⟩
  exact ⟨rfl, va, vd, h1, h2, .inl ⟨rfl, rfl⟩, .inl ⟨rfl, rfl⟩⟩
 rw [if_neg t4] at hf
 by_cases t35 : ty = 35
 ·
  subst t35
  rw [if_pos rfl] at hf
  obtain ⟨v, hq, hf⟩ := Option.bind_eq_some_iff.mp hf
  cases hf
  refine (one_otc b p.1 va p.2.2.1 p.2.2.2 vs sp n.1 n.2.1 vd fl A2 c2 d w hb w0 h0 hbw hr hc K v hq).mono ?_
  rintro e w' ⟨rfl, h1, h2⟩
  exact ⟨rfl, va, vd, h1, h2, .inl ⟨rfl, rfl⟩, .inl ⟨rfl, rfl⟩⟩
 rw [if_neg t35] at hf
 by_cases t5 : ty = 5 ∨ ty = 6 ∨ ty = 7
 ·
  rw [if_pos t5] at hf
  cases hf
  have hh : Calls Try.prog 37 #[.pointer (some ⟨b, 0, none⟩), .agg #[.int .i64 fl, .int .i64 ty, .slice A2 d.length c2]] w fun e w' => e = .returned (.tuple #[]) ∧ JB w' b p.1 va p.2.2.1 p.2.2.2 vs sp n.1 n.2.1 vd ∧ JKeep b w w' := by
   rcases t5 with rfl | rfl | rfl
   ·
    exact one_skip5 b p.1 va p.2.2.1 p.2.2.2 vs sp n.1 n.2.1 vd fl A2 c2 d w hb w0 h0 hbw hr hc
   ·
    exact one_skip6 b p.1 va p.2.2.1 p.2.2.2 vs sp n.1 n.2.1 vd fl A2 c2 d w hb w0 h0 hbw hr hc
   ·
    exact one_skip7 b p.1 va p.2.2.1 p.2.2.2 vs sp n.1 n.2.1 vd fl A2 c2 d w hb w0 h0 hbw hr hc
  refine hh.mono ?_
  rintro e w' ⟨rfl, h1, h2⟩
  exact ⟨rfl, va, vd, h1, h2, .inl ⟨rfl, rfl⟩, .inl ⟨rfl, rfl⟩⟩
 rw [if_neg t5] at hf
 simp only [not_or] at t5
 by_cases fb : Go.bits .and .i64 fl 128 = 0 ∧ n.1 = 0
 ·
  rw [if_pos fb] at hf
  obtain ⟨r, hq, hf⟩ := Option.bind_eq_some_iff.mp hf
  cases hf
  refine (one_fatal b p.1 va p.2.2.1 p.2.2.2 vs sp n.1 n.2.1 vd fl A2 c2 d w hb w0 h0 hbw hr hc ty t1 t2 t3 t4 t35 t5.1 t5.2.1 t5.2.2 fb.1 fb.2 r hq).mono ?_
  rintro e w' ⟨rfl, ⟨v7, h1, h3⟩, h2⟩
  exact ⟨rfl, va, v7, h1, h2, .inl ⟨rfl, rfl⟩, .inr h3⟩
 ·
  rw [if_neg fb] at hf
  cases hf
  refine (one_pass b p.1 va p.2.2.1 p.2.2.2 vs sp n.1 n.2.1 vd fl A2 c2 d w hb w0 h0 hbw hr hc ty t1 t2 t3 t4 t35 t5.1 t5.2.1 t5.2.2 fb).mono ?_
  rintro e w' ⟨rfl, h1, h2⟩
  exact ⟨rfl, va, vd, h1, h2, .inl ⟨rfl, rfl⟩, .inl ⟨rfl, rfl⟩⟩

abbrev PthR := Int × List Int × Int × Int
abbrev RJR := Int × List Int × Int × Int × Int × Int × Int × List Int
def RjPost (w : World) (R : RJR) (e : Ending) (w' : World) : Prop :=
 ∃ v1 v7 : Value, e = .returned (.tuple #[.agg #[.int .i64 R.1, v1, .int .i64 R.2.2.1, .int .i64 R.2.2.2.1], .int .i64 R.2.2.2.2.1, .agg #[.int .i64 R.2.2.2.2.2.1, .int .i64 R.2.2.2.2.2.2.1, v7]]) ∧
  Kd.V (Kd.int .i64) 3 w' w.heap.size (fun k_ => w.heap.size ≤ k_) v1 R.2.1 ∧ Kd.V (Kd.int .u8) 5 w' w.heap.size (fun k_ => w.heap.size ≤ k_) v7 R.2.2.2.2.2.2.2 ∧ Below w.heap.size w w'
/-- The reference's answer. -/
def rjEnd (R : PthR × List Int × Bool × NtR) : RJR := if R.2.2.2.1 ≠ 0 then (0, [], 0, 0, 2, R.2.2.2.1, R.2.2.2.2.1, R.2.2.2.2.2) else if R.2.2.1 = true ∨ 1 ∉ R.2.1 ∨ 2 ∉ R.2.1 ∨ 3 ∉ R.2.1 then (0, [], 0, 0, 1, 0, 0, []) else (R.1.1, R.1.2.1, R.1.2.2.1, R.1.2.2.2, 0, 0, 0, [])
def RPost (w : World) (R : PthR × List Int × Bool × NtR) (e : Ending) (w' : World) : Prop := RjPost w (rjEnd R) e w'
theorem rj_puts {w W : World} {a b c d e f g : Value} (hb : Below w.heap.size w W) (h0 : W.heap[w.heap.size]? = some (.cells #[a, b, c, d] 27 (0, 0))) (h1 : W.heap[w.heap.size + 1]? = some (.cells #[e, f, g] 41 (0, 0))) (o va h_ t_ cc ss v7 : Value) {W' : World}
  (hW : W' = ((((((W.setCell ⟨w.heap.size, 0, none⟩ o).setCell ⟨w.heap.size, 1, none⟩ va).setCell ⟨w.heap.size, 2, none⟩ h_).setCell ⟨w.heap.size, 3, none⟩ t_).setCell ⟨w.heap.size + 1, 0, none⟩ cc).setCell ⟨w.heap.size + 1, 1, none⟩ ss).setCell ⟨w.heap.size + 1, 2, none⟩ v7) :
  W'.heap[w.heap.size]? = some (.cells #[o, va, h_, t_] 27 (0, 0)) ∧ W'.heap[w.heap.size + 1]? = some (.cells #[cc, ss, v7] 41 (0, 0)) ∧ (∀ k, k ≠ w.heap.size → k ≠ w.heap.size + 1 → W'.heap[k]? = W.heap[k]?) ∧ Below w.heap.size w W' := by
 subst hW
 have hs : ∀ (W : World) (k j : Nat) (i : Nat) (v : Value), i ≠ k → (W.setCell ⟨k, j, none⟩ v).heap[i]? = W.heap[i]? := fun W k j i v h => Below.heap_setCell W ⟨k, j, none⟩ v i h
 refine ⟨?_, ?_, fun k k1 k2 => ?_, ?_⟩
 ·
  rw [hs _ _ _ _ _ (by omega), hs _ _ _ _ _ (by omega), hs _ _ _ _ _ (by omega)]
  exact blk_put (blk_put (blk_put (blk_put h0 0 _ rfl) 1 _ rfl) 2 _ rfl) 3 _ rfl
 ·
  refine blk_put (blk_put (blk_put (cs := #[e, f, g]) ?_ 0 _ rfl) 1 _ rfl) 2 _ rfl
  rw [hs _ _ _ _ _ (by omega), hs _ _ _ _ _ (by omega), hs _ _ _ _ _ (by omega), hs _ _ _ _ _ (by omega)]
  exact h1
 ·
  rw [hs _ _ _ _ _ (by omega), hs _ _ _ _ _ (by omega), hs _ _ _ _ _ (by omega), hs _ _ _ _ _ (by omega), hs _ _ _ _ _ (by omega), hs _ _ _ _ _ (by omega), hs _ _ _ _ _ (by omega)]
 ·
  exact set_below _ (set_below _ (set_below _ (set_below _ (set_below _ (set_below _ (set_below _ hb (by omega)) (by omega)) (by omega)) (by omega)) (by omega)) (by omega)) (by omega)
theorem rj_end {w W : World} {tmps : Array Value} {A A7 : Option Addr} {n c n7 c7 : Nat} {o h_ t_ v_ cc ss : Int} {as_ dd : List Int}
  (p1 : W.heap[w.heap.size]? = some (.cells #[.int .i64 o, .slice A n c, .int .i64 h_, .int .i64 t_] 27 (0, 0))) (p2 : W.heap[w.heap.size + 1]? = some (.cells #[.int .i64 cc, .int .i64 ss, .slice A7 n7 c7] 41 (0, 0)))
  (t2 : tmps[2]?.getD undef = .pointer (some ⟨w.heap.size, 0, none⟩)) (t3 : tmps[3]?.getD undef = .int .i64 v_) (t4 : tmps[4]?.getD undef = .pointer (some ⟨w.heap.size + 1, 0, none⟩))
  (hv : Kd.V (Kd.int .i64) 3 W w.heap.size (fun k_ => w.heap.size ≤ k_) (.slice A n c) as_) (hv7 : Kd.V (Kd.int .u8) 5 W w.heap.size (fun k_ => w.heap.size ≤ k_) (.slice A7 n7 c7) dd) (hb : Below w.heap.size w W) :
  bodyPost Try.prog Try.f24 (RjPost w (o, as_, h_, t_, v_, cc, ss, dd)) Exit.ret { tmps := tmps, defers := [] } W := by
 have x0 : W.cell? ⟨w.heap.size, 0, none⟩ = some (.int .i64 o) := (blk_cell p1 0).trans rfl
 have x1 : W.cell? ⟨w.heap.size, 1, none⟩ = some (.slice A n c) := (blk_cell p1 1).trans rfl
 have x2 : W.cell? ⟨w.heap.size, 2, none⟩ = some (.int .i64 h_) := (blk_cell p1 2).trans rfl
 have x3 : W.cell? ⟨w.heap.size, 3, none⟩ = some (.int .i64 t_) := (blk_cell p1 3).trans rfl
 have y0 : W.cell? ⟨w.heap.size + 1, 0, none⟩ = some (.int .i64 cc) := (blk_cell p2 0).trans rfl
 have y1 : W.cell? ⟨w.heap.size + 1, 1, none⟩ = some (.int .i64 ss) := (blk_cell p2 1).trans rfl
 have y2 : W.cell? ⟨w.heap.size + 1, 2, none⟩ = some (.slice A7 n7 c7) := (blk_cell p2 2).trans rfl
 refine bodyPost_ret (v := .tuple #[.agg #[.int .i64 o, .slice A n c, .int .i64 h_, .int .i64 t_], .int .i64 v_, .agg #[.int .i64 cc, .int .i64 ss, .slice A7 n7 c7]]) ?_ rfl ⟨.slice A n c, .slice A7 n7 c7, rfl, hv, hv7, hb⟩
 simp [results, Try.results24, go_sem, t2, t3, t4, x0, x1, x2, x3, y0, y1, y2]
def RSt (w : World) (p : PthR) (seen : List Int) (sp : Bool) (n : NtR) (W : World) : Prop :=
 W.heap[w.heap.size]? = some (.cells #[.int .i64 0, .slice none 0 0, .int .i64 0, .int .i64 0] 27 (0, 0)) ∧
 W.heap[w.heap.size + 1]? = some (.cells #[.int .i64 0, .int .i64 0, .slice none 0 0] 41 (0, 0)) ∧
 (∃ va vs vd, JB W (w.heap.size + 2) p.1 va p.2.2.1 p.2.2.2 vs sp n.1 n.2.1 vd ∧ Kd.N (Kd.int .i64) 3 W w.heap.size (fun k => w.heap.size + 3 ≤ k) vs seen ∧
  Kd.V (Kd.int .i64) 3 W 0 (fun k => w.heap.size + 3 ≤ k ∧ some k ≠ vs.ownBlock) va p.2.1 ∧ Kd.V (Kd.int .u8) 5 W 0 (fun k => w.heap.size + 3 ≤ k ∧ some k ≠ vs.ownBlock) vd n.2.2) ∧
 Below w.heap.size w W
/-- A call of one keeps all that. -/
theorem RSt.one {w : World} {p p' : PthR} {seen : List Int} {sp' : Bool} {n n' : NtR} {W W' : World} {va vs vd : Value} {e : Ending} (h1 : W.heap[w.heap.size]? = some (.cells #[.int .i64 0, .slice none 0 0, .int .i64 0, .int .i64 0] 27 (0, 0))) (h2 : W.heap[w.heap.size + 1]? = some (.cells #[.int .i64 0, .int .i64 0, .slice none 0 0] 41 (0, 0)))
  (hz : w.heap.size + 2 < W.heap.size) (hN : Kd.N (Kd.int .i64) 3 W w.heap.size (fun k => w.heap.size + 3 ≤ k) vs seen) (hV : Kd.V (Kd.int .i64) 3 W 0 (fun k => w.heap.size + 3 ≤ k ∧ some k ≠ vs.ownBlock) va p.2.1) (hD : Kd.V (Kd.int .u8) 5 W 0 (fun k => w.heap.size + 3 ≤ k ∧ some k ≠ vs.ownBlock) vd n.2.2) (hB : Below w.heap.size w W)
  (ho : OnePost (w.heap.size + 2) p p' va vs sp' n n' vd W e W') : RSt w p' seen sp' n' W' := by
 obtain ⟨-, va', vd', q1, q2, q3, q4⟩ := ho
 have hk : ∀ i o, W.heap[i]? = some o → i ≠ w.heap.size + 2 → W'.heap[i]? = some o := fun i o hi hn => (q2.1.2 i (blk_lt hi) hn (by simp)).trans hi
 have hfr : ∀ k, W.heap.size ≤ k → w.heap.size + 3 ≤ k ∧ some k ≠ vs.ownBlock := fun k hk => ⟨by omega, fun e => by have := Kd.N_lt hN k e.symm; omega⟩
 refine ⟨hk _ _ h1 (by omega), hk _ _ h2 (by omega), ⟨va', vs, vd', q1, Kd.N_keep hN q2.1 (fun k hk => by omega), ?_, ?_⟩, q2.2 w (by omega) hB⟩
 ·
  rcases q3 with ⟨rfl, e⟩ | q3
  ·
   rw [e]; exact Kd.V_keep hV q2.1 (fun k hk => by omega)
  ·
   exact Kd.V_mono q3 hfr
 ·
  rcases q4 with ⟨rfl, e⟩ | q4
  ·
   rw [e]; exact Kd.V_keep hD q2.1 (fun k hk => by omega)
  ·
   exact Kd.V_mono q4 hfr
def rjL (K : Nat) : List S24 → List Int → PthR → Bool → NtR → Option (PthR × List Int × Bool × NtR)
 | [], seen, p, sp, n => some (p, seen, sp, n)
 | a :: l, seen, p, sp, n => if a.f1 ∈ seen then rjL K l seen p sp n else (roneF K a.f0 a.f1 a.f2 p sp n).bind fun q => rjL K l (seen ++ [a.f1]) q.1 q.2.1 q.2.2
set_option maxHeartbeats 8000000 in
set_option maxRecDepth 100000 in
theorem rjudge_any (K : Nat) (A : Option Addr) (c : Nat) (l : List S24) (w : World) (R : PthR × List Int × Bool × NtR) (hr : Kd.C k24 w A l.length l) (hc : l.length ≤ c) (hO : ∀ a ∈ l, ∀ x ∈ a.f2, 0 ≤ x ∧ x < 256) (hl : l.length < 100000) (h : rjL K l [] (0, [], 0, 0) false (0, 0, []) = some R) :
  Calls Try.prog 24 #[.slice A l.length c] w (RPost w R) := by
 have HR := Aside0.mk hr
 have HO := Aside0.mk hO
 have HL := Aside0.mk hl
 have H := Aside0.mk h
 clear hr hO hl h
 go_enter Try.func24, Try.ntmps24
 go_wp2
 go_loopg [6] l.length (fun kq v6 w' => ∃ (i : Nat) (sp : Bool) (seen : List Int) (p : PthR) (n : NtR), v6 = .int .i64 (i : Int) ∧ Aside0 (i + kq = l.length ∧ seen.length ≤ i ∧ rjL K (l.drop i) seen p sp n = some R ∧ RSt w p seen sp n w'))
 case atStart =>
  refine ⟨0, false, [], (0, [], 0, 0), (0, 0, []), rfl, ⟨Nat.zero_add _, Nat.le_refl _, H.out, ?_⟩⟩
  have h2 := heap_alloc_new (w.alloc (.cells #[.int .i64 0, .slice none 0 0, .int .i64 0, .int .i64 0] 27)) (.cells #[.int .i64 0, .int .i64 0, .slice none 0 0] 41)
  rw [World.size_alloc] at h2
  have h3 := heap_alloc_new ((w.alloc (.cells #[.int .i64 0, .slice none 0 0, .int .i64 0, .int .i64 0] 27)).alloc (.cells #[.int .i64 0, .int .i64 0, .slice none 0 0] 41)) (.cells #[.int .i64 0, .slice none 0 0, .int .i64 0, .int .i64 0, .slice none 0 0, .bool false, .int .i64 0, .int .i64 0, .slice none 0 0] 67)
  rw [World.size_alloc, World.size_alloc] at h3
  exact ⟨blk_alloc (blk_alloc (heap_alloc_new w _) _) _, blk_alloc h2 _, ⟨_, _, _, h3, Kd.N_nil _ _ _ _ _, Kd.V_nil _ _ _ _ _, Kd.V_nil _ _ _ _ _⟩, below_alloc (below_alloc (below_alloc (Below.refl _ _) _) _) _⟩
 case round =>
  obtain ⟨i, sp, seen, p, n, rfl, HI⟩ := hrel
  obtain ⟨hik, hsl, hj, hst⟩ := HI.out
  have hl := HL.out
  by_cases c1 : i < l.length
  ·
   have d1 : decide (i < l.length) = true := decide_eq_true c1
   have hlen : (i : Int) < (l.length : Int) := by omega
   cases gk with
   | zero => omega
   | succ k1 =>
   obtain ⟨ad, A2, c2, e, x0, x1, x2, hl2, hi2⟩ := at_T24 HR.out (i : Int) (by omega) (by omega)
   subst e
   have hdrop := List.drop_eq_getElem_cons c1
   have hrd : rd_T24 l (i : Int) = l[i] := by simp [rd_T24, c1]
   rw [hrd] at x0 x1 x2 hl2 hi2
   have hO1 := HO.out l[i] (List.getElem_mem c1)
   rw [hdrop] at hj
   obtain ⟨a, ha⟩ : ∃ a, a = l[i] := ⟨_, rfl⟩
   rw [← ha] at x0 x1 x2 hl2 hi2 hO1 hj
   obtain ⟨fl, ty, d⟩ := a
   dsimp only at x0 x1 x2 hl2 hi2 hO1
   simp only [Int.toNat_natCast] at x0 x1 x2
   have HX := Aside0.mk (show ∀ W, Below w.heap.size w W → W.cell? (ad.add (i * 3)) = some (.int .i64 fl) ∧ W.cell? ⟨(ad.add (i * 3)).block, (ad.add (i * 3)).off + 1, none⟩ = some (.int .i64 ty) ∧ W.cell? ⟨(ad.add (i * 3)).block, (ad.add (i * 3)).off + 2, none⟩ = some (.slice A2 d.length c2) from fun W hW => ⟨cB hW x0, cB hW x1, cB hW x2⟩)
   obtain ⟨hz1, hz2, ⟨va, vs, vd, hJB, hN, hV, hD⟩, hB⟩ := hst
   obtain ⟨As, cs, rfl⟩ := Kd.N_slice hN
   obtain ⟨y0, y1, y2⟩ := HX.out wr hB
   have s4 : wr.cell? ⟨w.heap.size + 1 + 1, 4, none⟩ = some (.slice As seen.length cs) := (blk_cell hJB 4).trans rfl
   have g4 := blk_frozen hJB 4
   have HJB := Aside0.mk hJB
   have HN := Aside0.mk hN
   have HV := Aside0.mk hV
   have HD := Aside0.mk hD
   have HB := Aside0.mk hB
   have HZ := Aside0.mk (And.intro hz1 hz2)
   have HJ := Aside0.mk hj
   have HI2 := Aside0.mk hi2
   have HL2 := Aside0.mk hl2
   have HOA := Aside0.mk hO1
   have HIK := Aside0.mk (And.intro hik hsl)
   have ib : (i : Int) ≤ 1000000 := by omega
   clear x0 x1 x2 hl2 hi2 hO1 ha hrd hdrop hik hsl HI hl hz1 hz2 hJB hN hV hD hB hj
   have arm := 0
   by_cases hm : ty ∈ seen
   ·
    have HJ2 := Aside0.mk (show rjL K (l.drop (i + 1)) seen p sp n = some R from by have h1 := HJ.out; rw [rjL, if_pos hm] at h1; exact h1)
    have HM := Aside0.mk (decide_eq_true hm)
    clear hm
    go_wp2_with (first
     | (go_at_call 36; have hh := has_any (w.heap.size + 1 + 1) p.1 va p.2.2.1 p.2.2.2 As cs seen sp n.1 n.2.1 vd ty wr HJB.out (Kd.N_reads' HN.out).2.2 (by have h1 := HIK.out.2; have h2 := HL.out; omega); rw [HM.out] at hh; (with_reducible refine hh.mono ?_); clear hh; rintro e w1 ⟨rfl, hw1⟩; obtain rfl := hw1.symm))
    go_roundg k1
    case measure => omega
    case rel => exact ⟨i + 1, sp, seen, p, n, by rw [Int.natCast_add]; rfl, ⟨by have := HIK.out.1; omega, by have := HIK.out.2; omega, HJ2.out, HZ.out.1, HZ.out.2, ⟨va, _, vd, HJB.out, HN.out, HV.out, HD.out⟩, HB.out⟩⟩
   ·
    obtain ⟨q, hq, hj2⟩ : ∃ q, roneF K fl ty d p sp n = some q ∧ rjL K (l.drop (i + 1)) (seen ++ [ty]) q.1 q.2.1 q.2.2 = some R := by
     have h1 := HJ.out
     rw [rjL, if_neg hm] at h1
     exact Option.bind_eq_some_iff.mp h1
    have HQ := Aside0.mk hq
    have HJ2 := Aside0.mk hj2
    have HM := Aside0.mk (decide_eq_false hm)
    clear hm hq hj2
    go_wp2_with (first
     | (go_at_call 36; have hh := has_any (w.heap.size + 1 + 1) p.1 va p.2.2.1 p.2.2.2 As cs seen sp n.1 n.2.1 vd ty wr HJB.out (Kd.N_reads' HN.out).2.2 (by have h1 := HIK.out.2; have h2 := HL.out; omega); rw [HM.out] at hh; (with_reducible refine hh.mono ?_); clear hh; rintro e w1 ⟨rfl, hw1⟩; obtain rfl := hw1.symm))
    obtain ⟨S, hSe⟩ : ∃ S : World → Prop, ∀ W, S W = Below w.heap.size w W := ⟨fun W => Below w.heap.size w W, fun _ => rfl⟩
    refine wp_region_held (S := S) (by kernel_rfl) ?_
    change wpAnyH _ _ _ _ _ _ _ _ wr.drew
    have hBd : Below w.heap.size w wr.drew := below_drew HB.out
    have hS : S wr.drew := by rw [hSe]; exact hBd
    have hzw : wr.drew.heap.size = wr.heap.size := rfl
    have zlt : w.heap.size + 1 + 1 < wr.heap.size := blk_lt HJB.out
    refine wpAnyH_take (i := 0) (oi := { dst := some 23, op := Op.move (Operand.tmp 5), type := 65, pos := "ref.go:153", after := #[], guard := none }) (v := ?vv1) rfl (by kernel_rfl) (by kernel_rfl) (by kernel_rfl) (fun _ _ _ h => h) (Or.inl ⟨by rfl, ?hy1⟩) hS ?rest1
    case hy1 => (intro W hSw; skip; go_simp; try with_reducible rfl)
    try simp only [Act.put, sA, sB, sC]
    refine wpAnyH_take (i := 1) (oi := { dst := some 24, op := Op.move (Operand.tmp 5), type := 65, pos := "ref.go:153", after := #[], guard := none }) (v := ?vv2) rfl (by kernel_rfl) (by kernel_rfl) (by kernel_rfl) (fun _ _ _ h => h) (Or.inl ⟨by rfl, ?hy2⟩) hS ?rest2
    case hy2 => (intro W hSw; skip; go_simp; try with_reducible rfl)
    try simp only [Act.put, sA, sB, sC]
    refine wpAnyH_take (i := 2) (oi := { dst := some 25, op := Op.nilCheck (Operand.tmp 24), type := 0, pos := "ref.go:153", after := #[{ on := 1, ground := Ground.data }], guard := none }) (v := ?vv3) rfl (by kernel_rfl) (by kernel_rfl) (by kernel_rfl) (fun _ _ _ h => h) (Or.inl ⟨by rfl, ?hy3⟩) hS ?rest3
    case hy3 => (intro W hSw; skip; go_simp; try with_reducible rfl)
    try simp only [Act.put, sA, sB, sC]
    refine wpAnyH_take (i := 3) (oi := { dst := some 26, op := Op.fieldAddr 67 (Operand.tmp 25) 1, type := 0, pos := "ref.go:153", after := #[{ on := 2, ground := Ground.data }], guard := none }) (v := ?vv4) rfl (by kernel_rfl) (by kernel_rfl) (by kernel_rfl) (fun _ _ _ h => h) (Or.inl ⟨by rfl, ?hy4⟩) hS ?rest4
    case hy4 => (intro W hSw; skip; go_simp; try with_reducible rfl)
    try simp only [Act.put, sA, sB, sC]
    refine wpAnyH_take (i := 5) (oi := { dst := some 28, op := Op.move (Operand.tmp 0), type := 31, pos := "ref.go:153", after := #[], guard := none }) (v := ?vv5) rfl (by kernel_rfl) (by kernel_rfl) (by kernel_rfl) (fun _ _ _ h => h) (Or.inl ⟨by rfl, ?hy5⟩) hS ?rest5
    case hy5 => (intro W hSw; skip; go_simp; try with_reducible rfl)
    try simp only [Act.put, sA, sB, sC]
    refine wpAnyH_take (i := 6) (oi := { dst := some 29, op := Op.move (Operand.tmp 6), type := 3, pos := "ref.go:153", after := #[], guard := none }) (v := ?vv6) rfl (by kernel_rfl) (by kernel_rfl) (by kernel_rfl) (fun _ _ _ h => h) (Or.inl ⟨by rfl, ?hy6⟩) hS ?rest6
    case hy6 => (intro W hSw; skip; go_simp; try with_reducible rfl)
    try simp only [Act.put, sA, sB, sC]
    refine wpAnyH_take (i := 7) (oi := { dst := some 30, op := Op.indexAddr 31 (Operand.tmp 28) (Operand.tmp 29), type := 0, pos := "ref.go:153", after := #[{ on := 5, ground := Ground.data }, { on := 6, ground := Ground.data }], guard := none }) (v := ?vv7) rfl (by kernel_rfl) (by kernel_rfl) (by kernel_rfl) (fun _ _ _ h => h) (Or.inl ⟨by rfl, ?hy7⟩) hS ?rest7
    case hy7 => (intro W hSw; skip; go_simp; try with_reducible rfl)
    try simp only [Act.put, sA, sB, sC]
    refine wpAnyH_take (i := 8) (oi := { dst := some 31, op := Op.fieldAddr 24 (Operand.tmp 30) 1, type := 0, pos := "ref.go:153", after := #[{ on := 7, ground := Ground.data }], guard := none }) (v := ?vv8) rfl (by kernel_rfl) (by kernel_rfl) (by kernel_rfl) (fun _ _ _ h => h) (Or.inl ⟨by rfl, ?hy8⟩) hS ?rest8
    case hy8 => (intro W hSw; skip; go_simp; try with_reducible rfl)
    try simp only [Act.put, sA, sB, sC]
    refine wpAnyH_take (i := 9) (oi := { dst := some 32, op := Op.load 3 (Operand.tmp 31), type := 3, pos := "ref.go:153", after := #[{ on := 8, ground := Ground.data }], guard := none }) (v := ?vv9) rfl (by kernel_rfl) (by kernel_rfl) (by kernel_rfl) (fun _ _ _ h => h) (Or.inl ⟨by rfl, ?hy9⟩) hS ?rest9
    case hy9 => (intro W hSw; simp only [hSe] at hSw; have hx9 := (HX.out W hSw).2.1; go_simp; try with_reducible rfl)
    try simp only [Act.put, sA, sB, sC]
    refine wpAnyH_ready (rs := [4, 10]) (by kernel_rfl) (by simp) ?_
    refine AllReadyH.cons (o := { dst := some 27, op := Op.load 25 (Operand.tmp 26), type := 25, pos := "ref.go:153", after := #[{ on := 3, ground := Ground.data }], guard := none }) rfl (fun K hK => ?_) (AllReadyH.cons (o := { dst := some 33, op := Op.buildSlice 25 1 #[(0, Operand.tmp 32)], type := 25, pos := "ref.go:153", after := #[{ on := 9, ground := Ground.data }], guard := none }) rfl (fun K hK => ?_) AllReadyH.nil)
    ·
     go_simp
     refine hK.out _ _ ?_ (fun hS => ?_)
     ·
      rw [hSe]; exact hBd
     clear hK K
     try simp only [Act.put, sA, sB, sC]
     refine wpAnyH_ready (rs := [10]) (by kernel_rfl) (by simp) ?_
     refine AllReadyH.cons (o := { dst := some 33, op := Op.buildSlice 25 1 #[(0, Operand.tmp 32)], type := 25, pos := "ref.go:153", after := #[{ on := 9, ground := Ground.data }], guard := none }) rfl (fun K hK => ?_) AllReadyH.nil
     go_simp
     refine hK.out _ _ ?_ (fun hS => ?_)
     ·
      rw [hSe]; exact below_alloc hBd _
     clear hK K
     try simp only [Act.put, sA, sB, sC]
     refine wpAnyH_ready (rs := [11]) (by kernel_rfl) (by simp) ?_
     refine AllReadyH.cons (o := { dst := some 34, op := Op.call { callee := Callee.builtin Builtin.append, args := #[Operand.tmp 27, Operand.tmp 33], argTypes := #[25, 25] }, type := 25, pos := "ref.go:153", after := #[{ on := 4, ground := Ground.data }, { on := 10, ground := Ground.data }], guard := none }) rfl (fun K hK => ?_) AllReadyH.nil
     refine Kd.N_append_step (Kd.int .i64) (w0 := w) (W := wr.drew) w.heap.size (by rfl) (.tmp 27) (.tmp 33) 25 3 (.int .i64 0) 8 rfl Try.underlying25 info3 rfl (by decide) (by omega) (.slice As seen.length cs) seen ty [.int .i64 ty] (fun k => w.heap.size + 3 ≤ k) (fun _ => False) rfl rfl (fun _ _ => rfl) (fun _ hk => hk.elim) (fun k hk => by rw [hzw] at hk; have := blk_lt HJB.out; omega) (Kd.N_step (w1 := wr.drew) HN.out (fun _ _ _ => rfl)) hBd (by rw [hzw]; exact HB.out.size) (by have h1 := HIK.out.2; have h2 := HL.out; omega) ?_
     intro v6 w6 hN6 hb6 hg6 hat6
     obtain ⟨A6, c6, rfl⟩ := Kd.N_slice hN6
     rw [show (seen ++ [ty]).length = seen.length + 1 from by simp] at hN6 hat6
     have hJB6 : JB w6 (w.heap.size + 2) p.1 va p.2.2.1 p.2.2.2 (.slice As seen.length cs) sp n.1 n.2.1 vd := (hg6.block (w.heap.size + 2) (by rw [hzw]; exact blk_lt HJB.out) (Kd.N_ne HN.out HJB.out (by decide))).trans HJB.out
     have z6 : w6.cell? ⟨w.heap.size + 1 + 1, 4, none⟩ = some (.slice As seen.length cs) := (blk_cell hJB6 4).trans rfl
     have gg6 := blk_frozen hJB6 4
     have HX6 := Aside0.mk (And.intro hN6 (And.intro hb6 (And.intro hg6 hat6)))
     have HJ6 := Aside0.mk hJB6
     clear hN6 hb6 hg6 hat6 hJB6
     refine hK.out _ _ ?_ (fun hS => ?_)
     ·
      rw [hSe]; exact HX6.out.2.1
     clear hK K
     try simp only [Act.put, sA, sB, sC]
     refine wpAnyH_take (i := 12) (oi := { dst := some 35, op := Op.nilCheck (Operand.tmp 23), type := 0, pos := "ref.go:153", after := #[{ on := 0, ground := Ground.data }, { on := 0, ground := Ground.phase }, { on := 1, ground := Ground.phase }, { on := 2, ground := Ground.phase }, { on := 3, ground := Ground.phase }, { on := 4, ground := Ground.phase }, { on := 5, ground := Ground.phase }, { on := 6, ground := Ground.phase }, { on := 7, ground := Ground.phase }, { on := 8, ground := Ground.phase }, { on := 9, ground := Ground.phase }, { on := 10, ground := Ground.phase }, { on := 11, ground := Ground.phase }], guard := none }) (v := ?vv10) rfl (by kernel_rfl) (by kernel_rfl) (by kernel_rfl) (fun _ _ _ h => h) (Or.inl ⟨by rfl, ?hy10⟩) hS ?rest10
     case hy10 => (intro W hSw; skip; go_simp; try with_reducible rfl)
     try simp only [Act.put, sA, sB, sC]
     refine wpAnyH_take (i := 13) (oi := { dst := some 36, op := Op.fieldAddr 67 (Operand.tmp 35) 1, type := 0, pos := "ref.go:153", after := #[{ on := 12, ground := Ground.data }, { on := 0, ground := Ground.phase }, { on := 1, ground := Ground.phase }, { on := 2, ground := Ground.phase }, { on := 3, ground := Ground.phase }, { on := 4, ground := Ground.phase }, { on := 5, ground := Ground.phase }, { on := 6, ground := Ground.phase }, { on := 7, ground := Ground.phase }, { on := 8, ground := Ground.phase }, { on := 9, ground := Ground.phase }, { on := 10, ground := Ground.phase }, { on := 11, ground := Ground.phase }], guard := none }) (v := ?vv11) rfl (by kernel_rfl) (by kernel_rfl) (by kernel_rfl) (fun _ _ _ h => h) (Or.inl ⟨by rfl, ?hy11⟩) hS ?rest11
     case hy11 => (intro W hSw; skip; go_simp; try with_reducible rfl)
     try simp only [Act.put, sA, sB, sC]
     refine wpAnyH_ready (rs := [14]) (by kernel_rfl) (by simp) ?_
     refine AllReadyH.cons (o := { dst := none, op := Op.store 25 (Operand.tmp 36) (Operand.tmp 34), type := 0, pos := "ref.go:153", after := #[{ on := 13, ground := Ground.data }, { on := 11, ground := Ground.data }, { on := 11, ground := Ground.chain }, { on := 0, ground := Ground.phase }, { on := 1, ground := Ground.phase }, { on := 2, ground := Ground.phase }, { on := 3, ground := Ground.phase }, { on := 4, ground := Ground.phase }, { on := 5, ground := Ground.phase }, { on := 6, ground := Ground.phase }, { on := 7, ground := Ground.phase }, { on := 8, ground := Ground.phase }, { on := 9, ground := Ground.phase }, { on := 10, ground := Ground.phase }, { on := 11, ground := Ground.phase }], guard := none }) rfl (fun K hK => ?_) AllReadyH.nil
     go_simp
     refine hK.out _ _ ?_ (fun hS => ?_)
     ·
      rw [hSe]; exact set_below (g := w.heap.size + 1 + 1) (j := 4) _ HX6.out.2.1 (by omega)
     clear hK K
     try simp only [Act.put, sA, sB, sC]
     refine wpAnyH_done (by kernel_rfl) ?_ _
     obtain ⟨W7, hW7⟩ : ∃ W7, W7 = w6.setCell ⟨w.heap.size + 1 + 1, 4, none⟩ (.slice A6 (seen.length + 1) c6) := ⟨_, rfl⟩
     have hB7 : Below w.heap.size w (w6.setCell ⟨w.heap.size + 1 + 1, 4, none⟩ (.slice A6 (seen.length + 1) c6)) := set_below (g := w.heap.size + 1 + 1) (j := 4) _ HX6.out.2.1 (by omega)
     have hJB7 : JB (w6.setCell ⟨w.heap.size + 1 + 1, 4, none⟩ (.slice A6 (seen.length + 1) c6)) (w.heap.size + 1 + 1) p.1 va p.2.2.1 p.2.2.2 (.slice A6 (seen.length + 1) c6) sp n.1 n.2.1 vd := blk_put HJ6.out 4 _ rfl
     rw [← hW7] at hB7 hJB7 ⊢
     obtain ⟨t0, t1, t2⟩ := HX.out _ hB7
     have HB7 := Aside0.mk hB7
     have HJ7 := Aside0.mk hJB7
     have HW7 := Aside0.mk hW7
     clear hB7 hJB7 hW7
     go_wp2_with (first
      | (go_at_call 37; have hh := one_all K (w.heap.size + 1 + 1) p q.1 va (.slice A6 (seen.length + 1) c6) vd sp q.2.1 n q.2.2 fl ty A2 c2 d W7 w HJ7.out (by omega) HB7.out HI2.out HL2.out HOA.out HQ.out; (with_reducible refine hh.mono ?_); clear hh; intro e w8 ho; have he8 := ho.1; subst he8; have HO8 := Aside0.mk ho; clear ho))
     go_roundg k1
     case measure => omega
     case rel =>
      have e7 := HW7.out
      have far : ∀ j ob, wr.heap[j]? = some ob → j ≠ w.heap.size + 2 → some j ≠ (Value.slice As seen.length cs).ownBlock → W7.heap[j]? = some ob := fun j ob hj h2 h3 => by
       rw [e7]
       exact (Below.heap_setCell w6 ⟨w.heap.size + 1 + 1, 4, none⟩ _ j h2).trans ((HX6.out.2.2.1.block j (by rw [hzw]; exact blk_lt hj) h3).trans hj)
      have hN7 : Kd.N (Kd.int .i64) 3 W7 w.heap.size (fun k => w.heap.size + 3 ≤ k) (.slice A6 (seen.length + 1) c6) (seen ++ [ty]) := by
       rw [e7]
       exact Kd.N_far (p := ⟨w.heap.size + 1 + 1, 4, none⟩) HX6.out.1 (fun k hk => by show k ≠ w.heap.size + 1 + 1; omega) _
      have hV7 : Kd.V (Kd.int .i64) 3 W7 0 (fun k => w.heap.size + 3 ≤ k ∧ some k ≠ (Value.slice A6 (seen.length + 1) c6).ownBlock) va p.2.1 := by
       rw [e7]
       exact Kd.V_far (p := ⟨w.heap.size + 1 + 1, 4, none⟩) (Kd.V_after (Kd.V_step (w1 := wr.drew) HV.out (fun _ _ _ => rfl)) HX6.out.2.2.1 HX6.out.2.2.2) (fun k hk => by have := hk.1; show k ≠ w.heap.size + 1 + 1; omega) _
      have hD7 : Kd.V (Kd.int .u8) 5 W7 0 (fun k => w.heap.size + 3 ≤ k ∧ some k ≠ (Value.slice A6 (seen.length + 1) c6).ownBlock) vd n.2.2 := by
       rw [e7]
       exact Kd.V_far (p := ⟨w.heap.size + 1 + 1, 4, none⟩) (Kd.V_after (Kd.V_step (w1 := wr.drew) HD.out (fun _ _ _ => rfl)) HX6.out.2.2.1 HX6.out.2.2.2) (fun k hk => by have := hk.1; show k ≠ w.heap.size + 1 + 1; omega) _
      exact ⟨i + 1, q.2.1, seen ++ [ty], q.1, q.2.2, by rw [Int.natCast_add]; rfl, ⟨by have := HIK.out.1; omega, by have := HIK.out.2; simp only [List.length_append, List.length_cons, List.length_nil]; omega, HJ2.out, RSt.one (far _ _ HZ.out.1 (by omega) (Kd.N_ne HN.out HZ.out.1 (by decide))) (far _ _ HZ.out.2 (by omega) (Kd.N_ne HN.out HZ.out.2 (by decide))) (blk_lt HJ7.out) hN7 hV7 hD7 HB7.out HO8.out⟩⟩
    ·
     go_simp
     refine hK.out _ _ ?_ (fun hS => ?_)
     ·
      rw [hSe]; exact below_alloc hBd _
     clear hK K
     try simp only [Act.put, sA, sB, sC]
     refine wpAnyH_ready (rs := [4]) (by kernel_rfl) (by simp) ?_
     refine AllReadyH.cons (o := { dst := some 27, op := Op.load 25 (Operand.tmp 26), type := 25, pos := "ref.go:153", after := #[{ on := 3, ground := Ground.data }], guard := none }) rfl (fun K hK => ?_) AllReadyH.nil
     go_simp
     refine hK.out _ _ ?_ (fun hS => ?_)
     ·
      rw [hSe]; exact below_alloc hBd _
     clear hK K
     try simp only [Act.put, sA, sB, sC]
     refine wpAnyH_ready (rs := [11]) (by kernel_rfl) (by simp) ?_
     refine AllReadyH.cons (o := { dst := some 34, op := Op.call { callee := Callee.builtin Builtin.append, args := #[Operand.tmp 27, Operand.tmp 33], argTypes := #[25, 25] }, type := 25, pos := "ref.go:153", after := #[{ on := 4, ground := Ground.data }, { on := 10, ground := Ground.data }], guard := none }) rfl (fun K hK => ?_) AllReadyH.nil
     refine Kd.N_append_step (Kd.int .i64) (w0 := w) (W := wr.drew) w.heap.size (by rfl) (.tmp 27) (.tmp 33) 25 3 (.int .i64 0) 8 rfl Try.underlying25 info3 rfl (by decide) (by omega) (.slice As seen.length cs) seen ty [.int .i64 ty] (fun k => w.heap.size + 3 ≤ k) (fun _ => False) rfl rfl (fun _ _ => rfl) (fun _ hk => hk.elim) (fun k hk => by rw [hzw] at hk; have := blk_lt HJB.out; omega) (Kd.N_step (w1 := wr.drew) HN.out (fun _ _ _ => rfl)) hBd (by rw [hzw]; exact HB.out.size) (by have h1 := HIK.out.2; have h2 := HL.out; omega) ?_
     intro v6 w6 hN6 hb6 hg6 hat6
     obtain ⟨A6, c6, rfl⟩ := Kd.N_slice hN6
     rw [show (seen ++ [ty]).length = seen.length + 1 from by simp] at hN6 hat6
     have hJB6 : JB w6 (w.heap.size + 2) p.1 va p.2.2.1 p.2.2.2 (.slice As seen.length cs) sp n.1 n.2.1 vd := (hg6.block (w.heap.size + 2) (by rw [hzw]; exact blk_lt HJB.out) (Kd.N_ne HN.out HJB.out (by decide))).trans HJB.out
     have z6 : w6.cell? ⟨w.heap.size + 1 + 1, 4, none⟩ = some (.slice As seen.length cs) := (blk_cell hJB6 4).trans rfl
     have gg6 := blk_frozen hJB6 4
     have HX6 := Aside0.mk (And.intro hN6 (And.intro hb6 (And.intro hg6 hat6)))
     have HJ6 := Aside0.mk hJB6
     clear hN6 hb6 hg6 hat6 hJB6
     refine hK.out _ _ ?_ (fun hS => ?_)
     ·
      rw [hSe]; exact HX6.out.2.1
     clear hK K
     try simp only [Act.put, sA, sB, sC]
     refine wpAnyH_take (i := 12) (oi := { dst := some 35, op := Op.nilCheck (Operand.tmp 23), type := 0, pos := "ref.go:153", after := #[{ on := 0, ground := Ground.data }, { on := 0, ground := Ground.phase }, { on := 1, ground := Ground.phase }, { on := 2, ground := Ground.phase }, { on := 3, ground := Ground.phase }, { on := 4, ground := Ground.phase }, { on := 5, ground := Ground.phase }, { on := 6, ground := Ground.phase }, { on := 7, ground := Ground.phase }, { on := 8, ground := Ground.phase }, { on := 9, ground := Ground.phase }, { on := 10, ground := Ground.phase }, { on := 11, ground := Ground.phase }], guard := none }) (v := ?vv12) rfl (by kernel_rfl) (by kernel_rfl) (by kernel_rfl) (fun _ _ _ h => h) (Or.inl ⟨by rfl, ?hy12⟩) hS ?rest12
     case hy12 => (intro W hSw; skip; go_simp; try with_reducible rfl)
     try simp only [Act.put, sA, sB, sC]
     refine wpAnyH_take (i := 13) (oi := { dst := some 36, op := Op.fieldAddr 67 (Operand.tmp 35) 1, type := 0, pos := "ref.go:153", after := #[{ on := 12, ground := Ground.data }, { on := 0, ground := Ground.phase }, { on := 1, ground := Ground.phase }, { on := 2, ground := Ground.phase }, { on := 3, ground := Ground.phase }, { on := 4, ground := Ground.phase }, { on := 5, ground := Ground.phase }, { on := 6, ground := Ground.phase }, { on := 7, ground := Ground.phase }, { on := 8, ground := Ground.phase }, { on := 9, ground := Ground.phase }, { on := 10, ground := Ground.phase }, { on := 11, ground := Ground.phase }], guard := none }) (v := ?vv13) rfl (by kernel_rfl) (by kernel_rfl) (by kernel_rfl) (fun _ _ _ h => h) (Or.inl ⟨by rfl, ?hy13⟩) hS ?rest13
     case hy13 => (intro W hSw; skip; go_simp; try with_reducible rfl)
     try simp only [Act.put, sA, sB, sC]
     refine wpAnyH_ready (rs := [14]) (by kernel_rfl) (by simp) ?_
     refine AllReadyH.cons (o := { dst := none, op := Op.store 25 (Operand.tmp 36) (Operand.tmp 34), type := 0, pos := "ref.go:153", after := #[{ on := 13, ground := Ground.data }, { on := 11, ground := Ground.data }, { on := 11, ground := Ground.chain }, { on := 0, ground := Ground.phase }, { on := 1, ground := Ground.phase }, { on := 2, ground := Ground.phase }, { on := 3, ground := Ground.phase }, { on := 4, ground := Ground.phase }, { on := 5, ground := Ground.phase }, { on := 6, ground := Ground.phase }, { on := 7, ground := Ground.phase }, { on := 8, ground := Ground.phase }, { on := 9, ground := Ground.phase }, { on := 10, ground := Ground.phase }, { on := 11, ground := Ground.phase }], guard := none }) rfl (fun K hK => ?_) AllReadyH.nil
     go_simp
     refine hK.out _ _ ?_ (fun hS => ?_)
     ·
      rw [hSe]; exact set_below (g := w.heap.size + 1 + 1) (j := 4) _ HX6.out.2.1 (by omega)
     clear hK K
     try simp only [Act.put, sA, sB, sC]
     refine wpAnyH_done (by kernel_rfl) ?_ _
     obtain ⟨W7, hW7⟩ : ∃ W7, W7 = w6.setCell ⟨w.heap.size + 1 + 1, 4, none⟩ (.slice A6 (seen.length + 1) c6) := ⟨_, rfl⟩
     have hB7 : Below w.heap.size w (w6.setCell ⟨w.heap.size + 1 + 1, 4, none⟩ (.slice A6 (seen.length + 1) c6)) := set_below (g := w.heap.size + 1 + 1) (j := 4) _ HX6.out.2.1 (by omega)
     have hJB7 : JB (w6.setCell ⟨w.heap.size + 1 + 1, 4, none⟩ (.slice A6 (seen.length + 1) c6)) (w.heap.size + 1 + 1) p.1 va p.2.2.1 p.2.2.2 (.slice A6 (seen.length + 1) c6) sp n.1 n.2.1 vd := blk_put HJ6.out 4 _ rfl
     rw [← hW7] at hB7 hJB7 ⊢
     obtain ⟨t0, t1, t2⟩ := HX.out _ hB7
     have HB7 := Aside0.mk hB7
     have HJ7 := Aside0.mk hJB7
     have HW7 := Aside0.mk hW7
     clear hB7 hJB7 hW7
     go_wp2_with (first
      | (go_at_call 37; have hh := one_all K (w.heap.size + 1 + 1) p q.1 va (.slice A6 (seen.length + 1) c6) vd sp q.2.1 n q.2.2 fl ty A2 c2 d W7 w HJ7.out (by omega) HB7.out HI2.out HL2.out HOA.out HQ.out; (with_reducible refine hh.mono ?_); clear hh; intro e w8 ho; have he8 := ho.1; subst he8; have HO8 := Aside0.mk ho; clear ho))
     go_roundg k1
     case measure => omega
     case rel =>
      have e7 := HW7.out
      have far : ∀ j ob, wr.heap[j]? = some ob → j ≠ w.heap.size + 2 → some j ≠ (Value.slice As seen.length cs).ownBlock → W7.heap[j]? = some ob := fun j ob hj h2 h3 => by
       rw [e7]
       exact (Below.heap_setCell w6 ⟨w.heap.size + 1 + 1, 4, none⟩ _ j h2).trans ((HX6.out.2.2.1.block j (by rw [hzw]; exact blk_lt hj) h3).trans hj)
      have hN7 : Kd.N (Kd.int .i64) 3 W7 w.heap.size (fun k => w.heap.size + 3 ≤ k) (.slice A6 (seen.length + 1) c6) (seen ++ [ty]) := by
       rw [e7]
       exact Kd.N_far (p := ⟨w.heap.size + 1 + 1, 4, none⟩) HX6.out.1 (fun k hk => by show k ≠ w.heap.size + 1 + 1; omega) _
      have hV7 : Kd.V (Kd.int .i64) 3 W7 0 (fun k => w.heap.size + 3 ≤ k ∧ some k ≠ (Value.slice A6 (seen.length + 1) c6).ownBlock) va p.2.1 := by
       rw [e7]
       exact Kd.V_far (p := ⟨w.heap.size + 1 + 1, 4, none⟩) (Kd.V_after (Kd.V_step (w1 := wr.drew) HV.out (fun _ _ _ => rfl)) HX6.out.2.2.1 HX6.out.2.2.2) (fun k hk => by have := hk.1; show k ≠ w.heap.size + 1 + 1; omega) _
      have hD7 : Kd.V (Kd.int .u8) 5 W7 0 (fun k => w.heap.size + 3 ≤ k ∧ some k ≠ (Value.slice A6 (seen.length + 1) c6).ownBlock) vd n.2.2 := by
       rw [e7]
       exact Kd.V_far (p := ⟨w.heap.size + 1 + 1, 4, none⟩) (Kd.V_after (Kd.V_step (w1 := wr.drew) HD.out (fun _ _ _ => rfl)) HX6.out.2.2.1 HX6.out.2.2.2) (fun k hk => by have := hk.1; show k ≠ w.heap.size + 1 + 1; omega) _
      exact ⟨i + 1, q.2.1, seen ++ [ty], q.1, q.2.2, by rw [Int.natCast_add]; rfl, ⟨by have := HIK.out.1; omega, by have := HIK.out.2; simp only [List.length_append, List.length_cons, List.length_nil]; omega, HJ2.out, RSt.one (far _ _ HZ.out.1 (by omega) (Kd.N_ne HN.out HZ.out.1 (by decide))) (far _ _ HZ.out.2 (by omega) (Kd.N_ne HN.out HZ.out.2 (by decide))) (blk_lt HJ7.out) hN7 hV7 hD7 HB7.out HO8.out⟩⟩
  ·
   have hn : l.length ≤ i := Nat.le_of_not_lt c1
   have d1 : decide (i < l.length) = false := decide_eq_false c1
   have d1i : decide ((i : Int) < (l.length : Int)) = false := decide_eq_false (by omega)
   rw [List.drop_eq_nil_of_le hn, rjL] at hj
   obtain rfl := Option.some.inj hj
   obtain ⟨b0, b1, ⟨va, vs, vd, hJB, hN, hV, hD⟩, hB⟩ := hst
   obtain ⟨As, cs, rfl⟩ := Kd.N_slice hN
   obtain ⟨Aa, ca, rfl⟩ := Kd.V_slice hV
   obtain ⟨Ad, cd, rfl⟩ := Kd.V_slice hD
   have z6 : wr.cell? ⟨w.heap.size + 1 + 1, 6, none⟩ = some (.int .i64 n.1) := (blk_cell hJB 6).trans rfl
   have z7 : wr.cell? ⟨w.heap.size + 1 + 1, 7, none⟩ = some (.int .i64 n.2.1) := (blk_cell hJB 7).trans rfl
   have z8 : wr.cell? ⟨w.heap.size + 1 + 1, 8, none⟩ = some (.slice Ad n.2.2.length cd) := (blk_cell hJB 8).trans rfl
   have z5 : wr.cell? ⟨w.heap.size + 1 + 1, 5, none⟩ = some (.bool sp) := (blk_cell hJB 5).trans rfl
   have z0 : wr.cell? ⟨w.heap.size + 1 + 1, 0, none⟩ = some (.int .i64 p.1) := (blk_cell hJB 0).trans rfl
   have z1 : wr.cell? ⟨w.heap.size + 1 + 1, 1, none⟩ = some (.slice Aa p.2.1.length ca) := (blk_cell hJB 1).trans rfl
   have z2 : wr.cell? ⟨w.heap.size + 1 + 1, 2, none⟩ = some (.int .i64 p.2.2.1) := (blk_cell hJB 2).trans rfl
   have z3 : wr.cell? ⟨w.heap.size + 1 + 1, 3, none⟩ = some (.int .i64 p.2.2.2) := (blk_cell hJB 3).trans rfl
   have s0 : wr.cell? ⟨w.heap.size, 0, none⟩ = some (.int .i64 0) := (blk_cell b0 0).trans rfl
   have s1 : wr.cell? ⟨w.heap.size, 1, none⟩ = some (.slice none 0 0) := (blk_cell b0 1).trans rfl
   have s2 : wr.cell? ⟨w.heap.size, 2, none⟩ = some (.int .i64 0) := (blk_cell b0 2).trans rfl
   have s3 : wr.cell? ⟨w.heap.size, 3, none⟩ = some (.int .i64 0) := (blk_cell b0 3).trans rfl
   have q0 : wr.cell? ⟨w.heap.size + 1, 0, none⟩ = some (.int .i64 0) := (blk_cell b1 0).trans rfl
   have q1 : wr.cell? ⟨w.heap.size + 1, 1, none⟩ = some (.int .i64 0) := (blk_cell b1 1).trans rfl
   have q2 : wr.cell? ⟨w.heap.size + 1, 2, none⟩ = some (.slice none 0 0) := (blk_cell b1 2).trans rfl
   have fz0 := blk_frozen b0 0
   have fz1 := blk_frozen b0 1
   have fz2 := blk_frozen b0 2
   have fz3 := blk_frozen b0 3
   have fy0 := blk_frozen b1 0
   have fy1 := blk_frozen b1 1
   have fy2 := blk_frozen b1 2
   have HJB := Aside0.mk hJB
   have HN := Aside0.mk hN
   have HV := Aside0.mk hV
   have HD := Aside0.mk hD
   have HB := Aside0.mk hB
   have HB0 := Aside0.mk b0
   have HB1 := Aside0.mk b1
   have HSL := Aside0.mk (show seen.length < 1000000 by omega)
   clear hJB hN hV hD hB b0 b1 hj HI hik hsl hl c1 hn
   by_cases c9 : n.1 = 0
   rotate_left
   ·
    have e9 : (n.1 != 0) = true := by simpa using c9
    have C9 := Aside0.mk c9
    clear c9
    go_wp2
    go_region_with (fail)
    all_goals (try go_wp2)
    all_goals
     have hE : rjEnd (p, seen, sp, n) = (0, [], 0, 0, 2, n.1, n.2.1, n.2.2) := by unfold rjEnd; rw [if_pos C9.out]
     show bodyPost _ _ (fun e w' => RjPost w (rjEnd (p, seen, sp, n)) e w') _ _ _
     rw [hE]
     obtain ⟨W7, hW7⟩ : ∃ W7, W7 = ((((((wr.setCell ⟨w.heap.size, 0, none⟩ (.int .i64 0)).setCell ⟨w.heap.size, 1, none⟩ (.slice none 0 0)).setCell ⟨w.heap.size, 2, none⟩ (.int .i64 0)).setCell ⟨w.heap.size, 3, none⟩ (.int .i64 0)).setCell ⟨w.heap.size + 1, 0, none⟩ (.int .i64 n.1)).setCell ⟨w.heap.size + 1, 1, none⟩ (.int .i64 n.2.1)).setCell ⟨w.heap.size + 1, 2, none⟩ (.slice Ad n.2.2.length cd) := ⟨_, rfl⟩
     rw [← hW7]
     obtain ⟨p1, p2, p3, p4⟩ := rj_puts HB.out HB0.out HB1.out (.int .i64 0) (.slice none 0 0) (.int .i64 0) (.int .i64 0) (.int .i64 n.1) (.int .i64 n.2.1) (.slice Ad n.2.2.length cd) hW7
     clear hW7
     refine rj_end (W := W7.drew) p1 p2 rfl rfl rfl (Kd.V_nil _ _ _ _ _) (Kd.V_drew ?_) (below_drew p4)
     exact Kd.V_mono (Kd.V_step HD.out (fun k hk hl => p3 k (by have := hk.1; omega) (by have := hk.1; omega))) (fun k hk => by have := hk.1; omega)
   ·
    have e9 : (n.1 != 0) = false := by simp [c9]
    have C9 := Aside0.mk c9
    clear c9
    cases sp
    rotate_left
    ·
     go_wp2
     have hE : rjEnd (p, seen, true, n) = (0, [], 0, 0, 1, 0, 0, []) := by unfold rjEnd; rw [if_neg (by simpa using C9.out), if_pos (.inl rfl)]
     show bodyPost _ _ (fun e w' => RjPost w (rjEnd (p, seen, true, n)) e w') _ _ _
     rw [hE]
     obtain ⟨p1, p2, p3, p4⟩ := rj_puts HB.out HB0.out HB1.out (.int .i64 0) (.slice none 0 0) (.int .i64 0) (.int .i64 0) (.int .i64 0) (.int .i64 0) (.slice none 0 0) rfl
     exact rj_end p1 p2 rfl rfl rfl (Kd.V_nil _ _ _ _ _) (Kd.V_nil _ _ _ _ _) p4
    by_cases n1 : 1 ∈ seen
    rotate_left
    ·
     have K1 := Aside0.mk (decide_eq_false n1)
     have N1 := Aside0.mk n1
     clear n1
     go_wp2_with (first | (go_at_call 36; have hh := has_any (w.heap.size + 1 + 1) p.1 _ p.2.2.1 p.2.2.2 As cs seen false n.1 n.2.1 _ 1 wr HJB.out (Kd.N_reads' HN.out).2.2 HSL.out; rw [K1.out] at hh; (with_reducible refine hh.mono ?_); clear hh; rintro e w1 ⟨rfl, hw1⟩; obtain rfl := hw1.symm))
     have hE : rjEnd (p, seen, false, n) = (0, [], 0, 0, 1, 0, 0, []) := by unfold rjEnd; rw [if_neg (by simpa using C9.out), if_pos (.inr (.inl N1.out))]
     show bodyPost _ _ (fun e w' => RjPost w (rjEnd (p, seen, false, n)) e w') _ _ _
     rw [hE]
     obtain ⟨p1, p2, p3, p4⟩ := rj_puts HB.out HB0.out HB1.out (.int .i64 0) (.slice none 0 0) (.int .i64 0) (.int .i64 0) (.int .i64 0) (.int .i64 0) (.slice none 0 0) rfl
     exact rj_end p1 p2 rfl rfl rfl (Kd.V_nil _ _ _ _ _) (Kd.V_nil _ _ _ _ _) p4
    have K1 := Aside0.mk (decide_eq_true n1)
    have N1 := Aside0.mk n1
    clear n1
    by_cases n2 : 2 ∈ seen
    rotate_left
    ·
     have K2 := Aside0.mk (decide_eq_false n2)
     have N2 := Aside0.mk n2
     clear n2
     go_wp2_with (first | (go_at_call 36; have hh := has_any (w.heap.size + 1 + 1) p.1 _ p.2.2.1 p.2.2.2 As cs seen false n.1 n.2.1 _ 1 wr HJB.out (Kd.N_reads' HN.out).2.2 HSL.out; rw [K1.out] at hh; (with_reducible refine hh.mono ?_); clear hh; rintro e w1 ⟨rfl, hw1⟩; obtain rfl := hw1.symm) | (go_at_call 36; have hh := has_any (w.heap.size + 1 + 1) p.1 _ p.2.2.1 p.2.2.2 As cs seen false n.1 n.2.1 _ 2 wr HJB.out (Kd.N_reads' HN.out).2.2 HSL.out; rw [K2.out] at hh; (with_reducible refine hh.mono ?_); clear hh; rintro e w1 ⟨rfl, hw1⟩; obtain rfl := hw1.symm))
     have hE : rjEnd (p, seen, false, n) = (0, [], 0, 0, 1, 0, 0, []) := by unfold rjEnd; rw [if_neg (by simpa using C9.out), if_pos (.inr (.inr (.inl N2.out)))]
     show bodyPost _ _ (fun e w' => RjPost w (rjEnd (p, seen, false, n)) e w') _ _ _
     rw [hE]
     obtain ⟨p1, p2, p3, p4⟩ := rj_puts HB.out HB0.out HB1.out (.int .i64 0) (.slice none 0 0) (.int .i64 0) (.int .i64 0) (.int .i64 0) (.int .i64 0) (.slice none 0 0) rfl
     exact rj_end p1 p2 rfl rfl rfl (Kd.V_nil _ _ _ _ _) (Kd.V_nil _ _ _ _ _) p4
    have K2 := Aside0.mk (decide_eq_true n2)
    have N2 := Aside0.mk n2
    clear n2
    by_cases n3 : 3 ∈ seen
    rotate_left
    ·
     have K3 := Aside0.mk (decide_eq_false n3)
     have N3 := Aside0.mk n3
     clear n3
     go_wp2_with (first | (go_at_call 36; have hh := has_any (w.heap.size + 1 + 1) p.1 _ p.2.2.1 p.2.2.2 As cs seen false n.1 n.2.1 _ 1 wr HJB.out (Kd.N_reads' HN.out).2.2 HSL.out; rw [K1.out] at hh; (with_reducible refine hh.mono ?_); clear hh; rintro e w1 ⟨rfl, hw1⟩; obtain rfl := hw1.symm) | (go_at_call 36; have hh := has_any (w.heap.size + 1 + 1) p.1 _ p.2.2.1 p.2.2.2 As cs seen false n.1 n.2.1 _ 2 wr HJB.out (Kd.N_reads' HN.out).2.2 HSL.out; rw [K2.out] at hh; (with_reducible refine hh.mono ?_); clear hh; rintro e w1 ⟨rfl, hw1⟩; obtain rfl := hw1.symm) | (go_at_call 36; have hh := has_any (w.heap.size + 1 + 1) p.1 _ p.2.2.1 p.2.2.2 As cs seen false n.1 n.2.1 _ 3 wr HJB.out (Kd.N_reads' HN.out).2.2 HSL.out; rw [K3.out] at hh; (with_reducible refine hh.mono ?_); clear hh; rintro e w1 ⟨rfl, hw1⟩; obtain rfl := hw1.symm))
     have hE : rjEnd (p, seen, false, n) = (0, [], 0, 0, 1, 0, 0, []) := by unfold rjEnd; rw [if_neg (by simpa using C9.out), if_pos (.inr (.inr (.inr N3.out)))]
     show bodyPost _ _ (fun e w' => RjPost w (rjEnd (p, seen, false, n)) e w') _ _ _
     rw [hE]
     obtain ⟨p1, p2, p3, p4⟩ := rj_puts HB.out HB0.out HB1.out (.int .i64 0) (.slice none 0 0) (.int .i64 0) (.int .i64 0) (.int .i64 0) (.int .i64 0) (.slice none 0 0) rfl
     exact rj_end p1 p2 rfl rfl rfl (Kd.V_nil _ _ _ _ _) (Kd.V_nil _ _ _ _ _) p4
    have K3 := Aside0.mk (decide_eq_true n3)
    have N3 := Aside0.mk n3
    clear n3
    go_wp2_with (first | (go_at_call 36; have hh := has_any (w.heap.size + 1 + 1) p.1 _ p.2.2.1 p.2.2.2 As cs seen false n.1 n.2.1 _ 1 wr HJB.out (Kd.N_reads' HN.out).2.2 HSL.out; rw [K1.out] at hh; (with_reducible refine hh.mono ?_); clear hh; rintro e w1 ⟨rfl, hw1⟩; obtain rfl := hw1.symm) | (go_at_call 36; have hh := has_any (w.heap.size + 1 + 1) p.1 _ p.2.2.1 p.2.2.2 As cs seen false n.1 n.2.1 _ 2 wr HJB.out (Kd.N_reads' HN.out).2.2 HSL.out; rw [K2.out] at hh; (with_reducible refine hh.mono ?_); clear hh; rintro e w1 ⟨rfl, hw1⟩; obtain rfl := hw1.symm) | (go_at_call 36; have hh := has_any (w.heap.size + 1 + 1) p.1 _ p.2.2.1 p.2.2.2 As cs seen false n.1 n.2.1 _ 3 wr HJB.out (Kd.N_reads' HN.out).2.2 HSL.out; rw [K3.out] at hh; (with_reducible refine hh.mono ?_); clear hh; rintro e w1 ⟨rfl, hw1⟩; obtain rfl := hw1.symm))
    have hE : rjEnd (p, seen, false, n) = (p.1, p.2.1, p.2.2.1, p.2.2.2, 0, 0, 0, []) := by unfold rjEnd; rw [if_neg (by simpa using C9.out), if_neg (by rintro (h | h | h | h); cases h; exact h N1.out; exact h N2.out; exact h N3.out)]
    show bodyPost _ _ (fun e w' => RjPost w (rjEnd (p, seen, false, n)) e w') _ _ _
    rw [hE]
    obtain ⟨p1, p2, p3, p4⟩ := rj_puts HB.out HB0.out HB1.out (.int .i64 p.1) (.slice Aa p.2.1.length ca) (.int .i64 p.2.2.1) (.int .i64 p.2.2.2) (.int .i64 0) (.int .i64 0) (.slice none 0 0) rfl
    refine rj_end p1 p2 rfl rfl rfl ?_ (Kd.V_nil _ _ _ _ _) p4
    exact Kd.V_mono (Kd.V_step HV.out (fun k hk hl => p3 k (by have := hk.1; omega) (by have := hk.1; omega))) (fun k hk => by have := hk.1; omega)

def ridgewayref07_Judge.f (l0 : List S24) : Option (Int × List Int × Int × Int × Int × Int × Int × List Int) := if ((l0.all fun a => a.f2.all (fun x => decide (0 ≤ x) && decide (x < 256))) && decide (l0.length < 100000)) = true then (rjL 1000000 l0 [] (0, [], 0, 0) false (0, 0, [])).map rjEnd else none
theorem ridgewayref07_Judge.calls (A0 : Option Addr) (c0 : Nat) (l0 : List S24) (r0 : Int) (r1 : List Int) (r2 r3 r4 r5 r6 : Int) (r7 : List Int) (w : World) (hr0 : Kd.C k24 w A0 l0.length l0) (hc0 : l0.length ≤ c0) (h : ridgewayref07_Judge.f l0 = some (r0, r1, r2, r3, r4, r5, r6, r7)) :
 Calls Try.prog 24 #[.slice A0 l0.length c0] w fun e w' => ∃ v1_ v7_ : Value, e = .returned (.tuple #[.agg #[.int .i64 r0, v1_, .int .i64 r2, .int .i64 r3], .int .i64 r4, .agg #[.int .i64 r5, .int .i64 r6, v7_]]) ∧
  Kd.V (Kd.int .i64) 3 w' w.heap.size (fun k_ => w.heap.size ≤ k_) v1_ r1 ∧ Kd.V (Kd.int .u8) 5 w' w.heap.size (fun k_ => w.heap.size ≤ k_) v7_ r7 ∧ Below w.heap.size w w' := by
 unfold ridgewayref07_Judge.f at h
 by_cases c : ((l0.all fun a => a.f2.all (fun x => decide (0 ≤ x) && decide (x < 256))) && decide (l0.length < 100000)) = true
 ·
  rw [if_pos c] at h
  simp only [Bool.and_eq_true, List.all_eq_true, decide_eq_true_eq] at c
  obtain ⟨R, hR, hE⟩ := Option.map_eq_some_iff.mp h
  have hh := rjudge_any 1000000 A0 c0 l0 w R hr0 hc0 c.1 c.2 hR
  unfold RPost at hh
  rw [hE] at hh
  exact hh
 ·
  rw [if_neg c] at h
  cases h

end Go.Proofs.Ytfmhclbcoladpaa.J
