/- Each call of a Go function comes to what the Lean function of its name answers (written out by wip/tools/xprint.py, checked by Lean); conditions: those in each statement. -/
import Derived.Test.YtfbndolhocojiaaDoorKx0
import Derived.Test.YtfbndolhocojiaaDoorKx8
import Derived.Test.YtfbndolhocojiaaDoorKx10
import Derived.Test.YtfbndolhocojiaaDoorKx11
namespace Go.Proofs.YtfbndolhocojiaaDoor.K
open Go.RowKit Go.Proofs.YtfbndolhocojiaaDoorW.PrintWords Go.Proofs.YtfbndolhocojiaaDoorW.PrintLast Go.Proofs.YtfbndolhocojiaaDoorW.PrintMore Go.Proofs.YtfbndolhocojiaaDoorW.PrintX
attribute [local go_sem] max2_int min2_int max_two min_two max_three min_three max_four min_four   -- for this text's walks alone
set_option linter.unusedVariables false
set_option linter.unusedSimpArgs false

/-! ### role_Pairs: function 52 -/
def role_Pairs.f (a0 : Int) (a1 : Int) : Option Bool := some (decide (0 ≤ a0) && decide (a0 < 5) && (([3, 2, 1, 0, 4] : List Int).getD a0.toNat 0 == a1))
set_option maxHeartbeats 8000000 in
set_option maxRecDepth 100000 in
theorem role_Pairs.calls (a0 : Int) (a1 : Int) (r : Bool) (w : World) (hG : GOK w) (h : role_Pairs.f a0 a1 = some r) :
  Calls Tryd.prog 52 #[.int .i64 a0, .int .i64 a1] w fun e w' => e = .returned (.bool r) ∧ Drawn0 w w' := by
 unfold role_Pairs.f at h
 obtain rfl := Option.some.inj h
 clear h
 by_cases h0 : 0 ≤ a0
 ·
  by_cases h5 : a0 < 5
  ·
   have c0 : decide (0 ≤ a0) = true := decide_eq_true h0
   have c5 : decide (a0 < 5) = true := decide_eq_true h5
   have hv : a0 = 0 ∨ a0 = 1 ∨ a0 = 2 ∨ a0 = 3 ∨ a0 = 4 := by omega
   clear h0 h5 c0 c5
   rcases hv with rfl | rfl | rfl | rfl | rfl
   ·
    have hc := hG 0 (by decide)
    simp at hc
    clear hG
    go_enter Tryd.func52, Tryd.ntmps52
    go_wp2
    repeat (go_quiet (fail); try go_wp2)
    go_ret
    exact ⟨by simp, by repeat (first | exact Drawn0.refl _ | apply Drawn0.step)⟩
   ·
    have hc := hG 1 (by decide)
    simp at hc
    clear hG
    go_enter Tryd.func52, Tryd.ntmps52
    go_wp2
    repeat (go_quiet (fail); try go_wp2)
    go_ret
    exact ⟨by simp, by repeat (first | exact Drawn0.refl _ | apply Drawn0.step)⟩
   ·
    have hc := hG 2 (by decide)
    simp at hc
    clear hG
    go_enter Tryd.func52, Tryd.ntmps52
    go_wp2
    repeat (go_quiet (fail); try go_wp2)
    go_ret
    exact ⟨by simp, by repeat (first | exact Drawn0.refl _ | apply Drawn0.step)⟩
   ·
    have hc := hG 3 (by decide)
    simp at hc
    clear hG
    go_enter Tryd.func52, Tryd.ntmps52
    go_wp2
    repeat (go_quiet (fail); try go_wp2)
    go_ret
    exact ⟨by simp, by repeat (first | exact Drawn0.refl _ | apply Drawn0.step)⟩
   ·
    have hc := hG 4 (by decide)
    simp at hc
    clear hG
    go_enter Tryd.func52, Tryd.ntmps52
    go_wp2
    repeat (go_quiet (fail); try go_wp2)
    go_ret
    exact ⟨by simp, by repeat (first | exact Drawn0.refl _ | apply Drawn0.step)⟩
  ·
   have c0 : decide (0 ≤ a0) = true := decide_eq_true h0
   have c5 : decide (a0 < 5) = false := decide_eq_false h5
   clear hG h0 h5
   go_enter Tryd.func52, Tryd.ntmps52
   go_wp2
   repeat (go_quiet (fail); try go_wp2)
   go_ret
   exact ⟨by simp [c0, c5], by repeat (first | exact Drawn0.refl _ | apply Drawn0.step)⟩
 ·
  have c0 : decide (0 ≤ a0) = false := decide_eq_false h0
  clear hG h0
  go_enter Tryd.func52, Tryd.ntmps52
  go_wp2
  repeat (go_quiet (fail); try go_wp2)
  go_ret
  exact ⟨by simp [c0], by repeat (first | exact Drawn0.refl _ | apply Drawn0.step)⟩

/-! ### session_call_sent: function 33 -/
abbrev TkR := Int × Int × Int × Int × List S45 × Bool
/-- What a call that takes a message leaves. -/
def TkPost (w : World) (R : TkR) (e : Ending) (w' : World) : Prop :=
 ∃ v4_ : Value, e = .returned (.tuple #[.agg #[.int .i64 R.1, .int .i64 R.2.1, .int .i64 R.2.2.1, .int .i64 R.2.2.2.1], v4_, .bool R.2.2.2.2.2]) ∧ Kd.V k45 45 w' w.heap.size (fun k_ => w.heap.size ≤ k_) v4_ R.2.2.2.2.1 ∧ Below w.heap.size w w'
/-- The call's block. -/
abbrev cK (a0 a1 a2 a3 a4 a5 a6 a7 : Int) (A8 : Option Addr) (c8 : Nat) (l8 : List S62) (A9 : Option Addr) (c9 : Nat) (l9 : List S31) (a10 a11 : Int) (A12 : Option Addr) (c12 : Nat) (l12 : List Int) : Array Value :=
 #[.int .i64 a0, .int .i64 a1, .int .i64 a2, .int .i64 a3, .int .i64 a4, .int .i64 a5, .int .i64 a6, .int .i64 a7, .slice A8 l8.length c8, .slice A9 l9.length c9, .int .i64 a10, .int .i64 a11, .slice A12 l12.length c12]
def sentEnd (a6 : Int) (g : Int × Int × Int × Int × Int × Int × List Int) : TkR := (2, mn a6 g.2.1, mn a6 g.2.1, wrap64 (Int.tdiv (mn a6 g.2.1) 3), [⟨4, []⟩], false)
def session_call_sent.f (a0_0 a0_1 a0_2 a0_3 a0_4 a0_5 a0_6 a0_7 : Int) (l0_8 : List S62) (l0_9 : List S31) (a0_10 a0_11 : Int) (l0_12 : List Int) : Option TkR :=
 if a0_11 = 1 then
  (if 0 ≤ a0_10 ∧ a0_10 < (l0_9.length : Int) then
   (open_Get.f a0_11 l0_12 (rd_T31 l0_9 a0_10).f0).bind fun g =>
    if g.2.2.2.2.1 = 0 then
     (if g.2.2.2.1 ≥ 0 then
      (role_Mine.f (rd_T31 l0_9 a0_10).f1).bind fun mi => (role_Pairs.f mi g.2.2.2.1).bind fun pb => if pb = true then some (sentEnd a0_6 g) else session_call_ends.f a0_0 a0_1 a0_2 a0_3 a0_4 a0_5 a0_6 a0_7 l0_8 l0_9 a0_10 a0_11 l0_12 2 11 []
     else some (sentEnd a0_6 g))
    else session_call_ends.f a0_0 a0_1 a0_2 a0_3 a0_4 a0_5 a0_6 a0_7 l0_8 l0_9 a0_10 a0_11 l0_12 g.2.2.2.2.1 g.2.2.2.2.2.1 g.2.2.2.2.2.2
  else none)
 else session_call_out.f a0_0 a0_1 a0_2 a0_3 a0_4 a0_5 a0_6 a0_7 l0_8 l0_9 a0_10 a0_11 l0_12
theorem sent_end {w W : World} {tmps : Array Value} {r1 r2 r3 r4 : Int} {v : Value} {b : Bool} {l : List S45} {g : Nat}
  (p1 : W.heap[g]? = some (.cells #[.int .i64 r1, .int .i64 r2, .int .i64 r3, .int .i64 r4] 34 (0, 0)))
  (t2 : tmps[2]?.getD undef = .pointer (some ⟨g, 0, none⟩)) (t3 : tmps[3]?.getD undef = v) (t4 : tmps[4]?.getD undef = .bool b)
  (hv : Kd.V k45 45 W w.heap.size (fun k_ => w.heap.size ≤ k_) v l) (hb : Below w.heap.size w W) :
  bodyPost Tryd.prog Tryd.f33 (TkPost w (r1, r2, r3, r4, l, b)) Exit.ret { tmps := tmps, defers := [] } W := by
 have x0 : W.cell? ⟨g, 0, none⟩ = some (.int .i64 r1) := (blk_cell p1 0).trans rfl
 have x1 : W.cell? ⟨g, 1, none⟩ = some (.int .i64 r2) := (blk_cell p1 1).trans rfl
 have x2 : W.cell? ⟨g, 2, none⟩ = some (.int .i64 r3) := (blk_cell p1 2).trans rfl
 have x3 : W.cell? ⟨g, 3, none⟩ = some (.int .i64 r4) := (blk_cell p1 3).trans rfl
 obtain ⟨A, c, rfl, hc, hF⟩ := hv
 refine bodyPost_ret (v := .tuple #[.agg #[.int .i64 r1, .int .i64 r2, .int .i64 r3, .int .i64 r4], .slice A l.length c, .bool b]) ?_ rfl ⟨.slice A l.length c, rfl, ⟨A, c, rfl, hc, hF⟩, hb⟩
 simp [results, Tryd.results33, go_sem, t2, t3, t4, x0, x1, x2, x3]
/-- The result's block, stored over. -/
theorem sess_puts {w W : World} {g : Nat} {a b c d : Value} (hb : Below w.heap.size w W) (hg : w.heap.size ≤ g) (h0 : W.heap[g]? = some (.cells #[a, b, c, d] 34 (0, 0))) (r1 r2 r3 r4 : Value) {W' : World}
  (hW : W' = (((W.setCell ⟨g, 0, none⟩ r1).setCell ⟨g, 1, none⟩ r2).setCell ⟨g, 2, none⟩ r3).setCell ⟨g, 3, none⟩ r4) :
  W'.heap[g]? = some (.cells #[r1, r2, r3, r4] 34 (0, 0)) ∧ (∀ k, k ≠ g → W'.heap[k]? = W.heap[k]?) ∧ Below w.heap.size w W' ∧ W'.heap.size = W.heap.size := by
 subst hW
 have hs : ∀ (W : World) (k j : Nat) (i : Nat) (v : Value), i ≠ k → (W.setCell ⟨k, j, none⟩ v).heap[i]? = W.heap[i]? := fun W k j i v h => Below.heap_setCell W ⟨k, j, none⟩ v i h
 refine ⟨blk_put (blk_put (blk_put (blk_put h0 0 _ rfl) 1 _ rfl) 2 _ rfl) 3 _ rfl, fun k hk => ?_, set_below _ (set_below _ (set_below _ (set_below _ hb hg) hg) hg) hg, ?_⟩
 ·
  rw [hs _ _ _ _ _ hk, hs _ _ _ _ _ hk, hs _ _ _ _ _ hk, hs _ _ _ _ _ hk]
 ·
  simp
set_option maxHeartbeats 8000000 in
set_option maxRecDepth 100000 in
theorem sent_out (a0 a1 a2 a3 a4 a5 a6 a7 : Int) (A8 : Option Addr) (c8 : Nat) (l8 : List S62) (A9 : Option Addr) (c9 : Nat) (l9 : List S31) (a10 a11 : Int) (A12 : Option Addr) (c12 : Nat) (l12 : List Int) (R : TkR) (w : World)
  (hr8 : Kd.C k62 w A8 l8.length l8) (hc8 : l8.length ≤ c8) (hr9 : Kd.C k31 w A9 l9.length l9) (hc9 : l9.length ≤ c9) (hr12 : Kd.C (Kd.int .u8) w A12 l12.length l12) (hc12 : l12.length ≤ c12)
  (h1 : a11 ≠ 1) (h : session_call_out.f a0 a1 a2 a3 a4 a5 a6 a7 l8 l9 a10 a11 l12 = some R) :
  Calls Tryd.prog 33 #[.agg (cK a0 a1 a2 a3 a4 a5 a6 a7 A8 c8 l8 A9 c9 l9 a10 a11 A12 c12 l12)] w (TkPost w R) := by
 obtain ⟨r1, r2, r3, r4, r5, r6⟩ := R
 have HR := Aside0.mk (And.intro hr8 (And.intro hr9 hr12))
 have HC := Aside0.mk (And.intro hc8 (And.intro hc9 hc12))
 have H := Aside0.mk h
 have e1 : (a11 != 1) = true := by simp [h1]
 have HZ := Aside0.mk (show ((w.alloc (.cells (cK a0 a1 a2 a3 a4 a5 a6 a7 A8 c8 l8 A9 c9 l9 a10 a11 A12 c12 l12) 76)).alloc (.cells #[.int .i64 0, .int .i64 0, .int .i64 0, .int .i64 0] 34)).heap[w.heap.size + 1]? = some (.cells #[.int .i64 0, .int .i64 0, .int .i64 0, .int .i64 0] 34 (0, 0)) from by
  have h2 := heap_alloc_new (w.alloc (.cells (cK a0 a1 a2 a3 a4 a5 a6 a7 A8 c8 l8 A9 c9 l9 a10 a11 A12 c12 l12) 76)) (.cells #[.int .i64 0, .int .i64 0, .int .i64 0, .int .i64 0] 34)
  rwa [World.size_alloc] at h2)
 have HB := Aside0.mk (below_alloc (below_alloc (Below.refl w.heap.size w) (.cells (cK a0 a1 a2 a3 a4 a5 a6 a7 A8 c8 l8 A9 c9 l9 a10 a11 A12 c12 l12) 76)) (.cells #[.int .i64 0, .int .i64 0, .int .i64 0, .int .i64 0] 34))
 clear hr8 hc8 hr9 hc9 hr12 hc12 h h1
 go_enter Tryd.func33, Tryd.ntmps33
 go_wp2_with (first | (go_at_call 49; have hh := session_call_out.calls a0 a1 a2 a3 a4 a5 a6 a7 A8 c8 l8 A9 c9 l9 a10 a11 A12 c12 l12 r1 r2 r3 r4 r5 r6 _ (Kd.C_below HR.out.1 HB.out) HC.out.1 (Kd.C_below HR.out.2.1 HB.out) HC.out.2.1 (Kd.C_below HR.out.2.2 HB.out) HC.out.2.2 H.out; (with_reducible refine hh.mono ?_); clear hh; rintro e w1 ⟨v4, rfl, hv4, hb1⟩; have hz1 := blk_below HZ.out hb1; have y0 : w1.cell? ⟨w.heap.size + 1, 0, none⟩ = some (.int .i64 0) := (blk_cell hz1 0).trans rfl; have y1 : w1.cell? ⟨w.heap.size + 1, 1, none⟩ = some (.int .i64 0) := (blk_cell hz1 1).trans rfl; have y2 : w1.cell? ⟨w.heap.size + 1, 2, none⟩ = some (.int .i64 0) := (blk_cell hz1 2).trans rfl; have y3 : w1.cell? ⟨w.heap.size + 1, 3, none⟩ = some (.int .i64 0) := (blk_cell hz1 3).trans rfl; have f0 := blk_frozen hz1 0; have f1 := blk_frozen hz1 1; have f2 := blk_frozen hz1 2; have f3 := blk_frozen hz1 3; have HZ1 := Aside0.mk hz1; have HV4 := Aside0.mk hv4; have HB1 := Aside0.mk (below_step HB.out hb1); have HB0 := Aside0.mk hb1; clear hz1 hv4 hb1))
 obtain ⟨hq1, hq2, hq3, hq4⟩ := sess_puts HB1.out (by omega) HZ1.out (.int .i64 r1) (.int .i64 r2) (.int .i64 r3) (.int .i64 r4) rfl
 refine sent_end hq1 rfl rfl rfl ?_ hq3
 have hv := Kd.V_step (Kd.N_V (base' := w.heap.size) HV4.out) (fun k hk hl => hq2 k (by have := hk; rw [World.size_alloc, World.size_alloc] at this; omega))
 exact Kd.V_mono hv (fun k hk => by have := hk; rw [World.size_alloc, World.size_alloc] at this; omega)
theorem quiet_drawn {w w' : World} {n : Nat} {e e' : Ending} (h : e = e' ∧ Drawn0 (w.drewN n) w') : e = e' ∧ ∃ m, w' = w.drewN m := by
 obtain ⟨he, ⟨⟨m, hm⟩⟩⟩ := h
 subst hm
 exact ⟨he, (Drawn0.step (Drawn0.step (Drawn0.refl w) n) m).1⟩
theorem alive_row {w W : World} {g : Nat} (hb : W.heap[g]? = some (.cells #[.int .i64 4, .slice none 0 0] 45 (0, 0))) (hg : w.heap.size ≤ g) : Kd.V k45 45 W w.heap.size (fun k_ => w.heap.size ≤ k_) (.slice (some ⟨g, 0, none⟩) 1 1) [⟨4, []⟩] := by
 refine ⟨some ⟨g, 0, none⟩, 1, rfl, Nat.le_refl _, fun W' hW => ?_⟩
 have hb2 : W'.heap[g]? = some (.cells #[.int .i64 4, .slice none 0 0] 45 (0, 0)) := (hW g hg (blk_lt hb)).trans hb
 refine ⟨rfl, by simp, fun _ => ⟨_, rfl, fun j p hj => ?_⟩⟩
 rcases j with _ | j
 ·
  simp only [List.getElem?_cons_zero, Option.some.injEq] at hj
  subst hj
  refine ⟨_, ?_, k45_mk _ (⟨4, []⟩ : S45) (A1 := none) (c1 := 0) (Nat.le_refl _) (Kd.C_nil _ _), fun i u hu => ?_⟩
  ·
   rfl
  rcases i with _ | _ | i
  ·
   simp only [List.getElem?_cons_zero, Option.some.injEq] at hu
   subst hu
   exact (blk_cell hb2 0).trans rfl
  ·
   simp only [List.getElem?_cons_zero, List.getElem?_cons_succ, Option.some.injEq] at hu
   subst hu
   exact (blk_cell hb2 1).trans rfl
  ·
   simp at hu
 ·
  simp at hj
theorem sent_done {w W : World} {tmps : Array Value} {m : Int} {g : Nat} (hB : Below w.heap.size w W) (hZ : W.heap[w.heap.size + 1]? = some (.cells #[.int .i64 0, .int .i64 0, .int .i64 0, .int .i64 0] 34 (0, 0))) (hg : g = W.heap.size)
  (t2 : tmps[2]?.getD undef = .pointer (some ⟨w.heap.size + 1, 0, none⟩)) (t3 : tmps[3]?.getD undef = .slice (some ⟨g, 0, none⟩) 1 1) (t4 : tmps[4]?.getD undef = .bool false) :
  bodyPost Tryd.prog Tryd.f33 (TkPost w (2, m, m, wrap64 (Int.tdiv m 3), [⟨4, []⟩], false)) Exit.ret { tmps := tmps, defers := [] } (((((W.setCell ⟨w.heap.size + 1, 0, none⟩ (.int .i64 2)).setCell ⟨w.heap.size + 1, 1, none⟩ (.int .i64 m)).setCell ⟨w.heap.size + 1, 2, none⟩ (.int .i64 m)).setCell ⟨w.heap.size + 1, 3, none⟩ (.int .i64 (wrap64 (Int.tdiv m 3)))).alloc (.cells #[.int .i64 4, .slice none 0 0] 45)) := by
 subst hg
 have hlt := blk_lt hZ
 obtain ⟨W7, hW7⟩ : ∃ W7, W7 = (((W.setCell ⟨w.heap.size + 1, 0, none⟩ (.int .i64 2)).setCell ⟨w.heap.size + 1, 1, none⟩ (.int .i64 m)).setCell ⟨w.heap.size + 1, 2, none⟩ (.int .i64 m)).setCell ⟨w.heap.size + 1, 3, none⟩ (.int .i64 (wrap64 (Int.tdiv m 3))) := ⟨_, rfl⟩
 obtain ⟨hq1, hq2, hq3, hq4⟩ := sess_puts hB (by omega) hZ (.int .i64 2) (.int .i64 m) (.int .i64 m) (.int .i64 (wrap64 (Int.tdiv m 3))) hW7
 rw [← hW7]
 have h2 := heap_alloc_new W7 (.cells #[.int .i64 4, .slice none 0 0] 45)
 rw [hq4] at h2
 exact sent_end (blk_alloc hq1 _) t2 t3 t4 (alive_row h2 (by omega)) (below_alloc hq3 _)
theorem sent_told {w W W1 : World} {tmps : Array Value} {r1 r2 r3 r4 : Int} {l : List S45} {v : Value} {b : Bool} (hB : Below w.heap.size w W) (hs : w.heap.size + 1 < W1.heap.size) (hZ : W.heap[w.heap.size + 1]? = some (.cells #[.int .i64 0, .int .i64 0, .int .i64 0, .int .i64 0] 34 (0, 0))) (hV : Kd.N k45 45 W W1.heap.size (fun k_ => W1.heap.size ≤ k_) v l)
  (t2 : tmps[2]?.getD undef = .pointer (some ⟨w.heap.size + 1, 0, none⟩)) (t3 : tmps[3]?.getD undef = v) (t4 : tmps[4]?.getD undef = .bool b) :
  bodyPost Tryd.prog Tryd.f33 (TkPost w (r1, r2, r3, r4, l, b)) Exit.ret { tmps := tmps, defers := [] } ((((W.setCell ⟨w.heap.size + 1, 0, none⟩ (.int .i64 r1)).setCell ⟨w.heap.size + 1, 1, none⟩ (.int .i64 r2)).setCell ⟨w.heap.size + 1, 2, none⟩ (.int .i64 r3)).setCell ⟨w.heap.size + 1, 3, none⟩ (.int .i64 r4)) := by
 obtain ⟨hq1, hq2, hq3, hq4⟩ := sess_puts hB (by omega) hZ (.int .i64 r1) (.int .i64 r2) (.int .i64 r3) (.int .i64 r4) rfl
 refine sent_end hq1 t2 t3 t4 ?_ hq3
 have hv := Kd.V_step (Kd.N_V (base' := w.heap.size) hV) (fun k hk hl => hq2 k (by have := hk; omega))
 exact Kd.V_mono hv (fun k hk => by have := hk; omega)
set_option maxHeartbeats 8000000 in
set_option maxRecDepth 100000 in
theorem sent_in (a0 a1 a2 a3 a4 a5 a6 a7 : Int) (A8 : Option Addr) (c8 : Nat) (l8 : List S62) (A9 : Option Addr) (c9 : Nat) (l9 : List S31) (n : Nat) (A12 : Option Addr) (c12 : Nat) (l12 : List Int) (R : TkR) (w : World) (s : S31) (g1 g2 g3 g4 g5 g6 : Int) (g7 : List Int)
  (hr8 : Kd.C k62 w A8 l8.length l8) (hc8 : l8.length ≤ c8) (hr9 : Kd.C k31 w A9 l9.length l9) (hc9 : l9.length ≤ c9) (hr12 : Kd.C (Kd.int .u8) w A12 l12.length l12) (hc12 : l12.length ≤ c12) (hG : GOK w)
  (hn : n < l9.length) (hs : rd_T31 l9 (n : Int) = s) (hg : open_Get.f 1 l12 s.f0 = some (g1, g2, g3, g4, g5, g6, g7))
  (h : (if g5 = 0 then (if g4 ≥ 0 then (role_Mine.f s.f1).bind fun mi => (role_Pairs.f mi g4).bind fun pb => if pb = true then some (sentEnd a6 (g1, g2, g3, g4, g5, g6, g7)) else session_call_ends.f a0 a1 a2 a3 a4 a5 a6 a7 l8 l9 (n : Int) 1 l12 2 11 [] else some (sentEnd a6 (g1, g2, g3, g4, g5, g6, g7))) else session_call_ends.f a0 a1 a2 a3 a4 a5 a6 a7 l8 l9 (n : Int) 1 l12 g5 g6 g7) = some R) :
  Calls Tryd.prog 33 #[.agg (cK a0 a1 a2 a3 a4 a5 a6 a7 A8 c8 l8 A9 c9 l9 (n : Int) 1 A12 c12 l12)] w (TkPost w R) := by
 obtain ⟨r1, r2, r3, r4, r5, r6⟩ := R
 obtain ⟨ad, B2, d2, B3, d3, e, x0, x1, x2, x3, hd2, hq2, hd3, hq3⟩ := at_T31 hr9 (n : Int) (by omega) (by omega)
 subst e
 rw [hs] at x0 x1 x2 x3
 simp only [Int.toNat_natCast] at x0 x1 x2 x3
 obtain ⟨s0, s1, s2, s3⟩ := s
 dsimp only at x0 x1 x2 x3 hg h
 have hbA := below_alloc (below_alloc (Below.refl w.heap.size w) (.cells (cK a0 a1 a2 a3 a4 a5 a6 a7 A8 c8 l8 (some ad) c9 l9 (n : Int) 1 A12 c12 l12) 76)) (.cells #[.int .i64 0, .int .i64 0, .int .i64 0, .int .i64 0] 34)
 replace x0 := pw_cell_below hbA x0
 replace x1 := pw_cell_below hbA x1
 replace x2 := pw_cell_below hbA x2
 replace x3 := pw_cell_below hbA x3
 clear hbA
 have nb : (n : Int) < (l9.length : Int) := by omega
 have HR := Aside0.mk (And.intro hr8 (And.intro hr9 hr12))
 have HC := Aside0.mk (And.intro hc8 (And.intro hc9 hc12))
 have HGK := Aside0.mk hG
 have HO := Aside0.mk hg
 obtain ⟨W0, hW0⟩ : ∃ W0, W0 = ((w.alloc (.cells (cK a0 a1 a2 a3 a4 a5 a6 a7 A8 c8 l8 (some ad) c9 l9 (n : Int) 1 A12 c12 l12) 76)).alloc (.cells #[.int .i64 0, .int .i64 0, .int .i64 0, .int .i64 0] 34)).alloc (.cells #[.int .i64 s0, .int .i64 s1, .slice B2 s2.length d2, .slice B3 s3.length d3] 31) := ⟨_, rfl⟩
 have hb0 : Below w.heap.size w W0 := by rw [hW0]; exact below_alloc (below_alloc (below_alloc (Below.refl w.heap.size w) _) _) _
 have hz0 : W0.heap[w.heap.size + 1]? = some (.cells #[.int .i64 0, .int .i64 0, .int .i64 0, .int .i64 0] 34 (0, 0)) := by
  have h2 := heap_alloc_new (w.alloc (.cells (cK a0 a1 a2 a3 a4 a5 a6 a7 A8 c8 l8 (some ad) c9 l9 (n : Int) 1 A12 c12 l12) 76)) (.cells #[.int .i64 0, .int .i64 0, .int .i64 0, .int .i64 0] 34)
  rw [World.size_alloc] at h2
  rw [hW0]; exact blk_alloc h2 _
 have hk0 : W0.heap[w.heap.size]? = some (.cells (cK a0 a1 a2 a3 a4 a5 a6 a7 A8 c8 l8 (some ad) c9 l9 (n : Int) 1 A12 c12 l12) 76 (0, 0)) := by
  rw [hW0]; exact blk_alloc (blk_alloc (heap_alloc_new w _) _) _
 have ht0 : W0.heap[w.heap.size + 1 + 1]? = some (.cells #[.int .i64 s0, .int .i64 s1, .slice B2 s2.length d2, .slice B3 s3.length d3] 31 (0, 0)) := by
  have h2 := heap_alloc_new ((w.alloc (.cells (cK a0 a1 a2 a3 a4 a5 a6 a7 A8 c8 l8 (some ad) c9 l9 (n : Int) 1 A12 c12 l12) 76)).alloc (.cells #[.int .i64 0, .int .i64 0, .int .i64 0, .int .i64 0] 34)) (.cells #[.int .i64 s0, .int .i64 s1, .slice B2 s2.length d2, .slice B3 s3.length d3] 31)
  rw [World.size_alloc, World.size_alloc] at h2
  rw [hW0]; exact h2
 have HZ := Aside0.mk (And.intro hb0 (And.intro hz0 (And.intro hk0 ht0)))
 have HW0 := Aside0.mk hW0
 clear hr8 hc8 hr9 hc9 hr12 hc12 hG hg hd2 hq2 hd3 hq3 hs hb0 hz0 hk0 ht0 hW0
 by_cases c5 : g5 = 0
 ·
  subst c5
  rw [if_pos rfl] at h
  by_cases c4 : g4 ≥ 0
  ·
   rw [if_pos c4] at h
   have e4 : decide (0 ≤ g4) = true := decide_eq_true c4
   obtain ⟨mi, hmi, h⟩ := Option.bind_eq_some_iff.mp h
   obtain ⟨pb, hpb, h⟩ := Option.bind_eq_some_iff.mp h
   have HMI := Aside0.mk hmi
   have HPB := Aside0.mk hpb
   clear hmi hpb c4
   cases pb
   ·
    rw [if_neg (by decide)] at h
    have H := Aside0.mk h
    clear h
    go_enter Tryd.func33, Tryd.ntmps33
    go_wp2_with (first | (go_at_call 50; have hh := open_Get.calls 1 A12 c12 l12 s0 g1 g2 g3 g4 0 g6 g7 _ (Kd.C_below HR.out.2.2 HZ.out.1) HC.out.2.2 HO.out; rw [HW0.out] at hh; (with_reducible refine hh.mono ?_); clear hh; rintro e w2 ⟨v6, rfl, hv6, hb2'⟩; have hb2 : Below W0.heap.size W0 w2 := (by rw [HW0.out]; exact hb2'); obtain ⟨A7, c7, rfl, hc7, hF7⟩ := hv6; have hk2 := blk_below HZ.out.2.2.1 hb2; have u0 : w2.cell? ⟨w.heap.size, 0, none⟩ = some (.int .i64 a0) := (blk_cell hk2 0).trans rfl; have u1 : w2.cell? ⟨w.heap.size, 1, none⟩ = some (.int .i64 a1) := (blk_cell hk2 1).trans rfl; have u2 : w2.cell? ⟨w.heap.size, 2, none⟩ = some (.int .i64 a2) := (blk_cell hk2 2).trans rfl; have u3 : w2.cell? ⟨w.heap.size, 3, none⟩ = some (.int .i64 a3) := (blk_cell hk2 3).trans rfl; have u4 : w2.cell? ⟨w.heap.size, 4, none⟩ = some (.int .i64 a4) := (blk_cell hk2 4).trans rfl; have u5 : w2.cell? ⟨w.heap.size, 5, none⟩ = some (.int .i64 a5) := (blk_cell hk2 5).trans rfl; have u6 : w2.cell? ⟨w.heap.size, 6, none⟩ = some (.int .i64 a6) := (blk_cell hk2 6).trans rfl; have u7 : w2.cell? ⟨w.heap.size, 7, none⟩ = some (.int .i64 a7) := (blk_cell hk2 7).trans rfl; have u8 : w2.cell? ⟨w.heap.size, 8, none⟩ = some (.slice A8 l8.length c8) := (blk_cell hk2 8).trans rfl; have u9 : w2.cell? ⟨w.heap.size, 9, none⟩ = some (.slice (some ad) l9.length c9) := (blk_cell hk2 9).trans rfl; have u10 : w2.cell? ⟨w.heap.size, 10, none⟩ = some (.int .i64 (n : Int)) := (blk_cell hk2 10).trans rfl; have u11 : w2.cell? ⟨w.heap.size, 11, none⟩ = some (.int .i64 1) := (blk_cell hk2 11).trans rfl; have u12 : w2.cell? ⟨w.heap.size, 12, none⟩ = some (.slice A12 l12.length c12) := (blk_cell hk2 12).trans rfl; have hz2 := blk_below HZ.out.2.1 hb2; have y0 : w2.cell? ⟨w.heap.size + 1, 0, none⟩ = some (.int .i64 0) := (blk_cell hz2 0).trans rfl; have y1 : w2.cell? ⟨w.heap.size + 1, 1, none⟩ = some (.int .i64 0) := (blk_cell hz2 1).trans rfl; have y2 : w2.cell? ⟨w.heap.size + 1, 2, none⟩ = some (.int .i64 0) := (blk_cell hz2 2).trans rfl; have y3 : w2.cell? ⟨w.heap.size + 1, 3, none⟩ = some (.int .i64 0) := (blk_cell hz2 3).trans rfl; have f0 := blk_frozen hz2 0; have f1 := blk_frozen hz2 1; have f2 := blk_frozen hz2 2; have f3 := blk_frozen hz2 3; have ht2 := blk_below HZ.out.2.2.2 hb2; have t0_ : w2.cell? ⟨w.heap.size + 1 + 1, 1, none⟩ = some (.int .i64 s1) := (blk_cell ht2 1).trans rfl; have hl2 : w.heap.size + 1 + 1 < w2.heap.size := blk_lt ht2; have hl3 : w.heap.size + 1 < w2.heap.size := blk_lt hz2; have hl4 : w.heap.size < w2.heap.size := blk_lt hk2; have HB2 := Aside0.mk (below_step HZ.out.1 hb2); have HZ2 := Aside0.mk hz2; have HK2 := Aside0.mk hk2; have HF7 := Aside0.mk (And.intro hc7 (Kd.F_now hF7)); clear hb2' hb2 hz2 ht2 hc7 hF7; clear hk2; have HX := Aside0.mk (show Below w.heap.size w ((w2.alloc (.cells #[.int .i64 g1, .int .i64 g2, .int .i64 g3, .int .i64 g4] 70)).alloc (.cells #[.int .i64 0, .int .i64 g6, .slice A7 g7.length c7] 41)) ∧ ((w2.alloc (.cells #[.int .i64 g1, .int .i64 g2, .int .i64 g3, .int .i64 g4] 70)).alloc (.cells #[.int .i64 0, .int .i64 g6, .slice A7 g7.length c7] 41)).heap[w.heap.size]? = some (.cells (cK a0 a1 a2 a3 a4 a5 a6 a7 A8 c8 l8 (some ad) c9 l9 (n : Int) 1 A12 c12 l12) 76 (0, 0)) ∧ ((w2.alloc (.cells #[.int .i64 g1, .int .i64 g2, .int .i64 g3, .int .i64 g4] 70)).alloc (.cells #[.int .i64 0, .int .i64 g6, .slice A7 g7.length c7] 41)).heap[w.heap.size + 1]? = some (.cells #[.int .i64 0, .int .i64 0, .int .i64 0, .int .i64 0] 34 (0, 0)) ∧ ((w2.alloc (.cells #[.int .i64 g1, .int .i64 g2, .int .i64 g3, .int .i64 g4] 70)).alloc (.cells #[.int .i64 0, .int .i64 g6, .slice A7 g7.length c7] 41)).heap[w2.heap.size]? = some (.cells #[.int .i64 g1, .int .i64 g2, .int .i64 g3, .int .i64 g4] 70 (0, 0)) ∧ Kd.C (Kd.int .u8) ((w2.alloc (.cells #[.int .i64 g1, .int .i64 g2, .int .i64 g3, .int .i64 g4] 70)).alloc (.cells #[.int .i64 0, .int .i64 g6, .slice A7 g7.length c7] 41)) A7 g7.length g7 from ⟨below_alloc (below_alloc HB2.out _) _, blk_alloc (blk_alloc HK2.out _) _, blk_alloc (blk_alloc HZ2.out _) _, blk_alloc (heap_alloc_new w2 _) _, Kd.C_below HF7.out.2 (below_alloc (below_alloc (Below.refl _ _) _) _)⟩)))
    go_quiet (first | (go_at_call 47; exact (role_Mine.calls s1 mi _ HMI.out).mono (fun e w' h => quiet_drawn h)) | (go_at_call 52; exact (role_Pairs.calls mi g4 false _ (GOK.drawn (GOK.below HGK.out HX.out.1) _) HPB.out).mono (fun e w' h => quiet_drawn h)))
    all_goals go_wp2_with (first | (go_at_call 51; have hh := session_call_ends.calls a0 a1 a2 a3 a4 a5 a6 a7 A8 c8 l8 (some ad) c9 l9 (n : Int) 1 A12 c12 l12 2 11 none 0 [] r1 r2 r3 r4 r5 r6 (((w2.alloc (.cells #[.int .i64 g1, .int .i64 g2, .int .i64 g3, .int .i64 g4] 70)).alloc (.cells #[.int .i64 0, .int .i64 g6, .slice A7 g7.length c7] 41)).drewN nq) (Kd.C_below HR.out.1 (by repeat (first | (with_reducible first | exact HX.out.1 | apply bA | apply bN | apply bD) | exact HX.out.1))) HC.out.1 (Kd.C_below HR.out.2.1 (by repeat (first | (with_reducible first | exact HX.out.1 | apply bA | apply bN | apply bD) | exact HX.out.1))) HC.out.2.1 (Kd.C_below HR.out.2.2 (by repeat (first | (with_reducible first | exact HX.out.1 | apply bA | apply bN | apply bD) | exact HX.out.1))) HC.out.2.2 (Kd.C_nil _ _) (Nat.le_refl _) H.out; (try simp only [List.length_nil] at hh); (with_reducible refine hh.mono ?_); clear hh; rintro e w9 ⟨v4, rfl, hv4, hb9⟩; have hz9 := blk_below (by (with_reducible repeat (first | refine kN ?_ _ | refine kD ?_ | refine kA ?_ _)); exact HX.out.2.2.1) hb9; have y0 : w9.cell? ⟨w.heap.size + 1, 0, none⟩ = some (.int .i64 0) := (blk_cell hz9 0).trans rfl; have y1 : w9.cell? ⟨w.heap.size + 1, 1, none⟩ = some (.int .i64 0) := (blk_cell hz9 1).trans rfl; have y2 : w9.cell? ⟨w.heap.size + 1, 2, none⟩ = some (.int .i64 0) := (blk_cell hz9 2).trans rfl; have y3 : w9.cell? ⟨w.heap.size + 1, 3, none⟩ = some (.int .i64 0) := (blk_cell hz9 3).trans rfl; have f0 := blk_frozen hz9 0; have f1 := blk_frozen hz9 1; have f2 := blk_frozen hz9 2; have f3 := blk_frozen hz9 3; have HZ9 := Aside0.mk hz9; have HV9 := Aside0.mk hv4; have HB9 := Aside0.mk (below_step (by repeat (first | (with_reducible first | exact HX.out.1 | apply bA | apply bN | apply bD) | exact HX.out.1)) hb9); have HS9 := Aside0.mk (blk_lt (by (with_reducible repeat (first | refine kN ?_ _ | refine kD ?_ | refine kA ?_ _)); exact HX.out.2.2.1)); clear hz9 hv4 hb9))
    all_goals exact sent_told HB9.out HS9.out HZ9.out HV9.out rfl rfl rfl
   ·
    rw [if_pos rfl] at h
    have hR := Option.some.inj h
    simp only [sentEnd, Prod.mk.injEq] at hR
    obtain ⟨m, hm⟩ : ∃ m, mn a6 g2 = m := ⟨_, rfl⟩
    rw [hm] at hR
    have hm_ : (if g2 < a6 then g2 else a6) = m := hm
    obtain ⟨rfl, rfl, rfl, rfl, rfl, rfl⟩ := hR
    clear h hm
    go_enter Tryd.func33, Tryd.ntmps33
    go_wp2_with (first | (go_at_call 50; have hh := open_Get.calls 1 A12 c12 l12 s0 g1 g2 g3 g4 0 g6 g7 _ (Kd.C_below HR.out.2.2 HZ.out.1) HC.out.2.2 HO.out; rw [HW0.out] at hh; (with_reducible refine hh.mono ?_); clear hh; rintro e w2 ⟨v6, rfl, hv6, hb2'⟩; have hb2 : Below W0.heap.size W0 w2 := (by rw [HW0.out]; exact hb2'); obtain ⟨A7, c7, rfl, hc7, hF7⟩ := hv6; have hk2 := blk_below HZ.out.2.2.1 hb2; have u0 : w2.cell? ⟨w.heap.size, 0, none⟩ = some (.int .i64 a0) := (blk_cell hk2 0).trans rfl; have u1 : w2.cell? ⟨w.heap.size, 1, none⟩ = some (.int .i64 a1) := (blk_cell hk2 1).trans rfl; have u2 : w2.cell? ⟨w.heap.size, 2, none⟩ = some (.int .i64 a2) := (blk_cell hk2 2).trans rfl; have u3 : w2.cell? ⟨w.heap.size, 3, none⟩ = some (.int .i64 a3) := (blk_cell hk2 3).trans rfl; have u4 : w2.cell? ⟨w.heap.size, 4, none⟩ = some (.int .i64 a4) := (blk_cell hk2 4).trans rfl; have u5 : w2.cell? ⟨w.heap.size, 5, none⟩ = some (.int .i64 a5) := (blk_cell hk2 5).trans rfl; have u6 : w2.cell? ⟨w.heap.size, 6, none⟩ = some (.int .i64 a6) := (blk_cell hk2 6).trans rfl; have u7 : w2.cell? ⟨w.heap.size, 7, none⟩ = some (.int .i64 a7) := (blk_cell hk2 7).trans rfl; have u8 : w2.cell? ⟨w.heap.size, 8, none⟩ = some (.slice A8 l8.length c8) := (blk_cell hk2 8).trans rfl; have u9 : w2.cell? ⟨w.heap.size, 9, none⟩ = some (.slice (some ad) l9.length c9) := (blk_cell hk2 9).trans rfl; have u10 : w2.cell? ⟨w.heap.size, 10, none⟩ = some (.int .i64 (n : Int)) := (blk_cell hk2 10).trans rfl; have u11 : w2.cell? ⟨w.heap.size, 11, none⟩ = some (.int .i64 1) := (blk_cell hk2 11).trans rfl; have u12 : w2.cell? ⟨w.heap.size, 12, none⟩ = some (.slice A12 l12.length c12) := (blk_cell hk2 12).trans rfl; have hz2 := blk_below HZ.out.2.1 hb2; have y0 : w2.cell? ⟨w.heap.size + 1, 0, none⟩ = some (.int .i64 0) := (blk_cell hz2 0).trans rfl; have y1 : w2.cell? ⟨w.heap.size + 1, 1, none⟩ = some (.int .i64 0) := (blk_cell hz2 1).trans rfl; have y2 : w2.cell? ⟨w.heap.size + 1, 2, none⟩ = some (.int .i64 0) := (blk_cell hz2 2).trans rfl; have y3 : w2.cell? ⟨w.heap.size + 1, 3, none⟩ = some (.int .i64 0) := (blk_cell hz2 3).trans rfl; have f0 := blk_frozen hz2 0; have f1 := blk_frozen hz2 1; have f2 := blk_frozen hz2 2; have f3 := blk_frozen hz2 3; have ht2 := blk_below HZ.out.2.2.2 hb2; have t0_ : w2.cell? ⟨w.heap.size + 1 + 1, 1, none⟩ = some (.int .i64 s1) := (blk_cell ht2 1).trans rfl; have hl2 : w.heap.size + 1 + 1 < w2.heap.size := blk_lt ht2; have hl3 : w.heap.size + 1 < w2.heap.size := blk_lt hz2; have hl4 : w.heap.size < w2.heap.size := blk_lt hk2; have HB2 := Aside0.mk (below_step HZ.out.1 hb2); have HZ2 := Aside0.mk hz2; have HK2 := Aside0.mk hk2; have HF7 := Aside0.mk (And.intro hc7 (Kd.F_now hF7)); clear hb2' hb2 hz2 ht2 hc7 hF7; clear hk2; have HX := Aside0.mk (show Below w.heap.size w ((w2.alloc (.cells #[.int .i64 g1, .int .i64 g2, .int .i64 g3, .int .i64 g4] 70)).alloc (.cells #[.int .i64 0, .int .i64 g6, .slice A7 g7.length c7] 41)) ∧ ((w2.alloc (.cells #[.int .i64 g1, .int .i64 g2, .int .i64 g3, .int .i64 g4] 70)).alloc (.cells #[.int .i64 0, .int .i64 g6, .slice A7 g7.length c7] 41)).heap[w.heap.size]? = some (.cells (cK a0 a1 a2 a3 a4 a5 a6 a7 A8 c8 l8 (some ad) c9 l9 (n : Int) 1 A12 c12 l12) 76 (0, 0)) ∧ ((w2.alloc (.cells #[.int .i64 g1, .int .i64 g2, .int .i64 g3, .int .i64 g4] 70)).alloc (.cells #[.int .i64 0, .int .i64 g6, .slice A7 g7.length c7] 41)).heap[w.heap.size + 1]? = some (.cells #[.int .i64 0, .int .i64 0, .int .i64 0, .int .i64 0] 34 (0, 0)) ∧ ((w2.alloc (.cells #[.int .i64 g1, .int .i64 g2, .int .i64 g3, .int .i64 g4] 70)).alloc (.cells #[.int .i64 0, .int .i64 g6, .slice A7 g7.length c7] 41)).heap[w2.heap.size]? = some (.cells #[.int .i64 g1, .int .i64 g2, .int .i64 g3, .int .i64 g4] 70 (0, 0)) ∧ Kd.C (Kd.int .u8) ((w2.alloc (.cells #[.int .i64 g1, .int .i64 g2, .int .i64 g3, .int .i64 g4] 70)).alloc (.cells #[.int .i64 0, .int .i64 g6, .slice A7 g7.length c7] 41)) A7 g7.length g7 from ⟨below_alloc (below_alloc HB2.out _) _, blk_alloc (blk_alloc HK2.out _) _, blk_alloc (blk_alloc HZ2.out _) _, blk_alloc (heap_alloc_new w2 _) _, Kd.C_below HF7.out.2 (below_alloc (below_alloc (Below.refl _ _) _) _)⟩)))
    go_quiet (first | (go_at_call 47; exact (role_Mine.calls s1 mi _ HMI.out).mono (fun e w' h => quiet_drawn h)) | (go_at_call 52; exact (role_Pairs.calls mi g4 true _ (GOK.drawn (GOK.below HGK.out HX.out.1) _) HPB.out).mono (fun e w' h => quiet_drawn h)))
    all_goals go_wp2
    all_goals exact sent_done (by (with_reducible repeat (first | apply bN | apply bD)); exact HX.out.1) (by (with_reducible repeat (first | refine kN ?_ _ | refine kD ?_)); exact HX.out.2.2.1) (by show _ = (((w2.alloc (.cells #[.int .i64 g1, .int .i64 g2, .int .i64 g3, .int .i64 g4] 70)).alloc (.cells #[.int .i64 0, .int .i64 g6, .slice A7 g7.length c7] 41))).heap.size; rw [World.size_alloc, World.size_alloc]) rfl rfl rfl
  ·
   rw [if_neg c4] at h
   have e4 : decide (0 ≤ g4) = false := decide_eq_false (by omega)
   have hR := Option.some.inj h
   simp only [sentEnd, Prod.mk.injEq] at hR
   obtain ⟨m, hm⟩ : ∃ m, mn a6 g2 = m := ⟨_, rfl⟩
   rw [hm] at hR
   have hm_ : (if g2 < a6 then g2 else a6) = m := hm
   obtain ⟨rfl, rfl, rfl, rfl, rfl, rfl⟩ := hR
   clear h c4 hm
   go_enter Tryd.func33, Tryd.ntmps33
   go_wp2_with (first | (go_at_call 50; have hh := open_Get.calls 1 A12 c12 l12 s0 g1 g2 g3 g4 0 g6 g7 _ (Kd.C_below HR.out.2.2 HZ.out.1) HC.out.2.2 HO.out; rw [HW0.out] at hh; (with_reducible refine hh.mono ?_); clear hh; rintro e w2 ⟨v6, rfl, hv6, hb2'⟩; have hb2 : Below W0.heap.size W0 w2 := (by rw [HW0.out]; exact hb2'); obtain ⟨A7, c7, rfl, hc7, hF7⟩ := hv6; have hk2 := blk_below HZ.out.2.2.1 hb2; have u0 : w2.cell? ⟨w.heap.size, 0, none⟩ = some (.int .i64 a0) := (blk_cell hk2 0).trans rfl; have u1 : w2.cell? ⟨w.heap.size, 1, none⟩ = some (.int .i64 a1) := (blk_cell hk2 1).trans rfl; have u2 : w2.cell? ⟨w.heap.size, 2, none⟩ = some (.int .i64 a2) := (blk_cell hk2 2).trans rfl; have u3 : w2.cell? ⟨w.heap.size, 3, none⟩ = some (.int .i64 a3) := (blk_cell hk2 3).trans rfl; have u4 : w2.cell? ⟨w.heap.size, 4, none⟩ = some (.int .i64 a4) := (blk_cell hk2 4).trans rfl; have u5 : w2.cell? ⟨w.heap.size, 5, none⟩ = some (.int .i64 a5) := (blk_cell hk2 5).trans rfl; have u6 : w2.cell? ⟨w.heap.size, 6, none⟩ = some (.int .i64 a6) := (blk_cell hk2 6).trans rfl; have u7 : w2.cell? ⟨w.heap.size, 7, none⟩ = some (.int .i64 a7) := (blk_cell hk2 7).trans rfl; have u8 : w2.cell? ⟨w.heap.size, 8, none⟩ = some (.slice A8 l8.length c8) := (blk_cell hk2 8).trans rfl; have u9 : w2.cell? ⟨w.heap.size, 9, none⟩ = some (.slice (some ad) l9.length c9) := (blk_cell hk2 9).trans rfl; have u10 : w2.cell? ⟨w.heap.size, 10, none⟩ = some (.int .i64 (n : Int)) := (blk_cell hk2 10).trans rfl; have u11 : w2.cell? ⟨w.heap.size, 11, none⟩ = some (.int .i64 1) := (blk_cell hk2 11).trans rfl; have u12 : w2.cell? ⟨w.heap.size, 12, none⟩ = some (.slice A12 l12.length c12) := (blk_cell hk2 12).trans rfl; have hz2 := blk_below HZ.out.2.1 hb2; have y0 : w2.cell? ⟨w.heap.size + 1, 0, none⟩ = some (.int .i64 0) := (blk_cell hz2 0).trans rfl; have y1 : w2.cell? ⟨w.heap.size + 1, 1, none⟩ = some (.int .i64 0) := (blk_cell hz2 1).trans rfl; have y2 : w2.cell? ⟨w.heap.size + 1, 2, none⟩ = some (.int .i64 0) := (blk_cell hz2 2).trans rfl; have y3 : w2.cell? ⟨w.heap.size + 1, 3, none⟩ = some (.int .i64 0) := (blk_cell hz2 3).trans rfl; have f0 := blk_frozen hz2 0; have f1 := blk_frozen hz2 1; have f2 := blk_frozen hz2 2; have f3 := blk_frozen hz2 3; have ht2 := blk_below HZ.out.2.2.2 hb2; have t0_ : w2.cell? ⟨w.heap.size + 1 + 1, 1, none⟩ = some (.int .i64 s1) := (blk_cell ht2 1).trans rfl; have hl2 : w.heap.size + 1 + 1 < w2.heap.size := blk_lt ht2; have hl3 : w.heap.size + 1 < w2.heap.size := blk_lt hz2; have hl4 : w.heap.size < w2.heap.size := blk_lt hk2; have HB2 := Aside0.mk (below_step HZ.out.1 hb2); have HZ2 := Aside0.mk hz2; have HK2 := Aside0.mk hk2; have HF7 := Aside0.mk (And.intro hc7 (Kd.F_now hF7)); clear hb2' hb2 hz2 ht2 hc7 hF7; clear hk2; have HX := Aside0.mk (show Below w.heap.size w ((w2.alloc (.cells #[.int .i64 g1, .int .i64 g2, .int .i64 g3, .int .i64 g4] 70)).alloc (.cells #[.int .i64 0, .int .i64 g6, .slice A7 g7.length c7] 41)) ∧ ((w2.alloc (.cells #[.int .i64 g1, .int .i64 g2, .int .i64 g3, .int .i64 g4] 70)).alloc (.cells #[.int .i64 0, .int .i64 g6, .slice A7 g7.length c7] 41)).heap[w.heap.size]? = some (.cells (cK a0 a1 a2 a3 a4 a5 a6 a7 A8 c8 l8 (some ad) c9 l9 (n : Int) 1 A12 c12 l12) 76 (0, 0)) ∧ ((w2.alloc (.cells #[.int .i64 g1, .int .i64 g2, .int .i64 g3, .int .i64 g4] 70)).alloc (.cells #[.int .i64 0, .int .i64 g6, .slice A7 g7.length c7] 41)).heap[w.heap.size + 1]? = some (.cells #[.int .i64 0, .int .i64 0, .int .i64 0, .int .i64 0] 34 (0, 0)) ∧ ((w2.alloc (.cells #[.int .i64 g1, .int .i64 g2, .int .i64 g3, .int .i64 g4] 70)).alloc (.cells #[.int .i64 0, .int .i64 g6, .slice A7 g7.length c7] 41)).heap[w2.heap.size]? = some (.cells #[.int .i64 g1, .int .i64 g2, .int .i64 g3, .int .i64 g4] 70 (0, 0)) ∧ Kd.C (Kd.int .u8) ((w2.alloc (.cells #[.int .i64 g1, .int .i64 g2, .int .i64 g3, .int .i64 g4] 70)).alloc (.cells #[.int .i64 0, .int .i64 g6, .slice A7 g7.length c7] 41)) A7 g7.length g7 from ⟨below_alloc (below_alloc HB2.out _) _, blk_alloc (blk_alloc HK2.out _) _, blk_alloc (blk_alloc HZ2.out _) _, blk_alloc (heap_alloc_new w2 _) _, Kd.C_below HF7.out.2 (below_alloc (below_alloc (Below.refl _ _) _) _)⟩)))
   go_quiet (fail)
   all_goals go_wp2
   all_goals exact sent_done (by (with_reducible repeat (first | apply bN | apply bD)); exact HX.out.1) (by (with_reducible repeat (first | refine kN ?_ _ | refine kD ?_)); exact HX.out.2.2.1) (by show _ = (((w2.alloc (.cells #[.int .i64 g1, .int .i64 g2, .int .i64 g3, .int .i64 g4] 70)).alloc (.cells #[.int .i64 0, .int .i64 g6, .slice A7 g7.length c7] 41))).heap.size; rw [World.size_alloc, World.size_alloc]) rfl rfl rfl
 ·
  rw [if_neg c5] at h
  have e5 : (g5 != 0) = true := by simp [c5]
  have H := Aside0.mk h
  clear h c5
  go_enter Tryd.func33, Tryd.ntmps33
  go_wp2_with (first | (go_at_call 50; have hh := open_Get.calls 1 A12 c12 l12 s0 g1 g2 g3 g4 g5 g6 g7 _ (Kd.C_below HR.out.2.2 HZ.out.1) HC.out.2.2 HO.out; rw [HW0.out] at hh; (with_reducible refine hh.mono ?_); clear hh; rintro e w2 ⟨v6, rfl, hv6, hb2'⟩; have hb2 : Below W0.heap.size W0 w2 := (by rw [HW0.out]; exact hb2'); obtain ⟨A7, c7, rfl, hc7, hF7⟩ := hv6; have hk2 := blk_below HZ.out.2.2.1 hb2; have u0 : w2.cell? ⟨w.heap.size, 0, none⟩ = some (.int .i64 a0) := (blk_cell hk2 0).trans rfl; have u1 : w2.cell? ⟨w.heap.size, 1, none⟩ = some (.int .i64 a1) := (blk_cell hk2 1).trans rfl; have u2 : w2.cell? ⟨w.heap.size, 2, none⟩ = some (.int .i64 a2) := (blk_cell hk2 2).trans rfl; have u3 : w2.cell? ⟨w.heap.size, 3, none⟩ = some (.int .i64 a3) := (blk_cell hk2 3).trans rfl; have u4 : w2.cell? ⟨w.heap.size, 4, none⟩ = some (.int .i64 a4) := (blk_cell hk2 4).trans rfl; have u5 : w2.cell? ⟨w.heap.size, 5, none⟩ = some (.int .i64 a5) := (blk_cell hk2 5).trans rfl; have u6 : w2.cell? ⟨w.heap.size, 6, none⟩ = some (.int .i64 a6) := (blk_cell hk2 6).trans rfl; have u7 : w2.cell? ⟨w.heap.size, 7, none⟩ = some (.int .i64 a7) := (blk_cell hk2 7).trans rfl; have u8 : w2.cell? ⟨w.heap.size, 8, none⟩ = some (.slice A8 l8.length c8) := (blk_cell hk2 8).trans rfl; have u9 : w2.cell? ⟨w.heap.size, 9, none⟩ = some (.slice (some ad) l9.length c9) := (blk_cell hk2 9).trans rfl; have u10 : w2.cell? ⟨w.heap.size, 10, none⟩ = some (.int .i64 (n : Int)) := (blk_cell hk2 10).trans rfl; have u11 : w2.cell? ⟨w.heap.size, 11, none⟩ = some (.int .i64 1) := (blk_cell hk2 11).trans rfl; have u12 : w2.cell? ⟨w.heap.size, 12, none⟩ = some (.slice A12 l12.length c12) := (blk_cell hk2 12).trans rfl; have hz2 := blk_below HZ.out.2.1 hb2; have y0 : w2.cell? ⟨w.heap.size + 1, 0, none⟩ = some (.int .i64 0) := (blk_cell hz2 0).trans rfl; have y1 : w2.cell? ⟨w.heap.size + 1, 1, none⟩ = some (.int .i64 0) := (blk_cell hz2 1).trans rfl; have y2 : w2.cell? ⟨w.heap.size + 1, 2, none⟩ = some (.int .i64 0) := (blk_cell hz2 2).trans rfl; have y3 : w2.cell? ⟨w.heap.size + 1, 3, none⟩ = some (.int .i64 0) := (blk_cell hz2 3).trans rfl; have f0 := blk_frozen hz2 0; have f1 := blk_frozen hz2 1; have f2 := blk_frozen hz2 2; have f3 := blk_frozen hz2 3; have ht2 := blk_below HZ.out.2.2.2 hb2; have t0_ : w2.cell? ⟨w.heap.size + 1 + 1, 1, none⟩ = some (.int .i64 s1) := (blk_cell ht2 1).trans rfl; have hl2 : w.heap.size + 1 + 1 < w2.heap.size := blk_lt ht2; have hl3 : w.heap.size + 1 < w2.heap.size := blk_lt hz2; have hl4 : w.heap.size < w2.heap.size := blk_lt hk2; have HB2 := Aside0.mk (below_step HZ.out.1 hb2); have HZ2 := Aside0.mk hz2; have HK2 := Aside0.mk hk2; have HF7 := Aside0.mk (And.intro hc7 (Kd.F_now hF7)); clear hb2' hb2 hz2 ht2 hc7 hF7; clear hk2; have HX := Aside0.mk (show Below w.heap.size w ((w2.alloc (.cells #[.int .i64 g1, .int .i64 g2, .int .i64 g3, .int .i64 g4] 70)).alloc (.cells #[.int .i64 g5, .int .i64 g6, .slice A7 g7.length c7] 41)) ∧ ((w2.alloc (.cells #[.int .i64 g1, .int .i64 g2, .int .i64 g3, .int .i64 g4] 70)).alloc (.cells #[.int .i64 g5, .int .i64 g6, .slice A7 g7.length c7] 41)).heap[w.heap.size]? = some (.cells (cK a0 a1 a2 a3 a4 a5 a6 a7 A8 c8 l8 (some ad) c9 l9 (n : Int) 1 A12 c12 l12) 76 (0, 0)) ∧ ((w2.alloc (.cells #[.int .i64 g1, .int .i64 g2, .int .i64 g3, .int .i64 g4] 70)).alloc (.cells #[.int .i64 g5, .int .i64 g6, .slice A7 g7.length c7] 41)).heap[w.heap.size + 1]? = some (.cells #[.int .i64 0, .int .i64 0, .int .i64 0, .int .i64 0] 34 (0, 0)) ∧ ((w2.alloc (.cells #[.int .i64 g1, .int .i64 g2, .int .i64 g3, .int .i64 g4] 70)).alloc (.cells #[.int .i64 g5, .int .i64 g6, .slice A7 g7.length c7] 41)).heap[w2.heap.size]? = some (.cells #[.int .i64 g1, .int .i64 g2, .int .i64 g3, .int .i64 g4] 70 (0, 0)) ∧ Kd.C (Kd.int .u8) ((w2.alloc (.cells #[.int .i64 g1, .int .i64 g2, .int .i64 g3, .int .i64 g4] 70)).alloc (.cells #[.int .i64 g5, .int .i64 g6, .slice A7 g7.length c7] 41)) A7 g7.length g7 from ⟨below_alloc (below_alloc HB2.out _) _, blk_alloc (blk_alloc HK2.out _) _, blk_alloc (blk_alloc HZ2.out _) _, blk_alloc (heap_alloc_new w2 _) _, Kd.C_below HF7.out.2 (below_alloc (below_alloc (Below.refl _ _) _) _)⟩)) | (go_at_call 51; have hh := session_call_ends.calls a0 a1 a2 a3 a4 a5 a6 a7 A8 c8 l8 (some ad) c9 l9 (n : Int) 1 A12 c12 l12 g5 g6 A7 c7 g7 r1 r2 r3 r4 r5 r6 _ (Kd.C_below HR.out.1 HX.out.1) HC.out.1 (Kd.C_below HR.out.2.1 HX.out.1) HC.out.2.1 (Kd.C_below HR.out.2.2 HX.out.1) HC.out.2.2 HX.out.2.2.2.2 HF7.out.1 H.out; (try simp only [List.length_nil] at hh); (with_reducible refine hh.mono ?_); clear hh; rintro e w9 ⟨v4, rfl, hv4, hb9⟩; have hz9 := blk_below HX.out.2.2.1 hb9; have y0 : w9.cell? ⟨w.heap.size + 1, 0, none⟩ = some (.int .i64 0) := (blk_cell hz9 0).trans rfl; have y1 : w9.cell? ⟨w.heap.size + 1, 1, none⟩ = some (.int .i64 0) := (blk_cell hz9 1).trans rfl; have y2 : w9.cell? ⟨w.heap.size + 1, 2, none⟩ = some (.int .i64 0) := (blk_cell hz9 2).trans rfl; have y3 : w9.cell? ⟨w.heap.size + 1, 3, none⟩ = some (.int .i64 0) := (blk_cell hz9 3).trans rfl; have f0 := blk_frozen hz9 0; have f1 := blk_frozen hz9 1; have f2 := blk_frozen hz9 2; have f3 := blk_frozen hz9 3; have HZ9 := Aside0.mk hz9; have HV9 := Aside0.mk hv4; have HB9 := Aside0.mk (below_step HX.out.1 hb9); have HS9 := Aside0.mk (blk_lt HX.out.2.2.1); clear hz9 hv4 hb9))
  exact sent_told HB9.out HS9.out HZ9.out HV9.out rfl rfl rfl
theorem session_call_sent.calls (a0_0 a0_1 a0_2 a0_3 a0_4 a0_5 a0_6 a0_7 : Int) (A0_8 : Option Addr) (c0_8 : Nat) (l0_8 : List S62) (A0_9 : Option Addr) (c0_9 : Nat) (l0_9 : List S31) (a0_10 a0_11 : Int) (A0_12 : Option Addr) (c0_12 : Nat) (l0_12 : List Int) (r1 r2 r3 r4 : Int) (r5 : List S45) (r6 : Bool) (w : World)
  (hr0_8 : Kd.C k62 w A0_8 l0_8.length l0_8) (hc0_8 : l0_8.length ≤ c0_8) (hr0_9 : Kd.C k31 w A0_9 l0_9.length l0_9) (hc0_9 : l0_9.length ≤ c0_9) (hr0_12 : Kd.C (Kd.int .u8) w A0_12 l0_12.length l0_12) (hc0_12 : l0_12.length ≤ c0_12) (hG : GOK w) (h : session_call_sent.f a0_0 a0_1 a0_2 a0_3 a0_4 a0_5 a0_6 a0_7 l0_8 l0_9 a0_10 a0_11 l0_12 = some (r1, r2, r3, r4, r5, r6)) :
  Calls Tryd.prog 33 #[.agg #[.int .i64 a0_0, .int .i64 a0_1, .int .i64 a0_2, .int .i64 a0_3, .int .i64 a0_4, .int .i64 a0_5, .int .i64 a0_6, .int .i64 a0_7, .slice A0_8 l0_8.length c0_8, .slice A0_9 l0_9.length c0_9, .int .i64 a0_10, .int .i64 a0_11, .slice A0_12 l0_12.length c0_12]] w fun e w' => ∃ v4_ : Value, e = .returned (.tuple #[.agg #[.int .i64 r1, .int .i64 r2, .int .i64 r3, .int .i64 r4], v4_, .bool r6]) ∧ Kd.V k45 45 w' w.heap.size (fun k_ => w.heap.size ≤ k_) v4_ r5 ∧ Below w.heap.size w w' := by
 unfold session_call_sent.f at h
 by_cases c : a0_11 = 1
 ·
  subst c
  rw [if_pos rfl] at h
  by_cases b : 0 ≤ a0_10 ∧ a0_10 < (l0_9.length : Int)
  ·
   rw [if_pos b] at h
   obtain ⟨n, rfl⟩ : ∃ n : Nat, a0_10 = (n : Int) := ⟨a0_10.toNat, by omega⟩
   obtain ⟨⟨g1, g2, g3, g4, g5, g6, g7⟩, hg, h⟩ := Option.bind_eq_some_iff.mp h
   exact sent_in a0_0 a0_1 a0_2 a0_3 a0_4 a0_5 a0_6 a0_7 A0_8 c0_8 l0_8 A0_9 c0_9 l0_9 n A0_12 c0_12 l0_12 (r1, r2, r3, r4, r5, r6) w _ g1 g2 g3 g4 g5 g6 g7 hr0_8 hc0_8 hr0_9 hc0_9 hr0_12 hc0_12 hG (by omega) rfl hg h
  ·
   rw [if_neg b] at h
   cases h
 ·
  rw [if_neg c] at h
  exact sent_out a0_0 a0_1 a0_2 a0_3 a0_4 a0_5 a0_6 a0_7 A0_8 c0_8 l0_8 A0_9 c0_9 l0_9 a0_10 a0_11 A0_12 c0_12 l0_12 (r1, r2, r3, r4, r5, r6) w hr0_8 hc0_8 hr0_9 hc0_9 hr0_12 hc0_12 c h

/-! ### session_call_heard: function 53 -/
def session_call_heard.f (a0_0 : Int) (a0_1 : Int) (a0_2 : Int) (a0_3 : Int) (a0_4 : Int) (a0_5 : Int) (a0_6 : Int) (a0_7 : Int) (l0_8 : List (S62)) (l0_9 : List (S31)) (a0_10 : Int) (a0_11 : Int) (l0_12 : List Int) : Option (Int × Int × Int × Int × (List (S45)) × Bool) := some (3, a0_1, a0_1, a0_3, ([] : List (S45)), (a0_11 == 2))
def session_call_heard.T2 : Bool × List (List Nat × List Nat) := (true, [([], []), ([0], [0]), ([], []), ([2], [2]), ([3], [3]), ([4], [4]), ([1, 0, 1], [1]), ([6, 0, 1, 6], []), ([5, 7, 0, 1, 2, 3, 4, 5, 6, 7], [5])])
def session_call_heard.B2 : List Nat := [0, 1, 0, 4, 12, 28, 3, 67, 255]
theorem session_call_heard.tab2 : rtab .any (opsOf Tryd.f53 2) = session_call_heard.T2 := by kernel_rfl
theorem session_call_heard.bits2 : waitsOk session_call_heard.T2.2 session_call_heard.B2 = true := by kernel_rfl
set_option maxHeartbeats 8000000 in
set_option maxRecDepth 100000 in
theorem session_call_heard.calls (a0_0 : Int) (a0_1 : Int) (a0_2 : Int) (a0_3 : Int) (a0_4 : Int) (a0_5 : Int) (a0_6 : Int) (a0_7 : Int) (A0_8 : Option Addr) (c0_8 : Nat) (l0_8 : List (S62)) (A0_9 : Option Addr) (c0_9 : Nat) (l0_9 : List (S31)) (a0_10 : Int) (a0_11 : Int) (A0_12 : Option Addr) (c0_12 : Nat) (l0_12 : List Int) (r1 : Int) (r2 : Int) (r3 : Int) (r4 : Int) (r5 : List (S45)) (r6 : Bool) (w : World) (hr0_8 : Kd.C k62 w A0_8 l0_8.length l0_8) (hc0_8 : l0_8.length ≤ c0_8) (hr0_9 : Kd.C k31 w A0_9 l0_9.length l0_9) (hc0_9 : l0_9.length ≤ c0_9) (hr0_12 : Kd.C (Kd.int .u8) w A0_12 l0_12.length l0_12) (hc0_12 : l0_12.length ≤ c0_12) (h : session_call_heard.f a0_0 a0_1 a0_2 a0_3 a0_4 a0_5 a0_6 a0_7 l0_8 l0_9 a0_10 a0_11 l0_12 = some (r1, r2, r3, r4, r5, r6)) :
  Calls Tryd.prog 53 #[.agg #[.int .i64 a0_0, .int .i64 a0_1, .int .i64 a0_2, .int .i64 a0_3, .int .i64 a0_4, .int .i64 a0_5, .int .i64 a0_6, .int .i64 a0_7, .slice A0_8 l0_8.length c0_8, .slice A0_9 l0_9.length c0_9, .int .i64 a0_10, .int .i64 a0_11, .slice A0_12 l0_12.length c0_12]] w fun e w' => ∃ v4_ : Value, e = .returned (.tuple #[.agg #[.int .i64 r1, .int .i64 r2, .int .i64 r3, .int .i64 r4], v4_, .bool r6]) ∧ Kd.S k45 45 w' w.heap.size (fun _ => True) v4_ r5 ∧ Below w.heap.size w w' := by
 have hu76 := Tryd.underlying76
 have hu34 := Tryd.underlying34
 have HR0_8 := Aside0.mk hr0_8
 have HC0_8 := Aside0.mk hc0_8
 clear hr0_8 hc0_8
 have HR0_9 := Aside0.mk hr0_9
 have HC0_9 := Aside0.mk hc0_9
 clear hr0_9 hc0_9
 have HR0_12 := Aside0.mk hr0_12
 have HC0_12 := Aside0.mk hc0_12
 clear hr0_12 hc0_12
 have HB := Aside0.mk (Below.refl w.heap.size w)
 have H : (some (3, a0_1, a0_1, a0_3, ([] : List (S45)), (a0_11 == 2))) = some (r1, r2, r3, r4, r5, r6) := h
 clear h
 simp only [Option.some.injEq, Prod.mk.injEq] at H
 obtain ⟨rfl, rfl, rfl, rfl, rfl, rfl⟩ := H
 go_enter Tryd.func53, Tryd.ntmps53
 try go_wp2_with (first | ((with_reducible refine gate_dst (N := 1) rfl ?_); refine box_event ?hg (N := 1) ?hd (cs := #[.int .i64 a0_0, .int .i64 a0_1, .int .i64 a0_2, .int .i64 a0_3, .int .i64 a0_4, .int .i64 a0_5, .int .i64 a0_6, .int .i64 a0_7, .slice A0_8 l0_8.length c0_8, .slice A0_9 l0_9.length c0_9, .int .i64 a0_10, .int .i64 a0_11, .slice A0_12 l0_12.length c0_12]) (t := 76) ?hr ?_; (case hd | hg => rfl); (case hr => first | (go_simp; done) | (go_simp; rfl)); intro gb304 hg w2 hbox hb; obtain ⟨hy, hz⟩ := bfst (by with_reducible repeat first | exact HB.out | apply bA | apply bN | apply bD) hb hg; replace HB := hy; have BK304 := Aside0.mk (hbox); have GE304 := hz; have GW304 := GE304; clear hy hz hb hbox hg) | ((with_reducible refine gate_dst (N := 2) rfl ?_); refine box_event ?hg (N := 2) ?hd (cs := #[.int .i64 0, .int .i64 0, .int .i64 0, .int .i64 0]) (t := 34) ?hr ?_; (case hd | hg => rfl); (case hr => first | (go_simp; done) | (go_simp; rfl)); intro gb305 hg w3 hbox hb; have hz := bZ BK304.out (by with_reducible repeat first | apply bA | apply bN | apply bD | exact Below.refl _ _) hb; have hy := below_step hz hb; have n0_ := Aside0.mk (blk_below BK304.out hy); have n1_ := Aside0.mk (below_step HB.out hy); have BK305 := Aside0.mk (hbox); have n3_ := Aside0.mk (bge HB.out hz hg); have GE305 := n3_; obtain ⟨NB304_305, NB305_304⟩ := bne2 BK304.out hz hg; clear BK304; clear HB; have BK304 := n0_; have HB := n1_; have GW305 := n3_; clear n0_ n1_ n3_; clear hy hz hb hbox hg; have hnb4 := NB304_305.out; have hnc4 := NB305_304.out; obtain ⟨hcz5_0, hcz5_1, hcz5_2, hcz5_3, hcz5_4, hcz5_5, hcz5_6, hcz5_7, hcz5_8, hcz5_9, hcz5_10, hcz5_11, hcz5_12, hfz5_0, hfz5_1, hfz5_2, hfz5_3, hfz5_4, hfz5_5, hfz5_6, hfz5_7, hfz5_8, hfz5_9, hfz5_10, hfz5_11, hfz5_12⟩ := bc13 BK304.out))
 have n0_ : Aside0 (((w3.setCell ⟨gb304, 0, none⟩ (.int .i64 3)).setCell ⟨gb304, 2, none⟩ (.int .i64 a0_1)).heap[gb304]? = some (.cells #[.int .i64 3, .int .i64 a0_1, .int .i64 a0_1, .int .i64 a0_3, .int .i64 a0_4, .int .i64 a0_5, .int .i64 a0_6, .int .i64 a0_7, .slice A0_8 l0_8.length c0_8, .slice A0_9 l0_9.length c0_9, .int .i64 a0_10, .int .i64 a0_11, .slice A0_12 l0_12.length c0_12] 76 (0, 0))) := ⟨by (with_reducible repeat first | apply kN | apply kD | apply kA); refine blk_put (cs := #[.int .i64 3, .int .i64 a0_1, .int .i64 a0_2, .int .i64 a0_3, .int .i64 a0_4, .int .i64 a0_5, .int .i64 a0_6, .int .i64 a0_7, .slice A0_8 l0_8.length c0_8, .slice A0_9 l0_9.length c0_9, .int .i64 a0_10, .int .i64 a0_11, .slice A0_12 l0_12.length c0_12]) ?_ 2 _ rfl; (with_reducible repeat first | apply kN | apply kD | apply kA); refine blk_put (cs := #[.int .i64 a0_0, .int .i64 a0_1, .int .i64 a0_2, .int .i64 a0_3, .int .i64 a0_4, .int .i64 a0_5, .int .i64 a0_6, .int .i64 a0_7, .slice A0_8 l0_8.length c0_8, .slice A0_9 l0_9.length c0_9, .int .i64 a0_10, .int .i64 a0_11, .slice A0_12 l0_12.length c0_12]) ?_ 0 _ rfl; (with_reducible repeat first | apply kN | apply kD | apply kA); exact BK304.out⟩
 have n1_ : Aside0 (((w3.setCell ⟨gb304, 0, none⟩ (.int .i64 3)).setCell ⟨gb304, 2, none⟩ (.int .i64 a0_1)).heap[gb305]? = some (.cells #[.int .i64 0, .int .i64 0, .int .i64 0, .int .i64 0] 34 (0, 0))) := ⟨by (with_reducible repeat first | apply kN | apply kD | apply kA); refine blk_far ?_ NB305_304.out _; (with_reducible repeat first | apply kN | apply kD | apply kA); refine blk_far ?_ NB305_304.out _; (with_reducible repeat first | apply kN | apply kD | apply kA); exact BK305.out⟩
 have n2_ : Aside0 (Below w.heap.size w ((w3.setCell ⟨gb304, 0, none⟩ (.int .i64 3)).setCell ⟨gb304, 2, none⟩ (.int .i64 a0_1))) := ⟨by with_reducible repeat first | exact HB.out | apply bA | apply bN | apply bD | refine bS ?_ GE304.out | refine bS ?_ GE305.out⟩
 (try clear BK304)
 (try clear BK305)
 (try clear HB)
 generalize ((w3.setCell ⟨gb304, 0, none⟩ (.int .i64 3)).setCell ⟨gb304, 2, none⟩ (.int .i64 a0_1)) = w6 at n0_ n1_ n2_ ⊢
 have BK304 := n0_
 have BK305 := n1_
 have HB := n2_
 clear n0_ n1_ n2_
 replace BK304 := Aside0.mk (blk_drew BK304.out)
 replace BK305 := Aside0.mk (blk_drew BK305.out)
 replace HB := Aside0.mk (below_drew1 HB.out)
 refine start_ (n := 9) (S := fun w' => w'.cell? ⟨gb304, 0, none⟩ = some (.int .i64 3) ∧ w'.cell? ⟨gb304, 1, none⟩ = some (.int .i64 a0_1) ∧ w'.cell? ⟨gb304, 2, none⟩ = some (.int .i64 a0_1) ∧ w'.cell? ⟨gb304, 3, none⟩ = some (.int .i64 a0_3) ∧ w'.cell? ⟨gb304, 4, none⟩ = some (.int .i64 a0_4) ∧ w'.cell? ⟨gb304, 5, none⟩ = some (.int .i64 a0_5) ∧ w'.cell? ⟨gb304, 6, none⟩ = some (.int .i64 a0_6) ∧ w'.cell? ⟨gb304, 7, none⟩ = some (.int .i64 a0_7) ∧ w'.cell? ⟨gb304, 8, none⟩ = some (.slice A0_8 l0_8.length c0_8) ∧ w'.cell? ⟨gb304, 9, none⟩ = some (.slice A0_9 l0_9.length c0_9) ∧ w'.cell? ⟨gb304, 10, none⟩ = some (.int .i64 a0_10) ∧ w'.cell? ⟨gb304, 11, none⟩ = some (.int .i64 a0_11) ∧ w'.cell? ⟨gb304, 12, none⟩ = some (.slice A0_12 l0_12.length c0_12)) (ds := []) #[false, false, false, false, false, false, false, false, false] (by kernel_rfl) rfl rfl ⟨(blk_cell BK304.out 0).trans rfl, (blk_cell BK304.out 1).trans rfl, (blk_cell BK304.out 2).trans rfl, (blk_cell BK304.out 3).trans rfl, (blk_cell BK304.out 4).trans rfl, (blk_cell BK304.out 5).trans rfl, (blk_cell BK304.out 6).trans rfl, (blk_cell BK304.out 7).trans rfl, (blk_cell BK304.out 8).trans rfl, (blk_cell BK304.out 9).trans rfl, (blk_cell BK304.out 10).trans rfl, (blk_cell BK304.out 11).trans rfl, (blk_cell BK304.out 12).trans rfl⟩ (fun hHeld => ?_); refine with_tabW session_call_heard.tab2 session_call_heard.bits2 (fun HT_ HW_ => ?_)
 generalize w6.drew = w7 at BK304 BK305 HB hHeld ⊢
 refine pure_ (i := 0) (N := some 12) (v := ?_) (a' := ?_) #[true, false, false, false, false, false, false, false, false] rfl rfl (any_of HT_.out (by kernel_rfl)) (fun _ _ _ h => h) (Or.inl ⟨by rfl, ?_⟩) ?_ ?_
 rotate_left; · intro w'; go_simp; with_reducible rfl
 rotate_left; · simp only [Act.put, sA, sB, sC, i64_w, i32_w]; rfl
 refine pure_ (i := 2) (N := some 14) (v := ?_) (a' := ?_) #[true, false, true, false, false, false, false, false, false] rfl rfl (any_of HT_.out (by kernel_rfl)) (fun _ _ _ h => h) (Or.inl ⟨by rfl, ?_⟩) ?_ ?_
 rotate_left; · intro w'; go_simp; with_reducible rfl
 rotate_left; · simp only [Act.put, sA, sB, sC, i64_w, i32_w]; rfl
 refine pure_ (i := 3) (N := some 15) (v := ?_) (a' := ?_) #[true, false, true, true, false, false, false, false, false] rfl rfl (any_of HT_.out (by kernel_rfl)) (fun _ _ _ h => h) (Or.inl ⟨by rfl, ?_⟩) ?_ ?_
 rotate_left; · intro w'; go_simp; with_reducible rfl
 rotate_left; · simp only [Act.put, sA, sB, sC, i64_w, i32_w]; rfl
 refine take_ (i := 1) (N := some 13) (v := ?_) (a' := ?_) #[true, true, true, true, false, false, false, false, false] rfl rfl (take_ofW HT_.out HW_.out (by kernel_rfl)) (fun _ _ _ h => h) (Or.inl ⟨by rfl, ?_⟩) hHeld ?_ ?_
 rotate_left; · rintro w' ⟨s0, s1, s2, s3, s4, s5, s6, s7, s8, s9, s10, s11, s12⟩; go_simp; with_reducible rfl
 rotate_left; · simp only [Act.put, sA, sB, sC, i64_w, i32_w]; rfl
 refine take_ (i := 4) (N := some 16) (v := ?_) (a' := ?_) #[true, true, true, true, true, false, false, false, false] rfl rfl (take_ofW HT_.out HW_.out (by kernel_rfl)) (fun _ _ _ h => h) (Or.inl ⟨by rfl, ?_⟩) hHeld ?_ ?_
 rotate_left; · rintro w' ⟨s0, s1, s2, s3, s4, s5, s6, s7, s8, s9, s10, s11, s12⟩; go_simp; with_reducible rfl
 rotate_left; · simp only [Act.put, sA, sB, sC, i64_w, i32_w]; rfl
 refine pure_ (i := 5) (N := some 17) (v := ?_) (a' := ?_) #[true, true, true, true, true, true, false, false, false] rfl rfl (any_of HT_.out (by kernel_rfl)) (fun _ _ _ h => h) (Or.inl ⟨by rfl, ?_⟩) ?_ ?_
 rotate_left; · intro w'; go_simp; with_reducible rfl
 rotate_left; · simp only [Act.put, sA, sB, sC, i64_w, i32_w]; rfl
 refine one_ (i := 6) (N := none) #[true, true, true, true, true, true, true, false, false] rfl rfl (one_of HT_.out (by kernel_rfl)) (by decide) (fun K hK => ?_)
 have hs8 : w7.cell? ⟨gb305, 0, none⟩ = some (.int .i64 0) := (blk_cell BK305.out 0).trans rfl
 have hfs8 := blk_frozen BK305.out 0
 have hns8_0 := NB304_305.out
 have hms8_0 := NB305_304.out
 have hs9 : w7.cell? ⟨gb305, 1, none⟩ = some (.int .i64 0) := (blk_cell BK305.out 1).trans rfl
 have hfs9 := blk_frozen BK305.out 1
 have hns9_0 := NB304_305.out
 have hms9_0 := NB305_304.out
 have hs10 : w7.cell? ⟨gb305, 2, none⟩ = some (.int .i64 0) := (blk_cell BK305.out 2).trans rfl
 have hfs10 := blk_frozen BK305.out 2
 have hns10_0 := NB304_305.out
 have hms10_0 := NB305_304.out
 have hs11 : w7.cell? ⟨gb305, 3, none⟩ = some (.int .i64 0) := (blk_cell BK305.out 3).trans rfl
 have hfs11 := blk_frozen BK305.out 3
 have hns11_0 := NB304_305.out
 have hms11_0 := NB305_304.out
 refine skip_ (w1 := ?_) (by rfl) rfl ?_ ?_
 rotate_left
 ·
  go_simp
  rfl
 refine hK.out _ _ ⟨((cell_far (p := ⟨gb305, _, none⟩) NB304_305.out _).trans (((cell_far (p := ⟨gb305, _, none⟩) NB304_305.out _).trans (((cell_far (p := ⟨gb305, _, none⟩) NB304_305.out _).trans (((cell_far (p := ⟨gb305, _, none⟩) NB304_305.out _).trans (hHeld.1)))))))), ((cell_far (p := ⟨gb305, _, none⟩) NB304_305.out _).trans (((cell_far (p := ⟨gb305, _, none⟩) NB304_305.out _).trans (((cell_far (p := ⟨gb305, _, none⟩) NB304_305.out _).trans (((cell_far (p := ⟨gb305, _, none⟩) NB304_305.out _).trans (hHeld.2.1)))))))), ((cell_far (p := ⟨gb305, _, none⟩) NB304_305.out _).trans (((cell_far (p := ⟨gb305, _, none⟩) NB304_305.out _).trans (((cell_far (p := ⟨gb305, _, none⟩) NB304_305.out _).trans (((cell_far (p := ⟨gb305, _, none⟩) NB304_305.out _).trans (hHeld.2.2.1)))))))), ((cell_far (p := ⟨gb305, _, none⟩) NB304_305.out _).trans (((cell_far (p := ⟨gb305, _, none⟩) NB304_305.out _).trans (((cell_far (p := ⟨gb305, _, none⟩) NB304_305.out _).trans (((cell_far (p := ⟨gb305, _, none⟩) NB304_305.out _).trans (hHeld.2.2.2.1)))))))), ((cell_far (p := ⟨gb305, _, none⟩) NB304_305.out _).trans (((cell_far (p := ⟨gb305, _, none⟩) NB304_305.out _).trans (((cell_far (p := ⟨gb305, _, none⟩) NB304_305.out _).trans (((cell_far (p := ⟨gb305, _, none⟩) NB304_305.out _).trans (hHeld.2.2.2.2.1)))))))), ((cell_far (p := ⟨gb305, _, none⟩) NB304_305.out _).trans (((cell_far (p := ⟨gb305, _, none⟩) NB304_305.out _).trans (((cell_far (p := ⟨gb305, _, none⟩) NB304_305.out _).trans (((cell_far (p := ⟨gb305, _, none⟩) NB304_305.out _).trans (hHeld.2.2.2.2.2.1)))))))), ((cell_far (p := ⟨gb305, _, none⟩) NB304_305.out _).trans (((cell_far (p := ⟨gb305, _, none⟩) NB304_305.out _).trans (((cell_far (p := ⟨gb305, _, none⟩) NB304_305.out _).trans (((cell_far (p := ⟨gb305, _, none⟩) NB304_305.out _).trans (hHeld.2.2.2.2.2.2.1)))))))), ((cell_far (p := ⟨gb305, _, none⟩) NB304_305.out _).trans (((cell_far (p := ⟨gb305, _, none⟩) NB304_305.out _).trans (((cell_far (p := ⟨gb305, _, none⟩) NB304_305.out _).trans (((cell_far (p := ⟨gb305, _, none⟩) NB304_305.out _).trans (hHeld.2.2.2.2.2.2.2.1)))))))), ((cell_far (p := ⟨gb305, _, none⟩) NB304_305.out _).trans (((cell_far (p := ⟨gb305, _, none⟩) NB304_305.out _).trans (((cell_far (p := ⟨gb305, _, none⟩) NB304_305.out _).trans (((cell_far (p := ⟨gb305, _, none⟩) NB304_305.out _).trans (hHeld.2.2.2.2.2.2.2.2.1)))))))), ((cell_far (p := ⟨gb305, _, none⟩) NB304_305.out _).trans (((cell_far (p := ⟨gb305, _, none⟩) NB304_305.out _).trans (((cell_far (p := ⟨gb305, _, none⟩) NB304_305.out _).trans (((cell_far (p := ⟨gb305, _, none⟩) NB304_305.out _).trans (hHeld.2.2.2.2.2.2.2.2.2.1)))))))), ((cell_far (p := ⟨gb305, _, none⟩) NB304_305.out _).trans (((cell_far (p := ⟨gb305, _, none⟩) NB304_305.out _).trans (((cell_far (p := ⟨gb305, _, none⟩) NB304_305.out _).trans (((cell_far (p := ⟨gb305, _, none⟩) NB304_305.out _).trans (hHeld.2.2.2.2.2.2.2.2.2.2.1)))))))), ((cell_far (p := ⟨gb305, _, none⟩) NB304_305.out _).trans (((cell_far (p := ⟨gb305, _, none⟩) NB304_305.out _).trans (((cell_far (p := ⟨gb305, _, none⟩) NB304_305.out _).trans (((cell_far (p := ⟨gb305, _, none⟩) NB304_305.out _).trans (hHeld.2.2.2.2.2.2.2.2.2.2.2.1)))))))), ((cell_far (p := ⟨gb305, _, none⟩) NB304_305.out _).trans (((cell_far (p := ⟨gb305, _, none⟩) NB304_305.out _).trans (((cell_far (p := ⟨gb305, _, none⟩) NB304_305.out _).trans (((cell_far (p := ⟨gb305, _, none⟩) NB304_305.out _).trans (hHeld.2.2.2.2.2.2.2.2.2.2.2.2))))))))⟩ (fun hHeld => ?_)
 clear hK K
 refine pure_ (i := 7) (N := some 3) (v := ?_) (a' := ?_) #[true, true, true, true, true, true, true, true, false] rfl rfl (any_of HT_.out (by kernel_rfl)) (fun _ _ _ h => h) (Or.inl ⟨by rfl, ?_⟩) ?_ ?_
 rotate_left; · intro w'; go_simp; with_reducible rfl
 rotate_left; · simp only [Act.put, sA, sB, sC, i64_w, i32_w]; rfl
 refine pure_ (i := 8) (N := some 4) (v := ?_) (a' := ?_) #[true, true, true, true, true, true, true, true, true] rfl rfl (any_of HT_.out (by kernel_rfl)) (fun _ _ _ h => h) (Or.inl ⟨by rfl, ?_⟩) ?_ ?_
 rotate_left; · intro w'; go_simp; with_reducible rfl
 rotate_left; · simp only [Act.put, sA, sB, sC, i64_w, i32_w]; rfl
 refine done_ (done_of HT_.out (by kernel_rfl)) ?_
 try go_wp2
 refine bodyPost_ret (results_ctt rfl _ _ gb305 34 #[.int .i64 3, .int .i64 a0_1, .int .i64 a0_1, .int .i64 a0_3] (0, 0) _ rfl (by (with_reducible repeat first | apply kN | apply kD | apply kA); refine blk_put (cs := #[.int .i64 3, .int .i64 a0_1, .int .i64 a0_1, .int .i64 0]) ?_ 3 _ rfl; (with_reducible repeat first | apply kN | apply kD | apply kA); refine blk_put (cs := #[.int .i64 3, .int .i64 a0_1, .int .i64 0, .int .i64 0]) ?_ 2 _ rfl; (with_reducible repeat first | apply kN | apply kD | apply kA); refine blk_put (cs := #[.int .i64 3, .int .i64 0, .int .i64 0, .int .i64 0]) ?_ 1 _ rfl; (with_reducible repeat first | apply kN | apply kD | apply kA); refine blk_put (cs := #[.int .i64 0, .int .i64 0, .int .i64 0, .int .i64 0]) ?_ 0 _ rfl; (with_reducible repeat first | apply kN | apply kD | apply kA); exact BK305.out) Tryd.underlying34 rfl (by kernel_rfl)) rfl ?_
 exact ⟨_, by first | rfl | (simp <;> rfl) | (simp [*] <;> rfl), by first | exact Kd.S_nil _ _ _ _ _ | exact Kd.N_nil _ _ _ _ _ | exact Kd.V_nil _ _ _ _ _ | exact Kd.Q_nil _ _ _ _ _ | exact Kd.R_nil _ _ _ _ _, by with_reducible repeat first | exact HB.out | apply bA | apply bN | apply bD | refine bS ?_ GE304.out | refine bS ?_ GE305.out⟩

/-! ### session_call_confirm: function 34 -/
def session_call_confirm.f (a0_0 : Int) (a0_1 : Int) (a0_2 : Int) (a0_3 : Int) (a0_4 : Int) (a0_5 : Int) (a0_6 : Int) (a0_7 : Int) (l0_8 : List (S62)) (l0_9 : List (S31)) (a0_10 : Int) (a0_11 : Int) (l0_12 : List Int) : Option (Int × Int × Int × Int × (List (S45)) × Bool) := if a0_11 = 4 then ((session_call_heard.f a0_0 a0_1 a0_2 a0_3 a0_4 a0_5 a0_6 a0_7 l0_8 l0_9 a0_10 a0_11 l0_12).bind fun bt308 => (some (bt308.1, bt308.2.1, bt308.2.2.1, bt308.2.2.2.1, bt308.2.2.2.2.1, bt308.2.2.2.2.2))) else ((session_call_out.f a0_0 a0_1 a0_2 a0_3 a0_4 a0_5 a0_6 a0_7 l0_8 l0_9 a0_10 a0_11 l0_12).bind fun bt316 => (some (bt316.1, bt316.2.1, bt316.2.2.1, bt316.2.2.2.1, bt316.2.2.2.2.1, bt316.2.2.2.2.2)))
set_option maxHeartbeats 8000000 in
set_option maxRecDepth 100000 in
theorem session_call_confirm.calls (a0_0 : Int) (a0_1 : Int) (a0_2 : Int) (a0_3 : Int) (a0_4 : Int) (a0_5 : Int) (a0_6 : Int) (a0_7 : Int) (A0_8 : Option Addr) (c0_8 : Nat) (l0_8 : List (S62)) (A0_9 : Option Addr) (c0_9 : Nat) (l0_9 : List (S31)) (a0_10 : Int) (a0_11 : Int) (A0_12 : Option Addr) (c0_12 : Nat) (l0_12 : List Int) (r1 : Int) (r2 : Int) (r3 : Int) (r4 : Int) (r5 : List (S45)) (r6 : Bool) (w : World) (hr0_8 : Kd.C k62 w A0_8 l0_8.length l0_8) (hc0_8 : l0_8.length ≤ c0_8) (hr0_9 : Kd.C k31 w A0_9 l0_9.length l0_9) (hc0_9 : l0_9.length ≤ c0_9) (hr0_12 : Kd.C (Kd.int .u8) w A0_12 l0_12.length l0_12) (hc0_12 : l0_12.length ≤ c0_12) (h : session_call_confirm.f a0_0 a0_1 a0_2 a0_3 a0_4 a0_5 a0_6 a0_7 l0_8 l0_9 a0_10 a0_11 l0_12 = some (r1, r2, r3, r4, r5, r6)) :
  Calls Tryd.prog 34 #[.agg #[.int .i64 a0_0, .int .i64 a0_1, .int .i64 a0_2, .int .i64 a0_3, .int .i64 a0_4, .int .i64 a0_5, .int .i64 a0_6, .int .i64 a0_7, .slice A0_8 l0_8.length c0_8, .slice A0_9 l0_9.length c0_9, .int .i64 a0_10, .int .i64 a0_11, .slice A0_12 l0_12.length c0_12]] w fun e w' => ∃ v4_ : Value, e = .returned (.tuple #[.agg #[.int .i64 r1, .int .i64 r2, .int .i64 r3, .int .i64 r4], v4_, .bool r6]) ∧ Kd.N k45 45 w' w.heap.size (fun k_ => (w.heap.size ≤ k_)) v4_ r5 ∧ Below w.heap.size w w' := by
 have hu76 := Tryd.underlying76
 have hu34 := Tryd.underlying34
 have HR0_8 := Aside0.mk hr0_8
 have HC0_8 := Aside0.mk hc0_8
 clear hr0_8 hc0_8
 have HR0_9 := Aside0.mk hr0_9
 have HC0_9 := Aside0.mk hc0_9
 clear hr0_9 hc0_9
 have HR0_12 := Aside0.mk hr0_12
 have HC0_12 := Aside0.mk hc0_12
 clear hr0_12 hc0_12
 have HB := Aside0.mk (Below.refl w.heap.size w)
 have H : (if a0_11 = 4 then ((session_call_heard.f a0_0 a0_1 a0_2 a0_3 a0_4 a0_5 a0_6 a0_7 l0_8 l0_9 a0_10 a0_11 l0_12).bind fun bt308 => (some (bt308.1, bt308.2.1, bt308.2.2.1, bt308.2.2.2.1, bt308.2.2.2.2.1, bt308.2.2.2.2.2))) else ((session_call_out.f a0_0 a0_1 a0_2 a0_3 a0_4 a0_5 a0_6 a0_7 l0_8 l0_9 a0_10 a0_11 l0_12).bind fun bt316 => (some (bt316.1, bt316.2.1, bt316.2.2.1, bt316.2.2.2.1, bt316.2.2.2.2.1, bt316.2.2.2.2.2)))) = some (r1, r2, r3, r4, r5, r6) := h
 clear h
 by_cases c2 : a0_11 = 4
 ·
  rw [if_pos c2] at H
  have c2b0 : (a0_11 == 4) = true := beq_iff_eq.mpr c2
  have c2b1 : (a0_11 != 4) = false := bne_eq_false_iff_eq.mpr c2
  clear c2
  replace H := Option.bind_eq_some_iff.mp H
  obtain ⟨⟨t308, t309, t310, t311, t312, t315⟩, A30, H⟩ := H
  replace H : (some (t308, t309, t310, t311, t312, t315)) = some (r1, r2, r3, r4, r5, r6) := H
  have A3 := Aside0.mk A30
  clear A30
  simp only [Option.some.injEq, Prod.mk.injEq] at H
  obtain ⟨rfl, rfl, rfl, rfl, rfl, rfl⟩ := H
  go_enter Tryd.func34, Tryd.ntmps34
  go_wp2_with (first | ((with_reducible refine gate_dst (N := 1) rfl ?_); refine box_event ?hg (N := 1) ?hd (cs := #[.int .i64 a0_0, .int .i64 a0_1, .int .i64 a0_2, .int .i64 a0_3, .int .i64 a0_4, .int .i64 a0_5, .int .i64 a0_6, .int .i64 a0_7, .slice A0_8 l0_8.length c0_8, .slice A0_9 l0_9.length c0_9, .int .i64 a0_10, .int .i64 a0_11, .slice A0_12 l0_12.length c0_12]) (t := 76) ?hr ?_; (case hd | hg => rfl); (case hr => first | (go_simp; done) | (go_simp; rfl)); intro gb306 hg w4 hbox hb; obtain ⟨hy, hz⟩ := bfst (by with_reducible repeat first | exact HB.out | apply bA | apply bN | apply bD) hb hg; replace HB := hy; have BK306 := Aside0.mk (hbox); have GE306 := hz; have GW306 := GE306; clear hy hz hb hbox hg) | ((with_reducible refine gate_dst (N := 2) rfl ?_); refine box_event ?hg (N := 2) ?hd (cs := #[.int .i64 0, .int .i64 0, .int .i64 0, .int .i64 0]) (t := 34) ?hr ?_; (case hd | hg => rfl); (case hr => first | (go_simp; done) | (go_simp; rfl)); intro gb307 hg w5 hbox hb; have hz := bZ BK306.out (by with_reducible repeat first | apply bA | apply bN | apply bD | exact Below.refl _ _) hb; have hy := below_step hz hb; have n0_ := Aside0.mk (blk_below BK306.out hy); have n1_ := Aside0.mk (below_step HB.out hy); have BK307 := Aside0.mk (hbox); have n3_ := Aside0.mk (bge HB.out hz hg); have GE307 := n3_; obtain ⟨NB306_307, NB307_306⟩ := bne2 BK306.out hz hg; clear BK306; clear HB; have BK306 := n0_; have HB := n1_; have GW307 := n3_; clear n0_ n1_ n3_; clear hy hz hb hbox hg; have hnb6 := NB306_307.out; have hnc6 := NB307_306.out; obtain ⟨hcz7_0, hcz7_1, hcz7_2, hcz7_3, hcz7_4, hcz7_5, hcz7_6, hcz7_7, hcz7_8, hcz7_9, hcz7_10, hcz7_11, hcz7_12, hfz7_0, hfz7_1, hfz7_2, hfz7_3, hfz7_4, hfz7_5, hfz7_6, hfz7_7, hfz7_8, hfz7_9, hfz7_10, hfz7_11, hfz7_12⟩ := bc13 BK306.out) | ((with_reducible refine gate_callee (f := 53) rfl ?_); refine goesL_ (some 15) rfl rfl Tryd.func53 (by kernel_rfl) rfl #[.agg #[.int .i64 a0_0, .int .i64 a0_1, .int .i64 a0_2, .int .i64 a0_3, .int .i64 a0_4, .int .i64 a0_5, .int .i64 a0_6, .int .i64 a0_7, .slice A0_8 l0_8.length c0_8, .slice A0_9 l0_9.length c0_9, .int .i64 a0_10, .int .i64 a0_11, .slice A0_12 l0_12.length c0_12]] rfl (by (try simp only [List.map_toArray, List.map_cons, List.map_nil]); first | done | rfl | (simp only [List.length_drop, List.length_take]; rfl)) ?_; (with_reducible refine (session_call_heard.calls a0_0 a0_1 a0_2 a0_3 a0_4 a0_5 a0_6 a0_7 _ _ l0_8 _ _ l0_9 a0_10 a0_11 _ _ l0_12 t308 t309 t310 t311 t312 t315 _ ?side1 ?side2 ?side3 ?side4 ?side5 ?side6 A3.out).mono ?_); (case side1 => repeat first | exact (Kd.C_below HR0_8.out HB.out) | with_reducible first | apply Kd.C_alloc | apply Kd.C_drewN | apply Kd.C_drew); (case side2 => exact HC0_8.out); (case side3 => repeat first | exact (Kd.C_below HR0_9.out HB.out) | with_reducible first | apply Kd.C_alloc | apply Kd.C_drewN | apply Kd.C_drew); (case side4 => exact HC0_9.out); (case side5 => repeat first | exact (Kd.C_below HR0_12.out HB.out) | with_reducible first | apply Kd.C_alloc | apply Kd.C_drewN | apply Kd.C_drew); (case side6 => exact HC0_12.out); rintro e w8 ⟨v313, rfl, ho0, hb⟩; refine ⟨_, rfl, ?_⟩; have HO314 := Aside0.mk (Kd.N_lower (Kd.N_mono (ok' := fun k_ => (w.heap.size ≤ k_) ∧ k_ ≠ gb306 ∧ k_ ≠ gb307) (Kd.S_N (Kd.S_bound ho0)) (fun k_ hk_ => ⟨(Nat.le_trans (below_size (by with_reducible repeat first | exact HB.out | apply bA | apply bN | apply bD | refine bS ?_ GE306.out | refine bS ?_ GE307.out)) hk_.2.1), (Kd.freshB (g := gb306) (o := .cells #[.int .i64 a0_0, .int .i64 a0_1, .int .i64 a0_2, .int .i64 a0_3, .int .i64 a0_4, .int .i64 a0_5, .int .i64 a0_6, .int .i64 a0_7, .slice A0_8 l0_8.length c0_8, .slice A0_9 l0_9.length c0_9, .int .i64 a0_10, .int .i64 a0_11, .slice A0_12 l0_12.length c0_12] 76 (0, 0)) (by (with_reducible repeat first | apply kN | apply kD | apply kA); exact BK306.out) k_ hk_.2.1), (Kd.freshB (g := gb307) (o := .cells #[.int .i64 0, .int .i64 0, .int .i64 0, .int .i64 0] 34 (0, 0)) (by (with_reducible repeat first | apply kN | apply kD | apply kA); exact BK307.out) k_ hk_.2.1)⟩)) (below_size (by with_reducible repeat first | exact HB.out | apply bA | apply bN | apply bD | refine bS ?_ GE306.out | refine bS ?_ GE307.out))); have hy := bQ BK306.out (by with_reducible repeat first | apply bA | apply bN | apply bD | exact Below.refl _ _) hb; replace BK306 := Aside0.mk (blk_below BK306.out hy); replace BK307 := Aside0.mk (blk_below BK307.out hy); replace HB := Aside0.mk (below_step HB.out hy); clear hy; (try clear hb); (try clear hb2); (try clear hk); (try clear hi); (try clear ho0); obtain ⟨hcz9_0, hcz9_1, hcz9_2, hcz9_3, hfz9_0, hfz9_1, hfz9_2, hfz9_3⟩ := bc4 BK307.out))
  refine bodyPost_ret (results_ctt rfl _ _ gb307 34 #[.int .i64 t308, .int .i64 t309, .int .i64 t310, .int .i64 t311] (0, 0) _ rfl (by (with_reducible repeat first | apply kN | apply kD | apply kA); refine blk_put (cs := #[.int .i64 t308, .int .i64 t309, .int .i64 t310, .int .i64 0]) ?_ 3 _ rfl; (with_reducible repeat first | apply kN | apply kD | apply kA); refine blk_put (cs := #[.int .i64 t308, .int .i64 t309, .int .i64 0, .int .i64 0]) ?_ 2 _ rfl; (with_reducible repeat first | apply kN | apply kD | apply kA); refine blk_put (cs := #[.int .i64 t308, .int .i64 0, .int .i64 0, .int .i64 0]) ?_ 1 _ rfl; (with_reducible repeat first | apply kN | apply kD | apply kA); refine blk_put (cs := #[.int .i64 0, .int .i64 0, .int .i64 0, .int .i64 0]) ?_ 0 _ rfl; (with_reducible repeat first | apply kN | apply kD | apply kA); exact BK307.out) Tryd.underlying34 rfl (by kernel_rfl)) rfl ?_
  exact ⟨_, by first | rfl | (simp <;> rfl) | (simp [*] <;> rfl), by (with_reducible repeat (first | apply Kd.N_alloc | apply Kd.N_drewN | apply Kd.N_drew)); exact Kd.N_mono (Kd.N_far (p := ⟨gb307, 3, none⟩) (Kd.N_far (p := ⟨gb307, 2, none⟩) (Kd.N_far (p := ⟨gb307, 1, none⟩) (Kd.N_far (p := ⟨gb307, 0, none⟩) (Kd.N_mono HO314.out (fun k_ hk => (⟨hk, hk.2.2⟩ : _ ∧ k_ ≠ gb307))) (fun _ hk => hk.2) (.int .i64 t308)) (fun _ hk => hk.2) (.int .i64 t309)) (fun _ hk => hk.2) (.int .i64 t310)) (fun _ hk => hk.2) (.int .i64 t311)) (fun _ hk => hk.1.1), by with_reducible repeat first | exact HB.out | apply bA | apply bN | apply bD | refine bS ?_ GE306.out | refine bS ?_ GE307.out⟩
 ·
  rw [if_neg c2] at H
  have c2b0 : (a0_11 == 4) = false := beq_eq_false_iff_ne.mpr c2
  have c2b1 : (a0_11 != 4) = true := bne_iff_ne.mpr c2
  replace H := Option.bind_eq_some_iff.mp H
  obtain ⟨⟨t316, t317, t318, t319, t320, t323⟩, A100, H⟩ := H
  replace H : (some (t316, t317, t318, t319, t320, t323)) = some (r1, r2, r3, r4, r5, r6) := H
  have A10 := Aside0.mk A100
  clear A100
  simp only [Option.some.injEq, Prod.mk.injEq] at H
  obtain ⟨rfl, rfl, rfl, rfl, rfl, rfl⟩ := H
  go_enter Tryd.func34, Tryd.ntmps34
  go_wp2_with (first | ((with_reducible refine gate_dst (N := 1) rfl ?_); refine box_event ?hg (N := 1) ?hd (cs := #[.int .i64 a0_0, .int .i64 a0_1, .int .i64 a0_2, .int .i64 a0_3, .int .i64 a0_4, .int .i64 a0_5, .int .i64 a0_6, .int .i64 a0_7, .slice A0_8 l0_8.length c0_8, .slice A0_9 l0_9.length c0_9, .int .i64 a0_10, .int .i64 a0_11, .slice A0_12 l0_12.length c0_12]) (t := 76) ?hr ?_; (case hd | hg => rfl); (case hr => first | (go_simp; done) | (go_simp; rfl)); intro gb306 hg w11 hbox hb; obtain ⟨hy, hz⟩ := bfst (by with_reducible repeat first | exact HB.out | apply bA | apply bN | apply bD) hb hg; replace HB := hy; have BK306 := Aside0.mk (hbox); have GE306 := hz; have GW306 := GE306; clear hy hz hb hbox hg) | ((with_reducible refine gate_dst (N := 2) rfl ?_); refine box_event ?hg (N := 2) ?hd (cs := #[.int .i64 0, .int .i64 0, .int .i64 0, .int .i64 0]) (t := 34) ?hr ?_; (case hd | hg => rfl); (case hr => first | (go_simp; done) | (go_simp; rfl)); intro gb307 hg w12 hbox hb; have hz := bZ BK306.out (by with_reducible repeat first | apply bA | apply bN | apply bD | exact Below.refl _ _) hb; have hy := below_step hz hb; have n0_ := Aside0.mk (blk_below BK306.out hy); have n1_ := Aside0.mk (below_step HB.out hy); have BK307 := Aside0.mk (hbox); have n3_ := Aside0.mk (bge HB.out hz hg); have GE307 := n3_; obtain ⟨NB306_307, NB307_306⟩ := bne2 BK306.out hz hg; clear BK306; clear HB; have BK306 := n0_; have HB := n1_; have GW307 := n3_; clear n0_ n1_ n3_; clear hy hz hb hbox hg; have hnb13 := NB306_307.out; have hnc13 := NB307_306.out; obtain ⟨hcz14_0, hcz14_1, hcz14_2, hcz14_3, hcz14_4, hcz14_5, hcz14_6, hcz14_7, hcz14_8, hcz14_9, hcz14_10, hcz14_11, hcz14_12, hfz14_0, hfz14_1, hfz14_2, hfz14_3, hfz14_4, hfz14_5, hfz14_6, hfz14_7, hfz14_8, hfz14_9, hfz14_10, hfz14_11, hfz14_12⟩ := bc13 BK306.out) | ((with_reducible refine gate_callee (f := 49) rfl ?_); refine goesL_ (some 10) rfl rfl Tryd.func49 (by kernel_rfl) rfl #[.agg #[.int .i64 a0_0, .int .i64 a0_1, .int .i64 a0_2, .int .i64 a0_3, .int .i64 a0_4, .int .i64 a0_5, .int .i64 a0_6, .int .i64 a0_7, .slice A0_8 l0_8.length c0_8, .slice A0_9 l0_9.length c0_9, .int .i64 a0_10, .int .i64 a0_11, .slice A0_12 l0_12.length c0_12]] rfl (by (try simp only [List.map_toArray, List.map_cons, List.map_nil]); first | done | rfl | (simp only [List.length_drop, List.length_take]; rfl)) ?_; (with_reducible refine (session_call_out.calls a0_0 a0_1 a0_2 a0_3 a0_4 a0_5 a0_6 a0_7 _ _ l0_8 _ _ l0_9 a0_10 a0_11 _ _ l0_12 t316 t317 t318 t319 t320 t323 _ ?side1 ?side2 ?side3 ?side4 ?side5 ?side6 A10.out).mono ?_); (case side1 => repeat first | exact (Kd.C_below HR0_8.out HB.out) | with_reducible first | apply Kd.C_alloc | apply Kd.C_drewN | apply Kd.C_drew); (case side2 => exact HC0_8.out); (case side3 => repeat first | exact (Kd.C_below HR0_9.out HB.out) | with_reducible first | apply Kd.C_alloc | apply Kd.C_drewN | apply Kd.C_drew); (case side4 => exact HC0_9.out); (case side5 => repeat first | exact (Kd.C_below HR0_12.out HB.out) | with_reducible first | apply Kd.C_alloc | apply Kd.C_drewN | apply Kd.C_drew); (case side6 => exact HC0_12.out); rintro e w15 ⟨v321, rfl, ho0, hb⟩; refine ⟨_, rfl, ?_⟩; have HO322 := Aside0.mk (Kd.N_lower (Kd.N_mono (ok' := fun k_ => (w.heap.size ≤ k_) ∧ k_ ≠ gb306 ∧ k_ ≠ gb307) ho0 (fun k_ hk_ => ⟨(Nat.le_trans (below_size (by with_reducible repeat first | exact HB.out | apply bA | apply bN | apply bD | refine bS ?_ GE306.out | refine bS ?_ GE307.out)) hk_), (Kd.freshB (g := gb306) (o := .cells #[.int .i64 a0_0, .int .i64 a0_1, .int .i64 a0_2, .int .i64 a0_3, .int .i64 a0_4, .int .i64 a0_5, .int .i64 a0_6, .int .i64 a0_7, .slice A0_8 l0_8.length c0_8, .slice A0_9 l0_9.length c0_9, .int .i64 a0_10, .int .i64 a0_11, .slice A0_12 l0_12.length c0_12] 76 (0, 0)) (by (with_reducible repeat first | apply kN | apply kD | apply kA); exact BK306.out) k_ hk_), (Kd.freshB (g := gb307) (o := .cells #[.int .i64 0, .int .i64 0, .int .i64 0, .int .i64 0] 34 (0, 0)) (by (with_reducible repeat first | apply kN | apply kD | apply kA); exact BK307.out) k_ hk_)⟩)) (below_size (by with_reducible repeat first | exact HB.out | apply bA | apply bN | apply bD | refine bS ?_ GE306.out | refine bS ?_ GE307.out))); have hy := bQ BK306.out (by with_reducible repeat first | apply bA | apply bN | apply bD | exact Below.refl _ _) hb; replace BK306 := Aside0.mk (blk_below BK306.out hy); replace BK307 := Aside0.mk (blk_below BK307.out hy); replace HB := Aside0.mk (below_step HB.out hy); clear hy; (try clear hb); (try clear hb2); (try clear hk); (try clear hi); (try clear ho0); obtain ⟨hcz16_0, hcz16_1, hcz16_2, hcz16_3, hfz16_0, hfz16_1, hfz16_2, hfz16_3⟩ := bc4 BK307.out))
  refine bodyPost_ret (results_ctt rfl _ _ gb307 34 #[.int .i64 t316, .int .i64 t317, .int .i64 t318, .int .i64 t319] (0, 0) _ rfl (by (with_reducible repeat first | apply kN | apply kD | apply kA); refine blk_put (cs := #[.int .i64 t316, .int .i64 t317, .int .i64 t318, .int .i64 0]) ?_ 3 _ rfl; (with_reducible repeat first | apply kN | apply kD | apply kA); refine blk_put (cs := #[.int .i64 t316, .int .i64 t317, .int .i64 0, .int .i64 0]) ?_ 2 _ rfl; (with_reducible repeat first | apply kN | apply kD | apply kA); refine blk_put (cs := #[.int .i64 t316, .int .i64 0, .int .i64 0, .int .i64 0]) ?_ 1 _ rfl; (with_reducible repeat first | apply kN | apply kD | apply kA); refine blk_put (cs := #[.int .i64 0, .int .i64 0, .int .i64 0, .int .i64 0]) ?_ 0 _ rfl; (with_reducible repeat first | apply kN | apply kD | apply kA); exact BK307.out) Tryd.underlying34 rfl (by kernel_rfl)) rfl ?_
  exact ⟨_, by first | rfl | (simp <;> rfl) | (simp [*] <;> rfl), by (with_reducible repeat (first | apply Kd.N_alloc | apply Kd.N_drewN | apply Kd.N_drew)); exact Kd.N_mono (Kd.N_far (p := ⟨gb307, 3, none⟩) (Kd.N_far (p := ⟨gb307, 2, none⟩) (Kd.N_far (p := ⟨gb307, 1, none⟩) (Kd.N_far (p := ⟨gb307, 0, none⟩) (Kd.N_mono HO322.out (fun k_ hk => (⟨hk, hk.2.2⟩ : _ ∧ k_ ≠ gb307))) (fun _ hk => hk.2) (.int .i64 t316)) (fun _ hk => hk.2) (.int .i64 t317)) (fun _ hk => hk.2) (.int .i64 t318)) (fun _ hk => hk.2) (.int .i64 t319)) (fun _ hk => hk.1.1), by with_reducible repeat first | exact HB.out | apply bA | apply bN | apply bD | refine bS ?_ GE306.out | refine bS ?_ GE307.out⟩

/-! ### session_call_up: function 35 -/
def session_call_up.f (a0_0 : Int) (a0_1 : Int) (a0_2 : Int) (a0_3 : Int) (a0_4 : Int) (a0_5 : Int) (a0_6 : Int) (a0_7 : Int) (l0_8 : List (S62)) (l0_9 : List (S31)) (a0_10 : Int) (a0_11 : Int) (l0_12 : List Int) : Option (Int × Int × Int × Int × (List (S45)) × Bool) := if a0_11 = 1 then ((session_call_out.f a0_0 a0_1 a0_2 a0_3 a0_4 a0_5 a0_6 a0_7 l0_8 l0_9 a0_10 a0_11 l0_12).bind fun bt326 => (some (bt326.1, bt326.2.1, bt326.2.2.1, bt326.2.2.2.1, bt326.2.2.2.2.1, bt326.2.2.2.2.2))) else ((session_call_heard.f a0_0 a0_1 a0_2 a0_3 a0_4 a0_5 a0_6 a0_7 l0_8 l0_9 a0_10 a0_11 l0_12).bind fun bt334 => (some (bt334.1, bt334.2.1, bt334.2.2.1, bt334.2.2.2.1, bt334.2.2.2.2.1, bt334.2.2.2.2.2)))
set_option maxHeartbeats 8000000 in
set_option maxRecDepth 100000 in
theorem session_call_up.calls (a0_0 : Int) (a0_1 : Int) (a0_2 : Int) (a0_3 : Int) (a0_4 : Int) (a0_5 : Int) (a0_6 : Int) (a0_7 : Int) (A0_8 : Option Addr) (c0_8 : Nat) (l0_8 : List (S62)) (A0_9 : Option Addr) (c0_9 : Nat) (l0_9 : List (S31)) (a0_10 : Int) (a0_11 : Int) (A0_12 : Option Addr) (c0_12 : Nat) (l0_12 : List Int) (r1 : Int) (r2 : Int) (r3 : Int) (r4 : Int) (r5 : List (S45)) (r6 : Bool) (w : World) (hr0_8 : Kd.C k62 w A0_8 l0_8.length l0_8) (hc0_8 : l0_8.length ≤ c0_8) (hr0_9 : Kd.C k31 w A0_9 l0_9.length l0_9) (hc0_9 : l0_9.length ≤ c0_9) (hr0_12 : Kd.C (Kd.int .u8) w A0_12 l0_12.length l0_12) (hc0_12 : l0_12.length ≤ c0_12) (h : session_call_up.f a0_0 a0_1 a0_2 a0_3 a0_4 a0_5 a0_6 a0_7 l0_8 l0_9 a0_10 a0_11 l0_12 = some (r1, r2, r3, r4, r5, r6)) :
  Calls Tryd.prog 35 #[.agg #[.int .i64 a0_0, .int .i64 a0_1, .int .i64 a0_2, .int .i64 a0_3, .int .i64 a0_4, .int .i64 a0_5, .int .i64 a0_6, .int .i64 a0_7, .slice A0_8 l0_8.length c0_8, .slice A0_9 l0_9.length c0_9, .int .i64 a0_10, .int .i64 a0_11, .slice A0_12 l0_12.length c0_12]] w fun e w' => ∃ v4_ : Value, e = .returned (.tuple #[.agg #[.int .i64 r1, .int .i64 r2, .int .i64 r3, .int .i64 r4], v4_, .bool r6]) ∧ Kd.N k45 45 w' w.heap.size (fun k_ => (w.heap.size ≤ k_)) v4_ r5 ∧ Below w.heap.size w w' := by
 have hu76 := Tryd.underlying76
 have hu34 := Tryd.underlying34
 have HR0_8 := Aside0.mk hr0_8
 have HC0_8 := Aside0.mk hc0_8
 clear hr0_8 hc0_8
 have HR0_9 := Aside0.mk hr0_9
 have HC0_9 := Aside0.mk hc0_9
 clear hr0_9 hc0_9
 have HR0_12 := Aside0.mk hr0_12
 have HC0_12 := Aside0.mk hc0_12
 clear hr0_12 hc0_12
 have HB := Aside0.mk (Below.refl w.heap.size w)
 have H : (if a0_11 = 1 then ((session_call_out.f a0_0 a0_1 a0_2 a0_3 a0_4 a0_5 a0_6 a0_7 l0_8 l0_9 a0_10 a0_11 l0_12).bind fun bt326 => (some (bt326.1, bt326.2.1, bt326.2.2.1, bt326.2.2.2.1, bt326.2.2.2.2.1, bt326.2.2.2.2.2))) else ((session_call_heard.f a0_0 a0_1 a0_2 a0_3 a0_4 a0_5 a0_6 a0_7 l0_8 l0_9 a0_10 a0_11 l0_12).bind fun bt334 => (some (bt334.1, bt334.2.1, bt334.2.2.1, bt334.2.2.2.1, bt334.2.2.2.2.1, bt334.2.2.2.2.2)))) = some (r1, r2, r3, r4, r5, r6) := h
 clear h
 by_cases c2 : a0_11 = 1
 ·
  rw [if_pos c2] at H
  have c2b0 : (a0_11 == 1) = true := beq_iff_eq.mpr c2
  have c2b1 : (a0_11 != 1) = false := bne_eq_false_iff_eq.mpr c2
  clear c2
  replace H := Option.bind_eq_some_iff.mp H
  obtain ⟨⟨t326, t327, t328, t329, t330, t333⟩, A30, H⟩ := H
  replace H : (some (t326, t327, t328, t329, t330, t333)) = some (r1, r2, r3, r4, r5, r6) := H
  have A3 := Aside0.mk A30
  clear A30
  simp only [Option.some.injEq, Prod.mk.injEq] at H
  obtain ⟨rfl, rfl, rfl, rfl, rfl, rfl⟩ := H
  go_enter Tryd.func35, Tryd.ntmps35
  go_wp2_with (first | ((with_reducible refine gate_dst (N := 1) rfl ?_); refine box_event ?hg (N := 1) ?hd (cs := #[.int .i64 a0_0, .int .i64 a0_1, .int .i64 a0_2, .int .i64 a0_3, .int .i64 a0_4, .int .i64 a0_5, .int .i64 a0_6, .int .i64 a0_7, .slice A0_8 l0_8.length c0_8, .slice A0_9 l0_9.length c0_9, .int .i64 a0_10, .int .i64 a0_11, .slice A0_12 l0_12.length c0_12]) (t := 76) ?hr ?_; (case hd | hg => rfl); (case hr => first | (go_simp; done) | (go_simp; rfl)); intro gb324 hg w4 hbox hb; obtain ⟨hy, hz⟩ := bfst (by with_reducible repeat first | exact HB.out | apply bA | apply bN | apply bD) hb hg; replace HB := hy; have BK324 := Aside0.mk (hbox); have GE324 := hz; have GW324 := GE324; clear hy hz hb hbox hg) | ((with_reducible refine gate_dst (N := 2) rfl ?_); refine box_event ?hg (N := 2) ?hd (cs := #[.int .i64 0, .int .i64 0, .int .i64 0, .int .i64 0]) (t := 34) ?hr ?_; (case hd | hg => rfl); (case hr => first | (go_simp; done) | (go_simp; rfl)); intro gb325 hg w5 hbox hb; have hz := bZ BK324.out (by with_reducible repeat first | apply bA | apply bN | apply bD | exact Below.refl _ _) hb; have hy := below_step hz hb; have n0_ := Aside0.mk (blk_below BK324.out hy); have n1_ := Aside0.mk (below_step HB.out hy); have BK325 := Aside0.mk (hbox); have n3_ := Aside0.mk (bge HB.out hz hg); have GE325 := n3_; obtain ⟨NB324_325, NB325_324⟩ := bne2 BK324.out hz hg; clear BK324; clear HB; have BK324 := n0_; have HB := n1_; have GW325 := n3_; clear n0_ n1_ n3_; clear hy hz hb hbox hg; have hnb6 := NB324_325.out; have hnc6 := NB325_324.out; obtain ⟨hcz7_0, hcz7_1, hcz7_2, hcz7_3, hcz7_4, hcz7_5, hcz7_6, hcz7_7, hcz7_8, hcz7_9, hcz7_10, hcz7_11, hcz7_12, hfz7_0, hfz7_1, hfz7_2, hfz7_3, hfz7_4, hfz7_5, hfz7_6, hfz7_7, hfz7_8, hfz7_9, hfz7_10, hfz7_11, hfz7_12⟩ := bc13 BK324.out) | ((with_reducible refine gate_callee (f := 49) rfl ?_); refine goesL_ (some 10) rfl rfl Tryd.func49 (by kernel_rfl) rfl #[.agg #[.int .i64 a0_0, .int .i64 a0_1, .int .i64 a0_2, .int .i64 a0_3, .int .i64 a0_4, .int .i64 a0_5, .int .i64 a0_6, .int .i64 a0_7, .slice A0_8 l0_8.length c0_8, .slice A0_9 l0_9.length c0_9, .int .i64 a0_10, .int .i64 a0_11, .slice A0_12 l0_12.length c0_12]] rfl (by (try simp only [List.map_toArray, List.map_cons, List.map_nil]); first | done | rfl | (simp only [List.length_drop, List.length_take]; rfl)) ?_; (with_reducible refine (session_call_out.calls a0_0 a0_1 a0_2 a0_3 a0_4 a0_5 a0_6 a0_7 _ _ l0_8 _ _ l0_9 a0_10 a0_11 _ _ l0_12 t326 t327 t328 t329 t330 t333 _ ?side1 ?side2 ?side3 ?side4 ?side5 ?side6 A3.out).mono ?_); (case side1 => repeat first | exact (Kd.C_below HR0_8.out HB.out) | with_reducible first | apply Kd.C_alloc | apply Kd.C_drewN | apply Kd.C_drew); (case side2 => exact HC0_8.out); (case side3 => repeat first | exact (Kd.C_below HR0_9.out HB.out) | with_reducible first | apply Kd.C_alloc | apply Kd.C_drewN | apply Kd.C_drew); (case side4 => exact HC0_9.out); (case side5 => repeat first | exact (Kd.C_below HR0_12.out HB.out) | with_reducible first | apply Kd.C_alloc | apply Kd.C_drewN | apply Kd.C_drew); (case side6 => exact HC0_12.out); rintro e w8 ⟨v331, rfl, ho0, hb⟩; refine ⟨_, rfl, ?_⟩; have HO332 := Aside0.mk (Kd.N_lower (Kd.N_mono (ok' := fun k_ => (w.heap.size ≤ k_) ∧ k_ ≠ gb324 ∧ k_ ≠ gb325) ho0 (fun k_ hk_ => ⟨(Nat.le_trans (below_size (by with_reducible repeat first | exact HB.out | apply bA | apply bN | apply bD | refine bS ?_ GE324.out | refine bS ?_ GE325.out)) hk_), (Kd.freshB (g := gb324) (o := .cells #[.int .i64 a0_0, .int .i64 a0_1, .int .i64 a0_2, .int .i64 a0_3, .int .i64 a0_4, .int .i64 a0_5, .int .i64 a0_6, .int .i64 a0_7, .slice A0_8 l0_8.length c0_8, .slice A0_9 l0_9.length c0_9, .int .i64 a0_10, .int .i64 a0_11, .slice A0_12 l0_12.length c0_12] 76 (0, 0)) (by (with_reducible repeat first | apply kN | apply kD | apply kA); exact BK324.out) k_ hk_), (Kd.freshB (g := gb325) (o := .cells #[.int .i64 0, .int .i64 0, .int .i64 0, .int .i64 0] 34 (0, 0)) (by (with_reducible repeat first | apply kN | apply kD | apply kA); exact BK325.out) k_ hk_)⟩)) (below_size (by with_reducible repeat first | exact HB.out | apply bA | apply bN | apply bD | refine bS ?_ GE324.out | refine bS ?_ GE325.out))); have hy := bQ BK324.out (by with_reducible repeat first | apply bA | apply bN | apply bD | exact Below.refl _ _) hb; replace BK324 := Aside0.mk (blk_below BK324.out hy); replace BK325 := Aside0.mk (blk_below BK325.out hy); replace HB := Aside0.mk (below_step HB.out hy); clear hy; (try clear hb); (try clear hb2); (try clear hk); (try clear hi); (try clear ho0); obtain ⟨hcz9_0, hcz9_1, hcz9_2, hcz9_3, hfz9_0, hfz9_1, hfz9_2, hfz9_3⟩ := bc4 BK325.out))
  refine bodyPost_ret (results_ctt rfl _ _ gb325 34 #[.int .i64 t326, .int .i64 t327, .int .i64 t328, .int .i64 t329] (0, 0) _ rfl (by (with_reducible repeat first | apply kN | apply kD | apply kA); refine blk_put (cs := #[.int .i64 t326, .int .i64 t327, .int .i64 t328, .int .i64 0]) ?_ 3 _ rfl; (with_reducible repeat first | apply kN | apply kD | apply kA); refine blk_put (cs := #[.int .i64 t326, .int .i64 t327, .int .i64 0, .int .i64 0]) ?_ 2 _ rfl; (with_reducible repeat first | apply kN | apply kD | apply kA); refine blk_put (cs := #[.int .i64 t326, .int .i64 0, .int .i64 0, .int .i64 0]) ?_ 1 _ rfl; (with_reducible repeat first | apply kN | apply kD | apply kA); refine blk_put (cs := #[.int .i64 0, .int .i64 0, .int .i64 0, .int .i64 0]) ?_ 0 _ rfl; (with_reducible repeat first | apply kN | apply kD | apply kA); exact BK325.out) Tryd.underlying34 rfl (by kernel_rfl)) rfl ?_
  exact ⟨_, by first | rfl | (simp <;> rfl) | (simp [*] <;> rfl), by (with_reducible repeat (first | apply Kd.N_alloc | apply Kd.N_drewN | apply Kd.N_drew)); exact Kd.N_mono (Kd.N_far (p := ⟨gb325, 3, none⟩) (Kd.N_far (p := ⟨gb325, 2, none⟩) (Kd.N_far (p := ⟨gb325, 1, none⟩) (Kd.N_far (p := ⟨gb325, 0, none⟩) (Kd.N_mono HO332.out (fun k_ hk => (⟨hk, hk.2.2⟩ : _ ∧ k_ ≠ gb325))) (fun _ hk => hk.2) (.int .i64 t326)) (fun _ hk => hk.2) (.int .i64 t327)) (fun _ hk => hk.2) (.int .i64 t328)) (fun _ hk => hk.2) (.int .i64 t329)) (fun _ hk => hk.1.1), by with_reducible repeat first | exact HB.out | apply bA | apply bN | apply bD | refine bS ?_ GE324.out | refine bS ?_ GE325.out⟩
 ·
  rw [if_neg c2] at H
  have c2b0 : (a0_11 == 1) = false := beq_eq_false_iff_ne.mpr c2
  have c2b1 : (a0_11 != 1) = true := bne_iff_ne.mpr c2
  replace H := Option.bind_eq_some_iff.mp H
  obtain ⟨⟨t334, t335, t336, t337, t338, t341⟩, A100, H⟩ := H
  replace H : (some (t334, t335, t336, t337, t338, t341)) = some (r1, r2, r3, r4, r5, r6) := H
  have A10 := Aside0.mk A100
  clear A100
  simp only [Option.some.injEq, Prod.mk.injEq] at H
  obtain ⟨rfl, rfl, rfl, rfl, rfl, rfl⟩ := H
  go_enter Tryd.func35, Tryd.ntmps35
  go_wp2_with (first | ((with_reducible refine gate_dst (N := 1) rfl ?_); refine box_event ?hg (N := 1) ?hd (cs := #[.int .i64 a0_0, .int .i64 a0_1, .int .i64 a0_2, .int .i64 a0_3, .int .i64 a0_4, .int .i64 a0_5, .int .i64 a0_6, .int .i64 a0_7, .slice A0_8 l0_8.length c0_8, .slice A0_9 l0_9.length c0_9, .int .i64 a0_10, .int .i64 a0_11, .slice A0_12 l0_12.length c0_12]) (t := 76) ?hr ?_; (case hd | hg => rfl); (case hr => first | (go_simp; done) | (go_simp; rfl)); intro gb324 hg w11 hbox hb; obtain ⟨hy, hz⟩ := bfst (by with_reducible repeat first | exact HB.out | apply bA | apply bN | apply bD) hb hg; replace HB := hy; have BK324 := Aside0.mk (hbox); have GE324 := hz; have GW324 := GE324; clear hy hz hb hbox hg) | ((with_reducible refine gate_dst (N := 2) rfl ?_); refine box_event ?hg (N := 2) ?hd (cs := #[.int .i64 0, .int .i64 0, .int .i64 0, .int .i64 0]) (t := 34) ?hr ?_; (case hd | hg => rfl); (case hr => first | (go_simp; done) | (go_simp; rfl)); intro gb325 hg w12 hbox hb; have hz := bZ BK324.out (by with_reducible repeat first | apply bA | apply bN | apply bD | exact Below.refl _ _) hb; have hy := below_step hz hb; have n0_ := Aside0.mk (blk_below BK324.out hy); have n1_ := Aside0.mk (below_step HB.out hy); have BK325 := Aside0.mk (hbox); have n3_ := Aside0.mk (bge HB.out hz hg); have GE325 := n3_; obtain ⟨NB324_325, NB325_324⟩ := bne2 BK324.out hz hg; clear BK324; clear HB; have BK324 := n0_; have HB := n1_; have GW325 := n3_; clear n0_ n1_ n3_; clear hy hz hb hbox hg; have hnb13 := NB324_325.out; have hnc13 := NB325_324.out; obtain ⟨hcz14_0, hcz14_1, hcz14_2, hcz14_3, hcz14_4, hcz14_5, hcz14_6, hcz14_7, hcz14_8, hcz14_9, hcz14_10, hcz14_11, hcz14_12, hfz14_0, hfz14_1, hfz14_2, hfz14_3, hfz14_4, hfz14_5, hfz14_6, hfz14_7, hfz14_8, hfz14_9, hfz14_10, hfz14_11, hfz14_12⟩ := bc13 BK324.out) | ((with_reducible refine gate_callee (f := 53) rfl ?_); refine goesL_ (some 15) rfl rfl Tryd.func53 (by kernel_rfl) rfl #[.agg #[.int .i64 a0_0, .int .i64 a0_1, .int .i64 a0_2, .int .i64 a0_3, .int .i64 a0_4, .int .i64 a0_5, .int .i64 a0_6, .int .i64 a0_7, .slice A0_8 l0_8.length c0_8, .slice A0_9 l0_9.length c0_9, .int .i64 a0_10, .int .i64 a0_11, .slice A0_12 l0_12.length c0_12]] rfl (by (try simp only [List.map_toArray, List.map_cons, List.map_nil]); first | done | rfl | (simp only [List.length_drop, List.length_take]; rfl)) ?_; (with_reducible refine (session_call_heard.calls a0_0 a0_1 a0_2 a0_3 a0_4 a0_5 a0_6 a0_7 _ _ l0_8 _ _ l0_9 a0_10 a0_11 _ _ l0_12 t334 t335 t336 t337 t338 t341 _ ?side1 ?side2 ?side3 ?side4 ?side5 ?side6 A10.out).mono ?_); (case side1 => repeat first | exact (Kd.C_below HR0_8.out HB.out) | with_reducible first | apply Kd.C_alloc | apply Kd.C_drewN | apply Kd.C_drew); (case side2 => exact HC0_8.out); (case side3 => repeat first | exact (Kd.C_below HR0_9.out HB.out) | with_reducible first | apply Kd.C_alloc | apply Kd.C_drewN | apply Kd.C_drew); (case side4 => exact HC0_9.out); (case side5 => repeat first | exact (Kd.C_below HR0_12.out HB.out) | with_reducible first | apply Kd.C_alloc | apply Kd.C_drewN | apply Kd.C_drew); (case side6 => exact HC0_12.out); rintro e w15 ⟨v339, rfl, ho0, hb⟩; refine ⟨_, rfl, ?_⟩; have HO340 := Aside0.mk (Kd.N_lower (Kd.N_mono (ok' := fun k_ => (w.heap.size ≤ k_) ∧ k_ ≠ gb324 ∧ k_ ≠ gb325) (Kd.S_N (Kd.S_bound ho0)) (fun k_ hk_ => ⟨(Nat.le_trans (below_size (by with_reducible repeat first | exact HB.out | apply bA | apply bN | apply bD | refine bS ?_ GE324.out | refine bS ?_ GE325.out)) hk_.2.1), (Kd.freshB (g := gb324) (o := .cells #[.int .i64 a0_0, .int .i64 a0_1, .int .i64 a0_2, .int .i64 a0_3, .int .i64 a0_4, .int .i64 a0_5, .int .i64 a0_6, .int .i64 a0_7, .slice A0_8 l0_8.length c0_8, .slice A0_9 l0_9.length c0_9, .int .i64 a0_10, .int .i64 a0_11, .slice A0_12 l0_12.length c0_12] 76 (0, 0)) (by (with_reducible repeat first | apply kN | apply kD | apply kA); exact BK324.out) k_ hk_.2.1), (Kd.freshB (g := gb325) (o := .cells #[.int .i64 0, .int .i64 0, .int .i64 0, .int .i64 0] 34 (0, 0)) (by (with_reducible repeat first | apply kN | apply kD | apply kA); exact BK325.out) k_ hk_.2.1)⟩)) (below_size (by with_reducible repeat first | exact HB.out | apply bA | apply bN | apply bD | refine bS ?_ GE324.out | refine bS ?_ GE325.out))); have hy := bQ BK324.out (by with_reducible repeat first | apply bA | apply bN | apply bD | exact Below.refl _ _) hb; replace BK324 := Aside0.mk (blk_below BK324.out hy); replace BK325 := Aside0.mk (blk_below BK325.out hy); replace HB := Aside0.mk (below_step HB.out hy); clear hy; (try clear hb); (try clear hb2); (try clear hk); (try clear hi); (try clear ho0); obtain ⟨hcz16_0, hcz16_1, hcz16_2, hcz16_3, hfz16_0, hfz16_1, hfz16_2, hfz16_3⟩ := bc4 BK325.out))
  refine bodyPost_ret (results_ctt rfl _ _ gb325 34 #[.int .i64 t334, .int .i64 t335, .int .i64 t336, .int .i64 t337] (0, 0) _ rfl (by (with_reducible repeat first | apply kN | apply kD | apply kA); refine blk_put (cs := #[.int .i64 t334, .int .i64 t335, .int .i64 t336, .int .i64 0]) ?_ 3 _ rfl; (with_reducible repeat first | apply kN | apply kD | apply kA); refine blk_put (cs := #[.int .i64 t334, .int .i64 t335, .int .i64 0, .int .i64 0]) ?_ 2 _ rfl; (with_reducible repeat first | apply kN | apply kD | apply kA); refine blk_put (cs := #[.int .i64 t334, .int .i64 0, .int .i64 0, .int .i64 0]) ?_ 1 _ rfl; (with_reducible repeat first | apply kN | apply kD | apply kA); refine blk_put (cs := #[.int .i64 0, .int .i64 0, .int .i64 0, .int .i64 0]) ?_ 0 _ rfl; (with_reducible repeat first | apply kN | apply kD | apply kA); exact BK325.out) Tryd.underlying34 rfl (by kernel_rfl)) rfl ?_
  exact ⟨_, by first | rfl | (simp <;> rfl) | (simp [*] <;> rfl), by (with_reducible repeat (first | apply Kd.N_alloc | apply Kd.N_drewN | apply Kd.N_drew)); exact Kd.N_mono (Kd.N_far (p := ⟨gb325, 3, none⟩) (Kd.N_far (p := ⟨gb325, 2, none⟩) (Kd.N_far (p := ⟨gb325, 1, none⟩) (Kd.N_far (p := ⟨gb325, 0, none⟩) (Kd.N_mono HO340.out (fun k_ hk => (⟨hk, hk.2.2⟩ : _ ∧ k_ ≠ gb325))) (fun _ hk => hk.2) (.int .i64 t334)) (fun _ hk => hk.2) (.int .i64 t335)) (fun _ hk => hk.2) (.int .i64 t336)) (fun _ hk => hk.2) (.int .i64 t337)) (fun _ hk => hk.1.1), by with_reducible repeat first | exact HB.out | apply bA | apply bN | apply bD | refine bS ?_ GE324.out | refine bS ?_ GE325.out⟩

end Go.Proofs.YtfbndolhocojiaaDoor.K
