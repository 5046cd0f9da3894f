/- Each call of a Go function comes to what the Lean function of its name answers (written out by wip/tools/xprint.py, checked by Lean); conditions: those in each statement. -/
import Derived.Test.YtclddmjfgceemaaQx0
import Derived.Test.YtclddmjfgceemaaQx2
import Derived.Test.YtclddmjfgceemaaQx5
import Derived.Test.YtclddmjfgceemaaQx6
import Derived.Test.YtclddmjfgceemaaQx7
import Derived.Test.YtclddmjfgceemaaQx10
import Derived.Test.YtclddmjfgceemaaQx12
import Derived.Test.YtclddmjfgceemaaQx13
namespace Go.Proofs.Ytclddmjfgceemaa.Q
open Go.RowKit Go.Proofs.YtclddmjfgceemaaW.PrintWords Go.Proofs.YtclddmjfgceemaaW.PrintLast Go.Proofs.YtclddmjfgceemaaW.PrintMore Go.Proofs.YtclddmjfgceemaaW.PrintX
attribute [local go_sem] max2_int min2_int max_two min_two max_three min_three max_four min_four   -- for this text's walks alone
set_option linter.unusedVariables false
set_option linter.unusedSimpArgs false

attribute [local go_sem high] eqA31
/-! ### ridgewaylaw10_PolicyIs: function 3 -/
mutual
def ridgewaylaw10_PolicyIs.j0 : Nat → List (S31) → Int → Bool → Bool → Bool → Int → Int → List Int → Int → Option (Bool)
 | 0, _, _, _, _, _, _, _, _, _ => none
 | k + 1, x0, x2, x3, x9, x24, x197000, x197001, x197002, x197003 => if x24 = true then (some x9) else (ridgewaylaw10_PolicyIs.l0 k x0 x2 x3 x9 0 x197000 x197001 x197002 x197003)
def ridgewaylaw10_PolicyIs.l0 : Nat → List (S31) → Int → Bool → Bool → Int → Int → Int → List Int → Int → Option (Bool)
 | 0, _, _, _, _, _, _, _, _, _ => none
 | k + 1, x0, x2, x3, x9, x10, x197000, x197001, x197002, x197003 => if x10 < (x0.length : Int) then (if 0 ≤ x10 then ((policy_Sane.f ((rd_T31 x0 x10).f0) ((rd_T31 x0 x10).f1.f0) ((rd_T31 x0 x10).f1.f1) ((rd_T31 x0 x10).f2) ((rd_T31 x0 x10).f3) ((rd_T31 x0 x10).f4) x3).bind fun t199 => ((ridgewayref10_Sane.f k ((rd_T31 x0 x10).f0) ((rd_T31 x0 x10).f1.f0) ((rd_T31 x0 x10).f1.f1) ((rd_T31 x0 x10).f2) ((rd_T31 x0 x10).f3) ((rd_T31 x0 x10).f4) x3).bind fun t201 => (if (t199 != t201) = true then (some false) else ((policy_Fits.f k ((rd_T31 x0 x10).f0) ((rd_T31 x0 x10).f1.f0) ((rd_T31 x0 x10).f1.f1) ((rd_T31 x0 x10).f2) ((rd_T31 x0 x10).f3) ((rd_T31 x0 x10).f4) x197000 x197001 x197002 x197003).bind fun t203 => ((ridgewayref10_Fits.f k ((rd_T31 x0 x10).f0) ((rd_T31 x0 x10).f1.f0) ((rd_T31 x0 x10).f1.f1) ((rd_T31 x0 x10).f2) ((rd_T31 x0 x10).f3) ((rd_T31 x0 x10).f4) x197000 x197001 x197002 x197003).bind fun t205 => (if (t203 != t205) = true then (some false) else ((policy_Total.f ((rd_T31 x0 x10).f0) ((rd_T31 x0 x10).f1.f0) ((rd_T31 x0 x10).f1.f1) ((rd_T31 x0 x10).f2) ((rd_T31 x0 x10).f3) ((rd_T31 x0 x10).f4) x2).bind fun t207 => ((ridgewayref10_Total.f ((rd_T31 x0 x10).f0) ((rd_T31 x0 x10).f1.f0) ((rd_T31 x0 x10).f1.f1) ((rd_T31 x0 x10).f2) ((rd_T31 x0 x10).f3) ((rd_T31 x0 x10).f4) x2).bind fun t209 => (if (t207 != t209) = true then (some false) else (ridgewaylaw10_PolicyIs.l0 k x0 x2 x3 x9 (wrap64 (x10 + 1)) x197000 x197001 x197002 x197003)))))))))) else (none)) else ((policy_Pick.f k x0 x197000 x197001 x197002 x197003).bind fun bt210 => ((ridgewayref10_Pick.f k x0 x197000 x197001 x197002 x197003).bind fun bt218 => (if x9 = true then (if (bt210.1 == bt218.1 && ((bt210.2.1 == bt218.2.1 && (bt210.2.2.1 == bt218.2.2.1)) && (bt210.2.2.2.1 == bt218.2.2.2.1 && (bt210.2.2.2.2.1 == bt218.2.2.2.2.1 && (bt210.2.2.2.2.2.1 == bt218.2.2.2.2.2.1))))) = true then (if (bt210.2.2.2.2.2.2 == bt218.2.2.2.2.2.2) = true then ((policy_Reach.f x0 x2).bind fun t226 => ((ridgewayref10_Reach.f k x0 x2).bind fun t229 => ((ridgewayref10_Same.f k t226 t229).bind fun t232 => (some t232)))) else (some false)) else (some false)) else (some false))))
end
def ridgewaylaw10_PolicyIs.f (k : Nat) (l0 : List (S31)) (a1_0 : Int) (a1_1 : Int) (l1_2 : List Int) (a1_3 : Int) (a2 : Int) (a3 : Bool) : Option (Bool) := (ridgewaylaw10_awake.f).bind fun t197 => (if (l0.length : Int) > 30 then (ridgewaylaw10_PolicyIs.j0 k l0 a2 a3 t197 true a1_0 a1_1 l1_2 a1_3) else (ridgewaylaw10_PolicyIs.j0 k l0 a2 a3 t197 (decide ((l1_2.length : Int) > 100)) a1_0 a1_1 l1_2 a1_3))
theorem ridgewaylaw10_PolicyIs.mono_l : ∀ k, (∀ y0 y1 y2 y3 y4 y5 y6 y7 y8, LeO (ridgewaylaw10_PolicyIs.j0 k y0 y1 y2 y3 y4 y5 y6 y7 y8) (ridgewaylaw10_PolicyIs.j0 (k + 1) y0 y1 y2 y3 y4 y5 y6 y7 y8)) ∧ (∀ y0 y1 y2 y3 y4 y5 y6 y7 y8, LeO (ridgewaylaw10_PolicyIs.l0 k y0 y1 y2 y3 y4 y5 y6 y7 y8) (ridgewaylaw10_PolicyIs.l0 (k + 1) y0 y1 y2 y3 y4 y5 y6 y7 y8))
 | 0 => ⟨fun _ _ _ _ _ _ _ _ _ r h => by simp [ridgewaylaw10_PolicyIs.j0] at h, fun _ _ _ _ _ _ _ _ _ r h => by simp [ridgewaylaw10_PolicyIs.l0] at h⟩
 | k + 1 => by
  obtain ⟨ih0, ih1⟩ := ridgewaylaw10_PolicyIs.mono_l k
  refine ⟨?_, ?_⟩
  ·
   intro y0 y1 y2 y3 y4 y5 y6 y7 y8
   unfold ridgewaylaw10_PolicyIs.j0
   repeat' first
   | (with_reducible exact ih0 _ _ _ _ _ _ _ _ _)
   | (with_reducible exact ih1 _ _ _ _ _ _ _ _ _)
   | (with_reducible exact policy_Fits.mono _ _ _ _ _ _ _ _ _ _ _)
   | (with_reducible exact policy_Pick.mono _ _ _ _ _ _)
   | (with_reducible exact ridgewayref10_Fits.mono _ _ _ _ _ _ _ _ _ _ _)
   | (with_reducible exact ridgewayref10_Pick.mono _ _ _ _ _ _)
   | (with_reducible exact ridgewayref10_Reach.mono _ _ _)
   | (with_reducible exact ridgewayref10_Same.mono _ _ _)
   | (with_reducible exact ridgewayref10_Sane.mono _ _ _ _ _ _ _ _)
   | (with_reducible exact LeO.refl _)
   | (with_reducible exact LeO.none _)
   | (with_reducible refine LeO.ite ?_ ?_)
   | (with_reducible refine LeO.bind ?_ (fun _ => ?_))
   | exact ih0 _ _ _ _ _ _ _ _ _
   | exact ih1 _ _ _ _ _ _ _ _ _
   | exact policy_Fits.mono _ _ _ _ _ _ _ _ _ _ _
   | exact policy_Pick.mono _ _ _ _ _ _
   | exact ridgewayref10_Fits.mono _ _ _ _ _ _ _ _ _ _ _
   | exact ridgewayref10_Pick.mono _ _ _ _ _ _
   | exact ridgewayref10_Reach.mono _ _ _
   | exact ridgewayref10_Same.mono _ _ _
   | exact ridgewayref10_Sane.mono _ _ _ _ _ _ _ _
   | exact LeO.none _
   | refine LeO.ite ?_ ?_
   | refine LeO.bind ?_ (fun _ => ?_)
  ·
   intro y0 y1 y2 y3 y4 y5 y6 y7 y8
   unfold ridgewaylaw10_PolicyIs.l0
   repeat' first
   | (with_reducible exact ih0 _ _ _ _ _ _ _ _ _)
   | (with_reducible exact ih1 _ _ _ _ _ _ _ _ _)
   | (with_reducible exact policy_Fits.mono _ _ _ _ _ _ _ _ _ _ _)
   | (with_reducible exact policy_Pick.mono _ _ _ _ _ _)
   | (with_reducible exact ridgewayref10_Fits.mono _ _ _ _ _ _ _ _ _ _ _)
   | (with_reducible exact ridgewayref10_Pick.mono _ _ _ _ _ _)
   | (with_reducible exact ridgewayref10_Reach.mono _ _ _)
   | (with_reducible exact ridgewayref10_Same.mono _ _ _)
   | (with_reducible exact ridgewayref10_Sane.mono _ _ _ _ _ _ _ _)
   | (with_reducible exact LeO.refl _)
   | (with_reducible exact LeO.none _)
   | (with_reducible refine LeO.ite ?_ ?_)
   | (with_reducible refine LeO.bind ?_ (fun _ => ?_))
   | exact ih0 _ _ _ _ _ _ _ _ _
   | exact ih1 _ _ _ _ _ _ _ _ _
   | exact policy_Fits.mono _ _ _ _ _ _ _ _ _ _ _
   | exact policy_Pick.mono _ _ _ _ _ _
   | exact ridgewayref10_Fits.mono _ _ _ _ _ _ _ _ _ _ _
   | exact ridgewayref10_Pick.mono _ _ _ _ _ _
   | exact ridgewayref10_Reach.mono _ _ _
   | exact ridgewayref10_Same.mono _ _ _
   | exact ridgewayref10_Sane.mono _ _ _ _ _ _ _ _
   | exact LeO.none _
   | refine LeO.ite ?_ ?_
   | refine LeO.bind ?_ (fun _ => ?_)
theorem ridgewaylaw10_PolicyIs.mono : ∀ a0 a1 a2 a3 a4 a5 a6 k, LeO (ridgewaylaw10_PolicyIs.f k a0 a1 a2 a3 a4 a5 a6) (ridgewaylaw10_PolicyIs.f (k + 1) a0 a1 a2 a3 a4 a5 a6) := by
 intro a0 a1 a2 a3 a4 a5 a6 k
 obtain ⟨ih0, ih1⟩ := ridgewaylaw10_PolicyIs.mono_l k
 unfold ridgewaylaw10_PolicyIs.f
 repeat' first
   | (with_reducible exact ih0 _ _ _ _ _ _ _ _ _)
   | (with_reducible exact ih1 _ _ _ _ _ _ _ _ _)
   | (with_reducible exact policy_Fits.mono _ _ _ _ _ _ _ _ _ _ _)
   | (with_reducible exact policy_Pick.mono _ _ _ _ _ _)
   | (with_reducible exact ridgewayref10_Fits.mono _ _ _ _ _ _ _ _ _ _ _)
   | (with_reducible exact ridgewayref10_Pick.mono _ _ _ _ _ _)
   | (with_reducible exact ridgewayref10_Reach.mono _ _ _)
   | (with_reducible exact ridgewayref10_Same.mono _ _ _)
   | (with_reducible exact ridgewayref10_Sane.mono _ _ _ _ _ _ _ _)
   | (with_reducible exact LeO.refl _)
   | (with_reducible exact LeO.none _)
   | (with_reducible refine LeO.ite ?_ ?_)
   | (with_reducible refine LeO.bind ?_ (fun _ => ?_))
   | exact ih0 _ _ _ _ _ _ _ _ _
   | exact ih1 _ _ _ _ _ _ _ _ _
   | exact policy_Fits.mono _ _ _ _ _ _ _ _ _ _ _
   | exact policy_Pick.mono _ _ _ _ _ _
   | exact ridgewayref10_Fits.mono _ _ _ _ _ _ _ _ _ _ _
   | exact ridgewayref10_Pick.mono _ _ _ _ _ _
   | exact ridgewayref10_Reach.mono _ _ _
   | exact ridgewayref10_Same.mono _ _ _
   | exact ridgewayref10_Sane.mono _ _ _ _ _ _ _ _
   | exact LeO.none _
   | refine LeO.ite ?_ ?_
   | refine LeO.bind ?_ (fun _ => ?_)
def ridgewaylaw10_PolicyIs.T7 : Bool × List (List Nat × List Nat) := (true, [([], []), ([], []), ([0, 1], [0, 1]), ([2], [2]), ([], []), ([3, 4], [3, 4]), ([], []), ([], []), ([6, 7], [6, 7]), ([8], [8]), ([], []), ([9, 10, 5], [9, 10]), ([5, 11], [5, 11]), ([12, 11], [12]), ([13], [13]), ([13], [13]), ([14, 15, 13], [13, 14, 15]), ([16, 13], [13, 16]), ([13], [13]), ([17, 18, 13, 13], [13, 17, 18]), ([13], [13]), ([13], [13]), ([20, 21, 13], [13, 20, 21]), ([22, 13], [13, 22]), ([13], [13]), ([23, 24, 19, 13], [13, 23, 24]), ([19, 25, 13], [13, 19, 25]), ([13, 26], [13, 26]), ([27, 25], [27]), ([28], [28]), ([28], [28]), ([29, 30, 28], [28, 29, 30]), ([31, 28], [28, 31]), ([28], [28]), ([32, 33, 28, 28], [28, 32, 33]), ([28], [28]), ([28], [28]), ([35, 36, 28], [28, 35, 36]), ([37, 28], [28, 37]), ([28], [28]), ([38, 39, 34, 28], [28, 38, 39]), ([34, 40, 28], [28, 34, 40]), ([28, 41], [28, 41])])
def ridgewaylaw10_PolicyIs.B7 : List Nat := [0, 0, 3, 7, 0, 31, 0, 0, 192, 448, 0, 2047, 4095, 8191, 16383, 16383, 65535, 131071, 16383, 524287, 16383, 16383, 3162111, 7356415, 16383, 33554431, 67108863, 134217727, 268435455, 536870911, 536870911, 2147483647, 4294967295, 536870911, 17179869183, 536870911, 536870911, 103616086015, 241055039487, 536870911, 1099511627775, 2199023255551, 4398046511103]
theorem ridgewaylaw10_PolicyIs.tab7 : rtab .any (opsOf Try.f3 7) = ridgewaylaw10_PolicyIs.T7 := by kernel_rfl
theorem ridgewaylaw10_PolicyIs.bits7 : waitsOk ridgewaylaw10_PolicyIs.T7.2 ridgewaylaw10_PolicyIs.B7 = true := by kernel_rfl
set_option maxHeartbeats 8000000 in
set_option maxRecDepth 100000 in
theorem ridgewaylaw10_PolicyIs.calls (k : Nat) (A0 : Option Addr) (c0 : Nat) (l0 : List (S31)) (a1_0 : Int) (a1_1 : Int) (A1_2 : Option Addr) (c1_2 : Nat) (l1_2 : List Int) (a1_3 : Int) (a2 : Int) (a3 : Bool) (w : World) (hr0 : Kd.C k31 w A0 l0.length l0) (hc0 : l0.length ≤ c0) (hr1_2 : Kd.C (Kd.int .i64) w A1_2 l1_2.length l1_2) (hc1_2 : l1_2.length ≤ c1_2) (h : ridgewaylaw10_PolicyIs.f k l0 a1_0 a1_1 l1_2 a1_3 a2 a3 = some true) :
  Calls Try.prog 3 #[.slice A0 l0.length c0, .agg #[.int .i64 a1_0, .int .i64 a1_1, .slice A1_2 l1_2.length c1_2, .int .i64 a1_3], .int .i64 a2, .bool a3] w fun e w' => e = .returned (.bool true) ∧ Below w.heap.size w w' := by
 have hu27 := Try.underlying27
 have hu31 := Try.underlying31
 have HR0 := Aside0.mk hr0
 have HC0 := Aside0.mk hc0
 clear hr0 hc0
 have HR1_2 := Aside0.mk hr1_2
 have HC1_2 := Aside0.mk hc1_2
 clear hr1_2 hc1_2
 have HB := Aside0.mk (Below.refl w.heap.size w)
 have H : ((ridgewaylaw10_awake.f).bind fun t197 => (if (l0.length : Int) > 30 then (ridgewaylaw10_PolicyIs.j0 k l0 a2 a3 t197 true a1_0 a1_1 l1_2 a1_3) else (ridgewaylaw10_PolicyIs.j0 k l0 a2 a3 t197 (decide ((l1_2.length : Int) > 100)) a1_0 a1_1 l1_2 a1_3))) = some true := h
 clear h
 replace H := Option.bind_eq_some_iff.mp H
 obtain ⟨t197, A50, H⟩ := H
 replace H : (if (l0.length : Int) > 30 then (ridgewaylaw10_PolicyIs.j0 k l0 a2 a3 t197 true a1_0 a1_1 l1_2 a1_3) else (ridgewaylaw10_PolicyIs.j0 k l0 a2 a3 t197 (decide ((l1_2.length : Int) > 100)) a1_0 a1_1 l1_2 a1_3)) = some true := H
 have A5 := Aside0.mk A50
 clear A50
 have HC6 := Aside0.mk H
 clear H
 go_enter Try.func3, Try.ntmps3
 go_upto_region 2 with (first | ((with_reducible refine gate_dst (N := 5) rfl ?_); (try (refine gate_guard (by rfl) ?_; dsimp only)); refine box_event ?hg (N := 5) ?hd (cs := #[.int .i64 a1_0, .int .i64 a1_1, .slice A1_2 l1_2.length c1_2, .int .i64 a1_3]) (t := 27) ?hr ?_; (case hd => rfl); (case hg => rfl); (case hr => first | (go_simp; done) | (go_simp; rfl)); intro gb196 hg w7 hbox hb; have n0_ := Aside0.mk (below_step (by repeat (first | (with_reducible first | exact HB.out | apply bA | apply bN | apply bD) | exact HB.out)) hb); have n1_ := Aside0.mk (hbox); have n2_ := Aside0.mk ((by rw [hg]; exact (below_size (by repeat (first | (with_reducible first | exact HB.out | apply bA | apply bN | apply bD) | exact HB.out))) : w.heap.size ≤ gb196)); have n3_ := Aside0.mk ((by rw [hg]; exact (below_size (by repeat (first | (with_reducible first | exact HB.out | apply bA | apply bN | apply bD) | exact HB.out))) : w.heap.size ≤ gb196)); clear HB; have HB := n0_; have BK196 := n1_; have GW196 := n2_; have GE196 := n3_; clear n0_ n1_ n2_ n3_; clear hb hbox hg) | ((with_reducible refine gate_callee (f := 8) rfl ?_); refine goesL_ (some 15) rfl rfl Try.func8 (by kernel_rfl) rfl #[] rfl (by (try simp only [List.map_toArray, List.map_cons, List.map_nil]); first | done | rfl | (simp only [List.length_drop, List.length_take]; rfl)) ?_; (with_reducible refine (ridgewaylaw10_awake.calls  t197 _ A5.out).mono ?_); rintro e w8 ⟨rfl, hb⟩; refine ⟨_, rfl, ?_⟩; have n0_ := Aside0.mk (blk_below (g := gb196) (o := .cells #[.int .i64 a1_0, .int .i64 a1_1, .slice A1_2 l1_2.length c1_2, .int .i64 a1_3] 27 (0, 0)) (by (with_reducible repeat (first | refine kN ?_ _ | refine kD ?_ | refine kA ?_ _)); exact BK196.out) hb); have n1_ := Aside0.mk (below_step (by repeat (first | (with_reducible first | exact HB.out | apply bA | apply bN | apply bD | refine bS ?_ GE196.out) | exact HB.out)) hb); clear BK196; clear HB; have BK196 := n0_; have HB := n1_; clear n0_ n1_; (try clear hb); (try clear hb2); (try clear hk); (try clear hi)))
 (try simp only [Act.put, sA, sB, sC])
 go_cut [24] (fun v24 wc => ∃ (kq : Nat) (x24_5 : Bool), v24 = .bool x24_5 ∧ Aside0 (ridgewaylaw10_PolicyIs.j0 kq l0 a2 a3 t197 x24_5 a1_0 a1_1 l1_2 a1_3 = some true) ∧ Aside0 (kq ≤ k) ∧ Aside0 (wc.heap[gb196]? = some (.cells #[.int .i64 a1_0, .int .i64 a1_1, (.slice A1_2 l1_2.length c1_2), .int .i64 a1_3] 27 (0, 0))) ∧ Aside0 (Below w.heap.size w wc))
 case first =>
  have H := HC6.out
  clear HC6
  by_cases c9 : (l0.length : Int) > 30
  ·
   rw [if_pos c9] at H
   have c9b0 : decide (30 < (l0.length : Int)) = true := decide_eq_true c9
   have c9b1 : decide (30 < l0.length) = true := decide_eq_true (by omega)
   clear c9
   (first | rw [c9b0] | (simp only [i64_w, i32_w]; rw [c9b0]) | skip)
   have H' := Aside0.mk H
   clear H
   go_wp2
   go_meet
   case rel => exact ⟨_, (true), (by first | rfl | (simp; done) | (simp [*]; done)), H', ⟨by first | omega | exact Nat.le_refl _⟩, ⟨by (with_reducible repeat (first | refine kN ?_ _ | refine kD ?_ | refine kA ?_ _)); exact BK196.out⟩, ⟨by repeat (first | (with_reducible first | exact HB.out | apply bA | apply bN | apply bD | refine bS ?_ GE196.out) | exact HB.out)⟩⟩
  ·
   rw [if_neg c9] at H
   have c9b0 : decide (30 < (l0.length : Int)) = false := decide_eq_false c9
   have c9b1 : decide (30 < l0.length) = false := decide_eq_false (by omega)
   clear c9
   (first | rw [c9b0] | (simp only [i64_w, i32_w]; rw [c9b0]) | skip)
   have H' := Aside0.mk H
   clear H
   have hcz10_0 : w8.cell? ⟨gb196, 0, none⟩ = some (.int .i64 a1_0) := (blk_cell BK196.out 0).trans rfl
   have hcz10_1 : w8.cell? ⟨gb196, 1, none⟩ = some (.int .i64 a1_1) := (blk_cell BK196.out 1).trans rfl
   have hcz10_2 : w8.cell? ⟨gb196, 2, none⟩ = some (.slice A1_2 l1_2.length c1_2) := (blk_cell BK196.out 2).trans rfl
   have hcz10_3 : w8.cell? ⟨gb196, 3, none⟩ = some (.int .i64 a1_3) := (blk_cell BK196.out 3).trans rfl
   have hfz10_0 := blk_frozen BK196.out 0
   have hfz10_1 := blk_frozen BK196.out 1
   have hfz10_2 := blk_frozen BK196.out 2
   have hfz10_3 := blk_frozen BK196.out 3
   go_wp2
   go_meet
   case rel => exact ⟨_, (decide ((l1_2.length : Int) > 100)), (by first | rfl | (simp; done) | (simp [*]; done)), H', ⟨by first | omega | exact Nat.le_refl _⟩, ⟨by (with_reducible repeat (first | refine kN ?_ _ | refine kD ?_ | refine kA ?_ _)); exact BK196.out⟩, ⟨by repeat (first | (with_reducible first | exact HB.out | apply bA | apply bN | apply bD | refine bS ?_ GE196.out) | exact HB.out)⟩⟩
 case rest =>
  clear HC6
  try clear c1
  try clear p2
  try clear c3
  try clear c8
  try clear c9
  try clear c9b0
  try clear c9b1
  try clear hcz10_0
  try clear hcz10_1
  try clear hcz10_2
  try clear hcz10_3
  try clear hfz10_0
  try clear hfz10_1
  try clear hfz10_2
  try clear hfz10_3
  obtain ⟨kq, x24_5, rfl, HA, HJ5, BK196, HB⟩ := hcut
  cases kq with
  | zero => exact absurd HA.out (by simp [ridgewaylaw10_PolicyIs.j0])
  | succ kj5 =>
   have H := HA.out
   clear HA
   simp only [ridgewaylaw10_PolicyIs.j0] at H
   by_cases c11 : x24_5 = true
   ·
    subst c11
    have H1 : (some t197) = some true := by rw [if_pos rfl] at H; first | done | exact H
    clear H
    have H := H1
    clear H1
    have HRL_ := Aside0.mk (Option.some.inj H)
    clear H
    go_wp2
    all_goals first | (go_ret; refine ⟨?_, ?_⟩; (focus (first | rfl | (simp [errW_none, errW_some] <;> rfl) | (rw [HRL_.out] <;> rfl) | (simp only [HRL_.out] <;> rfl) | (have h_ := HRL_.out; simp at h_; simp [h_]; done) | (have h_ := HRL_.out; simp [*] at h_ ⊢; done) | (simp [*, errW_none, errW_some] <;> rfl))); (focus (repeat (first | (with_reducible first | exact HB.out | apply bA | apply bN | apply bD | refine bS ?_ GE196.out) | exact HB.out)))) | (exfalso; simp_all; done)
   ·
    replace c11 := Bool.eq_false_iff.mpr c11
    subst c11
    have H1 : (ridgewaylaw10_PolicyIs.l0 kj5 l0 a2 a3 t197 0 a1_0 a1_1 l1_2 a1_3) = some true := by rw [if_neg (show ¬ (false = true) by decide)] at H; first | done | exact H
    clear H
    have H := H1
    clear H1
    have H' := Aside0.mk H
    clear H
    go_wp2
    go_loopg [10] kj5 (fun kq v10 w' => ∃ (x10_2 : Int), v10 = .int .i64 x10_2 ∧ Aside0 (ridgewaylaw10_PolicyIs.l0 kq l0 a2 a3 t197 x10_2 a1_0 a1_1 l1_2 a1_3 = some true) ∧ Aside0 (kq ≤ kj5) ∧ Aside0 (w'.heap[gb196]? = some (.cells #[.int .i64 a1_0, .int .i64 a1_1, (.slice A1_2 l1_2.length c1_2), .int .i64 a1_3] 27 (0, 0))) ∧ Aside0 (Below w.heap.size w w'))
    case atStart => exact ⟨(0), (by first | rfl | (simp; done) | (simp [*]; done)), H', ⟨Nat.le_refl _⟩, ⟨by (with_reducible repeat (first | refine kN ?_ _ | refine kD ?_ | refine kA ?_ _)); exact BK196.out⟩, ⟨by repeat (first | (with_reducible first | exact HB.out | apply bA | apply bN | apply bD | refine bS ?_ GE196.out) | exact HB.out)⟩⟩
    case round =>
     clear H'
     try clear c1
     try clear p2
     try clear c3
     try clear c8
     try clear c9
     try clear c9b0
     try clear c9b1
     try clear c11
     try clear hcz10_0
     try clear hcz10_1
     try clear hcz10_2
     try clear hcz10_3
     try clear hfz10_0
     try clear hfz10_1
     try clear hfz10_2
     try clear hfz10_3
     try clear p2
     obtain ⟨x10_2, rfl, HA, HK2, BK196, HB⟩ := hrel
     cases gk with
     | zero => exact absurd HA.out (by simp [ridgewaylaw10_PolicyIs.l0])
     | succ k2 =>
      have H := HA.out
      clear HA
      simp only [ridgewaylaw10_PolicyIs.l0] at H
      by_cases c12 : x10_2 < (l0.length : Int)
      ·
       rw [if_pos c12] at H
       have c12b0 : decide (x10_2 < (l0.length : Int)) = true := decide_eq_true c12
       clear c12
       by_cases c13 : 0 ≤ x10_2
       ·
        rw [if_pos c13] at H
        have c13b0 : decide (0 ≤ x10_2) = true := decide_eq_true c13
        clear c13
        replace H := Option.bind_eq_some_iff.mp H
        obtain ⟨t199, A140, H⟩ := H
        replace H : ((ridgewayref10_Sane.f k2 ((rd_T31 l0 x10_2).f0) ((rd_T31 l0 x10_2).f1.f0) ((rd_T31 l0 x10_2).f1.f1) ((rd_T31 l0 x10_2).f2) ((rd_T31 l0 x10_2).f3) ((rd_T31 l0 x10_2).f4) a3).bind fun t201 => (if (t199 != t201) = true then (some false) else ((policy_Fits.f k2 ((rd_T31 l0 x10_2).f0) ((rd_T31 l0 x10_2).f1.f0) ((rd_T31 l0 x10_2).f1.f1) ((rd_T31 l0 x10_2).f2) ((rd_T31 l0 x10_2).f3) ((rd_T31 l0 x10_2).f4) a1_0 a1_1 l1_2 a1_3).bind fun t203 => ((ridgewayref10_Fits.f k2 ((rd_T31 l0 x10_2).f0) ((rd_T31 l0 x10_2).f1.f0) ((rd_T31 l0 x10_2).f1.f1) ((rd_T31 l0 x10_2).f2) ((rd_T31 l0 x10_2).f3) ((rd_T31 l0 x10_2).f4) a1_0 a1_1 l1_2 a1_3).bind fun t205 => (if (t203 != t205) = true then (some false) else ((policy_Total.f ((rd_T31 l0 x10_2).f0) ((rd_T31 l0 x10_2).f1.f0) ((rd_T31 l0 x10_2).f1.f1) ((rd_T31 l0 x10_2).f2) ((rd_T31 l0 x10_2).f3) ((rd_T31 l0 x10_2).f4) a2).bind fun t207 => ((ridgewayref10_Total.f ((rd_T31 l0 x10_2).f0) ((rd_T31 l0 x10_2).f1.f0) ((rd_T31 l0 x10_2).f1.f1) ((rd_T31 l0 x10_2).f2) ((rd_T31 l0 x10_2).f3) ((rd_T31 l0 x10_2).f4) a2).bind fun t209 => (if (t207 != t209) = true then (some false) else (ridgewaylaw10_PolicyIs.l0 k2 l0 a2 a3 t197 (wrap64 (x10_2 + 1)) a1_0 a1_1 l1_2 a1_3))))))))) = some true := H
        have A14 := Aside0.mk A140
        clear A140
        replace H := Option.bind_eq_some_iff.mp H
        obtain ⟨t201, A150, H⟩ := H
        replace H : (if (t199 != t201) = true then (some false) else ((policy_Fits.f k2 ((rd_T31 l0 x10_2).f0) ((rd_T31 l0 x10_2).f1.f0) ((rd_T31 l0 x10_2).f1.f1) ((rd_T31 l0 x10_2).f2) ((rd_T31 l0 x10_2).f3) ((rd_T31 l0 x10_2).f4) a1_0 a1_1 l1_2 a1_3).bind fun t203 => ((ridgewayref10_Fits.f k2 ((rd_T31 l0 x10_2).f0) ((rd_T31 l0 x10_2).f1.f0) ((rd_T31 l0 x10_2).f1.f1) ((rd_T31 l0 x10_2).f2) ((rd_T31 l0 x10_2).f3) ((rd_T31 l0 x10_2).f4) a1_0 a1_1 l1_2 a1_3).bind fun t205 => (if (t203 != t205) = true then (some false) else ((policy_Total.f ((rd_T31 l0 x10_2).f0) ((rd_T31 l0 x10_2).f1.f0) ((rd_T31 l0 x10_2).f1.f1) ((rd_T31 l0 x10_2).f2) ((rd_T31 l0 x10_2).f3) ((rd_T31 l0 x10_2).f4) a2).bind fun t207 => ((ridgewayref10_Total.f ((rd_T31 l0 x10_2).f0) ((rd_T31 l0 x10_2).f1.f0) ((rd_T31 l0 x10_2).f1.f1) ((rd_T31 l0 x10_2).f2) ((rd_T31 l0 x10_2).f3) ((rd_T31 l0 x10_2).f4) a2).bind fun t209 => (if (t207 != t209) = true then (some false) else (ridgewaylaw10_PolicyIs.l0 k2 l0 a2 a3 t197 (wrap64 (x10_2 + 1)) a1_0 a1_1 l1_2 a1_3)))))))) = some true := H
        have A15 := Aside0.mk A150
        clear A150
        by_cases c16 : (t199 != t201) = true
        ·
         rw [if_pos c16] at H
         have c16b0 : (t199 != t201) = true := c16
         (try (have c16b1 : decide (t199 = t201) = false := by simpa using c16))
         (try (have c16b2 : (t199 == t201) = false := by simpa using c16))
         (try (have c16b3 : ¬ (t199 = t201) := by simpa using c16))
         clear c16
         exact absurd H (by simp)
        ·
         rw [if_neg c16] at H
         have c16b0 : (t199 != t201) = false := by simpa using c16
         (try (have c16b1 : decide (t199 = t201) = true := by simpa using c16))
         (try (have c16b2 : (t199 == t201) = true := by simpa using c16))
         clear c16
         replace H := Option.bind_eq_some_iff.mp H
         obtain ⟨t203, A170, H⟩ := H
         replace H : ((ridgewayref10_Fits.f k2 ((rd_T31 l0 x10_2).f0) ((rd_T31 l0 x10_2).f1.f0) ((rd_T31 l0 x10_2).f1.f1) ((rd_T31 l0 x10_2).f2) ((rd_T31 l0 x10_2).f3) ((rd_T31 l0 x10_2).f4) a1_0 a1_1 l1_2 a1_3).bind fun t205 => (if (t203 != t205) = true then (some false) else ((policy_Total.f ((rd_T31 l0 x10_2).f0) ((rd_T31 l0 x10_2).f1.f0) ((rd_T31 l0 x10_2).f1.f1) ((rd_T31 l0 x10_2).f2) ((rd_T31 l0 x10_2).f3) ((rd_T31 l0 x10_2).f4) a2).bind fun t207 => ((ridgewayref10_Total.f ((rd_T31 l0 x10_2).f0) ((rd_T31 l0 x10_2).f1.f0) ((rd_T31 l0 x10_2).f1.f1) ((rd_T31 l0 x10_2).f2) ((rd_T31 l0 x10_2).f3) ((rd_T31 l0 x10_2).f4) a2).bind fun t209 => (if (t207 != t209) = true then (some false) else (ridgewaylaw10_PolicyIs.l0 k2 l0 a2 a3 t197 (wrap64 (x10_2 + 1)) a1_0 a1_1 l1_2 a1_3)))))) = some true := H
         have A17 := Aside0.mk A170
         clear A170
         replace H := Option.bind_eq_some_iff.mp H
         obtain ⟨t205, A180, H⟩ := H
         replace H : (if (t203 != t205) = true then (some false) else ((policy_Total.f ((rd_T31 l0 x10_2).f0) ((rd_T31 l0 x10_2).f1.f0) ((rd_T31 l0 x10_2).f1.f1) ((rd_T31 l0 x10_2).f2) ((rd_T31 l0 x10_2).f3) ((rd_T31 l0 x10_2).f4) a2).bind fun t207 => ((ridgewayref10_Total.f ((rd_T31 l0 x10_2).f0) ((rd_T31 l0 x10_2).f1.f0) ((rd_T31 l0 x10_2).f1.f1) ((rd_T31 l0 x10_2).f2) ((rd_T31 l0 x10_2).f3) ((rd_T31 l0 x10_2).f4) a2).bind fun t209 => (if (t207 != t209) = true then (some false) else (ridgewaylaw10_PolicyIs.l0 k2 l0 a2 a3 t197 (wrap64 (x10_2 + 1)) a1_0 a1_1 l1_2 a1_3))))) = some true := H
         have A18 := Aside0.mk A180
         clear A180
         by_cases c19 : (t203 != t205) = true
         ·
          rw [if_pos c19] at H
          have c19b0 : (t203 != t205) = true := c19
          (try (have c19b1 : decide (t203 = t205) = false := by simpa using c19))
          (try (have c19b2 : (t203 == t205) = false := by simpa using c19))
          (try (have c19b3 : ¬ (t203 = t205) := by simpa using c19))
          clear c19
          exact absurd H (by simp)
         ·
          rw [if_neg c19] at H
          have c19b0 : (t203 != t205) = false := by simpa using c19
          (try (have c19b1 : decide (t203 = t205) = true := by simpa using c19))
          (try (have c19b2 : (t203 == t205) = true := by simpa using c19))
          clear c19
          replace H := Option.bind_eq_some_iff.mp H
          obtain ⟨t207, A200, H⟩ := H
          replace H : ((ridgewayref10_Total.f ((rd_T31 l0 x10_2).f0) ((rd_T31 l0 x10_2).f1.f0) ((rd_T31 l0 x10_2).f1.f1) ((rd_T31 l0 x10_2).f2) ((rd_T31 l0 x10_2).f3) ((rd_T31 l0 x10_2).f4) a2).bind fun t209 => (if (t207 != t209) = true then (some false) else (ridgewaylaw10_PolicyIs.l0 k2 l0 a2 a3 t197 (wrap64 (x10_2 + 1)) a1_0 a1_1 l1_2 a1_3))) = some true := H
          have A20 := Aside0.mk A200
          clear A200
          replace H := Option.bind_eq_some_iff.mp H
          obtain ⟨t209, A210, H⟩ := H
          replace H : (if (t207 != t209) = true then (some false) else (ridgewaylaw10_PolicyIs.l0 k2 l0 a2 a3 t197 (wrap64 (x10_2 + 1)) a1_0 a1_1 l1_2 a1_3)) = some true := H
          have A21 := Aside0.mk A210
          clear A210
          by_cases c22 : (t207 != t209) = true
          ·
           rw [if_pos c22] at H
           have c22b0 : (t207 != t209) = true := c22
           (try (have c22b1 : decide (t207 = t209) = false := by simpa using c22))
           (try (have c22b2 : (t207 == t209) = false := by simpa using c22))
           (try (have c22b3 : ¬ (t207 = t209) := by simpa using c22))
           clear c22
           exact absurd H (by simp)
          ·
           rw [if_neg c22] at H
           have c22b0 : (t207 != t209) = false := by simpa using c22
           (try (have c22b1 : decide (t207 = t209) = true := by simpa using c22))
           (try (have c22b2 : (t207 == t209) = true := by simpa using c22))
           clear c22
           have H' := Aside0.mk H
           clear H
           try go_wp2
           have n0_ := Aside0.mk (blk_drew BK196.out)
           have n1_ := Aside0.mk (below_drew1 HB.out)
           clear BK196
           clear HB
           have BK196 := n0_
           have HB := n1_
           clear n0_ n1_
           have p198 : 0 ≤ (x10_2 : Int) := of_decide_eq_true (by first | (with_reducible assumption) | assumption)
           have q198 : x10_2 < (l0.length : Int) := of_decide_eq_true (by first | (with_reducible assumption) | assumption)
           obtain ⟨ad198, e198, hx198_0, hx198_1, hx198_2, hx198_3, hx198_4, hx198_5⟩ := at_T31 HR0.out x10_2 p198 q198
           have hw198_5 := hx198_5
           have hw198_4 := hx198_4
           have hw198_3 := hx198_3
           have hw198_2 := hx198_2
           have hw198_1 := hx198_1
           have hw198_0 := hx198_0
           cases e198
           replace hx198_0 := cB HB.out hx198_0
           replace hx198_1 := cB HB.out hx198_1
           replace hx198_2 := cB HB.out hx198_2
           replace hx198_3 := cB HB.out hx198_3
           replace hx198_4 := cB HB.out hx198_4
           replace hx198_5 := cB HB.out hx198_5
           replace p198 := eq_true p198
           replace q198 := eq_true q198
           have p200 : 0 ≤ (x10_2 : Int) := of_decide_eq_true (by first | (with_reducible assumption) | assumption)
           have q200 : x10_2 < (l0.length : Int) := of_decide_eq_true (by first | (with_reducible assumption) | assumption)
           obtain ⟨ad200, e200, hx200_0, hx200_1, hx200_2, hx200_3, hx200_4, hx200_5⟩ := at_T31 HR0.out x10_2 p200 q200
           have hw200_5 := hx200_5
           have hw200_4 := hx200_4
           have hw200_3 := hx200_3
           have hw200_2 := hx200_2
           have hw200_1 := hx200_1
           have hw200_0 := hx200_0
           obtain rfl : ad198 = ad200 := (by injection e200)
           replace hx200_0 := cB HB.out hx200_0
           replace hx200_1 := cB HB.out hx200_1
           replace hx200_2 := cB HB.out hx200_2
           replace hx200_3 := cB HB.out hx200_3
           replace hx200_4 := cB HB.out hx200_4
           replace hx200_5 := cB HB.out hx200_5
           replace p200 := eq_true p200
           replace q200 := eq_true q200
           have p202 : 0 ≤ (x10_2 : Int) := of_decide_eq_true (by first | (with_reducible assumption) | assumption)
           have q202 : x10_2 < (l0.length : Int) := of_decide_eq_true (by first | (with_reducible assumption) | assumption)
           obtain ⟨ad202, e202, hx202_0, hx202_1, hx202_2, hx202_3, hx202_4, hx202_5⟩ := at_T31 HR0.out x10_2 p202 q202
           have hw202_5 := hx202_5
           have hw202_4 := hx202_4
           have hw202_3 := hx202_3
           have hw202_2 := hx202_2
           have hw202_1 := hx202_1
           have hw202_0 := hx202_0
           obtain rfl : ad198 = ad202 := (by injection e202)
           replace hx202_0 := cB HB.out hx202_0
           replace hx202_1 := cB HB.out hx202_1
           replace hx202_2 := cB HB.out hx202_2
           replace hx202_3 := cB HB.out hx202_3
           replace hx202_4 := cB HB.out hx202_4
           replace hx202_5 := cB HB.out hx202_5
           replace p202 := eq_true p202
           replace q202 := eq_true q202
           have p204 : 0 ≤ (x10_2 : Int) := of_decide_eq_true (by first | (with_reducible assumption) | assumption)
           have q204 : x10_2 < (l0.length : Int) := of_decide_eq_true (by first | (with_reducible assumption) | assumption)
           obtain ⟨ad204, e204, hx204_0, hx204_1, hx204_2, hx204_3, hx204_4, hx204_5⟩ := at_T31 HR0.out x10_2 p204 q204
           have hw204_5 := hx204_5
           have hw204_4 := hx204_4
           have hw204_3 := hx204_3
           have hw204_2 := hx204_2
           have hw204_1 := hx204_1
           have hw204_0 := hx204_0
           obtain rfl : ad198 = ad204 := (by injection e204)
           replace hx204_0 := cB HB.out hx204_0
           replace hx204_1 := cB HB.out hx204_1
           replace hx204_2 := cB HB.out hx204_2
           replace hx204_3 := cB HB.out hx204_3
           replace hx204_4 := cB HB.out hx204_4
           replace hx204_5 := cB HB.out hx204_5
           replace p204 := eq_true p204
           replace q204 := eq_true q204
           have p206 : 0 ≤ (x10_2 : Int) := of_decide_eq_true (by first | (with_reducible assumption) | assumption)
           have q206 : x10_2 < (l0.length : Int) := of_decide_eq_true (by first | (with_reducible assumption) | assumption)
           obtain ⟨ad206, e206, hx206_0, hx206_1, hx206_2, hx206_3, hx206_4, hx206_5⟩ := at_T31 HR0.out x10_2 p206 q206
           have hw206_5 := hx206_5
           have hw206_4 := hx206_4
           have hw206_3 := hx206_3
           have hw206_2 := hx206_2
           have hw206_1 := hx206_1
           have hw206_0 := hx206_0
           obtain rfl : ad198 = ad206 := (by injection e206)
           replace hx206_0 := cB HB.out hx206_0
           replace hx206_1 := cB HB.out hx206_1
           replace hx206_2 := cB HB.out hx206_2
           replace hx206_3 := cB HB.out hx206_3
           replace hx206_4 := cB HB.out hx206_4
           replace hx206_5 := cB HB.out hx206_5
           replace p206 := eq_true p206
           replace q206 := eq_true q206
           have p208 : 0 ≤ (x10_2 : Int) := of_decide_eq_true (by first | (with_reducible assumption) | assumption)
           have q208 : x10_2 < (l0.length : Int) := of_decide_eq_true (by first | (with_reducible assumption) | assumption)
           obtain ⟨ad208, e208, hx208_0, hx208_1, hx208_2, hx208_3, hx208_4, hx208_5⟩ := at_T31 HR0.out x10_2 p208 q208
           have hw208_5 := hx208_5
           have hw208_4 := hx208_4
           have hw208_3 := hx208_3
           have hw208_2 := hx208_2
           have hw208_1 := hx208_1
           have hw208_0 := hx208_0
           obtain rfl : ad198 = ad208 := (by injection e208)
           replace hx208_0 := cB HB.out hx208_0
           replace hx208_1 := cB HB.out hx208_1
           replace hx208_2 := cB HB.out hx208_2
           replace hx208_3 := cB HB.out hx208_3
           replace hx208_4 := cB HB.out hx208_4
           replace hx208_5 := cB HB.out hx208_5
           replace p208 := eq_true p208
           replace q208 := eq_true q208
           refine start_ (n := 43) (S := fun w' => w'.cell? ⟨gb196, 0, none⟩ = some (.int .i64 a1_0) ∧ w'.cell? ⟨gb196, 1, none⟩ = some (.int .i64 a1_1) ∧ w'.cell? ⟨gb196, 2, none⟩ = some (.slice A1_2 l1_2.length c1_2) ∧ w'.cell? ⟨gb196, 3, none⟩ = some (.int .i64 a1_3) ∧ w'.cell? (ad198.add ((x10_2).toNat * 6)) = some (.int .i64 ((rd_T31 l0 x10_2).f0)) ∧ w'.cell? ⟨(ad198.add ((x10_2).toNat * 6)).block, (ad198.add ((x10_2).toNat * 6)).off + 1, none⟩ = some (.int .i64 ((rd_T31 l0 x10_2).f1.f0)) ∧ w'.cell? ⟨(ad198.add ((x10_2).toNat * 6)).block, (ad198.add ((x10_2).toNat * 6)).off + 2, none⟩ = some (.int .i64 ((rd_T31 l0 x10_2).f1.f1)) ∧ w'.cell? ⟨(ad198.add ((x10_2).toNat * 6)).block, (ad198.add ((x10_2).toNat * 6)).off + 3, none⟩ = some (.int .i64 ((rd_T31 l0 x10_2).f2)) ∧ w'.cell? ⟨(ad198.add ((x10_2).toNat * 6)).block, (ad198.add ((x10_2).toNat * 6)).off + 4, none⟩ = some (.int .i64 ((rd_T31 l0 x10_2).f3)) ∧ w'.cell? ⟨(ad198.add ((x10_2).toNat * 6)).block, (ad198.add ((x10_2).toNat * 6)).off + 5, none⟩ = some (.int .i64 ((rd_T31 l0 x10_2).f4)) ∧ w'.cell? (ad198.add ((x10_2).toNat * 6)) = some (.int .i64 ((rd_T31 l0 x10_2).f0)) ∧ w'.cell? ⟨(ad198.add ((x10_2).toNat * 6)).block, (ad198.add ((x10_2).toNat * 6)).off + 1, none⟩ = some (.int .i64 ((rd_T31 l0 x10_2).f1.f0)) ∧ w'.cell? ⟨(ad198.add ((x10_2).toNat * 6)).block, (ad198.add ((x10_2).toNat * 6)).off + 2, none⟩ = some (.int .i64 ((rd_T31 l0 x10_2).f1.f1)) ∧ w'.cell? ⟨(ad198.add ((x10_2).toNat * 6)).block, (ad198.add ((x10_2).toNat * 6)).off + 3, none⟩ = some (.int .i64 ((rd_T31 l0 x10_2).f2)) ∧ w'.cell? ⟨(ad198.add ((x10_2).toNat * 6)).block, (ad198.add ((x10_2).toNat * 6)).off + 4, none⟩ = some (.int .i64 ((rd_T31 l0 x10_2).f3)) ∧ w'.cell? ⟨(ad198.add ((x10_2).toNat * 6)).block, (ad198.add ((x10_2).toNat * 6)).off + 5, none⟩ = some (.int .i64 ((rd_T31 l0 x10_2).f4)) ∧ w'.cell? (ad198.add ((x10_2).toNat * 6)) = some (.int .i64 ((rd_T31 l0 x10_2).f0)) ∧ w'.cell? ⟨(ad198.add ((x10_2).toNat * 6)).block, (ad198.add ((x10_2).toNat * 6)).off + 1, none⟩ = some (.int .i64 ((rd_T31 l0 x10_2).f1.f0)) ∧ w'.cell? ⟨(ad198.add ((x10_2).toNat * 6)).block, (ad198.add ((x10_2).toNat * 6)).off + 2, none⟩ = some (.int .i64 ((rd_T31 l0 x10_2).f1.f1)) ∧ w'.cell? ⟨(ad198.add ((x10_2).toNat * 6)).block, (ad198.add ((x10_2).toNat * 6)).off + 3, none⟩ = some (.int .i64 ((rd_T31 l0 x10_2).f2)) ∧ w'.cell? ⟨(ad198.add ((x10_2).toNat * 6)).block, (ad198.add ((x10_2).toNat * 6)).off + 4, none⟩ = some (.int .i64 ((rd_T31 l0 x10_2).f3)) ∧ w'.cell? ⟨(ad198.add ((x10_2).toNat * 6)).block, (ad198.add ((x10_2).toNat * 6)).off + 5, none⟩ = some (.int .i64 ((rd_T31 l0 x10_2).f4)) ∧ w'.cell? (ad198.add ((x10_2).toNat * 6)) = some (.int .i64 ((rd_T31 l0 x10_2).f0)) ∧ w'.cell? ⟨(ad198.add ((x10_2).toNat * 6)).block, (ad198.add ((x10_2).toNat * 6)).off + 1, none⟩ = some (.int .i64 ((rd_T31 l0 x10_2).f1.f0)) ∧ w'.cell? ⟨(ad198.add ((x10_2).toNat * 6)).block, (ad198.add ((x10_2).toNat * 6)).off + 2, none⟩ = some (.int .i64 ((rd_T31 l0 x10_2).f1.f1)) ∧ w'.cell? ⟨(ad198.add ((x10_2).toNat * 6)).block, (ad198.add ((x10_2).toNat * 6)).off + 3, none⟩ = some (.int .i64 ((rd_T31 l0 x10_2).f2)) ∧ w'.cell? ⟨(ad198.add ((x10_2).toNat * 6)).block, (ad198.add ((x10_2).toNat * 6)).off + 4, none⟩ = some (.int .i64 ((rd_T31 l0 x10_2).f3)) ∧ w'.cell? ⟨(ad198.add ((x10_2).toNat * 6)).block, (ad198.add ((x10_2).toNat * 6)).off + 5, none⟩ = some (.int .i64 ((rd_T31 l0 x10_2).f4)) ∧ w'.cell? (ad198.add ((x10_2).toNat * 6)) = some (.int .i64 ((rd_T31 l0 x10_2).f0)) ∧ w'.cell? ⟨(ad198.add ((x10_2).toNat * 6)).block, (ad198.add ((x10_2).toNat * 6)).off + 1, none⟩ = some (.int .i64 ((rd_T31 l0 x10_2).f1.f0)) ∧ w'.cell? ⟨(ad198.add ((x10_2).toNat * 6)).block, (ad198.add ((x10_2).toNat * 6)).off + 2, none⟩ = some (.int .i64 ((rd_T31 l0 x10_2).f1.f1)) ∧ w'.cell? ⟨(ad198.add ((x10_2).toNat * 6)).block, (ad198.add ((x10_2).toNat * 6)).off + 3, none⟩ = some (.int .i64 ((rd_T31 l0 x10_2).f2)) ∧ w'.cell? ⟨(ad198.add ((x10_2).toNat * 6)).block, (ad198.add ((x10_2).toNat * 6)).off + 4, none⟩ = some (.int .i64 ((rd_T31 l0 x10_2).f3)) ∧ w'.cell? ⟨(ad198.add ((x10_2).toNat * 6)).block, (ad198.add ((x10_2).toNat * 6)).off + 5, none⟩ = some (.int .i64 ((rd_T31 l0 x10_2).f4)) ∧ w'.cell? (ad198.add ((x10_2).toNat * 6)) = some (.int .i64 ((rd_T31 l0 x10_2).f0)) ∧ w'.cell? ⟨(ad198.add ((x10_2).toNat * 6)).block, (ad198.add ((x10_2).toNat * 6)).off + 1, none⟩ = some (.int .i64 ((rd_T31 l0 x10_2).f1.f0)) ∧ w'.cell? ⟨(ad198.add ((x10_2).toNat * 6)).block, (ad198.add ((x10_2).toNat * 6)).off + 2, none⟩ = some (.int .i64 ((rd_T31 l0 x10_2).f1.f1)) ∧ w'.cell? ⟨(ad198.add ((x10_2).toNat * 6)).block, (ad198.add ((x10_2).toNat * 6)).off + 3, none⟩ = some (.int .i64 ((rd_T31 l0 x10_2).f2)) ∧ w'.cell? ⟨(ad198.add ((x10_2).toNat * 6)).block, (ad198.add ((x10_2).toNat * 6)).off + 4, none⟩ = some (.int .i64 ((rd_T31 l0 x10_2).f3)) ∧ w'.cell? ⟨(ad198.add ((x10_2).toNat * 6)).block, (ad198.add ((x10_2).toNat * 6)).off + 5, none⟩ = some (.int .i64 ((rd_T31 l0 x10_2).f4))) (ds := []) #[false, false, false, false, false, false, false, false, false, false, false, false, false, false, false, false, false, false, false, false, false, false, false, false, false, false, false, false, false, false, false, false, false, false, false, false, false, false, false, false, false, false, false] (by kernel_rfl) rfl rfl ⟨(blk_cell BK196.out 0).trans rfl, (blk_cell BK196.out 1).trans rfl, (blk_cell BK196.out 2).trans rfl, (blk_cell BK196.out 3).trans rfl, (cB HB.out hw198_0), (cB HB.out hw198_1), (cB HB.out hw198_2), (cB HB.out hw198_3), (cB HB.out hw198_4), (cB HB.out hw198_5), (cB HB.out hw200_0), (cB HB.out hw200_1), (cB HB.out hw200_2), (cB HB.out hw200_3), (cB HB.out hw200_4), (cB HB.out hw200_5), (cB HB.out hw202_0), (cB HB.out hw202_1), (cB HB.out hw202_2), (cB HB.out hw202_3), (cB HB.out hw202_4), (cB HB.out hw202_5), (cB HB.out hw204_0), (cB HB.out hw204_1), (cB HB.out hw204_2), (cB HB.out hw204_3), (cB HB.out hw204_4), (cB HB.out hw204_5), (cB HB.out hw206_0), (cB HB.out hw206_1), (cB HB.out hw206_2), (cB HB.out hw206_3), (cB HB.out hw206_4), (cB HB.out hw206_5), (cB HB.out hw208_0), (cB HB.out hw208_1), (cB HB.out hw208_2), (cB HB.out hw208_3), (cB HB.out hw208_4), (cB HB.out hw208_5)⟩ (fun hHeld => ?_); refine with_tabW ridgewaylaw10_PolicyIs.tab7 ridgewaylaw10_PolicyIs.bits7 (fun HT_ HW_ => ?_)
           generalize wr.drew = w23 at BK196 HB hx198_0 hx198_1 hx198_2 hx198_3 hx198_4 hx198_5 hx200_0 hx200_1 hx200_2 hx200_3 hx200_4 hx200_5 hx202_0 hx202_1 hx202_2 hx202_3 hx202_4 hx202_5 hx204_0 hx204_1 hx204_2 hx204_3 hx204_4 hx204_5 hx206_0 hx206_1 hx206_2 hx206_3 hx206_4 hx206_5 hx208_0 hx208_1 hx208_2 hx208_3 hx208_4 hx208_5 hHeld ⊢
           refine pure_ (i := 0) (N := some 32) (v := ?_) (a' := ?_) #[true, false, false, false, false, false, false, false, false, false, false, false, false, false, false, false, false, false, false, false, false, false, false, false, false, false, false, false, false, false, false, false, false, false, false, false, false, false, false, false, false, false, false] rfl rfl (any_of HT_.out (by kernel_rfl)) (fun _ _ _ h => h) (Or.inl ⟨by rfl, ?_⟩) ?_ ?_
           rotate_left
           ·
            intro w'
            go_simp
            with_reducible rfl
           rotate_left
           ·
            simp only [Act.put, sA, sB, sC, i64_w, i32_w]
            rfl
           refine pure_ (i := 1) (N := some 33) (v := ?_) (a' := ?_) #[true, true, false, false, false, false, false, false, false, false, false, false, false, false, false, false, false, false, false, false, false, false, false, false, false, false, false, false, false, false, false, false, false, false, false, false, false, false, false, false, false, false, false] rfl rfl (any_of HT_.out (by kernel_rfl)) (fun _ _ _ h => h) (Or.inl ⟨by rfl, ?_⟩) ?_ ?_
           rotate_left
           ·
            intro w'
            go_simp
            with_reducible rfl
           rotate_left
           ·
            simp only [Act.put, sA, sB, sC, i64_w, i32_w]
            rfl
           refine pure_ (i := 2) (N := some 34) (v := ?_) (a' := ?_) #[true, true, true, false, false, false, false, false, false, false, false, false, false, false, false, false, false, false, false, false, false, false, false, false, false, false, false, false, false, false, false, false, false, false, false, false, false, false, false, false, false, false, false] rfl rfl (any_of HT_.out (by kernel_rfl)) (fun _ _ _ h => h) (Or.inl ⟨by rfl, ?_⟩) ?_ ?_
           rotate_left
           ·
            intro w'
            go_simp
            with_reducible rfl
           rotate_left
           ·
            simp only [Act.put, sA, sB, sC, i64_w, i32_w]
            rfl
           refine pure_ (i := 4) (N := some 36) (v := ?_) (a' := ?_) #[true, true, true, false, true, false, false, false, false, false, false, false, false, false, false, false, false, false, false, false, false, false, false, false, false, false, false, false, false, false, false, false, false, false, false, false, false, false, false, false, false, false, false] rfl rfl (any_of HT_.out (by kernel_rfl)) (fun _ _ _ h => h) (Or.inl ⟨by rfl, ?_⟩) ?_ ?_
           rotate_left
           ·
            intro w'
            go_simp
            with_reducible rfl
           rotate_left
           ·
            simp only [Act.put, sA, sB, sC, i64_w, i32_w]
            rfl
           refine pure_ (i := 6) (N := some 38) (v := ?_) (a' := ?_) #[true, true, true, false, true, false, true, false, false, false, false, false, false, false, false, false, false, false, false, false, false, false, false, false, false, false, false, false, false, false, false, false, false, false, false, false, false, false, false, false, false, false, false] rfl rfl (any_of HT_.out (by kernel_rfl)) (fun _ _ _ h => h) (Or.inl ⟨by rfl, ?_⟩) ?_ ?_
           rotate_left
           ·
            intro w'
            go_simp
            with_reducible rfl
           rotate_left
           ·
            simp only [Act.put, sA, sB, sC, i64_w, i32_w]
            rfl
           refine pure_ (i := 7) (N := some 39) (v := ?_) (a' := ?_) #[true, true, true, false, true, false, true, true, false, false, false, false, false, false, false, false, false, false, false, false, false, false, false, false, false, false, false, false, false, false, false, false, false, false, false, false, false, false, false, false, false, false, false] rfl rfl (any_of HT_.out (by kernel_rfl)) (fun _ _ _ h => h) (Or.inl ⟨by rfl, ?_⟩) ?_ ?_
           rotate_left
           ·
            intro w'
            go_simp
            with_reducible rfl
           rotate_left
           ·
            simp only [Act.put, sA, sB, sC, i64_w, i32_w]
            rfl
           refine pure_ (i := 8) (N := some 40) (v := ?_) (a' := ?_) #[true, true, true, false, true, false, true, true, true, false, false, false, false, false, false, false, false, false, false, false, false, false, false, false, false, false, false, false, false, false, false, false, false, false, false, false, false, false, false, false, false, false, false] rfl rfl (any_of HT_.out (by kernel_rfl)) (fun _ _ _ h => h) (Or.inl ⟨by rfl, ?_⟩) ?_ ?_
           rotate_left
           ·
            intro w'
            go_simp
            with_reducible rfl
           rotate_left
           ·
            simp only [Act.put, sA, sB, sC, i64_w, i32_w]
            rfl
           refine pure_ (i := 10) (N := some 42) (v := ?_) (a' := ?_) #[true, true, true, false, true, false, true, true, true, false, true, false, false, false, false, false, false, false, false, false, false, false, false, false, false, false, false, false, false, false, false, false, false, false, false, false, false, false, false, false, false, false, false] rfl rfl (any_of HT_.out (by kernel_rfl)) (fun _ _ _ h => h) (Or.inl ⟨by rfl, ?_⟩) ?_ ?_
           rotate_left
           ·
            intro w'
            go_simp
            with_reducible rfl
           rotate_left
           ·
            simp only [Act.put, sA, sB, sC, i64_w, i32_w]
            rfl
           refine take_ (i := 3) (N := some 35) (v := ?_) (a' := ?_) #[true, true, true, true, true, false, true, true, true, false, true, false, false, false, false, false, false, false, false, false, false, false, false, false, false, false, false, false, false, false, false, false, false, false, false, false, false, false, false, false, false, false, false] rfl rfl (take_ofW HT_.out HW_.out (by kernel_rfl)) (fun _ _ _ h => h) (Or.inl ⟨by rfl, ?_⟩) hHeld ?_ ?_
           rotate_left
           ·
            rintro w' ⟨s0, s1, s2, s3, s4, s5, s6, s7, s8, s9, s10, s11, s12, s13, s14, s15, s16, s17, s18, s19, s20, s21, s22, s23, s24, s25, s26, s27, s28, s29, s30, s31, s32, s33, s34, s35, s36, s37, s38, s39⟩
            go_simp
            with_reducible rfl
           rotate_left
           ·
            simp only [Act.put, sA, sB, sC, i64_w, i32_w]
            rfl
           refine take_ (i := 9) (N := some 41) (v := ?_) (a' := ?_) #[true, true, true, true, true, false, true, true, true, true, true, false, false, false, false, false, false, false, false, false, false, false, false, false, false, false, false, false, false, false, false, false, false, false, false, false, false, false, false, false, false, false, false] rfl rfl (take_ofW HT_.out HW_.out (by kernel_rfl)) (fun _ _ _ h => h) (Or.inl ⟨by rfl, ?_⟩) hHeld ?_ ?_
           rotate_left
           ·
            rintro w' ⟨s0, s1, s2, s3, s4, s5, s6, s7, s8, s9, s10, s11, s12, s13, s14, s15, s16, s17, s18, s19, s20, s21, s22, s23, s24, s25, s26, s27, s28, s29, s30, s31, s32, s33, s34, s35, s36, s37, s38, s39⟩
            go_simp
            with_reducible rfl
           rotate_left
           ·
            simp only [Act.put, sA, sB, sC, i64_w, i32_w]
            rfl
           refine one_ (i := 5) (N := some 37) #[true, true, true, true, true, true, true, true, true, true, true, false, false, false, false, false, false, false, false, false, false, false, false, false, false, false, false, false, false, false, false, false, false, false, false, false, false, false, false, false, false, false, false] rfl rfl (one_of HT_.out (by kernel_rfl)) (by decide) (fun K hK => ?_)
           refine goes_ Try.func9 (by kernel_rfl) rfl #[.agg #[.int .i64 ((rd_T31 l0 x10_2).f0), .int .i64 ((rd_T31 l0 x10_2).f1.f0), .int .i64 ((rd_T31 l0 x10_2).f1.f1), .int .i64 ((rd_T31 l0 x10_2).f2), .int .i64 ((rd_T31 l0 x10_2).f3), .int .i64 ((rd_T31 l0 x10_2).f4)], .bool a3] (by rfl) rfl rfl (by (try simp only [List.map_toArray, List.map_cons, List.map_nil]); first | done | rfl | (simp only [List.length_drop, List.length_take]; rfl)) ?_
           with_reducible refine (policy_Sane.calls ((rd_T31 l0 x10_2).f0) ((rd_T31 l0 x10_2).f1.f0) ((rd_T31 l0 x10_2).f1.f1) ((rd_T31 l0 x10_2).f2) ((rd_T31 l0 x10_2).f3) ((rd_T31 l0 x10_2).f4) a3 t199 _ A14.out).mono ?_
           rintro e w24 ⟨rfl, hb⟩
           refine ⟨_, rfl, ?_⟩
           have n0_ := Aside0.mk (blk_below (g := gb196) (o := .cells #[.int .i64 a1_0, .int .i64 a1_1, .slice A1_2 l1_2.length c1_2, .int .i64 a1_3] 27 (0, 0)) (by (with_reducible repeat (first | refine kN ?_ _ | refine kD ?_ | refine kA ?_ _)); exact BK196.out) hb)
           have n1_ := Aside0.mk (below_step (by repeat (first | (with_reducible first | exact HB.out | apply bA | apply bN | apply bD | refine bS ?_ GE196.out) | exact HB.out)) hb)
           clear BK196
           clear HB
           have BK196 := n0_
           have HB := n1_
           clear n0_ n1_
           (try clear hb)
           (try clear hb2)
           (try clear hk)
           (try clear hi)
           refine hK.out _ _ ⟨(blk_cell BK196.out 0).trans rfl, (blk_cell BK196.out 1).trans rfl, (blk_cell BK196.out 2).trans rfl, (blk_cell BK196.out 3).trans rfl, (cB HB.out hw198_0), (cB HB.out hw198_1), (cB HB.out hw198_2), (cB HB.out hw198_3), (cB HB.out hw198_4), (cB HB.out hw198_5), (cB HB.out hw200_0), (cB HB.out hw200_1), (cB HB.out hw200_2), (cB HB.out hw200_3), (cB HB.out hw200_4), (cB HB.out hw200_5), (cB HB.out hw202_0), (cB HB.out hw202_1), (cB HB.out hw202_2), (cB HB.out hw202_3), (cB HB.out hw202_4), (cB HB.out hw202_5), (cB HB.out hw204_0), (cB HB.out hw204_1), (cB HB.out hw204_2), (cB HB.out hw204_3), (cB HB.out hw204_4), (cB HB.out hw204_5), (cB HB.out hw206_0), (cB HB.out hw206_1), (cB HB.out hw206_2), (cB HB.out hw206_3), (cB HB.out hw206_4), (cB HB.out hw206_5), (cB HB.out hw208_0), (cB HB.out hw208_1), (cB HB.out hw208_2), (cB HB.out hw208_3), (cB HB.out hw208_4), (cB HB.out hw208_5)⟩ (fun hHeld => ?_)
           clear hK K
           refine norm_ (a' := ?_) ?_ ?_
           rotate_left
           ·
            show Act.put _ (some 37) _ = _
            simp only [Act.put, sA, sB, sC, i64_w, i32_w]
            rfl
           refine one_ (i := 11) (N := some 43) #[true, true, true, true, true, true, true, true, true, true, true, true, false, false, false, false, false, false, false, false, false, false, false, false, false, false, false, false, false, false, false, false, false, false, false, false, false, false, false, false, false, false, false] rfl rfl (one_of HT_.out (by kernel_rfl)) (by decide) (fun K hK => ?_)
           refine goes_ Try.func10 (by kernel_rfl) rfl #[.agg #[.int .i64 ((rd_T31 l0 x10_2).f0), .int .i64 ((rd_T31 l0 x10_2).f1.f0), .int .i64 ((rd_T31 l0 x10_2).f1.f1), .int .i64 ((rd_T31 l0 x10_2).f2), .int .i64 ((rd_T31 l0 x10_2).f3), .int .i64 ((rd_T31 l0 x10_2).f4)], .bool a3] (by rfl) rfl rfl (by (try simp only [List.map_toArray, List.map_cons, List.map_nil]); first | done | rfl | (simp only [List.length_drop, List.length_take]; rfl)) ?_
           with_reducible refine (ridgewayref10_Sane.calls k2 ((rd_T31 l0 x10_2).f0) ((rd_T31 l0 x10_2).f1.f0) ((rd_T31 l0 x10_2).f1.f1) ((rd_T31 l0 x10_2).f2) ((rd_T31 l0 x10_2).f3) ((rd_T31 l0 x10_2).f4) a3 t201 _ A15.out).mono ?_
           rintro e w25 ⟨rfl, hb⟩
           refine ⟨_, rfl, ?_⟩
           have n0_ := Aside0.mk (blk_below (g := gb196) (o := .cells #[.int .i64 a1_0, .int .i64 a1_1, .slice A1_2 l1_2.length c1_2, .int .i64 a1_3] 27 (0, 0)) (by (with_reducible repeat (first | refine kN ?_ _ | refine kD ?_ | refine kA ?_ _)); exact BK196.out) hb)
           have n1_ := Aside0.mk (below_step (by repeat (first | (with_reducible first | exact HB.out | apply bA | apply bN | apply bD | refine bS ?_ GE196.out) | exact HB.out)) hb)
           clear BK196
           clear HB
           have BK196 := n0_
           have HB := n1_
           clear n0_ n1_
           (try clear hb)
           (try clear hb2)
           (try clear hk)
           (try clear hi)
           refine hK.out _ _ ⟨(blk_cell BK196.out 0).trans rfl, (blk_cell BK196.out 1).trans rfl, (blk_cell BK196.out 2).trans rfl, (blk_cell BK196.out 3).trans rfl, (cB HB.out hw198_0), (cB HB.out hw198_1), (cB HB.out hw198_2), (cB HB.out hw198_3), (cB HB.out hw198_4), (cB HB.out hw198_5), (cB HB.out hw200_0), (cB HB.out hw200_1), (cB HB.out hw200_2), (cB HB.out hw200_3), (cB HB.out hw200_4), (cB HB.out hw200_5), (cB HB.out hw202_0), (cB HB.out hw202_1), (cB HB.out hw202_2), (cB HB.out hw202_3), (cB HB.out hw202_4), (cB HB.out hw202_5), (cB HB.out hw204_0), (cB HB.out hw204_1), (cB HB.out hw204_2), (cB HB.out hw204_3), (cB HB.out hw204_4), (cB HB.out hw204_5), (cB HB.out hw206_0), (cB HB.out hw206_1), (cB HB.out hw206_2), (cB HB.out hw206_3), (cB HB.out hw206_4), (cB HB.out hw206_5), (cB HB.out hw208_0), (cB HB.out hw208_1), (cB HB.out hw208_2), (cB HB.out hw208_3), (cB HB.out hw208_4), (cB HB.out hw208_5)⟩ (fun hHeld => ?_)
           clear hK K
           refine norm_ (a' := ?_) ?_ ?_
           rotate_left
           ·
            show Act.put _ (some 43) _ = _
            simp only [Act.put, sA, sB, sC, i64_w, i32_w]
            rfl
           refine pure_ (i := 12) (N := some 44) (v := ?_) (a' := ?_) #[true, true, true, true, true, true, true, true, true, true, true, true, true, false, false, false, false, false, false, false, false, false, false, false, false, false, false, false, false, false, false, false, false, false, false, false, false, false, false, false, false, false, false] rfl rfl (any_of HT_.out (by kernel_rfl)) (fun _ _ _ h => h) (Or.inl ⟨by rfl, ?_⟩) ?_ ?_
           rotate_left
           ·
            intro w'
            go_simp
            with_reducible rfl
           rotate_left
           ·
            simp only [Act.put, sA, sB, sC, i64_w, i32_w]
            rfl
           refine pure_ (i := 13) (N := some 45) (v := ?_) (a' := ?_) #[true, true, true, true, true, true, true, true, true, true, true, true, true, true, false, false, false, false, false, false, false, false, false, false, false, false, false, false, false, false, false, false, false, false, false, false, false, false, false, false, false, false, false] rfl rfl (any_of HT_.out (by kernel_rfl)) (fun _ _ _ h => h) (Or.inl ⟨by rfl, ?_⟩) ?_ ?_
           rotate_left
           ·
            intro w'
            go_simp
            with_reducible rfl
           rotate_left
           ·
            simp only [Act.put, sA, sB, sC, i64_w, i32_w]
            rfl
           refine pure_ (i := 14) (N := some 46) (v := ?_) (a' := ?_) #[true, true, true, true, true, true, true, true, true, true, true, true, true, true, true, false, false, false, false, false, false, false, false, false, false, false, false, false, false, false, false, false, false, false, false, false, false, false, false, false, false, false, false] rfl rfl (any_of HT_.out (by kernel_rfl)) (fun _ _ _ h => h) (Or.inl ⟨by rfl, ?_⟩) ?_ ?_
           rotate_left
           ·
            intro w'
            go_simp
            with_reducible rfl
           rotate_left
           ·
            simp only [Act.put, sA, sB, sC, i64_w, i32_w]
            rfl
           refine pure_ (i := 15) (N := some 47) (v := ?_) (a' := ?_) #[true, true, true, true, true, true, true, true, true, true, true, true, true, true, true, true, false, false, false, false, false, false, false, false, false, false, false, false, false, false, false, false, false, false, false, false, false, false, false, false, false, false, false] rfl rfl (any_of HT_.out (by kernel_rfl)) (fun _ _ _ h => h) (Or.inl ⟨by rfl, ?_⟩) ?_ ?_
           rotate_left
           ·
            intro w'
            go_simp
            with_reducible rfl
           rotate_left
           ·
            simp only [Act.put, sA, sB, sC, i64_w, i32_w]
            rfl
           refine pure_ (i := 16) (N := some 48) (v := ?_) (a' := ?_) #[true, true, true, true, true, true, true, true, true, true, true, true, true, true, true, true, true, false, false, false, false, false, false, false, false, false, false, false, false, false, false, false, false, false, false, false, false, false, false, false, false, false, false] rfl rfl (any_of HT_.out (by kernel_rfl)) (fun _ _ _ h => h) (Or.inl ⟨by rfl, ?_⟩) ?_ ?_
           rotate_left
           ·
            intro w'
            go_simp
            with_reducible rfl
           rotate_left
           ·
            simp only [Act.put, sA, sB, sC, i64_w, i32_w]
            rfl
           refine pure_ (i := 20) (N := some 52) (v := ?_) (a' := ?_) #[true, true, true, true, true, true, true, true, true, true, true, true, true, true, true, true, true, false, false, false, true, false, false, false, false, false, false, false, false, false, false, false, false, false, false, false, false, false, false, false, false, false, false] rfl rfl (any_of HT_.out (by kernel_rfl)) (fun _ _ _ h => h) (Or.inl ⟨by rfl, ?_⟩) ?_ ?_
           rotate_left
           ·
            intro w'
            go_simp
            with_reducible rfl
           rotate_left
           ·
            simp only [Act.put, sA, sB, sC, i64_w, i32_w]
            rfl
           refine pure_ (i := 21) (N := some 53) (v := ?_) (a' := ?_) #[true, true, true, true, true, true, true, true, true, true, true, true, true, true, true, true, true, false, false, false, true, true, false, false, false, false, false, false, false, false, false, false, false, false, false, false, false, false, false, false, false, false, false] rfl rfl (any_of HT_.out (by kernel_rfl)) (fun _ _ _ h => h) (Or.inl ⟨by rfl, ?_⟩) ?_ ?_
           rotate_left
           ·
            intro w'
            go_simp
            with_reducible rfl
           rotate_left
           ·
            simp only [Act.put, sA, sB, sC, i64_w, i32_w]
            rfl
           refine pure_ (i := 22) (N := some 54) (v := ?_) (a' := ?_) #[true, true, true, true, true, true, true, true, true, true, true, true, true, true, true, true, true, false, false, false, true, true, true, false, false, false, false, false, false, false, false, false, false, false, false, false, false, false, false, false, false, false, false] rfl rfl (any_of HT_.out (by kernel_rfl)) (fun _ _ _ h => h) (Or.inl ⟨by rfl, ?_⟩) ?_ ?_
           rotate_left
           ·
            intro w'
            go_simp
            with_reducible rfl
           rotate_left
           ·
            simp only [Act.put, sA, sB, sC, i64_w, i32_w]
            rfl
           refine take_ (i := 17) (N := some 49) (v := ?_) (a' := ?_) #[true, true, true, true, true, true, true, true, true, true, true, true, true, true, true, true, true, true, false, false, true, true, true, false, false, false, false, false, false, false, false, false, false, false, false, false, false, false, false, false, false, false, false] rfl rfl (take_ofW HT_.out HW_.out (by kernel_rfl)) (fun _ _ _ h => h) (Or.inl ⟨by rfl, ?_⟩) hHeld ?_ ?_
           rotate_left
           ·
            rintro w' ⟨s0, s1, s2, s3, s4, s5, s6, s7, s8, s9, s10, s11, s12, s13, s14, s15, s16, s17, s18, s19, s20, s21, s22, s23, s24, s25, s26, s27, s28, s29, s30, s31, s32, s33, s34, s35, s36, s37, s38, s39⟩
            go_simp
            with_reducible rfl
           rotate_left
           ·
            simp only [Act.put, sA, sB, sC, i64_w, i32_w]
            rfl
           refine take_ (i := 18) (N := some 50) (v := ?_) (a' := ?_) #[true, true, true, true, true, true, true, true, true, true, true, true, true, true, true, true, true, true, true, false, true, true, true, false, false, false, false, false, false, false, false, false, false, false, false, false, false, false, false, false, false, false, false] rfl rfl (take_ofW HT_.out HW_.out (by kernel_rfl)) (fun _ _ _ h => h) (Or.inl ⟨by rfl, ?_⟩) hHeld ?_ ?_
           rotate_left
           ·
            rintro w' ⟨s0, s1, s2, s3, s4, s5, s6, s7, s8, s9, s10, s11, s12, s13, s14, s15, s16, s17, s18, s19, s20, s21, s22, s23, s24, s25, s26, s27, s28, s29, s30, s31, s32, s33, s34, s35, s36, s37, s38, s39⟩
            go_simp
            with_reducible rfl
           rotate_left
           ·
            simp only [Act.put, sA, sB, sC, i64_w, i32_w]
            rfl
           refine take_ (i := 23) (N := some 55) (v := ?_) (a' := ?_) #[true, true, true, true, true, true, true, true, true, true, true, true, true, true, true, true, true, true, true, false, true, true, true, true, false, false, false, false, false, false, false, false, false, false, false, false, false, false, false, false, false, false, false] rfl rfl (take_ofW HT_.out HW_.out (by kernel_rfl)) (fun _ _ _ h => h) (Or.inl ⟨by rfl, ?_⟩) hHeld ?_ ?_
           rotate_left
           ·
            rintro w' ⟨s0, s1, s2, s3, s4, s5, s6, s7, s8, s9, s10, s11, s12, s13, s14, s15, s16, s17, s18, s19, s20, s21, s22, s23, s24, s25, s26, s27, s28, s29, s30, s31, s32, s33, s34, s35, s36, s37, s38, s39⟩
            go_simp
            with_reducible rfl
           rotate_left
           ·
            simp only [Act.put, sA, sB, sC, i64_w, i32_w]
            rfl
           refine take_ (i := 24) (N := some 56) (v := ?_) (a' := ?_) #[true, true, true, true, true, true, true, true, true, true, true, true, true, true, true, true, true, true, true, false, true, true, true, true, true, false, false, false, false, false, false, false, false, false, false, false, false, false, false, false, false, false, false] rfl rfl (take_ofW HT_.out HW_.out (by kernel_rfl)) (fun _ _ _ h => h) (Or.inl ⟨by rfl, ?_⟩) hHeld ?_ ?_
           rotate_left
           ·
            rintro w' ⟨s0, s1, s2, s3, s4, s5, s6, s7, s8, s9, s10, s11, s12, s13, s14, s15, s16, s17, s18, s19, s20, s21, s22, s23, s24, s25, s26, s27, s28, s29, s30, s31, s32, s33, s34, s35, s36, s37, s38, s39⟩
            go_simp
            with_reducible rfl
           rotate_left
           ·
            simp only [Act.put, sA, sB, sC, i64_w, i32_w]
            rfl
           refine one_ (i := 19) (N := some 51) #[true, true, true, true, true, true, true, true, true, true, true, true, true, true, true, true, true, true, true, true, true, true, true, true, true, false, false, false, false, false, false, false, false, false, false, false, false, false, false, false, false, false, false] rfl rfl (one_of HT_.out (by kernel_rfl)) (by decide) (fun K hK => ?_)
           refine goes_ Try.func11 (by kernel_rfl) rfl #[.agg #[.int .i64 ((rd_T31 l0 x10_2).f0), .int .i64 ((rd_T31 l0 x10_2).f1.f0), .int .i64 ((rd_T31 l0 x10_2).f1.f1), .int .i64 ((rd_T31 l0 x10_2).f2), .int .i64 ((rd_T31 l0 x10_2).f3), .int .i64 ((rd_T31 l0 x10_2).f4)], .agg #[.int .i64 a1_0, .int .i64 a1_1, .slice A1_2 l1_2.length c1_2, .int .i64 a1_3]] (by rfl) rfl rfl (by (try simp only [List.map_toArray, List.map_cons, List.map_nil]); first | done | rfl | (simp only [List.length_drop, List.length_take]; rfl)) ?_
           with_reducible refine (policy_Fits.calls k2 ((rd_T31 l0 x10_2).f0) ((rd_T31 l0 x10_2).f1.f0) ((rd_T31 l0 x10_2).f1.f1) ((rd_T31 l0 x10_2).f2) ((rd_T31 l0 x10_2).f3) ((rd_T31 l0 x10_2).f4) a1_0 a1_1 _ _ l1_2 a1_3 t203 _ ?side1 ?side2 A17.out).mono ?_
           (case side1 => repeat (first | exact (Kd.C_below HR1_2.out HB.out) | (with_reducible refine Kd.C_alloc ?_ _) | (with_reducible refine Kd.C_drewN ?_ _) | (with_reducible refine Kd.C_drew ?_)))
           (case side2 => exact HC1_2.out)
           rintro e w26 ⟨rfl, hb⟩
           refine ⟨_, rfl, ?_⟩
           have n0_ := Aside0.mk (blk_below (g := gb196) (o := .cells #[.int .i64 a1_0, .int .i64 a1_1, .slice A1_2 l1_2.length c1_2, .int .i64 a1_3] 27 (0, 0)) (by (with_reducible repeat (first | refine kN ?_ _ | refine kD ?_ | refine kA ?_ _)); exact BK196.out) hb)
           have n1_ := Aside0.mk (below_step (by repeat (first | (with_reducible first | exact HB.out | apply bA | apply bN | apply bD | refine bS ?_ GE196.out) | exact HB.out)) hb)
           clear BK196
           clear HB
           have BK196 := n0_
           have HB := n1_
           clear n0_ n1_
           (try clear hb)
           (try clear hb2)
           (try clear hk)
           (try clear hi)
           refine hK.out _ _ ⟨(blk_cell BK196.out 0).trans rfl, (blk_cell BK196.out 1).trans rfl, (blk_cell BK196.out 2).trans rfl, (blk_cell BK196.out 3).trans rfl, (cB HB.out hw198_0), (cB HB.out hw198_1), (cB HB.out hw198_2), (cB HB.out hw198_3), (cB HB.out hw198_4), (cB HB.out hw198_5), (cB HB.out hw200_0), (cB HB.out hw200_1), (cB HB.out hw200_2), (cB HB.out hw200_3), (cB HB.out hw200_4), (cB HB.out hw200_5), (cB HB.out hw202_0), (cB HB.out hw202_1), (cB HB.out hw202_2), (cB HB.out hw202_3), (cB HB.out hw202_4), (cB HB.out hw202_5), (cB HB.out hw204_0), (cB HB.out hw204_1), (cB HB.out hw204_2), (cB HB.out hw204_3), (cB HB.out hw204_4), (cB HB.out hw204_5), (cB HB.out hw206_0), (cB HB.out hw206_1), (cB HB.out hw206_2), (cB HB.out hw206_3), (cB HB.out hw206_4), (cB HB.out hw206_5), (cB HB.out hw208_0), (cB HB.out hw208_1), (cB HB.out hw208_2), (cB HB.out hw208_3), (cB HB.out hw208_4), (cB HB.out hw208_5)⟩ (fun hHeld => ?_)
           clear hK K
           refine norm_ (a' := ?_) ?_ ?_
           rotate_left
           ·
            show Act.put _ (some 51) _ = _
            simp only [Act.put, sA, sB, sC, i64_w, i32_w]
            rfl
           refine one_ (i := 25) (N := some 57) #[true, true, true, true, true, true, true, true, true, true, true, true, true, true, true, true, true, true, true, true, true, true, true, true, true, true, false, false, false, false, false, false, false, false, false, false, false, false, false, false, false, false, false] rfl rfl (one_of HT_.out (by kernel_rfl)) (by decide) (fun K hK => ?_)
           refine goes_ Try.func12 (by kernel_rfl) rfl #[.agg #[.int .i64 ((rd_T31 l0 x10_2).f0), .int .i64 ((rd_T31 l0 x10_2).f1.f0), .int .i64 ((rd_T31 l0 x10_2).f1.f1), .int .i64 ((rd_T31 l0 x10_2).f2), .int .i64 ((rd_T31 l0 x10_2).f3), .int .i64 ((rd_T31 l0 x10_2).f4)], .agg #[.int .i64 a1_0, .int .i64 a1_1, .slice A1_2 l1_2.length c1_2, .int .i64 a1_3]] (by rfl) rfl rfl (by (try simp only [List.map_toArray, List.map_cons, List.map_nil]); first | done | rfl | (simp only [List.length_drop, List.length_take]; rfl)) ?_
           with_reducible refine (ridgewayref10_Fits.calls k2 ((rd_T31 l0 x10_2).f0) ((rd_T31 l0 x10_2).f1.f0) ((rd_T31 l0 x10_2).f1.f1) ((rd_T31 l0 x10_2).f2) ((rd_T31 l0 x10_2).f3) ((rd_T31 l0 x10_2).f4) a1_0 a1_1 _ _ l1_2 a1_3 t205 _ ?side1 ?side2 A18.out).mono ?_
           (case side1 => repeat (first | exact (Kd.C_below HR1_2.out HB.out) | (with_reducible refine Kd.C_alloc ?_ _) | (with_reducible refine Kd.C_drewN ?_ _) | (with_reducible refine Kd.C_drew ?_)))
           (case side2 => exact HC1_2.out)
           rintro e w27 ⟨rfl, hb⟩
           refine ⟨_, rfl, ?_⟩
           have n0_ := Aside0.mk (blk_below (g := gb196) (o := .cells #[.int .i64 a1_0, .int .i64 a1_1, .slice A1_2 l1_2.length c1_2, .int .i64 a1_3] 27 (0, 0)) (by (with_reducible repeat (first | refine kN ?_ _ | refine kD ?_ | refine kA ?_ _)); exact BK196.out) hb)
           have n1_ := Aside0.mk (below_step (by repeat (first | (with_reducible first | exact HB.out | apply bA | apply bN | apply bD | refine bS ?_ GE196.out) | exact HB.out)) hb)
           clear BK196
           clear HB
           have BK196 := n0_
           have HB := n1_
           clear n0_ n1_
           (try clear hb)
           (try clear hb2)
           (try clear hk)
           (try clear hi)
           refine hK.out _ _ ⟨(blk_cell BK196.out 0).trans rfl, (blk_cell BK196.out 1).trans rfl, (blk_cell BK196.out 2).trans rfl, (blk_cell BK196.out 3).trans rfl, (cB HB.out hw198_0), (cB HB.out hw198_1), (cB HB.out hw198_2), (cB HB.out hw198_3), (cB HB.out hw198_4), (cB HB.out hw198_5), (cB HB.out hw200_0), (cB HB.out hw200_1), (cB HB.out hw200_2), (cB HB.out hw200_3), (cB HB.out hw200_4), (cB HB.out hw200_5), (cB HB.out hw202_0), (cB HB.out hw202_1), (cB HB.out hw202_2), (cB HB.out hw202_3), (cB HB.out hw202_4), (cB HB.out hw202_5), (cB HB.out hw204_0), (cB HB.out hw204_1), (cB HB.out hw204_2), (cB HB.out hw204_3), (cB HB.out hw204_4), (cB HB.out hw204_5), (cB HB.out hw206_0), (cB HB.out hw206_1), (cB HB.out hw206_2), (cB HB.out hw206_3), (cB HB.out hw206_4), (cB HB.out hw206_5), (cB HB.out hw208_0), (cB HB.out hw208_1), (cB HB.out hw208_2), (cB HB.out hw208_3), (cB HB.out hw208_4), (cB HB.out hw208_5)⟩ (fun hHeld => ?_)
           clear hK K
           refine norm_ (a' := ?_) ?_ ?_
           rotate_left
           ·
            show Act.put _ (some 57) _ = _
            simp only [Act.put, sA, sB, sC, i64_w, i32_w]
            rfl
           refine pure_ (i := 26) (N := some 58) (v := ?_) (a' := ?_) #[true, true, true, true, true, true, true, true, true, true, true, true, true, true, true, true, true, true, true, true, true, true, true, true, true, true, true, false, false, false, false, false, false, false, false, false, false, false, false, false, false, false, false] rfl rfl (any_of HT_.out (by kernel_rfl)) (fun _ _ _ h => h) (Or.inl ⟨by rfl, ?_⟩) ?_ ?_
           rotate_left
           ·
            intro w'
            go_simp
            with_reducible rfl
           rotate_left
           ·
            simp only [Act.put, sA, sB, sC, i64_w, i32_w]
            rfl
           refine pure_ (i := 27) (N := some 59) (v := ?_) (a' := ?_) #[true, true, true, true, true, true, true, true, true, true, true, true, true, true, true, true, true, true, true, true, true, true, true, true, true, true, true, true, false, false, false, false, false, false, false, false, false, false, false, false, false, false, false] rfl rfl (any_of HT_.out (by kernel_rfl)) (fun _ _ _ h => h) (Or.inl ⟨by rfl, ?_⟩) ?_ ?_
           rotate_left
           ·
            intro w'
            go_simp
            with_reducible rfl
           rotate_left
           ·
            simp only [Act.put, sA, sB, sC, i64_w, i32_w]
            rfl
           refine pure_ (i := 28) (N := some 60) (v := ?_) (a' := ?_) #[true, true, true, true, true, true, true, true, true, true, true, true, true, true, true, true, true, true, true, true, true, true, true, true, true, true, true, true, true, false, false, false, false, false, false, false, false, false, false, false, false, false, false] rfl rfl (any_of HT_.out (by kernel_rfl)) (fun _ _ _ h => h) (Or.inl ⟨by rfl, ?_⟩) ?_ ?_
           rotate_left
           ·
            intro w'
            go_simp
            with_reducible rfl
           rotate_left
           ·
            simp only [Act.put, sA, sB, sC, i64_w, i32_w]
            rfl
           refine pure_ (i := 29) (N := some 61) (v := ?_) (a' := ?_) #[true, true, true, true, true, true, true, true, true, true, true, true, true, true, true, true, true, true, true, true, true, true, true, true, true, true, true, true, true, true, false, false, false, false, false, false, false, false, false, false, false, false, false] rfl rfl (any_of HT_.out (by kernel_rfl)) (fun _ _ _ h => h) (Or.inl ⟨by rfl, ?_⟩) ?_ ?_
           rotate_left
           ·
            intro w'
            go_simp
            with_reducible rfl
           rotate_left
           ·
            simp only [Act.put, sA, sB, sC, i64_w, i32_w]
            rfl
           refine pure_ (i := 30) (N := some 62) (v := ?_) (a' := ?_) #[true, true, true, true, true, true, true, true, true, true, true, true, true, true, true, true, true, true, true, true, true, true, true, true, true, true, true, true, true, true, true, false, false, false, false, false, false, false, false, false, false, false, false] rfl rfl (any_of HT_.out (by kernel_rfl)) (fun _ _ _ h => h) (Or.inl ⟨by rfl, ?_⟩) ?_ ?_
           rotate_left
           ·
            intro w'
            go_simp
            with_reducible rfl
           rotate_left
           ·
            simp only [Act.put, sA, sB, sC, i64_w, i32_w]
            rfl
           refine pure_ (i := 31) (N := some 63) (v := ?_) (a' := ?_) #[true, true, true, true, true, true, true, true, true, true, true, true, true, true, true, true, true, true, true, true, true, true, true, true, true, true, true, true, true, true, true, true, false, false, false, false, false, false, false, false, false, false, false] rfl rfl (any_of HT_.out (by kernel_rfl)) (fun _ _ _ h => h) (Or.inl ⟨by rfl, ?_⟩) ?_ ?_
           rotate_left
           ·
            intro w'
            go_simp
            with_reducible rfl
           rotate_left
           ·
            simp only [Act.put, sA, sB, sC, i64_w, i32_w]
            rfl
           refine pure_ (i := 33) (N := some 65) (v := ?_) (a' := ?_) #[true, true, true, true, true, true, true, true, true, true, true, true, true, true, true, true, true, true, true, true, true, true, true, true, true, true, true, true, true, true, true, true, false, true, false, false, false, false, false, false, false, false, false] rfl rfl (any_of HT_.out (by kernel_rfl)) (fun _ _ _ h => h) (Or.inl ⟨by rfl, ?_⟩) ?_ ?_
           rotate_left
           ·
            intro w'
            go_simp
            with_reducible rfl
           rotate_left
           ·
            simp only [Act.put, sA, sB, sC, i64_w, i32_w]
            rfl
           refine pure_ (i := 35) (N := some 67) (v := ?_) (a' := ?_) #[true, true, true, true, true, true, true, true, true, true, true, true, true, true, true, true, true, true, true, true, true, true, true, true, true, true, true, true, true, true, true, true, false, true, false, true, false, false, false, false, false, false, false] rfl rfl (any_of HT_.out (by kernel_rfl)) (fun _ _ _ h => h) (Or.inl ⟨by rfl, ?_⟩) ?_ ?_
           rotate_left
           ·
            intro w'
            go_simp
            with_reducible rfl
           rotate_left
           ·
            simp only [Act.put, sA, sB, sC, i64_w, i32_w]
            rfl
           refine pure_ (i := 36) (N := some 68) (v := ?_) (a' := ?_) #[true, true, true, true, true, true, true, true, true, true, true, true, true, true, true, true, true, true, true, true, true, true, true, true, true, true, true, true, true, true, true, true, false, true, false, true, true, false, false, false, false, false, false] rfl rfl (any_of HT_.out (by kernel_rfl)) (fun _ _ _ h => h) (Or.inl ⟨by rfl, ?_⟩) ?_ ?_
           rotate_left
           ·
            intro w'
            go_simp
            with_reducible rfl
           rotate_left
           ·
            simp only [Act.put, sA, sB, sC, i64_w, i32_w]
            rfl
           refine pure_ (i := 37) (N := some 69) (v := ?_) (a' := ?_) #[true, true, true, true, true, true, true, true, true, true, true, true, true, true, true, true, true, true, true, true, true, true, true, true, true, true, true, true, true, true, true, true, false, true, false, true, true, true, false, false, false, false, false] rfl rfl (any_of HT_.out (by kernel_rfl)) (fun _ _ _ h => h) (Or.inl ⟨by rfl, ?_⟩) ?_ ?_
           rotate_left
           ·
            intro w'
            go_simp
            with_reducible rfl
           rotate_left
           ·
            simp only [Act.put, sA, sB, sC, i64_w, i32_w]
            rfl
           refine pure_ (i := 39) (N := some 71) (v := ?_) (a' := ?_) #[true, true, true, true, true, true, true, true, true, true, true, true, true, true, true, true, true, true, true, true, true, true, true, true, true, true, true, true, true, true, true, true, false, true, false, true, true, true, false, true, false, false, false] rfl rfl (any_of HT_.out (by kernel_rfl)) (fun _ _ _ h => h) (Or.inl ⟨by rfl, ?_⟩) ?_ ?_
           rotate_left
           ·
            intro w'
            go_simp
            with_reducible rfl
           rotate_left
           ·
            simp only [Act.put, sA, sB, sC, i64_w, i32_w]
            rfl
           refine take_ (i := 32) (N := some 64) (v := ?_) (a' := ?_) #[true, true, true, true, true, true, true, true, true, true, true, true, true, true, true, true, true, true, true, true, true, true, true, true, true, true, true, true, true, true, true, true, true, true, false, true, true, true, false, true, false, false, false] rfl rfl (take_ofW HT_.out HW_.out (by kernel_rfl)) (fun _ _ _ h => h) (Or.inl ⟨by rfl, ?_⟩) hHeld ?_ ?_
           rotate_left
           ·
            rintro w' ⟨s0, s1, s2, s3, s4, s5, s6, s7, s8, s9, s10, s11, s12, s13, s14, s15, s16, s17, s18, s19, s20, s21, s22, s23, s24, s25, s26, s27, s28, s29, s30, s31, s32, s33, s34, s35, s36, s37, s38, s39⟩
            go_simp
            with_reducible rfl
           rotate_left
           ·
            simp only [Act.put, sA, sB, sC, i64_w, i32_w]
            rfl
           refine take_ (i := 38) (N := some 70) (v := ?_) (a' := ?_) #[true, true, true, true, true, true, true, true, true, true, true, true, true, true, true, true, true, true, true, true, true, true, true, true, true, true, true, true, true, true, true, true, true, true, false, true, true, true, true, true, false, false, false] rfl rfl (take_ofW HT_.out HW_.out (by kernel_rfl)) (fun _ _ _ h => h) (Or.inl ⟨by rfl, ?_⟩) hHeld ?_ ?_
           rotate_left
           ·
            rintro w' ⟨s0, s1, s2, s3, s4, s5, s6, s7, s8, s9, s10, s11, s12, s13, s14, s15, s16, s17, s18, s19, s20, s21, s22, s23, s24, s25, s26, s27, s28, s29, s30, s31, s32, s33, s34, s35, s36, s37, s38, s39⟩
            go_simp
            with_reducible rfl
           rotate_left
           ·
            simp only [Act.put, sA, sB, sC, i64_w, i32_w]
            rfl
           refine one_ (i := 34) (N := some 66) #[true, true, true, true, true, true, true, true, true, true, true, true, true, true, true, true, true, true, true, true, true, true, true, true, true, true, true, true, true, true, true, true, true, true, true, true, true, true, true, true, false, false, false] rfl rfl (one_of HT_.out (by kernel_rfl)) (by decide) (fun K hK => ?_)
           refine goes_ Try.func13 (by kernel_rfl) rfl #[.agg #[.int .i64 ((rd_T31 l0 x10_2).f0), .int .i64 ((rd_T31 l0 x10_2).f1.f0), .int .i64 ((rd_T31 l0 x10_2).f1.f1), .int .i64 ((rd_T31 l0 x10_2).f2), .int .i64 ((rd_T31 l0 x10_2).f3), .int .i64 ((rd_T31 l0 x10_2).f4)], .int .i64 a2] (by rfl) rfl rfl (by (try simp only [List.map_toArray, List.map_cons, List.map_nil]); first | done | rfl | (simp only [List.length_drop, List.length_take]; rfl)) ?_
           with_reducible refine (policy_Total.calls ((rd_T31 l0 x10_2).f0) ((rd_T31 l0 x10_2).f1.f0) ((rd_T31 l0 x10_2).f1.f1) ((rd_T31 l0 x10_2).f2) ((rd_T31 l0 x10_2).f3) ((rd_T31 l0 x10_2).f4) a2 t207 _ A20.out).mono ?_
           rintro e w28 ⟨rfl, hb⟩
           refine ⟨_, rfl, ?_⟩
           have n0_ := Aside0.mk (blk_below (g := gb196) (o := .cells #[.int .i64 a1_0, .int .i64 a1_1, .slice A1_2 l1_2.length c1_2, .int .i64 a1_3] 27 (0, 0)) (by (with_reducible repeat (first | refine kN ?_ _ | refine kD ?_ | refine kA ?_ _)); exact BK196.out) hb)
           have n1_ := Aside0.mk (below_step (by repeat (first | (with_reducible first | exact HB.out | apply bA | apply bN | apply bD | refine bS ?_ GE196.out) | exact HB.out)) hb)
           clear BK196
           clear HB
           have BK196 := n0_
           have HB := n1_
           clear n0_ n1_
           (try clear hb)
           (try clear hb2)
           (try clear hk)
           (try clear hi)
           refine hK.out _ _ ⟨(blk_cell BK196.out 0).trans rfl, (blk_cell BK196.out 1).trans rfl, (blk_cell BK196.out 2).trans rfl, (blk_cell BK196.out 3).trans rfl, (cB HB.out hw198_0), (cB HB.out hw198_1), (cB HB.out hw198_2), (cB HB.out hw198_3), (cB HB.out hw198_4), (cB HB.out hw198_5), (cB HB.out hw200_0), (cB HB.out hw200_1), (cB HB.out hw200_2), (cB HB.out hw200_3), (cB HB.out hw200_4), (cB HB.out hw200_5), (cB HB.out hw202_0), (cB HB.out hw202_1), (cB HB.out hw202_2), (cB HB.out hw202_3), (cB HB.out hw202_4), (cB HB.out hw202_5), (cB HB.out hw204_0), (cB HB.out hw204_1), (cB HB.out hw204_2), (cB HB.out hw204_3), (cB HB.out hw204_4), (cB HB.out hw204_5), (cB HB.out hw206_0), (cB HB.out hw206_1), (cB HB.out hw206_2), (cB HB.out hw206_3), (cB HB.out hw206_4), (cB HB.out hw206_5), (cB HB.out hw208_0), (cB HB.out hw208_1), (cB HB.out hw208_2), (cB HB.out hw208_3), (cB HB.out hw208_4), (cB HB.out hw208_5)⟩ (fun hHeld => ?_)
           clear hK K
           refine norm_ (a' := ?_) ?_ ?_
           rotate_left
           ·
            show Act.put _ (some 66) _ = _
            simp only [Act.put, sA, sB, sC, i64_w, i32_w]
            rfl
           refine one_ (i := 40) (N := some 72) #[true, true, true, true, true, true, true, true, true, true, true, true, true, true, true, true, true, true, true, true, true, true, true, true, true, true, true, true, true, true, true, true, true, true, true, true, true, true, true, true, true, false, false] rfl rfl (one_of HT_.out (by kernel_rfl)) (by decide) (fun K hK => ?_)
           refine goes_ Try.func14 (by kernel_rfl) rfl #[.agg #[.int .i64 ((rd_T31 l0 x10_2).f0), .int .i64 ((rd_T31 l0 x10_2).f1.f0), .int .i64 ((rd_T31 l0 x10_2).f1.f1), .int .i64 ((rd_T31 l0 x10_2).f2), .int .i64 ((rd_T31 l0 x10_2).f3), .int .i64 ((rd_T31 l0 x10_2).f4)], .int .i64 a2] (by rfl) rfl rfl (by (try simp only [List.map_toArray, List.map_cons, List.map_nil]); first | done | rfl | (simp only [List.length_drop, List.length_take]; rfl)) ?_
           with_reducible refine (ridgewayref10_Total.calls ((rd_T31 l0 x10_2).f0) ((rd_T31 l0 x10_2).f1.f0) ((rd_T31 l0 x10_2).f1.f1) ((rd_T31 l0 x10_2).f2) ((rd_T31 l0 x10_2).f3) ((rd_T31 l0 x10_2).f4) a2 t209 _ A21.out).mono ?_
           rintro e w29 ⟨rfl, hb⟩
           refine ⟨_, rfl, ?_⟩
           have n0_ := Aside0.mk (blk_below (g := gb196) (o := .cells #[.int .i64 a1_0, .int .i64 a1_1, .slice A1_2 l1_2.length c1_2, .int .i64 a1_3] 27 (0, 0)) (by (with_reducible repeat (first | refine kN ?_ _ | refine kD ?_ | refine kA ?_ _)); exact BK196.out) hb)
           have n1_ := Aside0.mk (below_step (by repeat (first | (with_reducible first | exact HB.out | apply bA | apply bN | apply bD | refine bS ?_ GE196.out) | exact HB.out)) hb)
           clear BK196
           clear HB
           have BK196 := n0_
           have HB := n1_
           clear n0_ n1_
           (try clear hb)
           (try clear hb2)
           (try clear hk)
           (try clear hi)
           refine hK.out _ _ ⟨(blk_cell BK196.out 0).trans rfl, (blk_cell BK196.out 1).trans rfl, (blk_cell BK196.out 2).trans rfl, (blk_cell BK196.out 3).trans rfl, (cB HB.out hw198_0), (cB HB.out hw198_1), (cB HB.out hw198_2), (cB HB.out hw198_3), (cB HB.out hw198_4), (cB HB.out hw198_5), (cB HB.out hw200_0), (cB HB.out hw200_1), (cB HB.out hw200_2), (cB HB.out hw200_3), (cB HB.out hw200_4), (cB HB.out hw200_5), (cB HB.out hw202_0), (cB HB.out hw202_1), (cB HB.out hw202_2), (cB HB.out hw202_3), (cB HB.out hw202_4), (cB HB.out hw202_5), (cB HB.out hw204_0), (cB HB.out hw204_1), (cB HB.out hw204_2), (cB HB.out hw204_3), (cB HB.out hw204_4), (cB HB.out hw204_5), (cB HB.out hw206_0), (cB HB.out hw206_1), (cB HB.out hw206_2), (cB HB.out hw206_3), (cB HB.out hw206_4), (cB HB.out hw206_5), (cB HB.out hw208_0), (cB HB.out hw208_1), (cB HB.out hw208_2), (cB HB.out hw208_3), (cB HB.out hw208_4), (cB HB.out hw208_5)⟩ (fun hHeld => ?_)
           clear hK K
           refine norm_ (a' := ?_) ?_ ?_
           rotate_left
           ·
            show Act.put _ (some 72) _ = _
            simp only [Act.put, sA, sB, sC, i64_w, i32_w]
            rfl
           refine pure_ (i := 41) (N := some 73) (v := ?_) (a' := ?_) #[true, true, true, true, true, true, true, true, true, true, true, true, true, true, true, true, true, true, true, true, true, true, true, true, true, true, true, true, true, true, true, true, true, true, true, true, true, true, true, true, true, true, false] rfl rfl (any_of HT_.out (by kernel_rfl)) (fun _ _ _ h => h) (Or.inl ⟨by rfl, ?_⟩) ?_ ?_
           rotate_left
           ·
            intro w'
            go_simp
            with_reducible rfl
           rotate_left
           ·
            simp only [Act.put, sA, sB, sC, i64_w, i32_w]
            rfl
           refine pure_ (i := 42) (N := some 74) (v := ?_) (a' := ?_) #[true, true, true, true, true, true, true, true, true, true, true, true, true, true, true, true, true, true, true, true, true, true, true, true, true, true, true, true, true, true, true, true, true, true, true, true, true, true, true, true, true, true, true] rfl rfl (any_of HT_.out (by kernel_rfl)) (fun _ _ _ h => h) (Or.inl ⟨by rfl, ?_⟩) ?_ ?_
           rotate_left
           ·
            intro w'
            go_simp
            with_reducible rfl
           rotate_left
           ·
            simp only [Act.put, sA, sB, sC, i64_w, i32_w]
            rfl
           refine done_ (done_of HT_.out (by kernel_rfl)) ?_
           try go_wp2
           go_roundg k2
           case measure => have := HJ5.out; have := HK2.out; omega
           case rel => exact ⟨(wrap64 (x10_2 + 1)), (by first | rfl | (simp; done) | (simp [*]; done)), H', ⟨by have := HJ5.out; have := HK2.out; omega⟩, ⟨by (with_reducible repeat (first | refine kN ?_ _ | refine kD ?_ | refine kA ?_ _)); exact BK196.out⟩, ⟨by repeat (first | (with_reducible first | exact HB.out | apply bA | apply bN | apply bD | refine bS ?_ GE196.out) | exact HB.out)⟩⟩
       ·
        rw [if_neg c13] at H
        exact absurd H (by simp)
      ·
       rw [if_neg c12] at H
       have c12b0 : decide (x10_2 < (l0.length : Int)) = false := decide_eq_false c12
       clear c12
       replace H := Option.bind_eq_some_iff.mp H
       obtain ⟨⟨t210, t211, t212, t213, t214, t215, t216⟩, A300, H⟩ := H
       replace H : ((ridgewayref10_Pick.f k2 l0 a1_0 a1_1 l1_2 a1_3).bind fun bt218 => (if t197 = true then (if (t210 == bt218.1 && ((t211 == bt218.2.1 && (t212 == bt218.2.2.1)) && (t213 == bt218.2.2.2.1 && (t214 == bt218.2.2.2.2.1 && (t215 == bt218.2.2.2.2.2.1))))) = true then (if (t216 == bt218.2.2.2.2.2.2) = true then ((policy_Reach.f l0 a2).bind fun t226 => ((ridgewayref10_Reach.f k2 l0 a2).bind fun t229 => ((ridgewayref10_Same.f k2 t226 t229).bind fun t232 => (some t232)))) else (some false)) else (some false)) else (some false))) = some true := H
       have A30 := Aside0.mk A300
       clear A300
       replace H := Option.bind_eq_some_iff.mp H
       obtain ⟨⟨t218, t219, t220, t221, t222, t223, t224⟩, A310, H⟩ := H
       replace H : (if t197 = true then (if (t210 == t218 && ((t211 == t219 && (t212 == t220)) && (t213 == t221 && (t214 == t222 && (t215 == t223))))) = true then (if (t216 == t224) = true then ((policy_Reach.f l0 a2).bind fun t226 => ((ridgewayref10_Reach.f k2 l0 a2).bind fun t229 => ((ridgewayref10_Same.f k2 t226 t229).bind fun t232 => (some t232)))) else (some false)) else (some false)) else (some false)) = some true := H
       have A31 := Aside0.mk A310
       clear A310
       by_cases c32 : t197 = true
       ·
        subst c32
        have H1 : (if (t210 == t218 && ((t211 == t219 && (t212 == t220)) && (t213 == t221 && (t214 == t222 && (t215 == t223))))) = true then (if (t216 == t224) = true then ((policy_Reach.f l0 a2).bind fun t226 => ((ridgewayref10_Reach.f k2 l0 a2).bind fun t229 => ((ridgewayref10_Same.f k2 t226 t229).bind fun t232 => (some t232)))) else (some false)) else (some false)) = some true := by rw [if_pos rfl] at H; first | done | exact H
        clear H
        have H := H1
        clear H1
        by_cases c33 : (t210 == t218 && ((t211 == t219 && (t212 == t220)) && (t213 == t221 && (t214 == t222 && (t215 == t223))))) = true
        ·
         rw [if_pos c33] at H
         have c33b0 : (t210 == t218 && ((t211 == t219 && (t212 == t220)) && (t213 == t221 && (t214 == t222 && (t215 == t223))))) = true := c33
         (try (have c33b1 : decide (t210 = t218 && ((t211 == t219 && (t212 == t220)) && (t213 == t221 && (t214 == t222 && (t215 == t223))))) = true := by simpa using c33))
         (try (have c33b2 : (t210 == t218 && ((t211 == t219 && (t212 == t220)) && (t213 == t221 && (t214 == t222 && (t215 == t223))))) = true := by simpa using c33))
         clear c33
         by_cases c34 : (t216 == t224) = true
         ·
          rw [if_pos c34] at H
          have c34b0 : (t216 == t224) = true := c34
          (try (have c34b1 : decide (t216 = t224) = true := by simpa using c34))
          (try (have c34b2 : (t216 == t224) = true := by simpa using c34))
          clear c34
          replace H := Option.bind_eq_some_iff.mp H
          obtain ⟨t226, A350, H⟩ := H
          replace H : ((ridgewayref10_Reach.f k2 l0 a2).bind fun t229 => ((ridgewayref10_Same.f k2 t226 t229).bind fun t232 => (some t232))) = some true := H
          have A35 := Aside0.mk A350
          clear A350
          replace H := Option.bind_eq_some_iff.mp H
          obtain ⟨t229, A360, H⟩ := H
          replace H : ((ridgewayref10_Same.f k2 t226 t229).bind fun t232 => (some t232)) = some true := H
          have A36 := Aside0.mk A360
          clear A360
          replace H := Option.bind_eq_some_iff.mp H
          obtain ⟨t232, A370, H⟩ := H
          replace H : (some t232) = some true := H
          have A37 := Aside0.mk A370
          clear A370
          have HRL_ := Aside0.mk (Option.some.inj H)
          clear H
          have hcz38_0 : wr.cell? ⟨gb196, 0, none⟩ = some (.int .i64 a1_0) := (blk_cell BK196.out 0).trans rfl
          have hcz38_1 : wr.cell? ⟨gb196, 1, none⟩ = some (.int .i64 a1_1) := (blk_cell BK196.out 1).trans rfl
          have hcz38_2 : wr.cell? ⟨gb196, 2, none⟩ = some (.slice A1_2 l1_2.length c1_2) := (blk_cell BK196.out 2).trans rfl
          have hcz38_3 : wr.cell? ⟨gb196, 3, none⟩ = some (.int .i64 a1_3) := (blk_cell BK196.out 3).trans rfl
          have hfz38_0 := blk_frozen BK196.out 0
          have hfz38_1 := blk_frozen BK196.out 1
          have hfz38_2 := blk_frozen BK196.out 2
          have hfz38_3 := blk_frozen BK196.out 3
          go_wp2_with (first | ((with_reducible refine gate_callee (f := 15) rfl ?_); refine goesL_ (some 78) rfl rfl Try.func15 (by kernel_rfl) rfl #[.slice A0 l0.length c0, .agg #[.int .i64 a1_0, .int .i64 a1_1, .slice A1_2 l1_2.length c1_2, .int .i64 a1_3]] rfl (by (try simp only [List.map_toArray, List.map_cons, List.map_nil]); first | done | rfl | (simp only [List.length_drop, List.length_take]; rfl)) ?_; (with_reducible refine (policy_Pick.calls k2 _ _ l0 a1_0 a1_1 _ _ l1_2 a1_3 t210 t211 t212 t213 t214 t215 t216 _ ?side1 ?side2 ?side3 ?side4 A30.out).mono ?_); (case side1 => repeat (first | exact (Kd.C_below HR0.out HB.out) | (with_reducible refine Kd.C_alloc ?_ _) | (with_reducible refine Kd.C_drewN ?_ _) | (with_reducible refine Kd.C_drew ?_))); (case side2 => exact HC0.out); (case side3 => repeat (first | exact (Kd.C_below HR1_2.out HB.out) | (with_reducible refine Kd.C_alloc ?_ _) | (with_reducible refine Kd.C_drewN ?_ _) | (with_reducible refine Kd.C_drew ?_))); (case side4 => exact HC1_2.out); rintro e w39 ⟨rfl, hb⟩; refine ⟨_, rfl, ?_⟩; have n0_ := Aside0.mk (blk_below (g := gb196) (o := .cells #[.int .i64 a1_0, .int .i64 a1_1, .slice A1_2 l1_2.length c1_2, .int .i64 a1_3] 27 (0, 0)) (by (with_reducible repeat (first | refine kN ?_ _ | refine kD ?_ | refine kA ?_ _)); exact BK196.out) hb); have n1_ := Aside0.mk (below_step (by repeat (first | (with_reducible first | exact HB.out | apply bA | apply bN | apply bD | refine bS ?_ GE196.out) | exact HB.out)) hb); clear BK196; clear HB; have BK196 := n0_; have HB := n1_; clear n0_ n1_; (try clear hb); (try clear hb2); (try clear hk); (try clear hi)) | ((with_reducible refine gate_dst (N := 11) rfl ?_); (try (refine gate_guard (by rfl) ?_; dsimp only)); refine box_event ?hg (N := 11) ?hd (cs := #[.int .i64 0, .int .i64 0, .int .i64 0, .int .i64 0, .int .i64 0, .int .i64 0]) (t := 31) ?hr ?_; (case hd => rfl); (case hg => rfl); (case hr => first | (go_simp; done) | (go_simp; rfl)); intro gb217 hg w40 hbox hb; have n0_ := Aside0.mk (blk_below (g := gb196) (o := .cells #[.int .i64 a1_0, .int .i64 a1_1, .slice A1_2 l1_2.length c1_2, .int .i64 a1_3] 27 (0, 0)) (by (with_reducible repeat (first | refine kN ?_ _ | refine kD ?_ | refine kA ?_ _)); exact BK196.out) hb); have n1_ := Aside0.mk (below_step (by repeat (first | (with_reducible first | exact HB.out | apply bA | apply bN | apply bD | refine bS ?_ GE196.out) | exact HB.out)) hb); have n2_ := Aside0.mk (hbox); have n3_ := Aside0.mk ((by rw [hg]; exact (below_size (by repeat (first | (with_reducible first | exact HB.out | apply bA | apply bN | apply bD | refine bS ?_ GE196.out) | exact HB.out))) : w.heap.size ≤ gb217)); have n4_ := Aside0.mk ((by rw [hg]; exact (below_size (by repeat (first | (with_reducible first | exact HB.out | apply bA | apply bN | apply bD | refine bS ?_ GE196.out) | exact HB.out))) : w.heap.size ≤ gb217)); have n5_ := Aside0.mk ((by rw [hg]; exact Nat.ne_of_lt (blk_lt (g := gb196) (o := .cells #[.int .i64 a1_0, .int .i64 a1_1, .slice A1_2 l1_2.length c1_2, .int .i64 a1_3] 27 (0, 0)) (by (with_reducible repeat (first | refine kN ?_ _ | refine kD ?_ | refine kA ?_ _)); exact BK196.out)) : gb196 ≠ gb217)); have n6_ := Aside0.mk ((by rw [hg]; exact Nat.ne_of_gt (blk_lt (g := gb196) (o := .cells #[.int .i64 a1_0, .int .i64 a1_1, .slice A1_2 l1_2.length c1_2, .int .i64 a1_3] 27 (0, 0)) (by (with_reducible repeat (first | refine kN ?_ _ | refine kD ?_ | refine kA ?_ _)); exact BK196.out)) : gb217 ≠ gb196)); clear BK196; clear HB; have BK196 := n0_; have HB := n1_; have BK217 := n2_; have GW217 := n3_; have GE217 := n4_; have NB196_217 := n5_; have NB217_196 := n6_; clear n0_ n1_ n2_ n3_ n4_ n5_ n6_; clear hb hbox hg; have hnb41 := NB217_196.out; have hnc41 := NB196_217.out; have hcz42_0 : w40.cell? ⟨gb217, 0, none⟩ = some (.int .i64 0) := (blk_cell BK217.out 0).trans rfl; have hcz42_1 : w40.cell? ⟨gb217, 1, none⟩ = some (.int .i64 0) := (blk_cell BK217.out 1).trans rfl; have hcz42_2 : w40.cell? ⟨gb217, 2, none⟩ = some (.int .i64 0) := (blk_cell BK217.out 2).trans rfl; have hcz42_3 : w40.cell? ⟨gb217, 3, none⟩ = some (.int .i64 0) := (blk_cell BK217.out 3).trans rfl; have hcz42_4 : w40.cell? ⟨gb217, 4, none⟩ = some (.int .i64 0) := (blk_cell BK217.out 4).trans rfl; have hcz42_5 : w40.cell? ⟨gb217, 5, none⟩ = some (.int .i64 0) := (blk_cell BK217.out 5).trans rfl; have hfz42_0 := blk_frozen BK217.out 0; have hfz42_1 := blk_frozen BK217.out 1; have hfz42_2 := blk_frozen BK217.out 2; have hfz42_3 := blk_frozen BK217.out 3; have hfz42_4 := blk_frozen BK217.out 4; have hfz42_5 := blk_frozen BK217.out 5; have hcz43_0 : w40.cell? ⟨gb196, 0, none⟩ = some (.int .i64 a1_0) := (blk_cell BK196.out 0).trans rfl; have hcz43_1 : w40.cell? ⟨gb196, 1, none⟩ = some (.int .i64 a1_1) := (blk_cell BK196.out 1).trans rfl; have hcz43_2 : w40.cell? ⟨gb196, 2, none⟩ = some (.slice A1_2 l1_2.length c1_2) := (blk_cell BK196.out 2).trans rfl; have hcz43_3 : w40.cell? ⟨gb196, 3, none⟩ = some (.int .i64 a1_3) := (blk_cell BK196.out 3).trans rfl; have hfz43_0 := blk_frozen BK196.out 0; have hfz43_1 := blk_frozen BK196.out 1; have hfz43_2 := blk_frozen BK196.out 2; have hfz43_3 := blk_frozen BK196.out 3) | ((with_reducible refine gate_callee (f := 16) rfl ?_); refine goesL_ (some 84) rfl rfl Try.func16 (by kernel_rfl) rfl #[.slice A0 l0.length c0, .agg #[.int .i64 a1_0, .int .i64 a1_1, .slice A1_2 l1_2.length c1_2, .int .i64 a1_3]] rfl (by (try simp only [List.map_toArray, List.map_cons, List.map_nil]); first | done | rfl | (simp only [List.length_drop, List.length_take]; rfl)) ?_; (with_reducible refine (ridgewayref10_Pick.calls k2 _ _ l0 a1_0 a1_1 _ _ l1_2 a1_3 t218 t219 t220 t221 t222 t223 t224 _ ?side1 ?side2 ?side3 ?side4 A31.out).mono ?_); (case side1 => exact Kd.C_below HR0.out (by repeat (first | (with_reducible first | exact HB.out | apply bA | apply bN | apply bD | refine bS ?_ GE196.out | refine bS ?_ GE217.out) | exact HB.out))); (case side2 => exact HC0.out); (case side3 => exact Kd.C_below HR1_2.out (by repeat (first | (with_reducible first | exact HB.out | apply bA | apply bN | apply bD | refine bS ?_ GE196.out | refine bS ?_ GE217.out) | exact HB.out))); (case side4 => exact HC1_2.out); rintro e w44 ⟨rfl, hb⟩; refine ⟨_, rfl, ?_⟩; have n0_ := Aside0.mk (blk_below (g := gb196) (o := .cells #[.int .i64 a1_0, .int .i64 a1_1, .slice A1_2 l1_2.length c1_2, .int .i64 a1_3] 27 (0, 0)) (by (with_reducible repeat (first | refine kN ?_ _ | refine kD ?_ | refine kA ?_ _)); refine blk_far ?_ NB196_217.out _; (with_reducible repeat (first | refine kN ?_ _ | refine kD ?_ | refine kA ?_ _)); refine blk_far ?_ NB196_217.out _; (with_reducible repeat (first | refine kN ?_ _ | refine kD ?_ | refine kA ?_ _)); refine blk_far ?_ NB196_217.out _; (with_reducible repeat (first | refine kN ?_ _ | refine kD ?_ | refine kA ?_ _)); refine blk_far ?_ NB196_217.out _; (with_reducible repeat (first | refine kN ?_ _ | refine kD ?_ | refine kA ?_ _)); refine blk_far ?_ NB196_217.out _; (with_reducible repeat (first | refine kN ?_ _ | refine kD ?_ | refine kA ?_ _)); refine blk_far ?_ NB196_217.out _; (with_reducible repeat (first | refine kN ?_ _ | refine kD ?_ | refine kA ?_ _)); exact BK196.out) hb); have n1_ := Aside0.mk (blk_below (g := gb217) (o := .cells #[.int .i64 t210, .int .i64 t211, .int .i64 t212, .int .i64 t213, .int .i64 t214, .int .i64 t215] 31 (0, 0)) (by (with_reducible repeat (first | refine kN ?_ _ | refine kD ?_ | refine kA ?_ _)); refine blk_put (cs := #[.int .i64 t210, .int .i64 t211, .int .i64 t212, .int .i64 t213, .int .i64 t214, .int .i64 0]) ?_ 5 _ rfl; (with_reducible repeat (first | refine kN ?_ _ | refine kD ?_ | refine kA ?_ _)); refine blk_put (cs := #[.int .i64 t210, .int .i64 t211, .int .i64 t212, .int .i64 t213, .int .i64 0, .int .i64 0]) ?_ 4 _ rfl; (with_reducible repeat (first | refine kN ?_ _ | refine kD ?_ | refine kA ?_ _)); refine blk_put (cs := #[.int .i64 t210, .int .i64 t211, .int .i64 t212, .int .i64 0, .int .i64 0, .int .i64 0]) ?_ 3 _ rfl; (with_reducible repeat (first | refine kN ?_ _ | refine kD ?_ | refine kA ?_ _)); refine blk_put (cs := #[.int .i64 t210, .int .i64 t211, .int .i64 0, .int .i64 0, .int .i64 0, .int .i64 0]) ?_ 2 _ rfl; (with_reducible repeat (first | refine kN ?_ _ | refine kD ?_ | refine kA ?_ _)); refine blk_put (cs := #[.int .i64 t210, .int .i64 0, .int .i64 0, .int .i64 0, .int .i64 0, .int .i64 0]) ?_ 1 _ rfl; (with_reducible repeat (first | refine kN ?_ _ | refine kD ?_ | refine kA ?_ _)); refine blk_put (cs := #[.int .i64 0, .int .i64 0, .int .i64 0, .int .i64 0, .int .i64 0, .int .i64 0]) ?_ 0 _ rfl; (with_reducible repeat (first | refine kN ?_ _ | refine kD ?_ | refine kA ?_ _)); exact BK217.out) hb); have n2_ := Aside0.mk (below_step (by repeat (first | (with_reducible first | exact HB.out | apply bA | apply bN | apply bD | refine bS ?_ GE196.out | refine bS ?_ GE217.out) | exact HB.out)) hb); clear BK196; clear BK217; clear HB; have BK196 := n0_; have BK217 := n1_; have HB := n2_; clear n0_ n1_ n2_; (try clear hb); (try clear hb2); (try clear hk); (try clear hi)) | ((with_reducible refine gate_dst (N := 13) rfl ?_); (try (refine gate_guard (by rfl) ?_; dsimp only)); refine box_event ?hg (N := 13) ?hd (cs := #[.int .i64 0, .int .i64 0, .int .i64 0, .int .i64 0, .int .i64 0, .int .i64 0]) (t := 31) ?hr ?_; (case hd => rfl); (case hg => rfl); (case hr => first | (go_simp; done) | (go_simp; rfl)); intro gb225 hg w45 hbox hb; have n0_ := Aside0.mk (blk_below (g := gb196) (o := .cells #[.int .i64 a1_0, .int .i64 a1_1, .slice A1_2 l1_2.length c1_2, .int .i64 a1_3] 27 (0, 0)) (by (with_reducible repeat (first | refine kN ?_ _ | refine kD ?_ | refine kA ?_ _)); exact BK196.out) hb); have n1_ := Aside0.mk (blk_below (g := gb217) (o := .cells #[.int .i64 t210, .int .i64 t211, .int .i64 t212, .int .i64 t213, .int .i64 t214, .int .i64 t215] 31 (0, 0)) (by (with_reducible repeat (first | refine kN ?_ _ | refine kD ?_ | refine kA ?_ _)); exact BK217.out) hb); have n2_ := Aside0.mk (below_step (by repeat (first | (with_reducible first | exact HB.out | apply bA | apply bN | apply bD | refine bS ?_ GE196.out | refine bS ?_ GE217.out) | exact HB.out)) hb); have n3_ := Aside0.mk (hbox); have n4_ := Aside0.mk ((by rw [hg]; exact (below_size (by repeat (first | (with_reducible first | exact HB.out | apply bA | apply bN | apply bD | refine bS ?_ GE196.out | refine bS ?_ GE217.out) | exact HB.out))) : w.heap.size ≤ gb225)); have n5_ := Aside0.mk ((by rw [hg]; exact (below_size (by repeat (first | (with_reducible first | exact HB.out | apply bA | apply bN | apply bD | refine bS ?_ GE196.out | refine bS ?_ GE217.out) | exact HB.out))) : w.heap.size ≤ gb225)); have n6_ := Aside0.mk ((by rw [hg]; exact Nat.ne_of_lt (blk_lt (g := gb196) (o := .cells #[.int .i64 a1_0, .int .i64 a1_1, .slice A1_2 l1_2.length c1_2, .int .i64 a1_3] 27 (0, 0)) (by (with_reducible repeat (first | refine kN ?_ _ | refine kD ?_ | refine kA ?_ _)); exact BK196.out)) : gb196 ≠ gb225)); have n7_ := Aside0.mk ((by rw [hg]; exact Nat.ne_of_gt (blk_lt (g := gb196) (o := .cells #[.int .i64 a1_0, .int .i64 a1_1, .slice A1_2 l1_2.length c1_2, .int .i64 a1_3] 27 (0, 0)) (by (with_reducible repeat (first | refine kN ?_ _ | refine kD ?_ | refine kA ?_ _)); exact BK196.out)) : gb225 ≠ gb196)); have n8_ := Aside0.mk ((by rw [hg]; exact Nat.ne_of_lt (blk_lt (g := gb217) (o := .cells #[.int .i64 t210, .int .i64 t211, .int .i64 t212, .int .i64 t213, .int .i64 t214, .int .i64 t215] 31 (0, 0)) (by (with_reducible repeat (first | refine kN ?_ _ | refine kD ?_ | refine kA ?_ _)); exact BK217.out)) : gb217 ≠ gb225)); have n9_ := Aside0.mk ((by rw [hg]; exact Nat.ne_of_gt (blk_lt (g := gb217) (o := .cells #[.int .i64 t210, .int .i64 t211, .int .i64 t212, .int .i64 t213, .int .i64 t214, .int .i64 t215] 31 (0, 0)) (by (with_reducible repeat (first | refine kN ?_ _ | refine kD ?_ | refine kA ?_ _)); exact BK217.out)) : gb225 ≠ gb217)); clear BK196; clear BK217; clear HB; have BK196 := n0_; have BK217 := n1_; have HB := n2_; have BK225 := n3_; have GW225 := n4_; have GE225 := n5_; have NB196_225 := n6_; have NB225_196 := n7_; have NB217_225 := n8_; have NB225_217 := n9_; clear n0_ n1_ n2_ n3_ n4_ n5_ n6_ n7_ n8_ n9_; clear hb hbox hg; have hnb46 := NB225_196.out; have hnc46 := NB196_225.out; have hnb47 := NB225_217.out; have hnc47 := NB217_225.out; have hcz48_0 : w45.cell? ⟨gb225, 0, none⟩ = some (.int .i64 0) := (blk_cell BK225.out 0).trans rfl; have hcz48_1 : w45.cell? ⟨gb225, 1, none⟩ = some (.int .i64 0) := (blk_cell BK225.out 1).trans rfl; have hcz48_2 : w45.cell? ⟨gb225, 2, none⟩ = some (.int .i64 0) := (blk_cell BK225.out 2).trans rfl; have hcz48_3 : w45.cell? ⟨gb225, 3, none⟩ = some (.int .i64 0) := (blk_cell BK225.out 3).trans rfl; have hcz48_4 : w45.cell? ⟨gb225, 4, none⟩ = some (.int .i64 0) := (blk_cell BK225.out 4).trans rfl; have hcz48_5 : w45.cell? ⟨gb225, 5, none⟩ = some (.int .i64 0) := (blk_cell BK225.out 5).trans rfl; have hfz48_0 := blk_frozen BK225.out 0; have hfz48_1 := blk_frozen BK225.out 1; have hfz48_2 := blk_frozen BK225.out 2; have hfz48_3 := blk_frozen BK225.out 3; have hfz48_4 := blk_frozen BK225.out 4; have hfz48_5 := blk_frozen BK225.out 5; have hcz49_0 : w45.cell? ⟨gb217, 0, none⟩ = some (.int .i64 t210) := (blk_cell BK217.out 0).trans rfl; have hcz49_1 : w45.cell? ⟨gb217, 1, none⟩ = some (.int .i64 t211) := (blk_cell BK217.out 1).trans rfl; have hcz49_2 : w45.cell? ⟨gb217, 2, none⟩ = some (.int .i64 t212) := (blk_cell BK217.out 2).trans rfl; have hcz49_3 : w45.cell? ⟨gb217, 3, none⟩ = some (.int .i64 t213) := (blk_cell BK217.out 3).trans rfl; have hcz49_4 : w45.cell? ⟨gb217, 4, none⟩ = some (.int .i64 t214) := (blk_cell BK217.out 4).trans rfl; have hcz49_5 : w45.cell? ⟨gb217, 5, none⟩ = some (.int .i64 t215) := (blk_cell BK217.out 5).trans rfl; have hfz49_0 := blk_frozen BK217.out 0; have hfz49_1 := blk_frozen BK217.out 1; have hfz49_2 := blk_frozen BK217.out 2; have hfz49_3 := blk_frozen BK217.out 3; have hfz49_4 := blk_frozen BK217.out 4; have hfz49_5 := blk_frozen BK217.out 5) | (go_at_call 18; (with_reducible refine (policy_Reach.calls _ _ l0 a2 t226 _ ?side1 ?side2 A35.out).mono ?_); (case side1 => exact Kd.C_below HR0.out (by repeat (first | (with_reducible first | exact HB.out | apply bA | apply bN | apply bD | refine bS ?_ GE196.out | refine bS ?_ GE217.out | refine bS ?_ GE225.out) | exact HB.out))); (case side2 => exact HC0.out); rintro e w50 ⟨v227, rfl, ho0, hb⟩; have n0_ := Aside0.mk (Kd.R_lower (Kd.R_newB (Kd.R_newB ho0 (g := gb217) (o := .cells #[.int .i64 t210, .int .i64 t211, .int .i64 t212, .int .i64 t213, .int .i64 t214, .int .i64 t215] 31 (0, 0)) (by (with_reducible repeat (first | refine kN ?_ _ | refine kD ?_ | refine kA ?_ _)); refine blk_far ?_ NB217_225.out _; (with_reducible repeat (first | refine kN ?_ _ | refine kD ?_ | refine kA ?_ _)); refine blk_far ?_ NB217_225.out _; (with_reducible repeat (first | refine kN ?_ _ | refine kD ?_ | refine kA ?_ _)); refine blk_far ?_ NB217_225.out _; (with_reducible repeat (first | refine kN ?_ _ | refine kD ?_ | refine kA ?_ _)); refine blk_far ?_ NB217_225.out _; (with_reducible repeat (first | refine kN ?_ _ | refine kD ?_ | refine kA ?_ _)); refine blk_far ?_ NB217_225.out _; (with_reducible repeat (first | refine kN ?_ _ | refine kD ?_ | refine kA ?_ _)); refine blk_far ?_ NB217_225.out _; (with_reducible repeat (first | refine kN ?_ _ | refine kD ?_ | refine kA ?_ _)); exact BK217.out)) (g := gb225) (o := .cells #[.int .i64 t218, .int .i64 t219, .int .i64 t220, .int .i64 t221, .int .i64 t222, .int .i64 t223] 31 (0, 0)) (by (with_reducible repeat (first | refine kN ?_ _ | refine kD ?_ | refine kA ?_ _)); refine blk_put (cs := #[.int .i64 t218, .int .i64 t219, .int .i64 t220, .int .i64 t221, .int .i64 t222, .int .i64 0]) ?_ 5 _ rfl; (with_reducible repeat (first | refine kN ?_ _ | refine kD ?_ | refine kA ?_ _)); refine blk_put (cs := #[.int .i64 t218, .int .i64 t219, .int .i64 t220, .int .i64 t221, .int .i64 0, .int .i64 0]) ?_ 4 _ rfl; (with_reducible repeat (first | refine kN ?_ _ | refine kD ?_ | refine kA ?_ _)); refine blk_put (cs := #[.int .i64 t218, .int .i64 t219, .int .i64 t220, .int .i64 0, .int .i64 0, .int .i64 0]) ?_ 3 _ rfl; (with_reducible repeat (first | refine kN ?_ _ | refine kD ?_ | refine kA ?_ _)); refine blk_put (cs := #[.int .i64 t218, .int .i64 t219, .int .i64 0, .int .i64 0, .int .i64 0, .int .i64 0]) ?_ 2 _ rfl; (with_reducible repeat (first | refine kN ?_ _ | refine kD ?_ | refine kA ?_ _)); refine blk_put (cs := #[.int .i64 t218, .int .i64 0, .int .i64 0, .int .i64 0, .int .i64 0, .int .i64 0]) ?_ 1 _ rfl; (with_reducible repeat (first | refine kN ?_ _ | refine kD ?_ | refine kA ?_ _)); refine blk_put (cs := #[.int .i64 0, .int .i64 0, .int .i64 0, .int .i64 0, .int .i64 0, .int .i64 0]) ?_ 0 _ rfl; (with_reducible repeat (first | refine kN ?_ _ | refine kD ?_ | refine kA ?_ _)); exact BK225.out)) (below_size (by repeat (first | (with_reducible first | exact HB.out | apply bA | apply bN | apply bD | refine bS ?_ GE196.out | refine bS ?_ GE217.out | refine bS ?_ GE225.out) | exact HB.out)))); have n1_ := Aside0.mk (blk_below (g := gb196) (o := .cells #[.int .i64 a1_0, .int .i64 a1_1, .slice A1_2 l1_2.length c1_2, .int .i64 a1_3] 27 (0, 0)) (by (with_reducible repeat (first | refine kN ?_ _ | refine kD ?_ | refine kA ?_ _)); refine blk_far ?_ NB196_225.out _; (with_reducible repeat (first | refine kN ?_ _ | refine kD ?_ | refine kA ?_ _)); refine blk_far ?_ NB196_225.out _; (with_reducible repeat (first | refine kN ?_ _ | refine kD ?_ | refine kA ?_ _)); refine blk_far ?_ NB196_225.out _; (with_reducible repeat (first | refine kN ?_ _ | refine kD ?_ | refine kA ?_ _)); refine blk_far ?_ NB196_225.out _; (with_reducible repeat (first | refine kN ?_ _ | refine kD ?_ | refine kA ?_ _)); refine blk_far ?_ NB196_225.out _; (with_reducible repeat (first | refine kN ?_ _ | refine kD ?_ | refine kA ?_ _)); refine blk_far ?_ NB196_225.out _; (with_reducible repeat (first | refine kN ?_ _ | refine kD ?_ | refine kA ?_ _)); exact BK196.out) hb); have n2_ := Aside0.mk (blk_below (g := gb217) (o := .cells #[.int .i64 t210, .int .i64 t211, .int .i64 t212, .int .i64 t213, .int .i64 t214, .int .i64 t215] 31 (0, 0)) (by (with_reducible repeat (first | refine kN ?_ _ | refine kD ?_ | refine kA ?_ _)); refine blk_far ?_ NB217_225.out _; (with_reducible repeat (first | refine kN ?_ _ | refine kD ?_ | refine kA ?_ _)); refine blk_far ?_ NB217_225.out _; (with_reducible repeat (first | refine kN ?_ _ | refine kD ?_ | refine kA ?_ _)); refine blk_far ?_ NB217_225.out _; (with_reducible repeat (first | refine kN ?_ _ | refine kD ?_ | refine kA ?_ _)); refine blk_far ?_ NB217_225.out _; (with_reducible repeat (first | refine kN ?_ _ | refine kD ?_ | refine kA ?_ _)); refine blk_far ?_ NB217_225.out _; (with_reducible repeat (first | refine kN ?_ _ | refine kD ?_ | refine kA ?_ _)); refine blk_far ?_ NB217_225.out _; (with_reducible repeat (first | refine kN ?_ _ | refine kD ?_ | refine kA ?_ _)); exact BK217.out) hb); have n3_ := Aside0.mk (blk_below (g := gb225) (o := .cells #[.int .i64 t218, .int .i64 t219, .int .i64 t220, .int .i64 t221, .int .i64 t222, .int .i64 t223] 31 (0, 0)) (by (with_reducible repeat (first | refine kN ?_ _ | refine kD ?_ | refine kA ?_ _)); refine blk_put (cs := #[.int .i64 t218, .int .i64 t219, .int .i64 t220, .int .i64 t221, .int .i64 t222, .int .i64 0]) ?_ 5 _ rfl; (with_reducible repeat (first | refine kN ?_ _ | refine kD ?_ | refine kA ?_ _)); refine blk_put (cs := #[.int .i64 t218, .int .i64 t219, .int .i64 t220, .int .i64 t221, .int .i64 0, .int .i64 0]) ?_ 4 _ rfl; (with_reducible repeat (first | refine kN ?_ _ | refine kD ?_ | refine kA ?_ _)); refine blk_put (cs := #[.int .i64 t218, .int .i64 t219, .int .i64 t220, .int .i64 0, .int .i64 0, .int .i64 0]) ?_ 3 _ rfl; (with_reducible repeat (first | refine kN ?_ _ | refine kD ?_ | refine kA ?_ _)); refine blk_put (cs := #[.int .i64 t218, .int .i64 t219, .int .i64 0, .int .i64 0, .int .i64 0, .int .i64 0]) ?_ 2 _ rfl; (with_reducible repeat (first | refine kN ?_ _ | refine kD ?_ | refine kA ?_ _)); refine blk_put (cs := #[.int .i64 t218, .int .i64 0, .int .i64 0, .int .i64 0, .int .i64 0, .int .i64 0]) ?_ 1 _ rfl; (with_reducible repeat (first | refine kN ?_ _ | refine kD ?_ | refine kA ?_ _)); refine blk_put (cs := #[.int .i64 0, .int .i64 0, .int .i64 0, .int .i64 0, .int .i64 0, .int .i64 0]) ?_ 0 _ rfl; (with_reducible repeat (first | refine kN ?_ _ | refine kD ?_ | refine kA ?_ _)); exact BK225.out) hb); have n4_ := Aside0.mk (below_step (by repeat (first | (with_reducible first | exact HB.out | apply bA | apply bN | apply bD | refine bS ?_ GE196.out | refine bS ?_ GE217.out | refine bS ?_ GE225.out) | exact HB.out)) hb); clear BK196; clear BK217; clear BK225; clear HB; have HO228 := n0_; have BK196 := n1_; have BK217 := n2_; have BK225 := n3_; have HB := n4_; clear n0_ n1_ n2_ n3_ n4_; (try clear hb); (try clear hb2); (try clear hk); (try clear hi); (try clear ho0)) | (go_at_call 19; (with_reducible refine (ridgewayref10_Reach.calls k2 _ _ l0 a2 t229 _ ?side1 ?side2 A36.out).mono ?_); (case side1 => repeat (first | exact (Kd.C_below HR0.out HB.out) | (with_reducible refine Kd.C_alloc ?_ _) | (with_reducible refine Kd.C_drewN ?_ _) | (with_reducible refine Kd.C_drew ?_))); (case side2 => exact HC0.out); rintro e w51 ⟨v230, rfl, ho0, hb⟩; have n0_ := Aside0.mk (Kd.R_elder' (by (with_reducible repeat (first | apply Kd.R_alloc | apply Kd.R_drewN | apply Kd.R_drew)); exact HO228.out) (Kd.R_base ho0) hb); have n1_ := Aside0.mk (Kd.R_lower (Kd.R_newB (Kd.R_newB (Kd.R_new' ho0 (Kd.R_lt (by (with_reducible repeat (first | apply Kd.R_alloc | apply Kd.R_drewN | apply Kd.R_drew)); exact HO228.out))) (g := gb217) (o := .cells #[.int .i64 t210, .int .i64 t211, .int .i64 t212, .int .i64 t213, .int .i64 t214, .int .i64 t215] 31 (0, 0)) (by (with_reducible repeat (first | refine kN ?_ _ | refine kD ?_ | refine kA ?_ _)); exact BK217.out)) (g := gb225) (o := .cells #[.int .i64 t218, .int .i64 t219, .int .i64 t220, .int .i64 t221, .int .i64 t222, .int .i64 t223] 31 (0, 0)) (by (with_reducible repeat (first | refine kN ?_ _ | refine kD ?_ | refine kA ?_ _)); exact BK225.out)) (below_size (by repeat (first | (with_reducible first | exact HB.out | apply bA | apply bN | apply bD | refine bS ?_ GE196.out | refine bS ?_ GE217.out | refine bS ?_ GE225.out) | exact HB.out)))); have n2_ := Aside0.mk (blk_below (g := gb196) (o := .cells #[.int .i64 a1_0, .int .i64 a1_1, .slice A1_2 l1_2.length c1_2, .int .i64 a1_3] 27 (0, 0)) (by (with_reducible repeat (first | refine kN ?_ _ | refine kD ?_ | refine kA ?_ _)); exact BK196.out) hb); have n3_ := Aside0.mk (blk_below (g := gb217) (o := .cells #[.int .i64 t210, .int .i64 t211, .int .i64 t212, .int .i64 t213, .int .i64 t214, .int .i64 t215] 31 (0, 0)) (by (with_reducible repeat (first | refine kN ?_ _ | refine kD ?_ | refine kA ?_ _)); exact BK217.out) hb); have n4_ := Aside0.mk (blk_below (g := gb225) (o := .cells #[.int .i64 t218, .int .i64 t219, .int .i64 t220, .int .i64 t221, .int .i64 t222, .int .i64 t223] 31 (0, 0)) (by (with_reducible repeat (first | refine kN ?_ _ | refine kD ?_ | refine kA ?_ _)); exact BK225.out) hb); have n5_ := Aside0.mk (below_step (by repeat (first | (with_reducible first | exact HB.out | apply bA | apply bN | apply bD | refine bS ?_ GE196.out | refine bS ?_ GE217.out | refine bS ?_ GE225.out) | exact HB.out)) hb); clear HO228; clear BK196; clear BK217; clear BK225; clear HB; have HO228 := n0_; have HO231 := n1_; have BK196 := n2_; have BK217 := n3_; have BK225 := n4_; have HB := n5_; clear n0_ n1_ n2_ n3_ n4_ n5_; (try clear hb); (try clear hb2); (try clear hk); (try clear hi); (try clear ho0); obtain ⟨Ao52, co52, eo52⟩ := Kd.R_slice HO228.out; subst eo52; obtain ⟨Ao53, co53, eo53⟩ := Kd.R_slice HO231.out; subst eo53) | (go_at_call 17; (with_reducible refine (ridgewayref10_Same.calls k2 _ _ t226 _ _ t229 t232 _ ?side1 ?side2 ?side3 ?side4 A37.out).mono ?_); (case side1 => repeat (first | exact (Kd.R_reads' HO228.out).2.2 | (with_reducible refine Kd.C_alloc ?_ _) | (with_reducible refine Kd.C_drewN ?_ _) | (with_reducible refine Kd.C_drew ?_))); (case side2 => exact (Kd.R_reads' HO228.out).2.1); (case side3 => repeat (first | exact (Kd.R_reads' HO231.out).2.2 | (with_reducible refine Kd.C_alloc ?_ _) | (with_reducible refine Kd.C_drewN ?_ _) | (with_reducible refine Kd.C_drew ?_))); (case side4 => exact (Kd.R_reads' HO231.out).2.1); rintro e w' ⟨rfl, ⟨nd, rfl⟩⟩))
          all_goals first | (go_ret; refine ⟨?_, ?_⟩; (focus (first | rfl | (simp [errW_none, errW_some] <;> rfl) | (rw [HRL_.out] <;> rfl) | (simp only [HRL_.out] <;> rfl) | (have h_ := HRL_.out; simp at h_; simp [h_]; done) | (have h_ := HRL_.out; simp [*] at h_ ⊢; done) | (simp [*, errW_none, errW_some] <;> rfl))); (focus (repeat (first | (with_reducible first | exact HB.out | apply bA | apply bN | apply bD | refine bS ?_ GE196.out | refine bS ?_ GE217.out | refine bS ?_ GE225.out) | exact HB.out)))) | (exfalso; simp_all; done)
         ·
          rw [if_neg c34] at H
          have c34b0 : (t216 == t224) = false := by simpa using c34
          (try (have c34b1 : decide (t216 = t224) = false := by simpa using c34))
          (try (have c34b2 : (t216 == t224) = false := by simpa using c34))
          (try (have c34b3 : ¬ (t216 = t224) := by simpa using c34))
          clear c34
          exact absurd H (by simp)
        ·
         rw [if_neg c33] at H
         have c33b0 : (t210 == t218 && ((t211 == t219 && (t212 == t220)) && (t213 == t221 && (t214 == t222 && (t215 == t223))))) = false := by simpa using c33
         (try (have c33b1 : decide (t210 = t218 && ((t211 == t219 && (t212 == t220)) && (t213 == t221 && (t214 == t222 && (t215 == t223))))) = false := by simpa using c33))
         (try (have c33b2 : (t210 == t218 && ((t211 == t219 && (t212 == t220)) && (t213 == t221 && (t214 == t222 && (t215 == t223))))) = false := by simpa using c33))
         (try (have c33b3 : ¬ (t210 = t218 && ((t211 == t219 && (t212 == t220)) && (t213 == t221 && (t214 == t222 && (t215 == t223))))) := by simpa using c33))
         clear c33
         exact absurd H (by simp)
       ·
        replace c32 := Bool.eq_false_iff.mpr c32
        subst c32
        have H1 : (some false) = some true := by rw [if_neg (show ¬ (false = true) by decide)] at H; first | done | exact H
        clear H
        have H := H1
        clear H1
        exact absurd H (by simp)

/-- THE ONE PURE STATEMENT of ridgewaylaw10_PolicyIs. -/
def ridgewaylaw10_PolicyIs.Pure : Prop := ∀ (l0 : List (S31)) (x1 : S27) (a2 : Int) (a3 : Bool), (l0.length ≤ maxLen ∧ ∀ y ∈ l0, wf31 y) → (wf27 x1) → ((Lit.int .i64 a2).wf = true) → ∃ k, ridgewaylaw10_PolicyIs.f k l0 (x1.f0.f0) (x1.f0.f1) (x1.f1) (x1.f2) a2 a3 = some true

end Go.Proofs.Ytclddmjfgceemaa.Q
