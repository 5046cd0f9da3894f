/- Each call of a Go function comes to what the Lean function of its name answers (written out by wip/tools/xprint.py, checked by Lean); conditions: those in each statement. -/
import Derived.Test.YthkbpiagggeicaaQx0
import Derived.Test.YthkbpiagggeicaaQx9
namespace Go.Proofs.Ythkbpiagggeicaa.Q
open Go.RowKit Go.Proofs.YthkbpiagggeicaaW.PrintWords Go.Proofs.YthkbpiagggeicaaW.PrintLast Go.Proofs.YthkbpiagggeicaaW.PrintMore Go.Proofs.YthkbpiagggeicaaW.PrintX
attribute [local go_sem] max2_int min2_int max_two min_two max_three min_three max_four min_four   -- for this text's walks alone
set_option linter.unusedVariables false
set_option linter.unusedSimpArgs false

/-! ### ridgewayref03_Get: function 19 -/
mutual
def ridgewayref03_Get.l0 : Nat → List Int → Int → Option (Int × List Int × Int × Int × Int × List Int)
 | 0, _, _ => none
 | k + 1, x0, x5 => if x5 < 16 then (if 0 ≤ x5 then (if x5 < (x0.length : Int) then (if (rd x0 x5) = 255 then (ridgewayref03_Get.l0 k x0 (wrap64 (x5 + 1))) else (some (0, ([] : List Int), 0, 1, 1, ([] : List Int)))) else (none)) else (none)) else (if 16 < (x0.length : Int) then (if 17 < (x0.length : Int) then (if 16 ≤ 18 then (if 18 ≤ (x0.length : Int) then ((some ((x0.take 18).drop 16 : List Int)).bind fun y282 => (if (wrap64 ((wrap64 ((wrap64 (rd x0 16)) * 256)) + (wrap64 (rd x0 17)))) < 19 then (ridgewayref03_Get.j1 k x0 (wrap64 ((wrap64 ((wrap64 (rd x0 16)) * 256)) + (wrap64 (rd x0 17)))) true 1 2 y282) else (ridgewayref03_Get.j1 k x0 (wrap64 ((wrap64 ((wrap64 (rd x0 16)) * 256)) + (wrap64 (rd x0 17)))) (decide ((wrap64 ((wrap64 ((wrap64 (rd x0 16)) * 256)) + (wrap64 (rd x0 17)))) > 4096)) 1 2 y282))) else (none)) else (none)) else (none)) else (none))
def ridgewayref03_Get.j1 : Nat → List Int → Int → Bool → Int → Int → List Int → Option (Int × List Int × Int × Int × Int × List Int)
 | 0, _, _, _, _, _, _ => none
 | k + 1, x0, x6, x43, x288000, x288001, x288002 => if x43 = true then (some (0, ([] : List Int), 0, x288000, x288001, x288002)) else (if 18 < (x0.length : Int) then ((ridgewayref03_Least.f (wrap64 (rd x0 18))).bind fun t289 => (if t289 = 0 then (if 18 ≤ 19 then (if 19 ≤ (x0.length : Int) then (some (0, ([] : List Int), 0, 1, 3, ((x0.take 19).drop 18))) else (none)) else (none)) else ((ridgewayref03_fits.f (wrap64 (rd x0 18)) x6).bind fun t295 => (if t295 = true then (if (x0.length : Int) < x6 then (some (0, ([] : List Int), 0, 0, 0, ([] : List Int))) else (if 19 ≤ x6 then (if x6 ≤ (x0.length : Int) then (some (wrap64 (rd x0 18), ((x0.take (x6 : Int).toNat).drop 19), x6, 0, 0, ([] : List Int))) else (none)) else (none))) else (some (0, ([] : List Int), 0, x288000, x288001, x288002)))))) else (none))
end
def ridgewayref03_Get.f (k : Nat) (l0 : List Int) : Option (Int × List Int × Int × Int × Int × List Int) := if (l0.length : Int) < 19 then (some (0, ([] : List Int), 0, 0, 0, ([] : List Int))) else (ridgewayref03_Get.l0 k l0 0)
theorem ridgewayref03_Get.mono_l : ∀ k, (∀ y0 y1, LeO (ridgewayref03_Get.l0 k y0 y1) (ridgewayref03_Get.l0 (k + 1) y0 y1)) ∧ (∀ y0 y1 y2 y3 y4 y5, LeO (ridgewayref03_Get.j1 k y0 y1 y2 y3 y4 y5) (ridgewayref03_Get.j1 (k + 1) y0 y1 y2 y3 y4 y5))
 | 0 => ⟨fun _ _ r h => by simp [ridgewayref03_Get.l0] at h, fun _ _ _ _ _ _ r h => by simp [ridgewayref03_Get.j1] at h⟩
 | k + 1 => by
  obtain ⟨ih0, ih1⟩ := ridgewayref03_Get.mono_l k
  refine ⟨?_, ?_⟩
  ·
   intro y0 y1
   unfold ridgewayref03_Get.l0
   repeat' first
   | (with_reducible exact ih0 _ _)
   | (with_reducible exact ih1 _ _ _ _ _ _)
   | (with_reducible exact LeO.refl _)
   | (with_reducible exact LeO.none _)
   | (with_reducible refine LeO.ite ?_ ?_)
   | (with_reducible refine LeO.bind ?_ (fun _ => ?_))
   | exact ih0 _ _
   | exact ih1 _ _ _ _ _ _
   | exact LeO.none _
   | refine LeO.ite ?_ ?_
   | refine LeO.bind ?_ (fun _ => ?_)
  ·
   intro y0 y1 y2 y3 y4 y5
   unfold ridgewayref03_Get.j1
   repeat' first
   | (with_reducible exact ih0 _ _)
   | (with_reducible exact ih1 _ _ _ _ _ _)
   | (with_reducible exact LeO.refl _)
   | (with_reducible exact LeO.none _)
   | (with_reducible refine LeO.ite ?_ ?_)
   | (with_reducible refine LeO.bind ?_ (fun _ => ?_))
   | exact ih0 _ _
   | exact ih1 _ _ _ _ _ _
   | exact LeO.none _
   | refine LeO.ite ?_ ?_
   | refine LeO.bind ?_ (fun _ => ?_)
theorem ridgewayref03_Get.mono : ∀ a0 k, LeO (ridgewayref03_Get.f k a0) (ridgewayref03_Get.f (k + 1) a0) := by
 intro a0 k
 obtain ⟨ih0, ih1⟩ := ridgewayref03_Get.mono_l k
 unfold ridgewayref03_Get.f
 repeat' first
   | (with_reducible exact ih0 _ _)
   | (with_reducible exact ih1 _ _ _ _ _ _)
   | (with_reducible exact LeO.refl _)
   | (with_reducible exact LeO.none _)
   | (with_reducible refine LeO.ite ?_ ?_)
   | (with_reducible refine LeO.bind ?_ (fun _ => ?_))
   | exact ih0 _ _
   | exact ih1 _ _ _ _ _ _
   | exact LeO.none _
   | refine LeO.ite ?_ ?_
   | refine LeO.bind ?_ (fun _ => ?_)
def ridgewayref03_Get.T8 : Bool × List (List Nat × List Nat) := (true, [([], []), ([0], [0]), ([1], [1]), ([2], [2]), ([3], [3]), ([], []), ([5], [5]), ([6], [6]), ([7], [7]), ([4, 8], [4, 8]), ([9, 0, 1, 2, 3, 4, 5, 6, 7, 8, 9], [9])])
def ridgewayref03_Get.B8 : List Nat := [0, 1, 3, 7, 15, 0, 32, 96, 224, 511, 1023]
theorem ridgewayref03_Get.tab8 : rtab .any (opsOf Try.f19 8) = ridgewayref03_Get.T8 := by kernel_rfl
theorem ridgewayref03_Get.bits8 : waitsOk ridgewayref03_Get.T8.2 ridgewayref03_Get.B8 = true := by kernel_rfl
set_option maxHeartbeats 8000000 in
set_option maxRecDepth 100000 in
theorem ridgewayref03_Get.calls (k : Nat) (P0_ : Nat → Prop) (A0 : Option Addr) (c0 : Nat) (l0 : List Int) (r1 : Int) (r2 : List Int) (r3 : Int) (r4 : Int) (r5 : Int) (r6 : List Int) (w : World) (hs0 : Kd.V (Kd.int .u8) 5 w w.heap.size (fun k_ => P0_ k_) (.slice A0 l0.length c0) l0) (h : ridgewayref03_Get.f k l0 = some (r1, r2, r3, r4, r5, r6)) :
  Calls Try.prog 19 #[.slice A0 l0.length c0] w fun e w' => ∃ v1_ v5_ : Value, e = .returned (.tuple #[.agg #[.int .i64 r1, v1_], .int .i64 r3, .agg #[.int .i64 r4, .int .i64 r5, v5_]]) ∧ Kd.V (Kd.int .u8) 5 w' w.heap.size (fun k_ => (P0_ k_ ∨ w.heap.size ≤ k_)) v1_ r2 ∧ Kd.V (Kd.int .u8) 5 w' w.heap.size (fun k_ => (P0_ k_ ∨ w.heap.size ≤ k_)) v5_ r6 ∧ Below w.heap.size w w' := by
 have hu43 := Try.underlying43
 have hu29 := Try.underlying29
 have HO0 := Aside0.mk (show Kd.V (Kd.int .u8) 5 w w.heap.size (fun k_ => (P0_ k_ ∨ w.heap.size ≤ k_)) (.slice A0 l0.length c0) l0 from Kd.V_mono hs0 (fun k_ hk => .inl hk))
 have HB := Aside0.mk (Below.refl w.heap.size w)
 have H : (if (l0.length : Int) < 19 then (some (0, ([] : List Int), 0, 0, 0, ([] : List Int))) else (ridgewayref03_Get.l0 k l0 0)) = some (r1, r2, r3, r4, r5, r6) := h
 clear h
 by_cases c2 : (l0.length : Int) < 19
 ·
  rw [if_pos c2] at H
  have c2b0 : decide ((l0.length : Int) < 19) = true := decide_eq_true c2
  have c2b1 : decide (l0.length < 19) = true := decide_eq_true (by omega)
  clear c2
  simp only [Option.some.injEq, Prod.mk.injEq] at H
  obtain ⟨rfl, rfl, rfl, rfl, rfl, rfl⟩ := H
  go_enter Try.func19, Try.ntmps19
  go_wp2_with (first | ((with_reducible refine gate_dst (N := 2) rfl ?_); refine box_event ?hg (N := 2) ?hd (cs := #[.int .i64 0, .slice none 0 0]) (t := 43) ?hr ?_; (case hd => rfl); (case hg => rfl); (case hr => first | (go_simp; done) | (go_simp; rfl)); intro gb277 hg w3 hbox hb; have n0_ := Aside0.mk (Kd.V_below (Kd.V_elderB (by (with_reducible repeat (first | apply Kd.V_alloc | apply Kd.V_drewN | apply Kd.V_drew)); exact HO0.out) gb277 (Nat.le_of_eq hg.symm)) hb); have n1_ := Aside0.mk (below_step (by repeat (first | (with_reducible first | exact HB.out | apply bA | apply bN | apply bD) | exact HB.out)) hb); have n2_ := Aside0.mk (hbox); have n3_ := Aside0.mk ((by rw [hg]; exact (below_size (by repeat (first | (with_reducible first | exact HB.out | apply bA | apply bN | apply bD) | exact HB.out))) : w.heap.size ≤ gb277)); have n4_ := Aside0.mk ((by rw [hg]; exact (below_size (by repeat (first | (with_reducible first | exact HB.out | apply bA | apply bN | apply bD) | exact HB.out))) : w.heap.size ≤ gb277)); clear HO0; clear HB; have HO0 := n0_; have HB := n1_; have BK277 := n2_; have GW277 := n3_; have GE277 := n4_; clear n0_ n1_ n2_ n3_ n4_; clear hb hbox hg) | ((with_reducible refine gate_dst (N := 4) rfl ?_); refine box_event ?hg (N := 4) ?hd (cs := #[.int .i64 0, .int .i64 0, .slice none 0 0]) (t := 29) ?hr ?_; (case hd => rfl); (case hg => rfl); (case hr => first | (go_simp; done) | (go_simp; rfl)); intro gb278 hg w4 hbox hb; have n0_ := Aside0.mk (Kd.V_below (Kd.V_elderB (by (with_reducible repeat (first | apply Kd.V_alloc | apply Kd.V_drewN | apply Kd.V_drew)); exact HO0.out) gb278 (Nat.le_of_eq hg.symm)) hb); have n1_ := Aside0.mk (blk_below (g := gb277) (o := .cells #[.int .i64 0, .slice none 0 0] 43 (0, 0)) (by (with_reducible repeat (first | refine kN ?_ _ | refine kD ?_ | refine kA ?_ _)); exact BK277.out) hb); have n2_ := Aside0.mk (below_step (by repeat (first | (with_reducible first | exact HB.out | apply bA | apply bN | apply bD | refine bS ?_ GE277.out) | exact HB.out)) hb); have n3_ := Aside0.mk (hbox); have n4_ := Aside0.mk ((by rw [hg]; exact (below_size (by repeat (first | (with_reducible first | exact HB.out | apply bA | apply bN | apply bD | refine bS ?_ GE277.out) | exact HB.out))) : w.heap.size ≤ gb278)); have n5_ := Aside0.mk ((by rw [hg]; exact (below_size (by repeat (first | (with_reducible first | exact HB.out | apply bA | apply bN | apply bD | refine bS ?_ GE277.out) | exact HB.out))) : w.heap.size ≤ gb278)); have n6_ := Aside0.mk ((by rw [hg]; exact Nat.ne_of_lt (blk_lt (g := gb277) (o := .cells #[.int .i64 0, .slice none 0 0] 43 (0, 0)) (by (with_reducible repeat (first | refine kN ?_ _ | refine kD ?_ | refine kA ?_ _)); exact BK277.out)) : gb277 ≠ gb278)); have n7_ := Aside0.mk ((by rw [hg]; exact Nat.ne_of_gt (blk_lt (g := gb277) (o := .cells #[.int .i64 0, .slice none 0 0] 43 (0, 0)) (by (with_reducible repeat (first | refine kN ?_ _ | refine kD ?_ | refine kA ?_ _)); exact BK277.out)) : gb278 ≠ gb277)); clear HO0; clear BK277; clear HB; have HO0 := n0_; have BK277 := n1_; have HB := n2_; have BK278 := n3_; have GW278 := n4_; have GE278 := n5_; have NB277_278 := n6_; have NB278_277 := n7_; clear n0_ n1_ n2_ n3_ n4_ n5_ n6_ n7_; clear hb hbox hg; have hnb5 := NB277_278.out; have hnc5 := NB278_277.out; have hcz6_0 : w4.cell? ⟨gb277, 0, none⟩ = some (.int .i64 0) := (blk_cell BK277.out 0).trans rfl; have hcz6_1 : w4.cell? ⟨gb277, 1, none⟩ = some (.slice none 0 0) := (blk_cell BK277.out 1).trans rfl; have hfz6_0 := blk_frozen BK277.out 0; have hfz6_1 := blk_frozen BK277.out 1; have hcz7_0 : w4.cell? ⟨gb278, 0, none⟩ = some (.int .i64 0) := (blk_cell BK278.out 0).trans rfl; have hcz7_1 : w4.cell? ⟨gb278, 1, none⟩ = some (.int .i64 0) := (blk_cell BK278.out 1).trans rfl; have hcz7_2 : w4.cell? ⟨gb278, 2, none⟩ = some (.slice none 0 0) := (blk_cell BK278.out 2).trans rfl; have hfz7_0 := blk_frozen BK278.out 0; have hfz7_1 := blk_frozen BK278.out 1; have hfz7_2 := blk_frozen BK278.out 2))
  refine bodyPost_ret (results_list (rs := [.cell 2 43, .tmp 3, .cell 4 29]) rfl (by simp) (.cell gb277 43 #[.int .i64 0, .slice none 0 0] (0, 0) _ rfl (by (with_reducible repeat (first | refine kN ?_ _ | refine kD ?_ | refine kA ?_ _)); refine blk_far ?_ NB277_278.out _; (with_reducible repeat (first | refine kN ?_ _ | refine kD ?_ | refine kA ?_ _)); refine blk_far ?_ NB277_278.out _; (with_reducible repeat (first | refine kN ?_ _ | refine kD ?_ | refine kA ?_ _)); refine blk_far ?_ NB277_278.out _; (with_reducible repeat (first | refine kN ?_ _ | refine kD ?_ | refine kA ?_ _)); refine blk_put (cs := #[.int .i64 0, .slice none 0 0]) ?_ 1 _ rfl; (with_reducible repeat (first | refine kN ?_ _ | refine kD ?_ | refine kA ?_ _)); refine blk_put (cs := #[.int .i64 0, .slice none 0 0]) ?_ 0 _ rfl; (with_reducible repeat (first | refine kN ?_ _ | refine kD ?_ | refine kA ?_ _)); exact BK277.out) Try.underlying43 rfl (by kernel_rfl) (.tmp (.cell gb278 29 #[.int .i64 0, .int .i64 0, .slice none 0 0] (0, 0) _ rfl (by (with_reducible repeat (first | refine kN ?_ _ | refine kD ?_ | refine kA ?_ _)); refine blk_put (cs := #[.int .i64 0, .int .i64 0, .slice none 0 0]) ?_ 2 _ rfl; (with_reducible repeat (first | refine kN ?_ _ | refine kD ?_ | refine kA ?_ _)); refine blk_put (cs := #[.int .i64 0, .int .i64 0, .slice none 0 0]) ?_ 1 _ rfl; (with_reducible repeat (first | refine kN ?_ _ | refine kD ?_ | refine kA ?_ _)); refine blk_put (cs := #[.int .i64 0, .int .i64 0, .slice none 0 0]) ?_ 0 _ rfl; (with_reducible repeat (first | refine kN ?_ _ | refine kD ?_ | refine kA ?_ _)); refine blk_far ?_ NB278_277.out _; (with_reducible repeat (first | refine kN ?_ _ | refine kD ?_ | refine kA ?_ _)); refine blk_far ?_ NB278_277.out _; (with_reducible repeat (first | refine kN ?_ _ | refine kD ?_ | refine kA ?_ _)); exact BK278.out) Try.underlying29 rfl (by kernel_rfl) .nil)))) rfl ?_
  exact ⟨_, _, by first | rfl | (simp <;> rfl) | (simp [*] <;> rfl), (by first | exact Kd.V_nil _ _ _ _ _ | (show Kd.V _ _ _ _ _ (.slice none 0 0) []; exact Kd.V_nil _ _ _ _ _)), (by first | exact Kd.V_nil _ _ _ _ _ | (show Kd.V _ _ _ _ _ (.slice none 0 0) []; exact Kd.V_nil _ _ _ _ _)), by repeat (first | (with_reducible first | exact HB.out | apply bA | apply bN | apply bD | refine bS ?_ GE277.out | refine bS ?_ GE278.out) | exact HB.out)⟩
 ·
  rw [if_neg c2] at H
  have c2b0 : decide ((l0.length : Int) < 19) = false := decide_eq_false c2
  have c2b1 : decide (l0.length < 19) = false := decide_eq_false (by omega)
  clear c2
  have H' := Aside0.mk H
  clear H
  go_enter Try.func19, Try.ntmps19
  go_wp2_with (first | ((with_reducible refine gate_dst (N := 2) rfl ?_); refine box_event ?hg (N := 2) ?hd (cs := #[.int .i64 0, .slice none 0 0]) (t := 43) ?hr ?_; (case hd => rfl); (case hg => rfl); (case hr => first | (go_simp; done) | (go_simp; rfl)); intro gb277 hg w8 hbox hb; have n0_ := Aside0.mk (Kd.V_below (Kd.V_elderB (by (with_reducible repeat (first | apply Kd.V_alloc | apply Kd.V_drewN | apply Kd.V_drew)); exact HO0.out) gb277 (Nat.le_of_eq hg.symm)) hb); have n1_ := Aside0.mk (below_step (by repeat (first | (with_reducible first | exact HB.out | apply bA | apply bN | apply bD) | exact HB.out)) hb); have n2_ := Aside0.mk (hbox); have n3_ := Aside0.mk ((by rw [hg]; exact (below_size (by repeat (first | (with_reducible first | exact HB.out | apply bA | apply bN | apply bD) | exact HB.out))) : w.heap.size ≤ gb277)); have n4_ := Aside0.mk ((by rw [hg]; exact (below_size (by repeat (first | (with_reducible first | exact HB.out | apply bA | apply bN | apply bD) | exact HB.out))) : w.heap.size ≤ gb277)); clear HO0; clear HB; have HO0 := n0_; have HB := n1_; have BK277 := n2_; have GW277 := n3_; have GE277 := n4_; clear n0_ n1_ n2_ n3_ n4_; clear hb hbox hg) | ((with_reducible refine gate_dst (N := 4) rfl ?_); refine box_event ?hg (N := 4) ?hd (cs := #[.int .i64 0, .int .i64 0, .slice none 0 0]) (t := 29) ?hr ?_; (case hd => rfl); (case hg => rfl); (case hr => first | (go_simp; done) | (go_simp; rfl)); intro gb278 hg w9 hbox hb; have n0_ := Aside0.mk (Kd.V_below (Kd.V_elderB (by (with_reducible repeat (first | apply Kd.V_alloc | apply Kd.V_drewN | apply Kd.V_drew)); exact HO0.out) gb278 (Nat.le_of_eq hg.symm)) hb); have n1_ := Aside0.mk (blk_below (g := gb277) (o := .cells #[.int .i64 0, .slice none 0 0] 43 (0, 0)) (by (with_reducible repeat (first | refine kN ?_ _ | refine kD ?_ | refine kA ?_ _)); exact BK277.out) hb); have n2_ := Aside0.mk (below_step (by repeat (first | (with_reducible first | exact HB.out | apply bA | apply bN | apply bD | refine bS ?_ GE277.out) | exact HB.out)) hb); have n3_ := Aside0.mk (hbox); have n4_ := Aside0.mk ((by rw [hg]; exact (below_size (by repeat (first | (with_reducible first | exact HB.out | apply bA | apply bN | apply bD | refine bS ?_ GE277.out) | exact HB.out))) : w.heap.size ≤ gb278)); have n5_ := Aside0.mk ((by rw [hg]; exact (below_size (by repeat (first | (with_reducible first | exact HB.out | apply bA | apply bN | apply bD | refine bS ?_ GE277.out) | exact HB.out))) : w.heap.size ≤ gb278)); have n6_ := Aside0.mk ((by rw [hg]; exact Nat.ne_of_lt (blk_lt (g := gb277) (o := .cells #[.int .i64 0, .slice none 0 0] 43 (0, 0)) (by (with_reducible repeat (first | refine kN ?_ _ | refine kD ?_ | refine kA ?_ _)); exact BK277.out)) : gb277 ≠ gb278)); have n7_ := Aside0.mk ((by rw [hg]; exact Nat.ne_of_gt (blk_lt (g := gb277) (o := .cells #[.int .i64 0, .slice none 0 0] 43 (0, 0)) (by (with_reducible repeat (first | refine kN ?_ _ | refine kD ?_ | refine kA ?_ _)); exact BK277.out)) : gb278 ≠ gb277)); clear HO0; clear BK277; clear HB; have HO0 := n0_; have BK277 := n1_; have HB := n2_; have BK278 := n3_; have GW278 := n4_; have GE278 := n5_; have NB277_278 := n6_; have NB278_277 := n7_; clear n0_ n1_ n2_ n3_ n4_ n5_ n6_ n7_; clear hb hbox hg))
  go_loopg [5] k (fun kq v5 w' => ∃ (x5_1 : Int) (x278000_1 : Int) (x279000_1 : Int) (x279001_1 : Int), v5 = .int .i64 x5_1 ∧ Aside0 (ridgewayref03_Get.l0 kq l0 x5_1 = some (r1, r2, r3, r4, r5, r6)) ∧ Aside0 (kq ≤ k) ∧ Aside0 (Kd.V (Kd.int .u8) 5 w' w.heap.size (fun k_ => (P0_ k_ ∨ w.heap.size ≤ k_) ∧ k_ ≠ gb277 ∧ k_ ≠ gb278) (.slice A0 l0.length c0) l0) ∧ Aside0 (w'.heap[gb277]? = some (.cells #[.int .i64 x278000_1, (.slice none 0 0)] 43 (0, 0))) ∧ Aside0 (w'.heap[gb278]? = some (.cells #[.int .i64 x279000_1, .int .i64 x279001_1, (.slice none 0 0)] 29 (0, 0))) ∧ Aside0 (Below w.heap.size w w'))
  case atStart => exact ⟨(0), (0), (0), (0), (by first | rfl | (simp; done) | (simp [*]; done)), H', ⟨Nat.le_refl _⟩, ⟨by (with_reducible repeat (first | apply Kd.V_alloc | apply Kd.V_drewN | apply Kd.V_drew)); exact Kd.V_mono HO0.out (fun _ hk => ⟨hk.1.1, ⟨hk.1.2, hk.2⟩⟩)⟩, ⟨by (with_reducible repeat (first | refine kN ?_ _ | refine kD ?_ | refine kA ?_ _)); exact BK277.out⟩, ⟨by (with_reducible repeat (first | refine kN ?_ _ | refine kD ?_ | refine kA ?_ _)); exact BK278.out⟩, ⟨by repeat (first | (with_reducible first | exact HB.out | apply bA | apply bN | apply bD | refine bS ?_ GE277.out | refine bS ?_ GE278.out) | exact HB.out)⟩⟩
  case round =>
   clear H'
   try clear c1
   try clear c2
   try clear c2b0
   try clear c2b1
   try clear p2
   try clear c5
   try clear hcz6_0
   try clear hcz6_1
   try clear hcz7_0
   try clear hcz7_1
   try clear hcz7_2
   try clear hfz6_0
   try clear hfz6_1
   try clear hfz7_0
   try clear hfz7_1
   try clear hfz7_2
   obtain ⟨x5_1, x278000_1, x279000_1, x279001_1, rfl, HA, HK1, HO_0, BK277, BK278, HB⟩ := hrel
   cases gk with
   | zero => exact absurd HA.out (by simp [ridgewayref03_Get.l0])
   | succ k1 =>
    have H := HA.out
    clear HA
    simp only [ridgewayref03_Get.l0] at H
    by_cases c10 : x5_1 < 16
    ·
     rw [if_pos c10] at H
     have c10b0 : decide (x5_1 < 16) = true := decide_eq_true c10
     clear c10
     by_cases c11 : 0 ≤ x5_1
     ·
      rw [if_pos c11] at H
      have c11b0 : decide (0 ≤ x5_1) = true := decide_eq_true c11
      clear c11
      by_cases c12 : x5_1 < (l0.length : Int)
      ·
       rw [if_pos c12] at H
       have c12b0 : decide (x5_1 < (l0.length : Int)) = true := decide_eq_true c12
       clear c12
       by_cases c13 : (rd l0 x5_1) = 255
       ·
        rw [if_pos c13] at H
        have c13b0 : ((rd l0 x5_1) == 255) = true := beq_iff_eq.mpr c13
        have c13b1 : ((rd l0 x5_1) != 255) = false := bne_eq_false_iff_eq.mpr c13
        clear c13
        have H' := Aside0.mk H
        clear H
        have p279 : 0 ≤ (x5_1 : Int) := of_decide_eq_true (by first | (with_reducible assumption) | assumption)
        have q279 : x5_1 < (l0.length : Int) := of_decide_eq_true (by first | (with_reducible assumption) | assumption)
        obtain ⟨ad279, e279, hx279_0⟩ := Kd.at_int (Kd.V_reads' HO_0.out).2.2 x5_1 p279 q279
        cases e279
        replace p279 := eq_true p279
        replace q279 := eq_true q279
        go_wp2
        go_roundg k1
        case measure => have := HK1.out; omega
        case rel => exact ⟨(wrap64 (x5_1 + 1)), (x278000_1), (x279000_1), (x279001_1), (by first | rfl | (simp; done) | (simp [*]; done)), H', ⟨by have := HK1.out; omega⟩, ⟨by (with_reducible repeat (first | apply Kd.V_alloc | apply Kd.V_drewN | apply Kd.V_drew)); exact HO_0.out⟩, ⟨by (with_reducible repeat (first | refine kN ?_ _ | refine kD ?_ | refine kA ?_ _)); exact BK277.out⟩, ⟨by (with_reducible repeat (first | refine kN ?_ _ | refine kD ?_ | refine kA ?_ _)); exact BK278.out⟩, ⟨by repeat (first | (with_reducible first | exact HB.out | apply bA | apply bN | apply bD | refine bS ?_ GE277.out | refine bS ?_ GE278.out) | exact HB.out)⟩⟩
       ·
        rw [if_neg c13] at H
        have c13b0 : ((rd l0 x5_1) == 255) = false := beq_eq_false_iff_ne.mpr c13
        have c13b1 : ((rd l0 x5_1) != 255) = true := bne_iff_ne.mpr c13
        simp only [Option.some.injEq, Prod.mk.injEq] at H
        obtain ⟨rfl, rfl, rfl, rfl, rfl, rfl⟩ := H
        have p279 : 0 ≤ (x5_1 : Int) := of_decide_eq_true (by first | (with_reducible assumption) | assumption)
        have q279 : x5_1 < (l0.length : Int) := of_decide_eq_true (by first | (with_reducible assumption) | assumption)
        obtain ⟨ad279, e279, hx279_0⟩ := Kd.at_int (Kd.V_reads' HO_0.out).2.2 x5_1 p279 q279
        cases e279
        replace p279 := eq_true p279
        replace q279 := eq_true q279
        have hnb14 := NB277_278.out
        have hnc14 := NB278_277.out
        have hcz15_0 : wr.cell? ⟨gb277, 0, none⟩ = some (.int .i64 x278000_1) := (blk_cell BK277.out 0).trans rfl
        have hcz15_1 : wr.cell? ⟨gb277, 1, none⟩ = some (.slice none 0 0) := (blk_cell BK277.out 1).trans rfl
        have hfz15_0 := blk_frozen BK277.out 0
        have hfz15_1 := blk_frozen BK277.out 1
        have hcz16_0 : wr.cell? ⟨gb278, 0, none⟩ = some (.int .i64 x279000_1) := (blk_cell BK278.out 0).trans rfl
        have hcz16_1 : wr.cell? ⟨gb278, 1, none⟩ = some (.int .i64 x279001_1) := (blk_cell BK278.out 1).trans rfl
        have hcz16_2 : wr.cell? ⟨gb278, 2, none⟩ = some (.slice none 0 0) := (blk_cell BK278.out 2).trans rfl
        have hfz16_0 := blk_frozen BK278.out 0
        have hfz16_1 := blk_frozen BK278.out 1
        have hfz16_2 := blk_frozen BK278.out 2
        go_wp2
        refine bodyPost_ret (results_list (rs := [.cell 2 43, .tmp 3, .cell 4 29]) rfl (by simp) (.cell gb277 43 #[.int .i64 0, .slice none 0 0] (0, 0) _ rfl (by (with_reducible repeat (first | refine kN ?_ _ | refine kD ?_ | refine kA ?_ _)); refine blk_far ?_ NB277_278.out _; (with_reducible repeat (first | refine kN ?_ _ | refine kD ?_ | refine kA ?_ _)); refine blk_far ?_ NB277_278.out _; (with_reducible repeat (first | refine kN ?_ _ | refine kD ?_ | refine kA ?_ _)); refine blk_far ?_ NB277_278.out _; (with_reducible repeat (first | refine kN ?_ _ | refine kD ?_ | refine kA ?_ _)); refine blk_put (cs := #[.int .i64 0, .slice none 0 0]) ?_ 1 _ rfl; (with_reducible repeat (first | refine kN ?_ _ | refine kD ?_ | refine kA ?_ _)); refine blk_put (cs := #[.int .i64 x278000_1, .slice none 0 0]) ?_ 0 _ rfl; (with_reducible repeat (first | refine kN ?_ _ | refine kD ?_ | refine kA ?_ _)); exact BK277.out) Try.underlying43 rfl (by kernel_rfl) (.tmp (.cell gb278 29 #[.int .i64 1, .int .i64 1, .slice none 0 0] (0, 0) _ rfl (by (with_reducible repeat (first | refine kN ?_ _ | refine kD ?_ | refine kA ?_ _)); refine blk_put (cs := #[.int .i64 1, .int .i64 1, .slice none 0 0]) ?_ 2 _ rfl; (with_reducible repeat (first | refine kN ?_ _ | refine kD ?_ | refine kA ?_ _)); refine blk_put (cs := #[.int .i64 1, .int .i64 x279001_1, .slice none 0 0]) ?_ 1 _ rfl; (with_reducible repeat (first | refine kN ?_ _ | refine kD ?_ | refine kA ?_ _)); refine blk_put (cs := #[.int .i64 x279000_1, .int .i64 x279001_1, .slice none 0 0]) ?_ 0 _ rfl; (with_reducible repeat (first | refine kN ?_ _ | refine kD ?_ | refine kA ?_ _)); refine blk_far ?_ NB278_277.out _; (with_reducible repeat (first | refine kN ?_ _ | refine kD ?_ | refine kA ?_ _)); refine blk_far ?_ NB278_277.out _; (with_reducible repeat (first | refine kN ?_ _ | refine kD ?_ | refine kA ?_ _)); exact BK278.out) Try.underlying29 rfl (by kernel_rfl) .nil)))) rfl ?_
        exact ⟨_, _, by first | rfl | (simp <;> rfl) | (simp [*] <;> rfl), (by first | exact Kd.V_nil _ _ _ _ _ | (show Kd.V _ _ _ _ _ (.slice none 0 0) []; exact Kd.V_nil _ _ _ _ _)), (by first | exact Kd.V_nil _ _ _ _ _ | (show Kd.V _ _ _ _ _ (.slice none 0 0) []; exact Kd.V_nil _ _ _ _ _)), by repeat (first | (with_reducible first | exact HB.out | apply bA | apply bN | apply bD | refine bS ?_ GE277.out | refine bS ?_ GE278.out) | exact HB.out)⟩
      ·
       rw [if_neg c12] at H
       exact absurd H (by simp)
     ·
      rw [if_neg c11] at H
      exact absurd H (by simp)
    ·
     rw [if_neg c10] at H
     have c10b0 : decide (x5_1 < 16) = false := decide_eq_false c10
     clear c10
     by_cases c17 : 16 < (l0.length : Int)
     ·
      rw [if_pos c17] at H
      have c17b0 : decide (16 < (l0.length : Int)) = true := decide_eq_true c17
      have c17b1 : decide (16 < l0.length) = true := decide_eq_true (by omega)
      clear c17
      by_cases c18 : 17 < (l0.length : Int)
      ·
       rw [if_pos c18] at H
       have c18b0 : decide (17 < (l0.length : Int)) = true := decide_eq_true c18
       have c18b1 : decide (17 < l0.length) = true := decide_eq_true (by omega)
       clear c18
       by_cases c19 : 16 ≤ 18
       ·
        rw [if_pos c19] at H
        have c19b0 := eq_true c19
        have c19b1 : decide (16 ≤ 18) = true := decide_eq_true c19
        clear c19
        by_cases c20 : 18 ≤ (l0.length : Int)
        ·
         rw [if_pos c20] at H
         have c20b0 := eq_true c20
         have c20b1 : decide (18 ≤ (l0.length : Int)) = true := decide_eq_true c20
         clear c20
         obtain ⟨y282, hy282⟩ : ∃ y_ : List Int, y_ = ((l0.take 18).drop 16) := ⟨_, rfl⟩
         replace H : (if (wrap64 ((wrap64 ((wrap64 (rd l0 16)) * 256)) + (wrap64 (rd l0 17)))) < 19 then (ridgewayref03_Get.j1 k1 l0 (wrap64 ((wrap64 ((wrap64 (rd l0 16)) * 256)) + (wrap64 (rd l0 17)))) true 1 2 y282) else (ridgewayref03_Get.j1 k1 l0 (wrap64 ((wrap64 ((wrap64 (rd l0 16)) * 256)) + (wrap64 (rd l0 17)))) (decide ((wrap64 ((wrap64 ((wrap64 (rd l0 16)) * 256)) + (wrap64 (rd l0 17)))) > 4096)) 1 2 y282)) = some (r1, r2, r3, r4, r5, r6) := by first | (rw [hy282]; with_reducible exact H) | (have H2_ := (Option.bind_some _ _).symm.trans H; rw [hy282]; with_reducible exact H2_) | (have H2_ := (Option.bind_some _ _).symm.trans H; with_reducible exact H2_) | with_reducible exact H | (rw [hy282]; exact H) | exact H
         have Ny282 := Aside0.mk hy282
         clear hy282
         have HC21 := Aside0.mk H
         clear H
         try go_wp2
         have n0_ := Aside0.mk (Kd.V_drew HO_0.out)
         have n1_ := Aside0.mk (blk_drew BK277.out)
         have n2_ := Aside0.mk (blk_drew BK278.out)
         have n3_ := Aside0.mk (below_drew1 HB.out)
         clear HO_0
         clear BK277
         clear BK278
         clear HB
         have HO_0 := n0_
         have BK277 := n1_
         have BK278 := n2_
         have HB := n3_
         clear n0_ n1_ n2_ n3_
         have p280 : 0 ≤ (16 : Int) := (by omega)
         have q280 : 16 < (l0.length : Int) := of_decide_eq_true (by first | (with_reducible assumption) | assumption)
         obtain ⟨ad280, e280, hx280_0⟩ := Kd.at_int (Kd.V_reads' HO_0.out).2.2 16 p280 q280
         cases e280
         (try simp only [show (16 : Int).toNat = 16 from rfl, Nat.reduceMul, Nat.reduceEqDiff, Go.Addr.add, ↓reduceIte] at hx280_0)
         have qi280 : (16 < l0.length) = True := eq_true (by omega)
         (try rw [show ((16 : Int)).toNat = 16 from rfl] at hx280_0)
         replace p280 := eq_true p280
         replace q280 := eq_true q280
         have p281 : 0 ≤ (17 : Int) := (by omega)
         have q281 : 17 < (l0.length : Int) := of_decide_eq_true (by first | (with_reducible assumption) | assumption)
         obtain ⟨ad281, e281, hx281_0⟩ := Kd.at_int (Kd.V_reads' HO_0.out).2.2 17 p281 q281
         obtain rfl : ad280 = ad281 := (by injection e281)
         (try simp only [show (17 : Int).toNat = 17 from rfl, Nat.reduceMul, Nat.reduceEqDiff, Go.Addr.add, ↓reduceIte] at hx281_0)
         have qi281 : (17 < l0.length) = True := eq_true (by omega)
         (try rw [show ((17 : Int)).toNat = 17 from rfl] at hx281_0)
         replace p281 := eq_true p281
         replace q281 := eq_true q281
         refine start_ (n := 11) (S := fun w' => w'.cell? ⟨ad280.block, ad280.off + 16, none⟩ = some (.int .u8 (rd l0 16)) ∧ w'.cell? ⟨ad280.block, ad280.off + 17, none⟩ = some (.int .u8 (rd l0 17))) (ds := []) #[false, false, false, false, false, false, false, false, false, false, false] (by kernel_rfl) rfl rfl ⟨hx280_0, hx281_0⟩ (fun hHeld => ?_); refine with_tabW ridgewayref03_Get.tab8 ridgewayref03_Get.bits8 (fun HT_ HW_ => ?_)
         generalize wr.drew = w22 at HO_0 BK277 BK278 HB hx280_0 hx281_0 hHeld ⊢
         refine pure_ (i := 0) (N := some 25) (v := ?_) (a' := ?_) #[true, false, false, false, false, false, false, false, false, false, false] rfl rfl (any_of HT_.out (by kernel_rfl)) (fun _ _ _ h => h) (Or.inl ⟨by rfl, ?_⟩) ?_ ?_
         rotate_left
         ·
          intro w'
          go_simp
          with_reducible rfl
         rotate_left
         ·
          simp only [Act.put, sA, sB, sC, i64_w, i32_w]
          rfl
         refine pure_ (i := 1) (N := some 26) (v := ?_) (a' := ?_) #[true, true, false, false, false, false, false, false, false, false, false] rfl rfl (any_of HT_.out (by kernel_rfl)) (fun _ _ _ h => h) (Or.inl ⟨by rfl, ?_⟩) ?_ ?_
         rotate_left
         ·
          intro w'
          go_simp
          with_reducible rfl
         rotate_left
         ·
          simp only [Act.put, sA, sB, sC, i64_w, i32_w]
          rfl
         refine pure_ (i := 5) (N := some 30) (v := ?_) (a' := ?_) #[true, true, false, false, false, true, false, false, false, false, false] rfl rfl (any_of HT_.out (by kernel_rfl)) (fun _ _ _ h => h) (Or.inl ⟨by rfl, ?_⟩) ?_ ?_
         rotate_left
         ·
          intro w'
          go_simp
          with_reducible rfl
         rotate_left
         ·
          simp only [Act.put, sA, sB, sC, i64_w, i32_w]
          rfl
         refine pure_ (i := 6) (N := some 31) (v := ?_) (a' := ?_) #[true, true, false, false, false, true, true, false, false, false, false] rfl rfl (any_of HT_.out (by kernel_rfl)) (fun _ _ _ h => h) (Or.inl ⟨by rfl, ?_⟩) ?_ ?_
         rotate_left
         ·
          intro w'
          go_simp
          with_reducible rfl
         rotate_left
         ·
          simp only [Act.put, sA, sB, sC, i64_w, i32_w]
          rfl
         refine take_ (i := 2) (N := some 27) (v := ?_) (a' := ?_) #[true, true, true, false, false, true, true, false, false, false, false] rfl rfl (take_ofW HT_.out HW_.out (by kernel_rfl)) (fun _ _ _ h => h) (Or.inl ⟨by rfl, ?_⟩) hHeld ?_ ?_
         rotate_left
         ·
          rintro w' ⟨s0, s1⟩
          go_simp
          with_reducible rfl
         rotate_left
         ·
          simp only [Act.put, sA, sB, sC, i64_w, i32_w]
          rfl
         refine pure_ (i := 3) (N := some 28) (v := ?_) (a' := ?_) #[true, true, true, true, false, true, true, false, false, false, false] rfl rfl (any_of HT_.out (by kernel_rfl)) (fun _ _ _ h => h) (Or.inl ⟨by rfl, ?_⟩) ?_ ?_
         rotate_left
         ·
          intro w'
          go_simp
          with_reducible rfl
         rotate_left
         ·
          simp only [Act.put, sA, sB, sC, i64_w, i32_w]
          rfl
         refine pure_ (i := 4) (N := some 29) (v := ?_) (a' := ?_) #[true, true, true, true, true, true, true, false, false, false, false] rfl rfl (any_of HT_.out (by kernel_rfl)) (fun _ _ _ h => h) (Or.inl ⟨by rfl, ?_⟩) ?_ ?_
         rotate_left
         ·
          intro w'
          go_simp
          with_reducible rfl
         rotate_left
         ·
          simp only [Act.put, sA, sB, sC, i64_w, i32_w]
          rfl
         refine take_ (i := 7) (N := some 32) (v := ?_) (a' := ?_) #[true, true, true, true, true, true, true, true, false, false, false] rfl rfl (take_ofW HT_.out HW_.out (by kernel_rfl)) (fun _ _ _ h => h) (Or.inl ⟨by rfl, ?_⟩) hHeld ?_ ?_
         rotate_left
         ·
          rintro w' ⟨s0, s1⟩
          go_simp
          with_reducible rfl
         rotate_left
         ·
          simp only [Act.put, sA, sB, sC, i64_w, i32_w]
          rfl
         refine pure_ (i := 8) (N := some 33) (v := ?_) (a' := ?_) #[true, true, true, true, true, true, true, true, true, false, false] rfl rfl (any_of HT_.out (by kernel_rfl)) (fun _ _ _ h => h) (Or.inl ⟨by rfl, ?_⟩) ?_ ?_
         rotate_left
         ·
          intro w'
          go_simp
          with_reducible rfl
         rotate_left
         ·
          simp only [Act.put, sA, sB, sC, i64_w, i32_w]
          rfl
         refine pure_ (i := 9) (N := some 34) (v := ?_) (a' := ?_) #[true, true, true, true, true, true, true, true, true, true, false] rfl rfl (any_of HT_.out (by kernel_rfl)) (fun _ _ _ h => h) (Or.inl ⟨by rfl, ?_⟩) ?_ ?_
         rotate_left
         ·
          intro w'
          go_simp
          with_reducible rfl
         rotate_left
         ·
          simp only [Act.put, sA, sB, sC, i64_w, i32_w]
          rfl
         refine pure_ (i := 10) (N := some 6) (v := ?_) (a' := ?_) #[true, true, true, true, true, true, true, true, true, true, true] rfl rfl (any_of HT_.out (by kernel_rfl)) (fun _ _ _ h => h) (Or.inl ⟨by rfl, ?_⟩) ?_ ?_
         rotate_left
         ·
          intro w'
          go_simp
          with_reducible rfl
         rotate_left
         ·
          simp only [Act.put, sA, sB, sC, i64_w, i32_w]
          rfl
         refine done_ (done_of HT_.out (by kernel_rfl)) ?_
         have q23 : (18 : Int) ≤ ((l0.length : Int) : Int) := of_decide_eq_true (by first | (with_reducible assumption) | assumption)
         obtain ⟨i023, hi023, _, hsz23, _⟩ := info_parts info5
         have hroom23 : l0.length ≤ c0 := (Kd.V_reads' HO_0.out).2.1
         have hC23 : Kd.F (Kd.int .u8) _ _ (some ad280) l0.length l0 := (Kd.V_at (base := w.heap.size) HO_0.out).2.2
         have ql23 : (16 : Int) ≤ (18 : Int) := (by omega)
         have hcut23 := cut_mid (P := Try.prog) 22 5 .i64 .i64 Try.underlying22 hi023 1 hsz23 (some ad280) l0.length c0 16 18 (by omega) ql23 q23 hroom23
         have hr23 := Kd.F_mid (lo := (16 : Int).toNat) (hi := (18 : Int).toNat) (c := c0) hC23 (by omega) (by omega) hroom23
         obtain ⟨A23, hA23⟩ : ∃ A1, A1 = (if c0 = (16 : Int).toNat then (some ad280) else ((some ad280) : Option Addr).map (·.add ((16 : Int).toNat * 1))) := ⟨_, rfl⟩
         obtain ⟨c23, hc23⟩ : ∃ c1, c1 = c0 - (16 : Int).toNat := ⟨_, rfl⟩
         have hy23 : y282.length = (18 : Int).toNat - (16 : Int).toNat := (by rw [Ny282.out, List.length_drop, List.length_take] <;> omega)
         rw [show ((l0).take (18 : Int).toNat).drop (16 : Int).toNat = y282 from Ny282.out.symm] at hr23
         replace hr23 : Kd.F (Kd.int .u8) _ _ A23 y282.length y282 := (by rw [hA23]; exact hr23)
         rw [← hy23, ← hA23, ← hc23] at hcut23
         have HO286 := Aside0.mk (show Kd.V (Kd.int .u8) 5 _ w.heap.size _ (.slice A23 y282.length c23) y282 from Kd.V_mk (by rw [hy23, hc23]; exact Nat.sub_le_sub_right (Nat.le_trans (by omega) hroom23) _) hr23)
         have HC286 := Aside0.mk (show y282.length ≤ c23 from by rw [hy23, hc23]; exact Nat.sub_le_sub_right (Nat.le_trans (by omega) hroom23) _)
         clear hr23 hC23 hroom23 hi023 hsz23 hc23
         have KY23 := Aside0.mk hy23
         have KA23 := Aside0.mk hA23
         clear hy23 hA23
         replace q23 := eq_true q23
         go_upto_region 10 with (first | ((with_reducible refine gate_dst (N := 7) rfl ?_); refine box_event ?hg (N := 7) ?hd (cs := #[.int .i64 0, .int .i64 0, .slice none 0 0]) (t := 29) ?hr ?_; (case hd => rfl); (case hg => rfl); (case hr => first | (go_simp; done) | (go_simp; rfl)); intro gb287 hg w24 hbox hb; have n0_ := Aside0.mk (Kd.V_below (Kd.V_elderB (by (with_reducible repeat (first | apply Kd.V_alloc | apply Kd.V_drewN | apply Kd.V_drew)); exact HO_0.out) gb287 (Nat.le_of_eq hg.symm)) hb); have n1_ := Aside0.mk (Kd.V_below (Kd.V_elderB (by (with_reducible repeat (first | apply Kd.V_alloc | apply Kd.V_drewN | apply Kd.V_drew)); exact HO286.out) gb287 (Nat.le_of_eq hg.symm)) hb); have n2_ := Aside0.mk (blk_below (g := gb277) (o := .cells #[.int .i64 x278000_1, .slice none 0 0] 43 (0, 0)) (by (with_reducible repeat (first | refine kN ?_ _ | refine kD ?_ | refine kA ?_ _)); exact BK277.out) hb); have n3_ := Aside0.mk (blk_below (g := gb278) (o := .cells #[.int .i64 x279000_1, .int .i64 x279001_1, .slice none 0 0] 29 (0, 0)) (by (with_reducible repeat (first | refine kN ?_ _ | refine kD ?_ | refine kA ?_ _)); exact BK278.out) hb); have n4_ := Aside0.mk (below_step (by repeat (first | (with_reducible first | exact HB.out | apply bA | apply bN | apply bD | refine bS ?_ GE277.out | refine bS ?_ GE278.out) | exact HB.out)) hb); have n5_ := Aside0.mk (hbox); have n6_ := Aside0.mk ((by rw [hg]; exact (below_size (by repeat (first | (with_reducible first | exact HB.out | apply bA | apply bN | apply bD | refine bS ?_ GE277.out | refine bS ?_ GE278.out) | exact HB.out))) : w.heap.size ≤ gb287)); have n7_ := Aside0.mk ((by rw [hg]; exact (below_size (by repeat (first | (with_reducible first | exact HB.out | apply bA | apply bN | apply bD | refine bS ?_ GE277.out | refine bS ?_ GE278.out) | exact HB.out))) : w.heap.size ≤ gb287)); have n8_ := Aside0.mk ((by rw [hg]; exact Nat.ne_of_lt (blk_lt (g := gb277) (o := .cells #[.int .i64 x278000_1, .slice none 0 0] 43 (0, 0)) (by (with_reducible repeat (first | refine kN ?_ _ | refine kD ?_ | refine kA ?_ _)); exact BK277.out)) : gb277 ≠ gb287)); have n9_ := Aside0.mk ((by rw [hg]; exact Nat.ne_of_gt (blk_lt (g := gb277) (o := .cells #[.int .i64 x278000_1, .slice none 0 0] 43 (0, 0)) (by (with_reducible repeat (first | refine kN ?_ _ | refine kD ?_ | refine kA ?_ _)); exact BK277.out)) : gb287 ≠ gb277)); have n10_ := Aside0.mk ((by rw [hg]; exact Nat.ne_of_lt (blk_lt (g := gb278) (o := .cells #[.int .i64 x279000_1, .int .i64 x279001_1, .slice none 0 0] 29 (0, 0)) (by (with_reducible repeat (first | refine kN ?_ _ | refine kD ?_ | refine kA ?_ _)); exact BK278.out)) : gb278 ≠ gb287)); have n11_ := Aside0.mk ((by rw [hg]; exact Nat.ne_of_gt (blk_lt (g := gb278) (o := .cells #[.int .i64 x279000_1, .int .i64 x279001_1, .slice none 0 0] 29 (0, 0)) (by (with_reducible repeat (first | refine kN ?_ _ | refine kD ?_ | refine kA ?_ _)); exact BK278.out)) : gb287 ≠ gb278)); clear HO_0; clear HO286; clear BK277; clear BK278; clear HB; have HO_0 := n0_; have HO286 := n1_; have BK277 := n2_; have BK278 := n3_; have HB := n4_; have BK287 := n5_; have GW287 := n6_; have GE287 := n7_; have NB277_287 := n8_; have NB287_277 := n9_; have NB278_287 := n10_; have NB287_278 := n11_; clear n0_ n1_ n2_ n3_ n4_ n5_ n6_ n7_ n8_ n9_ n10_ n11_; clear hb hbox hg; have hnb25 := NB287_277.out; have hnc25 := NB277_287.out; have hnb26 := NB287_278.out; have hnc26 := NB278_287.out; have hcz27_0 : w24.cell? ⟨gb287, 0, none⟩ = some (.int .i64 0) := (blk_cell BK287.out 0).trans rfl; have hcz27_1 : w24.cell? ⟨gb287, 1, none⟩ = some (.int .i64 0) := (blk_cell BK287.out 1).trans rfl; have hcz27_2 : w24.cell? ⟨gb287, 2, none⟩ = some (.slice none 0 0) := (blk_cell BK287.out 2).trans rfl; have hfz27_0 := blk_frozen BK287.out 0; have hfz27_1 := blk_frozen BK287.out 1; have hfz27_2 := blk_frozen BK287.out 2))
         (try simp only [Act.put, sA, sB, sC])
         go_cut [43] (fun v43 wc => ∃ (kq : Nat) (x43_20 : Bool), v43 = .bool x43_20 ∧ Aside0 (ridgewayref03_Get.j1 kq l0 (wrap64 ((wrap64 ((wrap64 (rd l0 16)) * 256)) + (wrap64 (rd l0 17)))) x43_20 1 2 y282 = some (r1, r2, r3, r4, r5, r6)) ∧ Aside0 (kq ≤ k1) ∧ Aside0 (Kd.V (Kd.int .u8) 5 wc w.heap.size (fun k_ => (P0_ k_ ∨ w.heap.size ≤ k_) ∧ k_ ≠ gb277 ∧ k_ ≠ gb278 ∧ k_ ≠ gb287) (.slice (some ad280) l0.length c0) l0) ∧ Aside0 (Kd.V (Kd.int .u8) 5 wc w.heap.size (fun k_ => (P0_ k_ ∨ w.heap.size ≤ k_) ∧ k_ ≠ gb277 ∧ k_ ≠ gb278 ∧ k_ ≠ gb287) (.slice A23 y282.length c23) y282) ∧ Aside0 (wc.heap[gb277]? = some (.cells #[.int .i64 x278000_1, (.slice none 0 0)] 43 (0, 0))) ∧ Aside0 (wc.heap[gb278]? = some (.cells #[.int .i64 x279000_1, .int .i64 x279001_1, (.slice none 0 0)] 29 (0, 0))) ∧ Aside0 (wc.heap[gb287]? = some (.cells #[.int .i64 1, .int .i64 2, (.slice A23 y282.length c23)] 29 (0, 0))) ∧ Aside0 (Below w.heap.size w wc))
         case first =>
          have H := HC21.out
          clear HC21
          by_cases c28 : (wrap64 ((wrap64 ((wrap64 (rd l0 16)) * 256)) + (wrap64 (rd l0 17)))) < 19
          ·
           rw [if_pos c28] at H
           have c28b0 : decide ((wrap64 ((wrap64 ((wrap64 (rd l0 16)) * 256)) + (wrap64 (rd l0 17)))) < 19) = true := decide_eq_true c28
           clear c28
           (first | rw [c28b0] | (simp only [i64_w, i32_w]; rw [c28b0]) | skip)
           have H' := Aside0.mk H
           clear H
           go_wp2
           go_meet
           case rel => exact ⟨_, (true), (by first | rfl | (simp; done) | (simp [*]; done)), H', ⟨by have := HK1.out; first | omega | exact Nat.le_refl _⟩, ⟨by (with_reducible repeat (first | apply Kd.V_alloc | apply Kd.V_drewN | apply Kd.V_drew)); exact Kd.V_mono (Kd.V_far (p := ⟨gb287, 2, none⟩) (Kd.V_far (p := ⟨gb287, 1, none⟩) (Kd.V_far (p := ⟨gb287, 0, none⟩) (Kd.V_mono HO_0.out (fun k_ hk => (⟨hk, hk.2⟩ : _ ∧ k_ ≠ gb287))) (fun _ hk => hk.2) (.int .i64 1)) (fun _ hk => hk.2) (.int .i64 2)) (fun _ hk => hk.2) (.slice A23 y282.length c23)) (fun _ hk => ⟨hk.1.1.1, ⟨hk.1.1.2.1, ⟨hk.1.1.2.2, hk.1.2⟩⟩⟩)⟩, ⟨by (with_reducible repeat (first | apply Kd.V_alloc | apply Kd.V_drewN | apply Kd.V_drew)); exact Kd.V_mono (Kd.V_far (p := ⟨gb287, 2, none⟩) (Kd.V_far (p := ⟨gb287, 1, none⟩) (Kd.V_far (p := ⟨gb287, 0, none⟩) (Kd.V_mono HO286.out (fun k_ hk => (⟨hk, hk.2⟩ : _ ∧ k_ ≠ gb287))) (fun _ hk => hk.2) (.int .i64 1)) (fun _ hk => hk.2) (.int .i64 2)) (fun _ hk => hk.2) (.slice A23 y282.length c23)) (fun _ hk => ⟨hk.1.1.1, ⟨hk.1.1.2.1, ⟨hk.1.1.2.2, hk.1.2⟩⟩⟩)⟩, ⟨by (with_reducible repeat (first | refine kN ?_ _ | refine kD ?_ | refine kA ?_ _)); refine blk_far ?_ NB277_287.out _; (with_reducible repeat (first | refine kN ?_ _ | refine kD ?_ | refine kA ?_ _)); refine blk_far ?_ NB277_287.out _; (with_reducible repeat (first | refine kN ?_ _ | refine kD ?_ | refine kA ?_ _)); refine blk_far ?_ NB277_287.out _; (with_reducible repeat (first | refine kN ?_ _ | refine kD ?_ | refine kA ?_ _)); exact BK277.out⟩, ⟨by (with_reducible repeat (first | refine kN ?_ _ | refine kD ?_ | refine kA ?_ _)); refine blk_far ?_ NB278_287.out _; (with_reducible repeat (first | refine kN ?_ _ | refine kD ?_ | refine kA ?_ _)); refine blk_far ?_ NB278_287.out _; (with_reducible repeat (first | refine kN ?_ _ | refine kD ?_ | refine kA ?_ _)); refine blk_far ?_ NB278_287.out _; (with_reducible repeat (first | refine kN ?_ _ | refine kD ?_ | refine kA ?_ _)); exact BK278.out⟩, ⟨by (with_reducible repeat (first | refine kN ?_ _ | refine kD ?_ | refine kA ?_ _)); refine blk_put (cs := #[.int .i64 1, .int .i64 2, .slice none 0 0]) ?_ 2 _ rfl; (with_reducible repeat (first | refine kN ?_ _ | refine kD ?_ | refine kA ?_ _)); refine blk_put (cs := #[.int .i64 1, .int .i64 0, .slice none 0 0]) ?_ 1 _ rfl; (with_reducible repeat (first | refine kN ?_ _ | refine kD ?_ | refine kA ?_ _)); refine blk_put (cs := #[.int .i64 0, .int .i64 0, .slice none 0 0]) ?_ 0 _ rfl; (with_reducible repeat (first | refine kN ?_ _ | refine kD ?_ | refine kA ?_ _)); exact BK287.out⟩, ⟨by repeat (first | (with_reducible first | exact HB.out | apply bA | apply bN | apply bD | refine bS ?_ GE277.out | refine bS ?_ GE278.out | refine bS ?_ GE287.out) | exact HB.out)⟩⟩
          ·
           rw [if_neg c28] at H
           have c28b0 : decide ((wrap64 ((wrap64 ((wrap64 (rd l0 16)) * 256)) + (wrap64 (rd l0 17)))) < 19) = false := decide_eq_false c28
           clear c28
           (first | rw [c28b0] | (simp only [i64_w, i32_w]; rw [c28b0]) | skip)
           have H' := Aside0.mk H
           clear H
           go_wp2
           go_meet
           case rel => exact ⟨_, (decide ((wrap64 ((wrap64 ((wrap64 (rd l0 16)) * 256)) + (wrap64 (rd l0 17)))) > 4096)), (by first | rfl | (simp; done) | (simp [*]; done)), H', ⟨by have := HK1.out; first | omega | exact Nat.le_refl _⟩, ⟨by (with_reducible repeat (first | apply Kd.V_alloc | apply Kd.V_drewN | apply Kd.V_drew)); exact Kd.V_mono (Kd.V_far (p := ⟨gb287, 2, none⟩) (Kd.V_far (p := ⟨gb287, 1, none⟩) (Kd.V_far (p := ⟨gb287, 0, none⟩) (Kd.V_mono HO_0.out (fun k_ hk => (⟨hk, hk.2⟩ : _ ∧ k_ ≠ gb287))) (fun _ hk => hk.2) (.int .i64 1)) (fun _ hk => hk.2) (.int .i64 2)) (fun _ hk => hk.2) (.slice A23 y282.length c23)) (fun _ hk => ⟨hk.1.1.1, ⟨hk.1.1.2.1, ⟨hk.1.1.2.2, hk.1.2⟩⟩⟩)⟩, ⟨by (with_reducible repeat (first | apply Kd.V_alloc | apply Kd.V_drewN | apply Kd.V_drew)); exact Kd.V_mono (Kd.V_far (p := ⟨gb287, 2, none⟩) (Kd.V_far (p := ⟨gb287, 1, none⟩) (Kd.V_far (p := ⟨gb287, 0, none⟩) (Kd.V_mono HO286.out (fun k_ hk => (⟨hk, hk.2⟩ : _ ∧ k_ ≠ gb287))) (fun _ hk => hk.2) (.int .i64 1)) (fun _ hk => hk.2) (.int .i64 2)) (fun _ hk => hk.2) (.slice A23 y282.length c23)) (fun _ hk => ⟨hk.1.1.1, ⟨hk.1.1.2.1, ⟨hk.1.1.2.2, hk.1.2⟩⟩⟩)⟩, ⟨by (with_reducible repeat (first | refine kN ?_ _ | refine kD ?_ | refine kA ?_ _)); refine blk_far ?_ NB277_287.out _; (with_reducible repeat (first | refine kN ?_ _ | refine kD ?_ | refine kA ?_ _)); refine blk_far ?_ NB277_287.out _; (with_reducible repeat (first | refine kN ?_ _ | refine kD ?_ | refine kA ?_ _)); refine blk_far ?_ NB277_287.out _; (with_reducible repeat (first | refine kN ?_ _ | refine kD ?_ | refine kA ?_ _)); exact BK277.out⟩, ⟨by (with_reducible repeat (first | refine kN ?_ _ | refine kD ?_ | refine kA ?_ _)); refine blk_far ?_ NB278_287.out _; (with_reducible repeat (first | refine kN ?_ _ | refine kD ?_ | refine kA ?_ _)); refine blk_far ?_ NB278_287.out _; (with_reducible repeat (first | refine kN ?_ _ | refine kD ?_ | refine kA ?_ _)); refine blk_far ?_ NB278_287.out _; (with_reducible repeat (first | refine kN ?_ _ | refine kD ?_ | refine kA ?_ _)); exact BK278.out⟩, ⟨by (with_reducible repeat (first | refine kN ?_ _ | refine kD ?_ | refine kA ?_ _)); refine blk_put (cs := #[.int .i64 1, .int .i64 2, .slice none 0 0]) ?_ 2 _ rfl; (with_reducible repeat (first | refine kN ?_ _ | refine kD ?_ | refine kA ?_ _)); refine blk_put (cs := #[.int .i64 1, .int .i64 0, .slice none 0 0]) ?_ 1 _ rfl; (with_reducible repeat (first | refine kN ?_ _ | refine kD ?_ | refine kA ?_ _)); refine blk_put (cs := #[.int .i64 0, .int .i64 0, .slice none 0 0]) ?_ 0 _ rfl; (with_reducible repeat (first | refine kN ?_ _ | refine kD ?_ | refine kA ?_ _)); exact BK287.out⟩, ⟨by repeat (first | (with_reducible first | exact HB.out | apply bA | apply bN | apply bD | refine bS ?_ GE277.out | refine bS ?_ GE278.out | refine bS ?_ GE287.out) | exact HB.out)⟩⟩
         case rest =>
          clear HC21
          try clear c1
          try clear c2
          try clear c2b0
          try clear c2b1
          try clear p2
          try clear q2
          try clear hx2
          try clear qi2
          try clear c5
          try clear p6
          try clear c10
          try clear c10b0
          try clear c11
          try clear c11b0
          try clear c12
          try clear c12b0
          try clear c13
          try clear c13b0
          try clear c13b1
          try clear c14
          try clear c17
          try clear c17b0
          try clear c17b1
          try clear c18
          try clear c18b0
          try clear c18b1
          try clear c19
          try clear c19b0
          try clear c19b1
          try clear c20
          try clear c20b0
          try clear c20b1
          try clear c23
          try clear q23
          try clear c25
          try clear c26
          try clear p27
          try clear q27
          try clear hx27
          try clear c28
          try clear c28b0
          try clear p28
          try clear q28
          try clear hx28
          try clear qi28
          try clear hcz15_0
          try clear hcz15_1
          try clear hcz16_0
          try clear hcz16_1
          try clear hcz16_2
          try clear hcz27_0
          try clear hcz27_1
          try clear hcz27_2
          try clear hcz6_0
          try clear hcz6_1
          try clear hcz7_0
          try clear hcz7_1
          try clear hcz7_2
          try clear hfz15_0
          try clear hfz15_1
          try clear hfz16_0
          try clear hfz16_1
          try clear hfz16_2
          try clear hfz27_0
          try clear hfz27_1
          try clear hfz27_2
          try clear hfz6_0
          try clear hfz6_1
          try clear hfz7_0
          try clear hfz7_1
          try clear hfz7_2
          try clear hx279_0
          try clear hx280_0
          try clear hx281_0
          try clear p2
          try clear p279
          try clear p280
          try clear p281
          try clear q23
          try clear q279
          try clear q280
          try clear q281
          obtain ⟨kq, x43_20, rfl, HA, HJ20, HO_0, HO_288002, BK277, BK278, BK287, HB⟩ := hcut
          cases kq with
          | zero => exact absurd HA.out (by simp [ridgewayref03_Get.j1])
          | succ kj20 =>
           have H := HA.out
           clear HA
           simp only [ridgewayref03_Get.j1] at H
           by_cases c29 : x43_20 = true
           ·
            subst c29
            have H1 : (some (0, ([] : List Int), 0, 1, 2, y282)) = some (r1, r2, r3, r4, r5, r6) := by rw [if_pos rfl] at H; first | done | exact H
            clear H
            have H := H1
            clear H1
            simp only [Option.some.injEq, Prod.mk.injEq] at H
            obtain ⟨rfl, rfl, rfl, rfl, rfl, rfl⟩ := H
            try go_wp2
            have n0_ := Aside0.mk (Kd.V_drew HO_0.out)
            have n1_ := Aside0.mk (Kd.V_drew HO_288002.out)
            have n2_ := Aside0.mk (blk_drew BK277.out)
            have n3_ := Aside0.mk (blk_drew BK278.out)
            have n4_ := Aside0.mk (blk_drew BK287.out)
            have n5_ := Aside0.mk (below_drew1 HB.out)
            clear HO_0
            clear HO_288002
            clear BK277
            clear BK278
            clear BK287
            clear HB
            have HO_0 := n0_
            have HO_288002 := n1_
            have BK277 := n2_
            have BK278 := n3_
            have BK287 := n4_
            have HB := n5_
            clear n0_ n1_ n2_ n3_ n4_ n5_
            refine start_ (n := 5) (S := fun w' => w'.cell? ⟨gb287, 0, none⟩ = some (.int .i64 1) ∧ w'.cell? ⟨gb287, 1, none⟩ = some (.int .i64 2) ∧ w'.cell? ⟨gb287, 2, none⟩ = some (.slice A23 y282.length c23)) (ds := []) #[false, false, false, false, false] (by kernel_rfl) rfl rfl ⟨(blk_cell BK287.out 0).trans rfl, (blk_cell BK287.out 1).trans rfl, (blk_cell BK287.out 2).trans rfl⟩ (fun hHeld => ?_)
            generalize wc.drew = w30 at HO_0 HO_288002 BK277 BK278 BK287 HB hHeld ⊢
            refine pure_ (i := 0) (N := some 44) (v := ?_) (a' := ?_) #[true, false, false, false, false] rfl rfl (by kernel_rfl) (fun _ _ _ h => h) (Or.inl ⟨by rfl, ?_⟩) ?_ ?_
            rotate_left
            ·
             intro w'
             go_simp
             with_reducible rfl
            rotate_left
            ·
             simp only [Act.put, sA, sB, sC, i64_w, i32_w]
             rfl
            refine take_ (i := 1) (N := some 45) (v := ?_) (a' := ?_) #[true, true, false, false, false] rfl rfl (by kernel_rfl) (fun _ _ _ h => h) (Or.inl ⟨by rfl, ?_⟩) hHeld ?_ ?_
            rotate_left
            ·
             rintro w' ⟨s0, s1, s2⟩
             go_simp
             with_reducible rfl
            rotate_left
            ·
             simp only [Act.put, sA, sB, sC, i64_w, i32_w]
             rfl
            refine one_ (i := 2) (N := none) #[true, true, true, false, false] rfl rfl (by kernel_rfl) (by decide) (fun K hK => ?_)
            have hs31 : w30.cell? ⟨gb277, 0, none⟩ = some (.int .i64 x278000_1) := (blk_cell BK277.out 0).trans rfl
            have hfs31 := blk_frozen BK277.out 0
            have hns31_1 := NB278_277.out
            have hns31_2 := NB287_277.out
            have hms31_1 := NB277_278.out
            have hms31_2 := NB277_287.out
            have hs32 : w30.cell? ⟨gb277, 1, none⟩ = some (.slice none 0 0) := (blk_cell BK277.out 1).trans rfl
            have hfs32 := blk_frozen BK277.out 1
            have hns32_1 := NB278_277.out
            have hns32_2 := NB287_277.out
            have hms32_1 := NB277_278.out
            have hms32_2 := NB277_287.out
            refine skip_ (w1 := ?_) (by rfl) rfl ?_ ?_
            rotate_left
            ·
             go_simp
             rfl
            refine hK.out _ _ ⟨((cell_far (p := ⟨gb277, _, none⟩) NB287_277.out _).trans (((cell_far (p := ⟨gb277, _, none⟩) NB287_277.out _).trans (hHeld.1)))), ((cell_far (p := ⟨gb277, _, none⟩) NB287_277.out _).trans (((cell_far (p := ⟨gb277, _, none⟩) NB287_277.out _).trans (hHeld.2.1)))), ((cell_far (p := ⟨gb277, _, none⟩) NB287_277.out _).trans (((cell_far (p := ⟨gb277, _, none⟩) NB287_277.out _).trans (hHeld.2.2))))⟩ (fun hHeld => ?_)
            clear hK K
            refine pure_ (i := 3) (N := some 3) (v := ?_) (a' := ?_) #[true, true, true, true, false] rfl rfl (by kernel_rfl) (fun _ _ _ h => h) (Or.inl ⟨by rfl, ?_⟩) ?_ ?_
            rotate_left
            ·
             intro w'
             go_simp
             with_reducible rfl
            rotate_left
            ·
             simp only [Act.put, sA, sB, sC, i64_w, i32_w]
             rfl
            refine one_ (i := 4) (N := none) #[true, true, true, true, true] rfl rfl (by kernel_rfl) (by decide) (fun K hK => ?_)
            have hs33 : w30.cell? ⟨gb278, 0, none⟩ = some (.int .i64 x279000_1) := (blk_cell BK278.out 0).trans rfl
            have hfs33 := blk_frozen BK278.out 0
            have hns33_0 := NB277_278.out
            have hns33_2 := NB287_278.out
            have hms33_0 := NB278_277.out
            have hms33_2 := NB278_287.out
            have hs34 : w30.cell? ⟨gb278, 1, none⟩ = some (.int .i64 x279001_1) := (blk_cell BK278.out 1).trans rfl
            have hfs34 := blk_frozen BK278.out 1
            have hns34_0 := NB277_278.out
            have hns34_2 := NB287_278.out
            have hms34_0 := NB278_277.out
            have hms34_2 := NB278_287.out
            have hs35 : w30.cell? ⟨gb278, 2, none⟩ = some (.slice none 0 0) := (blk_cell BK278.out 2).trans rfl
            have hfs35 := blk_frozen BK278.out 2
            have hns35_0 := NB277_278.out
            have hns35_2 := NB287_278.out
            have hms35_0 := NB278_277.out
            have hms35_2 := NB278_287.out
            refine skip_ (w1 := ?_) (by rfl) rfl ?_ ?_
            rotate_left
            ·
             go_simp
             rfl
            refine hK.out _ _ ⟨((cell_far (p := ⟨gb278, _, none⟩) NB287_278.out _).trans (((cell_far (p := ⟨gb278, _, none⟩) NB287_278.out _).trans (((cell_far (p := ⟨gb278, _, none⟩) NB287_278.out _).trans (hHeld.1)))))), ((cell_far (p := ⟨gb278, _, none⟩) NB287_278.out _).trans (((cell_far (p := ⟨gb278, _, none⟩) NB287_278.out _).trans (((cell_far (p := ⟨gb278, _, none⟩) NB287_278.out _).trans (hHeld.2.1)))))), ((cell_far (p := ⟨gb278, _, none⟩) NB287_278.out _).trans (((cell_far (p := ⟨gb278, _, none⟩) NB287_278.out _).trans (((cell_far (p := ⟨gb278, _, none⟩) NB287_278.out _).trans (hHeld.2.2))))))⟩ (fun hHeld => ?_)
            clear hK K
            refine done_ (by kernel_rfl) ?_
            try go_wp2
            refine bodyPost_ret (results_list (rs := [.cell 2 43, .tmp 3, .cell 4 29]) rfl (by simp) (.cell gb277 43 #[.int .i64 0, .slice none 0 0] (0, 0) _ rfl (by (with_reducible repeat (first | refine kN ?_ _ | refine kD ?_ | refine kA ?_ _)); refine blk_far ?_ NB277_278.out _; (with_reducible repeat (first | refine kN ?_ _ | refine kD ?_ | refine kA ?_ _)); refine blk_far ?_ NB277_278.out _; (with_reducible repeat (first | refine kN ?_ _ | refine kD ?_ | refine kA ?_ _)); refine blk_far ?_ NB277_278.out _; (with_reducible repeat (first | refine kN ?_ _ | refine kD ?_ | refine kA ?_ _)); refine blk_put (cs := #[.int .i64 0, .slice none 0 0]) ?_ 1 _ rfl; (with_reducible repeat (first | refine kN ?_ _ | refine kD ?_ | refine kA ?_ _)); refine blk_put (cs := #[.int .i64 x278000_1, .slice none 0 0]) ?_ 0 _ rfl; (with_reducible repeat (first | refine kN ?_ _ | refine kD ?_ | refine kA ?_ _)); exact BK277.out) Try.underlying43 rfl (by kernel_rfl) (.tmp (.cell gb278 29 #[.int .i64 1, .int .i64 2, .slice A23 y282.length c23] (0, 0) _ rfl (by (with_reducible repeat (first | refine kN ?_ _ | refine kD ?_ | refine kA ?_ _)); refine blk_put (cs := #[.int .i64 1, .int .i64 2, .slice none 0 0]) ?_ 2 _ rfl; (with_reducible repeat (first | refine kN ?_ _ | refine kD ?_ | refine kA ?_ _)); refine blk_put (cs := #[.int .i64 1, .int .i64 x279001_1, .slice none 0 0]) ?_ 1 _ rfl; (with_reducible repeat (first | refine kN ?_ _ | refine kD ?_ | refine kA ?_ _)); refine blk_put (cs := #[.int .i64 x279000_1, .int .i64 x279001_1, .slice none 0 0]) ?_ 0 _ rfl; (with_reducible repeat (first | refine kN ?_ _ | refine kD ?_ | refine kA ?_ _)); refine blk_far ?_ NB278_277.out _; (with_reducible repeat (first | refine kN ?_ _ | refine kD ?_ | refine kA ?_ _)); refine blk_far ?_ NB278_277.out _; (with_reducible repeat (first | refine kN ?_ _ | refine kD ?_ | refine kA ?_ _)); exact BK278.out) Try.underlying29 rfl (by kernel_rfl) .nil)))) rfl ?_
            exact ⟨_, _, by first | rfl | (simp <;> rfl) | (simp [*] <;> rfl), (by first | exact Kd.V_nil _ _ _ _ _ | (show Kd.V _ _ _ _ _ (.slice none 0 0) []; exact Kd.V_nil _ _ _ _ _)), by (with_reducible repeat (first | apply Kd.V_alloc | apply Kd.V_drewN | apply Kd.V_drew)); exact Kd.V_mono (Kd.V_far (p := ⟨gb278, 2, none⟩) (Kd.V_far (p := ⟨gb278, 1, none⟩) (Kd.V_far (p := ⟨gb278, 0, none⟩) (Kd.V_far (p := ⟨gb277, 1, none⟩) (Kd.V_far (p := ⟨gb277, 0, none⟩) (Kd.V_mono (Kd.V_mono HO_288002.out (fun k_ hk => (⟨hk, hk.2.1⟩ : _ ∧ k_ ≠ gb277))) (fun k_ hk => (⟨hk, hk.1.2.2.1⟩ : _ ∧ k_ ≠ gb278))) (fun _ hk => hk.1.2) (.int .i64 0)) (fun _ hk => hk.1.2) (.slice none 0 0)) (fun _ hk => hk.2) (.int .i64 1)) (fun _ hk => hk.2) (.int .i64 2)) (fun _ hk => hk.2) (.slice A23 y282.length c23)) (fun _ hk => hk.1.1.1), by repeat (first | (with_reducible first | exact HB.out | apply bA | apply bN | apply bD | refine bS ?_ GE277.out | refine bS ?_ GE278.out | refine bS ?_ GE287.out) | exact HB.out)⟩
           ·
            replace c29 := Bool.eq_false_iff.mpr c29
            subst c29
            have H1 : (if 18 < (l0.length : Int) then ((ridgewayref03_Least.f (wrap64 (rd l0 18))).bind fun t289 => (if t289 = 0 then (if 18 ≤ 19 then (if 19 ≤ (l0.length : Int) then (some (0, ([] : List Int), 0, 1, 3, ((l0.take 19).drop 18))) else (none)) else (none)) else ((ridgewayref03_fits.f (wrap64 (rd l0 18)) (wrap64 ((wrap64 ((wrap64 (rd l0 16)) * 256)) + (wrap64 (rd l0 17))))).bind fun t295 => (if t295 = true then (if (l0.length : Int) < (wrap64 ((wrap64 ((wrap64 (rd l0 16)) * 256)) + (wrap64 (rd l0 17)))) then (some (0, ([] : List Int), 0, 0, 0, ([] : List Int))) else (if 19 ≤ (wrap64 ((wrap64 ((wrap64 (rd l0 16)) * 256)) + (wrap64 (rd l0 17)))) then (if (wrap64 ((wrap64 ((wrap64 (rd l0 16)) * 256)) + (wrap64 (rd l0 17)))) ≤ (l0.length : Int) then (some (wrap64 (rd l0 18), ((l0.take ((wrap64 ((wrap64 ((wrap64 (rd l0 16)) * 256)) + (wrap64 (rd l0 17)))) : Int).toNat).drop 19), (wrap64 ((wrap64 ((wrap64 (rd l0 16)) * 256)) + (wrap64 (rd l0 17)))), 0, 0, ([] : List Int))) else (none)) else (none))) else (some (0, ([] : List Int), 0, 1, 2, y282)))))) else (none)) = some (r1, r2, r3, r4, r5, r6) := by rw [if_neg (show ¬ (false = true) by decide)] at H; first | done | exact H
            clear H
            have H := H1
            clear H1
            by_cases c36 : 18 < (l0.length : Int)
            ·
             rw [if_pos c36] at H
             have c36b0 : decide (18 < (l0.length : Int)) = true := decide_eq_true c36
             have c36b1 : decide (18 < l0.length) = true := decide_eq_true (by omega)
             clear c36
             replace H := Option.bind_eq_some_iff.mp H
             obtain ⟨t289, A370, H⟩ := H
             replace H : (if t289 = 0 then (if 18 ≤ 19 then (if 19 ≤ (l0.length : Int) then (some (0, ([] : List Int), 0, 1, 3, ((l0.take 19).drop 18))) else (none)) else (none)) else ((ridgewayref03_fits.f (wrap64 (rd l0 18)) (wrap64 ((wrap64 ((wrap64 (rd l0 16)) * 256)) + (wrap64 (rd l0 17))))).bind fun t295 => (if t295 = true then (if (l0.length : Int) < (wrap64 ((wrap64 ((wrap64 (rd l0 16)) * 256)) + (wrap64 (rd l0 17)))) then (some (0, ([] : List Int), 0, 0, 0, ([] : List Int))) else (if 19 ≤ (wrap64 ((wrap64 ((wrap64 (rd l0 16)) * 256)) + (wrap64 (rd l0 17)))) then (if (wrap64 ((wrap64 ((wrap64 (rd l0 16)) * 256)) + (wrap64 (rd l0 17)))) ≤ (l0.length : Int) then (some (wrap64 (rd l0 18), ((l0.take ((wrap64 ((wrap64 ((wrap64 (rd l0 16)) * 256)) + (wrap64 (rd l0 17)))) : Int).toNat).drop 19), (wrap64 ((wrap64 ((wrap64 (rd l0 16)) * 256)) + (wrap64 (rd l0 17)))), 0, 0, ([] : List Int))) else (none)) else (none))) else (some (0, ([] : List Int), 0, 1, 2, y282))))) = some (r1, r2, r3, r4, r5, r6) := H
             have A37 := Aside0.mk A370
             clear A370
             by_cases c38 : t289 = 0
             ·
              rw [if_pos c38] at H
              have c38b0 : (t289 == 0) = true := beq_iff_eq.mpr c38
              have c38b1 : (t289 != 0) = false := bne_eq_false_iff_eq.mpr c38
              clear c38
              by_cases c39 : 18 ≤ 19
              ·
               rw [if_pos c39] at H
               have c39b0 := eq_true c39
               have c39b1 : decide (18 ≤ 19) = true := decide_eq_true c39
               clear c39
               by_cases c40 : 19 ≤ (l0.length : Int)
               ·
                rw [if_pos c40] at H
                have c40b0 := eq_true c40
                have c40b1 : decide (19 ≤ (l0.length : Int)) = true := decide_eq_true c40
                clear c40
                obtain ⟨y290, hy290⟩ : ∃ y_ : List Int, y_ = ((l0.take 19).drop 18) := ⟨_, rfl⟩
                replace H : (some (0, ([] : List Int), 0, 1, 3, y290)) = some (r1, r2, r3, r4, r5, r6) := by first | (rw [hy290]; with_reducible exact H) | (have H2_ := (Option.bind_some _ _).symm.trans H; rw [hy290]; with_reducible exact H2_) | (have H2_ := (Option.bind_some _ _).symm.trans H; with_reducible exact H2_) | with_reducible exact H | (rw [hy290]; exact H) | exact H
                have Ny290 := Aside0.mk hy290
                clear hy290
                simp only [Option.some.injEq, Prod.mk.injEq] at H
                obtain ⟨rfl, rfl, rfl, rfl, rfl, rfl⟩ := H
                have p288 : 0 ≤ (18 : Int) := (by omega)
                have q288 : 18 < (l0.length : Int) := of_decide_eq_true (by first | (with_reducible assumption) | assumption)
                obtain ⟨ad288, e288, hx288_0⟩ := Kd.at_int (Kd.V_reads' HO_0.out).2.2 18 p288 q288
                obtain rfl : ad280 = ad288 := (by injection e288)
                (try simp only [show (18 : Int).toNat = 18 from rfl, Nat.reduceMul, Nat.reduceEqDiff, Go.Addr.add, ↓reduceIte] at hx288_0)
                have qi288 : (18 < l0.length) = True := eq_true (by omega)
                (try rw [show ((18 : Int)).toNat = 18 from rfl] at hx288_0)
                replace p288 := eq_true p288
                replace q288 := eq_true q288
                try go_wp2_with (first | ((with_reducible refine gate_callee (f := 28) rfl ?_); refine goesL_ (some 51) rfl rfl Try.func28 (by kernel_rfl) rfl #[.int .i64 (wrap64 (rd l0 18))] rfl (by (try simp only [List.map_toArray, List.map_cons, List.map_nil]); first | done | rfl | (simp only [List.length_drop, List.length_take]; rfl)) ?_; (with_reducible refine (ridgewayref03_Least.calls (wrap64 (rd l0 18)) t289 _ A37.out).mono ?_); rintro e w' ⟨rfl, ⟨nd, rfl⟩⟩; refine ⟨_, rfl, ?_⟩; (try (rw [drewN_self wc]; generalize hq_ : World.drewN wc _ = wc; have n0_ : Aside0 (Kd.V (Kd.int .u8) 5 wc w.heap.size (fun k_ => (P0_ k_ ∨ w.heap.size ≤ k_) ∧ k_ ≠ gb277 ∧ k_ ≠ gb278 ∧ k_ ≠ gb287) (.slice (some ad280) l0.length c0) l0) := ⟨by rw [← hq_]; exact (by (with_reducible repeat (first | apply Kd.V_alloc | apply Kd.V_drewN | apply Kd.V_drew)); exact HO_0.out)⟩; have n1_ : Aside0 (Kd.V (Kd.int .u8) 5 wc w.heap.size (fun k_ => (P0_ k_ ∨ w.heap.size ≤ k_) ∧ k_ ≠ gb277 ∧ k_ ≠ gb278 ∧ k_ ≠ gb287) (.slice A23 y282.length c23) y282) := ⟨by rw [← hq_]; exact (by (with_reducible repeat (first | apply Kd.V_alloc | apply Kd.V_drewN | apply Kd.V_drew)); exact HO_288002.out)⟩; have n2_ : Aside0 (wc.heap[gb277]? = some (.cells #[.int .i64 x278000_1, .slice none 0 0] 43 (0, 0))) := ⟨by rw [← hq_]; exact (by (with_reducible repeat (first | refine kN ?_ _ | refine kD ?_ | refine kA ?_ _)); exact BK277.out)⟩; have n3_ : Aside0 (wc.heap[gb278]? = some (.cells #[.int .i64 x279000_1, .int .i64 x279001_1, .slice none 0 0] 29 (0, 0))) := ⟨by rw [← hq_]; exact (by (with_reducible repeat (first | refine kN ?_ _ | refine kD ?_ | refine kA ?_ _)); exact BK278.out)⟩; have n4_ : Aside0 (wc.heap[gb287]? = some (.cells #[.int .i64 1, .int .i64 2, .slice A23 y282.length c23] 29 (0, 0))) := ⟨by rw [← hq_]; exact (by (with_reducible repeat (first | refine kN ?_ _ | refine kD ?_ | refine kA ?_ _)); exact BK287.out)⟩; have n5_ : Aside0 (Below w.heap.size w wc) := ⟨by rw [← hq_]; exact (by repeat (first | (with_reducible first | exact HB.out | apply bA | apply bN | apply bD | refine bS ?_ GE277.out | refine bS ?_ GE278.out | refine bS ?_ GE287.out) | exact HB.out))⟩; clear HO_0 HO_288002 BK277 BK278 BK287 HB hq_; have HO_0 := n0_; have HO_288002 := n1_; have BK277 := n2_; have BK278 := n3_; have BK287 := n4_; have HB := n5_; clear n0_ n1_ n2_ n3_ n4_ n5_))))
                have n0_ := Aside0.mk (Kd.V_drew HO_0.out)
                have n1_ := Aside0.mk (Kd.V_drew HO_288002.out)
                have n2_ := Aside0.mk (blk_drew BK277.out)
                have n3_ := Aside0.mk (blk_drew BK278.out)
                have n4_ := Aside0.mk (blk_drew BK287.out)
                have n5_ := Aside0.mk (below_drew1 HB.out)
                clear HO_0
                clear HO_288002
                clear BK277
                clear BK278
                clear BK287
                clear HB
                have HO_0 := n0_
                have HO_288002 := n1_
                have BK277 := n2_
                have BK278 := n3_
                have BK287 := n4_
                have HB := n5_
                clear n0_ n1_ n2_ n3_ n4_ n5_
                have q42 : (19 : Int) ≤ ((l0.length : Int) : Int) := of_decide_eq_true (by first | (with_reducible assumption) | assumption)
                obtain ⟨i042, hi042, _, hsz42, _⟩ := info_parts info5
                have hroom42 : l0.length ≤ c0 := (Kd.V_reads' HO_0.out).2.1
                have hC42 : Kd.F (Kd.int .u8) _ _ (some ad280) l0.length l0 := (Kd.V_at (base := w.heap.size) HO_0.out).2.2
                have ql42 : (18 : Int) ≤ (19 : Int) := (by omega)
                have hcut42 := cut_mid (P := Try.prog) 22 5 .i64 .i64 Try.underlying22 hi042 1 hsz42 (some ad280) l0.length c0 18 19 (by omega) ql42 q42 hroom42
                have hr42 := Kd.F_mid (lo := (18 : Int).toNat) (hi := (19 : Int).toNat) (c := c0) hC42 (by omega) (by omega) hroom42
                obtain ⟨A42, hA42⟩ : ∃ A1, A1 = (if c0 = (18 : Int).toNat then (some ad280) else ((some ad280) : Option Addr).map (·.add ((18 : Int).toNat * 1))) := ⟨_, rfl⟩
                obtain ⟨c42, hc42⟩ : ∃ c1, c1 = c0 - (18 : Int).toNat := ⟨_, rfl⟩
                have hy42 : y290.length = (19 : Int).toNat - (18 : Int).toNat := (by rw [Ny290.out, List.length_drop, List.length_take] <;> omega)
                rw [show ((l0).take (19 : Int).toNat).drop (18 : Int).toNat = y290 from Ny290.out.symm] at hr42
                replace hr42 : Kd.F (Kd.int .u8) _ _ A42 y290.length y290 := (by rw [hA42]; exact hr42)
                rw [← hy42, ← hA42, ← hc42] at hcut42
                have HO294 := Aside0.mk (show Kd.V (Kd.int .u8) 5 _ w.heap.size _ (.slice A42 y290.length c42) y290 from Kd.V_mk (by rw [hy42, hc42]; exact Nat.sub_le_sub_right (Nat.le_trans (by omega) hroom42) _) hr42)
                have HC294 := Aside0.mk (show y290.length ≤ c42 from by rw [hy42, hc42]; exact Nat.sub_le_sub_right (Nat.le_trans (by omega) hroom42) _)
                clear hr42 hC42 hroom42 hi042 hsz42 hc42
                have KY42 := Aside0.mk hy42
                have KA42 := Aside0.mk hA42
                clear hy42 hA42
                replace q42 := eq_true q42
                refine start_ (n := 7) (S := fun w' => True) (ds := []) #[false, false, false, false, false, false, false] (by kernel_rfl) rfl rfl trivial (fun hHeld => ?_)
                generalize wc.drew = w41 at HO_0 HO_288002 BK277 BK278 BK287 HB HO294 hHeld ⊢
                refine pure_ (i := 0) (N := some 53) (v := ?_) (a' := ?_) #[true, false, false, false, false, false, false] rfl rfl (by kernel_rfl) (fun _ _ _ h => h) (Or.inl ⟨by rfl, ?_⟩) ?_ ?_
                rotate_left
                ·
                 intro w'
                 go_simp
                 with_reducible rfl
                rotate_left
                ·
                 simp only [Act.put, sA, sB, sC, i64_w, i32_w]
                 rfl
                refine pure_ (i := 1) (N := some 54) (v := ?_) (a' := ?_) #[true, true, false, false, false, false, false] rfl rfl (by kernel_rfl) (fun _ _ _ h => h) (Or.inl ⟨by rfl, ?_⟩) ?_ ?_
                rotate_left
                ·
                 intro w'
                 go_simp
                 with_reducible rfl
                rotate_left
                ·
                 simp only [Act.put, sA, sB, sC, i64_w, i32_w]
                 rfl
                refine pure_ (i := 2) (N := some 55) (v := ?_) (a' := ?_) #[true, true, true, false, false, false, false] rfl rfl (by kernel_rfl) (fun _ _ _ h => h) (Or.inl ⟨by rfl, ?_⟩) ?_ ?_
                rotate_left
                ·
                 intro w'
                 go_simp
                 with_reducible rfl
                rotate_left
                ·
                 simp only [Act.put, sA, sB, sC, i64_w, i32_w]
                 rfl
                refine pure_ (i := 3) (N := some 56) (v := ?_) (a' := ?_) #[true, true, true, true, false, false, false] rfl rfl (by kernel_rfl) (fun _ _ _ h => h) (Or.inl ⟨by rfl, ?_⟩) ?_ ?_
                rotate_left
                ·
                 intro w'
                 go_simp
                 with_reducible rfl
                rotate_left
                ·
                 simp only [Act.put, sA, sB, sC, i64_w, i32_w]
                 rfl
                refine one_ (i := 4) (N := none) #[true, true, true, true, true, false, false] rfl rfl (by kernel_rfl) (by decide) (fun K hK => ?_)
                have hs43 : w41.cell? ⟨gb277, 0, none⟩ = some (.int .i64 x278000_1) := (blk_cell BK277.out 0).trans rfl
                have hfs43 := blk_frozen BK277.out 0
                have hns43_1 := NB278_277.out
                have hns43_2 := NB287_277.out
                have hms43_1 := NB277_278.out
                have hms43_2 := NB277_287.out
                have hs44 : w41.cell? ⟨gb277, 1, none⟩ = some (.slice none 0 0) := (blk_cell BK277.out 1).trans rfl
                have hfs44 := blk_frozen BK277.out 1
                have hns44_1 := NB278_277.out
                have hns44_2 := NB287_277.out
                have hms44_1 := NB277_278.out
                have hms44_2 := NB277_287.out
                refine skip_ (w1 := ?_) (by rfl) rfl ?_ ?_
                rotate_left
                ·
                 go_simp
                 rfl
                refine hK.out _ _ trivial (fun hHeld => ?_)
                clear hK K
                refine pure_ (i := 5) (N := some 3) (v := ?_) (a' := ?_) #[true, true, true, true, true, true, false] rfl rfl (by kernel_rfl) (fun _ _ _ h => h) (Or.inl ⟨by rfl, ?_⟩) ?_ ?_
                rotate_left
                ·
                 intro w'
                 go_simp
                 with_reducible rfl
                rotate_left
                ·
                 simp only [Act.put, sA, sB, sC, i64_w, i32_w]
                 rfl
                refine one_ (i := 6) (N := none) #[true, true, true, true, true, true, true] rfl rfl (by kernel_rfl) (by decide) (fun K hK => ?_)
                have hs45 : w41.cell? ⟨gb278, 0, none⟩ = some (.int .i64 x279000_1) := (blk_cell BK278.out 0).trans rfl
                have hfs45 := blk_frozen BK278.out 0
                have hns45_0 := NB277_278.out
                have hns45_2 := NB287_278.out
                have hms45_0 := NB278_277.out
                have hms45_2 := NB278_287.out
                have hs46 : w41.cell? ⟨gb278, 1, none⟩ = some (.int .i64 x279001_1) := (blk_cell BK278.out 1).trans rfl
                have hfs46 := blk_frozen BK278.out 1
                have hns46_0 := NB277_278.out
                have hns46_2 := NB287_278.out
                have hms46_0 := NB278_277.out
                have hms46_2 := NB278_287.out
                have hs47 : w41.cell? ⟨gb278, 2, none⟩ = some (.slice none 0 0) := (blk_cell BK278.out 2).trans rfl
                have hfs47 := blk_frozen BK278.out 2
                have hns47_0 := NB277_278.out
                have hns47_2 := NB287_278.out
                have hms47_0 := NB278_277.out
                have hms47_2 := NB278_287.out
                refine skip_ (w1 := ?_) (by rfl) rfl ?_ ?_
                rotate_left
                ·
                 go_simp
                 rfl
                refine hK.out _ _ trivial (fun hHeld => ?_)
                clear hK K
                refine done_ (by kernel_rfl) ?_
                try go_wp2
                refine bodyPost_ret (results_list (rs := [.cell 2 43, .tmp 3, .cell 4 29]) rfl (by simp) (.cell gb277 43 #[.int .i64 0, .slice none 0 0] (0, 0) _ rfl (by (with_reducible repeat (first | refine kN ?_ _ | refine kD ?_ | refine kA ?_ _)); refine blk_far ?_ NB277_278.out _; (with_reducible repeat (first | refine kN ?_ _ | refine kD ?_ | refine kA ?_ _)); refine blk_far ?_ NB277_278.out _; (with_reducible repeat (first | refine kN ?_ _ | refine kD ?_ | refine kA ?_ _)); refine blk_far ?_ NB277_278.out _; (with_reducible repeat (first | refine kN ?_ _ | refine kD ?_ | refine kA ?_ _)); refine blk_put (cs := #[.int .i64 0, .slice none 0 0]) ?_ 1 _ rfl; (with_reducible repeat (first | refine kN ?_ _ | refine kD ?_ | refine kA ?_ _)); refine blk_put (cs := #[.int .i64 x278000_1, .slice none 0 0]) ?_ 0 _ rfl; (with_reducible repeat (first | refine kN ?_ _ | refine kD ?_ | refine kA ?_ _)); exact BK277.out) Try.underlying43 rfl (by kernel_rfl) (.tmp (.cell gb278 29 #[.int .i64 1, .int .i64 3, .slice A42 y290.length c42] (0, 0) _ rfl (by (with_reducible repeat (first | refine kN ?_ _ | refine kD ?_ | refine kA ?_ _)); refine blk_put (cs := #[.int .i64 1, .int .i64 3, .slice none 0 0]) ?_ 2 _ rfl; (with_reducible repeat (first | refine kN ?_ _ | refine kD ?_ | refine kA ?_ _)); refine blk_put (cs := #[.int .i64 1, .int .i64 x279001_1, .slice none 0 0]) ?_ 1 _ rfl; (with_reducible repeat (first | refine kN ?_ _ | refine kD ?_ | refine kA ?_ _)); refine blk_put (cs := #[.int .i64 x279000_1, .int .i64 x279001_1, .slice none 0 0]) ?_ 0 _ rfl; (with_reducible repeat (first | refine kN ?_ _ | refine kD ?_ | refine kA ?_ _)); refine blk_far ?_ NB278_277.out _; (with_reducible repeat (first | refine kN ?_ _ | refine kD ?_ | refine kA ?_ _)); refine blk_far ?_ NB278_277.out _; (with_reducible repeat (first | refine kN ?_ _ | refine kD ?_ | refine kA ?_ _)); exact BK278.out) Try.underlying29 rfl (by kernel_rfl) .nil)))) rfl ?_
                exact ⟨_, _, by first | rfl | (simp <;> rfl) | (simp [*] <;> rfl), (by first | exact Kd.V_nil _ _ _ _ _ | (show Kd.V _ _ _ _ _ (.slice none 0 0) []; exact Kd.V_nil _ _ _ _ _)), by (with_reducible repeat (first | apply Kd.V_alloc | apply Kd.V_drewN | apply Kd.V_drew)); exact Kd.V_mono (Kd.V_far (p := ⟨gb278, 2, none⟩) (Kd.V_far (p := ⟨gb278, 1, none⟩) (Kd.V_far (p := ⟨gb278, 0, none⟩) (Kd.V_far (p := ⟨gb277, 1, none⟩) (Kd.V_far (p := ⟨gb277, 0, none⟩) (Kd.V_mono (Kd.V_mono HO294.out (fun k_ hk => (⟨hk, hk.2.1⟩ : _ ∧ k_ ≠ gb277))) (fun k_ hk => (⟨hk, hk.1.2.2.1⟩ : _ ∧ k_ ≠ gb278))) (fun _ hk => hk.1.2) (.int .i64 0)) (fun _ hk => hk.1.2) (.slice none 0 0)) (fun _ hk => hk.2) (.int .i64 1)) (fun _ hk => hk.2) (.int .i64 3)) (fun _ hk => hk.2) (.slice A42 y290.length c42)) (fun _ hk => hk.1.1.1), by repeat (first | (with_reducible first | exact HB.out | apply bA | apply bN | apply bD | refine bS ?_ GE277.out | refine bS ?_ GE278.out | refine bS ?_ GE287.out) | exact HB.out)⟩
               ·
                rw [if_neg c40] at H
                exact absurd H (by simp)
              ·
               rw [if_neg c39] at H
               exact absurd H (by simp)
             ·
              rw [if_neg c38] at H
              have c38b0 : (t289 == 0) = false := beq_eq_false_iff_ne.mpr c38
              have c38b1 : (t289 != 0) = true := bne_iff_ne.mpr c38
              replace H := Option.bind_eq_some_iff.mp H
              obtain ⟨t295, A480, H⟩ := H
              replace H : (if t295 = true then (if (l0.length : Int) < (wrap64 ((wrap64 ((wrap64 (rd l0 16)) * 256)) + (wrap64 (rd l0 17)))) then (some (0, ([] : List Int), 0, 0, 0, ([] : List Int))) else (if 19 ≤ (wrap64 ((wrap64 ((wrap64 (rd l0 16)) * 256)) + (wrap64 (rd l0 17)))) then (if (wrap64 ((wrap64 ((wrap64 (rd l0 16)) * 256)) + (wrap64 (rd l0 17)))) ≤ (l0.length : Int) then (some (wrap64 (rd l0 18), ((l0.take ((wrap64 ((wrap64 ((wrap64 (rd l0 16)) * 256)) + (wrap64 (rd l0 17)))) : Int).toNat).drop 19), (wrap64 ((wrap64 ((wrap64 (rd l0 16)) * 256)) + (wrap64 (rd l0 17)))), 0, 0, ([] : List Int))) else (none)) else (none))) else (some (0, ([] : List Int), 0, 1, 2, y282))) = some (r1, r2, r3, r4, r5, r6) := H
              have A48 := Aside0.mk A480
              clear A480
              by_cases c49 : t295 = true
              ·
               subst c49
               have H1 : (if (l0.length : Int) < (wrap64 ((wrap64 ((wrap64 (rd l0 16)) * 256)) + (wrap64 (rd l0 17)))) then (some (0, ([] : List Int), 0, 0, 0, ([] : List Int))) else (if 19 ≤ (wrap64 ((wrap64 ((wrap64 (rd l0 16)) * 256)) + (wrap64 (rd l0 17)))) then (if (wrap64 ((wrap64 ((wrap64 (rd l0 16)) * 256)) + (wrap64 (rd l0 17)))) ≤ (l0.length : Int) then (some (wrap64 (rd l0 18), ((l0.take ((wrap64 ((wrap64 ((wrap64 (rd l0 16)) * 256)) + (wrap64 (rd l0 17)))) : Int).toNat).drop 19), (wrap64 ((wrap64 ((wrap64 (rd l0 16)) * 256)) + (wrap64 (rd l0 17)))), 0, 0, ([] : List Int))) else (none)) else (none))) = some (r1, r2, r3, r4, r5, r6) := by rw [if_pos rfl] at H; first | done | exact H
               clear H
               have H := H1
               clear H1
               by_cases c50 : (l0.length : Int) < (wrap64 ((wrap64 ((wrap64 (rd l0 16)) * 256)) + (wrap64 (rd l0 17))))
               ·
                rw [if_pos c50] at H
                have c50b0 : decide ((l0.length : Int) < (wrap64 ((wrap64 ((wrap64 (rd l0 16)) * 256)) + (wrap64 (rd l0 17))))) = true := decide_eq_true c50
                clear c50
                simp only [Option.some.injEq, Prod.mk.injEq] at H
                obtain ⟨rfl, rfl, rfl, rfl, rfl, rfl⟩ := H
                have p288 : 0 ≤ (18 : Int) := (by omega)
                have q288 : 18 < (l0.length : Int) := of_decide_eq_true (by first | (with_reducible assumption) | assumption)
                obtain ⟨ad288, e288, hx288_0⟩ := Kd.at_int (Kd.V_reads' HO_0.out).2.2 18 p288 q288
                obtain rfl : ad280 = ad288 := (by injection e288)
                (try simp only [show (18 : Int).toNat = 18 from rfl, Nat.reduceMul, Nat.reduceEqDiff, Go.Addr.add, ↓reduceIte] at hx288_0)
                have qi288 : (18 < l0.length) = True := eq_true (by omega)
                (try rw [show ((18 : Int)).toNat = 18 from rfl] at hx288_0)
                replace p288 := eq_true p288
                replace q288 := eq_true q288
                go_wp2_with (first | ((with_reducible refine gate_callee (f := 28) rfl ?_); refine goesL_ (some 51) rfl rfl Try.func28 (by kernel_rfl) rfl #[.int .i64 (wrap64 (rd l0 18))] rfl (by (try simp only [List.map_toArray, List.map_cons, List.map_nil]); first | done | rfl | (simp only [List.length_drop, List.length_take]; rfl)) ?_; (with_reducible refine (ridgewayref03_Least.calls (wrap64 (rd l0 18)) t289 _ A37.out).mono ?_); rintro e w' ⟨rfl, ⟨nd, rfl⟩⟩; refine ⟨_, rfl, ?_⟩; (try (rw [drewN_self wc]; generalize hq_ : World.drewN wc _ = wc; have n0_ : Aside0 (Kd.V (Kd.int .u8) 5 wc w.heap.size (fun k_ => (P0_ k_ ∨ w.heap.size ≤ k_) ∧ k_ ≠ gb277 ∧ k_ ≠ gb278 ∧ k_ ≠ gb287) (.slice (some ad280) l0.length c0) l0) := ⟨by rw [← hq_]; exact (by (with_reducible repeat (first | apply Kd.V_alloc | apply Kd.V_drewN | apply Kd.V_drew)); exact HO_0.out)⟩; have n1_ : Aside0 (Kd.V (Kd.int .u8) 5 wc w.heap.size (fun k_ => (P0_ k_ ∨ w.heap.size ≤ k_) ∧ k_ ≠ gb277 ∧ k_ ≠ gb278 ∧ k_ ≠ gb287) (.slice A23 y282.length c23) y282) := ⟨by rw [← hq_]; exact (by (with_reducible repeat (first | apply Kd.V_alloc | apply Kd.V_drewN | apply Kd.V_drew)); exact HO_288002.out)⟩; have n2_ : Aside0 (wc.heap[gb277]? = some (.cells #[.int .i64 x278000_1, .slice none 0 0] 43 (0, 0))) := ⟨by rw [← hq_]; exact (by (with_reducible repeat (first | refine kN ?_ _ | refine kD ?_ | refine kA ?_ _)); exact BK277.out)⟩; have n3_ : Aside0 (wc.heap[gb278]? = some (.cells #[.int .i64 x279000_1, .int .i64 x279001_1, .slice none 0 0] 29 (0, 0))) := ⟨by rw [← hq_]; exact (by (with_reducible repeat (first | refine kN ?_ _ | refine kD ?_ | refine kA ?_ _)); exact BK278.out)⟩; have n4_ : Aside0 (wc.heap[gb287]? = some (.cells #[.int .i64 1, .int .i64 2, .slice A23 y282.length c23] 29 (0, 0))) := ⟨by rw [← hq_]; exact (by (with_reducible repeat (first | refine kN ?_ _ | refine kD ?_ | refine kA ?_ _)); exact BK287.out)⟩; have n5_ : Aside0 (Below w.heap.size w wc) := ⟨by rw [← hq_]; exact (by repeat (first | (with_reducible first | exact HB.out | apply bA | apply bN | apply bD | refine bS ?_ GE277.out | refine bS ?_ GE278.out | refine bS ?_ GE287.out) | exact HB.out))⟩; clear HO_0 HO_288002 BK277 BK278 BK287 HB hq_; have HO_0 := n0_; have HO_288002 := n1_; have BK277 := n2_; have BK278 := n3_; have BK287 := n4_; have HB := n5_; clear n0_ n1_ n2_ n3_ n4_ n5_))) | ((with_reducible refine gate_callee (f := 29) rfl ?_); refine goesL_ (some 59) rfl rfl Try.func29 (by kernel_rfl) rfl #[.int .i64 (wrap64 (rd l0 18)), .int .i64 (wrap64 ((wrap64 ((wrap64 (rd l0 16)) * 256)) + (wrap64 (rd l0 17))))] rfl (by (try simp only [List.map_toArray, List.map_cons, List.map_nil]); first | done | rfl | (simp only [List.length_drop, List.length_take]; rfl)) ?_; (with_reducible refine (ridgewayref03_fits.calls (wrap64 (rd l0 18)) (wrap64 ((wrap64 ((wrap64 (rd l0 16)) * 256)) + (wrap64 (rd l0 17)))) true _ A48.out).mono ?_); rintro e w' ⟨rfl, ⟨nd, rfl⟩⟩; refine ⟨_, rfl, ?_⟩; (try (rw [drewN_self wc]; generalize hq_ : World.drewN wc _ = wc; have n0_ : Aside0 (Kd.V (Kd.int .u8) 5 wc w.heap.size (fun k_ => (P0_ k_ ∨ w.heap.size ≤ k_) ∧ k_ ≠ gb277 ∧ k_ ≠ gb278 ∧ k_ ≠ gb287) (.slice (some ad280) l0.length c0) l0) := ⟨by rw [← hq_]; exact (by (with_reducible repeat (first | apply Kd.V_alloc | apply Kd.V_drewN | apply Kd.V_drew)); exact HO_0.out)⟩; have n1_ : Aside0 (Kd.V (Kd.int .u8) 5 wc w.heap.size (fun k_ => (P0_ k_ ∨ w.heap.size ≤ k_) ∧ k_ ≠ gb277 ∧ k_ ≠ gb278 ∧ k_ ≠ gb287) (.slice A23 y282.length c23) y282) := ⟨by rw [← hq_]; exact (by (with_reducible repeat (first | apply Kd.V_alloc | apply Kd.V_drewN | apply Kd.V_drew)); exact HO_288002.out)⟩; have n2_ : Aside0 (wc.heap[gb277]? = some (.cells #[.int .i64 x278000_1, .slice none 0 0] 43 (0, 0))) := ⟨by rw [← hq_]; exact (by (with_reducible repeat (first | refine kN ?_ _ | refine kD ?_ | refine kA ?_ _)); exact BK277.out)⟩; have n3_ : Aside0 (wc.heap[gb278]? = some (.cells #[.int .i64 x279000_1, .int .i64 x279001_1, .slice none 0 0] 29 (0, 0))) := ⟨by rw [← hq_]; exact (by (with_reducible repeat (first | refine kN ?_ _ | refine kD ?_ | refine kA ?_ _)); exact BK278.out)⟩; have n4_ : Aside0 (wc.heap[gb287]? = some (.cells #[.int .i64 1, .int .i64 2, .slice A23 y282.length c23] 29 (0, 0))) := ⟨by rw [← hq_]; exact (by (with_reducible repeat (first | refine kN ?_ _ | refine kD ?_ | refine kA ?_ _)); exact BK287.out)⟩; have n5_ : Aside0 (Below w.heap.size w wc) := ⟨by rw [← hq_]; exact (by repeat (first | (with_reducible first | exact HB.out | apply bA | apply bN | apply bD | refine bS ?_ GE277.out | refine bS ?_ GE278.out | refine bS ?_ GE287.out) | exact HB.out))⟩; clear HO_0 HO_288002 BK277 BK278 BK287 HB hq_; have HO_0 := n0_; have HO_288002 := n1_; have BK277 := n2_; have BK278 := n3_; have BK287 := n4_; have HB := n5_; clear n0_ n1_ n2_ n3_ n4_ n5_)); have hnb51 := NB277_278.out; have hnc51 := NB278_277.out; have hnb52 := NB277_287.out; have hnc52 := NB287_277.out; have hcz53_0 : wc.cell? ⟨gb277, 0, none⟩ = some (.int .i64 x278000_1) := (blk_cell BK277.out 0).trans rfl; have hcz53_1 : wc.cell? ⟨gb277, 1, none⟩ = some (.slice none 0 0) := (blk_cell BK277.out 1).trans rfl; have hfz53_0 := blk_frozen BK277.out 0; have hfz53_1 := blk_frozen BK277.out 1; have hnb54 := NB278_287.out; have hnc54 := NB287_278.out; have hcz55_0 : wc.cell? ⟨gb278, 0, none⟩ = some (.int .i64 x279000_1) := (blk_cell BK278.out 0).trans rfl; have hcz55_1 : wc.cell? ⟨gb278, 1, none⟩ = some (.int .i64 x279001_1) := (blk_cell BK278.out 1).trans rfl; have hcz55_2 : wc.cell? ⟨gb278, 2, none⟩ = some (.slice none 0 0) := (blk_cell BK278.out 2).trans rfl; have hfz55_0 := blk_frozen BK278.out 0; have hfz55_1 := blk_frozen BK278.out 1; have hfz55_2 := blk_frozen BK278.out 2))
                refine bodyPost_ret (results_list (rs := [.cell 2 43, .tmp 3, .cell 4 29]) rfl (by simp) (.cell gb277 43 #[.int .i64 0, .slice none 0 0] (0, 0) _ rfl (by (with_reducible repeat (first | refine kN ?_ _ | refine kD ?_ | refine kA ?_ _)); refine blk_far ?_ NB277_278.out _; (with_reducible repeat (first | refine kN ?_ _ | refine kD ?_ | refine kA ?_ _)); refine blk_far ?_ NB277_278.out _; (with_reducible repeat (first | refine kN ?_ _ | refine kD ?_ | refine kA ?_ _)); refine blk_far ?_ NB277_278.out _; (with_reducible repeat (first | refine kN ?_ _ | refine kD ?_ | refine kA ?_ _)); refine blk_put (cs := #[.int .i64 0, .slice none 0 0]) ?_ 1 _ rfl; (with_reducible repeat (first | refine kN ?_ _ | refine kD ?_ | refine kA ?_ _)); refine blk_put (cs := #[.int .i64 x278000_1, .slice none 0 0]) ?_ 0 _ rfl; (with_reducible repeat (first | refine kN ?_ _ | refine kD ?_ | refine kA ?_ _)); exact BK277.out) Try.underlying43 rfl (by kernel_rfl) (.tmp (.cell gb278 29 #[.int .i64 0, .int .i64 0, .slice none 0 0] (0, 0) _ rfl (by (with_reducible repeat (first | refine kN ?_ _ | refine kD ?_ | refine kA ?_ _)); refine blk_put (cs := #[.int .i64 0, .int .i64 0, .slice none 0 0]) ?_ 2 _ rfl; (with_reducible repeat (first | refine kN ?_ _ | refine kD ?_ | refine kA ?_ _)); refine blk_put (cs := #[.int .i64 0, .int .i64 x279001_1, .slice none 0 0]) ?_ 1 _ rfl; (with_reducible repeat (first | refine kN ?_ _ | refine kD ?_ | refine kA ?_ _)); refine blk_put (cs := #[.int .i64 x279000_1, .int .i64 x279001_1, .slice none 0 0]) ?_ 0 _ rfl; (with_reducible repeat (first | refine kN ?_ _ | refine kD ?_ | refine kA ?_ _)); refine blk_far ?_ NB278_277.out _; (with_reducible repeat (first | refine kN ?_ _ | refine kD ?_ | refine kA ?_ _)); refine blk_far ?_ NB278_277.out _; (with_reducible repeat (first | refine kN ?_ _ | refine kD ?_ | refine kA ?_ _)); exact BK278.out) Try.underlying29 rfl (by kernel_rfl) .nil)))) rfl ?_
                exact ⟨_, _, by first | rfl | (simp <;> rfl) | (simp [*] <;> rfl), (by first | exact Kd.V_nil _ _ _ _ _ | (show Kd.V _ _ _ _ _ (.slice none 0 0) []; exact Kd.V_nil _ _ _ _ _)), (by first | exact Kd.V_nil _ _ _ _ _ | (show Kd.V _ _ _ _ _ (.slice none 0 0) []; exact Kd.V_nil _ _ _ _ _)), by repeat (first | (with_reducible first | exact HB.out | apply bA | apply bN | apply bD | refine bS ?_ GE277.out | refine bS ?_ GE278.out | refine bS ?_ GE287.out) | exact HB.out)⟩
               ·
                rw [if_neg c50] at H
                have c50b0 : decide ((l0.length : Int) < (wrap64 ((wrap64 ((wrap64 (rd l0 16)) * 256)) + (wrap64 (rd l0 17))))) = false := decide_eq_false c50
                clear c50
                by_cases c56 : 19 ≤ (wrap64 ((wrap64 ((wrap64 (rd l0 16)) * 256)) + (wrap64 (rd l0 17))))
                ·
                 rw [if_pos c56] at H
                 have c56b0 := eq_true c56
                 have c56b1 : decide (19 ≤ (wrap64 ((wrap64 ((wrap64 (rd l0 16)) * 256)) + (wrap64 (rd l0 17))))) = true := decide_eq_true c56
                 by_cases c57 : (wrap64 ((wrap64 ((wrap64 (rd l0 16)) * 256)) + (wrap64 (rd l0 17)))) ≤ (l0.length : Int)
                 ·
                  rw [if_pos c57] at H
                  have c57b0 := eq_true c57
                  have c57b1 : decide ((wrap64 ((wrap64 ((wrap64 (rd l0 16)) * 256)) + (wrap64 (rd l0 17)))) ≤ (l0.length : Int)) = true := decide_eq_true c57
                  obtain ⟨y296, hy296⟩ : ∃ y_ : List Int, y_ = ((l0.take ((wrap64 ((wrap64 ((wrap64 (rd l0 16)) * 256)) + (wrap64 (rd l0 17)))) : Int).toNat).drop 19) := ⟨_, rfl⟩
                  replace H : (some (wrap64 (rd l0 18), y296, (wrap64 ((wrap64 ((wrap64 (rd l0 16)) * 256)) + (wrap64 (rd l0 17)))), 0, 0, ([] : List Int))) = some (r1, r2, r3, r4, r5, r6) := by first | (rw [hy296]; with_reducible exact H) | (have H2_ := (Option.bind_some _ _).symm.trans H; rw [hy296]; with_reducible exact H2_) | (have H2_ := (Option.bind_some _ _).symm.trans H; with_reducible exact H2_) | with_reducible exact H | (rw [hy296]; exact H) | exact H
                  have Ny296 := Aside0.mk hy296
                  clear hy296
                  simp only [Option.some.injEq, Prod.mk.injEq] at H
                  obtain ⟨rfl, rfl, rfl, rfl, rfl, rfl⟩ := H
                  have p288 : 0 ≤ (18 : Int) := (by omega)
                  have q288 : 18 < (l0.length : Int) := of_decide_eq_true (by first | (with_reducible assumption) | assumption)
                  obtain ⟨ad288, e288, hx288_0⟩ := Kd.at_int (Kd.V_reads' HO_0.out).2.2 18 p288 q288
                  obtain rfl : ad280 = ad288 := (by injection e288)
                  (try simp only [show (18 : Int).toNat = 18 from rfl, Nat.reduceMul, Nat.reduceEqDiff, Go.Addr.add, ↓reduceIte] at hx288_0)
                  have qi288 : (18 < l0.length) = True := eq_true (by omega)
                  (try rw [show ((18 : Int)).toNat = 18 from rfl] at hx288_0)
                  replace p288 := eq_true p288
                  replace q288 := eq_true q288
                  go_wp2_with (first | ((with_reducible refine gate_callee (f := 28) rfl ?_); refine goesL_ (some 51) rfl rfl Try.func28 (by kernel_rfl) rfl #[.int .i64 (wrap64 (rd l0 18))] rfl (by (try simp only [List.map_toArray, List.map_cons, List.map_nil]); first | done | rfl | (simp only [List.length_drop, List.length_take]; rfl)) ?_; (with_reducible refine (ridgewayref03_Least.calls (wrap64 (rd l0 18)) t289 _ A37.out).mono ?_); rintro e w' ⟨rfl, ⟨nd, rfl⟩⟩; refine ⟨_, rfl, ?_⟩; (try (rw [drewN_self wc]; generalize hq_ : World.drewN wc _ = wc; have n0_ : Aside0 (Kd.V (Kd.int .u8) 5 wc w.heap.size (fun k_ => (P0_ k_ ∨ w.heap.size ≤ k_) ∧ k_ ≠ gb277 ∧ k_ ≠ gb278 ∧ k_ ≠ gb287) (.slice (some ad280) l0.length c0) l0) := ⟨by rw [← hq_]; exact (by (with_reducible repeat (first | apply Kd.V_alloc | apply Kd.V_drewN | apply Kd.V_drew)); exact HO_0.out)⟩; have n1_ : Aside0 (Kd.V (Kd.int .u8) 5 wc w.heap.size (fun k_ => (P0_ k_ ∨ w.heap.size ≤ k_) ∧ k_ ≠ gb277 ∧ k_ ≠ gb278 ∧ k_ ≠ gb287) (.slice A23 y282.length c23) y282) := ⟨by rw [← hq_]; exact (by (with_reducible repeat (first | apply Kd.V_alloc | apply Kd.V_drewN | apply Kd.V_drew)); exact HO_288002.out)⟩; have n2_ : Aside0 (wc.heap[gb277]? = some (.cells #[.int .i64 x278000_1, .slice none 0 0] 43 (0, 0))) := ⟨by rw [← hq_]; exact (by (with_reducible repeat (first | refine kN ?_ _ | refine kD ?_ | refine kA ?_ _)); exact BK277.out)⟩; have n3_ : Aside0 (wc.heap[gb278]? = some (.cells #[.int .i64 x279000_1, .int .i64 x279001_1, .slice none 0 0] 29 (0, 0))) := ⟨by rw [← hq_]; exact (by (with_reducible repeat (first | refine kN ?_ _ | refine kD ?_ | refine kA ?_ _)); exact BK278.out)⟩; have n4_ : Aside0 (wc.heap[gb287]? = some (.cells #[.int .i64 1, .int .i64 2, .slice A23 y282.length c23] 29 (0, 0))) := ⟨by rw [← hq_]; exact (by (with_reducible repeat (first | refine kN ?_ _ | refine kD ?_ | refine kA ?_ _)); exact BK287.out)⟩; have n5_ : Aside0 (Below w.heap.size w wc) := ⟨by rw [← hq_]; exact (by repeat (first | (with_reducible first | exact HB.out | apply bA | apply bN | apply bD | refine bS ?_ GE277.out | refine bS ?_ GE278.out | refine bS ?_ GE287.out) | exact HB.out))⟩; clear HO_0 HO_288002 BK277 BK278 BK287 HB hq_; have HO_0 := n0_; have HO_288002 := n1_; have BK277 := n2_; have BK278 := n3_; have BK287 := n4_; have HB := n5_; clear n0_ n1_ n2_ n3_ n4_ n5_))) | ((with_reducible refine gate_callee (f := 29) rfl ?_); refine goesL_ (some 59) rfl rfl Try.func29 (by kernel_rfl) rfl #[.int .i64 (wrap64 (rd l0 18)), .int .i64 (wrap64 ((wrap64 ((wrap64 (rd l0 16)) * 256)) + (wrap64 (rd l0 17))))] rfl (by (try simp only [List.map_toArray, List.map_cons, List.map_nil]); first | done | rfl | (simp only [List.length_drop, List.length_take]; rfl)) ?_; (with_reducible refine (ridgewayref03_fits.calls (wrap64 (rd l0 18)) (wrap64 ((wrap64 ((wrap64 (rd l0 16)) * 256)) + (wrap64 (rd l0 17)))) true _ A48.out).mono ?_); rintro e w' ⟨rfl, ⟨nd, rfl⟩⟩; refine ⟨_, rfl, ?_⟩; (try (rw [drewN_self wc]; generalize hq_ : World.drewN wc _ = wc; have n0_ : Aside0 (Kd.V (Kd.int .u8) 5 wc w.heap.size (fun k_ => (P0_ k_ ∨ w.heap.size ≤ k_) ∧ k_ ≠ gb277 ∧ k_ ≠ gb278 ∧ k_ ≠ gb287) (.slice (some ad280) l0.length c0) l0) := ⟨by rw [← hq_]; exact (by (with_reducible repeat (first | apply Kd.V_alloc | apply Kd.V_drewN | apply Kd.V_drew)); exact HO_0.out)⟩; have n1_ : Aside0 (Kd.V (Kd.int .u8) 5 wc w.heap.size (fun k_ => (P0_ k_ ∨ w.heap.size ≤ k_) ∧ k_ ≠ gb277 ∧ k_ ≠ gb278 ∧ k_ ≠ gb287) (.slice A23 y282.length c23) y282) := ⟨by rw [← hq_]; exact (by (with_reducible repeat (first | apply Kd.V_alloc | apply Kd.V_drewN | apply Kd.V_drew)); exact HO_288002.out)⟩; have n2_ : Aside0 (wc.heap[gb277]? = some (.cells #[.int .i64 x278000_1, .slice none 0 0] 43 (0, 0))) := ⟨by rw [← hq_]; exact (by (with_reducible repeat (first | refine kN ?_ _ | refine kD ?_ | refine kA ?_ _)); exact BK277.out)⟩; have n3_ : Aside0 (wc.heap[gb278]? = some (.cells #[.int .i64 x279000_1, .int .i64 x279001_1, .slice none 0 0] 29 (0, 0))) := ⟨by rw [← hq_]; exact (by (with_reducible repeat (first | refine kN ?_ _ | refine kD ?_ | refine kA ?_ _)); exact BK278.out)⟩; have n4_ : Aside0 (wc.heap[gb287]? = some (.cells #[.int .i64 1, .int .i64 2, .slice A23 y282.length c23] 29 (0, 0))) := ⟨by rw [← hq_]; exact (by (with_reducible repeat (first | refine kN ?_ _ | refine kD ?_ | refine kA ?_ _)); exact BK287.out)⟩; have n5_ : Aside0 (Below w.heap.size w wc) := ⟨by rw [← hq_]; exact (by repeat (first | (with_reducible first | exact HB.out | apply bA | apply bN | apply bD | refine bS ?_ GE277.out | refine bS ?_ GE278.out | refine bS ?_ GE287.out) | exact HB.out))⟩; clear HO_0 HO_288002 BK277 BK278 BK287 HB hq_; have HO_0 := n0_; have HO_288002 := n1_; have BK277 := n2_; have BK278 := n3_; have BK287 := n4_; have HB := n5_; clear n0_ n1_ n2_ n3_ n4_ n5_)); have q58 : ((wrap64 ((wrap64 ((wrap64 (rd l0 16)) * 256)) + (wrap64 (rd l0 17)))) : Int) ≤ ((l0.length : Int) : Int) := of_decide_eq_true (by first | (with_reducible assumption) | assumption); obtain ⟨i058, hi058, _, hsz58, _⟩ := info_parts info5; have hroom58 : l0.length ≤ c0 := (Kd.V_reads' HO_0.out).2.1; have hC58 : Kd.F (Kd.int .u8) _ _ (some ad280) l0.length l0 := (Kd.V_at (base := w.heap.size) HO_0.out).2.2; have ql58 : (19 : Int) ≤ ((wrap64 ((wrap64 ((wrap64 (rd l0 16)) * 256)) + (wrap64 (rd l0 17)))) : Int) := of_decide_eq_true (by first | (with_reducible assumption) | assumption); have hcut58 := cut_mid (P := Try.prog) 22 5 .i64 .i64 Try.underlying22 hi058 1 hsz58 (some ad280) l0.length c0 19 (wrap64 ((wrap64 ((wrap64 (rd l0 16)) * 256)) + (wrap64 (rd l0 17)))) (by omega) ql58 q58 hroom58; have hr58 := Kd.F_mid (lo := (19 : Int).toNat) (hi := ((wrap64 ((wrap64 ((wrap64 (rd l0 16)) * 256)) + (wrap64 (rd l0 17)))) : Int).toNat) (c := c0) hC58 (by omega) (by omega) hroom58; obtain ⟨A58, hA58⟩ : ∃ A1, A1 = (if c0 = (19 : Int).toNat then (some ad280) else ((some ad280) : Option Addr).map (·.add ((19 : Int).toNat * 1))) := ⟨_, rfl⟩; obtain ⟨c58, hc58⟩ : ∃ c1, c1 = c0 - (19 : Int).toNat := ⟨_, rfl⟩; have hy58 : y296.length = ((wrap64 ((wrap64 ((wrap64 (rd l0 16)) * 256)) + (wrap64 (rd l0 17)))) : Int).toNat - (19 : Int).toNat := (by rw [Ny296.out, List.length_drop, List.length_take] <;> omega); rw [show ((l0).take ((wrap64 ((wrap64 ((wrap64 (rd l0 16)) * 256)) + (wrap64 (rd l0 17)))) : Int).toNat).drop (19 : Int).toNat = y296 from Ny296.out.symm] at hr58; replace hr58 : Kd.F (Kd.int .u8) _ _ A58 y296.length y296 := (by rw [hA58]; exact hr58); rw [← hy58, ← hA58, ← hc58] at hcut58; have HO300 := Aside0.mk (show Kd.V (Kd.int .u8) 5 _ w.heap.size _ (.slice A58 y296.length c58) y296 from Kd.V_mk (by rw [hy58, hc58]; exact Nat.sub_le_sub_right (Nat.le_trans (by omega) hroom58) _) hr58); have HC300 := Aside0.mk (show y296.length ≤ c58 from by rw [hy58, hc58]; exact Nat.sub_le_sub_right (Nat.le_trans (by omega) hroom58) _); clear hr58 hC58 hroom58 hi058 hsz58 hc58; have KY58 := Aside0.mk hy58; have KA58 := Aside0.mk hA58; clear hy58 hA58; replace q58 := eq_true q58; have hnb59 := NB277_278.out; have hnc59 := NB278_277.out; have hnb60 := NB277_287.out; have hnc60 := NB287_277.out; have hcz61_0 : wc.cell? ⟨gb277, 0, none⟩ = some (.int .i64 x278000_1) := (blk_cell BK277.out 0).trans rfl; have hcz61_1 : wc.cell? ⟨gb277, 1, none⟩ = some (.slice none 0 0) := (blk_cell BK277.out 1).trans rfl; have hfz61_0 := blk_frozen BK277.out 0; have hfz61_1 := blk_frozen BK277.out 1; have hnb62 := NB278_287.out; have hnc62 := NB287_278.out; have hcz63_0 : wc.cell? ⟨gb278, 0, none⟩ = some (.int .i64 x279000_1) := (blk_cell BK278.out 0).trans rfl; have hcz63_1 : wc.cell? ⟨gb278, 1, none⟩ = some (.int .i64 x279001_1) := (blk_cell BK278.out 1).trans rfl; have hcz63_2 : wc.cell? ⟨gb278, 2, none⟩ = some (.slice none 0 0) := (blk_cell BK278.out 2).trans rfl; have hfz63_0 := blk_frozen BK278.out 0; have hfz63_1 := blk_frozen BK278.out 1; have hfz63_2 := blk_frozen BK278.out 2))
                  refine bodyPost_ret (results_list (rs := [.cell 2 43, .tmp 3, .cell 4 29]) rfl (by simp) (.cell gb277 43 #[.int .i64 (wrap64 (rd l0 18)), .slice A58 y296.length c58] (0, 0) _ rfl (by (with_reducible repeat (first | refine kN ?_ _ | refine kD ?_ | refine kA ?_ _)); refine blk_far ?_ NB277_278.out _; (with_reducible repeat (first | refine kN ?_ _ | refine kD ?_ | refine kA ?_ _)); refine blk_far ?_ NB277_278.out _; (with_reducible repeat (first | refine kN ?_ _ | refine kD ?_ | refine kA ?_ _)); refine blk_far ?_ NB277_278.out _; (with_reducible repeat (first | refine kN ?_ _ | refine kD ?_ | refine kA ?_ _)); refine blk_put (cs := #[.int .i64 (wrap64 (rd l0 18)), .slice none 0 0]) ?_ 1 _ rfl; (with_reducible repeat (first | refine kN ?_ _ | refine kD ?_ | refine kA ?_ _)); refine blk_put (cs := #[.int .i64 x278000_1, .slice none 0 0]) ?_ 0 _ rfl; (with_reducible repeat (first | refine kN ?_ _ | refine kD ?_ | refine kA ?_ _)); exact BK277.out) Try.underlying43 rfl (by kernel_rfl) (.tmp (.cell gb278 29 #[.int .i64 0, .int .i64 0, .slice none 0 0] (0, 0) _ rfl (by (with_reducible repeat (first | refine kN ?_ _ | refine kD ?_ | refine kA ?_ _)); refine blk_put (cs := #[.int .i64 0, .int .i64 0, .slice none 0 0]) ?_ 2 _ rfl; (with_reducible repeat (first | refine kN ?_ _ | refine kD ?_ | refine kA ?_ _)); refine blk_put (cs := #[.int .i64 0, .int .i64 x279001_1, .slice none 0 0]) ?_ 1 _ rfl; (with_reducible repeat (first | refine kN ?_ _ | refine kD ?_ | refine kA ?_ _)); refine blk_put (cs := #[.int .i64 x279000_1, .int .i64 x279001_1, .slice none 0 0]) ?_ 0 _ rfl; (with_reducible repeat (first | refine kN ?_ _ | refine kD ?_ | refine kA ?_ _)); refine blk_far ?_ NB278_277.out _; (with_reducible repeat (first | refine kN ?_ _ | refine kD ?_ | refine kA ?_ _)); refine blk_far ?_ NB278_277.out _; (with_reducible repeat (first | refine kN ?_ _ | refine kD ?_ | refine kA ?_ _)); exact BK278.out) Try.underlying29 rfl (by kernel_rfl) .nil)))) rfl ?_
                  exact ⟨_, _, by first | rfl | (simp <;> rfl) | (simp [*] <;> rfl), by (with_reducible repeat (first | apply Kd.V_alloc | apply Kd.V_drewN | apply Kd.V_drew)); exact Kd.V_mono (Kd.V_far (p := ⟨gb278, 2, none⟩) (Kd.V_far (p := ⟨gb278, 1, none⟩) (Kd.V_far (p := ⟨gb278, 0, none⟩) (Kd.V_far (p := ⟨gb277, 1, none⟩) (Kd.V_far (p := ⟨gb277, 0, none⟩) (Kd.V_mono (Kd.V_mono HO300.out (fun k_ hk => (⟨hk, hk.2.1⟩ : _ ∧ k_ ≠ gb277))) (fun k_ hk => (⟨hk, hk.1.2.2.1⟩ : _ ∧ k_ ≠ gb278))) (fun _ hk => hk.1.2) (.int .i64 (wrap64 (rd l0 18)))) (fun _ hk => hk.1.2) (.slice A58 y296.length c58)) (fun _ hk => hk.2) (.int .i64 0)) (fun _ hk => hk.2) (.int .i64 0)) (fun _ hk => hk.2) (.slice none 0 0)) (fun _ hk => hk.1.1.1), (by first | exact Kd.V_nil _ _ _ _ _ | (show Kd.V _ _ _ _ _ (.slice none 0 0) []; exact Kd.V_nil _ _ _ _ _)), by repeat (first | (with_reducible first | exact HB.out | apply bA | apply bN | apply bD | refine bS ?_ GE277.out | refine bS ?_ GE278.out | refine bS ?_ GE287.out) | exact HB.out)⟩
                 ·
                  rw [if_neg c57] at H
                  exact absurd H (by simp)
                ·
                 rw [if_neg c56] at H
                 exact absurd H (by simp)
              ·
               replace c49 := Bool.eq_false_iff.mpr c49
               subst c49
               have H1 : (some (0, ([] : List Int), 0, 1, 2, y282)) = some (r1, r2, r3, r4, r5, r6) := by rw [if_neg (show ¬ (false = true) by decide)] at H; first | done | exact H
               clear H
               have H := H1
               clear H1
               simp only [Option.some.injEq, Prod.mk.injEq] at H
               obtain ⟨rfl, rfl, rfl, rfl, rfl, rfl⟩ := H
               have p288 : 0 ≤ (18 : Int) := (by omega)
               have q288 : 18 < (l0.length : Int) := of_decide_eq_true (by first | (with_reducible assumption) | assumption)
               obtain ⟨ad288, e288, hx288_0⟩ := Kd.at_int (Kd.V_reads' HO_0.out).2.2 18 p288 q288
               obtain rfl : ad280 = ad288 := (by injection e288)
               (try simp only [show (18 : Int).toNat = 18 from rfl, Nat.reduceMul, Nat.reduceEqDiff, Go.Addr.add, ↓reduceIte] at hx288_0)
               have qi288 : (18 < l0.length) = True := eq_true (by omega)
               (try rw [show ((18 : Int)).toNat = 18 from rfl] at hx288_0)
               replace p288 := eq_true p288
               replace q288 := eq_true q288
               try go_wp2_with (first | ((with_reducible refine gate_callee (f := 28) rfl ?_); refine goesL_ (some 51) rfl rfl Try.func28 (by kernel_rfl) rfl #[.int .i64 (wrap64 (rd l0 18))] rfl (by (try simp only [List.map_toArray, List.map_cons, List.map_nil]); first | done | rfl | (simp only [List.length_drop, List.length_take]; rfl)) ?_; (with_reducible refine (ridgewayref03_Least.calls (wrap64 (rd l0 18)) t289 _ A37.out).mono ?_); rintro e w' ⟨rfl, ⟨nd, rfl⟩⟩; refine ⟨_, rfl, ?_⟩; (try (rw [drewN_self wc]; generalize hq_ : World.drewN wc _ = wc; have n0_ : Aside0 (Kd.V (Kd.int .u8) 5 wc w.heap.size (fun k_ => (P0_ k_ ∨ w.heap.size ≤ k_) ∧ k_ ≠ gb277 ∧ k_ ≠ gb278 ∧ k_ ≠ gb287) (.slice (some ad280) l0.length c0) l0) := ⟨by rw [← hq_]; exact (by (with_reducible repeat (first | apply Kd.V_alloc | apply Kd.V_drewN | apply Kd.V_drew)); exact HO_0.out)⟩; have n1_ : Aside0 (Kd.V (Kd.int .u8) 5 wc w.heap.size (fun k_ => (P0_ k_ ∨ w.heap.size ≤ k_) ∧ k_ ≠ gb277 ∧ k_ ≠ gb278 ∧ k_ ≠ gb287) (.slice A23 y282.length c23) y282) := ⟨by rw [← hq_]; exact (by (with_reducible repeat (first | apply Kd.V_alloc | apply Kd.V_drewN | apply Kd.V_drew)); exact HO_288002.out)⟩; have n2_ : Aside0 (wc.heap[gb277]? = some (.cells #[.int .i64 x278000_1, .slice none 0 0] 43 (0, 0))) := ⟨by rw [← hq_]; exact (by (with_reducible repeat (first | refine kN ?_ _ | refine kD ?_ | refine kA ?_ _)); exact BK277.out)⟩; have n3_ : Aside0 (wc.heap[gb278]? = some (.cells #[.int .i64 x279000_1, .int .i64 x279001_1, .slice none 0 0] 29 (0, 0))) := ⟨by rw [← hq_]; exact (by (with_reducible repeat (first | refine kN ?_ _ | refine kD ?_ | refine kA ?_ _)); exact BK278.out)⟩; have n4_ : Aside0 (wc.heap[gb287]? = some (.cells #[.int .i64 1, .int .i64 2, .slice A23 y282.length c23] 29 (0, 0))) := ⟨by rw [← hq_]; exact (by (with_reducible repeat (first | refine kN ?_ _ | refine kD ?_ | refine kA ?_ _)); exact BK287.out)⟩; have n5_ : Aside0 (Below w.heap.size w wc) := ⟨by rw [← hq_]; exact (by repeat (first | (with_reducible first | exact HB.out | apply bA | apply bN | apply bD | refine bS ?_ GE277.out | refine bS ?_ GE278.out | refine bS ?_ GE287.out) | exact HB.out))⟩; clear HO_0 HO_288002 BK277 BK278 BK287 HB hq_; have HO_0 := n0_; have HO_288002 := n1_; have BK277 := n2_; have BK278 := n3_; have BK287 := n4_; have HB := n5_; clear n0_ n1_ n2_ n3_ n4_ n5_))) | ((with_reducible refine gate_callee (f := 29) rfl ?_); refine goesL_ (some 59) rfl rfl Try.func29 (by kernel_rfl) rfl #[.int .i64 (wrap64 (rd l0 18)), .int .i64 (wrap64 ((wrap64 ((wrap64 (rd l0 16)) * 256)) + (wrap64 (rd l0 17))))] rfl (by (try simp only [List.map_toArray, List.map_cons, List.map_nil]); first | done | rfl | (simp only [List.length_drop, List.length_take]; rfl)) ?_; (with_reducible refine (ridgewayref03_fits.calls (wrap64 (rd l0 18)) (wrap64 ((wrap64 ((wrap64 (rd l0 16)) * 256)) + (wrap64 (rd l0 17)))) false _ A48.out).mono ?_); rintro e w' ⟨rfl, ⟨nd, rfl⟩⟩; refine ⟨_, rfl, ?_⟩; (try (rw [drewN_self wc]; generalize hq_ : World.drewN wc _ = wc; have n0_ : Aside0 (Kd.V (Kd.int .u8) 5 wc w.heap.size (fun k_ => (P0_ k_ ∨ w.heap.size ≤ k_) ∧ k_ ≠ gb277 ∧ k_ ≠ gb278 ∧ k_ ≠ gb287) (.slice (some ad280) l0.length c0) l0) := ⟨by rw [← hq_]; exact (by (with_reducible repeat (first | apply Kd.V_alloc | apply Kd.V_drewN | apply Kd.V_drew)); exact HO_0.out)⟩; have n1_ : Aside0 (Kd.V (Kd.int .u8) 5 wc w.heap.size (fun k_ => (P0_ k_ ∨ w.heap.size ≤ k_) ∧ k_ ≠ gb277 ∧ k_ ≠ gb278 ∧ k_ ≠ gb287) (.slice A23 y282.length c23) y282) := ⟨by rw [← hq_]; exact (by (with_reducible repeat (first | apply Kd.V_alloc | apply Kd.V_drewN | apply Kd.V_drew)); exact HO_288002.out)⟩; have n2_ : Aside0 (wc.heap[gb277]? = some (.cells #[.int .i64 x278000_1, .slice none 0 0] 43 (0, 0))) := ⟨by rw [← hq_]; exact (by (with_reducible repeat (first | refine kN ?_ _ | refine kD ?_ | refine kA ?_ _)); exact BK277.out)⟩; have n3_ : Aside0 (wc.heap[gb278]? = some (.cells #[.int .i64 x279000_1, .int .i64 x279001_1, .slice none 0 0] 29 (0, 0))) := ⟨by rw [← hq_]; exact (by (with_reducible repeat (first | refine kN ?_ _ | refine kD ?_ | refine kA ?_ _)); exact BK278.out)⟩; have n4_ : Aside0 (wc.heap[gb287]? = some (.cells #[.int .i64 1, .int .i64 2, .slice A23 y282.length c23] 29 (0, 0))) := ⟨by rw [← hq_]; exact (by (with_reducible repeat (first | refine kN ?_ _ | refine kD ?_ | refine kA ?_ _)); exact BK287.out)⟩; have n5_ : Aside0 (Below w.heap.size w wc) := ⟨by rw [← hq_]; exact (by repeat (first | (with_reducible first | exact HB.out | apply bA | apply bN | apply bD | refine bS ?_ GE277.out | refine bS ?_ GE278.out | refine bS ?_ GE287.out) | exact HB.out))⟩; clear HO_0 HO_288002 BK277 BK278 BK287 HB hq_; have HO_0 := n0_; have HO_288002 := n1_; have BK277 := n2_; have BK278 := n3_; have BK287 := n4_; have HB := n5_; clear n0_ n1_ n2_ n3_ n4_ n5_))))
               have n0_ := Aside0.mk (Kd.V_drew HO_0.out)
               have n1_ := Aside0.mk (Kd.V_drew HO_288002.out)
               have n2_ := Aside0.mk (blk_drew BK277.out)
               have n3_ := Aside0.mk (blk_drew BK278.out)
               have n4_ := Aside0.mk (blk_drew BK287.out)
               have n5_ := Aside0.mk (below_drew1 HB.out)
               clear HO_0
               clear HO_288002
               clear BK277
               clear BK278
               clear BK287
               clear HB
               have HO_0 := n0_
               have HO_288002 := n1_
               have BK277 := n2_
               have BK278 := n3_
               have BK287 := n4_
               have HB := n5_
               clear n0_ n1_ n2_ n3_ n4_ n5_
               refine start_ (n := 5) (S := fun w' => w'.cell? ⟨gb287, 0, none⟩ = some (.int .i64 1) ∧ w'.cell? ⟨gb287, 1, none⟩ = some (.int .i64 2) ∧ w'.cell? ⟨gb287, 2, none⟩ = some (.slice A23 y282.length c23)) (ds := []) #[false, false, false, false, false] (by kernel_rfl) rfl rfl ⟨(blk_cell BK287.out 0).trans rfl, (blk_cell BK287.out 1).trans rfl, (blk_cell BK287.out 2).trans rfl⟩ (fun hHeld => ?_)
               generalize wc.drew = w64 at HO_0 HO_288002 BK277 BK278 BK287 HB hHeld ⊢
               refine pure_ (i := 0) (N := some 61) (v := ?_) (a' := ?_) #[true, false, false, false, false] rfl rfl (by kernel_rfl) (fun _ _ _ h => h) (Or.inl ⟨by rfl, ?_⟩) ?_ ?_
               rotate_left
               ·
                intro w'
                go_simp
                with_reducible rfl
               rotate_left
               ·
                simp only [Act.put, sA, sB, sC, i64_w, i32_w]
                rfl
               refine take_ (i := 1) (N := some 62) (v := ?_) (a' := ?_) #[true, true, false, false, false] rfl rfl (by kernel_rfl) (fun _ _ _ h => h) (Or.inl ⟨by rfl, ?_⟩) hHeld ?_ ?_
               rotate_left
               ·
                rintro w' ⟨s0, s1, s2⟩
                go_simp
                with_reducible rfl
               rotate_left
               ·
                simp only [Act.put, sA, sB, sC, i64_w, i32_w]
                rfl
               refine one_ (i := 2) (N := none) #[true, true, true, false, false] rfl rfl (by kernel_rfl) (by decide) (fun K hK => ?_)
               have hs65 : w64.cell? ⟨gb277, 0, none⟩ = some (.int .i64 x278000_1) := (blk_cell BK277.out 0).trans rfl
               have hfs65 := blk_frozen BK277.out 0
               have hns65_1 := NB278_277.out
               have hns65_2 := NB287_277.out
               have hms65_1 := NB277_278.out
               have hms65_2 := NB277_287.out
               have hs66 : w64.cell? ⟨gb277, 1, none⟩ = some (.slice none 0 0) := (blk_cell BK277.out 1).trans rfl
               have hfs66 := blk_frozen BK277.out 1
               have hns66_1 := NB278_277.out
               have hns66_2 := NB287_277.out
               have hms66_1 := NB277_278.out
               have hms66_2 := NB277_287.out
               refine skip_ (w1 := ?_) (by rfl) rfl ?_ ?_
               rotate_left
               ·
                go_simp
                rfl
               refine hK.out _ _ ⟨((cell_far (p := ⟨gb277, _, none⟩) NB287_277.out _).trans (((cell_far (p := ⟨gb277, _, none⟩) NB287_277.out _).trans (hHeld.1)))), ((cell_far (p := ⟨gb277, _, none⟩) NB287_277.out _).trans (((cell_far (p := ⟨gb277, _, none⟩) NB287_277.out _).trans (hHeld.2.1)))), ((cell_far (p := ⟨gb277, _, none⟩) NB287_277.out _).trans (((cell_far (p := ⟨gb277, _, none⟩) NB287_277.out _).trans (hHeld.2.2))))⟩ (fun hHeld => ?_)
               clear hK K
               refine pure_ (i := 3) (N := some 3) (v := ?_) (a' := ?_) #[true, true, true, true, false] rfl rfl (by kernel_rfl) (fun _ _ _ h => h) (Or.inl ⟨by rfl, ?_⟩) ?_ ?_
               rotate_left
               ·
                intro w'
                go_simp
                with_reducible rfl
               rotate_left
               ·
                simp only [Act.put, sA, sB, sC, i64_w, i32_w]
                rfl
               refine one_ (i := 4) (N := none) #[true, true, true, true, true] rfl rfl (by kernel_rfl) (by decide) (fun K hK => ?_)
               have hs67 : w64.cell? ⟨gb278, 0, none⟩ = some (.int .i64 x279000_1) := (blk_cell BK278.out 0).trans rfl
               have hfs67 := blk_frozen BK278.out 0
               have hns67_0 := NB277_278.out
               have hns67_2 := NB287_278.out
               have hms67_0 := NB278_277.out
               have hms67_2 := NB278_287.out
               have hs68 : w64.cell? ⟨gb278, 1, none⟩ = some (.int .i64 x279001_1) := (blk_cell BK278.out 1).trans rfl
               have hfs68 := blk_frozen BK278.out 1
               have hns68_0 := NB277_278.out
               have hns68_2 := NB287_278.out
               have hms68_0 := NB278_277.out
               have hms68_2 := NB278_287.out
               have hs69 : w64.cell? ⟨gb278, 2, none⟩ = some (.slice none 0 0) := (blk_cell BK278.out 2).trans rfl
               have hfs69 := blk_frozen BK278.out 2
               have hns69_0 := NB277_278.out
               have hns69_2 := NB287_278.out
               have hms69_0 := NB278_277.out
               have hms69_2 := NB278_287.out
               refine skip_ (w1 := ?_) (by rfl) rfl ?_ ?_
               rotate_left
               ·
                go_simp
                rfl
               refine hK.out _ _ ⟨((cell_far (p := ⟨gb278, _, none⟩) NB287_278.out _).trans (((cell_far (p := ⟨gb278, _, none⟩) NB287_278.out _).trans (((cell_far (p := ⟨gb278, _, none⟩) NB287_278.out _).trans (hHeld.1)))))), ((cell_far (p := ⟨gb278, _, none⟩) NB287_278.out _).trans (((cell_far (p := ⟨gb278, _, none⟩) NB287_278.out _).trans (((cell_far (p := ⟨gb278, _, none⟩) NB287_278.out _).trans (hHeld.2.1)))))), ((cell_far (p := ⟨gb278, _, none⟩) NB287_278.out _).trans (((cell_far (p := ⟨gb278, _, none⟩) NB287_278.out _).trans (((cell_far (p := ⟨gb278, _, none⟩) NB287_278.out _).trans (hHeld.2.2))))))⟩ (fun hHeld => ?_)
               clear hK K
               refine done_ (by kernel_rfl) ?_
               try go_wp2
               refine bodyPost_ret (results_list (rs := [.cell 2 43, .tmp 3, .cell 4 29]) rfl (by simp) (.cell gb277 43 #[.int .i64 0, .slice none 0 0] (0, 0) _ rfl (by (with_reducible repeat (first | refine kN ?_ _ | refine kD ?_ | refine kA ?_ _)); refine blk_far ?_ NB277_278.out _; (with_reducible repeat (first | refine kN ?_ _ | refine kD ?_ | refine kA ?_ _)); refine blk_far ?_ NB277_278.out _; (with_reducible repeat (first | refine kN ?_ _ | refine kD ?_ | refine kA ?_ _)); refine blk_far ?_ NB277_278.out _; (with_reducible repeat (first | refine kN ?_ _ | refine kD ?_ | refine kA ?_ _)); refine blk_put (cs := #[.int .i64 0, .slice none 0 0]) ?_ 1 _ rfl; (with_reducible repeat (first | refine kN ?_ _ | refine kD ?_ | refine kA ?_ _)); refine blk_put (cs := #[.int .i64 x278000_1, .slice none 0 0]) ?_ 0 _ rfl; (with_reducible repeat (first | refine kN ?_ _ | refine kD ?_ | refine kA ?_ _)); exact BK277.out) Try.underlying43 rfl (by kernel_rfl) (.tmp (.cell gb278 29 #[.int .i64 1, .int .i64 2, .slice A23 y282.length c23] (0, 0) _ rfl (by (with_reducible repeat (first | refine kN ?_ _ | refine kD ?_ | refine kA ?_ _)); refine blk_put (cs := #[.int .i64 1, .int .i64 2, .slice none 0 0]) ?_ 2 _ rfl; (with_reducible repeat (first | refine kN ?_ _ | refine kD ?_ | refine kA ?_ _)); refine blk_put (cs := #[.int .i64 1, .int .i64 x279001_1, .slice none 0 0]) ?_ 1 _ rfl; (with_reducible repeat (first | refine kN ?_ _ | refine kD ?_ | refine kA ?_ _)); refine blk_put (cs := #[.int .i64 x279000_1, .int .i64 x279001_1, .slice none 0 0]) ?_ 0 _ rfl; (with_reducible repeat (first | refine kN ?_ _ | refine kD ?_ | refine kA ?_ _)); refine blk_far ?_ NB278_277.out _; (with_reducible repeat (first | refine kN ?_ _ | refine kD ?_ | refine kA ?_ _)); refine blk_far ?_ NB278_277.out _; (with_reducible repeat (first | refine kN ?_ _ | refine kD ?_ | refine kA ?_ _)); exact BK278.out) Try.underlying29 rfl (by kernel_rfl) .nil)))) rfl ?_
               exact ⟨_, _, by first | rfl | (simp <;> rfl) | (simp [*] <;> rfl), (by first | exact Kd.V_nil _ _ _ _ _ | (show Kd.V _ _ _ _ _ (.slice none 0 0) []; exact Kd.V_nil _ _ _ _ _)), by (with_reducible repeat (first | apply Kd.V_alloc | apply Kd.V_drewN | apply Kd.V_drew)); exact Kd.V_mono (Kd.V_far (p := ⟨gb278, 2, none⟩) (Kd.V_far (p := ⟨gb278, 1, none⟩) (Kd.V_far (p := ⟨gb278, 0, none⟩) (Kd.V_far (p := ⟨gb277, 1, none⟩) (Kd.V_far (p := ⟨gb277, 0, none⟩) (Kd.V_mono (Kd.V_mono HO_288002.out (fun k_ hk => (⟨hk, hk.2.1⟩ : _ ∧ k_ ≠ gb277))) (fun k_ hk => (⟨hk, hk.1.2.2.1⟩ : _ ∧ k_ ≠ gb278))) (fun _ hk => hk.1.2) (.int .i64 0)) (fun _ hk => hk.1.2) (.slice none 0 0)) (fun _ hk => hk.2) (.int .i64 1)) (fun _ hk => hk.2) (.int .i64 2)) (fun _ hk => hk.2) (.slice A23 y282.length c23)) (fun _ hk => hk.1.1.1), by repeat (first | (with_reducible first | exact HB.out | apply bA | apply bN | apply bD | refine bS ?_ GE277.out | refine bS ?_ GE278.out | refine bS ?_ GE287.out) | exact HB.out)⟩
            ·
             rw [if_neg c36] at H
             exact absurd H (by simp)
        ·
         rw [if_neg c20] at H
         exact absurd H (by simp)
       ·
        rw [if_neg c19] at H
        exact absurd H (by simp)
      ·
       rw [if_neg c18] at H
       exact absurd H (by simp)
     ·
      rw [if_neg c17] at H
      exact absurd H (by simp)

end Go.Proofs.Ythkbpiagggeicaa.Q
