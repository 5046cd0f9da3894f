/- Each call of a Go function comes to what the Lean function of its name answers (written out by wip/tools/xprint.py, checked by Lean); conditions: those in each statement. -/
import Derived.Test.YtfmhclbcoladpaaEx0
import Derived.Test.YtfmhclbcoladpaaEx1
import Derived.Test.YtfmhclbcoladpaaEx2
import Derived.Test.YtfmhclbcoladpaaEx3
import Derived.Test.YtfmhclbcoladpaaEx4
import Derived.Test.YtfmhclbcoladpaaEx6
namespace Go.Proofs.Ytfmhclbcoladpaa.E
open Go.RowKit Go.Proofs.YtfmhclbcoladpaaW.PrintWords Go.Proofs.YtfmhclbcoladpaaW.PrintLast Go.Proofs.YtfmhclbcoladpaaW.PrintMore Go.Proofs.YtfmhclbcoladpaaW.PrintX
attribute [local go_sem] max2_int min2_int max_two min_two max_three min_three max_four min_four   -- for this text's walks alone
set_option linter.unusedVariables false
set_option linter.unusedSimpArgs false

/-! ### ridgewayref07_SamePath: function 25 -/
mutual
def ridgewayref07_SamePath.j0 : Nat → Bool → Int → List Int → Int → Int → Int → List Int → Int → Int → Option (Bool)
 | 0, _, _, _, _, _, _, _, _, _ => none
 | k + 1, x33, x225000, x225001, x225002, x225003, x226000, x226001, x226002, x226003 => if x33 = true then (some false) else (ridgewayref07_SamePath.l0 k 0 x225000 x225001 x225002 x225003 x226000 x226001 x226002 x226003)
def ridgewayref07_SamePath.l0 : Nat → Int → Int → List Int → Int → Int → Int → List Int → Int → Int → Option (Bool)
 | 0, _, _, _, _, _, _, _, _, _ => none
 | k + 1, x5, x225000, x225001, x225002, x225003, x226000, x226001, x226002, x226003 => if x5 < (x225001.length : Int) then (if 0 ≤ x5 then (if x5 < (x226001.length : Int) then (if (rd x225001 x5) = (rd x226001 x5) then (ridgewayref07_SamePath.l0 k (wrap64 (x5 + 1)) x225000 x225001 x225002 x225003 x226000 x226001 x226002 x226003) else (some false)) else (none)) else (none)) else (some true)
end
def ridgewayref07_SamePath.f (k : Nat) (a0_0 : Int) (l0_1 : List Int) (a0_2 : Int) (a0_3 : Int) (a1_0 : Int) (l1_1 : List Int) (a1_2 : Int) (a1_3 : Int) : Option (Bool) := if a0_0 = a1_0 then (if a0_2 = a1_2 then (if a0_3 = a1_3 then (ridgewayref07_SamePath.j0 k ((l0_1.length : Int) != (l1_1.length : Int)) a0_0 l0_1 a0_2 a0_3 a1_0 l1_1 a1_2 a1_3) else (ridgewayref07_SamePath.j0 k true a0_0 l0_1 a0_2 a0_3 a1_0 l1_1 a1_2 a1_3)) else (ridgewayref07_SamePath.j0 k true a0_0 l0_1 a0_2 a0_3 a1_0 l1_1 a1_2 a1_3)) else (ridgewayref07_SamePath.j0 k true a0_0 l0_1 a0_2 a0_3 a1_0 l1_1 a1_2 a1_3)
theorem ridgewayref07_SamePath.mono_l : ∀ k, (∀ y0 y1 y2 y3 y4 y5 y6 y7 y8, LeO (ridgewayref07_SamePath.j0 k y0 y1 y2 y3 y4 y5 y6 y7 y8) (ridgewayref07_SamePath.j0 (k + 1) y0 y1 y2 y3 y4 y5 y6 y7 y8)) ∧ (∀ y0 y1 y2 y3 y4 y5 y6 y7 y8, LeO (ridgewayref07_SamePath.l0 k y0 y1 y2 y3 y4 y5 y6 y7 y8) (ridgewayref07_SamePath.l0 (k + 1) y0 y1 y2 y3 y4 y5 y6 y7 y8))
 | 0 => ⟨fun _ _ _ _ _ _ _ _ _ r h => by simp [ridgewayref07_SamePath.j0] at h, fun _ _ _ _ _ _ _ _ _ r h => by simp [ridgewayref07_SamePath.l0] at h⟩
 | k + 1 => by
  obtain ⟨ih0, ih1⟩ := ridgewayref07_SamePath.mono_l k
  refine ⟨?_, ?_⟩
  ·
   intro y0 y1 y2 y3 y4 y5 y6 y7 y8
   unfold ridgewayref07_SamePath.j0
   repeat' first
   | (with_reducible exact ih0 _ _ _ _ _ _ _ _ _)
   | (with_reducible exact ih1 _ _ _ _ _ _ _ _ _)
   | (with_reducible exact LeO.refl _)
   | (with_reducible exact LeO.none _)
   | (with_reducible refine LeO.ite ?_ ?_)
   | (with_reducible refine LeO.bind ?_ (fun _ => ?_))
   | exact ih0 _ _ _ _ _ _ _ _ _
   | exact ih1 _ _ _ _ _ _ _ _ _
   | exact LeO.none _
   | refine LeO.ite ?_ ?_
   | refine LeO.bind ?_ (fun _ => ?_)
  ·
   intro y0 y1 y2 y3 y4 y5 y6 y7 y8
   unfold ridgewayref07_SamePath.l0
   repeat' first
   | (with_reducible exact ih0 _ _ _ _ _ _ _ _ _)
   | (with_reducible exact ih1 _ _ _ _ _ _ _ _ _)
   | (with_reducible exact LeO.refl _)
   | (with_reducible exact LeO.none _)
   | (with_reducible refine LeO.ite ?_ ?_)
   | (with_reducible refine LeO.bind ?_ (fun _ => ?_))
   | exact ih0 _ _ _ _ _ _ _ _ _
   | exact ih1 _ _ _ _ _ _ _ _ _
   | exact LeO.none _
   | refine LeO.ite ?_ ?_
   | refine LeO.bind ?_ (fun _ => ?_)
theorem ridgewayref07_SamePath.mono : ∀ a0 a1 a2 a3 a4 a5 a6 a7 k, LeO (ridgewayref07_SamePath.f k a0 a1 a2 a3 a4 a5 a6 a7) (ridgewayref07_SamePath.f (k + 1) a0 a1 a2 a3 a4 a5 a6 a7) := by
 intro a0 a1 a2 a3 a4 a5 a6 a7 k
 obtain ⟨ih0, ih1⟩ := ridgewayref07_SamePath.mono_l k
 unfold ridgewayref07_SamePath.f
 repeat' first
   | (with_reducible exact ih0 _ _ _ _ _ _ _ _ _)
   | (with_reducible exact ih1 _ _ _ _ _ _ _ _ _)
   | (with_reducible exact LeO.refl _)
   | (with_reducible exact LeO.none _)
   | (with_reducible refine LeO.ite ?_ ?_)
   | (with_reducible refine LeO.bind ?_ (fun _ => ?_))
   | exact ih0 _ _ _ _ _ _ _ _ _
   | exact ih1 _ _ _ _ _ _ _ _ _
   | exact LeO.none _
   | refine LeO.ite ?_ ?_
   | refine LeO.bind ?_ (fun _ => ?_)
set_option maxHeartbeats 8000000 in
set_option maxRecDepth 100000 in
theorem ridgewayref07_SamePath.calls (k : Nat) (a0_0 : Int) (A0_1 : Option Addr) (c0_1 : Nat) (l0_1 : List Int) (a0_2 : Int) (a0_3 : Int) (a1_0 : Int) (A1_1 : Option Addr) (c1_1 : Nat) (l1_1 : List Int) (a1_2 : Int) (a1_3 : Int) (r : Bool) (w : World) (hr0_1 : Kd.C (Kd.int .i64) w A0_1 l0_1.length l0_1) (hc0_1 : l0_1.length ≤ c0_1) (hr1_1 : Kd.C (Kd.int .i64) w A1_1 l1_1.length l1_1) (hc1_1 : l1_1.length ≤ c1_1) (h : ridgewayref07_SamePath.f k a0_0 l0_1 a0_2 a0_3 a1_0 l1_1 a1_2 a1_3 = some r) :
  Calls Try.prog 25 #[.agg #[.int .i64 a0_0, .slice A0_1 l0_1.length c0_1, .int .i64 a0_2, .int .i64 a0_3], .agg #[.int .i64 a1_0, .slice A1_1 l1_1.length c1_1, .int .i64 a1_2, .int .i64 a1_3]] w fun e w' => e = .returned (.bool r) ∧ Below w.heap.size w w' := by
 have hu27 := Try.underlying27
 have HR0_1 := Aside0.mk hr0_1
 have HC0_1 := Aside0.mk hc0_1
 clear hr0_1 hc0_1
 have HR1_1 := Aside0.mk hr1_1
 have HC1_1 := Aside0.mk hc1_1
 clear hr1_1 hc1_1
 have HB := Aside0.mk (Below.refl w.heap.size w)
 have H : (if a0_0 = a1_0 then (if a0_2 = a1_2 then (if a0_3 = a1_3 then (ridgewayref07_SamePath.j0 k ((l0_1.length : Int) != (l1_1.length : Int)) a0_0 l0_1 a0_2 a0_3 a1_0 l1_1 a1_2 a1_3) else (ridgewayref07_SamePath.j0 k true a0_0 l0_1 a0_2 a0_3 a1_0 l1_1 a1_2 a1_3)) else (ridgewayref07_SamePath.j0 k true a0_0 l0_1 a0_2 a0_3 a1_0 l1_1 a1_2 a1_3)) else (ridgewayref07_SamePath.j0 k true a0_0 l0_1 a0_2 a0_3 a1_0 l1_1 a1_2 a1_3)) = some r := h
 clear h
 have HC3 := Aside0.mk H
 clear H
 go_enter Try.func25, Try.ntmps25
 go_upto_region 1 with (first | ((with_reducible refine gate_dst (N := 2) rfl ?_); (try (refine gate_guard (by rfl) ?_; dsimp only)); refine box_event ?hg (N := 2) ?hd (cs := #[.int .i64 a0_0, .slice A0_1 l0_1.length c0_1, .int .i64 a0_2, .int .i64 a0_3]) (t := 27) ?hr ?_; (case hd => rfl); (case hg => rfl); (case hr => first | (go_simp; done) | (go_simp; rfl)); intro gb224 hg w4 hbox hb; have n0_ := Aside0.mk (below_step (by repeat (first | (with_reducible first | exact HB.out | apply bA | apply bN | apply bD) | exact HB.out)) hb); have n1_ := Aside0.mk (hbox); have n2_ := Aside0.mk ((by rw [hg]; exact (below_size (by repeat (first | (with_reducible first | exact HB.out | apply bA | apply bN | apply bD) | exact HB.out))) : w.heap.size ≤ gb224)); have n3_ := Aside0.mk ((by rw [hg]; exact (below_size (by repeat (first | (with_reducible first | exact HB.out | apply bA | apply bN | apply bD) | exact HB.out))) : w.heap.size ≤ gb224)); clear HB; have HB := n0_; have BK224 := n1_; have GW224 := n2_; have GE224 := n3_; clear n0_ n1_ n2_ n3_; clear hb hbox hg) | ((with_reducible refine gate_dst (N := 3) rfl ?_); (try (refine gate_guard (by rfl) ?_; dsimp only)); refine box_event ?hg (N := 3) ?hd (cs := #[.int .i64 a1_0, .slice A1_1 l1_1.length c1_1, .int .i64 a1_2, .int .i64 a1_3]) (t := 27) ?hr ?_; (case hd => rfl); (case hg => rfl); (case hr => first | (go_simp; done) | (go_simp; rfl)); intro gb225 hg w5 hbox hb; have n0_ := Aside0.mk (blk_below (g := gb224) (o := .cells #[.int .i64 a0_0, .slice A0_1 l0_1.length c0_1, .int .i64 a0_2, .int .i64 a0_3] 27 (0, 0)) (by (with_reducible repeat (first | refine kN ?_ _ | refine kD ?_ | refine kA ?_ _)); exact BK224.out) hb); have n1_ := Aside0.mk (below_step (by repeat (first | (with_reducible first | exact HB.out | apply bA | apply bN | apply bD | refine bS ?_ GE224.out) | exact HB.out)) hb); have n2_ := Aside0.mk (hbox); have n3_ := Aside0.mk ((by rw [hg]; exact (below_size (by repeat (first | (with_reducible first | exact HB.out | apply bA | apply bN | apply bD | refine bS ?_ GE224.out) | exact HB.out))) : w.heap.size ≤ gb225)); have n4_ := Aside0.mk ((by rw [hg]; exact (below_size (by repeat (first | (with_reducible first | exact HB.out | apply bA | apply bN | apply bD | refine bS ?_ GE224.out) | exact HB.out))) : w.heap.size ≤ gb225)); have n5_ := Aside0.mk ((by rw [hg]; exact Nat.ne_of_lt (blk_lt (g := gb224) (o := .cells #[.int .i64 a0_0, .slice A0_1 l0_1.length c0_1, .int .i64 a0_2, .int .i64 a0_3] 27 (0, 0)) (by (with_reducible repeat (first | refine kN ?_ _ | refine kD ?_ | refine kA ?_ _)); exact BK224.out)) : gb224 ≠ gb225)); have n6_ := Aside0.mk ((by rw [hg]; exact Nat.ne_of_gt (blk_lt (g := gb224) (o := .cells #[.int .i64 a0_0, .slice A0_1 l0_1.length c0_1, .int .i64 a0_2, .int .i64 a0_3] 27 (0, 0)) (by (with_reducible repeat (first | refine kN ?_ _ | refine kD ?_ | refine kA ?_ _)); exact BK224.out)) : gb225 ≠ gb224)); clear BK224; clear HB; have BK224 := n0_; have HB := n1_; have BK225 := n2_; have GW225 := n3_; have GE225 := n4_; have NB224_225 := n5_; have NB225_224 := n6_; clear n0_ n1_ n2_ n3_ n4_ n5_ n6_; clear hb hbox hg))
 repeat (go_quiet (first | ((with_reducible refine gate_dst (N := 2) rfl ?_); (try (refine gate_guard (by rfl) ?_; dsimp only)); refine box_event ?hg (N := 2) ?hd (cs := #[.int .i64 a0_0, .slice A0_1 l0_1.length c0_1, .int .i64 a0_2, .int .i64 a0_3]) (t := 27) ?hr ?_; (case hd => rfl); (case hg => rfl); (case hr => first | (go_simp; done) | (go_simp; rfl)); intro gb224 hg w4 hbox hb; have n0_ := Aside0.mk (below_step (by repeat (first | (with_reducible first | exact HB.out | apply bA | apply bN | apply bD) | exact HB.out)) hb); have n1_ := Aside0.mk (hbox); have n2_ := Aside0.mk ((by rw [hg]; exact (below_size (by repeat (first | (with_reducible first | exact HB.out | apply bA | apply bN | apply bD) | exact HB.out))) : w.heap.size ≤ gb224)); have n3_ := Aside0.mk ((by rw [hg]; exact (below_size (by repeat (first | (with_reducible first | exact HB.out | apply bA | apply bN | apply bD) | exact HB.out))) : w.heap.size ≤ gb224)); clear HB; have HB := n0_; have BK224 := n1_; have GW224 := n2_; have GE224 := n3_; clear n0_ n1_ n2_ n3_; clear hb hbox hg) | ((with_reducible refine gate_dst (N := 3) rfl ?_); (try (refine gate_guard (by rfl) ?_; dsimp only)); refine box_event ?hg (N := 3) ?hd (cs := #[.int .i64 a1_0, .slice A1_1 l1_1.length c1_1, .int .i64 a1_2, .int .i64 a1_3]) (t := 27) ?hr ?_; (case hd => rfl); (case hg => rfl); (case hr => first | (go_simp; done) | (go_simp; rfl)); intro gb225 hg w5 hbox hb; have n0_ := Aside0.mk (blk_below (g := gb224) (o := .cells #[.int .i64 a0_0, .slice A0_1 l0_1.length c0_1, .int .i64 a0_2, .int .i64 a0_3] 27 (0, 0)) (by (with_reducible repeat (first | refine kN ?_ _ | refine kD ?_ | refine kA ?_ _)); exact BK224.out) hb); have n1_ := Aside0.mk (below_step (by repeat (first | (with_reducible first | exact HB.out | apply bA | apply bN | apply bD | refine bS ?_ GE224.out) | exact HB.out)) hb); have n2_ := Aside0.mk (hbox); have n3_ := Aside0.mk ((by rw [hg]; exact (below_size (by repeat (first | (with_reducible first | exact HB.out | apply bA | apply bN | apply bD | refine bS ?_ GE224.out) | exact HB.out))) : w.heap.size ≤ gb225)); have n4_ := Aside0.mk ((by rw [hg]; exact (below_size (by repeat (first | (with_reducible first | exact HB.out | apply bA | apply bN | apply bD | refine bS ?_ GE224.out) | exact HB.out))) : w.heap.size ≤ gb225)); have n5_ := Aside0.mk ((by rw [hg]; exact Nat.ne_of_lt (blk_lt (g := gb224) (o := .cells #[.int .i64 a0_0, .slice A0_1 l0_1.length c0_1, .int .i64 a0_2, .int .i64 a0_3] 27 (0, 0)) (by (with_reducible repeat (first | refine kN ?_ _ | refine kD ?_ | refine kA ?_ _)); exact BK224.out)) : gb224 ≠ gb225)); have n6_ := Aside0.mk ((by rw [hg]; exact Nat.ne_of_gt (blk_lt (g := gb224) (o := .cells #[.int .i64 a0_0, .slice A0_1 l0_1.length c0_1, .int .i64 a0_2, .int .i64 a0_3] 27 (0, 0)) (by (with_reducible repeat (first | refine kN ?_ _ | refine kD ?_ | refine kA ?_ _)); exact BK224.out)) : gb225 ≠ gb224)); clear BK224; clear HB; have BK224 := n0_; have HB := n1_; have BK225 := n2_; have GW225 := n3_; have GE225 := n4_; have NB224_225 := n5_; have NB225_224 := n6_; clear n0_ n1_ n2_ n3_ n4_ n5_ n6_; clear hb hbox hg)); go_upto_region 1 with (first | ((with_reducible refine gate_dst (N := 2) rfl ?_); (try (refine gate_guard (by rfl) ?_; dsimp only)); refine box_event ?hg (N := 2) ?hd (cs := #[.int .i64 a0_0, .slice A0_1 l0_1.length c0_1, .int .i64 a0_2, .int .i64 a0_3]) (t := 27) ?hr ?_; (case hd => rfl); (case hg => rfl); (case hr => first | (go_simp; done) | (go_simp; rfl)); intro gb224 hg w4 hbox hb; have n0_ := Aside0.mk (below_step (by repeat (first | (with_reducible first | exact HB.out | apply bA | apply bN | apply bD) | exact HB.out)) hb); have n1_ := Aside0.mk (hbox); have n2_ := Aside0.mk ((by rw [hg]; exact (below_size (by repeat (first | (with_reducible first | exact HB.out | apply bA | apply bN | apply bD) | exact HB.out))) : w.heap.size ≤ gb224)); have n3_ := Aside0.mk ((by rw [hg]; exact (below_size (by repeat (first | (with_reducible first | exact HB.out | apply bA | apply bN | apply bD) | exact HB.out))) : w.heap.size ≤ gb224)); clear HB; have HB := n0_; have BK224 := n1_; have GW224 := n2_; have GE224 := n3_; clear n0_ n1_ n2_ n3_; clear hb hbox hg) | ((with_reducible refine gate_dst (N := 3) rfl ?_); (try (refine gate_guard (by rfl) ?_; dsimp only)); refine box_event ?hg (N := 3) ?hd (cs := #[.int .i64 a1_0, .slice A1_1 l1_1.length c1_1, .int .i64 a1_2, .int .i64 a1_3]) (t := 27) ?hr ?_; (case hd => rfl); (case hg => rfl); (case hr => first | (go_simp; done) | (go_simp; rfl)); intro gb225 hg w5 hbox hb; have n0_ := Aside0.mk (blk_below (g := gb224) (o := .cells #[.int .i64 a0_0, .slice A0_1 l0_1.length c0_1, .int .i64 a0_2, .int .i64 a0_3] 27 (0, 0)) (by (with_reducible repeat (first | refine kN ?_ _ | refine kD ?_ | refine kA ?_ _)); exact BK224.out) hb); have n1_ := Aside0.mk (below_step (by repeat (first | (with_reducible first | exact HB.out | apply bA | apply bN | apply bD | refine bS ?_ GE224.out) | exact HB.out)) hb); have n2_ := Aside0.mk (hbox); have n3_ := Aside0.mk ((by rw [hg]; exact (below_size (by repeat (first | (with_reducible first | exact HB.out | apply bA | apply bN | apply bD | refine bS ?_ GE224.out) | exact HB.out))) : w.heap.size ≤ gb225)); have n4_ := Aside0.mk ((by rw [hg]; exact (below_size (by repeat (first | (with_reducible first | exact HB.out | apply bA | apply bN | apply bD | refine bS ?_ GE224.out) | exact HB.out))) : w.heap.size ≤ gb225)); have n5_ := Aside0.mk ((by rw [hg]; exact Nat.ne_of_lt (blk_lt (g := gb224) (o := .cells #[.int .i64 a0_0, .slice A0_1 l0_1.length c0_1, .int .i64 a0_2, .int .i64 a0_3] 27 (0, 0)) (by (with_reducible repeat (first | refine kN ?_ _ | refine kD ?_ | refine kA ?_ _)); exact BK224.out)) : gb224 ≠ gb225)); have n6_ := Aside0.mk ((by rw [hg]; exact Nat.ne_of_gt (blk_lt (g := gb224) (o := .cells #[.int .i64 a0_0, .slice A0_1 l0_1.length c0_1, .int .i64 a0_2, .int .i64 a0_3] 27 (0, 0)) (by (with_reducible repeat (first | refine kN ?_ _ | refine kD ?_ | refine kA ?_ _)); exact BK224.out)) : gb225 ≠ gb224)); clear BK224; clear HB; have BK224 := n0_; have HB := n1_; have BK225 := n2_; have GW225 := n3_; have GE225 := n4_; have NB224_225 := n5_; have NB225_224 := n6_; clear n0_ n1_ n2_ n3_ n4_ n5_ n6_; clear hb hbox hg)))
 (try simp only [Act.put, sA, sB, sC])
 go_cut [33] (fun v33 wc => ∃ (kq : Nat) (x33_2 : Bool), v33 = .bool x33_2 ∧ Aside0 (ridgewayref07_SamePath.j0 kq x33_2 a0_0 l0_1 a0_2 a0_3 a1_0 l1_1 a1_2 a1_3 = some r) ∧ Aside0 (kq ≤ k) ∧ Aside0 (wc.heap[gb224]? = some (.cells #[.int .i64 a0_0, (.slice A0_1 l0_1.length c0_1), .int .i64 a0_2, .int .i64 a0_3] 27 (0, 0))) ∧ Aside0 (wc.heap[gb225]? = some (.cells #[.int .i64 a1_0, (.slice A1_1 l1_1.length c1_1), .int .i64 a1_2, .int .i64 a1_3] 27 (0, 0))) ∧ Aside0 (Below w.heap.size w wc))
 case first =>
  have H := HC3.out
  clear HC3
  by_cases c6 : a0_0 = a1_0
  ·
   rw [if_pos c6] at H
   have c6b0 : (a0_0 == a1_0) = true := beq_iff_eq.mpr c6
   have c6b1 : (a0_0 != a1_0) = false := bne_eq_false_iff_eq.mpr c6
   clear c6
   (first | rw [c6b0] | (simp only [i64_w, i32_w]; rw [c6b0]) | rw [c6b1] | skip)
   by_cases c7 : a0_2 = a1_2
   ·
    rw [if_pos c7] at H
    have c7b0 : (a0_2 == a1_2) = true := beq_iff_eq.mpr c7
    have c7b1 : (a0_2 != a1_2) = false := bne_eq_false_iff_eq.mpr c7
    clear c7
    by_cases c8 : a0_3 = a1_3
    ·
     rw [if_pos c8] at H
     have c8b0 : (a0_3 == a1_3) = true := beq_iff_eq.mpr c8
     have c8b1 : (a0_3 != a1_3) = false := bne_eq_false_iff_eq.mpr c8
     clear c8
     have H' := Aside0.mk H
     clear H
     have hnb9 := NB224_225.out
     have hnc9 := NB225_224.out
     have hcz10_0 : w5.cell? ⟨gb224, 0, none⟩ = some (.int .i64 a0_0) := (blk_cell BK224.out 0).trans rfl
     have hcz10_1 : w5.cell? ⟨gb224, 1, none⟩ = some (.slice A0_1 l0_1.length c0_1) := (blk_cell BK224.out 1).trans rfl
     have hcz10_2 : w5.cell? ⟨gb224, 2, none⟩ = some (.int .i64 a0_2) := (blk_cell BK224.out 2).trans rfl
     have hcz10_3 : w5.cell? ⟨gb224, 3, none⟩ = some (.int .i64 a0_3) := (blk_cell BK224.out 3).trans rfl
     have hfz10_0 := blk_frozen BK224.out 0
     have hfz10_1 := blk_frozen BK224.out 1
     have hfz10_2 := blk_frozen BK224.out 2
     have hfz10_3 := blk_frozen BK224.out 3
     have hcz11_0 : w5.cell? ⟨gb225, 0, none⟩ = some (.int .i64 a1_0) := (blk_cell BK225.out 0).trans rfl
     have hcz11_1 : w5.cell? ⟨gb225, 1, none⟩ = some (.slice A1_1 l1_1.length c1_1) := (blk_cell BK225.out 1).trans rfl
     have hcz11_2 : w5.cell? ⟨gb225, 2, none⟩ = some (.int .i64 a1_2) := (blk_cell BK225.out 2).trans rfl
     have hcz11_3 : w5.cell? ⟨gb225, 3, none⟩ = some (.int .i64 a1_3) := (blk_cell BK225.out 3).trans rfl
     have hfz11_0 := blk_frozen BK225.out 0
     have hfz11_1 := blk_frozen BK225.out 1
     have hfz11_2 := blk_frozen BK225.out 2
     have hfz11_3 := blk_frozen BK225.out 3
     go_wp2
     repeat (go_quiet (fail); try go_wp2)
     go_meet
     case rel => exact ⟨_, (((l0_1.length : Int) != (l1_1.length : Int))), (by first | rfl | (simp; done) | (simp [*]; done)), H', ⟨by first | omega | exact Nat.le_refl _⟩, ⟨by (with_reducible repeat (first | refine kN ?_ _ | refine kD ?_ | refine kA ?_ _)); exact BK224.out⟩, ⟨by (with_reducible repeat (first | refine kN ?_ _ | refine kD ?_ | refine kA ?_ _)); exact BK225.out⟩, ⟨by repeat (first | (with_reducible first | exact HB.out | apply bA | apply bN | apply bD | refine bS ?_ GE224.out | refine bS ?_ GE225.out) | exact HB.out)⟩⟩
    ·
     rw [if_neg c8] at H
     have c8b0 : (a0_3 == a1_3) = false := beq_eq_false_iff_ne.mpr c8
     have c8b1 : (a0_3 != a1_3) = true := bne_iff_ne.mpr c8
     have H' := Aside0.mk H
     clear H
     have hnb12 := NB224_225.out
     have hnc12 := NB225_224.out
     have hcz13_0 : w5.cell? ⟨gb224, 0, none⟩ = some (.int .i64 a0_0) := (blk_cell BK224.out 0).trans rfl
     have hcz13_1 : w5.cell? ⟨gb224, 1, none⟩ = some (.slice A0_1 l0_1.length c0_1) := (blk_cell BK224.out 1).trans rfl
     have hcz13_2 : w5.cell? ⟨gb224, 2, none⟩ = some (.int .i64 a0_2) := (blk_cell BK224.out 2).trans rfl
     have hcz13_3 : w5.cell? ⟨gb224, 3, none⟩ = some (.int .i64 a0_3) := (blk_cell BK224.out 3).trans rfl
     have hfz13_0 := blk_frozen BK224.out 0
     have hfz13_1 := blk_frozen BK224.out 1
     have hfz13_2 := blk_frozen BK224.out 2
     have hfz13_3 := blk_frozen BK224.out 3
     have hcz14_0 : w5.cell? ⟨gb225, 0, none⟩ = some (.int .i64 a1_0) := (blk_cell BK225.out 0).trans rfl
     have hcz14_1 : w5.cell? ⟨gb225, 1, none⟩ = some (.slice A1_1 l1_1.length c1_1) := (blk_cell BK225.out 1).trans rfl
     have hcz14_2 : w5.cell? ⟨gb225, 2, none⟩ = some (.int .i64 a1_2) := (blk_cell BK225.out 2).trans rfl
     have hcz14_3 : w5.cell? ⟨gb225, 3, none⟩ = some (.int .i64 a1_3) := (blk_cell BK225.out 3).trans rfl
     have hfz14_0 := blk_frozen BK225.out 0
     have hfz14_1 := blk_frozen BK225.out 1
     have hfz14_2 := blk_frozen BK225.out 2
     have hfz14_3 := blk_frozen BK225.out 3
     go_wp2
     repeat (go_quiet (fail); try go_wp2)
     go_meet
     case rel => exact ⟨_, (true), (by first | rfl | (simp; done) | (simp [*]; done)), H', ⟨by first | omega | exact Nat.le_refl _⟩, ⟨by (with_reducible repeat (first | refine kN ?_ _ | refine kD ?_ | refine kA ?_ _)); exact BK224.out⟩, ⟨by (with_reducible repeat (first | refine kN ?_ _ | refine kD ?_ | refine kA ?_ _)); exact BK225.out⟩, ⟨by repeat (first | (with_reducible first | exact HB.out | apply bA | apply bN | apply bD | refine bS ?_ GE224.out | refine bS ?_ GE225.out) | exact HB.out)⟩⟩
   ·
    rw [if_neg c7] at H
    have c7b0 : (a0_2 == a1_2) = false := beq_eq_false_iff_ne.mpr c7
    have c7b1 : (a0_2 != a1_2) = true := bne_iff_ne.mpr c7
    have H' := Aside0.mk H
    clear H
    have hnb15 := NB224_225.out
    have hnc15 := NB225_224.out
    have hcz16_0 : w5.cell? ⟨gb224, 0, none⟩ = some (.int .i64 a0_0) := (blk_cell BK224.out 0).trans rfl
    have hcz16_1 : w5.cell? ⟨gb224, 1, none⟩ = some (.slice A0_1 l0_1.length c0_1) := (blk_cell BK224.out 1).trans rfl
    have hcz16_2 : w5.cell? ⟨gb224, 2, none⟩ = some (.int .i64 a0_2) := (blk_cell BK224.out 2).trans rfl
    have hcz16_3 : w5.cell? ⟨gb224, 3, none⟩ = some (.int .i64 a0_3) := (blk_cell BK224.out 3).trans rfl
    have hfz16_0 := blk_frozen BK224.out 0
    have hfz16_1 := blk_frozen BK224.out 1
    have hfz16_2 := blk_frozen BK224.out 2
    have hfz16_3 := blk_frozen BK224.out 3
    have hcz17_0 : w5.cell? ⟨gb225, 0, none⟩ = some (.int .i64 a1_0) := (blk_cell BK225.out 0).trans rfl
    have hcz17_1 : w5.cell? ⟨gb225, 1, none⟩ = some (.slice A1_1 l1_1.length c1_1) := (blk_cell BK225.out 1).trans rfl
    have hcz17_2 : w5.cell? ⟨gb225, 2, none⟩ = some (.int .i64 a1_2) := (blk_cell BK225.out 2).trans rfl
    have hcz17_3 : w5.cell? ⟨gb225, 3, none⟩ = some (.int .i64 a1_3) := (blk_cell BK225.out 3).trans rfl
    have hfz17_0 := blk_frozen BK225.out 0
    have hfz17_1 := blk_frozen BK225.out 1
    have hfz17_2 := blk_frozen BK225.out 2
    have hfz17_3 := blk_frozen BK225.out 3
    go_wp2
    repeat (go_quiet (fail); try go_wp2)
    go_meet
    case rel => exact ⟨_, (true), (by first | rfl | (simp; done) | (simp [*]; done)), H', ⟨by first | omega | exact Nat.le_refl _⟩, ⟨by (with_reducible repeat (first | refine kN ?_ _ | refine kD ?_ | refine kA ?_ _)); exact BK224.out⟩, ⟨by (with_reducible repeat (first | refine kN ?_ _ | refine kD ?_ | refine kA ?_ _)); exact BK225.out⟩, ⟨by repeat (first | (with_reducible first | exact HB.out | apply bA | apply bN | apply bD | refine bS ?_ GE224.out | refine bS ?_ GE225.out) | exact HB.out)⟩⟩
  ·
   rw [if_neg c6] at H
   have c6b0 : (a0_0 == a1_0) = false := beq_eq_false_iff_ne.mpr c6
   have c6b1 : (a0_0 != a1_0) = true := bne_iff_ne.mpr c6
   (first | rw [c6b0] | (simp only [i64_w, i32_w]; rw [c6b0]) | rw [c6b1] | skip)
   have H' := Aside0.mk H
   clear H
   have hnb18 := NB224_225.out
   have hnc18 := NB225_224.out
   have hcz19_0 : w5.cell? ⟨gb224, 0, none⟩ = some (.int .i64 a0_0) := (blk_cell BK224.out 0).trans rfl
   have hcz19_1 : w5.cell? ⟨gb224, 1, none⟩ = some (.slice A0_1 l0_1.length c0_1) := (blk_cell BK224.out 1).trans rfl
   have hcz19_2 : w5.cell? ⟨gb224, 2, none⟩ = some (.int .i64 a0_2) := (blk_cell BK224.out 2).trans rfl
   have hcz19_3 : w5.cell? ⟨gb224, 3, none⟩ = some (.int .i64 a0_3) := (blk_cell BK224.out 3).trans rfl
   have hfz19_0 := blk_frozen BK224.out 0
   have hfz19_1 := blk_frozen BK224.out 1
   have hfz19_2 := blk_frozen BK224.out 2
   have hfz19_3 := blk_frozen BK224.out 3
   have hcz20_0 : w5.cell? ⟨gb225, 0, none⟩ = some (.int .i64 a1_0) := (blk_cell BK225.out 0).trans rfl
   have hcz20_1 : w5.cell? ⟨gb225, 1, none⟩ = some (.slice A1_1 l1_1.length c1_1) := (blk_cell BK225.out 1).trans rfl
   have hcz20_2 : w5.cell? ⟨gb225, 2, none⟩ = some (.int .i64 a1_2) := (blk_cell BK225.out 2).trans rfl
   have hcz20_3 : w5.cell? ⟨gb225, 3, none⟩ = some (.int .i64 a1_3) := (blk_cell BK225.out 3).trans rfl
   have hfz20_0 := blk_frozen BK225.out 0
   have hfz20_1 := blk_frozen BK225.out 1
   have hfz20_2 := blk_frozen BK225.out 2
   have hfz20_3 := blk_frozen BK225.out 3
   go_wp2
   repeat (go_quiet (fail); try go_wp2)
   go_meet
   case rel => exact ⟨_, (true), (by first | rfl | (simp; done) | (simp [*]; done)), H', ⟨by first | omega | exact Nat.le_refl _⟩, ⟨by (with_reducible repeat (first | refine kN ?_ _ | refine kD ?_ | refine kA ?_ _)); exact BK224.out⟩, ⟨by (with_reducible repeat (first | refine kN ?_ _ | refine kD ?_ | refine kA ?_ _)); exact BK225.out⟩, ⟨by repeat (first | (with_reducible first | exact HB.out | apply bA | apply bN | apply bD | refine bS ?_ GE224.out | refine bS ?_ GE225.out) | exact HB.out)⟩⟩
 case rest =>
  clear HC3
  try clear c1
  try clear c2
  try clear p2
  try clear c6
  try clear c6b0
  try clear c6b1
  try clear c7
  try clear c7b0
  try clear c7b1
  try clear c8
  try clear c8b0
  try clear c8b1
  try clear c9
  try clear c12
  try clear c15
  try clear c18
  try clear hcz10_0
  try clear hcz10_1
  try clear hcz10_2
  try clear hcz10_3
  try clear hcz11_0
  try clear hcz11_1
  try clear hcz11_2
  try clear hcz11_3
  try clear hcz13_0
  try clear hcz13_1
  try clear hcz13_2
  try clear hcz13_3
  try clear hcz14_0
  try clear hcz14_1
  try clear hcz14_2
  try clear hcz14_3
  try clear hcz16_0
  try clear hcz16_1
  try clear hcz16_2
  try clear hcz16_3
  try clear hcz17_0
  try clear hcz17_1
  try clear hcz17_2
  try clear hcz17_3
  try clear hcz19_0
  try clear hcz19_1
  try clear hcz19_2
  try clear hcz19_3
  try clear hcz20_0
  try clear hcz20_1
  try clear hcz20_2
  try clear hcz20_3
  try clear hfz10_0
  try clear hfz10_1
  try clear hfz10_2
  try clear hfz10_3
  try clear hfz11_0
  try clear hfz11_1
  try clear hfz11_2
  try clear hfz11_3
  try clear hfz13_0
  try clear hfz13_1
  try clear hfz13_2
  try clear hfz13_3
  try clear hfz14_0
  try clear hfz14_1
  try clear hfz14_2
  try clear hfz14_3
  try clear hfz16_0
  try clear hfz16_1
  try clear hfz16_2
  try clear hfz16_3
  try clear hfz17_0
  try clear hfz17_1
  try clear hfz17_2
  try clear hfz17_3
  try clear hfz19_0
  try clear hfz19_1
  try clear hfz19_2
  try clear hfz19_3
  try clear hfz20_0
  try clear hfz20_1
  try clear hfz20_2
  try clear hfz20_3
  obtain ⟨kq, x33_2, rfl, HA, HJ2, BK224, BK225, HB⟩ := hcut
  cases kq with
  | zero => exact absurd HA.out (by simp [ridgewayref07_SamePath.j0])
  | succ kj2 =>
   have H := HA.out
   clear HA
   simp only [ridgewayref07_SamePath.j0] at H
   by_cases c21 : x33_2 = true
   ·
    subst c21
    have H1 : (some false) = some r := by rw [if_pos rfl] at H; first | done | exact H
    clear H
    have H := H1
    clear H1
    obtain rfl := Option.some.inj H
    go_wp2
    repeat (go_quiet (fail); try go_wp2)
    go_ret
    exact ⟨by first | rfl | (simp <;> rfl) | (simp [*] <;> rfl), by repeat (first | (with_reducible first | exact HB.out | apply bA | apply bN | apply bD | refine bS ?_ GE224.out | refine bS ?_ GE225.out) | exact HB.out)⟩
   ·
    replace c21 := Bool.eq_false_iff.mpr c21
    subst c21
    have H1 : (ridgewayref07_SamePath.l0 kj2 0 a0_0 l0_1 a0_2 a0_3 a1_0 l1_1 a1_2 a1_3) = some r := by rw [if_neg (show ¬ (false = true) by decide)] at H; first | done | exact H
    clear H
    have H := H1
    clear H1
    have H' := Aside0.mk H
    clear H
    go_wp2
    repeat (go_quiet (fail); try go_wp2)
    go_loopg [5] kj2 (fun kq v5 w' => ∃ (x5_2 : Int), v5 = .int .i64 x5_2 ∧ Aside0 (ridgewayref07_SamePath.l0 kq x5_2 a0_0 l0_1 a0_2 a0_3 a1_0 l1_1 a1_2 a1_3 = some r) ∧ Aside0 (kq ≤ kj2) ∧ Aside0 (w'.heap[gb224]? = some (.cells #[.int .i64 a0_0, (.slice A0_1 l0_1.length c0_1), .int .i64 a0_2, .int .i64 a0_3] 27 (0, 0))) ∧ Aside0 (w'.heap[gb225]? = some (.cells #[.int .i64 a1_0, (.slice A1_1 l1_1.length c1_1), .int .i64 a1_2, .int .i64 a1_3] 27 (0, 0))) ∧ Aside0 (Below w.heap.size w w'))
    case atStart => exact ⟨(0), (by first | rfl | (simp; done) | (simp [*]; done)), H', ⟨Nat.le_refl _⟩, ⟨by (with_reducible repeat (first | refine kN ?_ _ | refine kD ?_ | refine kA ?_ _)); exact BK224.out⟩, ⟨by (with_reducible repeat (first | refine kN ?_ _ | refine kD ?_ | refine kA ?_ _)); exact BK225.out⟩, ⟨by repeat (first | (with_reducible first | exact HB.out | apply bA | apply bN | apply bD | refine bS ?_ GE224.out | refine bS ?_ GE225.out) | exact HB.out)⟩⟩
    case round =>
     clear H'
     try clear c1
     try clear c2
     try clear p2
     try clear c6
     try clear c6b0
     try clear c6b1
     try clear c7
     try clear c7b0
     try clear c7b1
     try clear c8
     try clear c8b0
     try clear c8b1
     try clear c9
     try clear c12
     try clear c15
     try clear c18
     try clear c21
     try clear hcz10_0
     try clear hcz10_1
     try clear hcz10_2
     try clear hcz10_3
     try clear hcz11_0
     try clear hcz11_1
     try clear hcz11_2
     try clear hcz11_3
     try clear hcz13_0
     try clear hcz13_1
     try clear hcz13_2
     try clear hcz13_3
     try clear hcz14_0
     try clear hcz14_1
     try clear hcz14_2
     try clear hcz14_3
     try clear hcz16_0
     try clear hcz16_1
     try clear hcz16_2
     try clear hcz16_3
     try clear hcz17_0
     try clear hcz17_1
     try clear hcz17_2
     try clear hcz17_3
     try clear hcz19_0
     try clear hcz19_1
     try clear hcz19_2
     try clear hcz19_3
     try clear hcz20_0
     try clear hcz20_1
     try clear hcz20_2
     try clear hcz20_3
     try clear hfz10_0
     try clear hfz10_1
     try clear hfz10_2
     try clear hfz10_3
     try clear hfz11_0
     try clear hfz11_1
     try clear hfz11_2
     try clear hfz11_3
     try clear hfz13_0
     try clear hfz13_1
     try clear hfz13_2
     try clear hfz13_3
     try clear hfz14_0
     try clear hfz14_1
     try clear hfz14_2
     try clear hfz14_3
     try clear hfz16_0
     try clear hfz16_1
     try clear hfz16_2
     try clear hfz16_3
     try clear hfz17_0
     try clear hfz17_1
     try clear hfz17_2
     try clear hfz17_3
     try clear hfz19_0
     try clear hfz19_1
     try clear hfz19_2
     try clear hfz19_3
     try clear hfz20_0
     try clear hfz20_1
     try clear hfz20_2
     try clear hfz20_3
     try clear p2
     obtain ⟨x5_2, rfl, HA, HK2, BK224, BK225, HB⟩ := hrel
     cases gk with
     | zero => exact absurd HA.out (by simp [ridgewayref07_SamePath.l0])
     | succ k2 =>
      have H := HA.out
      clear HA
      simp only [ridgewayref07_SamePath.l0] at H
      by_cases c22 : x5_2 < (l0_1.length : Int)
      ·
       rw [if_pos c22] at H
       have c22b0 : decide (x5_2 < (l0_1.length : Int)) = true := decide_eq_true c22
       clear c22
       by_cases c23 : 0 ≤ x5_2
       ·
        rw [if_pos c23] at H
        have c23b0 : decide (0 ≤ x5_2) = true := decide_eq_true c23
        clear c23
        by_cases c24 : x5_2 < (l1_1.length : Int)
        ·
         rw [if_pos c24] at H
         have c24b0 : decide (x5_2 < (l1_1.length : Int)) = true := decide_eq_true c24
         clear c24
         by_cases c25 : (rd l0_1 x5_2) = (rd l1_1 x5_2)
         ·
          rw [if_pos c25] at H
          have c25b0 : ((rd l0_1 x5_2) == (rd l1_1 x5_2)) = true := beq_iff_eq.mpr c25
          have c25b1 : ((rd l0_1 x5_2) != (rd l1_1 x5_2)) = false := bne_eq_false_iff_eq.mpr c25
          clear c25
          have H' := Aside0.mk H
          clear H
          have hnb26 := NB224_225.out
          have hnc26 := NB225_224.out
          have hcz27_0 : wr.cell? ⟨gb224, 0, none⟩ = some (.int .i64 a0_0) := (blk_cell BK224.out 0).trans rfl
          have hcz27_1 : wr.cell? ⟨gb224, 1, none⟩ = some (.slice A0_1 l0_1.length c0_1) := (blk_cell BK224.out 1).trans rfl
          have hcz27_2 : wr.cell? ⟨gb224, 2, none⟩ = some (.int .i64 a0_2) := (blk_cell BK224.out 2).trans rfl
          have hcz27_3 : wr.cell? ⟨gb224, 3, none⟩ = some (.int .i64 a0_3) := (blk_cell BK224.out 3).trans rfl
          have hfz27_0 := blk_frozen BK224.out 0
          have hfz27_1 := blk_frozen BK224.out 1
          have hfz27_2 := blk_frozen BK224.out 2
          have hfz27_3 := blk_frozen BK224.out 3
          have p226 : 0 ≤ (x5_2 : Int) := of_decide_eq_true (by first | (with_reducible assumption) | assumption)
          have q226 : x5_2 < (l0_1.length : Int) := of_decide_eq_true (by first | (with_reducible assumption) | assumption)
          obtain ⟨ad226, e226, hx226_0⟩ := Kd.at_int HR0_1.out x5_2 p226 q226
          cases e226
          replace hx226_0 := cB HB.out hx226_0
          replace p226 := eq_true p226
          replace q226 := eq_true q226
          have hcz28_0 : wr.cell? ⟨gb225, 0, none⟩ = some (.int .i64 a1_0) := (blk_cell BK225.out 0).trans rfl
          have hcz28_1 : wr.cell? ⟨gb225, 1, none⟩ = some (.slice A1_1 l1_1.length c1_1) := (blk_cell BK225.out 1).trans rfl
          have hcz28_2 : wr.cell? ⟨gb225, 2, none⟩ = some (.int .i64 a1_2) := (blk_cell BK225.out 2).trans rfl
          have hcz28_3 : wr.cell? ⟨gb225, 3, none⟩ = some (.int .i64 a1_3) := (blk_cell BK225.out 3).trans rfl
          have hfz28_0 := blk_frozen BK225.out 0
          have hfz28_1 := blk_frozen BK225.out 1
          have hfz28_2 := blk_frozen BK225.out 2
          have hfz28_3 := blk_frozen BK225.out 3
          have p227 : 0 ≤ (x5_2 : Int) := of_decide_eq_true (by first | (with_reducible assumption) | assumption)
          have q227 : x5_2 < (l1_1.length : Int) := of_decide_eq_true (by first | (with_reducible assumption) | assumption)
          obtain ⟨ad227, e227, hx227_0⟩ := Kd.at_int HR1_1.out x5_2 p227 q227
          cases e227
          replace hx227_0 := cB HB.out hx227_0
          replace p227 := eq_true p227
          replace q227 := eq_true q227
          go_wp2
          repeat (go_quiet (fail); try go_wp2)
          go_roundg k2
          case measure => have := HJ2.out; have := HK2.out; omega
          case rel => exact ⟨(wrap64 (x5_2 + 1)), (by first | rfl | (simp; done) | (simp [*]; done)), H', ⟨by have := HJ2.out; have := HK2.out; omega⟩, ⟨by (with_reducible repeat (first | refine kN ?_ _ | refine kD ?_ | refine kA ?_ _)); exact BK224.out⟩, ⟨by (with_reducible repeat (first | refine kN ?_ _ | refine kD ?_ | refine kA ?_ _)); exact BK225.out⟩, ⟨by repeat (first | (with_reducible first | exact HB.out | apply bA | apply bN | apply bD | refine bS ?_ GE224.out | refine bS ?_ GE225.out) | exact HB.out)⟩⟩
         ·
          rw [if_neg c25] at H
          have c25b0 : ((rd l0_1 x5_2) == (rd l1_1 x5_2)) = false := beq_eq_false_iff_ne.mpr c25
          have c25b1 : ((rd l0_1 x5_2) != (rd l1_1 x5_2)) = true := bne_iff_ne.mpr c25
          obtain rfl := Option.some.inj H
          have hnb29 := NB224_225.out
          have hnc29 := NB225_224.out
          have hcz30_0 : wr.cell? ⟨gb224, 0, none⟩ = some (.int .i64 a0_0) := (blk_cell BK224.out 0).trans rfl
          have hcz30_1 : wr.cell? ⟨gb224, 1, none⟩ = some (.slice A0_1 l0_1.length c0_1) := (blk_cell BK224.out 1).trans rfl
          have hcz30_2 : wr.cell? ⟨gb224, 2, none⟩ = some (.int .i64 a0_2) := (blk_cell BK224.out 2).trans rfl
          have hcz30_3 : wr.cell? ⟨gb224, 3, none⟩ = some (.int .i64 a0_3) := (blk_cell BK224.out 3).trans rfl
          have hfz30_0 := blk_frozen BK224.out 0
          have hfz30_1 := blk_frozen BK224.out 1
          have hfz30_2 := blk_frozen BK224.out 2
          have hfz30_3 := blk_frozen BK224.out 3
          have p226 : 0 ≤ (x5_2 : Int) := of_decide_eq_true (by first | (with_reducible assumption) | assumption)
          have q226 : x5_2 < (l0_1.length : Int) := of_decide_eq_true (by first | (with_reducible assumption) | assumption)
          obtain ⟨ad226, e226, hx226_0⟩ := Kd.at_int HR0_1.out x5_2 p226 q226
          cases e226
          replace hx226_0 := cB HB.out hx226_0
          replace p226 := eq_true p226
          replace q226 := eq_true q226
          have hcz31_0 : wr.cell? ⟨gb225, 0, none⟩ = some (.int .i64 a1_0) := (blk_cell BK225.out 0).trans rfl
          have hcz31_1 : wr.cell? ⟨gb225, 1, none⟩ = some (.slice A1_1 l1_1.length c1_1) := (blk_cell BK225.out 1).trans rfl
          have hcz31_2 : wr.cell? ⟨gb225, 2, none⟩ = some (.int .i64 a1_2) := (blk_cell BK225.out 2).trans rfl
          have hcz31_3 : wr.cell? ⟨gb225, 3, none⟩ = some (.int .i64 a1_3) := (blk_cell BK225.out 3).trans rfl
          have hfz31_0 := blk_frozen BK225.out 0
          have hfz31_1 := blk_frozen BK225.out 1
          have hfz31_2 := blk_frozen BK225.out 2
          have hfz31_3 := blk_frozen BK225.out 3
          have p227 : 0 ≤ (x5_2 : Int) := of_decide_eq_true (by first | (with_reducible assumption) | assumption)
          have q227 : x5_2 < (l1_1.length : Int) := of_decide_eq_true (by first | (with_reducible assumption) | assumption)
          obtain ⟨ad227, e227, hx227_0⟩ := Kd.at_int HR1_1.out x5_2 p227 q227
          cases e227
          replace hx227_0 := cB HB.out hx227_0
          replace p227 := eq_true p227
          replace q227 := eq_true q227
          go_wp2
          repeat (go_quiet (fail); try go_wp2)
          go_ret
          exact ⟨by first | rfl | (simp <;> rfl) | (simp [*] <;> rfl), by repeat (first | (with_reducible first | exact HB.out | apply bA | apply bN | apply bD | refine bS ?_ GE224.out | refine bS ?_ GE225.out) | exact HB.out)⟩
        ·
         rw [if_neg c24] at H
         exact absurd H (by simp)
       ·
        rw [if_neg c23] at H
        exact absurd H (by simp)
      ·
       rw [if_neg c22] at H
       have c22b0 : decide (x5_2 < (l0_1.length : Int)) = false := decide_eq_false c22
       clear c22
       obtain rfl := Option.some.inj H
       have hnb32 := NB224_225.out
       have hnc32 := NB225_224.out
       have hcz33_0 : wr.cell? ⟨gb224, 0, none⟩ = some (.int .i64 a0_0) := (blk_cell BK224.out 0).trans rfl
       have hcz33_1 : wr.cell? ⟨gb224, 1, none⟩ = some (.slice A0_1 l0_1.length c0_1) := (blk_cell BK224.out 1).trans rfl
       have hcz33_2 : wr.cell? ⟨gb224, 2, none⟩ = some (.int .i64 a0_2) := (blk_cell BK224.out 2).trans rfl
       have hcz33_3 : wr.cell? ⟨gb224, 3, none⟩ = some (.int .i64 a0_3) := (blk_cell BK224.out 3).trans rfl
       have hfz33_0 := blk_frozen BK224.out 0
       have hfz33_1 := blk_frozen BK224.out 1
       have hfz33_2 := blk_frozen BK224.out 2
       have hfz33_3 := blk_frozen BK224.out 3
       go_wp2
       repeat (go_quiet (fail); try go_wp2)
       go_ret
       exact ⟨by first | rfl | (simp <;> rfl) | (simp [*] <;> rfl), by repeat (first | (with_reducible first | exact HB.out | apply bA | apply bN | apply bD | refine bS ?_ GE224.out | refine bS ?_ GE225.out) | exact HB.out)⟩

/-! ### ridgewaylaw07_awake: function 10 -/
def ridgewaylaw07_awake.f : Option Bool := some true
def ridgewaylaw07_awake.L : List S24 := [⟨64, 1, [0]⟩, ⟨64, 2, [2, 2, 0, 0, 253, 233, 0, 0, 0, 7]⟩, ⟨64, 3, [10, 0, 0, 1]⟩]
def ridgewaylaw07_awake.b (i : Nat) : List Int := [64, 1, 1, 0, 64, 2, 10, 2, 2, 0, 0, 253, 233, 0, 0, 0, 7, 64, 3, 4, 10, 0, 0, 1].take (if i = 0 then 0 else if i = 1 then 4 else if i = 2 then 17 else 24)
theorem ridgewaylaw07_awake.of : attr_Of.f 200 0 [65001, 7] 167772161 0 = some ridgewaylaw07_awake.L := by kernel_rfl
theorem ridgewaylaw07_awake.put (i : Nat) (h : i < 3) : attr_Put.f 200 (ridgewaylaw07_awake.b i) (rd_T24 ridgewaylaw07_awake.L (i : Int)).f0 (rd_T24 ridgewaylaw07_awake.L (i : Int)).f1 (rd_T24 ridgewaylaw07_awake.L (i : Int)).f2 = some (ridgewaylaw07_awake.b (i + 1)) := by
 rcases i with _ | _ | _ | i
 ·
  kernel_rfl
 ·
  kernel_rfl
 ·
  kernel_rfl
 ·
  omega
theorem ridgewaylaw07_awake.all : attr_All.f 200 (ridgewaylaw07_awake.b 3) = some (ridgewaylaw07_awake.L, true) := by kernel_rfl
theorem ridgewaylaw07_awake.judge : attr_Judge.f ridgewaylaw07_awake.L = some (0, [65001, 7], 167772161, 0, 0, 0, 0, []) := by kernel_rfl
theorem ridgewaylaw07_awake.judge2 : attr_Judge.f [⟨64, 9, []⟩] = some (0, [], 0, 0, 2, 3, 2, [64, 9, 0]) := by kernel_rfl
theorem ridgewaylaw07_awake.same : ridgewayref07_SamePath.f 200 0 [65001, 7] 167772161 0 0 [65001, 7] 167772161 0 = some true := by kernel_rfl
theorem ridgewaylaw07_awake.sane : attr_Sane.f 0 [65001, 7] 167772161 0 = some true := by kernel_rfl
theorem ridgewaylaw07_awake.str : strOfNums (ridgewaylaw07_awake.b 3) = ⟨#[64, 1, 1, 0, 64, 2, 10, 2, 2, 0, 0, 253, 233, 0, 0, 0, 7, 64, 3, 4, 10, 0, 0, 1]⟩ := by kernel_rfl
theorem reads2 (w : World) (x y : Int) : Kd.C (Kd.int .i64) (w.alloc (.cells #[.int .i64 x, .int .i64 y] 3)) (some ⟨w.heap.size, 0, none⟩) 2 [x, y] := by
 have hb := heap_alloc_new w (.cells #[.int .i64 x, .int .i64 y] 3)
 refine ⟨rfl, by simp, fun _ => ⟨_, rfl, fun j p hj => ?_⟩⟩
 rcases j with _ | _ | j
 ·
  simp only [List.getElem?_cons_zero, Option.some.injEq] at hj
  subst hj
  refine ⟨[.int .i64 x], rfl, rfl, fun i u hu => ?_⟩
  rcases i with _ | i
  ·
   simp only [List.getElem?_cons_zero, Option.some.injEq] at hu
   subst hu
   exact (blk_cell hb 0).trans rfl
  ·
   simp at hu
 ·
  simp only [List.getElem?_cons_zero, List.getElem?_cons_succ, Option.some.injEq] at hj
  subst hj
  refine ⟨[.int .i64 y], rfl, rfl, fun i u hu => ?_⟩
  rcases i with _ | i
  ·
   simp only [List.getElem?_cons_zero, Option.some.injEq] at hu
   subst hu
   exact (blk_cell hb 1).trans rfl
  ·
   simp at hu
 ·
  simp at hj
theorem readsA (w : World) (f0 f1 : Int) : Kd.C k24 (w.alloc (.cells #[.int .i64 f0, .int .i64 f1, .slice none 0 0] 24)) (some ⟨w.heap.size, 0, none⟩) 1 [⟨f0, f1, []⟩] := by
 have hb := heap_alloc_new w (.cells #[.int .i64 f0, .int .i64 f1, .slice none 0 0] 24)
 refine ⟨rfl, by simp, fun _ => ⟨_, rfl, fun j p hj => ?_⟩⟩
 rcases j with _ | j
 ·
  simp only [List.getElem?_cons_zero, Option.some.injEq] at hj
  subst hj
  refine ⟨_, ?_, k24_mk _ (⟨f0, f1, []⟩ : S24) (A2 := none) (c2 := 0) (Nat.le_refl _) (Kd.C_nil _ _), fun i u hu => ?_⟩
  ·
   rfl
  rcases i with _ | _ | _ | i
  ·
   simp only [List.getElem?_cons_zero, Option.some.injEq] at hu
   subst hu
   exact (blk_cell hb 0).trans rfl
  ·
   simp only [List.getElem?_cons_zero, List.getElem?_cons_succ, Option.some.injEq] at hu
   subst hu
   exact (blk_cell hb 1).trans rfl
  ·
   simp only [List.getElem?_cons_zero, List.getElem?_cons_succ, Option.some.injEq] at hu
   subst hu
   exact (blk_cell hb 2).trans rfl
  ·
   simp at hu
 ·
  simp at hj
def AwI (w : World) (A1 : Option Addr) (c1 : Nat) (L : List S24) (W : World) : Prop :=
 Below w.heap.size w W ∧ W.heap[w.heap.size + 1]? = some (.cells #[.int .i64 0, .slice (some ⟨w.heap.size, 0, none⟩) 2 2, .int .i64 167772161, .int .i64 0] 27 (0, 0)) ∧ Kd.C (Kd.int .i64) W (some ⟨w.heap.size, 0, none⟩) 2 [65001, 7] ∧ Kd.C k24 W A1 L.length L ∧ L.length ≤ c1
theorem AwI.below {w : World} {A1 : Option Addr} {c1 : Nat} {L : List S24} {W W' : World} (h : AwI w A1 c1 L W) (hb : Below W.heap.size W W') : AwI w A1 c1 L W' :=
 ⟨below_step h.1 hb, blk_below h.2.1 hb, Kd.C_below h.2.2.1 hb, Kd.C_below h.2.2.2.1 hb, h.2.2.2.2⟩
set_option maxHeartbeats 8000000 in
set_option maxRecDepth 100000 in
theorem ridgewaylaw07_awake.calls (r : Bool) (w : World) (h : ridgewaylaw07_awake.f = some r) :
  Calls Try.prog 10 #[] w fun e w' => e = .returned (.bool r) ∧ Below w.heap.size w w' := by
 obtain rfl := Option.some.inj h
 obtain ⟨L, hL⟩ : ∃ L, L = ridgewaylaw07_awake.L := ⟨_, rfl⟩
 obtain ⟨b, hb⟩ : ∃ b, b = ridgewaylaw07_awake.b := ⟨_, rfl⟩
 have H1 := Aside0.mk ridgewaylaw07_awake.of
 have H2 := Aside0.mk ridgewaylaw07_awake.put
 have H3 := Aside0.mk ridgewaylaw07_awake.all
 have H4 := Aside0.mk ridgewaylaw07_awake.judge
 have H6 := Aside0.mk ridgewaylaw07_awake.str
 have hL3 : L.length = 3 := by rw [hL]; rfl
 have b0 : b 0 = [] := by rw [hb]; rfl
 have hbl : ∀ i, (b i).length ≤ 24 := fun i => by rw [hb]; exact Nat.le_trans (List.length_take_le _ _) (by split <;> (try split) <;> (try split) <;> decide)
 rw [← hL] at H1 H2 H3 H4
 rw [← hb] at H2 H3 H6
 have HB0 := Aside0.mk b0
 have HBL := Aside0.mk hbl
 have HR2 := Aside0.mk (reads2 w 65001 7)
 have HL3 := Aside0.mk hL3
 clear hL hb h b0 hbl hL3
 go_enter Try.func10, Try.ntmps10
 obtain ⟨WA, hWA⟩ : ∃ WA, WA = (w.alloc (.cells #[.int .i64 65001, .int .i64 7] 3)).alloc (.cells #[.int .i64 0, .slice (some ⟨w.heap.size, 0, none⟩) 2 2, .int .i64 167772161, .int .i64 0] 27) := ⟨_, rfl⟩
 have hP := heap_alloc_new (w.alloc (.cells #[.int .i64 65001, .int .i64 7] 3)) (.cells #[.int .i64 0, .slice (some ⟨w.heap.size, 0, none⟩) 2 2, .int .i64 167772161, .int .i64 0] 27)
 rw [World.size_alloc] at hP
 have HP := Aside0.mk hP
 have HW := Aside0.mk (below_alloc (below_alloc (Below.refl w.heap.size w) (.cells #[.int .i64 65001, .int .i64 7] 3)) (.cells #[.int .i64 0, .slice (some ⟨w.heap.size, 0, none⟩) 2 2, .int .i64 167772161, .int .i64 0] 27))
 have HRA := Aside0.mk (Kd.C_alloc HR2.out (.cells #[.int .i64 0, .slice (some ⟨w.heap.size, 0, none⟩) 2 2, .int .i64 167772161, .int .i64 0] 27))
 clear hP hWA
 go_wp2_with (first
  | (go_at_call 20; (have hh := attr_Of.calls 200 0 (some ⟨w.heap.size, 0, none⟩) 2 [65001, 7] 167772161 0 L _ HRA.out (Nat.le_refl _) H1.out; (try simp only [List.length_cons, List.length_nil, Nat.zero_add, Nat.reduceAdd] at hh); (with_reducible refine hh.mono ?_); clear hh; rintro e w1 ⟨v1, rfl, hN1, hb1⟩; obtain ⟨A1, c1, rfl⟩ := Kd.N_slice hN1; have HN1 := Aside0.mk hN1; have K1 := Aside0.mk hb1; clear hN1 hb1)))
 have HI := Aside0.mk (show AwI w A1 c1 L w1 from ⟨below_step HW.out K1.out, blk_below HP.out K1.out, Kd.C_below HRA.out K1.out, (Kd.N_reads' HN1.out).2.2, (Kd.N_reads' HN1.out).2.1⟩)
 clear HW K1 HN1 HRA HP HR2
 go_loopg [3, 4] 3 (fun kq v3 v4 w' => ∃ (i : Nat) (A : Option Addr) (c : Nat), v4 = .int .i64 (i : Int) ∧ v3 = .slice A (b i).length c ∧ Aside0 (i + kq = 3) ∧ Aside0 (Kd.V (Kd.int .u8) 5 w' 0 (fun k => w.heap.size ≤ k) (.slice A (b i).length c) (b i)) ∧ Aside0 (AwI w A1 c1 L w'))
 case atStart => exact ⟨0, none, 0, rfl, by rw [HB0.out]; rfl, ⟨rfl⟩, ⟨by rw [HB0.out]; exact Kd.V_nil _ _ _ _ _⟩, HI⟩
 case round =>
  clear HI
  obtain ⟨i, A, c, rfl, rfl, hik, HV, HI⟩ := hrel
  have hl3 := HL3.out
  have hik' := hik.out
  by_cases c3 : i < 3
  ·
   cases gk with
   | zero => omega
   | succ k1 =>
   have d1 : decide (i < L.length) = true := decide_eq_true (by omega)
   have d2 : (i : Int) < (L.length : Int) := by omega
   obtain ⟨ad, A2, c2, e, x0, x1, x2, hl2, hi2⟩ := at_T24 HI.out.2.2.2.1 (i : Int) (by omega) (by omega)
   subst e
   simp only [Int.toNat_natCast] at x0 x1 x2
   have HL2 := Aside0.mk hl2
   have HI2 := Aside0.mk hi2
   have HPt := Aside0.mk (H2.out i c3)
   have ib : (i : Int) ≤ 100 := by omega
   clear hl2 hi2 hik' hl3
   go_wp2_with (first
    | (go_at_call 16; (have hh := attr_Put.calls 200 A c (b i) (rd_T24 L (i : Int)).f0 (rd_T24 L (i : Int)).f1 A2 c2 (rd_T24 L (i : Int)).f2 (b (i + 1)) wr (Kd.V_reads' HV.out).2.2 (Kd.V_reads' HV.out).2.1 HI2.out HL2.out HPt.out; (try simp only [List.length_cons, List.length_nil, Nat.zero_add, Nat.reduceAdd] at hh); (with_reducible refine hh.mono ?_); clear hh; rintro e w2 ⟨v7, rfl, hR7, hb7⟩; obtain ⟨A7, c7, rfl⟩ := Kd.V_slice (Kd.R_V (base' := 0) hR7); have HI7 := Aside0.mk (HI.out.below hb7); have HV7 := Aside0.mk (show Kd.V (Kd.int .u8) 5 w2 0 (fun k => w.heap.size ≤ k) (.slice A7 (b (i + 1)).length c7) (b (i + 1)) from Kd.V_mono (Kd.R_V (Kd.R_mono (Kd.R_bound hR7) (fun _ hk => hk.2.1))) (fun k hk => Nat.le_trans HI.out.1.size hk)); clear hR7 hb7)))
   go_roundg k1
   case measure => omega
   case rel => exact ⟨i + 1, A7, c7, by rw [Int.natCast_add]; rfl, rfl, ⟨by have := hik.out; omega⟩, HV7, HI7⟩
  ·
   have hi3 : i = 3 := by omega
   subst hi3
   have d1 : decide (3 < L.length) = false := decide_eq_false (by omega)
   have d2 : decide ((3 : Int) < (L.length : Int)) = false := decide_eq_false (by omega)
   have hpp := HI.out.2.1
   clear hl3 hik' c3
   go_wp2_with (first
    | (go_at_call 13; (have hh := attr_All.calls 200 (fun k => w.heap.size ≤ k) A c (b 3) L true wr HV.out H3.out; (try simp only [List.length_cons, List.length_nil, Nat.zero_add, Nat.reduceAdd] at hh); (with_reducible refine hh.mono ?_); clear hh; rintro e w2 ⟨v8, rfl, hN8, hb8⟩; obtain ⟨A8, c8, rfl⟩ := Kd.N_slice hN8; have HI8 := Aside0.mk (HI.out.below hb8); have HV8 := Aside0.mk (Kd.V_below HV.out hb8); have HN8 := Aside0.mk (Kd.N_reads' hN8); clear hN8 hb8))
    | (go_at_call 23; (have hh := attr_Judge.calls A8 c8 L 0 [65001, 7] 167772161 0 0 0 0 [] _ HN8.out.2.2 HN8.out.2.1 H4.out; (try simp only [List.length_cons, List.length_nil, Nat.zero_add, Nat.reduceAdd] at hh); (with_reducible refine hh.mono ?_); clear hh; rintro e w3 ⟨v9, v10, rfl, hV9, hV10, hb9⟩; obtain ⟨A9, c9, rfl⟩ := Kd.V_slice hV9; obtain ⟨A10, c10, rfl⟩ := Kd.V_slice hV10; have HI9 := Aside0.mk (HI8.out.below hb9); have HV9 := Aside0.mk (Kd.V_below HV8.out hb9); have HJ9 := Aside0.mk (Kd.V_reads' hV9); clear hV9 hV10 hb9))
    | (go_at_call 23; (have hC := readsA ((w3.alloc (.cells #[.int .i64 0, .slice A9 2 c9, .int .i64 167772161, .int .i64 0] 27)).alloc (.cells #[.int .i64 0, .int .i64 0, .slice A10 0 c10] 41)) 64 9; rw [World.size_alloc, World.size_alloc] at hC; have hh := attr_Judge.calls (some ⟨w3.heap.size + 1 + 1, 0, none⟩) 1 [⟨64, 9, []⟩] 0 [] 0 0 2 3 2 [64, 9, 0] (((w3.alloc (.cells #[.int .i64 0, .slice A9 2 c9, .int .i64 167772161, .int .i64 0] 27)).alloc (.cells #[.int .i64 0, .int .i64 0, .slice A10 0 c10] 41)).alloc (.cells #[.int .i64 64, .int .i64 9, .slice none 0 0] 24)) hC (Nat.le_refl _) ridgewaylaw07_awake.judge2; (try simp only [List.length_cons, List.length_nil, Nat.zero_add, Nat.reduceAdd] at hh); (with_reducible refine hh.mono ?_); clear hh; rintro e w4 ⟨v11, v12, rfl, hV11, hV12, hb12⟩; obtain ⟨A11, c11, rfl⟩ := Kd.V_slice hV11; obtain ⟨A12, c12, rfl⟩ := Kd.V_slice hV12; simp only [List.length_cons, List.length_nil, Nat.zero_add, Nat.reduceAdd]; have hbX : Below w3.heap.size w3 (((w3.alloc (.cells #[.int .i64 0, .slice A9 2 c9, .int .i64 167772161, .int .i64 0] 27)).alloc (.cells #[.int .i64 0, .int .i64 0, .slice A10 0 c10] 41)).alloc (.cells #[.int .i64 64, .int .i64 9, .slice none 0 0] 24)) := below_alloc (below_alloc (below_alloc (Below.refl _ _) _) _) _; have HI12 := Aside0.mk ((HI9.out.below hbX).below hb12); have qX := blk_below (blk_alloc (blk_alloc (heap_alloc_new w3 (.cells #[.int .i64 0, .slice A9 2 c9, .int .i64 167772161, .int .i64 0] 27)) (.cells #[.int .i64 0, .int .i64 0, .slice A10 0 c10] 41)) (.cells #[.int .i64 64, .int .i64 9, .slice none 0 0] 24)) hb12; have qY0 := heap_alloc_new (w3.alloc (.cells #[.int .i64 0, .slice A9 2 c9, .int .i64 167772161, .int .i64 0] 27)) (.cells #[.int .i64 0, .int .i64 0, .slice A10 0 c10] 41); rw [World.size_alloc] at qY0; have qY := blk_below (blk_alloc qY0 (.cells #[.int .i64 64, .int .i64 9, .slice none 0 0] 24)) hb12; have qP := HI12.out.2.1; have zX := blk_lt qX; have zY := blk_lt qY; have zP := blk_lt qP; have zP0 : w.heap.size < w4.heap.size := Nat.lt_of_succ_lt zP; have q0 : w4.cell? ⟨w3.heap.size, 0, none⟩ = some (.int .i64 0) := (blk_cell qX 0).trans rfl; have q1 : w4.cell? ⟨w3.heap.size, 1, none⟩ = some (.slice A9 2 c9) := (blk_cell qX 1).trans rfl; have q2 : w4.cell? ⟨w3.heap.size, 2, none⟩ = some (.int .i64 167772161) := (blk_cell qX 2).trans rfl; have q3 : w4.cell? ⟨w3.heap.size, 3, none⟩ = some (.int .i64 0) := (blk_cell qX 3).trans rfl; have e0 : w4.cell? ⟨w3.heap.size + 1, 0, none⟩ = some (.int .i64 0) := (blk_cell qY 0).trans rfl; have p0 : w4.cell? ⟨w.heap.size + 1, 0, none⟩ = some (.int .i64 0) := (blk_cell qP 0).trans rfl; have p1 : w4.cell? ⟨w.heap.size + 1, 1, none⟩ = some (.slice (some ⟨w.heap.size, 0, none⟩) 2 2) := (blk_cell qP 1).trans rfl; have p2 : w4.cell? ⟨w.heap.size + 1, 2, none⟩ = some (.int .i64 167772161) := (blk_cell qP 2).trans rfl; have p3 : w4.cell? ⟨w.heap.size + 1, 3, none⟩ = some (.int .i64 0) := (blk_cell qP 3).trans rfl; have hb5 : Below w4.heap.size w4 ((w4.alloc (.cells #[.int .i64 0, .slice A11 0 c11, .int .i64 0, .int .i64 0] 27)).alloc (.cells #[.int .i64 3, .int .i64 2, .slice A12 3 c12] 41)) := below_alloc (below_alloc (Below.refl _ _) _) _; have HI5 := Aside0.mk (HI12.out.below hb5); have hcs := Kd.C_string (P := Try.prog) (src := 22) (dst := 9) (c := c) Try.underlying22 Try.underlying5 rfl (Kd.V_reads' (Kd.V_below (Kd.V_below (Kd.V_below HV9.out hbX) hb12) hb5)).2.2; rw [H6.out] at hcs; have HQ5 := Aside0.mk (Kd.C_below (Kd.C_below (Kd.C_below HJ9.out.2.2 hbX) hb12) hb5); clear hV11 hV12 hb12 hC hbX qX qY0 qY qP hb5))
    | (go_at_call 25; (have hh := ridgewayref07_SamePath.calls 200 0 (some ⟨w.heap.size, 0, none⟩) 2 [65001, 7] 167772161 0 0 A9 c9 [65001, 7] 167772161 0 true ((w4.alloc (.cells #[.int .i64 0, .slice A11 0 c11, .int .i64 0, .int .i64 0] 27)).alloc (.cells #[.int .i64 3, .int .i64 2, .slice A12 3 c12] 41)) HI5.out.2.2.1 (Nat.le_refl _) HQ5.out HJ9.out.2.1 ridgewaylaw07_awake.same; (try simp only [List.length_cons, List.length_nil, Nat.zero_add, Nat.reduceAdd] at hh); (with_reducible refine hh.mono ?_); clear hh; rintro e w6 ⟨rfl, hb6⟩; have HI6 := Aside0.mk (HI5.out.below hb6); have r0 : w6.cell? ⟨w.heap.size + 1, 0, none⟩ = some (.int .i64 0) := (blk_cell HI6.out.2.1 0).trans rfl; have r1 : w6.cell? ⟨w.heap.size + 1, 1, none⟩ = some (.slice (some ⟨w.heap.size, 0, none⟩) 2 2) := (blk_cell HI6.out.2.1 1).trans rfl; have r2 : w6.cell? ⟨w.heap.size + 1, 2, none⟩ = some (.int .i64 167772161) := (blk_cell HI6.out.2.1 2).trans rfl; have r3 : w6.cell? ⟨w.heap.size + 1, 3, none⟩ = some (.int .i64 0) := (blk_cell HI6.out.2.1 3).trans rfl; have f0 := heap_alloc_new (w4.alloc (.cells #[.int .i64 0, .slice A11 0 c11, .int .i64 0, .int .i64 0] 27)) (.cells #[.int .i64 3, .int .i64 2, .slice A12 3 c12] 41); rw [World.size_alloc] at f0; have f1 := blk_below f0 hb6; have f2 : w6.cell? ⟨w4.heap.size + 1, 1, none⟩ = some (.int .i64 2) := (blk_cell f1 1).trans rfl; clear hb6 f0 f1))
    | (go_at_call 18; (have hh := attr_Sane.calls 0 (some ⟨w.heap.size, 0, none⟩) 2 [65001, 7] 167772161 0 true w6 HI6.out.2.2.1 (Nat.le_refl _) ridgewaylaw07_awake.sane; (try simp only [List.length_cons, List.length_nil, Nat.zero_add, Nat.reduceAdd] at hh); (with_reducible refine hh.mono ?_); clear hh; rintro e w7 ⟨rfl, hb7⟩; have HI7 := Aside0.mk (HI6.out.below hb7); clear hb7)))
   go_ret
   exact ⟨rfl, HI7.out.1⟩

end Go.Proofs.Ytfmhclbcoladpaa.E
