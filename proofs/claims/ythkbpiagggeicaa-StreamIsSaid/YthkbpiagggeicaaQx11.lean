/- Each call of a Go function comes to what the Lean function of its name answers (written out by wip/tools/xprint.py, checked by Lean); conditions: those in each statement. -/
import Derived.Test.YthkbpiagggeicaaQx0
import Derived.Test.YthkbpiagggeicaaQx4
import Derived.Test.YthkbpiagggeicaaQx10
namespace Go.Proofs.Ythkbpiagggeicaa.Q
open Go.RowKit Go.Proofs.YthkbpiagggeicaaW.PrintWords Go.Proofs.YthkbpiagggeicaaW.PrintLast Go.Proofs.YthkbpiagggeicaaW.PrintMore Go.Proofs.YthkbpiagggeicaaW.PrintX
attribute [local go_sem] max2_int min2_int max_two min_two max_three min_three max_four min_four   -- for this text's walks alone
set_option linter.unusedVariables false
set_option linter.unusedSimpArgs false

/-! ### ridgewayref04_Sane: function 11 -/
def ridgewayref04_Sane.f (k : Nat) (l0_0 : List Int) (a0_1 : Bool) : Option (Bool) := if a0_1 = true then (some ((l0_0.length : Int) == 0)) else ((ridgewayref03_Get.f k l0_0).bind fun bt302 => (if bt302.2.2.1 = 0 then (some (bt302.2.2.2.1 == 0)) else (some false)))
theorem ridgewayref04_Sane.mono : ∀ a0 a1 k, LeO (ridgewayref04_Sane.f k a0 a1) (ridgewayref04_Sane.f (k + 1) a0 a1) := by
 intro a0 a1 k
 unfold ridgewayref04_Sane.f
 repeat' first
   | (with_reducible exact ridgewayref03_Get.mono _ _)
   | (with_reducible exact LeO.refl _)
   | (with_reducible exact LeO.none _)
   | (with_reducible refine LeO.ite ?_ ?_)
   | (with_reducible refine LeO.bind ?_ (fun _ => ?_))
   | exact ridgewayref03_Get.mono _ _
   | exact LeO.none _
   | refine LeO.ite ?_ ?_
   | refine LeO.bind ?_ (fun _ => ?_)
set_option maxHeartbeats 8000000 in
set_option maxRecDepth 100000 in
theorem ridgewayref04_Sane.calls (k : Nat) (A0_0 : Option Addr) (c0_0 : Nat) (l0_0 : List Int) (a0_1 : Bool) (r : Bool) (w : World) (hr0_0 : Kd.C (Kd.int .u8) w A0_0 l0_0.length l0_0) (hc0_0 : l0_0.length ≤ c0_0) (h : ridgewayref04_Sane.f k l0_0 a0_1 = some r) :
  Calls Try.prog 11 #[.agg #[.slice A0_0 l0_0.length c0_0, .bool a0_1]] w fun e w' => e = .returned (.bool r) ∧ Below w.heap.size w w' := by
 have hu24 := Try.underlying24
 have hu43 := Try.underlying43
 have hu29 := Try.underlying29
 have HR0_0 := Aside0.mk hr0_0
 have HC0_0 := Aside0.mk hc0_0
 clear hr0_0 hc0_0
 have HB := Aside0.mk (Below.refl w.heap.size w)
 have H : (if a0_1 = true then (some ((l0_0.length : Int) == 0)) else ((ridgewayref03_Get.f k l0_0).bind fun bt302 => (if bt302.2.2.1 = 0 then (some (bt302.2.2.2.1 == 0)) else (some false)))) = some r := h
 clear h
 by_cases c2 : a0_1 = true
 ·
  subst c2
  have H1 : (some ((l0_0.length : Int) == 0)) = some r := by rw [if_pos rfl] at H; first | done | exact H
  clear H
  have H := H1
  clear H1
  obtain rfl := Option.some.inj H
  go_enter Try.func11, Try.ntmps11
  go_wp2_with (first | ((with_reducible refine gate_dst (N := 1) rfl ?_); refine box_event ?hg (N := 1) ?hd (cs := #[.slice A0_0 l0_0.length c0_0, .bool true]) (t := 24) ?hr ?_; (case hd => rfl); (case hg => rfl); (case hr => first | (go_simp; done) | (go_simp; rfl)); intro gb301 hg w3 hbox hb; have n0_ := Aside0.mk (below_step (by repeat (first | (with_reducible first | exact HB.out | apply bA | apply bN | apply bD) | exact HB.out)) hb); have n1_ := Aside0.mk (hbox); have n2_ := Aside0.mk ((by rw [hg]; exact (below_size (by repeat (first | (with_reducible first | exact HB.out | apply bA | apply bN | apply bD) | exact HB.out))) : w.heap.size ≤ gb301)); have n3_ := Aside0.mk ((by rw [hg]; exact (below_size (by repeat (first | (with_reducible first | exact HB.out | apply bA | apply bN | apply bD) | exact HB.out))) : w.heap.size ≤ gb301)); clear HB; have HB := n0_; have BK301 := n1_; have GW301 := n2_; have GE301 := n3_; clear n0_ n1_ n2_ n3_; clear hb hbox hg; have hcz4_0 : w3.cell? ⟨gb301, 0, none⟩ = some (.slice A0_0 l0_0.length c0_0) := (blk_cell BK301.out 0).trans rfl; have hcz4_1 : w3.cell? ⟨gb301, 1, none⟩ = some (.bool true) := (blk_cell BK301.out 1).trans rfl; have hfz4_0 := blk_frozen BK301.out 0; have hfz4_1 := blk_frozen BK301.out 1))
  go_ret
  exact ⟨by first | rfl | (simp <;> rfl) | (simp [*] <;> rfl), by repeat (first | (with_reducible first | exact HB.out | apply bA | apply bN | apply bD | refine bS ?_ GE301.out) | exact HB.out)⟩
 ·
  replace c2 := Bool.eq_false_iff.mpr c2
  subst c2
  have H1 : ((ridgewayref03_Get.f k l0_0).bind fun bt302 => (if bt302.2.2.1 = 0 then (some (bt302.2.2.2.1 == 0)) else (some false))) = some r := by rw [if_neg (show ¬ (false = true) by decide)] at H; first | done | exact H
  clear H
  have H := H1
  clear H1
  replace H := Option.bind_eq_some_iff.mp H
  obtain ⟨⟨t302, t303, t306, t307, t308, t309⟩, A50, H⟩ := H
  replace H : (if t306 = 0 then (some (t307 == 0)) else (some false)) = some r := H
  have A5 := Aside0.mk A50
  clear A50
  by_cases c6 : t306 = 0
  ·
   rw [if_pos c6] at H
   have c6b0 : (t306 == 0) = true := beq_iff_eq.mpr c6
   have c6b1 : (t306 != 0) = false := bne_eq_false_iff_eq.mpr c6
   clear c6
   obtain rfl := Option.some.inj H
   go_enter Try.func11, Try.ntmps11
   go_wp2_with (first | ((with_reducible refine gate_dst (N := 1) rfl ?_); refine box_event ?hg (N := 1) ?hd (cs := #[.slice A0_0 l0_0.length c0_0, .bool false]) (t := 24) ?hr ?_; (case hd => rfl); (case hg => rfl); (case hr => first | (go_simp; done) | (go_simp; rfl)); intro gb301 hg w7 hbox hb; have n0_ := Aside0.mk (below_step (by repeat (first | (with_reducible first | exact HB.out | apply bA | apply bN | apply bD) | exact HB.out)) hb); have n1_ := Aside0.mk (hbox); have n2_ := Aside0.mk ((by rw [hg]; exact (below_size (by repeat (first | (with_reducible first | exact HB.out | apply bA | apply bN | apply bD) | exact HB.out))) : w.heap.size ≤ gb301)); have n3_ := Aside0.mk ((by rw [hg]; exact (below_size (by repeat (first | (with_reducible first | exact HB.out | apply bA | apply bN | apply bD) | exact HB.out))) : w.heap.size ≤ gb301)); clear HB; have HB := n0_; have BK301 := n1_; have GW301 := n2_; have GE301 := n3_; clear n0_ n1_ n2_ n3_; clear hb hbox hg; have hcz8_0 : w7.cell? ⟨gb301, 0, none⟩ = some (.slice A0_0 l0_0.length c0_0) := (blk_cell BK301.out 0).trans rfl; have hcz8_1 : w7.cell? ⟨gb301, 1, none⟩ = some (.bool false) := (blk_cell BK301.out 1).trans rfl; have hfz8_0 := blk_frozen BK301.out 0; have hfz8_1 := blk_frozen BK301.out 1) | ((with_reducible refine gate_callee (f := 19) rfl ?_); refine goesL_ (some 15) rfl rfl Try.func19 (by kernel_rfl) rfl #[.slice A0_0 l0_0.length c0_0] rfl (by (try simp only [List.map_toArray, List.map_cons, List.map_nil]); first | done | rfl | (simp only [List.length_drop, List.length_take]; rfl)) ?_; (with_reducible refine (ridgewayref03_Get.calls k (fun k_ => k_ < w.heap.size) _ _ l0_0 t302 t303 t306 t307 t308 t309 _ ?side1 A5.out).mono ?_); (case side1 => exact Kd.V_mk HC0_0.out (Kd.F_below (Kd.C_F (Kd.heap_int .u8) HR0_0.out) (by repeat (first | (with_reducible first | exact HB.out | apply bA | apply bN | apply bD | refine bS ?_ GE301.out) | exact HB.out)))); rintro e w9 ⟨v304, v310, rfl, ho0, ho1, hb⟩; refine ⟨_, rfl, ?_⟩; have n0_ := Aside0.mk (Kd.V_lower (Kd.V_mono (ok' := fun k_ => k_ ≠ gb301) ho0 (fun k_ hk_ => Or.elim hk_ (fun hs_ => fun e_ => Nat.not_le.2 hs_ (by rw [e_]; exact GW301.out)) (fun hn_ => (Kd.freshB (g := gb301) (o := .cells #[.slice A0_0 l0_0.length c0_0, .bool false] 24 (0, 0)) (by (with_reducible repeat (first | refine kN ?_ _ | refine kD ?_ | refine kA ?_ _)); exact BK301.out) k_ hn_)))) (below_size (by repeat (first | (with_reducible first | exact HB.out | apply bA | apply bN | apply bD | refine bS ?_ GE301.out) | exact HB.out)))); have n1_ := Aside0.mk (Kd.V_lower (Kd.V_mono (ok' := fun k_ => k_ ≠ gb301) ho1 (fun k_ hk_ => Or.elim hk_ (fun hs_ => fun e_ => Nat.not_le.2 hs_ (by rw [e_]; exact GW301.out)) (fun hn_ => (Kd.freshB (g := gb301) (o := .cells #[.slice A0_0 l0_0.length c0_0, .bool false] 24 (0, 0)) (by (with_reducible repeat (first | refine kN ?_ _ | refine kD ?_ | refine kA ?_ _)); exact BK301.out) k_ hn_)))) (below_size (by repeat (first | (with_reducible first | exact HB.out | apply bA | apply bN | apply bD | refine bS ?_ GE301.out) | exact HB.out)))); have n2_ := Aside0.mk (blk_below (g := gb301) (o := .cells #[.slice A0_0 l0_0.length c0_0, .bool false] 24 (0, 0)) (by (with_reducible repeat (first | refine kN ?_ _ | refine kD ?_ | refine kA ?_ _)); exact BK301.out) hb); have n3_ := Aside0.mk (below_step (by repeat (first | (with_reducible first | exact HB.out | apply bA | apply bN | apply bD | refine bS ?_ GE301.out) | exact HB.out)) hb); clear BK301; clear HB; have HO305 := n0_; have HO311 := n1_; have BK301 := n2_; have HB := n3_; clear n0_ n1_ n2_ n3_; (try clear hb); (try clear hb2); (try clear hk); (try clear hi); (try clear ho0); (try clear ho1)) | ((with_reducible refine gate_dst (N := 3) rfl ?_); refine box_event ?hg (N := 3) ?hd (cs := #[.int .i64 0, .slice none 0 0]) (t := 43) ?hr ?_; (case hd => rfl); (case hg => rfl); (case hr => first | (go_simp; done) | (go_simp; rfl)); intro gb312 hg w10 hbox hb; have n0_ := Aside0.mk (Kd.V_below (Kd.V_elderB (by (with_reducible repeat (first | apply Kd.V_alloc | apply Kd.V_drewN | apply Kd.V_drew)); exact HO305.out) gb312 (Nat.le_of_eq hg.symm)) hb); have n1_ := Aside0.mk (Kd.V_below (Kd.V_elderB (by (with_reducible repeat (first | apply Kd.V_alloc | apply Kd.V_drewN | apply Kd.V_drew)); exact HO311.out) gb312 (Nat.le_of_eq hg.symm)) hb); have n2_ := Aside0.mk (blk_below (g := gb301) (o := .cells #[.slice A0_0 l0_0.length c0_0, .bool false] 24 (0, 0)) (by (with_reducible repeat (first | refine kN ?_ _ | refine kD ?_ | refine kA ?_ _)); exact BK301.out) hb); have n3_ := Aside0.mk (below_step (by repeat (first | (with_reducible first | exact HB.out | apply bA | apply bN | apply bD | refine bS ?_ GE301.out) | exact HB.out)) hb); have n4_ := Aside0.mk (hbox); have n5_ := Aside0.mk ((by rw [hg]; exact (below_size (by repeat (first | (with_reducible first | exact HB.out | apply bA | apply bN | apply bD | refine bS ?_ GE301.out) | exact HB.out))) : w.heap.size ≤ gb312)); have n6_ := Aside0.mk ((by rw [hg]; exact (below_size (by repeat (first | (with_reducible first | exact HB.out | apply bA | apply bN | apply bD | refine bS ?_ GE301.out) | exact HB.out))) : w.heap.size ≤ gb312)); have n7_ := Aside0.mk ((by rw [hg]; exact Nat.ne_of_lt (blk_lt (g := gb301) (o := .cells #[.slice A0_0 l0_0.length c0_0, .bool false] 24 (0, 0)) (by (with_reducible repeat (first | refine kN ?_ _ | refine kD ?_ | refine kA ?_ _)); exact BK301.out)) : gb301 ≠ gb312)); have n8_ := Aside0.mk ((by rw [hg]; exact Nat.ne_of_gt (blk_lt (g := gb301) (o := .cells #[.slice A0_0 l0_0.length c0_0, .bool false] 24 (0, 0)) (by (with_reducible repeat (first | refine kN ?_ _ | refine kD ?_ | refine kA ?_ _)); exact BK301.out)) : gb312 ≠ gb301)); clear HO305; clear HO311; clear BK301; clear HB; have HO305 := n0_; have HO311 := n1_; have BK301 := n2_; have HB := n3_; have BK312 := n4_; have GW312 := n5_; have GE312 := n6_; have NB301_312 := n7_; have NB312_301 := n8_; clear n0_ n1_ n2_ n3_ n4_ n5_ n6_ n7_ n8_; clear hb hbox hg) | ((with_reducible refine gate_dst (N := 5) rfl ?_); refine box_event ?hg (N := 5) ?hd (cs := #[.int .i64 0, .int .i64 0, .slice none 0 0]) (t := 29) ?hr ?_; (case hd => rfl); (case hg => rfl); (case hr => first | (go_simp; done) | (go_simp; rfl)); intro gb313 hg w11 hbox hb; have n0_ := Aside0.mk (Kd.V_below (Kd.V_elderB (by (with_reducible repeat (first | apply Kd.V_alloc | apply Kd.V_drewN | apply Kd.V_drew)); exact HO305.out) gb313 (Nat.le_of_eq hg.symm)) hb); have n1_ := Aside0.mk (Kd.V_below (Kd.V_elderB (by (with_reducible repeat (first | apply Kd.V_alloc | apply Kd.V_drewN | apply Kd.V_drew)); exact HO311.out) gb313 (Nat.le_of_eq hg.symm)) hb); have n2_ := Aside0.mk (blk_below (g := gb301) (o := .cells #[.slice A0_0 l0_0.length c0_0, .bool false] 24 (0, 0)) (by (with_reducible repeat (first | refine kN ?_ _ | refine kD ?_ | refine kA ?_ _)); exact BK301.out) hb); have n3_ := Aside0.mk (blk_below (g := gb312) (o := .cells #[.int .i64 0, .slice none 0 0] 43 (0, 0)) (by (with_reducible repeat (first | refine kN ?_ _ | refine kD ?_ | refine kA ?_ _)); exact BK312.out) hb); have n4_ := Aside0.mk (below_step (by repeat (first | (with_reducible first | exact HB.out | apply bA | apply bN | apply bD | refine bS ?_ GE301.out | refine bS ?_ GE312.out) | exact HB.out)) hb); have n5_ := Aside0.mk (hbox); have n6_ := Aside0.mk ((by rw [hg]; exact (below_size (by repeat (first | (with_reducible first | exact HB.out | apply bA | apply bN | apply bD | refine bS ?_ GE301.out | refine bS ?_ GE312.out) | exact HB.out))) : w.heap.size ≤ gb313)); have n7_ := Aside0.mk ((by rw [hg]; exact (below_size (by repeat (first | (with_reducible first | exact HB.out | apply bA | apply bN | apply bD | refine bS ?_ GE301.out | refine bS ?_ GE312.out) | exact HB.out))) : w.heap.size ≤ gb313)); have n8_ := Aside0.mk ((by rw [hg]; exact Nat.ne_of_lt (blk_lt (g := gb301) (o := .cells #[.slice A0_0 l0_0.length c0_0, .bool false] 24 (0, 0)) (by (with_reducible repeat (first | refine kN ?_ _ | refine kD ?_ | refine kA ?_ _)); exact BK301.out)) : gb301 ≠ gb313)); have n9_ := Aside0.mk ((by rw [hg]; exact Nat.ne_of_gt (blk_lt (g := gb301) (o := .cells #[.slice A0_0 l0_0.length c0_0, .bool false] 24 (0, 0)) (by (with_reducible repeat (first | refine kN ?_ _ | refine kD ?_ | refine kA ?_ _)); exact BK301.out)) : gb313 ≠ gb301)); have n10_ := Aside0.mk ((by rw [hg]; exact Nat.ne_of_lt (blk_lt (g := gb312) (o := .cells #[.int .i64 0, .slice none 0 0] 43 (0, 0)) (by (with_reducible repeat (first | refine kN ?_ _ | refine kD ?_ | refine kA ?_ _)); exact BK312.out)) : gb312 ≠ gb313)); have n11_ := Aside0.mk ((by rw [hg]; exact Nat.ne_of_gt (blk_lt (g := gb312) (o := .cells #[.int .i64 0, .slice none 0 0] 43 (0, 0)) (by (with_reducible repeat (first | refine kN ?_ _ | refine kD ?_ | refine kA ?_ _)); exact BK312.out)) : gb313 ≠ gb312)); clear HO305; clear HO311; clear BK301; clear BK312; clear HB; have HO305 := n0_; have HO311 := n1_; have BK301 := n2_; have BK312 := n3_; have HB := n4_; have BK313 := n5_; have GW313 := n6_; have GE313 := n7_; have NB301_313 := n8_; have NB313_301 := n9_; have NB312_313 := n10_; have NB313_312 := n11_; clear n0_ n1_ n2_ n3_ n4_ n5_ n6_ n7_ n8_ n9_ n10_ n11_; clear hb hbox hg; have hnb12 := NB312_301.out; have hnc12 := NB301_312.out; have hnb13 := NB312_313.out; have hnc13 := NB313_312.out; have hcz14_0 : w11.cell? ⟨gb312, 0, none⟩ = some (.int .i64 0) := (blk_cell BK312.out 0).trans rfl; have hcz14_1 : w11.cell? ⟨gb312, 1, none⟩ = some (.slice none 0 0) := (blk_cell BK312.out 1).trans rfl; have hfz14_0 := blk_frozen BK312.out 0; have hfz14_1 := blk_frozen BK312.out 1; obtain ⟨Ao15, co15, eo15⟩ := Kd.V_slice HO305.out; subst eo15; have hnb16 := NB313_301.out; have hnc16 := NB301_313.out; have hcz17_0 : w11.cell? ⟨gb313, 0, none⟩ = some (.int .i64 0) := (blk_cell BK313.out 0).trans rfl; have hcz17_1 : w11.cell? ⟨gb313, 1, none⟩ = some (.int .i64 0) := (blk_cell BK313.out 1).trans rfl; have hcz17_2 : w11.cell? ⟨gb313, 2, none⟩ = some (.slice none 0 0) := (blk_cell BK313.out 2).trans rfl; have hfz17_0 := blk_frozen BK313.out 0; have hfz17_1 := blk_frozen BK313.out 1; have hfz17_2 := blk_frozen BK313.out 2; obtain ⟨Ao18, co18, eo18⟩ := Kd.V_slice HO311.out; subst eo18))
   go_ret
   exact ⟨by first | rfl | (simp <;> rfl) | (simp [*] <;> rfl), by repeat (first | (with_reducible first | exact HB.out | apply bA | apply bN | apply bD | refine bS ?_ GE301.out | refine bS ?_ GE312.out | refine bS ?_ GE313.out) | exact HB.out)⟩
  ·
   rw [if_neg c6] at H
   have c6b0 : (t306 == 0) = false := beq_eq_false_iff_ne.mpr c6
   have c6b1 : (t306 != 0) = true := bne_iff_ne.mpr c6
   obtain rfl := Option.some.inj H
   go_enter Try.func11, Try.ntmps11
   go_wp2_with (first | ((with_reducible refine gate_dst (N := 1) rfl ?_); refine box_event ?hg (N := 1) ?hd (cs := #[.slice A0_0 l0_0.length c0_0, .bool false]) (t := 24) ?hr ?_; (case hd => rfl); (case hg => rfl); (case hr => first | (go_simp; done) | (go_simp; rfl)); intro gb301 hg w19 hbox hb; have n0_ := Aside0.mk (below_step (by repeat (first | (with_reducible first | exact HB.out | apply bA | apply bN | apply bD) | exact HB.out)) hb); have n1_ := Aside0.mk (hbox); have n2_ := Aside0.mk ((by rw [hg]; exact (below_size (by repeat (first | (with_reducible first | exact HB.out | apply bA | apply bN | apply bD) | exact HB.out))) : w.heap.size ≤ gb301)); have n3_ := Aside0.mk ((by rw [hg]; exact (below_size (by repeat (first | (with_reducible first | exact HB.out | apply bA | apply bN | apply bD) | exact HB.out))) : w.heap.size ≤ gb301)); clear HB; have HB := n0_; have BK301 := n1_; have GW301 := n2_; have GE301 := n3_; clear n0_ n1_ n2_ n3_; clear hb hbox hg; have hcz20_0 : w19.cell? ⟨gb301, 0, none⟩ = some (.slice A0_0 l0_0.length c0_0) := (blk_cell BK301.out 0).trans rfl; have hcz20_1 : w19.cell? ⟨gb301, 1, none⟩ = some (.bool false) := (blk_cell BK301.out 1).trans rfl; have hfz20_0 := blk_frozen BK301.out 0; have hfz20_1 := blk_frozen BK301.out 1) | ((with_reducible refine gate_callee (f := 19) rfl ?_); refine goesL_ (some 15) rfl rfl Try.func19 (by kernel_rfl) rfl #[.slice A0_0 l0_0.length c0_0] rfl (by (try simp only [List.map_toArray, List.map_cons, List.map_nil]); first | done | rfl | (simp only [List.length_drop, List.length_take]; rfl)) ?_; (with_reducible refine (ridgewayref03_Get.calls k (fun k_ => k_ < w.heap.size) _ _ l0_0 t302 t303 t306 t307 t308 t309 _ ?side1 A5.out).mono ?_); (case side1 => exact Kd.V_mk HC0_0.out (Kd.F_below (Kd.C_F (Kd.heap_int .u8) HR0_0.out) (by repeat (first | (with_reducible first | exact HB.out | apply bA | apply bN | apply bD | refine bS ?_ GE301.out) | exact HB.out)))); rintro e w21 ⟨v304, v310, rfl, ho0, ho1, hb⟩; refine ⟨_, rfl, ?_⟩; have n0_ := Aside0.mk (Kd.V_lower (Kd.V_mono (ok' := fun k_ => k_ ≠ gb301) ho0 (fun k_ hk_ => Or.elim hk_ (fun hs_ => fun e_ => Nat.not_le.2 hs_ (by rw [e_]; exact GW301.out)) (fun hn_ => (Kd.freshB (g := gb301) (o := .cells #[.slice A0_0 l0_0.length c0_0, .bool false] 24 (0, 0)) (by (with_reducible repeat (first | refine kN ?_ _ | refine kD ?_ | refine kA ?_ _)); exact BK301.out) k_ hn_)))) (below_size (by repeat (first | (with_reducible first | exact HB.out | apply bA | apply bN | apply bD | refine bS ?_ GE301.out) | exact HB.out)))); have n1_ := Aside0.mk (Kd.V_lower (Kd.V_mono (ok' := fun k_ => k_ ≠ gb301) ho1 (fun k_ hk_ => Or.elim hk_ (fun hs_ => fun e_ => Nat.not_le.2 hs_ (by rw [e_]; exact GW301.out)) (fun hn_ => (Kd.freshB (g := gb301) (o := .cells #[.slice A0_0 l0_0.length c0_0, .bool false] 24 (0, 0)) (by (with_reducible repeat (first | refine kN ?_ _ | refine kD ?_ | refine kA ?_ _)); exact BK301.out) k_ hn_)))) (below_size (by repeat (first | (with_reducible first | exact HB.out | apply bA | apply bN | apply bD | refine bS ?_ GE301.out) | exact HB.out)))); have n2_ := Aside0.mk (blk_below (g := gb301) (o := .cells #[.slice A0_0 l0_0.length c0_0, .bool false] 24 (0, 0)) (by (with_reducible repeat (first | refine kN ?_ _ | refine kD ?_ | refine kA ?_ _)); exact BK301.out) hb); have n3_ := Aside0.mk (below_step (by repeat (first | (with_reducible first | exact HB.out | apply bA | apply bN | apply bD | refine bS ?_ GE301.out) | exact HB.out)) hb); clear BK301; clear HB; have HO305 := n0_; have HO311 := n1_; have BK301 := n2_; have HB := n3_; clear n0_ n1_ n2_ n3_; (try clear hb); (try clear hb2); (try clear hk); (try clear hi); (try clear ho0); (try clear ho1)) | ((with_reducible refine gate_dst (N := 3) rfl ?_); refine box_event ?hg (N := 3) ?hd (cs := #[.int .i64 0, .slice none 0 0]) (t := 43) ?hr ?_; (case hd => rfl); (case hg => rfl); (case hr => first | (go_simp; done) | (go_simp; rfl)); intro gb312 hg w22 hbox hb; have n0_ := Aside0.mk (Kd.V_below (Kd.V_elderB (by (with_reducible repeat (first | apply Kd.V_alloc | apply Kd.V_drewN | apply Kd.V_drew)); exact HO305.out) gb312 (Nat.le_of_eq hg.symm)) hb); have n1_ := Aside0.mk (Kd.V_below (Kd.V_elderB (by (with_reducible repeat (first | apply Kd.V_alloc | apply Kd.V_drewN | apply Kd.V_drew)); exact HO311.out) gb312 (Nat.le_of_eq hg.symm)) hb); have n2_ := Aside0.mk (blk_below (g := gb301) (o := .cells #[.slice A0_0 l0_0.length c0_0, .bool false] 24 (0, 0)) (by (with_reducible repeat (first | refine kN ?_ _ | refine kD ?_ | refine kA ?_ _)); exact BK301.out) hb); have n3_ := Aside0.mk (below_step (by repeat (first | (with_reducible first | exact HB.out | apply bA | apply bN | apply bD | refine bS ?_ GE301.out) | exact HB.out)) hb); have n4_ := Aside0.mk (hbox); have n5_ := Aside0.mk ((by rw [hg]; exact (below_size (by repeat (first | (with_reducible first | exact HB.out | apply bA | apply bN | apply bD | refine bS ?_ GE301.out) | exact HB.out))) : w.heap.size ≤ gb312)); have n6_ := Aside0.mk ((by rw [hg]; exact (below_size (by repeat (first | (with_reducible first | exact HB.out | apply bA | apply bN | apply bD | refine bS ?_ GE301.out) | exact HB.out))) : w.heap.size ≤ gb312)); have n7_ := Aside0.mk ((by rw [hg]; exact Nat.ne_of_lt (blk_lt (g := gb301) (o := .cells #[.slice A0_0 l0_0.length c0_0, .bool false] 24 (0, 0)) (by (with_reducible repeat (first | refine kN ?_ _ | refine kD ?_ | refine kA ?_ _)); exact BK301.out)) : gb301 ≠ gb312)); have n8_ := Aside0.mk ((by rw [hg]; exact Nat.ne_of_gt (blk_lt (g := gb301) (o := .cells #[.slice A0_0 l0_0.length c0_0, .bool false] 24 (0, 0)) (by (with_reducible repeat (first | refine kN ?_ _ | refine kD ?_ | refine kA ?_ _)); exact BK301.out)) : gb312 ≠ gb301)); clear HO305; clear HO311; clear BK301; clear HB; have HO305 := n0_; have HO311 := n1_; have BK301 := n2_; have HB := n3_; have BK312 := n4_; have GW312 := n5_; have GE312 := n6_; have NB301_312 := n7_; have NB312_301 := n8_; clear n0_ n1_ n2_ n3_ n4_ n5_ n6_ n7_ n8_; clear hb hbox hg) | ((with_reducible refine gate_dst (N := 5) rfl ?_); refine box_event ?hg (N := 5) ?hd (cs := #[.int .i64 0, .int .i64 0, .slice none 0 0]) (t := 29) ?hr ?_; (case hd => rfl); (case hg => rfl); (case hr => first | (go_simp; done) | (go_simp; rfl)); intro gb313 hg w23 hbox hb; have n0_ := Aside0.mk (Kd.V_below (Kd.V_elderB (by (with_reducible repeat (first | apply Kd.V_alloc | apply Kd.V_drewN | apply Kd.V_drew)); exact HO305.out) gb313 (Nat.le_of_eq hg.symm)) hb); have n1_ := Aside0.mk (Kd.V_below (Kd.V_elderB (by (with_reducible repeat (first | apply Kd.V_alloc | apply Kd.V_drewN | apply Kd.V_drew)); exact HO311.out) gb313 (Nat.le_of_eq hg.symm)) hb); have n2_ := Aside0.mk (blk_below (g := gb301) (o := .cells #[.slice A0_0 l0_0.length c0_0, .bool false] 24 (0, 0)) (by (with_reducible repeat (first | refine kN ?_ _ | refine kD ?_ | refine kA ?_ _)); exact BK301.out) hb); have n3_ := Aside0.mk (blk_below (g := gb312) (o := .cells #[.int .i64 0, .slice none 0 0] 43 (0, 0)) (by (with_reducible repeat (first | refine kN ?_ _ | refine kD ?_ | refine kA ?_ _)); exact BK312.out) hb); have n4_ := Aside0.mk (below_step (by repeat (first | (with_reducible first | exact HB.out | apply bA | apply bN | apply bD | refine bS ?_ GE301.out | refine bS ?_ GE312.out) | exact HB.out)) hb); have n5_ := Aside0.mk (hbox); have n6_ := Aside0.mk ((by rw [hg]; exact (below_size (by repeat (first | (with_reducible first | exact HB.out | apply bA | apply bN | apply bD | refine bS ?_ GE301.out | refine bS ?_ GE312.out) | exact HB.out))) : w.heap.size ≤ gb313)); have n7_ := Aside0.mk ((by rw [hg]; exact (below_size (by repeat (first | (with_reducible first | exact HB.out | apply bA | apply bN | apply bD | refine bS ?_ GE301.out | refine bS ?_ GE312.out) | exact HB.out))) : w.heap.size ≤ gb313)); have n8_ := Aside0.mk ((by rw [hg]; exact Nat.ne_of_lt (blk_lt (g := gb301) (o := .cells #[.slice A0_0 l0_0.length c0_0, .bool false] 24 (0, 0)) (by (with_reducible repeat (first | refine kN ?_ _ | refine kD ?_ | refine kA ?_ _)); exact BK301.out)) : gb301 ≠ gb313)); have n9_ := Aside0.mk ((by rw [hg]; exact Nat.ne_of_gt (blk_lt (g := gb301) (o := .cells #[.slice A0_0 l0_0.length c0_0, .bool false] 24 (0, 0)) (by (with_reducible repeat (first | refine kN ?_ _ | refine kD ?_ | refine kA ?_ _)); exact BK301.out)) : gb313 ≠ gb301)); have n10_ := Aside0.mk ((by rw [hg]; exact Nat.ne_of_lt (blk_lt (g := gb312) (o := .cells #[.int .i64 0, .slice none 0 0] 43 (0, 0)) (by (with_reducible repeat (first | refine kN ?_ _ | refine kD ?_ | refine kA ?_ _)); exact BK312.out)) : gb312 ≠ gb313)); have n11_ := Aside0.mk ((by rw [hg]; exact Nat.ne_of_gt (blk_lt (g := gb312) (o := .cells #[.int .i64 0, .slice none 0 0] 43 (0, 0)) (by (with_reducible repeat (first | refine kN ?_ _ | refine kD ?_ | refine kA ?_ _)); exact BK312.out)) : gb313 ≠ gb312)); clear HO305; clear HO311; clear BK301; clear BK312; clear HB; have HO305 := n0_; have HO311 := n1_; have BK301 := n2_; have BK312 := n3_; have HB := n4_; have BK313 := n5_; have GW313 := n6_; have GE313 := n7_; have NB301_313 := n8_; have NB313_301 := n9_; have NB312_313 := n10_; have NB313_312 := n11_; clear n0_ n1_ n2_ n3_ n4_ n5_ n6_ n7_ n8_ n9_ n10_ n11_; clear hb hbox hg; have hnb24 := NB312_301.out; have hnc24 := NB301_312.out; have hnb25 := NB312_313.out; have hnc25 := NB313_312.out; have hcz26_0 : w23.cell? ⟨gb312, 0, none⟩ = some (.int .i64 0) := (blk_cell BK312.out 0).trans rfl; have hcz26_1 : w23.cell? ⟨gb312, 1, none⟩ = some (.slice none 0 0) := (blk_cell BK312.out 1).trans rfl; have hfz26_0 := blk_frozen BK312.out 0; have hfz26_1 := blk_frozen BK312.out 1; obtain ⟨Ao27, co27, eo27⟩ := Kd.V_slice HO305.out; subst eo27; have hnb28 := NB313_301.out; have hnc28 := NB301_313.out; have hcz29_0 : w23.cell? ⟨gb313, 0, none⟩ = some (.int .i64 0) := (blk_cell BK313.out 0).trans rfl; have hcz29_1 : w23.cell? ⟨gb313, 1, none⟩ = some (.int .i64 0) := (blk_cell BK313.out 1).trans rfl; have hcz29_2 : w23.cell? ⟨gb313, 2, none⟩ = some (.slice none 0 0) := (blk_cell BK313.out 2).trans rfl; have hfz29_0 := blk_frozen BK313.out 0; have hfz29_1 := blk_frozen BK313.out 1; have hfz29_2 := blk_frozen BK313.out 2; obtain ⟨Ao30, co30, eo30⟩ := Kd.V_slice HO311.out; subst eo30))
   go_ret
   exact ⟨by first | rfl | (simp <;> rfl) | (simp [*] <;> rfl), by repeat (first | (with_reducible first | exact HB.out | apply bA | apply bN | apply bD | refine bS ?_ GE301.out | refine bS ?_ GE312.out | refine bS ?_ GE313.out) | exact HB.out)⟩

/-! ### ridgewayref04_Feed: function 9 -/
/-- The document's messages with which octets begin, what is left, and the note behind them. -/
def rmsgs (K : Nat) : Nat → List Int → Option (List S43 × List Int × Int × Int × List Int)
 | 0, _ => none
 | j + 1, b => (ridgewayref03_Get.f K b).bind fun r => if r.2.2.2.1 = 0 then (if r.2.2.1 = 0 then some ([], b, 0, 0, []) else if 0 ≤ r.2.2.1 ∧ r.2.2.1 ≤ (b.length : Int) then (rmsgs K j (b.drop r.2.2.1.toNat)).bind fun q => some (⟨r.1, r.2.1⟩ :: q.1, q.2) else none) else some ([], b, r.2.2.2.1, r.2.2.2.2.1, r.2.2.2.2.2)
theorem rmsgs_len (K : Nat) : ∀ (j : Nat) (b : List Int) (q : List S43 × List Int × Int × Int × List Int), rmsgs K j b = some q → q.1.length ≤ j := by
 intro j
 induction j with
 | zero => intro b q h; simp [rmsgs] at h
 | succ j ih =>
  intro b q h
  simp only [rmsgs] at h
  obtain ⟨r, hr, h⟩ := Option.bind_eq_some_iff.mp h
  by_cases c : r.2.2.2.1 = 0
  ·
   rw [if_pos c] at h
   by_cases n : r.2.2.1 = 0
   ·
    rw [if_pos n] at h; cases h; simp
   ·
    rw [if_neg n] at h
    by_cases g : 0 ≤ r.2.2.1 ∧ r.2.2.1 ≤ (b.length : Int)
    ·
     rw [if_pos g] at h
     obtain ⟨q', hq', h⟩ := Option.bind_eq_some_iff.mp h
     cases h
     have := ih _ _ hq'
     simp; omega
    ·
     rw [if_neg g] at h; cases h
  ·
   rw [if_neg c] at h; cases h; simp
def rfeedF (all : List Int) : Option (List Int × Bool × List S43 × Int × Int × List Int) :=
 if all.length < 1000000000 then (rmsgs 100 (all.length + 1) all).map fun R => if R.2.2.1 = 0 then (R.2.1, false, R.1, 0, 0, []) else ([], true, R.1, R.2.2.1, R.2.2.2.1, R.2.2.2.2) else none
def ridgewayref04_Feed.f (b0 : List Int) (bad : Bool) (b : List Int) : Option (List Int × Bool × List S43 × Int × Int × List Int) :=
 (ridgewayref04_Sane.f 100 b0 bad).bind fun ok => if ok = true then (if bad = true then some (b0, true, [], 0, 0, []) else rfeedF (b0 ++ b)) else rfeedF b
theorem rfeed_boxes {A0_0 : Option Addr} {n c0_0 : Nat} {bad : Bool} {w w1 : World} (hb : Below (((w.alloc (.cells #[.slice A0_0 n c0_0, .bool bad] 24)).alloc (.cells #[.slice none 0 0, .bool false] 24)).alloc (.cells #[.int .i64 0, .int .i64 0, .slice none 0 0] 29)).heap.size (((w.alloc (.cells #[.slice A0_0 n c0_0, .bool bad] 24)).alloc (.cells #[.slice none 0 0, .bool false] 24)).alloc (.cells #[.int .i64 0, .int .i64 0, .slice none 0 0] 29)) w1) :
  w1.heap[w.heap.size]? = some (.cells #[.slice A0_0 n c0_0, .bool bad] 24 (0, 0)) ∧ w1.heap[w.heap.size + 1]? = some (.cells #[.slice none 0 0, .bool false] 24 (0, 0)) ∧ w1.heap[w.heap.size + 1 + 1]? = some (.cells #[.int .i64 0, .int .i64 0, .slice none 0 0] 29 (0, 0)) ∧ Below w.heap.size w w1 ∧ w.heap.size + 3 ≤ w1.heap.size := by
 have s1 : ∀ (W : World) (o : Obj), (W.alloc o).heap.size = W.heap.size + 1 := fun W o => by simp only [World.alloc, Array.size_push]
 have e1 := blk_below (blk_alloc (blk_alloc (heap_alloc_new w _) _) _) hb
 have e2 := blk_below (blk_alloc (heap_alloc_new (w.alloc _) _) _) hb
 have e3 := blk_below (heap_alloc_new ((w.alloc _).alloc _) _) hb
 simp only [s1] at e2 e3
 have hz := hb.size
 simp only [s1] at hz
 exact ⟨e1, e2, e3, below_step (below_alloc (below_alloc (below_alloc (Below.refl _ _) _) _) _) hb, hz⟩
theorem rfeed_puts {W : World} {g : Nat} (h4 : W.heap[g]? = some (.cells #[.slice none 0 0, .bool false] 24 (0, 0))) (h6 : W.heap[g + 1]? = some (.cells #[.int .i64 0, .int .i64 0, .slice none 0 0] 29 (0, 0))) (v0 v5 c s b : Value) :
  (((((W.setCell ⟨g, 0, none⟩ v0).setCell ⟨g, 1, none⟩ b).setCell ⟨g + 1, 0, none⟩ c).setCell ⟨g + 1, 1, none⟩ s).setCell ⟨g + 1, 2, none⟩ v5).heap[g]? = some (.cells #[v0, b] 24 (0, 0)) ∧ (((((W.setCell ⟨g, 0, none⟩ v0).setCell ⟨g, 1, none⟩ b).setCell ⟨g + 1, 0, none⟩ c).setCell ⟨g + 1, 1, none⟩ s).setCell ⟨g + 1, 2, none⟩ v5).heap[g + 1]? = some (.cells #[c, s, v5] 29 (0, 0)) ∧ ∀ k, k ≠ g → k ≠ g + 1 → (((((W.setCell ⟨g, 0, none⟩ v0).setCell ⟨g, 1, none⟩ b).setCell ⟨g + 1, 0, none⟩ c).setCell ⟨g + 1, 1, none⟩ s).setCell ⟨g + 1, 2, none⟩ v5).heap[k]? = W.heap[k]? := by
 have hs : ∀ (W : World) (k j : Nat) (i : Nat) (v : Value), i ≠ k → (W.setCell ⟨k, j, none⟩ v).heap[i]? = W.heap[i]? := fun W k j i v h => Below.heap_setCell W ⟨k, j, none⟩ v i h
 refine ⟨?_, ?_, fun k k1 k2 => ?_⟩
 ·
  rw [hs _ _ _ _ _ (by omega), hs _ _ _ _ _ (by omega), hs _ _ _ _ _ (by omega)]
  exact blk_put (blk_put h4 0 _ rfl) 1 _ rfl
 ·
  refine blk_put (cs := #[c, s, .slice none 0 0]) (blk_put (cs := #[c, .int .i64 0, .slice none 0 0]) (blk_put (cs := #[.int .i64 0, .int .i64 0, .slice none 0 0]) ?_ 0 _ rfl) 1 _ rfl) 2 _ rfl
  rw [hs _ _ _ _ _ (by omega), hs _ _ _ _ _ (by omega)]
  exact h6
 ·
  rw [hs _ _ _ _ _ (by omega), hs _ _ _ _ _ (by omega), hs _ _ _ _ _ (by omega), hs _ _ _ _ _ (by omega), hs _ _ _ _ _ (by omega)]
set_option maxHeartbeats 8000000 in
set_option maxRecDepth 100000 in
theorem rfeed_bad (A0_0 : Option Addr) (c0_0 : Nat) (l0_0 : List Int) (A1 : Option Addr) (c1 : Nat) (l1 : List Int) (w : World) (hr0_0 : Kd.C (Kd.int .u8) w A0_0 l0_0.length l0_0) (hc0_0 : l0_0.length ≤ c0_0) (hs : ridgewayref04_Sane.f 100 l0_0 true = some true) :
  Calls Try.prog 9 #[.agg #[.slice A0_0 l0_0.length c0_0, .bool true], .slice A1 l1.length c1] w fun e w' => e = .returned (.tuple #[.agg #[.slice A0_0 l0_0.length c0_0, .bool true], .slice none 0 0, .agg #[.int .i64 0, .int .i64 0, .slice none 0 0]]) ∧ Below w.heap.size w w' := by
 have HR := Aside0.mk hr0_0
 have HC := Aside0.mk hc0_0
 have HS := Aside0.mk hs
 clear hr0_0 hc0_0 hs
 go_enter Try.func9, Try.ntmps9
 go_wp2_with (first | (go_at_call 11; (with_reducible refine (ridgewayref04_Sane.calls 100 _ _ l0_0 true true _ (Kd.C_alloc (Kd.C_alloc (Kd.C_alloc HR.out _) _) _) HC.out HS.out).mono ?_); rintro e w1 ⟨rfl, hb⟩; obtain ⟨k1, k2, k3, kB, kz⟩ := rfeed_boxes hb; have x0 : w1.cell? ⟨w.heap.size, 0, none⟩ = some (.slice A0_0 l0_0.length c0_0) := (blk_cell k1 0).trans rfl; have x1 : w1.cell? ⟨w.heap.size, 1, none⟩ = some (.bool true) := (blk_cell k1 1).trans rfl; have x2 : w1.cell? ⟨w.heap.size + 1, 0, none⟩ = some (.slice none 0 0) := (blk_cell k2 0).trans rfl; have x3 : w1.cell? ⟨w.heap.size + 1, 1, none⟩ = some (.bool false) := (blk_cell k2 1).trans rfl; have x4 : w1.cell? ⟨w.heap.size + 1 + 1, 0, none⟩ = some (.int .i64 0) := (blk_cell k3 0).trans rfl; have x5 : w1.cell? ⟨w.heap.size + 1 + 1, 1, none⟩ = some (.int .i64 0) := (blk_cell k3 1).trans rfl; have x6 : w1.cell? ⟨w.heap.size + 1 + 1, 2, none⟩ = some (.slice none 0 0) := (blk_cell k3 2).trans rfl; have f0 := blk_frozen k1 0; have f1 := blk_frozen k1 1; have f2 := blk_frozen k2 0; have f3 := blk_frozen k2 1; have f4 := blk_frozen k3 0; have f5 := blk_frozen k3 1; have f6 := blk_frozen k3 2; have lt0 : w.heap.size < w1.heap.size := (by omega); have lt1 : w.heap.size + 1 < w1.heap.size := (by omega); have lt2 : w.heap.size + 1 + 1 < w1.heap.size := (by omega); have KB := Aside0.mk kB; have K2 := Aside0.mk k2; have K3 := Aside0.mk k3; clear hb k1 k2 k3 kB))
 refine bodyPost_ret (v := .tuple #[.agg #[.slice A0_0 l0_0.length c0_0, .bool true], .slice none 0 0, .agg #[.int .i64 0, .int .i64 0, .slice none 0 0]]) ?_ rfl ⟨rfl, ?_⟩
 ·
  simp [results, Try.results9, go_sem, x0, x1, x2, x3, x4, x5, x6]
 ·
  exact set_below _ (set_below _ (set_below _ (set_below _ (set_below _ KB.out (by omega)) (by omega)) (by omega)) (by omega)) (by omega)
set_option maxHeartbeats 8000000 in
set_option maxRecDepth 100000 in
theorem rfeed_go (A0_0 : Option Addr) (c0_0 : Nat) (l0_0 : List Int) (A1 : Option Addr) (c1 : Nat) (l1 all : List Int) (R : List S43 × List Int × Int × Int × List Int) (w : World) (hr0_0 : Kd.C (Kd.int .u8) w A0_0 l0_0.length l0_0) (hc0_0 : l0_0.length ≤ c0_0) (hr1 : Kd.C (Kd.int .u8) w A1 l1.length l1) (hc1 : l1.length ≤ c1)
  (hs : ridgewayref04_Sane.f 100 l0_0 false = some true) (hall : all = l0_0 ++ l1) (hl : all.length < 1000000000) (hm : rmsgs 100 (all.length + 1) all = some R) :
  Calls Try.prog 9 #[.agg #[.slice A0_0 l0_0.length c0_0, .bool false], .slice A1 l1.length c1] w (feedPost w R) := by
 have HR := Aside0.mk hr0_0
 have HC := Aside0.mk hc0_0
 have HR1 := Aside0.mk hr1
 have HC1 := Aside0.mk hc1
 have HS := Aside0.mk hs
 have HL := Aside0.mk hl
 have HRL := Aside0.mk (show R.1.length ≤ 1000000000 from by have := rmsgs_len 100 _ _ _ hm; omega)
 have HM := Aside0.mk hm
 have HALL := Aside0.mk hall
 clear hr0_0 hc0_0 hr1 hc1 hs hl hm hall
 go_enter Try.func9, Try.ntmps9
 go_wp2_with (first
  | (go_at_call 11; (with_reducible refine (ridgewayref04_Sane.calls 100 _ _ l0_0 false true _ (Kd.C_alloc (Kd.C_alloc (Kd.C_alloc HR.out _) _) _) HC.out HS.out).mono ?_); rintro e w1 ⟨rfl, hb⟩; obtain ⟨k1, k2, k3, kB, kz⟩ := rfeed_boxes hb; have x0 : w1.cell? ⟨w.heap.size, 0, none⟩ = some (.slice A0_0 l0_0.length c0_0) := (blk_cell k1 0).trans rfl; have x1 : w1.cell? ⟨w.heap.size, 1, none⟩ = some (.bool false) := (blk_cell k1 1).trans rfl; have x2 : w1.cell? ⟨w.heap.size + 1, 0, none⟩ = some (.slice none 0 0) := (blk_cell k2 0).trans rfl; have x3 : w1.cell? ⟨w.heap.size + 1, 1, none⟩ = some (.bool false) := (blk_cell k2 1).trans rfl; have x4 : w1.cell? ⟨w.heap.size + 1 + 1, 0, none⟩ = some (.int .i64 0) := (blk_cell k3 0).trans rfl; have x5 : w1.cell? ⟨w.heap.size + 1 + 1, 1, none⟩ = some (.int .i64 0) := (blk_cell k3 1).trans rfl; have x6 : w1.cell? ⟨w.heap.size + 1 + 1, 2, none⟩ = some (.slice none 0 0) := (blk_cell k3 2).trans rfl; have f0 := blk_frozen k1 0; have f1 := blk_frozen k1 1; have f2 := blk_frozen k2 0; have f3 := blk_frozen k2 1; have f4 := blk_frozen k3 0; have f5 := blk_frozen k3 1; have f6 := blk_frozen k3 2; have lt0 : w.heap.size < w1.heap.size := (by omega); have lt1 : w.heap.size + 1 < w1.heap.size := (by omega); have lt2 : w.heap.size + 1 + 1 < w1.heap.size := (by omega); have KB := Aside0.mk kB; have K2 := Aside0.mk k2; have K3 := Aside0.mk k3; clear hb k1 k2 k3 kB; have HSX := Aside0.mk (show w1.heap.size ≤ (w1.alloc (.cells #[] 5)).heap.size from (by (try simp only [World.size_alloc, feed_size]) <;> omega)); have HBX := Aside0.mk (show Below w1.heap.size w1 (w1.alloc (.cells #[] 5)) from (Below.refl _ _).alloc (by (try simp only [feed_size]) <;> omega) _); have HLIT := Aside0.mk (R_lit8e w1 w1.heap.size 5 w1.heap.size (by first | rfl | simp only [feed_size]) (by (try simp only [feed_size]) <;> omega) [] (by simp)); have HKX := Aside0.mk (show Below w.heap.size w w1 from KB.out))
  | ((with_reducible refine gate_builtin (b := .append) (xs := #[.tmp 20, .tmp 22]) rfl ?_); at_builtin; refine Kd.R_append_rows (Kd.int .u8) (w0 := w1) w1.heap.size rfl (.tmp 20) (.tmp 22) 22 5 (.int .u8 0) 1 rfl Try.underlying22 info5 rfl (by decide) (by omega) _ [] l0_0 _ _ _ (fun _ => True) (fun _ => False) rfl rfl ?aO ?aR (fun _ _ h => h) (fun _ h => h.elim) ?aF ?aB ?aS ?aL ?_; (case aR => exact (Kd.C_alloc (Kd.C_below HR.out KB.out) _)); (case aB => exact HBX.out); (case aF => exact (fun _ _ => trivial)); (case aO => exact HLIT.out); (case aS => exact HSX.out); (case aL => have := HL.out; rw [HALL.out] at this; simp only [List.length_append, List.length_nil] at this ⊢; omega); intro v2 w2 ho hb2 hg hat; have HO2 := Aside0.mk ho; have HB2 := Aside0.mk hb2; clear ho hb2 hg hat)
  | ((with_reducible refine gate_builtin (b := .append) (xs := #[.tmp 24, .tmp 25]) rfl ?_); at_builtin; refine Kd.R_append_rows (Kd.int .u8) (w0 := w1) w1.heap.size rfl (.tmp 24) (.tmp 25) 22 5 (.int .u8 0) 1 rfl Try.underlying22 info5 rfl (by decide) (by omega) v2 ([] ++ l0_0) l1 _ _ _ (fun _ => True) (fun _ => False) rfl rfl ?aO ?aR (fun _ _ h => h) (fun _ h => h.elim) ?aF ?aB ?aS ?aL ?_; (case aR => exact (Kd.C_below (Kd.C_below HR1.out HKX.out) (by first | exact HB2.out | (rw [feed_size, feed_size]; exact HB2.out)))); (case aB => exact HB2.out); (case aF => exact (fun _ _ => trivial)); (case aO => exact HO2.out); (case aS => exact (by have h := HB2.out.size; (try simp only [feed_size] at h); exact h)); (case aL => have := HL.out; rw [HALL.out] at this; simp only [List.length_append, List.nil_append, List.length_nil] at this ⊢; omega); intro v3 w3 ho hb3 hg hat; rw [List.nil_append, ← HALL.out] at ho; obtain ⟨Aa, ca, rfl⟩ := Kd.V_slice (Kd.R_V (base' := 0) ho); have HO3 := Aside0.mk ho; have HB3 := Aside0.mk hb3; clear ho hb3 hg hat))
 clear lt0 lt1 lt2 x0 x1 x2 x3 x4 x5 x6 f0 f1 f2 f3 f4 f5 f6
 have hz3 := HB3.out.size
 (try simp only [feed_size] at hz3)
 have hk3 : Below w.heap.size w w3 := below_step HKX.out (by first | exact HB3.out | (rw [feed_size, feed_size]; exact HB3.out))
 have b4 : w3.heap[w.heap.size + 1]? = some (.cells #[.slice none 0 0, .bool false] 24 (0, 0)) := (HB3.out.block _ (by omega)).trans K2.out
 have b6 : w3.heap[w.heap.size + 1 + 1]? = some (.cells #[.int .i64 0, .int .i64 0, .slice none 0 0] 29 (0, 0)) := (HB3.out.block _ (by omega)).trans K3.out
 have hV0 : Kd.V (Kd.int .u8) 5 w3 0 (okA w1.heap.size w3.heap.size) (.slice Aa all.length ca) all := Kd.V_mono (base := 0) (Kd.R_V (base' := 0) (Kd.R_bound HO3.out)) (fun k hk => by have := hk.2; unfold okA; omega)
 have HV0 := Aside0.mk hV0
 have B4 := Aside0.mk b4
 have B6 := Aside0.mk b6
 have HK3 := Aside0.mk hk3
 have lo3 : w.heap.size + 1 + 1 < w1.heap.size := by omega
 clear hV0 b4 b6 hk3 K2 K3 KB HKX HB2 HO2 HSX HBX HLIT HO3 HB3
 go_loopg [7, 8] (all.length + 1) (fun kq v7 v8 w' => ∃ (b : List Int) (out : List S43) (A : Option Addr) (c : Nat), v7 = .slice A b.length c ∧ Aside0 (∃ q, rmsgs 100 kq b = some q ∧ R = (out ++ q.1, q.2)) ∧ Aside0 (Kd.V (Kd.int .u8) 5 w' 0 (okA w1.heap.size w3.heap.size) (.slice A b.length c) b) ∧ Aside0 (Kd.N k43 43 w' w.heap.size (fun k => w1.heap.size ≤ k) v8 out ∧ ∀ k, v8.ownBlock = some k → w3.heap.size ≤ k) ∧ Aside0 (w'.heap[w.heap.size + 1]? = some (.cells #[.slice none 0 0, .bool false] 24 (0, 0))) ∧ Aside0 (w'.heap[w.heap.size + 1 + 1]? = some (.cells #[.int .i64 0, .int .i64 0, .slice none 0 0] 29 (0, 0))) ∧ Aside0 (Below w.heap.size w w' ∧ w3.heap.size ≤ w'.heap.size ∧ b.length ≤ all.length))
 case atStart => exact ⟨all, [], Aa, ca, rfl, ⟨R, HM.out, by simp⟩, HV0, ⟨Kd.N_nil _ _ _ _ _, fun k hk => by simp [Value.ownBlock] at hk⟩, B4, B6, ⟨HK3.out, Nat.le_refl _, Nat.le_refl _⟩⟩
 case round =>
  clear HV0 B4 B6 HK3
  obtain ⟨b, out, A, cA, rfl, HQ, HV, HN, B4, B6, HB⟩ := hrel
  cases gk with
  | zero => obtain ⟨q, hq, -⟩ := HQ.out; simp [rmsgs] at hq
  | succ k1 =>
   obtain ⟨q, hq, hRq⟩ := HQ.out
   simp only [rmsgs] at hq
   obtain ⟨⟨t, bd, n, c, sc, dd⟩, hgm, hq⟩ := Option.bind_eq_some_iff.mp hq
   dsimp only at hq
   have HG := Aside0.mk hgm
   have HRq := Aside0.mk hRq
   have hsz := HB.out.2.1
   have hbl := HB.out.2.2
   have hal := HL.out
   have lt1 : w.heap.size + 1 < wr.heap.size := by omega
   have lt2 : w.heap.size + 1 + 1 < wr.heap.size := by omega
   have hlen := HRL.out
   rw [hRq] at hlen
   simp only [List.length_append] at hlen
   have HOL := Aside0.mk (show out.length ≤ 1000000000 by omega)
   have HVL := Aside0.mk (Kd.N_lt HN.out.1)
   clear hgm hRq HQ hlen
   have hnoC : ∀ {p : Prop}, p → p := fun h => h
   by_cases g1 : c = 0
   rotate_left
   ·
    rw [if_neg g1] at hq
    have d1 : (c == 0) = false := by simp [g1]
    have d2 : (c != 0) = true := by simp [g1]
    have G1 := Aside0.mk g1
    have HQ := Aside0.mk (Option.some.inj hq)
    clear g1 hq
    go_wp2_with (first | (go_at_call 19; (with_reducible refine (ridgewayref03_Get.calls 100 (okA w1.heap.size w3.heap.size) A cA b t bd n c sc dd wr (Kd.V_map HV.out (fun _ hf => hf)) HG.out).mono ?_); rintro e w4 ⟨v1, v5, rfl, hV1, hV5, hb4⟩; obtain ⟨A1_, c1_, rfl⟩ := Kd.V_slice hV1; obtain ⟨A5, c5, rfl⟩ := Kd.V_slice hV5; have B4W := Aside0.mk (blk_alloc (blk_alloc (blk_below B4.out hb4) (Obj.cells #[.int .i64 t, .slice A1_ bd.length c1_] 43)) (Obj.cells #[.int .i64 c, .int .i64 sc, .slice A5 dd.length c5] 29)); have B6W := Aside0.mk (blk_alloc (blk_alloc (blk_below B6.out hb4) (Obj.cells #[.int .i64 t, .slice A1_ bd.length c1_] 43)) (Obj.cells #[.int .i64 c, .int .i64 sc, .slice A5 dd.length c5] 29)); have k4 := blk_below B4.out hb4; have k6 := blk_below B6.out hb4; have hz4 := hb4.size; have K4W := Aside0.mk k4; have K6W := Aside0.mk k6; have lu0 : w.heap.size < w4.heap.size := (by omega); have lu1 : w.heap.size + 1 < w4.heap.size := (by omega); have lu2 : w.heap.size + 1 + 1 < w4.heap.size := (by omega); have y0 : w4.cell? ⟨w.heap.size + 1, 0, none⟩ = some (.slice none 0 0) := (blk_cell k4 0).trans rfl; have y1 : w4.cell? ⟨w.heap.size + 1, 1, none⟩ = some (.bool false) := (blk_cell k4 1).trans rfl; have y2 : w4.cell? ⟨w.heap.size + 1 + 1, 0, none⟩ = some (.int .i64 0) := (blk_cell k6 0).trans rfl; have y3 : w4.cell? ⟨w.heap.size + 1 + 1, 1, none⟩ = some (.int .i64 0) := (blk_cell k6 1).trans rfl; have y4 : w4.cell? ⟨w.heap.size + 1 + 1, 2, none⟩ = some (.slice none 0 0) := (blk_cell k6 2).trans rfl; have z0 := blk_frozen k4 0; have z1 := blk_frozen k4 1; have z2 := blk_frozen k6 0; have z3 := blk_frozen k6 1; have z4 := blk_frozen k6 2; have HV1 := Aside0.mk hV1; have HV5 := Aside0.mk hV5; have HB4 := Aside0.mk hb4; clear k4 k6 hV1 hV5 hb4))
    go_region
    all_goals go_wp2
    all_goals
     obtain ⟨p1, p2, p3⟩ := rfeed_puts K4W.out K6W.out (.slice none 0 0) (.slice A5 dd.length c5) (.int .i64 c) (.int .i64 sc) (.bool true)
     have hR : R = (out, b, c, sc, dd) := by
      have e := HRq.out
      rw [← HQ.out] at e
      simpa using e
     rw [hR]
     obtain ⟨W2, hW2⟩ : ∃ W2 : World, W2 = ((((((w4.setCell ⟨w.heap.size + 1, 0, none⟩ (.slice none 0 0)).setCell ⟨w.heap.size + 1, 1, none⟩ (.bool true)).setCell ⟨w.heap.size + 1 + 1, 0, none⟩ (.int .i64 c)).setCell ⟨w.heap.size + 1 + 1, 1, none⟩ (.int .i64 sc)).setCell ⟨w.heap.size + 1 + 1, 2, none⟩ (.slice A5 dd.length c5)).alloc (.cells #[.int .i64 t, .slice A1_ bd.length c1_] 43)).alloc (.cells #[.int .i64 c, .int .i64 sc, .slice A5 dd.length c5] 29) := ⟨_, rfl⟩
     have hbb : Below w.heap.size w W2 := by rw [hW2]; exact below_alloc (below_alloc (set_below _ (set_below _ (set_below _ (set_below _ (set_below _ (below_step HB.out.1 HB4.out) (by omega)) (by omega)) (by omega)) (by omega)) (by omega)) _) _
     have q4 := blk_alloc (blk_alloc p1 (.cells #[.int .i64 t, .slice A1_ bd.length c1_] 43)) (.cells #[.int .i64 c, .int .i64 sc, .slice A5 dd.length c5] 29)
     have q6 := blk_alloc (blk_alloc p2 (.cells #[.int .i64 t, .slice A1_ bd.length c1_] 43)) (.cells #[.int .i64 c, .int .i64 sc, .slice A5 dd.length c5] 29)
     have q0 : ∀ k, k < w4.heap.size → k ≠ w.heap.size + 1 → k ≠ w.heap.size + 1 + 1 → W2.heap[k]? = w4.heap[k]? := fun k hk e1 e2 => by
      rw [hW2]
      exact (Below.heap_alloc _ _ _ (by simp only [World.size_alloc, feed_size]; omega)).trans ((Below.heap_alloc _ _ _ (by simp only [feed_size]; omega)).trans (p3 k e1 e2))
     rw [← hW2] at q4 q6 ⊢
     clear hW2 p1 p2 p3
     have c0 : W2.drew.cell? ⟨w.heap.size + 1, 0, none⟩ = some (.slice none 0 0) := (blk_cell q4 0).trans rfl
     have c1_' : W2.drew.cell? ⟨w.heap.size + 1, 1, none⟩ = some (.bool true) := (blk_cell q4 1).trans rfl
     have c3 : W2.drew.cell? ⟨w.heap.size + 1 + 1, 0, none⟩ = some (.int .i64 c) := (blk_cell q6 0).trans rfl
     have c4 : W2.drew.cell? ⟨w.heap.size + 1 + 1, 1, none⟩ = some (.int .i64 sc) := (blk_cell q6 1).trans rfl
     have c5' : W2.drew.cell? ⟨w.heap.size + 1 + 1, 2, none⟩ = some (.slice A5 dd.length c5) := (blk_cell q6 2).trans rfl
     have hNf : Kd.N k43 43 W2 w.heap.size (fun k => w1.heap.size ≤ k) u8 out := Kd.N_step (Kd.N_below HN.out.1 HB4.out) (fun k hk hl => q0 k hl (by omega) (by omega))
     refine bodyPost_ret (v := .tuple #[.agg #[.slice none 0 0, .bool true], u8, .agg #[.int .i64 c, .int .i64 sc, .slice A5 dd.length c5]]) ?_ rfl ?_
     ·
      simp [results, Try.results9, go_sem, c0, c1_', c3, c4, c5']
     ·
      have e2 : (c != 0) = true := by simpa using G1.out
      refine ⟨.slice none 0 0, u8, .slice A5 dd.length c5, by show _ = Ending.returned (.tuple #[.agg #[.slice none 0 0, .bool (c != 0)], u8, .agg #[.int .i64 (if c = 0 then 0 else c), .int .i64 (if c = 0 then 0 else sc), .slice A5 dd.length c5]]); rw [if_neg G1.out, if_neg G1.out, e2], ?_, Kd.N_mono (Kd.N_drew hNf) (fun k hk => by omega), ?_, below_drew1 hbb⟩
      ·
       show Kd.V _ _ _ _ _ _ (if c = 0 then b else [])
       rw [if_neg G1.out]; exact Kd.V_nil _ _ _ _ _
      ·
       show Kd.V _ _ _ _ _ _ (if c = 0 then [] else dd)
       rw [if_neg G1.out]
       refine Kd.V_drew (Kd.V_map (base' := w.heap.size) HV5.out (fun _ hf => Kd.F_mono (Kd.F_step hf (fun k hk hl => q0 k hl (by rcases hk with hk | hk <;> (try unfold okA at hk) <;> omega) (by rcases hk with hk | hk <;> (try unfold okA at hk) <;> omega))) (fun k hk => ⟨?_, fun he => ?_⟩)))
       ·
        rcases hk with hk | hk <;> (try unfold okA at hk) <;> omega
       ·
        have h1 := HN.out.2 k he.symm
        have h2 := HVL.out k he.symm
        rcases hk with hk | hk <;> (try unfold okA at hk) <;> omega
   ·
    subst g1
    rw [if_pos rfl] at hq
    by_cases g2 : n = 0
    ·
     subst g2
     rw [if_pos rfl] at hq
     have HQ := Aside0.mk (Option.some.inj hq)
     clear hq
     go_wp2_with (first | (go_at_call 19; (with_reducible refine (ridgewayref03_Get.calls 100 (okA w1.heap.size w3.heap.size) A cA b t bd 0 0 sc dd wr (Kd.V_map HV.out (fun _ hf => hf)) HG.out).mono ?_); rintro e w4 ⟨v1, v5, rfl, hV1, hV5, hb4⟩; obtain ⟨A1_, c1_, rfl⟩ := Kd.V_slice hV1; obtain ⟨A5, c5, rfl⟩ := Kd.V_slice hV5; have B4W := Aside0.mk (blk_alloc (blk_alloc (blk_below B4.out hb4) (Obj.cells #[.int .i64 t, .slice A1_ bd.length c1_] 43)) (Obj.cells #[.int .i64 0, .int .i64 sc, .slice A5 dd.length c5] 29)); have B6W := Aside0.mk (blk_alloc (blk_alloc (blk_below B6.out hb4) (Obj.cells #[.int .i64 t, .slice A1_ bd.length c1_] 43)) (Obj.cells #[.int .i64 0, .int .i64 sc, .slice A5 dd.length c5] 29)); have k4 := blk_below B4.out hb4; have k6 := blk_below B6.out hb4; have hz4 := hb4.size; have K4W := Aside0.mk k4; have K6W := Aside0.mk k6; have lu0 : w.heap.size < w4.heap.size := (by omega); have lu1 : w.heap.size + 1 < w4.heap.size := (by omega); have lu2 : w.heap.size + 1 + 1 < w4.heap.size := (by omega); have y0 : w4.cell? ⟨w.heap.size + 1, 0, none⟩ = some (.slice none 0 0) := (blk_cell k4 0).trans rfl; have y1 : w4.cell? ⟨w.heap.size + 1, 1, none⟩ = some (.bool false) := (blk_cell k4 1).trans rfl; have y2 : w4.cell? ⟨w.heap.size + 1 + 1, 0, none⟩ = some (.int .i64 0) := (blk_cell k6 0).trans rfl; have y3 : w4.cell? ⟨w.heap.size + 1 + 1, 1, none⟩ = some (.int .i64 0) := (blk_cell k6 1).trans rfl; have y4 : w4.cell? ⟨w.heap.size + 1 + 1, 2, none⟩ = some (.slice none 0 0) := (blk_cell k6 2).trans rfl; have z0 := blk_frozen k4 0; have z1 := blk_frozen k4 1; have z2 := blk_frozen k6 0; have z3 := blk_frozen k6 1; have z4 := blk_frozen k6 2; have HV1 := Aside0.mk hV1; have HV5 := Aside0.mk hV5; have HB4 := Aside0.mk hb4; clear k4 k6 hV1 hV5 hb4))
     obtain ⟨p1, p2, p3⟩ := rfeed_puts K4W.out K6W.out (.slice A b.length cA) (.slice none 0 0) (.int .i64 0) (.int .i64 0) (.bool false)
     have hR : R = (out, b, 0, 0, []) := by
      have e := HRq.out
      rw [← HQ.out] at e
      simpa using e
     rw [hR]
     obtain ⟨W2, hW2⟩ : ∃ W2 : World, W2 = ((((((w4.setCell ⟨w.heap.size + 1, 0, none⟩ (.slice A b.length cA)).setCell ⟨w.heap.size + 1, 1, none⟩ (.bool false)).setCell ⟨w.heap.size + 1 + 1, 0, none⟩ (.int .i64 0)).setCell ⟨w.heap.size + 1 + 1, 1, none⟩ (.int .i64 0)).setCell ⟨w.heap.size + 1 + 1, 2, none⟩ (.slice none 0 0)).alloc (.cells #[.int .i64 t, .slice A1_ bd.length c1_] 43)).alloc (.cells #[.int .i64 0, .int .i64 sc, .slice A5 dd.length c5] 29) := ⟨_, rfl⟩
     have hbb : Below w.heap.size w W2 := by rw [hW2]; exact below_alloc (below_alloc (set_below _ (set_below _ (set_below _ (set_below _ (set_below _ (below_step HB.out.1 HB4.out) (by omega)) (by omega)) (by omega)) (by omega)) (by omega)) _) _
     have q4 := blk_alloc (blk_alloc p1 (.cells #[.int .i64 t, .slice A1_ bd.length c1_] 43)) (.cells #[.int .i64 0, .int .i64 sc, .slice A5 dd.length c5] 29)
     have q6 := blk_alloc (blk_alloc p2 (.cells #[.int .i64 t, .slice A1_ bd.length c1_] 43)) (.cells #[.int .i64 0, .int .i64 sc, .slice A5 dd.length c5] 29)
     have q0 : ∀ k, k < w4.heap.size → k ≠ w.heap.size + 1 → k ≠ w.heap.size + 1 + 1 → W2.heap[k]? = w4.heap[k]? := fun k hk e1 e2 => by
      rw [hW2]
      exact (Below.heap_alloc _ _ _ (by simp only [World.size_alloc, feed_size]; omega)).trans ((Below.heap_alloc _ _ _ (by simp only [feed_size]; omega)).trans (p3 k e1 e2))
     rw [← hW2] at q4 q6 ⊢
     clear hW2 p1 p2 p3
     have c0 : W2.cell? ⟨w.heap.size + 1, 0, none⟩ = some (.slice A b.length cA) := (blk_cell q4 0).trans rfl
     have c1_' : W2.cell? ⟨w.heap.size + 1, 1, none⟩ = some (.bool false) := (blk_cell q4 1).trans rfl
     have c3 : W2.cell? ⟨w.heap.size + 1 + 1, 0, none⟩ = some (.int .i64 0) := (blk_cell q6 0).trans rfl
     have c4 : W2.cell? ⟨w.heap.size + 1 + 1, 1, none⟩ = some (.int .i64 0) := (blk_cell q6 1).trans rfl
     have c5' : W2.cell? ⟨w.heap.size + 1 + 1, 2, none⟩ = some (.slice none 0 0) := (blk_cell q6 2).trans rfl
     have hNf : Kd.N k43 43 W2 w.heap.size (fun k => w1.heap.size ≤ k) u8 out := Kd.N_step (Kd.N_below HN.out.1 HB4.out) (fun k hk hl => q0 k hl (by omega) (by omega))
     refine bodyPost_ret (v := .tuple #[.agg #[.slice A b.length cA, .bool false], u8, .agg #[.int .i64 0, .int .i64 0, .slice none 0 0]]) ?_ rfl ?_
     ·
      simp [results, Try.results9, go_sem, c0, c1_', c3, c4, c5']
     ·
      refine ⟨.slice A b.length cA, u8, .slice none 0 0, rfl, ?_, Kd.N_mono hNf (fun k hk => by omega), Kd.V_nil _ _ _ _ _, hbb⟩
      refine (Kd.V_map (base' := w.heap.size) (Kd.V_below HV.out HB4.out) (fun _ hf => Kd.F_mono (Kd.F_step hf (fun k hk hl => q0 k hl (by unfold okA at hk; omega) (by unfold okA at hk; omega))) (fun k hk => ⟨by unfold okA at hk; omega, fun he => ?_⟩)))
      have h1 := HN.out.2 k he.symm
      unfold okA at hk
      omega
    ·
     rw [if_neg g2] at hq
     have d3 : (n == 0) = false := by simp [g2]
     by_cases g3 : 0 ≤ n ∧ n ≤ (b.length : Int)
     rotate_left
     ·
      rw [if_neg g3] at hq
      cases hq
     rw [if_pos g3] at hq
     obtain ⟨q1, hq1, hq⟩ := Option.bind_eq_some_iff.mp hq
     have HQ1 := Aside0.mk hq1
     have HQ := Aside0.mk (Option.some.inj hq)
     obtain ⟨g4_, g5_⟩ := g3
     have g6_ : n ≤ 1000000000000 := by omega
     clear hq1 hq g2
     have HOKV : Aside0 (∀ k, (okA w1.heap.size w3.heap.size k ∨ wr.heap.size ≤ k) → w1.heap.size ≤ k ∧ some k ≠ (u8 : Value).ownBlock) := ⟨fun k hk => ⟨by rcases hk with hk | hk <;> (try unfold okA at hk) <;> omega, fun he => by have h1 := HN.out.2 k he.symm; have h2 := HVL.out k he.symm; rcases hk with hk | hk <;> (try unfold okA at hk) <;> omega⟩⟩
     obtain ⟨A7, hcut, hV7⟩ := cutV wr A cA b _ 0 n HV.out g4_ g5_
     have HV7 := Aside0.mk hV7
     clear hV7
     go_wp2_with (first | (go_at_call 19; (with_reducible refine (ridgewayref03_Get.calls 100 (okA w1.heap.size w3.heap.size) A cA b t bd n 0 sc dd wr (Kd.V_map HV.out (fun _ hf => hf)) HG.out).mono ?_); rintro e w4 ⟨v1, v5, rfl, hV1, hV5, hb4⟩; obtain ⟨A1_, c1_, rfl⟩ := Kd.V_slice hV1; obtain ⟨A5, c5, rfl⟩ := Kd.V_slice hV5; have B4W := Aside0.mk (blk_alloc (blk_alloc (blk_below B4.out hb4) (Obj.cells #[.int .i64 t, .slice A1_ bd.length c1_] 43)) (Obj.cells #[.int .i64 0, .int .i64 sc, .slice A5 dd.length c5] 29)); have B6W := Aside0.mk (blk_alloc (blk_alloc (blk_below B6.out hb4) (Obj.cells #[.int .i64 t, .slice A1_ bd.length c1_] 43)) (Obj.cells #[.int .i64 0, .int .i64 sc, .slice A5 dd.length c5] 29)); have k4 := blk_below B4.out hb4; have k6 := blk_below B6.out hb4; have hz4 := hb4.size; have K4W := Aside0.mk k4; have K6W := Aside0.mk k6; have lu0 : w.heap.size < w4.heap.size := (by omega); have lu1 : w.heap.size + 1 < w4.heap.size := (by omega); have lu2 : w.heap.size + 1 + 1 < w4.heap.size := (by omega); have y0 : w4.cell? ⟨w.heap.size + 1, 0, none⟩ = some (.slice none 0 0) := (blk_cell k4 0).trans rfl; have y1 : w4.cell? ⟨w.heap.size + 1, 1, none⟩ = some (.bool false) := (blk_cell k4 1).trans rfl; have y2 : w4.cell? ⟨w.heap.size + 1 + 1, 0, none⟩ = some (.int .i64 0) := (blk_cell k6 0).trans rfl; have y3 : w4.cell? ⟨w.heap.size + 1 + 1, 1, none⟩ = some (.int .i64 0) := (blk_cell k6 1).trans rfl; have y4 : w4.cell? ⟨w.heap.size + 1 + 1, 2, none⟩ = some (.slice none 0 0) := (blk_cell k6 2).trans rfl; have z0 := blk_frozen k4 0; have z1 := blk_frozen k4 1; have z2 := blk_frozen k6 0; have z3 := blk_frozen k6 1; have z4 := blk_frozen k6 2; have HV1 := Aside0.mk hV1; have HV5 := Aside0.mk hV5; have HB4 := Aside0.mk hb4; clear k4 k6 hV1 hV5 hb4) | ((with_reducible refine gate_builtin (b := .append) (xs := #[.tmp 45, .tmp 47]) rfl ?_); at_builtin; refine Kd.N_append k43 (w0 := w) w.heap.size rfl (.tmp 45) (.tmp 47) 27 43 (.agg #[(.int .i64 0), (.slice none 0 0)]) 32 rfl Try.underlying27 info43 rfl (by decide) (by omega) u8 out (⟨t, bd⟩ : S43) [.int .i64 t, .slice A1_ bd.length c1_] (fun k => w1.heap.size ≤ k) (fun k => w1.heap.size ≤ k ∧ some k ≠ (u8 : Value).ownBlock) rfl ?aX ?aP (fun _ hk => hk) ?aF ?aO ?aB ?aS ?aL ?_; (case aX => rw [World.size_alloc, World.size_alloc]; rfl); (case aP => exact k43_mkF _ _ (⟨t, bd⟩ : S43) (Kd.V_reads' HV1.out).2.1 (Kd.V_F (Kd.V_alloc (Kd.V_alloc (Kd.V_mono HV1.out HOKV.out) _) _))); (case aF => exact fun k hk => (by simp only [World.size_alloc] at hk; omega)); (case aO => exact Kd.N_alloc (Kd.N_alloc (Kd.N_below HN.out.1 HB4.out) _) _); (case aB => exact below_alloc (below_alloc (below_step HB.out.1 HB4.out) _) _); (case aS => simp only [World.size_alloc]; omega); (case aL => have := HOL.out; omega); intro v9 w9 hN9 hb9 hg9 hat9; have HN9 := Aside0.mk hN9; have HB9 := Aside0.mk hb9; have HG9 := Aside0.mk hg9; have HAT9 := Aside0.mk hat9; clear hN9 hb9 hg9 hat9))
     go_roundg k1
     case measure => omega
     case rel =>
      have hnb : ∀ k, k < w3.heap.size → some k ≠ (u8 : Value).ownBlock := fun k hk he => by have := HN.out.2 k he.symm; omega
      have hsz9 : wr.heap.size ≤ w9.heap.size := by
       have h9 := HG9.out.size
       (try simp only [World.size_alloc] at h9)
       omega
      refine ⟨b.drop n.toNat, out ++ [⟨t, bd⟩], A7, cA - n.toNat, by rw [List.length_drop], ⟨q1, HQ1.out, ?_⟩, ⟨?_⟩, ⟨HN9.out, ?_⟩, ⟨?_⟩, ⟨?_⟩, ⟨HB9.out, ?_, ?_⟩⟩
      ·
       have e := HRq.out
       rw [← HQ.out] at e
       rw [e]
       simp
      ·
       exact Kd.V_grown (Kd.V_alloc (Kd.V_alloc (Kd.V_below HV7.out HB4.out) _) _) HG9.out (fun k hk => hnb k (by unfold okA at hk; omega))
      ·
       intro k hk
       rcases HAT9.out with e | ⟨g, e, hg⟩
       ·
        exact HN.out.2 k (by rw [← e]; exact hk)
       ·
        rw [e] at hk
        injection hk with hk
        subst hk
        try simp only [World.size_alloc] at hg
        omega
      ·
       exact (HG9.out.block _ (by simp only [World.size_alloc]; omega) (hnb _ (by omega))).trans B4W.out
      ·
       exact (HG9.out.block _ (by simp only [World.size_alloc]; omega) (hnb _ (by omega))).trans B6W.out
      ·
       omega
      ·
       rw [List.length_drop]; omega
set_option maxHeartbeats 8000000 in
set_option maxRecDepth 100000 in
theorem rfeed_no (A0_0 : Option Addr) (c0_0 : Nat) (l0_0 : List Int) (a0_1 : Bool) (A1 : Option Addr) (c1 : Nat) (l1 all : List Int) (R : List S43 × List Int × Int × Int × List Int) (w : World) (hr0_0 : Kd.C (Kd.int .u8) w A0_0 l0_0.length l0_0) (hc0_0 : l0_0.length ≤ c0_0) (hr1 : Kd.C (Kd.int .u8) w A1 l1.length l1) (hc1 : l1.length ≤ c1)
  (hs : ridgewayref04_Sane.f 100 l0_0 a0_1 = some false) (hall : all = [] ++ l1) (hl : all.length < 1000000000) (hm : rmsgs 100 (all.length + 1) all = some R) :
  Calls Try.prog 9 #[.agg #[.slice A0_0 l0_0.length c0_0, .bool a0_1], .slice A1 l1.length c1] w (feedPost w R) := by
 have HR := Aside0.mk hr0_0
 have HC := Aside0.mk hc0_0
 have HR1 := Aside0.mk hr1
 have HC1 := Aside0.mk hc1
 have HS := Aside0.mk hs
 have HL := Aside0.mk hl
 have HRL := Aside0.mk (show R.1.length ≤ 1000000000 from by have := rmsgs_len 100 _ _ _ hm; omega)
 have HM := Aside0.mk hm
 have HALL := Aside0.mk hall
 clear hr0_0 hc0_0 hr1 hc1 hs hl hm hall
 go_enter Try.func9, Try.ntmps9
 go_wp2_with (first
  | (go_at_call 11; (with_reducible refine (ridgewayref04_Sane.calls 100 _ _ l0_0 a0_1 false _ (Kd.C_alloc (Kd.C_alloc (Kd.C_alloc HR.out _) _) _) HC.out HS.out).mono ?_); rintro e w1 ⟨rfl, hb⟩; obtain ⟨k1, k2, k3, kB, kz⟩ := rfeed_boxes hb; have x0 : w1.cell? ⟨w.heap.size, 0, none⟩ = some (.slice A0_0 l0_0.length c0_0) := (blk_cell k1 0).trans rfl; have x1 : w1.cell? ⟨w.heap.size, 1, none⟩ = some (.bool a0_1) := (blk_cell k1 1).trans rfl; have x2 : w1.cell? ⟨w.heap.size + 1, 0, none⟩ = some (.slice none 0 0) := (blk_cell k2 0).trans rfl; have x3 : w1.cell? ⟨w.heap.size + 1, 1, none⟩ = some (.bool false) := (blk_cell k2 1).trans rfl; have x4 : w1.cell? ⟨w.heap.size + 1 + 1, 0, none⟩ = some (.int .i64 0) := (blk_cell k3 0).trans rfl; have x5 : w1.cell? ⟨w.heap.size + 1 + 1, 1, none⟩ = some (.int .i64 0) := (blk_cell k3 1).trans rfl; have x6 : w1.cell? ⟨w.heap.size + 1 + 1, 2, none⟩ = some (.slice none 0 0) := (blk_cell k3 2).trans rfl; have f0 := blk_frozen k1 0; have f1 := blk_frozen k1 1; have f2 := blk_frozen k2 0; have f3 := blk_frozen k2 1; have f4 := blk_frozen k3 0; have f5 := blk_frozen k3 1; have f6 := blk_frozen k3 2; have lt0 : w.heap.size < w1.heap.size := (by omega); have lt1 : w.heap.size + 1 < w1.heap.size := (by omega); have lt2 : w.heap.size + 1 + 1 < w1.heap.size := (by omega); have KB := Aside0.mk kB; have K2 := Aside0.mk k2; have K3 := Aside0.mk k3; clear hb k1 k2 k3 kB; have HSX := Aside0.mk (show w1.heap.size ≤ (((w1.setCell ⟨w.heap.size, 0, none⟩ (.slice none 0 0)).setCell ⟨w.heap.size, 1, none⟩ (.bool false)).alloc (.cells #[] 5)).heap.size from (by (try simp only [World.size_alloc, feed_size]) <;> omega)); have HBX := Aside0.mk (show Below w1.heap.size ((w1.setCell ⟨w.heap.size, 0, none⟩ (.slice none 0 0)).setCell ⟨w.heap.size, 1, none⟩ (.bool false)) (((w1.setCell ⟨w.heap.size, 0, none⟩ (.slice none 0 0)).setCell ⟨w.heap.size, 1, none⟩ (.bool false)).alloc (.cells #[] 5)) from (Below.refl _ _).alloc (by (try simp only [feed_size]) <;> omega) _); have HLIT := Aside0.mk (R_lit8e ((w1.setCell ⟨w.heap.size, 0, none⟩ (.slice none 0 0)).setCell ⟨w.heap.size, 1, none⟩ (.bool false)) w1.heap.size 5 w1.heap.size (by first | rfl | simp only [feed_size]) (by (try simp only [feed_size]) <;> omega) [] (by simp)); have HKX := Aside0.mk (show Below w.heap.size w ((w1.setCell ⟨w.heap.size, 0, none⟩ (.slice none 0 0)).setCell ⟨w.heap.size, 1, none⟩ (.bool false)) from (set_below _ (set_below _ KB.out (Nat.le_refl _)) (Nat.le_refl _))))
  | ((with_reducible refine gate_builtin (b := .append) (xs := #[.tmp 20, .tmp 22]) rfl ?_); at_builtin; refine Kd.R_append_rows (Kd.int .u8) (w0 := ((w1.setCell ⟨w.heap.size, 0, none⟩ (.slice none 0 0)).setCell ⟨w.heap.size, 1, none⟩ (.bool false))) w1.heap.size rfl (.tmp 20) (.tmp 22) 22 5 (.int .u8 0) 1 rfl Try.underlying22 info5 rfl (by decide) (by omega) _ [] [] _ _ _ (fun _ => True) (fun _ => False) rfl rfl ?aO ?aR (fun _ _ h => h) (fun _ h => h.elim) ?aF ?aB ?aS ?aL ?_; (case aR => exact (Kd.C_nil _ _)); (case aB => exact HBX.out); (case aF => exact (fun _ _ => trivial)); (case aO => exact HLIT.out); (case aS => exact HSX.out); (case aL => have := HL.out; rw [HALL.out] at this; simp only [List.length_append, List.length_nil] at this ⊢; omega); intro v2 w2 ho hb2 hg hat; have HO2 := Aside0.mk ho; have HB2 := Aside0.mk hb2; clear ho hb2 hg hat)
  | ((with_reducible refine gate_builtin (b := .append) (xs := #[.tmp 24, .tmp 25]) rfl ?_); at_builtin; refine Kd.R_append_rows (Kd.int .u8) (w0 := ((w1.setCell ⟨w.heap.size, 0, none⟩ (.slice none 0 0)).setCell ⟨w.heap.size, 1, none⟩ (.bool false))) w1.heap.size rfl (.tmp 24) (.tmp 25) 22 5 (.int .u8 0) 1 rfl Try.underlying22 info5 rfl (by decide) (by omega) v2 ([] ++ []) l1 _ _ _ (fun _ => True) (fun _ => False) rfl rfl ?aO ?aR (fun _ _ h => h) (fun _ h => h.elim) ?aF ?aB ?aS ?aL ?_; (case aR => exact (Kd.C_below (Kd.C_below HR1.out HKX.out) (by first | exact HB2.out | (rw [feed_size, feed_size]; exact HB2.out)))); (case aB => exact HB2.out); (case aF => exact (fun _ _ => trivial)); (case aO => exact HO2.out); (case aS => exact (by have h := HB2.out.size; (try simp only [feed_size] at h); exact h)); (case aL => have := HL.out; rw [HALL.out] at this; simp only [List.length_append, List.nil_append, List.length_nil] at this ⊢; omega); intro v3 w3 ho hb3 hg hat; rw [List.nil_append, ← HALL.out] at ho; obtain ⟨Aa, ca, rfl⟩ := Kd.V_slice (Kd.R_V (base' := 0) ho); have HO3 := Aside0.mk ho; have HB3 := Aside0.mk hb3; clear ho hb3 hg hat))
 clear lt0 lt1 lt2 x0 x1 x2 x3 x4 x5 x6 f0 f1 f2 f3 f4 f5 f6
 have hz3 := HB3.out.size
 (try simp only [feed_size] at hz3)
 have hk3 : Below w.heap.size w w3 := below_step HKX.out (by first | exact HB3.out | (rw [feed_size, feed_size]; exact HB3.out))
 have b4 : w3.heap[w.heap.size + 1]? = some (.cells #[.slice none 0 0, .bool false] 24 (0, 0)) := (HB3.out.block _ (by omega)).trans ((Below.heap_setCell _ _ _ _ (by show w.heap.size + 1 ≠ w.heap.size; omega)).trans ((Below.heap_setCell _ _ _ _ (by show w.heap.size + 1 ≠ w.heap.size; omega)).trans K2.out))
 have b6 : w3.heap[w.heap.size + 1 + 1]? = some (.cells #[.int .i64 0, .int .i64 0, .slice none 0 0] 29 (0, 0)) := (HB3.out.block _ (by omega)).trans ((Below.heap_setCell _ _ _ _ (by show w.heap.size + 1 + 1 ≠ w.heap.size; omega)).trans ((Below.heap_setCell _ _ _ _ (by show w.heap.size + 1 + 1 ≠ w.heap.size; omega)).trans K3.out))
 have hV0 : Kd.V (Kd.int .u8) 5 w3 0 (okA w1.heap.size w3.heap.size) (.slice Aa all.length ca) all := Kd.V_mono (base := 0) (Kd.R_V (base' := 0) (Kd.R_bound HO3.out)) (fun k hk => by have := hk.2; unfold okA; omega)
 have HV0 := Aside0.mk hV0
 have B4 := Aside0.mk b4
 have B6 := Aside0.mk b6
 have HK3 := Aside0.mk hk3
 have lo3 : w.heap.size + 1 + 1 < w1.heap.size := by omega
 clear hV0 b4 b6 hk3 K2 K3 KB HKX HB2 HO2 HSX HBX HLIT HO3 HB3
 go_loopg [7, 8] (all.length + 1) (fun kq v7 v8 w' => ∃ (b : List Int) (out : List S43) (A : Option Addr) (c : Nat), v7 = .slice A b.length c ∧ Aside0 (∃ q, rmsgs 100 kq b = some q ∧ R = (out ++ q.1, q.2)) ∧ Aside0 (Kd.V (Kd.int .u8) 5 w' 0 (okA w1.heap.size w3.heap.size) (.slice A b.length c) b) ∧ Aside0 (Kd.N k43 43 w' w.heap.size (fun k => w1.heap.size ≤ k) v8 out ∧ ∀ k, v8.ownBlock = some k → w3.heap.size ≤ k) ∧ Aside0 (w'.heap[w.heap.size + 1]? = some (.cells #[.slice none 0 0, .bool false] 24 (0, 0))) ∧ Aside0 (w'.heap[w.heap.size + 1 + 1]? = some (.cells #[.int .i64 0, .int .i64 0, .slice none 0 0] 29 (0, 0))) ∧ Aside0 (Below w.heap.size w w' ∧ w3.heap.size ≤ w'.heap.size ∧ b.length ≤ all.length))
 case atStart => exact ⟨all, [], Aa, ca, rfl, ⟨R, HM.out, by simp⟩, HV0, ⟨Kd.N_nil _ _ _ _ _, fun k hk => by simp [Value.ownBlock] at hk⟩, B4, B6, ⟨HK3.out, Nat.le_refl _, Nat.le_refl _⟩⟩
 case round =>
  clear HV0 B4 B6 HK3
  obtain ⟨b, out, A, cA, rfl, HQ, HV, HN, B4, B6, HB⟩ := hrel
  cases gk with
  | zero => obtain ⟨q, hq, -⟩ := HQ.out; simp [rmsgs] at hq
  | succ k1 =>
   obtain ⟨q, hq, hRq⟩ := HQ.out
   simp only [rmsgs] at hq
   obtain ⟨⟨t, bd, n, c, sc, dd⟩, hgm, hq⟩ := Option.bind_eq_some_iff.mp hq
   dsimp only at hq
   have HG := Aside0.mk hgm
   have HRq := Aside0.mk hRq
   have hsz := HB.out.2.1
   have hbl := HB.out.2.2
   have hal := HL.out
   have lt1 : w.heap.size + 1 < wr.heap.size := by omega
   have lt2 : w.heap.size + 1 + 1 < wr.heap.size := by omega
   have hlen := HRL.out
   rw [hRq] at hlen
   simp only [List.length_append] at hlen
   have HOL := Aside0.mk (show out.length ≤ 1000000000 by omega)
   have HVL := Aside0.mk (Kd.N_lt HN.out.1)
   clear hgm hRq HQ hlen
   have hnoC : ∀ {p : Prop}, p → p := fun h => h
   by_cases g1 : c = 0
   rotate_left
   ·
    rw [if_neg g1] at hq
    have d1 : (c == 0) = false := by simp [g1]
    have d2 : (c != 0) = true := by simp [g1]
    have G1 := Aside0.mk g1
    have HQ := Aside0.mk (Option.some.inj hq)
    clear g1 hq
    go_wp2_with (first | (go_at_call 19; (with_reducible refine (ridgewayref03_Get.calls 100 (okA w1.heap.size w3.heap.size) A cA b t bd n c sc dd wr (Kd.V_map HV.out (fun _ hf => hf)) HG.out).mono ?_); rintro e w4 ⟨v1, v5, rfl, hV1, hV5, hb4⟩; obtain ⟨A1_, c1_, rfl⟩ := Kd.V_slice hV1; obtain ⟨A5, c5, rfl⟩ := Kd.V_slice hV5; have B4W := Aside0.mk (blk_alloc (blk_alloc (blk_below B4.out hb4) (Obj.cells #[.int .i64 t, .slice A1_ bd.length c1_] 43)) (Obj.cells #[.int .i64 c, .int .i64 sc, .slice A5 dd.length c5] 29)); have B6W := Aside0.mk (blk_alloc (blk_alloc (blk_below B6.out hb4) (Obj.cells #[.int .i64 t, .slice A1_ bd.length c1_] 43)) (Obj.cells #[.int .i64 c, .int .i64 sc, .slice A5 dd.length c5] 29)); have k4 := blk_below B4.out hb4; have k6 := blk_below B6.out hb4; have hz4 := hb4.size; have K4W := Aside0.mk k4; have K6W := Aside0.mk k6; have lu0 : w.heap.size < w4.heap.size := (by omega); have lu1 : w.heap.size + 1 < w4.heap.size := (by omega); have lu2 : w.heap.size + 1 + 1 < w4.heap.size := (by omega); have y0 : w4.cell? ⟨w.heap.size + 1, 0, none⟩ = some (.slice none 0 0) := (blk_cell k4 0).trans rfl; have y1 : w4.cell? ⟨w.heap.size + 1, 1, none⟩ = some (.bool false) := (blk_cell k4 1).trans rfl; have y2 : w4.cell? ⟨w.heap.size + 1 + 1, 0, none⟩ = some (.int .i64 0) := (blk_cell k6 0).trans rfl; have y3 : w4.cell? ⟨w.heap.size + 1 + 1, 1, none⟩ = some (.int .i64 0) := (blk_cell k6 1).trans rfl; have y4 : w4.cell? ⟨w.heap.size + 1 + 1, 2, none⟩ = some (.slice none 0 0) := (blk_cell k6 2).trans rfl; have z0 := blk_frozen k4 0; have z1 := blk_frozen k4 1; have z2 := blk_frozen k6 0; have z3 := blk_frozen k6 1; have z4 := blk_frozen k6 2; have HV1 := Aside0.mk hV1; have HV5 := Aside0.mk hV5; have HB4 := Aside0.mk hb4; clear k4 k6 hV1 hV5 hb4))
    go_region
    all_goals go_wp2
    all_goals
     obtain ⟨p1, p2, p3⟩ := rfeed_puts K4W.out K6W.out (.slice none 0 0) (.slice A5 dd.length c5) (.int .i64 c) (.int .i64 sc) (.bool true)
     have hR : R = (out, b, c, sc, dd) := by
      have e := HRq.out
      rw [← HQ.out] at e
      simpa using e
     rw [hR]
     obtain ⟨W2, hW2⟩ : ∃ W2 : World, W2 = ((((((w4.setCell ⟨w.heap.size + 1, 0, none⟩ (.slice none 0 0)).setCell ⟨w.heap.size + 1, 1, none⟩ (.bool true)).setCell ⟨w.heap.size + 1 + 1, 0, none⟩ (.int .i64 c)).setCell ⟨w.heap.size + 1 + 1, 1, none⟩ (.int .i64 sc)).setCell ⟨w.heap.size + 1 + 1, 2, none⟩ (.slice A5 dd.length c5)).alloc (.cells #[.int .i64 t, .slice A1_ bd.length c1_] 43)).alloc (.cells #[.int .i64 c, .int .i64 sc, .slice A5 dd.length c5] 29) := ⟨_, rfl⟩
     have hbb : Below w.heap.size w W2 := by rw [hW2]; exact below_alloc (below_alloc (set_below _ (set_below _ (set_below _ (set_below _ (set_below _ (below_step HB.out.1 HB4.out) (by omega)) (by omega)) (by omega)) (by omega)) (by omega)) _) _
     have q4 := blk_alloc (blk_alloc p1 (.cells #[.int .i64 t, .slice A1_ bd.length c1_] 43)) (.cells #[.int .i64 c, .int .i64 sc, .slice A5 dd.length c5] 29)
     have q6 := blk_alloc (blk_alloc p2 (.cells #[.int .i64 t, .slice A1_ bd.length c1_] 43)) (.cells #[.int .i64 c, .int .i64 sc, .slice A5 dd.length c5] 29)
     have q0 : ∀ k, k < w4.heap.size → k ≠ w.heap.size + 1 → k ≠ w.heap.size + 1 + 1 → W2.heap[k]? = w4.heap[k]? := fun k hk e1 e2 => by
      rw [hW2]
      exact (Below.heap_alloc _ _ _ (by simp only [World.size_alloc, feed_size]; omega)).trans ((Below.heap_alloc _ _ _ (by simp only [feed_size]; omega)).trans (p3 k e1 e2))
     rw [← hW2] at q4 q6 ⊢
     clear hW2 p1 p2 p3
     have c0 : W2.drew.cell? ⟨w.heap.size + 1, 0, none⟩ = some (.slice none 0 0) := (blk_cell q4 0).trans rfl
     have c1_' : W2.drew.cell? ⟨w.heap.size + 1, 1, none⟩ = some (.bool true) := (blk_cell q4 1).trans rfl
     have c3 : W2.drew.cell? ⟨w.heap.size + 1 + 1, 0, none⟩ = some (.int .i64 c) := (blk_cell q6 0).trans rfl
     have c4 : W2.drew.cell? ⟨w.heap.size + 1 + 1, 1, none⟩ = some (.int .i64 sc) := (blk_cell q6 1).trans rfl
     have c5' : W2.drew.cell? ⟨w.heap.size + 1 + 1, 2, none⟩ = some (.slice A5 dd.length c5) := (blk_cell q6 2).trans rfl
     have hNf : Kd.N k43 43 W2 w.heap.size (fun k => w1.heap.size ≤ k) u8 out := Kd.N_step (Kd.N_below HN.out.1 HB4.out) (fun k hk hl => q0 k hl (by omega) (by omega))
     refine bodyPost_ret (v := .tuple #[.agg #[.slice none 0 0, .bool true], u8, .agg #[.int .i64 c, .int .i64 sc, .slice A5 dd.length c5]]) ?_ rfl ?_
     ·
      simp [results, Try.results9, go_sem, c0, c1_', c3, c4, c5']
     ·
      have e2 : (c != 0) = true := by simpa using G1.out
      refine ⟨.slice none 0 0, u8, .slice A5 dd.length c5, by show _ = Ending.returned (.tuple #[.agg #[.slice none 0 0, .bool (c != 0)], u8, .agg #[.int .i64 (if c = 0 then 0 else c), .int .i64 (if c = 0 then 0 else sc), .slice A5 dd.length c5]]); rw [if_neg G1.out, if_neg G1.out, e2], ?_, Kd.N_mono (Kd.N_drew hNf) (fun k hk => by omega), ?_, below_drew1 hbb⟩
      ·
       show Kd.V _ _ _ _ _ _ (if c = 0 then b else [])
       rw [if_neg G1.out]; exact Kd.V_nil _ _ _ _ _
      ·
       show Kd.V _ _ _ _ _ _ (if c = 0 then [] else dd)
       rw [if_neg G1.out]
       refine Kd.V_drew (Kd.V_map (base' := w.heap.size) HV5.out (fun _ hf => Kd.F_mono (Kd.F_step hf (fun k hk hl => q0 k hl (by rcases hk with hk | hk <;> (try unfold okA at hk) <;> omega) (by rcases hk with hk | hk <;> (try unfold okA at hk) <;> omega))) (fun k hk => ⟨?_, fun he => ?_⟩)))
       ·
        rcases hk with hk | hk <;> (try unfold okA at hk) <;> omega
       ·
        have h1 := HN.out.2 k he.symm
        have h2 := HVL.out k he.symm
        rcases hk with hk | hk <;> (try unfold okA at hk) <;> omega
   ·
    subst g1
    rw [if_pos rfl] at hq
    by_cases g2 : n = 0
    ·
     subst g2
     rw [if_pos rfl] at hq
     have HQ := Aside0.mk (Option.some.inj hq)
     clear hq
     go_wp2_with (first | (go_at_call 19; (with_reducible refine (ridgewayref03_Get.calls 100 (okA w1.heap.size w3.heap.size) A cA b t bd 0 0 sc dd wr (Kd.V_map HV.out (fun _ hf => hf)) HG.out).mono ?_); rintro e w4 ⟨v1, v5, rfl, hV1, hV5, hb4⟩; obtain ⟨A1_, c1_, rfl⟩ := Kd.V_slice hV1; obtain ⟨A5, c5, rfl⟩ := Kd.V_slice hV5; have B4W := Aside0.mk (blk_alloc (blk_alloc (blk_below B4.out hb4) (Obj.cells #[.int .i64 t, .slice A1_ bd.length c1_] 43)) (Obj.cells #[.int .i64 0, .int .i64 sc, .slice A5 dd.length c5] 29)); have B6W := Aside0.mk (blk_alloc (blk_alloc (blk_below B6.out hb4) (Obj.cells #[.int .i64 t, .slice A1_ bd.length c1_] 43)) (Obj.cells #[.int .i64 0, .int .i64 sc, .slice A5 dd.length c5] 29)); have k4 := blk_below B4.out hb4; have k6 := blk_below B6.out hb4; have hz4 := hb4.size; have K4W := Aside0.mk k4; have K6W := Aside0.mk k6; have lu0 : w.heap.size < w4.heap.size := (by omega); have lu1 : w.heap.size + 1 < w4.heap.size := (by omega); have lu2 : w.heap.size + 1 + 1 < w4.heap.size := (by omega); have y0 : w4.cell? ⟨w.heap.size + 1, 0, none⟩ = some (.slice none 0 0) := (blk_cell k4 0).trans rfl; have y1 : w4.cell? ⟨w.heap.size + 1, 1, none⟩ = some (.bool false) := (blk_cell k4 1).trans rfl; have y2 : w4.cell? ⟨w.heap.size + 1 + 1, 0, none⟩ = some (.int .i64 0) := (blk_cell k6 0).trans rfl; have y3 : w4.cell? ⟨w.heap.size + 1 + 1, 1, none⟩ = some (.int .i64 0) := (blk_cell k6 1).trans rfl; have y4 : w4.cell? ⟨w.heap.size + 1 + 1, 2, none⟩ = some (.slice none 0 0) := (blk_cell k6 2).trans rfl; have z0 := blk_frozen k4 0; have z1 := blk_frozen k4 1; have z2 := blk_frozen k6 0; have z3 := blk_frozen k6 1; have z4 := blk_frozen k6 2; have HV1 := Aside0.mk hV1; have HV5 := Aside0.mk hV5; have HB4 := Aside0.mk hb4; clear k4 k6 hV1 hV5 hb4))
     obtain ⟨p1, p2, p3⟩ := rfeed_puts K4W.out K6W.out (.slice A b.length cA) (.slice none 0 0) (.int .i64 0) (.int .i64 0) (.bool false)
     have hR : R = (out, b, 0, 0, []) := by
      have e := HRq.out
      rw [← HQ.out] at e
      simpa using e
     rw [hR]
     obtain ⟨W2, hW2⟩ : ∃ W2 : World, W2 = ((((((w4.setCell ⟨w.heap.size + 1, 0, none⟩ (.slice A b.length cA)).setCell ⟨w.heap.size + 1, 1, none⟩ (.bool false)).setCell ⟨w.heap.size + 1 + 1, 0, none⟩ (.int .i64 0)).setCell ⟨w.heap.size + 1 + 1, 1, none⟩ (.int .i64 0)).setCell ⟨w.heap.size + 1 + 1, 2, none⟩ (.slice none 0 0)).alloc (.cells #[.int .i64 t, .slice A1_ bd.length c1_] 43)).alloc (.cells #[.int .i64 0, .int .i64 sc, .slice A5 dd.length c5] 29) := ⟨_, rfl⟩
     have hbb : Below w.heap.size w W2 := by rw [hW2]; exact below_alloc (below_alloc (set_below _ (set_below _ (set_below _ (set_below _ (set_below _ (below_step HB.out.1 HB4.out) (by omega)) (by omega)) (by omega)) (by omega)) (by omega)) _) _
     have q4 := blk_alloc (blk_alloc p1 (.cells #[.int .i64 t, .slice A1_ bd.length c1_] 43)) (.cells #[.int .i64 0, .int .i64 sc, .slice A5 dd.length c5] 29)
     have q6 := blk_alloc (blk_alloc p2 (.cells #[.int .i64 t, .slice A1_ bd.length c1_] 43)) (.cells #[.int .i64 0, .int .i64 sc, .slice A5 dd.length c5] 29)
     have q0 : ∀ k, k < w4.heap.size → k ≠ w.heap.size + 1 → k ≠ w.heap.size + 1 + 1 → W2.heap[k]? = w4.heap[k]? := fun k hk e1 e2 => by
      rw [hW2]
      exact (Below.heap_alloc _ _ _ (by simp only [World.size_alloc, feed_size]; omega)).trans ((Below.heap_alloc _ _ _ (by simp only [feed_size]; omega)).trans (p3 k e1 e2))
     rw [← hW2] at q4 q6 ⊢
     clear hW2 p1 p2 p3
     have c0 : W2.cell? ⟨w.heap.size + 1, 0, none⟩ = some (.slice A b.length cA) := (blk_cell q4 0).trans rfl
     have c1_' : W2.cell? ⟨w.heap.size + 1, 1, none⟩ = some (.bool false) := (blk_cell q4 1).trans rfl
     have c3 : W2.cell? ⟨w.heap.size + 1 + 1, 0, none⟩ = some (.int .i64 0) := (blk_cell q6 0).trans rfl
     have c4 : W2.cell? ⟨w.heap.size + 1 + 1, 1, none⟩ = some (.int .i64 0) := (blk_cell q6 1).trans rfl
     have c5' : W2.cell? ⟨w.heap.size + 1 + 1, 2, none⟩ = some (.slice none 0 0) := (blk_cell q6 2).trans rfl
     have hNf : Kd.N k43 43 W2 w.heap.size (fun k => w1.heap.size ≤ k) u8 out := Kd.N_step (Kd.N_below HN.out.1 HB4.out) (fun k hk hl => q0 k hl (by omega) (by omega))
     refine bodyPost_ret (v := .tuple #[.agg #[.slice A b.length cA, .bool false], u8, .agg #[.int .i64 0, .int .i64 0, .slice none 0 0]]) ?_ rfl ?_
     ·
      simp [results, Try.results9, go_sem, c0, c1_', c3, c4, c5']
     ·
      refine ⟨.slice A b.length cA, u8, .slice none 0 0, rfl, ?_, Kd.N_mono hNf (fun k hk => by omega), Kd.V_nil _ _ _ _ _, hbb⟩
      refine (Kd.V_map (base' := w.heap.size) (Kd.V_below HV.out HB4.out) (fun _ hf => Kd.F_mono (Kd.F_step hf (fun k hk hl => q0 k hl (by unfold okA at hk; omega) (by unfold okA at hk; omega))) (fun k hk => ⟨by unfold okA at hk; omega, fun he => ?_⟩)))
      have h1 := HN.out.2 k he.symm
      unfold okA at hk
      omega
    ·
     rw [if_neg g2] at hq
     have d3 : (n == 0) = false := by simp [g2]
     by_cases g3 : 0 ≤ n ∧ n ≤ (b.length : Int)
     rotate_left
     ·
      rw [if_neg g3] at hq
      cases hq
     rw [if_pos g3] at hq
     obtain ⟨q1, hq1, hq⟩ := Option.bind_eq_some_iff.mp hq
     have HQ1 := Aside0.mk hq1
     have HQ := Aside0.mk (Option.some.inj hq)
     obtain ⟨g4_, g5_⟩ := g3
     have g6_ : n ≤ 1000000000000 := by omega
     clear hq1 hq g2
     have HOKV : Aside0 (∀ k, (okA w1.heap.size w3.heap.size k ∨ wr.heap.size ≤ k) → w1.heap.size ≤ k ∧ some k ≠ (u8 : Value).ownBlock) := ⟨fun k hk => ⟨by rcases hk with hk | hk <;> (try unfold okA at hk) <;> omega, fun he => by have h1 := HN.out.2 k he.symm; have h2 := HVL.out k he.symm; rcases hk with hk | hk <;> (try unfold okA at hk) <;> omega⟩⟩
     obtain ⟨A7, hcut, hV7⟩ := cutV wr A cA b _ 0 n HV.out g4_ g5_
     have HV7 := Aside0.mk hV7
     clear hV7
     go_wp2_with (first | (go_at_call 19; (with_reducible refine (ridgewayref03_Get.calls 100 (okA w1.heap.size w3.heap.size) A cA b t bd n 0 sc dd wr (Kd.V_map HV.out (fun _ hf => hf)) HG.out).mono ?_); rintro e w4 ⟨v1, v5, rfl, hV1, hV5, hb4⟩; obtain ⟨A1_, c1_, rfl⟩ := Kd.V_slice hV1; obtain ⟨A5, c5, rfl⟩ := Kd.V_slice hV5; have B4W := Aside0.mk (blk_alloc (blk_alloc (blk_below B4.out hb4) (Obj.cells #[.int .i64 t, .slice A1_ bd.length c1_] 43)) (Obj.cells #[.int .i64 0, .int .i64 sc, .slice A5 dd.length c5] 29)); have B6W := Aside0.mk (blk_alloc (blk_alloc (blk_below B6.out hb4) (Obj.cells #[.int .i64 t, .slice A1_ bd.length c1_] 43)) (Obj.cells #[.int .i64 0, .int .i64 sc, .slice A5 dd.length c5] 29)); have k4 := blk_below B4.out hb4; have k6 := blk_below B6.out hb4; have hz4 := hb4.size; have K4W := Aside0.mk k4; have K6W := Aside0.mk k6; have lu0 : w.heap.size < w4.heap.size := (by omega); have lu1 : w.heap.size + 1 < w4.heap.size := (by omega); have lu2 : w.heap.size + 1 + 1 < w4.heap.size := (by omega); have y0 : w4.cell? ⟨w.heap.size + 1, 0, none⟩ = some (.slice none 0 0) := (blk_cell k4 0).trans rfl; have y1 : w4.cell? ⟨w.heap.size + 1, 1, none⟩ = some (.bool false) := (blk_cell k4 1).trans rfl; have y2 : w4.cell? ⟨w.heap.size + 1 + 1, 0, none⟩ = some (.int .i64 0) := (blk_cell k6 0).trans rfl; have y3 : w4.cell? ⟨w.heap.size + 1 + 1, 1, none⟩ = some (.int .i64 0) := (blk_cell k6 1).trans rfl; have y4 : w4.cell? ⟨w.heap.size + 1 + 1, 2, none⟩ = some (.slice none 0 0) := (blk_cell k6 2).trans rfl; have z0 := blk_frozen k4 0; have z1 := blk_frozen k4 1; have z2 := blk_frozen k6 0; have z3 := blk_frozen k6 1; have z4 := blk_frozen k6 2; have HV1 := Aside0.mk hV1; have HV5 := Aside0.mk hV5; have HB4 := Aside0.mk hb4; clear k4 k6 hV1 hV5 hb4) | ((with_reducible refine gate_builtin (b := .append) (xs := #[.tmp 45, .tmp 47]) rfl ?_); at_builtin; refine Kd.N_append k43 (w0 := w) w.heap.size rfl (.tmp 45) (.tmp 47) 27 43 (.agg #[(.int .i64 0), (.slice none 0 0)]) 32 rfl Try.underlying27 info43 rfl (by decide) (by omega) u8 out (⟨t, bd⟩ : S43) [.int .i64 t, .slice A1_ bd.length c1_] (fun k => w1.heap.size ≤ k) (fun k => w1.heap.size ≤ k ∧ some k ≠ (u8 : Value).ownBlock) rfl ?aX ?aP (fun _ hk => hk) ?aF ?aO ?aB ?aS ?aL ?_; (case aX => rw [World.size_alloc, World.size_alloc]; rfl); (case aP => exact k43_mkF _ _ (⟨t, bd⟩ : S43) (Kd.V_reads' HV1.out).2.1 (Kd.V_F (Kd.V_alloc (Kd.V_alloc (Kd.V_mono HV1.out HOKV.out) _) _))); (case aF => exact fun k hk => (by simp only [World.size_alloc] at hk; omega)); (case aO => exact Kd.N_alloc (Kd.N_alloc (Kd.N_below HN.out.1 HB4.out) _) _); (case aB => exact below_alloc (below_alloc (below_step HB.out.1 HB4.out) _) _); (case aS => simp only [World.size_alloc]; omega); (case aL => have := HOL.out; omega); intro v9 w9 hN9 hb9 hg9 hat9; have HN9 := Aside0.mk hN9; have HB9 := Aside0.mk hb9; have HG9 := Aside0.mk hg9; have HAT9 := Aside0.mk hat9; clear hN9 hb9 hg9 hat9))
     go_roundg k1
     case measure => omega
     case rel =>
      have hnb : ∀ k, k < w3.heap.size → some k ≠ (u8 : Value).ownBlock := fun k hk he => by have := HN.out.2 k he.symm; omega
      have hsz9 : wr.heap.size ≤ w9.heap.size := by
       have h9 := HG9.out.size
       (try simp only [World.size_alloc] at h9)
       omega
      refine ⟨b.drop n.toNat, out ++ [⟨t, bd⟩], A7, cA - n.toNat, by rw [List.length_drop], ⟨q1, HQ1.out, ?_⟩, ⟨?_⟩, ⟨HN9.out, ?_⟩, ⟨?_⟩, ⟨?_⟩, ⟨HB9.out, ?_, ?_⟩⟩
      ·
       have e := HRq.out
       rw [← HQ.out] at e
       rw [e]
       simp
      ·
       exact Kd.V_grown (Kd.V_alloc (Kd.V_alloc (Kd.V_below HV7.out HB4.out) _) _) HG9.out (fun k hk => hnb k (by unfold okA at hk; omega))
      ·
       intro k hk
       rcases HAT9.out with e | ⟨g, e, hg⟩
       ·
        exact HN.out.2 k (by rw [← e]; exact hk)
       ·
        rw [e] at hk
        injection hk with hk
        subst hk
        try simp only [World.size_alloc] at hg
        omega
      ·
       exact (HG9.out.block _ (by simp only [World.size_alloc]; omega) (hnb _ (by omega))).trans B4W.out
      ·
       exact (HG9.out.block _ (by simp only [World.size_alloc]; omega) (hnb _ (by omega))).trans B6W.out
      ·
       omega
      ·
       rw [List.length_drop]; omega
set_option maxHeartbeats 8000000 in
theorem ridgewayref04_Feed.calls (A0_0 : Option Addr) (c0_0 : Nat) (l0_0 : List Int) (a0_1 : Bool) (A1 : Option Addr) (c1 : Nat) (l1 : List Int) (r1 : List Int) (r2 : Bool) (r3 : List S43) (r4 r5 : Int) (r6 : List Int) (w : World) (hr0_0 : Kd.C (Kd.int .u8) w A0_0 l0_0.length l0_0) (hc0_0 : l0_0.length ≤ c0_0) (hr1 : Kd.C (Kd.int .u8) w A1 l1.length l1) (hc1 : l1.length ≤ c1) (h : ridgewayref04_Feed.f l0_0 a0_1 l1 = some (r1, r2, r3, r4, r5, r6)) :
  Calls Try.prog 9 #[.agg #[.slice A0_0 l0_0.length c0_0, .bool a0_1], .slice A1 l1.length c1] w fun e w' => ∃ v0_ v2_ v5_ : Value, e = .returned (.tuple #[.agg #[v0_, .bool r2], v2_, .agg #[.int .i64 r4, .int .i64 r5, v5_]]) ∧
   Kd.V (Kd.int .u8) 5 w' w.heap.size (fun k_ => w.heap.size ≤ k_ ∧ some k_ ≠ (v2_ : Value).ownBlock) v0_ r1 ∧ Kd.N k43 43 w' w.heap.size (fun k_ => w.heap.size ≤ k_) v2_ r3 ∧ Kd.V (Kd.int .u8) 5 w' w.heap.size (fun k_ => w.heap.size ≤ k_ ∧ some k_ ≠ (v2_ : Value).ownBlock) v5_ r6 ∧ Below w.heap.size w w' := by
 unfold ridgewayref04_Feed.f at h
 obtain ⟨ok, hok, h⟩ := Option.bind_eq_some_iff.mp h
 have tail : ∀ all : List Int, rfeedF all = some (r1, r2, r3, r4, r5, r6) → all.length < 1000000000 ∧ ∃ R, rmsgs 100 (all.length + 1) all = some R ∧ ∀ e w', feedPost w R e w' → ∃ v0_ v2_ v5_ : Value, e = .returned (.tuple #[.agg #[v0_, .bool r2], v2_, .agg #[.int .i64 r4, .int .i64 r5, v5_]]) ∧
   Kd.V (Kd.int .u8) 5 w' w.heap.size (fun k_ => w.heap.size ≤ k_ ∧ some k_ ≠ (v2_ : Value).ownBlock) v0_ r1 ∧ Kd.N k43 43 w' w.heap.size (fun k_ => w.heap.size ≤ k_) v2_ r3 ∧ Kd.V (Kd.int .u8) 5 w' w.heap.size (fun k_ => w.heap.size ≤ k_ ∧ some k_ ≠ (v2_ : Value).ownBlock) v5_ r6 ∧ Below w.heap.size w w' := by
  intro all h
  unfold rfeedF at h
  by_cases hl : all.length < 1000000000
  ·
   rw [if_pos hl] at h
   obtain ⟨R, hR, h⟩ := Option.map_eq_some_iff.mp h
   refine ⟨hl, R, hR, ?_⟩
   intro e w' hp
   obtain ⟨v0, v2, v5, h1, h2, h3, h4, h5⟩ := hp
   by_cases c : R.2.2.1 = 0
   ·
    rw [if_pos c] at h
    simp only [Prod.mk.injEq] at h
    obtain ⟨rfl, rfl, rfl, rfl, rfl, rfl⟩ := h
    have e2 : (R.2.2.1 != 0) = false := by simpa using c
    rw [if_pos c] at h2 h4
    rw [if_pos c, if_pos c, e2] at h1
    exact ⟨v0, v2, v5, h1, h2, h3, h4, h5⟩
   ·
    rw [if_neg c] at h
    simp only [Prod.mk.injEq] at h
    obtain ⟨rfl, rfl, rfl, rfl, rfl, rfl⟩ := h
    have e2 : (R.2.2.1 != 0) = true := by simpa using c
    rw [if_neg c] at h2 h4
    rw [if_neg c, if_neg c, e2] at h1
    exact ⟨v0, v2, v5, h1, h2, h3, h4, h5⟩
  ·
   rw [if_neg hl] at h
   cases h
 cases ok
 ·
  rw [if_neg (by decide)] at h
  obtain ⟨hl, R, hm, hp⟩ := tail _ h
  exact (rfeed_no A0_0 c0_0 l0_0 a0_1 A1 c1 l1 l1 R w hr0_0 hc0_0 hr1 hc1 hok rfl hl hm).mono hp
 ·
  rw [if_pos rfl] at h
  cases a0_1
  ·
   rw [if_neg (by decide)] at h
   obtain ⟨hl, R, hm, hp⟩ := tail _ h
   exact (rfeed_go A0_0 c0_0 l0_0 A1 c1 l1 (l0_0 ++ l1) R w hr0_0 hc0_0 hr1 hc1 hok rfl hl hm).mono hp
  ·
   rw [if_pos rfl] at h
   simp only [Option.some.injEq, Prod.mk.injEq] at h
   obtain ⟨rfl, rfl, rfl, rfl, rfl, rfl⟩ := h
   have h0 : l0_0 = [] := by
    unfold ridgewayref04_Sane.f at hok
    rw [if_pos rfl] at hok
    have := Option.some.inj hok
    simp only [beq_iff_eq] at this
    exact List.eq_nil_of_length_eq_zero (by omega)
   refine (rfeed_bad A0_0 c0_0 l0_0 A1 c1 l1 w hr0_0 hc0_0 hok).mono ?_
   rintro e w' ⟨rfl, hb⟩
   subst h0
   exact ⟨_, _, _, rfl, ⟨A0_0, c0_0, rfl, Nat.zero_le _, fun W' _ => ⟨rfl, by decide, fun h => absurd h (by simp)⟩⟩, Kd.N_nil _ _ _ _ _, Kd.V_nil _ _ _ _ _, hb⟩

/-! ### ridgewayref03_SameNote: function 13 -/
def ridgewayref03_SameNote.f (a0_0 : Int) (a0_1 : Int) (l0_2 : List Int) (a1_0 : Int) (a1_1 : Int) (l1_2 : List Int) : Option (Bool) := if a0_0 = a1_0 then (if a0_1 = a1_1 then (some ((strOfNums l0_2).toList == (strOfNums l1_2).toList)) else (some false)) else (some false)
set_option maxHeartbeats 8000000 in
set_option maxRecDepth 100000 in
theorem ridgewayref03_SameNote.calls (a0_0 : Int) (a0_1 : Int) (A0_2 : Option Addr) (c0_2 : Nat) (l0_2 : List Int) (a1_0 : Int) (a1_1 : Int) (A1_2 : Option Addr) (c1_2 : Nat) (l1_2 : List Int) (r : Bool) (w : World) (hr0_2 : Kd.C (Kd.int .u8) w A0_2 l0_2.length l0_2) (hc0_2 : l0_2.length ≤ c0_2) (hr1_2 : Kd.C (Kd.int .u8) w A1_2 l1_2.length l1_2) (hc1_2 : l1_2.length ≤ c1_2) (h : ridgewayref03_SameNote.f a0_0 a0_1 l0_2 a1_0 a1_1 l1_2 = some r) :
  Calls Try.prog 13 #[.agg #[.int .i64 a0_0, .int .i64 a0_1, .slice A0_2 l0_2.length c0_2], .agg #[.int .i64 a1_0, .int .i64 a1_1, .slice A1_2 l1_2.length c1_2]] w fun e w' => e = .returned (.bool r) ∧ Below w.heap.size w w' := by
 have hu29 := Try.underlying29
 have HR0_2 := Aside0.mk hr0_2
 have HC0_2 := Aside0.mk hc0_2
 clear hr0_2 hc0_2
 have HR1_2 := Aside0.mk hr1_2
 have HC1_2 := Aside0.mk hc1_2
 clear hr1_2 hc1_2
 have HB := Aside0.mk (Below.refl w.heap.size w)
 have H : (if a0_0 = a1_0 then (if a0_1 = a1_1 then (some ((strOfNums l0_2).toList == (strOfNums l1_2).toList)) else (some false)) else (some false)) = some r := h
 clear h
 by_cases c3 : a0_0 = a1_0
 ·
  rw [if_pos c3] at H
  have c3b0 : (a0_0 == a1_0) = true := beq_iff_eq.mpr c3
  have c3b1 : (a0_0 != a1_0) = false := bne_eq_false_iff_eq.mpr c3
  clear c3
  by_cases c4 : a0_1 = a1_1
  ·
   rw [if_pos c4] at H
   have c4b0 : (a0_1 == a1_1) = true := beq_iff_eq.mpr c4
   have c4b1 : (a0_1 != a1_1) = false := bne_eq_false_iff_eq.mpr c4
   clear c4
   obtain rfl := Option.some.inj H
   go_enter Try.func13, Try.ntmps13
   go_wp2_with (first | ((with_reducible refine gate_dst (N := 2) rfl ?_); refine box_event ?hg (N := 2) ?hd (cs := #[.int .i64 a0_0, .int .i64 a0_1, .slice A0_2 l0_2.length c0_2]) (t := 29) ?hr ?_; (case hd => rfl); (case hg => rfl); (case hr => first | (go_simp; done) | (go_simp; rfl)); intro gb314 hg w5 hbox hb; have n0_ := Aside0.mk (below_step (by repeat (first | (with_reducible first | exact HB.out | apply bA | apply bN | apply bD) | exact HB.out)) hb); have n1_ := Aside0.mk (hbox); have n2_ := Aside0.mk ((by rw [hg]; exact (below_size (by repeat (first | (with_reducible first | exact HB.out | apply bA | apply bN | apply bD) | exact HB.out))) : w.heap.size ≤ gb314)); have n3_ := Aside0.mk ((by rw [hg]; exact (below_size (by repeat (first | (with_reducible first | exact HB.out | apply bA | apply bN | apply bD) | exact HB.out))) : w.heap.size ≤ gb314)); clear HB; have HB := n0_; have BK314 := n1_; have GW314 := n2_; have GE314 := n3_; clear n0_ n1_ n2_ n3_; clear hb hbox hg) | ((with_reducible refine gate_dst (N := 3) rfl ?_); refine box_event ?hg (N := 3) ?hd (cs := #[.int .i64 a1_0, .int .i64 a1_1, .slice A1_2 l1_2.length c1_2]) (t := 29) ?hr ?_; (case hd => rfl); (case hg => rfl); (case hr => first | (go_simp; done) | (go_simp; rfl)); intro gb315 hg w6 hbox hb; have n0_ := Aside0.mk (blk_below (g := gb314) (o := .cells #[.int .i64 a0_0, .int .i64 a0_1, .slice A0_2 l0_2.length c0_2] 29 (0, 0)) (by (with_reducible repeat (first | refine kN ?_ _ | refine kD ?_ | refine kA ?_ _)); exact BK314.out) hb); have n1_ := Aside0.mk (below_step (by repeat (first | (with_reducible first | exact HB.out | apply bA | apply bN | apply bD | refine bS ?_ GE314.out) | exact HB.out)) hb); have n2_ := Aside0.mk (hbox); have n3_ := Aside0.mk ((by rw [hg]; exact (below_size (by repeat (first | (with_reducible first | exact HB.out | apply bA | apply bN | apply bD | refine bS ?_ GE314.out) | exact HB.out))) : w.heap.size ≤ gb315)); have n4_ := Aside0.mk ((by rw [hg]; exact (below_size (by repeat (first | (with_reducible first | exact HB.out | apply bA | apply bN | apply bD | refine bS ?_ GE314.out) | exact HB.out))) : w.heap.size ≤ gb315)); have n5_ := Aside0.mk ((by rw [hg]; exact Nat.ne_of_lt (blk_lt (g := gb314) (o := .cells #[.int .i64 a0_0, .int .i64 a0_1, .slice A0_2 l0_2.length c0_2] 29 (0, 0)) (by (with_reducible repeat (first | refine kN ?_ _ | refine kD ?_ | refine kA ?_ _)); exact BK314.out)) : gb314 ≠ gb315)); have n6_ := Aside0.mk ((by rw [hg]; exact Nat.ne_of_gt (blk_lt (g := gb314) (o := .cells #[.int .i64 a0_0, .int .i64 a0_1, .slice A0_2 l0_2.length c0_2] 29 (0, 0)) (by (with_reducible repeat (first | refine kN ?_ _ | refine kD ?_ | refine kA ?_ _)); exact BK314.out)) : gb315 ≠ gb314)); clear BK314; clear HB; have BK314 := n0_; have HB := n1_; have BK315 := n2_; have GW315 := n3_; have GE315 := n4_; have NB314_315 := n5_; have NB315_314 := n6_; clear n0_ n1_ n2_ n3_ n4_ n5_ n6_; clear hb hbox hg; have hnb7 := NB314_315.out; have hnc7 := NB315_314.out; have hcz8_0 : w6.cell? ⟨gb314, 0, none⟩ = some (.int .i64 a0_0) := (blk_cell BK314.out 0).trans rfl; have hcz8_1 : w6.cell? ⟨gb314, 1, none⟩ = some (.int .i64 a0_1) := (blk_cell BK314.out 1).trans rfl; have hcz8_2 : w6.cell? ⟨gb314, 2, none⟩ = some (.slice A0_2 l0_2.length c0_2) := (blk_cell BK314.out 2).trans rfl; have hfz8_0 := blk_frozen BK314.out 0; have hfz8_1 := blk_frozen BK314.out 1; have hfz8_2 := blk_frozen BK314.out 2; have hcz9_0 : w6.cell? ⟨gb315, 0, none⟩ = some (.int .i64 a1_0) := (blk_cell BK315.out 0).trans rfl; have hcz9_1 : w6.cell? ⟨gb315, 1, none⟩ = some (.int .i64 a1_1) := (blk_cell BK315.out 1).trans rfl; have hcz9_2 : w6.cell? ⟨gb315, 2, none⟩ = some (.slice A1_2 l1_2.length c1_2) := (blk_cell BK315.out 2).trans rfl; have hfz9_0 := blk_frozen BK315.out 0; have hfz9_1 := blk_frozen BK315.out 1; have hfz9_2 := blk_frozen BK315.out 2; have hcv10 := Kd.C_string (P := Try.prog) (A := A0_2) (c := c0_2) Try.underlying22 Try.underlying5 Try.underlying9 (Kd.C_below HR0_2.out HB.out); have hcv11 := Kd.C_string (P := Try.prog) (A := A1_2) (c := c1_2) Try.underlying22 Try.underlying5 Try.underlying9 (Kd.C_below HR1_2.out HB.out)))
   go_ret
   exact ⟨by first | rfl | (simp <;> rfl) | (simp [*] <;> rfl), by repeat (first | (with_reducible first | exact HB.out | apply bA | apply bN | apply bD | refine bS ?_ GE314.out | refine bS ?_ GE315.out) | exact HB.out)⟩
  ·
   rw [if_neg c4] at H
   have c4b0 : (a0_1 == a1_1) = false := beq_eq_false_iff_ne.mpr c4
   have c4b1 : (a0_1 != a1_1) = true := bne_iff_ne.mpr c4
   obtain rfl := Option.some.inj H
   go_enter Try.func13, Try.ntmps13
   go_wp2_with (first | ((with_reducible refine gate_dst (N := 2) rfl ?_); refine box_event ?hg (N := 2) ?hd (cs := #[.int .i64 a0_0, .int .i64 a0_1, .slice A0_2 l0_2.length c0_2]) (t := 29) ?hr ?_; (case hd => rfl); (case hg => rfl); (case hr => first | (go_simp; done) | (go_simp; rfl)); intro gb314 hg w12 hbox hb; have n0_ := Aside0.mk (below_step (by repeat (first | (with_reducible first | exact HB.out | apply bA | apply bN | apply bD) | exact HB.out)) hb); have n1_ := Aside0.mk (hbox); have n2_ := Aside0.mk ((by rw [hg]; exact (below_size (by repeat (first | (with_reducible first | exact HB.out | apply bA | apply bN | apply bD) | exact HB.out))) : w.heap.size ≤ gb314)); have n3_ := Aside0.mk ((by rw [hg]; exact (below_size (by repeat (first | (with_reducible first | exact HB.out | apply bA | apply bN | apply bD) | exact HB.out))) : w.heap.size ≤ gb314)); clear HB; have HB := n0_; have BK314 := n1_; have GW314 := n2_; have GE314 := n3_; clear n0_ n1_ n2_ n3_; clear hb hbox hg) | ((with_reducible refine gate_dst (N := 3) rfl ?_); refine box_event ?hg (N := 3) ?hd (cs := #[.int .i64 a1_0, .int .i64 a1_1, .slice A1_2 l1_2.length c1_2]) (t := 29) ?hr ?_; (case hd => rfl); (case hg => rfl); (case hr => first | (go_simp; done) | (go_simp; rfl)); intro gb315 hg w13 hbox hb; have n0_ := Aside0.mk (blk_below (g := gb314) (o := .cells #[.int .i64 a0_0, .int .i64 a0_1, .slice A0_2 l0_2.length c0_2] 29 (0, 0)) (by (with_reducible repeat (first | refine kN ?_ _ | refine kD ?_ | refine kA ?_ _)); exact BK314.out) hb); have n1_ := Aside0.mk (below_step (by repeat (first | (with_reducible first | exact HB.out | apply bA | apply bN | apply bD | refine bS ?_ GE314.out) | exact HB.out)) hb); have n2_ := Aside0.mk (hbox); have n3_ := Aside0.mk ((by rw [hg]; exact (below_size (by repeat (first | (with_reducible first | exact HB.out | apply bA | apply bN | apply bD | refine bS ?_ GE314.out) | exact HB.out))) : w.heap.size ≤ gb315)); have n4_ := Aside0.mk ((by rw [hg]; exact (below_size (by repeat (first | (with_reducible first | exact HB.out | apply bA | apply bN | apply bD | refine bS ?_ GE314.out) | exact HB.out))) : w.heap.size ≤ gb315)); have n5_ := Aside0.mk ((by rw [hg]; exact Nat.ne_of_lt (blk_lt (g := gb314) (o := .cells #[.int .i64 a0_0, .int .i64 a0_1, .slice A0_2 l0_2.length c0_2] 29 (0, 0)) (by (with_reducible repeat (first | refine kN ?_ _ | refine kD ?_ | refine kA ?_ _)); exact BK314.out)) : gb314 ≠ gb315)); have n6_ := Aside0.mk ((by rw [hg]; exact Nat.ne_of_gt (blk_lt (g := gb314) (o := .cells #[.int .i64 a0_0, .int .i64 a0_1, .slice A0_2 l0_2.length c0_2] 29 (0, 0)) (by (with_reducible repeat (first | refine kN ?_ _ | refine kD ?_ | refine kA ?_ _)); exact BK314.out)) : gb315 ≠ gb314)); clear BK314; clear HB; have BK314 := n0_; have HB := n1_; have BK315 := n2_; have GW315 := n3_; have GE315 := n4_; have NB314_315 := n5_; have NB315_314 := n6_; clear n0_ n1_ n2_ n3_ n4_ n5_ n6_; clear hb hbox hg; have hnb14 := NB314_315.out; have hnc14 := NB315_314.out; have hcz15_0 : w13.cell? ⟨gb314, 0, none⟩ = some (.int .i64 a0_0) := (blk_cell BK314.out 0).trans rfl; have hcz15_1 : w13.cell? ⟨gb314, 1, none⟩ = some (.int .i64 a0_1) := (blk_cell BK314.out 1).trans rfl; have hcz15_2 : w13.cell? ⟨gb314, 2, none⟩ = some (.slice A0_2 l0_2.length c0_2) := (blk_cell BK314.out 2).trans rfl; have hfz15_0 := blk_frozen BK314.out 0; have hfz15_1 := blk_frozen BK314.out 1; have hfz15_2 := blk_frozen BK314.out 2; have hcz16_0 : w13.cell? ⟨gb315, 0, none⟩ = some (.int .i64 a1_0) := (blk_cell BK315.out 0).trans rfl; have hcz16_1 : w13.cell? ⟨gb315, 1, none⟩ = some (.int .i64 a1_1) := (blk_cell BK315.out 1).trans rfl; have hcz16_2 : w13.cell? ⟨gb315, 2, none⟩ = some (.slice A1_2 l1_2.length c1_2) := (blk_cell BK315.out 2).trans rfl; have hfz16_0 := blk_frozen BK315.out 0; have hfz16_1 := blk_frozen BK315.out 1; have hfz16_2 := blk_frozen BK315.out 2))
   go_ret
   exact ⟨by first | rfl | (simp <;> rfl) | (simp [*] <;> rfl), by repeat (first | (with_reducible first | exact HB.out | apply bA | apply bN | apply bD | refine bS ?_ GE314.out | refine bS ?_ GE315.out) | exact HB.out)⟩
 ·
  rw [if_neg c3] at H
  have c3b0 : (a0_0 == a1_0) = false := beq_eq_false_iff_ne.mpr c3
  have c3b1 : (a0_0 != a1_0) = true := bne_iff_ne.mpr c3
  obtain rfl := Option.some.inj H
  go_enter Try.func13, Try.ntmps13
  go_wp2_with (first | ((with_reducible refine gate_dst (N := 2) rfl ?_); refine box_event ?hg (N := 2) ?hd (cs := #[.int .i64 a0_0, .int .i64 a0_1, .slice A0_2 l0_2.length c0_2]) (t := 29) ?hr ?_; (case hd => rfl); (case hg => rfl); (case hr => first | (go_simp; done) | (go_simp; rfl)); intro gb314 hg w17 hbox hb; have n0_ := Aside0.mk (below_step (by repeat (first | (with_reducible first | exact HB.out | apply bA | apply bN | apply bD) | exact HB.out)) hb); have n1_ := Aside0.mk (hbox); have n2_ := Aside0.mk ((by rw [hg]; exact (below_size (by repeat (first | (with_reducible first | exact HB.out | apply bA | apply bN | apply bD) | exact HB.out))) : w.heap.size ≤ gb314)); have n3_ := Aside0.mk ((by rw [hg]; exact (below_size (by repeat (first | (with_reducible first | exact HB.out | apply bA | apply bN | apply bD) | exact HB.out))) : w.heap.size ≤ gb314)); clear HB; have HB := n0_; have BK314 := n1_; have GW314 := n2_; have GE314 := n3_; clear n0_ n1_ n2_ n3_; clear hb hbox hg) | ((with_reducible refine gate_dst (N := 3) rfl ?_); refine box_event ?hg (N := 3) ?hd (cs := #[.int .i64 a1_0, .int .i64 a1_1, .slice A1_2 l1_2.length c1_2]) (t := 29) ?hr ?_; (case hd => rfl); (case hg => rfl); (case hr => first | (go_simp; done) | (go_simp; rfl)); intro gb315 hg w18 hbox hb; have n0_ := Aside0.mk (blk_below (g := gb314) (o := .cells #[.int .i64 a0_0, .int .i64 a0_1, .slice A0_2 l0_2.length c0_2] 29 (0, 0)) (by (with_reducible repeat (first | refine kN ?_ _ | refine kD ?_ | refine kA ?_ _)); exact BK314.out) hb); have n1_ := Aside0.mk (below_step (by repeat (first | (with_reducible first | exact HB.out | apply bA | apply bN | apply bD | refine bS ?_ GE314.out) | exact HB.out)) hb); have n2_ := Aside0.mk (hbox); have n3_ := Aside0.mk ((by rw [hg]; exact (below_size (by repeat (first | (with_reducible first | exact HB.out | apply bA | apply bN | apply bD | refine bS ?_ GE314.out) | exact HB.out))) : w.heap.size ≤ gb315)); have n4_ := Aside0.mk ((by rw [hg]; exact (below_size (by repeat (first | (with_reducible first | exact HB.out | apply bA | apply bN | apply bD | refine bS ?_ GE314.out) | exact HB.out))) : w.heap.size ≤ gb315)); have n5_ := Aside0.mk ((by rw [hg]; exact Nat.ne_of_lt (blk_lt (g := gb314) (o := .cells #[.int .i64 a0_0, .int .i64 a0_1, .slice A0_2 l0_2.length c0_2] 29 (0, 0)) (by (with_reducible repeat (first | refine kN ?_ _ | refine kD ?_ | refine kA ?_ _)); exact BK314.out)) : gb314 ≠ gb315)); have n6_ := Aside0.mk ((by rw [hg]; exact Nat.ne_of_gt (blk_lt (g := gb314) (o := .cells #[.int .i64 a0_0, .int .i64 a0_1, .slice A0_2 l0_2.length c0_2] 29 (0, 0)) (by (with_reducible repeat (first | refine kN ?_ _ | refine kD ?_ | refine kA ?_ _)); exact BK314.out)) : gb315 ≠ gb314)); clear BK314; clear HB; have BK314 := n0_; have HB := n1_; have BK315 := n2_; have GW315 := n3_; have GE315 := n4_; have NB314_315 := n5_; have NB315_314 := n6_; clear n0_ n1_ n2_ n3_ n4_ n5_ n6_; clear hb hbox hg; have hnb19 := NB314_315.out; have hnc19 := NB315_314.out; have hcz20_0 : w18.cell? ⟨gb314, 0, none⟩ = some (.int .i64 a0_0) := (blk_cell BK314.out 0).trans rfl; have hcz20_1 : w18.cell? ⟨gb314, 1, none⟩ = some (.int .i64 a0_1) := (blk_cell BK314.out 1).trans rfl; have hcz20_2 : w18.cell? ⟨gb314, 2, none⟩ = some (.slice A0_2 l0_2.length c0_2) := (blk_cell BK314.out 2).trans rfl; have hfz20_0 := blk_frozen BK314.out 0; have hfz20_1 := blk_frozen BK314.out 1; have hfz20_2 := blk_frozen BK314.out 2; have hcz21_0 : w18.cell? ⟨gb315, 0, none⟩ = some (.int .i64 a1_0) := (blk_cell BK315.out 0).trans rfl; have hcz21_1 : w18.cell? ⟨gb315, 1, none⟩ = some (.int .i64 a1_1) := (blk_cell BK315.out 1).trans rfl; have hcz21_2 : w18.cell? ⟨gb315, 2, none⟩ = some (.slice A1_2 l1_2.length c1_2) := (blk_cell BK315.out 2).trans rfl; have hfz21_0 := blk_frozen BK315.out 0; have hfz21_1 := blk_frozen BK315.out 1; have hfz21_2 := blk_frozen BK315.out 2))
  go_ret
  exact ⟨by first | rfl | (simp <;> rfl) | (simp [*] <;> rfl), by repeat (first | (with_reducible first | exact HB.out | apply bA | apply bN | apply bD | refine bS ?_ GE314.out | refine bS ?_ GE315.out) | exact HB.out)⟩

end Go.Proofs.Ythkbpiagggeicaa.Q
