/- Each call of a Go function comes to what the Lean function of its name answers (written out by wip/tools/xprint.py, checked by Lean); conditions: those in each statement. -/
import Derived.Test.YtfmhclbcoladpaaEx0
import Derived.Test.YtfmhclbcoladpaaEx1
import Derived.Test.YtfmhclbcoladpaaEx3
namespace Go.Proofs.Ytfmhclbcoladpaa.E
open Go.RowKit Go.Proofs.YtfmhclbcoladpaaW.PrintWords Go.Proofs.YtfmhclbcoladpaaW.PrintLast Go.Proofs.YtfmhclbcoladpaaW.PrintMore Go.Proofs.YtfmhclbcoladpaaW.PrintX
attribute [local go_sem] max2_int min2_int max_two min_two max_three min_three max_four min_four   -- for this text's walks alone
set_option linter.unusedVariables false
set_option linter.unusedSimpArgs false

/-! ### attr_Of: function 20 -/
mutual
def attr_Of.j0 : Nat → List Int → Int → List Int → Int → Int → Option ((List (S24)))
 | 0, _, _, _, _, _ => none
 | k + 1, x3, x190000, x190001, x190002, x190003 => attr_Of.l0 k x3 x190001 (x190001.length : Int) 0 x190000 x190001 x190002 x190003
def attr_Of.l0 : Nat → List Int → List Int → Int → Int → Int → List Int → Int → Int → Option ((List (S24)))
 | 0, _, _, _, _, _, _, _, _ => none
 | k + 1, x3, x20, x21, x22, x190000, x190001, x190002, x190003 => if x22 < x21 then (if 0 ≤ x22 then (if x22 < (x20.length : Int) then ((octet_Put.f k x3 (rd x20 x22) 4).bind fun t195 => (attr_Of.l0 k t195 x20 x21 (wrap64 (x22 + 1)) x190000 x190001 x190002 x190003)) else (none)) else (none)) else ((octet_Put.f k ([] : List Int) x190002 4).bind fun t201 => ((some (([(⟨64, 1, (([(x190000) % 256] : List Int))⟩ : S24), (⟨64, 2, x3⟩ : S24), (⟨64, 3, t201⟩ : S24)] : List (S24)) : List (S24))).bind fun y204 => (if x190003 > 0 then ((octet_Put.f k ([] : List Int) x190003 4).bind fun t207 => (if y204.length < 3518437208883 then (some (y204 ++ [(⟨192, 35, t207⟩ : S24)])) else (none))) else (some y204))))
end
def attr_Of.f (k : Nat) (a0_0 : Int) (l0_1 : List Int) (a0_2 : Int) (a0_3 : Int) : Option ((List (S24))) := (attr_Sane.f a0_0 l0_1 a0_2 a0_3).bind fun t190 => (if t190 = true then (if (l0_1.length : Int) > 0 then (attr_Of.j0 k (([2, ((l0_1.length : Int)) % 256] : List Int)) a0_0 l0_1 a0_2 a0_3) else (attr_Of.j0 k ([] : List Int) a0_0 l0_1 a0_2 a0_3)) else (some ([] : List (S24))))
theorem attr_Of.mono_l : ∀ k, (∀ y0 y1 y2 y3 y4, LeO (attr_Of.j0 k y0 y1 y2 y3 y4) (attr_Of.j0 (k + 1) y0 y1 y2 y3 y4)) ∧ (∀ y0 y1 y2 y3 y4 y5 y6 y7, LeO (attr_Of.l0 k y0 y1 y2 y3 y4 y5 y6 y7) (attr_Of.l0 (k + 1) y0 y1 y2 y3 y4 y5 y6 y7))
 | 0 => ⟨fun _ _ _ _ _ r h => by simp [attr_Of.j0] at h, fun _ _ _ _ _ _ _ _ r h => by simp [attr_Of.l0] at h⟩
 | k + 1 => by
  obtain ⟨ih0, ih1⟩ := attr_Of.mono_l k
  refine ⟨?_, ?_⟩
  ·
   intro y0 y1 y2 y3 y4
   unfold attr_Of.j0
   repeat' first
   | (with_reducible exact ih0 _ _ _ _ _)
   | (with_reducible exact ih1 _ _ _ _ _ _ _ _)
   | (with_reducible exact octet_Put.mono _ _ _ _)
   | (with_reducible exact LeO.refl _)
   | (with_reducible exact LeO.none _)
   | (with_reducible refine LeO.ite ?_ ?_)
   | (with_reducible refine LeO.bind ?_ (fun _ => ?_))
   | exact ih0 _ _ _ _ _
   | exact ih1 _ _ _ _ _ _ _ _
   | exact octet_Put.mono _ _ _ _
   | exact LeO.none _
   | refine LeO.ite ?_ ?_
   | refine LeO.bind ?_ (fun _ => ?_)
  ·
   intro y0 y1 y2 y3 y4 y5 y6 y7
   unfold attr_Of.l0
   repeat' first
   | (with_reducible exact ih0 _ _ _ _ _)
   | (with_reducible exact ih1 _ _ _ _ _ _ _ _)
   | (with_reducible exact octet_Put.mono _ _ _ _)
   | (with_reducible exact LeO.refl _)
   | (with_reducible exact LeO.none _)
   | (with_reducible refine LeO.ite ?_ ?_)
   | (with_reducible refine LeO.bind ?_ (fun _ => ?_))
   | exact ih0 _ _ _ _ _
   | exact ih1 _ _ _ _ _ _ _ _
   | exact octet_Put.mono _ _ _ _
   | exact LeO.none _
   | refine LeO.ite ?_ ?_
   | refine LeO.bind ?_ (fun _ => ?_)
theorem attr_Of.mono : ∀ a0 a1 a2 a3 k, LeO (attr_Of.f k a0 a1 a2 a3) (attr_Of.f (k + 1) a0 a1 a2 a3) := by
 intro a0 a1 a2 a3 k
 obtain ⟨ih0, ih1⟩ := attr_Of.mono_l k
 unfold attr_Of.f
 repeat' first
   | (with_reducible exact ih0 _ _ _ _ _)
   | (with_reducible exact ih1 _ _ _ _ _ _ _ _)
   | (with_reducible exact octet_Put.mono _ _ _ _)
   | (with_reducible exact LeO.refl _)
   | (with_reducible exact LeO.none _)
   | (with_reducible refine LeO.ite ?_ ?_)
   | (with_reducible refine LeO.bind ?_ (fun _ => ?_))
   | exact ih0 _ _ _ _ _
   | exact ih1 _ _ _ _ _ _ _ _
   | exact octet_Put.mono _ _ _ _
   | exact LeO.none _
   | refine LeO.ite ?_ ?_
   | refine LeO.bind ?_ (fun _ => ?_)
def attr_Of.T11 : Bool × List (List Nat × List Nat) := (true, [([], []), ([0], [0]), ([1], [1]), ([2], [2]), ([3], [3]), ([], []), ([5], [5]), ([], []), ([7], [7]), ([8], [8]), ([9], [9]), ([4, 6, 10], [4, 6, 10]), ([11, 9, 0, 1, 2, 3, 4, 5, 6, 7, 8, 9, 10, 11], [11])])
def attr_Of.B11 : List Nat := [0, 1, 3, 7, 15, 0, 32, 0, 128, 384, 896, 2047, 4095]
theorem attr_Of.tab11 : rtab .any (opsOf Try.f20 11) = attr_Of.T11 := by kernel_rfl
theorem attr_Of.bits11 : waitsOk attr_Of.T11.2 attr_Of.B11 = true := by kernel_rfl
set_option maxHeartbeats 8000000 in
set_option maxRecDepth 100000 in
theorem attr_Of.calls (k : Nat) (a0_0 : Int) (A0_1 : Option Addr) (c0_1 : Nat) (l0_1 : List Int) (a0_2 : Int) (a0_3 : Int) (r : List (S24)) (w : World) (hr0_1 : Kd.C (Kd.int .i64) w A0_1 l0_1.length l0_1) (hc0_1 : l0_1.length ≤ c0_1) (h : attr_Of.f k a0_0 l0_1 a0_2 a0_3 = some r) :
  Calls Try.prog 20 #[.agg #[.int .i64 a0_0, .slice A0_1 l0_1.length c0_1, .int .i64 a0_2, .int .i64 a0_3]] w fun e w' => ∃ v0_ : Value, e = .returned (v0_) ∧ Kd.N k24 24 w' w.heap.size (fun k_ => (w.heap.size ≤ k_)) v0_ r ∧ Below w.heap.size w w' := by
 have hu27 := Try.underlying27
 have hu24 := Try.underlying24
 have HR0_1 := Aside0.mk hr0_1
 have HC0_1 := Aside0.mk hc0_1
 clear hr0_1 hc0_1
 have HB := Aside0.mk (Below.refl w.heap.size w)
 have H : ((attr_Sane.f a0_0 l0_1 a0_2 a0_3).bind fun t190 => (if t190 = true then (if (l0_1.length : Int) > 0 then (attr_Of.j0 k (([2, ((l0_1.length : Int)) % 256] : List Int)) a0_0 l0_1 a0_2 a0_3) else (attr_Of.j0 k ([] : List Int) a0_0 l0_1 a0_2 a0_3)) else (some ([] : List (S24))))) = some r := h
 clear h
 replace H := Option.bind_eq_some_iff.mp H
 obtain ⟨t190, A20, H⟩ := H
 replace H : (if t190 = true then (if (l0_1.length : Int) > 0 then (attr_Of.j0 k (([2, ((l0_1.length : Int)) % 256] : List Int)) a0_0 l0_1 a0_2 a0_3) else (attr_Of.j0 k ([] : List Int) a0_0 l0_1 a0_2 a0_3)) else (some ([] : List (S24)))) = some r := H
 have A2 := Aside0.mk A20
 clear A20
 by_cases c3 : t190 = true
 ·
  subst c3
  have H1 : (if (l0_1.length : Int) > 0 then (attr_Of.j0 k (([2, ((l0_1.length : Int)) % 256] : List Int)) a0_0 l0_1 a0_2 a0_3) else (attr_Of.j0 k ([] : List Int) a0_0 l0_1 a0_2 a0_3)) = some r := by rw [if_pos rfl] at H; first | done | exact H
  clear H
  have H := H1
  clear H1
  have HC4 := Aside0.mk H
  clear H
  go_enter Try.func20, Try.ntmps20
  go_upto_if 13 with (first | ((with_reducible refine gate_dst (N := 1) rfl ?_); refine box_event ?hg (N := 1) ?hd (cs := #[.int .i64 a0_0, .slice A0_1 l0_1.length c0_1, .int .i64 a0_2, .int .i64 a0_3]) (t := 27) ?hr ?_; (case hd => rfl); (case hg => rfl); (case hr => first | (go_simp; done) | (go_simp; rfl)); intro gb189 hg w5 hbox hb; have n0_ := Aside0.mk (below_step (by repeat (first | (with_reducible first | exact HB.out | apply bA | apply bN | apply bD) | exact HB.out)) hb); have n1_ := Aside0.mk (hbox); have n2_ := Aside0.mk ((by rw [hg]; exact (below_size (by repeat (first | (with_reducible first | exact HB.out | apply bA | apply bN | apply bD) | exact HB.out))) : w.heap.size ≤ gb189)); have n3_ := Aside0.mk ((by rw [hg]; exact (below_size (by repeat (first | (with_reducible first | exact HB.out | apply bA | apply bN | apply bD) | exact HB.out))) : w.heap.size ≤ gb189)); clear HB; have HB := n0_; have BK189 := n1_; have GW189 := n2_; have GE189 := n3_; clear n0_ n1_ n2_ n3_; clear hb hbox hg; have hcz6_0 : w5.cell? ⟨gb189, 0, none⟩ = some (.int .i64 a0_0) := (blk_cell BK189.out 0).trans rfl; have hcz6_1 : w5.cell? ⟨gb189, 1, none⟩ = some (.slice A0_1 l0_1.length c0_1) := (blk_cell BK189.out 1).trans rfl; have hcz6_2 : w5.cell? ⟨gb189, 2, none⟩ = some (.int .i64 a0_2) := (blk_cell BK189.out 2).trans rfl; have hcz6_3 : w5.cell? ⟨gb189, 3, none⟩ = some (.int .i64 a0_3) := (blk_cell BK189.out 3).trans rfl; have hfz6_0 := blk_frozen BK189.out 0; have hfz6_1 := blk_frozen BK189.out 1; have hfz6_2 := blk_frozen BK189.out 2; have hfz6_3 := blk_frozen BK189.out 3) | ((with_reducible refine gate_callee (f := 18) rfl ?_); refine goesL_ (some 8) rfl rfl Try.func18 (by kernel_rfl) rfl #[.agg #[.int .i64 a0_0, .slice A0_1 l0_1.length c0_1, .int .i64 a0_2, .int .i64 a0_3]] rfl (by (try simp only [List.map_toArray, List.map_cons, List.map_nil]); first | done | rfl | (simp only [List.length_drop, List.length_take]; rfl)) ?_; (with_reducible refine (attr_Sane.calls a0_0 _ _ l0_1 a0_2 a0_3 true _ ?side1 ?side2 A2.out).mono ?_); (case side1 => repeat (first | exact (Kd.C_below HR0_1.out HB.out) | (with_reducible refine Kd.C_alloc ?_ _) | (with_reducible refine Kd.C_drewN ?_ _) | (with_reducible refine Kd.C_drew ?_))); (case side2 => exact HC0_1.out); rintro e w7 ⟨rfl, hb⟩; refine ⟨_, rfl, ?_⟩; have n0_ := Aside0.mk (blk_below (g := gb189) (o := .cells #[.int .i64 a0_0, .slice A0_1 l0_1.length c0_1, .int .i64 a0_2, .int .i64 a0_3] 27 (0, 0)) (by (with_reducible repeat (first | refine kN ?_ _ | refine kD ?_ | refine kA ?_ _)); exact BK189.out) hb); have n1_ := Aside0.mk (below_step (by repeat (first | (with_reducible first | exact HB.out | apply bA | apply bN | apply bD | refine bS ?_ GE189.out) | exact HB.out)) hb); clear BK189; clear HB; have BK189 := n0_; have HB := n1_; clear n0_ n1_; (try clear hb); (try clear hb2); (try clear hk); (try clear hi); have hcz8_0 : w7.cell? ⟨gb189, 0, none⟩ = some (.int .i64 a0_0) := (blk_cell BK189.out 0).trans rfl; have hcz8_1 : w7.cell? ⟨gb189, 1, none⟩ = some (.slice A0_1 l0_1.length c0_1) := (blk_cell BK189.out 1).trans rfl; have hcz8_2 : w7.cell? ⟨gb189, 2, none⟩ = some (.int .i64 a0_2) := (blk_cell BK189.out 2).trans rfl; have hcz8_3 : w7.cell? ⟨gb189, 3, none⟩ = some (.int .i64 a0_3) := (blk_cell BK189.out 3).trans rfl; have hfz8_0 := blk_frozen BK189.out 0; have hfz8_1 := blk_frozen BK189.out 1; have hfz8_2 := blk_frozen BK189.out 2; have hfz8_3 := blk_frozen BK189.out 3))
  (try simp only [Act.put, sA, sB, sC])
  go_cut [3] (fun v3 wc => ∃ (kq : Nat) (x3_3 : List Int), Aside0 (attr_Of.j0 kq x3_3 a0_0 l0_1 a0_2 a0_3 = some r) ∧ Aside0 (kq ≤ k) ∧ Aside0 (Kd.R (Kd.int .u8) 5 wc w.heap.size (fun k_ => (w.heap.size ≤ k_)) v3 x3_3) ∧ Aside0 (wc.heap[gb189]? = some (.cells #[.int .i64 a0_0, (.slice A0_1 l0_1.length c0_1), .int .i64 a0_2, .int .i64 a0_3] 27 (0, 0))) ∧ Aside0 (Below w.heap.size w wc))
  case first =>
   have H := HC4.out
   clear HC4
   by_cases c9 : (l0_1.length : Int) > 0
   ·
    rw [if_pos c9] at H
    have c9b0 : decide (0 < (l0_1.length : Int)) = true := decide_eq_true c9
    have c9b1 : decide (0 < l0_1.length) = true := decide_eq_true (by omega)
    clear c9
    (first | rw [c9b0] | (simp only [i64_w, i32_w]; rw [c9b0]) | rw [c9b1] | skip)
    obtain ⟨y191, hy191⟩ : ∃ y_ : List Int, y_ = (([2, ((l0_1.length : Int)) % 256] : List Int)) := ⟨_, rfl⟩
    replace H : (attr_Of.j0 k y191 a0_0 l0_1 a0_2 a0_3) = some r := by first | (rw [hy191]; with_reducible exact H) | (have H2_ := (Option.bind_some _ _).symm.trans H; rw [hy191]; with_reducible exact H2_) | (have H2_ := (Option.bind_some _ _).symm.trans H; with_reducible exact H2_) | with_reducible exact H | (rw [hy191]; exact H) | exact H
    have Ny191 := Aside0.mk hy191
    clear hy191
    have H' := Aside0.mk H
    clear H
    have hcz10_0 : w7.cell? ⟨gb189, 0, none⟩ = some (.int .i64 a0_0) := (blk_cell BK189.out 0).trans rfl
    have hcz10_1 : w7.cell? ⟨gb189, 1, none⟩ = some (.slice A0_1 l0_1.length c0_1) := (blk_cell BK189.out 1).trans rfl
    have hcz10_2 : w7.cell? ⟨gb189, 2, none⟩ = some (.int .i64 a0_2) := (blk_cell BK189.out 2).trans rfl
    have hcz10_3 : w7.cell? ⟨gb189, 3, none⟩ = some (.int .i64 a0_3) := (blk_cell BK189.out 3).trans rfl
    have hfz10_0 := blk_frozen BK189.out 0
    have hfz10_1 := blk_frozen BK189.out 1
    have hfz10_2 := blk_frozen BK189.out 2
    have hfz10_3 := blk_frozen BK189.out 3
    go_wp2_with (first | ((with_reducible refine gate_dst (N := 18) rfl ?_); refine Kd.R_lit (Kd.int .u8) _ 5 ?hg (N := 18) ?hd (xs := ([2, ((l0_1.length : Int)) % 256] : List Int)) (inner := [.int .u8 2, .int .u8 (((l0_1.length : Int)) % 256)]) (ok := fun _ => True) (okp := fun _ => True) ?hr ?hp (fun _ hk => hk) trivial (Below.refl _ _) (Nat.le_refl _) (by simp) ?_; (case hd => rfl); (case hg => rfl); (case hr => first | (go_simp; done) | (go_simp; rfl)); (case hp => exact (Reps.one (show Kd.M (Kd.int .u8) _ _ _ 2 [.int .u8 2] from rfl) (Reps.one (show Kd.M (Kd.int .u8) _ _ _ (((l0_1.length : Int)) % 256) [.int .u8 (((l0_1.length : Int)) % 256)] from rfl) (Reps.none _ _)))); intro v192 w11 ho12 hb hg_ hnew_; clear hg_ hnew_; (first | rw [← Ny191.out] at ho12 | (simp only [Int.reduceToNat] at ho12; rw [← Ny191.out] at ho12)); have n0_ := Aside0.mk (Kd.R_lower (Kd.R_newM (M := fun k_ => (w.heap.size ≤ k_)) ho12 (below_size (by repeat (first | (with_reducible first | exact HB.out | apply bA | apply bN | apply bD | refine bS ?_ GE189.out) | exact HB.out))) (fun k_ h_ => h_)) (below_size (by repeat (first | (with_reducible first | exact HB.out | apply bA | apply bN | apply bD | refine bS ?_ GE189.out) | exact HB.out)))); have n1_ := Aside0.mk (blk_below (g := gb189) (o := .cells #[.int .i64 a0_0, .slice A0_1 l0_1.length c0_1, .int .i64 a0_2, .int .i64 a0_3] 27 (0, 0)) (by (with_reducible repeat (first | refine kN ?_ _ | refine kD ?_ | refine kA ?_ _)); exact BK189.out) hb); have n2_ := Aside0.mk (below_step (by repeat (first | (with_reducible first | exact HB.out | apply bA | apply bN | apply bD | refine bS ?_ GE189.out) | exact HB.out)) hb); clear BK189; clear HB; have HO193 := n0_; have BK189 := n1_; have HB := n2_; clear n0_ n1_ n2_; clear hb ho12))
    go_meet
    case rel => exact ⟨_, (y191), H', ⟨by first | omega | exact Nat.le_refl _⟩, ⟨by (with_reducible repeat (first | apply Kd.R_alloc | apply Kd.R_drewN | apply Kd.R_drew)); exact Kd.R_mono HO193.out (fun _ hk => hk.1)⟩, ⟨by (with_reducible repeat (first | refine kN ?_ _ | refine kD ?_ | refine kA ?_ _)); exact BK189.out⟩, ⟨by repeat (first | (with_reducible first | exact HB.out | apply bA | apply bN | apply bD | refine bS ?_ GE189.out) | exact HB.out)⟩⟩
   ·
    rw [if_neg c9] at H
    have c9b0 : decide (0 < (l0_1.length : Int)) = false := decide_eq_false c9
    have c9b1 : decide (0 < l0_1.length) = false := decide_eq_false (by omega)
    clear c9
    (first | rw [c9b0] | (simp only [i64_w, i32_w]; rw [c9b0]) | rw [c9b1] | skip)
    have H' := Aside0.mk H
    clear H
    go_wp2
    go_meet
    case rel => exact ⟨_, (([] : List Int)), H', ⟨by first | omega | exact Nat.le_refl _⟩, ⟨by first | exact Kd.R_nil _ _ _ _ _ | exact Kd.N_nil _ _ _ _ _ | exact Kd.V_nil _ _ _ _ _ | exact Kd.Q_nil _ _ _ _ _ | exact Kd.S_nil _ _ _ _ _⟩, ⟨by (with_reducible repeat (first | refine kN ?_ _ | refine kD ?_ | refine kA ?_ _)); exact BK189.out⟩, ⟨by repeat (first | (with_reducible first | exact HB.out | apply bA | apply bN | apply bD | refine bS ?_ GE189.out) | exact HB.out)⟩⟩
  case rest =>
   clear HC4
   try clear c1
   try clear c2
   try clear p2
   try clear c3
   try clear c9
   try clear c9b0
   try clear c9b1
   try clear hcz10_0
   try clear hcz10_1
   try clear hcz10_2
   try clear hcz10_3
   try clear hcz6_0
   try clear hcz6_1
   try clear hcz6_2
   try clear hcz6_3
   try clear hcz8_0
   try clear hcz8_1
   try clear hcz8_2
   try clear hcz8_3
   try clear hfz10_0
   try clear hfz10_1
   try clear hfz10_2
   try clear hfz10_3
   try clear hfz6_0
   try clear hfz6_1
   try clear hfz6_2
   try clear hfz6_3
   try clear hfz8_0
   try clear hfz8_1
   try clear hfz8_2
   try clear hfz8_3
   obtain ⟨kq, x3_3, HA, HJ3, HO_3, BK189, HB⟩ := hcut
   cases kq with
   | zero => exact absurd HA.out (by simp [attr_Of.j0])
   | succ kj3 =>
    have H := HA.out
    clear HA
    simp only [attr_Of.j0] at H
    have H' := Aside0.mk H
    clear H
    have hcz13_0 : wc.cell? ⟨gb189, 0, none⟩ = some (.int .i64 a0_0) := (blk_cell BK189.out 0).trans rfl
    have hcz13_1 : wc.cell? ⟨gb189, 1, none⟩ = some (.slice A0_1 l0_1.length c0_1) := (blk_cell BK189.out 1).trans rfl
    have hcz13_2 : wc.cell? ⟨gb189, 2, none⟩ = some (.int .i64 a0_2) := (blk_cell BK189.out 2).trans rfl
    have hcz13_3 : wc.cell? ⟨gb189, 3, none⟩ = some (.int .i64 a0_3) := (blk_cell BK189.out 3).trans rfl
    have hfz13_0 := blk_frozen BK189.out 0
    have hfz13_1 := blk_frozen BK189.out 1
    have hfz13_2 := blk_frozen BK189.out 2
    have hfz13_3 := blk_frozen BK189.out 3
    go_wp2
    go_loopg [3, 22] kj3 (fun kq v3 v22 w' => ∃ (x3_2 : List Int) (x22_2 : Int), v22 = .int .i64 x22_2 ∧ Aside0 (attr_Of.l0 kq x3_2 l0_1 (l0_1.length : Int) x22_2 a0_0 l0_1 a0_2 a0_3 = some r) ∧ Aside0 (kq ≤ kj3) ∧ Aside0 (Kd.R (Kd.int .u8) 5 w' w.heap.size (fun k_ => (w.heap.size ≤ k_)) v3 x3_2) ∧ Aside0 (w'.heap[gb189]? = some (.cells #[.int .i64 a0_0, (.slice A0_1 l0_1.length c0_1), .int .i64 a0_2, .int .i64 a0_3] 27 (0, 0))) ∧ Aside0 (Below w.heap.size w w'))
    case atStart => exact ⟨(x3_3), (0), (by first | rfl | (simp; done) | (simp [*]; done)), H', ⟨Nat.le_refl _⟩, ⟨by (with_reducible repeat (first | apply Kd.R_alloc | apply Kd.R_drewN | apply Kd.R_drew)); exact HO_3.out⟩, ⟨by (with_reducible repeat (first | refine kN ?_ _ | refine kD ?_ | refine kA ?_ _)); exact BK189.out⟩, ⟨by repeat (first | (with_reducible first | exact HB.out | apply bA | apply bN | apply bD | refine bS ?_ GE189.out) | exact HB.out)⟩⟩
    case round =>
     clear H'
     try clear c1
     try clear c2
     try clear p2
     try clear c3
     try clear c9
     try clear c9b0
     try clear c9b1
     try clear hcz10_0
     try clear hcz10_1
     try clear hcz10_2
     try clear hcz10_3
     try clear hcz13_0
     try clear hcz13_1
     try clear hcz13_2
     try clear hcz13_3
     try clear hcz6_0
     try clear hcz6_1
     try clear hcz6_2
     try clear hcz6_3
     try clear hcz8_0
     try clear hcz8_1
     try clear hcz8_2
     try clear hcz8_3
     try clear hfz10_0
     try clear hfz10_1
     try clear hfz10_2
     try clear hfz10_3
     try clear hfz13_0
     try clear hfz13_1
     try clear hfz13_2
     try clear hfz13_3
     try clear hfz6_0
     try clear hfz6_1
     try clear hfz6_2
     try clear hfz6_3
     try clear hfz8_0
     try clear hfz8_1
     try clear hfz8_2
     try clear hfz8_3
     try clear p2
     obtain ⟨x3_2, x22_2, rfl, HA, HK2, HO_3, BK189, HB⟩ := hrel
     cases gk with
     | zero => exact absurd HA.out (by simp [attr_Of.l0])
     | succ k2 =>
      have H := HA.out
      clear HA
      simp only [attr_Of.l0] at H
      by_cases c14 : x22_2 < (l0_1.length : Int)
      ·
       rw [if_pos c14] at H
       have c14b0 : decide (x22_2 < (l0_1.length : Int)) = true := decide_eq_true c14
       clear c14
       by_cases c15 : 0 ≤ x22_2
       ·
        rw [if_pos c15] at H
        have c15b0 : decide (0 ≤ x22_2) = true := decide_eq_true c15
        clear c15
        by_cases c16 : x22_2 < (l0_1.length : Int)
        ·
         rw [if_pos c16] at H
         have c16b0 : decide (x22_2 < (l0_1.length : Int)) = true := decide_eq_true c16
         clear c16
         replace H := Option.bind_eq_some_iff.mp H
         obtain ⟨t195, A170, H⟩ := H
         replace H : (attr_Of.l0 k2 t195 l0_1 (l0_1.length : Int) (wrap64 (x22_2 + 1)) a0_0 l0_1 a0_2 a0_3) = some r := H
         have A17 := Aside0.mk A170
         clear A170
         have H' := Aside0.mk H
         clear H
         have p194 : 0 ≤ (x22_2 : Int) := of_decide_eq_true (by first | (with_reducible assumption) | assumption)
         have q194 : x22_2 < (l0_1.length : Int) := of_decide_eq_true (by first | (with_reducible assumption) | assumption)
         obtain ⟨ad194, e194, hx194_0⟩ := Kd.at_int HR0_1.out x22_2 p194 q194
         cases e194
         replace hx194_0 := cB HB.out hx194_0
         replace p194 := eq_true p194
         replace q194 := eq_true q194
         obtain ⟨Ao18, co18, eo18⟩ := Kd.R_slice HO_3.out
         subst eo18
         go_wp2_with (first | ((with_reducible refine gate_callee (f := 30) rfl ?_); refine goesL_ (some 28) rfl rfl Try.func30 (by kernel_rfl) rfl #[.slice Ao18 x3_2.length co18, .int .i64 (rd l0_1 x22_2), .int .i64 4] rfl (by (try simp only [List.map_toArray, List.map_cons, List.map_nil]); first | done | rfl | (simp only [List.length_drop, List.length_take]; rfl)) ?_; (with_reducible refine (octet_Put.calls k2 _ _ x3_2 (rd l0_1 x22_2) 4 t195 _ ?side1 ?side2 A17.out).mono ?_); (case side1 => repeat (first | exact (Kd.R_reads' HO_3.out).2.2 | (with_reducible refine Kd.C_alloc ?_ _) | (with_reducible refine Kd.C_drewN ?_ _) | (with_reducible refine Kd.C_drew ?_))); (case side2 => exact (Kd.R_reads' HO_3.out).2.1); rintro e w19 ⟨v196, rfl, ho0, hb⟩; refine ⟨_, rfl, ?_⟩; have n0_ := Aside0.mk (Kd.R_elder' (by (with_reducible repeat (first | apply Kd.R_alloc | apply Kd.R_drewN | apply Kd.R_drew)); exact HO_3.out) (Kd.R_base ho0) hb); have n1_ := Aside0.mk (Kd.R_lower (Kd.R_new' (Kd.R_newM (M := fun k_ => (w.heap.size ≤ k_)) ho0 (below_size (by repeat (first | (with_reducible first | exact HB.out | apply bA | apply bN | apply bD | refine bS ?_ GE189.out) | exact HB.out))) (fun k_ h_ => h_)) (Kd.R_lt (by (with_reducible repeat (first | apply Kd.R_alloc | apply Kd.R_drewN | apply Kd.R_drew)); exact HO_3.out))) (below_size (by repeat (first | (with_reducible first | exact HB.out | apply bA | apply bN | apply bD | refine bS ?_ GE189.out) | exact HB.out)))); have n2_ := Aside0.mk (blk_below (g := gb189) (o := .cells #[.int .i64 a0_0, .slice (some ad194) l0_1.length c0_1, .int .i64 a0_2, .int .i64 a0_3] 27 (0, 0)) (by (with_reducible repeat (first | refine kN ?_ _ | refine kD ?_ | refine kA ?_ _)); exact BK189.out) hb); have n3_ := Aside0.mk (below_step (by repeat (first | (with_reducible first | exact HB.out | apply bA | apply bN | apply bD | refine bS ?_ GE189.out) | exact HB.out)) hb); clear HO_3; clear BK189; clear HB; have HO_3 := n0_; have HO197 := n1_; have BK189 := n2_; have HB := n3_; clear n0_ n1_ n2_ n3_; (try clear hb); (try clear hb2); (try clear hk); (try clear hi); (try clear ho0)))
         go_roundg k2
         case measure => have := HJ3.out; have := HK2.out; omega
         case rel => exact ⟨(t195), (wrap64 (x22_2 + 1)), (by first | rfl | (simp; done) | (simp [*]; done)), H', ⟨by have := HJ3.out; have := HK2.out; omega⟩, ⟨by (with_reducible repeat (first | apply Kd.R_alloc | apply Kd.R_drewN | apply Kd.R_drew)); exact Kd.R_mono HO197.out (fun _ hk => hk.1.1)⟩, ⟨by (with_reducible repeat (first | refine kN ?_ _ | refine kD ?_ | refine kA ?_ _)); exact BK189.out⟩, ⟨by repeat (first | (with_reducible first | exact HB.out | apply bA | apply bN | apply bD | refine bS ?_ GE189.out) | exact HB.out)⟩⟩
        ·
         rw [if_neg c16] at H
         exact absurd H (by simp)
       ·
        rw [if_neg c15] at H
        exact absurd H (by simp)
      ·
       rw [if_neg c14] at H
       have c14b0 : decide (x22_2 < (l0_1.length : Int)) = false := decide_eq_false c14
       clear c14
       obtain ⟨y198, hy198⟩ : ∃ y_ : List Int, y_ = (([(a0_0) % 256] : List Int)) := ⟨_, rfl⟩
       replace H : ((octet_Put.f k2 ([] : List Int) a0_2 4).bind fun t201 => ((some (([(⟨64, 1, y198⟩ : S24), (⟨64, 2, x3_2⟩ : S24), (⟨64, 3, t201⟩ : S24)] : List (S24)) : List (S24))).bind fun y204 => (if a0_3 > 0 then ((octet_Put.f k2 ([] : List Int) a0_3 4).bind fun t207 => (if y204.length < 3518437208883 then (some (y204 ++ [(⟨192, 35, t207⟩ : S24)])) else (none))) else (some y204)))) = some r := by first | (rw [hy198]; with_reducible exact H) | (have H2_ := (Option.bind_some _ _).symm.trans H; rw [hy198]; with_reducible exact H2_) | (have H2_ := (Option.bind_some _ _).symm.trans H; with_reducible exact H2_) | with_reducible exact H | (rw [hy198]; exact H) | exact H
       have Ny198 := Aside0.mk hy198
       clear hy198
       replace H := Option.bind_eq_some_iff.mp H
       obtain ⟨t201, A200, H⟩ := H
       replace H : ((some (([(⟨64, 1, y198⟩ : S24), (⟨64, 2, x3_2⟩ : S24), (⟨64, 3, t201⟩ : S24)] : List (S24)) : List (S24))).bind fun y204 => (if a0_3 > 0 then ((octet_Put.f k2 ([] : List Int) a0_3 4).bind fun t207 => (if y204.length < 3518437208883 then (some (y204 ++ [(⟨192, 35, t207⟩ : S24)])) else (none))) else (some y204))) = some r := H
       have A20 := Aside0.mk A200
       clear A200
       obtain ⟨y204, hy204⟩ : ∃ y_ : List (S24), y_ = (([(⟨64, 1, y198⟩ : S24), (⟨64, 2, x3_2⟩ : S24), (⟨64, 3, t201⟩ : S24)] : List (S24))) := ⟨_, rfl⟩
       replace H : (if a0_3 > 0 then ((octet_Put.f k2 ([] : List Int) a0_3 4).bind fun t207 => (if y204.length < 3518437208883 then (some (y204 ++ [(⟨192, 35, t207⟩ : S24)])) else (none))) else (some y204)) = some r := by first | (rw [hy204]; with_reducible exact H) | (have H2_ := (Option.bind_some _ _).symm.trans H; rw [hy204]; with_reducible exact H2_) | (have H2_ := (Option.bind_some _ _).symm.trans H; with_reducible exact H2_) | with_reducible exact H | (rw [hy204]; exact H) | exact H
       have Ny204 := Aside0.mk hy204
       clear hy204
       by_cases c21 : a0_3 > 0
       ·
        rw [if_pos c21] at H
        have c21b0 : decide (0 < a0_3) = true := decide_eq_true c21
        clear c21
        replace H := Option.bind_eq_some_iff.mp H
        obtain ⟨t207, A220, H⟩ := H
        replace H : (if y204.length < 3518437208883 then (some (y204 ++ [(⟨192, 35, t207⟩ : S24)])) else (none)) = some r := H
        have A22 := Aside0.mk A220
        clear A220
        by_cases c23 : y204.length < 3518437208883
        ·
         rw [if_pos c23] at H
         have LMc23 := Aside0.mk c23
         clear c23
         obtain ⟨y210, hy210⟩ : ∃ y_ : List (S24), y_ = (y204 ++ [(⟨192, 35, t207⟩ : S24)]) := ⟨_, rfl⟩
         replace H : (some y210) = some r := by first | (rw [hy210]; with_reducible exact H) | (have H2_ := (Option.bind_some _ _).symm.trans H; rw [hy210]; with_reducible exact H2_) | (have H2_ := (Option.bind_some _ _).symm.trans H; with_reducible exact H2_) | with_reducible exact H | (rw [hy210]; exact H) | exact H
         have Ny210 := Aside0.mk hy210
         clear hy210
         obtain rfl := Option.some.inj H
         obtain ⟨Ao24, co24, eo24⟩ := Kd.R_slice HO_3.out
         subst eo24
         try go_wp2
         have n0_ := Aside0.mk (Kd.R_drew HO_3.out)
         have n1_ := Aside0.mk (blk_drew BK189.out)
         have n2_ := Aside0.mk (below_drew1 HB.out)
         clear HO_3
         clear BK189
         clear HB
         have HO_3 := n0_
         have BK189 := n1_
         have HB := n2_
         clear n0_ n1_ n2_
         refine start_ (n := 13) (S := fun w' => True) (ds := []) #[false, false, false, false, false, false, false, false, false, false, false, false, false] (by kernel_rfl) rfl rfl trivial (fun hHeld => ?_); refine with_tabW attr_Of.tab11 attr_Of.bits11 (fun HT_ HW_ => ?_)
         generalize wr.drew = w25 at HO_3 BK189 HB hHeld ⊢
         refine pure_ (i := 0) (N := some 30) (v := ?_) (a' := ?_) #[true, false, false, false, false, false, false, false, false, false, false, false, false] rfl rfl (any_of HT_.out (by kernel_rfl)) (fun _ _ _ h => h) (Or.inl ⟨by rfl, ?_⟩) ?_ ?_
         rotate_left
         ·
          intro w'
          go_simp
          with_reducible rfl
         rotate_left
         ·
          simp only [Act.put, sA, sB, sC, i64_w, i32_w]
          rfl
         refine pure_ (i := 5) (N := some 35) (v := ?_) (a' := ?_) #[true, false, false, false, false, true, false, false, false, false, false, false, false] rfl rfl (any_of HT_.out (by kernel_rfl)) (fun _ _ _ h => h) (Or.inl ⟨by rfl, ?_⟩) ?_ ?_
         rotate_left
         ·
          intro w'
          go_simp
          with_reducible rfl
         rotate_left
         ·
          simp only [Act.put, sA, sB, sC, i64_w, i32_w]
          rfl
         refine pure_ (i := 7) (N := some 37) (v := ?_) (a' := ?_) #[true, false, false, false, false, true, false, true, false, false, false, false, false] rfl rfl (any_of HT_.out (by kernel_rfl)) (fun _ _ _ h => h) (Or.inl ⟨by rfl, ?_⟩) ?_ ?_
         rotate_left
         ·
          intro w'
          go_simp
          with_reducible rfl
         rotate_left
         ·
          simp only [Act.put, sA, sB, sC, i64_w, i32_w]
          rfl
         refine inv_at [1, 2, 3, 4, 6, 8, 9, 10, 11, 12] (fun a0_ b a w' => ∃ (v199 : Value) (v202 : Value) (v205 : Value) (m4_ : Value) (m10_ : Value) (m12_ : Value), a = putSel a0_ b [(1, 31, .int .i64 a0_0), (2, 32, .int .u8 ((a0_0) % 256)), (3, 33, v199), (4, 34, m4_), (6, 36, .agg #[.int .i64 64, .int .i64 2, .slice Ao24 x3_2.length co24]), (8, 38, .int .i64 a0_2), (9, 39, v202), (10, 40, m10_), (11, 41, v205), (12, 6, m12_)] ∧ (b 11 = false → Kd.R (Kd.int .u8) 5 w' w.heap.size (fun k_ => (w.heap.size ≤ k_)) (.slice Ao24 x3_2.length co24) x3_2) ∧ (w'.heap[gb189]? = some (.cells #[.int .i64 a0_0, .slice A0_1 l0_1.length c0_1, .int .i64 a0_2, .int .i64 a0_3] 27 (0, 0))) ∧ (Below w.heap.size w w') ∧ (b 3 = true → b 11 = false → Kd.R (Kd.int .u8) 5 w' w.heap.size (fun k_ => (w.heap.size ≤ k_) ∧ some k_ ≠ (.slice Ao24 x3_2.length co24 : Value).ownBlock) v199 y198) ∧ (b 9 = true → b 11 = false → Kd.R (Kd.int .u8) 5 w' w.heap.size (fun k_ => (w.heap.size ≤ k_) ∧ some k_ ≠ (.slice Ao24 x3_2.length co24 : Value).ownBlock) v202 t201) ∧ (b 11 = true → Kd.N k24 24 w' w.heap.size (fun k_ => (w.heap.size ≤ k_) ∧ k_ ≠ gb189) v205 y204) ∧ (b 4 = true → (m4_ : Value) = .agg #[.int .i64 64, .int .i64 1, v199]) ∧ (b 10 = true → (m10_ : Value) = .agg #[.int .i64 64, .int .i64 3, v202]) ∧ (b 12 = true → (m12_ : Value) = v205)) HT_.out HW_.out (by kernel_rfl) (by kernel_rfl) ?_ ?_ ?_
         ·
          exact ⟨.bool false, .bool false, .bool false, .bool false, .bool false, .bool false, by simp only [putSel, Bool.false_eq_true, if_false], fun _ => (by first | exact HO_3.out | exact (by (with_reducible repeat (first | apply Kd.R_alloc | apply Kd.R_drewN | apply Kd.R_drew)); first | exact HO_3.out | exact Kd.R_mono HO_3.out (by intro k_ hk; first | exact hk | trivial | (simp only [true_and, and_true, and_assoc] at hk ⊢; first | exact hk | trivial) | simp_all))), (by first | exact BK189.out | exact (by (with_reducible repeat (first | refine kN ?_ _ | refine kD ?_ | refine kA ?_ _)); exact BK189.out)), (by first | exact HB.out | exact (by repeat (first | (with_reducible first | exact HB.out | apply bA | apply bN | apply bD | refine bS ?_ GE189.out) | exact HB.out))), fun h_ => absurd h_ (by decide), fun h_ => absurd h_ (by decide), fun h_ => absurd h_ (by decide), fun h_ => absurd h_ (by decide), fun h_ => absurd h_ (by decide), fun h_ => absurd h_ (by decide)⟩
         ·
          skip
          clear BK189 HB HO_3
          refine steps_cons ?_ ?_
          ·
           rintro b a w' ⟨v199, v202, v205, m4_, m10_, m12_, ha, Q_HO_3, Q_BK189, Q_HB, Q_HO200, Q_HO203, Q_HO206, Q_X4_, Q_X10_, Q_X12_⟩ hb_ hon hoff
           refine ⟨_, rfl, fun K hK => ?_⟩
           have e30 : a.tmps[30]? = some (.pointer (some ⟨gb189, 0, none⟩)) := by rw [ha]; exact (putSel_off rfl).trans rfl
           replace ha := Aside0.mk ha
           have HO_3 := Aside0.mk (Q_HO_3 (hoff 11 (by kernel_rfl)))
           have BK189 := Aside0.mk Q_BK189
           have HB := Aside0.mk Q_HB
           have hc0_ : w'.cell? ⟨gb189, 0, none⟩ = some (.int .i64 a0_0) := (blk_cell BK189.out 0).trans rfl
           have hc1_ : w'.cell? ⟨gb189, 1, none⟩ = some (.slice A0_1 l0_1.length c0_1) := (blk_cell BK189.out 1).trans rfl
           have hc2_ : w'.cell? ⟨gb189, 2, none⟩ = some (.int .i64 a0_2) := (blk_cell BK189.out 2).trans rfl
           have hc3_ : w'.cell? ⟨gb189, 3, none⟩ = some (.int .i64 a0_3) := (blk_cell BK189.out 3).trans rfl
           refine value_ (w1 := w') (v := .int .i64 a0_0) (by rfl) rfl ?_ ?_
           ·
            go_simp
            (try simp only [i64_w])
            try rfl
            all_goals (first | rfl | (simp [bne]; done))
           refine hK.out _ _ ⟨v199, v202, v205, m4_, m10_, m12_, (by rw [ha.out]; exact putSel_upk 0 hb_ rfl rfl rfl), Q_HO_3, Q_BK189, Q_HB, fun h0_ _ => absurd ((hoff 3 (by kernel_rfl)).symm.trans h0_) (by decide), Q_HO203, fun h0_ => absurd ((hoff 11 (by kernel_rfl)).symm.trans h0_) (by decide), fun h0_ => absurd ((hoff 4 (by kernel_rfl)).symm.trans h0_) (by decide), Q_X10_, fun h0_ => absurd ((hoff 12 (by kernel_rfl)).symm.trans h0_) (by decide)⟩
          refine steps_cons ?_ ?_
          ·
           rintro b a w' ⟨v199, v202, v205, m4_, m10_, m12_, ha, Q_HO_3, Q_BK189, Q_HB, Q_HO200, Q_HO203, Q_HO206, Q_X4_, Q_X10_, Q_X12_⟩ hb_ hon hoff
           refine ⟨_, rfl, fun K hK => ?_⟩
           have e31 : a.tmps[31]? = some (.int .i64 a0_0) := by rw [ha]; exact putSel_on (e := (1, 31, .int .i64 a0_0)) 0 rfl rfl (hon 1 (by kernel_rfl)) rfl
           replace ha := Aside0.mk ha
           have HO_3 := Aside0.mk (Q_HO_3 (hoff 11 (by kernel_rfl)))
           have BK189 := Aside0.mk Q_BK189
           have HB := Aside0.mk Q_HB
           refine value_ (w1 := w') (v := .int .u8 ((a0_0) % 256)) (by rfl) rfl ?_ ?_
           ·
            go_simp
            (try simp only [i64_w])
            try rfl
            all_goals (first | rfl | (simp [bne]; done))
           refine hK.out _ _ ⟨v199, v202, v205, m4_, m10_, m12_, (by rw [ha.out]; exact putSel_upk 1 hb_ rfl rfl rfl), Q_HO_3, Q_BK189, Q_HB, fun h0_ _ => absurd ((hoff 3 (by kernel_rfl)).symm.trans h0_) (by decide), Q_HO203, fun h0_ => absurd ((hoff 11 (by kernel_rfl)).symm.trans h0_) (by decide), fun h0_ => absurd ((hoff 4 (by kernel_rfl)).symm.trans h0_) (by decide), Q_X10_, fun h0_ => absurd ((hoff 12 (by kernel_rfl)).symm.trans h0_) (by decide)⟩
          refine steps_cons ?_ ?_
          ·
           rintro b a w' ⟨v199, v202, v205, m4_, m10_, m12_, ha, Q_HO_3, Q_BK189, Q_HB, Q_HO200, Q_HO203, Q_HO206, Q_X4_, Q_X10_, Q_X12_⟩ hb_ hon hoff
           refine ⟨_, rfl, fun K hK => ?_⟩
           have e32 : a.tmps[32]? = some (.int .u8 ((a0_0) % 256)) := by rw [ha]; exact putSel_on (e := (2, 32, .int .u8 ((a0_0) % 256))) 1 rfl rfl (hon 2 (by kernel_rfl)) rfl
           replace ha := Aside0.mk ha
           have HO_3 := Aside0.mk (Q_HO_3 (hoff 11 (by kernel_rfl)))
           have BK189 := Aside0.mk Q_BK189
           have HB := Aside0.mk Q_HB
           refine Kd.R_lit_step (Kd.int .u8) _ 5 ?hg (N := 33) ?hd (xs := ([(a0_0) % 256] : List Int)) (inner := [.int .u8 ((a0_0) % 256)]) (ok := fun _ => True) (okp := fun _ => True) ?hr ?hp (fun _ hk => hk) trivial (Below.refl _ _) (Nat.le_refl _) (by simp) ?_; (case hd => rfl); (case hg => rfl); (case hr => first | (go_simp; done) | (go_simp; rfl)); (case hp => exact (Reps.one (show Kd.M (Kd.int .u8) _ _ _ ((a0_0) % 256) [.int .u8 ((a0_0) % 256)] from rfl) (Reps.none _ _)))
           intro v199 w26 ho27 hb hg_ hnew_
           clear hg_ hnew_
           (first | rw [← Ny198.out] at ho27 | (simp only [Int.reduceToNat] at ho27; rw [← Ny198.out] at ho27))
           have n0_ := Aside0.mk (Kd.R_elder' (by (with_reducible repeat (first | apply Kd.R_alloc | apply Kd.R_drewN | apply Kd.R_drew)); first | exact HO_3.out | exact Kd.R_mono HO_3.out (by intro k_ hk; first | exact hk | trivial | (simp only [true_and, and_true, and_assoc] at hk ⊢; first | exact hk | trivial) | simp_all)) (Kd.R_base ho27) hb)
           have n1_ := Aside0.mk (Kd.R_lower (Kd.R_new' (Kd.R_newM (M := fun k_ => (w.heap.size ≤ k_)) ho27 (below_size (by repeat (first | (with_reducible first | exact HB.out | apply bA | apply bN | apply bD | refine bS ?_ GE189.out) | exact HB.out))) (fun k_ h_ => h_)) (Kd.R_lt (by (with_reducible repeat (first | apply Kd.R_alloc | apply Kd.R_drewN | apply Kd.R_drew)); first | exact HO_3.out | exact Kd.R_mono HO_3.out (by intro k_ hk; first | exact hk | trivial | (simp only [true_and, and_true, and_assoc] at hk ⊢; first | exact hk | trivial) | simp_all)))) (below_size (by repeat (first | (with_reducible first | exact HB.out | apply bA | apply bN | apply bD | refine bS ?_ GE189.out) | exact HB.out))))
           have n2_ := Aside0.mk (blk_below (g := gb189) (o := .cells #[.int .i64 a0_0, .slice A0_1 l0_1.length c0_1, .int .i64 a0_2, .int .i64 a0_3] 27 (0, 0)) (by (with_reducible repeat (first | refine kN ?_ _ | refine kD ?_ | refine kA ?_ _)); exact BK189.out) hb)
           have n3_ := Aside0.mk (below_step (by repeat (first | (with_reducible first | exact HB.out | apply bA | apply bN | apply bD | refine bS ?_ GE189.out) | exact HB.out)) hb)
           have z_HO203 := fun (h0_ : b 9 = true) (h1_ : b 11 = false) => (show Kd.R (Kd.int .u8) 5 w26 w.heap.size (fun k_ => (w.heap.size ≤ k_) ∧ some k_ ≠ (.slice Ao24 x3_2.length co24 : Value).ownBlock) v202 t201 from by first | exact (Kd.R_elder' (by (with_reducible repeat (first | apply Kd.R_alloc | apply Kd.R_drewN | apply Kd.R_drew)); exact (Q_HO203 h0_ h1_)) (Kd.R_base ho27) hb) | exact Kd.R_mono (Kd.R_elder' (by (with_reducible repeat (first | apply Kd.R_alloc | apply Kd.R_drewN | apply Kd.R_drew)); exact (Q_HO203 h0_ h1_)) (Kd.R_base ho27) hb) (fun _ h_ => by first | trivial | exact h_ | exact h_.1))
           clear HO_3
           clear BK189
           clear HB
           have HO_3 := n0_
           have HO200 := n1_
           have BK189 := n2_
           have HB := n3_
           clear n0_ n1_ n2_ n3_
           clear hb ho27
           obtain ⟨Ao28, co28, eo28⟩ := Kd.R_slice HO200.out
           (first | subst eo28 | (injection eo28 with f1_ f2_ f3_; have f4_ := f1_.symm; have f5_ := f3_.symm; clear f1_ f2_ f3_; subst f4_; subst f5_))
           refine hK.out _ _ ⟨.slice Ao28 y198.length co28, v202, v205, m4_, m10_, m12_, (by rw [ha.out]; exact putSel_upk 2 hb_ rfl rfl rfl), fun _ => (by (with_reducible repeat (first | apply Kd.R_alloc | apply Kd.R_drewN | apply Kd.R_drew)); first | exact HO_3.out | exact Kd.R_mono HO_3.out (by intro k_ hk; first | exact hk | trivial | (simp only [true_and, and_true, and_assoc] at hk ⊢; first | exact hk | trivial) | simp_all)), (by (with_reducible repeat (first | refine kN ?_ _ | refine kD ?_ | refine kA ?_ _)); exact BK189.out), (by repeat (first | (with_reducible first | exact HB.out | apply bA | apply bN | apply bD | refine bS ?_ GE189.out) | exact HB.out)), fun _ _ => (by (with_reducible repeat (first | apply Kd.R_alloc | apply Kd.R_drewN | apply Kd.R_drew)); exact Kd.R_mono HO200.out (by intro _ hk; first | exact ⟨hk.1.1, hk.2⟩ | exact hk | trivial | (simp only [true_and, and_true, and_assoc] at hk ⊢; first | exact hk | trivial) | simp_all)), z_HO203, fun h0_ => absurd ((hoff 11 (by kernel_rfl)).symm.trans h0_) (by decide), fun h0_ => absurd ((hoff 4 (by kernel_rfl)).symm.trans h0_) (by decide), Q_X10_, fun h0_ => absurd ((hoff 12 (by kernel_rfl)).symm.trans h0_) (by decide)⟩
          refine steps_cons ?_ ?_
          ·
           rintro b a w' ⟨v199, v202, v205, m4_, m10_, m12_, ha, Q_HO_3, Q_BK189, Q_HB, Q_HO200, Q_HO203, Q_HO206, Q_X4_, Q_X10_, Q_X12_⟩ hb_ hon hoff
           refine ⟨_, rfl, fun K hK => ?_⟩
           have e33 : a.tmps[33]? = some (v199) := by rw [ha]; exact putSel_on (e := (3, 33, v199)) 2 rfl rfl (hon 3 (by kernel_rfl)) rfl
           replace ha := Aside0.mk ha
           have HO_3 := Aside0.mk (Q_HO_3 (hoff 11 (by kernel_rfl)))
           have BK189 := Aside0.mk Q_BK189
           have HB := Aside0.mk Q_HB
           have HO200 := Aside0.mk (Q_HO200 (hon 3 (by kernel_rfl)) (hoff 11 (by kernel_rfl)))
           obtain ⟨Ao4_0, co4_0, eo_⟩ := Kd.R_slice HO200.out
           subst eo_
           refine value_ (w1 := w') (v := .agg #[.int .i64 64, .int .i64 1, .slice Ao4_0 y198.length co4_0]) (by rfl) rfl ?_ ?_
           ·
            go_simp
            (try simp only [i64_w])
            try rfl
            all_goals (first | rfl | (simp [bne]; done))
           refine hK.out _ _ ⟨.slice Ao4_0 y198.length co4_0, v202, v205, (.agg #[.int .i64 64, .int .i64 1, .slice Ao4_0 y198.length co4_0]), m10_, m12_, (by rw [ha.out]; exact putSel_upk 3 hb_ rfl rfl rfl), Q_HO_3, Q_BK189, Q_HB, Q_HO200, Q_HO203, fun h0_ => absurd ((hoff 11 (by kernel_rfl)).symm.trans h0_) (by decide), fun _ => rfl, Q_X10_, fun h0_ => absurd ((hoff 12 (by kernel_rfl)).symm.trans h0_) (by decide)⟩
          refine steps_cons ?_ ?_
          ·
           rintro b a w' ⟨v199, v202, v205, m4_, m10_, m12_, ha, Q_HO_3, Q_BK189, Q_HB, Q_HO200, Q_HO203, Q_HO206, Q_X4_, Q_X10_, Q_X12_⟩ hb_ hon hoff
           refine ⟨_, rfl, fun K hK => ?_⟩
           have e35 : a.tmps[35]? = some (.slice Ao24 x3_2.length co24) := by rw [ha]; exact (putSel_off rfl).trans rfl
           replace ha := Aside0.mk ha
           have HO_3 := Aside0.mk (Q_HO_3 (hoff 11 (by kernel_rfl)))
           have BK189 := Aside0.mk Q_BK189
           have HB := Aside0.mk Q_HB
           refine value_ (w1 := w') (v := .agg #[.int .i64 64, .int .i64 2, .slice Ao24 x3_2.length co24]) (by rfl) rfl ?_ ?_
           ·
            go_simp
            (try simp only [i64_w])
            try rfl
            all_goals (first | rfl | (simp [bne]; done))
           refine hK.out _ _ ⟨v199, v202, v205, m4_, m10_, m12_, (by rw [ha.out]; exact putSel_upk 4 hb_ rfl rfl rfl), Q_HO_3, Q_BK189, Q_HB, Q_HO200, Q_HO203, fun h0_ => absurd ((hoff 11 (by kernel_rfl)).symm.trans h0_) (by decide), Q_X4_, Q_X10_, fun h0_ => absurd ((hoff 12 (by kernel_rfl)).symm.trans h0_) (by decide)⟩
          refine steps_cons ?_ ?_
          ·
           rintro b a w' ⟨v199, v202, v205, m4_, m10_, m12_, ha, Q_HO_3, Q_BK189, Q_HB, Q_HO200, Q_HO203, Q_HO206, Q_X4_, Q_X10_, Q_X12_⟩ hb_ hon hoff
           refine ⟨_, rfl, fun K hK => ?_⟩
           have e37 : a.tmps[37]? = some (.pointer (some ⟨gb189, 2, none⟩)) := by rw [ha]; exact (putSel_off rfl).trans rfl
           replace ha := Aside0.mk ha
           have HO_3 := Aside0.mk (Q_HO_3 (hoff 11 (by kernel_rfl)))
           have BK189 := Aside0.mk Q_BK189
           have HB := Aside0.mk Q_HB
           have hc0_ : w'.cell? ⟨gb189, 0, none⟩ = some (.int .i64 a0_0) := (blk_cell BK189.out 0).trans rfl
           have hc1_ : w'.cell? ⟨gb189, 1, none⟩ = some (.slice A0_1 l0_1.length c0_1) := (blk_cell BK189.out 1).trans rfl
           have hc2_ : w'.cell? ⟨gb189, 2, none⟩ = some (.int .i64 a0_2) := (blk_cell BK189.out 2).trans rfl
           have hc3_ : w'.cell? ⟨gb189, 3, none⟩ = some (.int .i64 a0_3) := (blk_cell BK189.out 3).trans rfl
           refine value_ (w1 := w') (v := .int .i64 a0_2) (by rfl) rfl ?_ ?_
           ·
            go_simp
            (try simp only [i64_w])
            try rfl
            all_goals (first | rfl | (simp [bne]; done))
           refine hK.out _ _ ⟨v199, v202, v205, m4_, m10_, m12_, (by rw [ha.out]; exact putSel_upk 5 hb_ rfl rfl rfl), Q_HO_3, Q_BK189, Q_HB, Q_HO200, fun h0_ _ => absurd ((hoff 9 (by kernel_rfl)).symm.trans h0_) (by decide), fun h0_ => absurd ((hoff 11 (by kernel_rfl)).symm.trans h0_) (by decide), Q_X4_, fun h0_ => absurd ((hoff 10 (by kernel_rfl)).symm.trans h0_) (by decide), fun h0_ => absurd ((hoff 12 (by kernel_rfl)).symm.trans h0_) (by decide)⟩
          refine steps_cons ?_ ?_
          ·
           rintro b a w' ⟨v199, v202, v205, m4_, m10_, m12_, ha, Q_HO_3, Q_BK189, Q_HB, Q_HO200, Q_HO203, Q_HO206, Q_X4_, Q_X10_, Q_X12_⟩ hb_ hon hoff
           refine ⟨_, rfl, fun K hK => ?_⟩
           have e38 : a.tmps[38]? = some (.int .i64 a0_2) := by rw [ha]; exact putSel_on (e := (8, 38, .int .i64 a0_2)) 5 rfl rfl (hon 8 (by kernel_rfl)) rfl
           replace ha := Aside0.mk ha
           have HO_3 := Aside0.mk (Q_HO_3 (hoff 11 (by kernel_rfl)))
           have BK189 := Aside0.mk Q_BK189
           have HB := Aside0.mk Q_HB
           refine goes_ Try.func30 (by kernel_rfl) rfl #[.slice none 0 0, .int .i64 a0_2, .int .i64 4] (by rfl) rfl rfl (by first | (simp only [List.map_toArray, List.map_cons, List.map_nil, Act.eval, Array.getD_eq_getD_getElem?, Option.getD_some, e38]; done) | (simp only [List.map_toArray, List.map_cons, List.map_nil, Act.eval, Array.getD_eq_getD_getElem?, Option.getD_some, e38]; rfl)) ?_
           refine (octet_Put.calls k2 _ _ ([] : List Int) a0_2 4 t201 _ ?side1 ?side2 A20.out).mono ?_
           (case side1 => exact Kd.C_nil _ _)
           (case side2 => exact Nat.le_refl _)
           rintro e w26 ⟨v202, rfl, ho0, hb⟩
           refine ⟨_, rfl, ?_⟩
           have n0_ := Aside0.mk (Kd.R_elder' (by (with_reducible repeat (first | apply Kd.R_alloc | apply Kd.R_drewN | apply Kd.R_drew)); first | exact HO_3.out | exact Kd.R_mono HO_3.out (by intro k_ hk; first | exact hk | trivial | (simp only [true_and, and_true, and_assoc] at hk ⊢; first | exact hk | trivial) | simp_all)) (Kd.R_base ho0) hb)
           have n1_ := Aside0.mk (Kd.R_lower (Kd.R_new' (Kd.R_newM (M := fun k_ => (w.heap.size ≤ k_)) ho0 (below_size (by repeat (first | (with_reducible first | exact HB.out | apply bA | apply bN | apply bD | refine bS ?_ GE189.out) | exact HB.out))) (fun k_ h_ => h_)) (Kd.R_lt (by (with_reducible repeat (first | apply Kd.R_alloc | apply Kd.R_drewN | apply Kd.R_drew)); first | exact HO_3.out | exact Kd.R_mono HO_3.out (by intro k_ hk; first | exact hk | trivial | (simp only [true_and, and_true, and_assoc] at hk ⊢; first | exact hk | trivial) | simp_all)))) (below_size (by repeat (first | (with_reducible first | exact HB.out | apply bA | apply bN | apply bD | refine bS ?_ GE189.out) | exact HB.out))))
           have n2_ := Aside0.mk (blk_below (g := gb189) (o := .cells #[.int .i64 a0_0, .slice A0_1 l0_1.length c0_1, .int .i64 a0_2, .int .i64 a0_3] 27 (0, 0)) (by (with_reducible repeat (first | refine kN ?_ _ | refine kD ?_ | refine kA ?_ _)); exact BK189.out) hb)
           have n3_ := Aside0.mk (below_step (by repeat (first | (with_reducible first | exact HB.out | apply bA | apply bN | apply bD | refine bS ?_ GE189.out) | exact HB.out)) hb)
           have z_HO200 := fun (h0_ : b 3 = true) (h1_ : b 11 = false) => (show Kd.R (Kd.int .u8) 5 w26 w.heap.size (fun k_ => (w.heap.size ≤ k_) ∧ some k_ ≠ (.slice Ao24 x3_2.length co24 : Value).ownBlock) v199 y198 from by first | exact (Kd.R_elder' (by (with_reducible repeat (first | apply Kd.R_alloc | apply Kd.R_drewN | apply Kd.R_drew)); exact (Q_HO200 h0_ h1_)) (Kd.R_base ho0) hb) | exact Kd.R_mono (Kd.R_elder' (by (with_reducible repeat (first | apply Kd.R_alloc | apply Kd.R_drewN | apply Kd.R_drew)); exact (Q_HO200 h0_ h1_)) (Kd.R_base ho0) hb) (fun _ h_ => by first | trivial | exact h_ | exact h_.1))
           clear HO_3
           clear BK189
           clear HB
           have HO_3 := n0_
           have HO203 := n1_
           have BK189 := n2_
           have HB := n3_
           clear n0_ n1_ n2_ n3_
           (try clear hb)
           (try clear hb2)
           (try clear hk)
           (try clear hi)
           (try clear ho0)
           obtain ⟨Ao27, co27, eo27⟩ := Kd.R_slice HO203.out
           (first | subst eo27 | (injection eo27 with f1_ f2_ f3_; have f4_ := f1_.symm; have f5_ := f3_.symm; clear f1_ f2_ f3_; subst f4_; subst f5_))
           refine hK.out _ _ ⟨v199, .slice Ao27 t201.length co27, v205, m4_, m10_, m12_, (by rw [ha.out]; exact putSel_upk 6 hb_ rfl rfl rfl), fun _ => (by (with_reducible repeat (first | apply Kd.R_alloc | apply Kd.R_drewN | apply Kd.R_drew)); first | exact HO_3.out | exact Kd.R_mono HO_3.out (by intro k_ hk; first | exact hk | trivial | (simp only [true_and, and_true, and_assoc] at hk ⊢; first | exact hk | trivial) | simp_all)), (by (with_reducible repeat (first | refine kN ?_ _ | refine kD ?_ | refine kA ?_ _)); exact BK189.out), (by repeat (first | (with_reducible first | exact HB.out | apply bA | apply bN | apply bD | refine bS ?_ GE189.out) | exact HB.out)), z_HO200, fun _ _ => (by (with_reducible repeat (first | apply Kd.R_alloc | apply Kd.R_drewN | apply Kd.R_drew)); exact Kd.R_mono HO203.out (by intro _ hk; first | exact ⟨hk.1.1, hk.2⟩ | exact hk | trivial | (simp only [true_and, and_true, and_assoc] at hk ⊢; first | exact hk | trivial) | simp_all)), fun h0_ => absurd ((hoff 11 (by kernel_rfl)).symm.trans h0_) (by decide), Q_X4_, fun h0_ => absurd ((hoff 10 (by kernel_rfl)).symm.trans h0_) (by decide), fun h0_ => absurd ((hoff 12 (by kernel_rfl)).symm.trans h0_) (by decide)⟩
          refine steps_cons ?_ ?_
          ·
           rintro b a w' ⟨v199, v202, v205, m4_, m10_, m12_, ha, Q_HO_3, Q_BK189, Q_HB, Q_HO200, Q_HO203, Q_HO206, Q_X4_, Q_X10_, Q_X12_⟩ hb_ hon hoff
           refine ⟨_, rfl, fun K hK => ?_⟩
           have e39 : a.tmps[39]? = some (v202) := by rw [ha]; exact putSel_on (e := (9, 39, v202)) 6 rfl rfl (hon 9 (by kernel_rfl)) rfl
           replace ha := Aside0.mk ha
           have HO_3 := Aside0.mk (Q_HO_3 (hoff 11 (by kernel_rfl)))
           have BK189 := Aside0.mk Q_BK189
           have HB := Aside0.mk Q_HB
           have HO203 := Aside0.mk (Q_HO203 (hon 9 (by kernel_rfl)) (hoff 11 (by kernel_rfl)))
           obtain ⟨Ao10_0, co10_0, eo_⟩ := Kd.R_slice HO203.out
           subst eo_
           refine value_ (w1 := w') (v := .agg #[.int .i64 64, .int .i64 3, .slice Ao10_0 t201.length co10_0]) (by rfl) rfl ?_ ?_
           ·
            go_simp
            (try simp only [i64_w])
            try rfl
            all_goals (first | rfl | (simp [bne]; done))
           refine hK.out _ _ ⟨v199, .slice Ao10_0 t201.length co10_0, v205, m4_, (.agg #[.int .i64 64, .int .i64 3, .slice Ao10_0 t201.length co10_0]), m12_, (by rw [ha.out]; exact putSel_upk 7 hb_ rfl rfl rfl), Q_HO_3, Q_BK189, Q_HB, Q_HO200, Q_HO203, fun h0_ => absurd ((hoff 11 (by kernel_rfl)).symm.trans h0_) (by decide), Q_X4_, fun _ => rfl, fun h0_ => absurd ((hoff 12 (by kernel_rfl)).symm.trans h0_) (by decide)⟩
          refine steps_cons ?_ ?_
          ·
           rintro b a w' ⟨v199, v202, v205, m4_, m10_, m12_, ha, Q_HO_3, Q_BK189, Q_HB, Q_HO200, Q_HO203, Q_HO206, Q_X4_, Q_X10_, Q_X12_⟩ hb_ hon hoff
           refine ⟨_, rfl, fun K hK => ?_⟩
           have e34 : a.tmps[34]? = some (m4_) := by rw [ha]; exact putSel_on (e := (4, 34, m4_)) 3 rfl rfl (hon 4 (by kernel_rfl)) rfl
           rw [Q_X4_ (hon 4 (by kernel_rfl))] at e34
           have e36 : a.tmps[36]? = some (.agg #[.int .i64 64, .int .i64 2, .slice Ao24 x3_2.length co24]) := by rw [ha]; exact putSel_on (e := (6, 36, .agg #[.int .i64 64, .int .i64 2, .slice Ao24 x3_2.length co24])) 4 rfl rfl (hon 6 (by kernel_rfl)) rfl
           have e40 : a.tmps[40]? = some (m10_) := by rw [ha]; exact putSel_on (e := (10, 40, m10_)) 7 rfl rfl (hon 10 (by kernel_rfl)) rfl
           rw [Q_X10_ (hon 10 (by kernel_rfl))] at e40
           replace ha := Aside0.mk ha
           have HO_3 := Aside0.mk (Q_HO_3 hb_)
           have BK189 := Aside0.mk Q_BK189
           have HB := Aside0.mk Q_HB
           have HO200 := Aside0.mk (Q_HO200 (hon 3 (by kernel_rfl)) hb_)
           have HO203 := Aside0.mk (Q_HO203 (hon 9 (by kernel_rfl)) hb_)
           obtain ⟨Ao32, co32, eo32⟩ := Kd.R_slice HO200.out
           (first | subst eo32 | (injection eo32 with f1_ f2_ f3_; have f4_ := f1_.symm; have f5_ := f3_.symm; clear f1_ f2_ f3_; subst f4_; subst f5_))
           obtain ⟨Ao33, co33, eo33⟩ := Kd.R_slice HO203.out
           (first | subst eo33 | (injection eo33 with f1_ f2_ f3_; have f4_ := f1_.symm; have f5_ := f3_.symm; clear f1_ f2_ f3_; subst f4_; subst f5_))
           refine Kd.N_lit_step k24 _ 24 ?hg (N' := 41) ?hd (xs := ([(⟨64, 1, y198⟩ : S24), (⟨64, 2, x3_2⟩ : S24), (⟨64, 3, t201⟩ : S24)] : List (S24))) (inner := [.int .i64 64, .int .i64 1, .slice Ao32 y198.length co32, .int .i64 64, .int .i64 2, .slice Ao24 x3_2.length co24, .int .i64 64, .int .i64 3, .slice Ao33 t201.length co33]) (ok := (fun k_ => (w.heap.size ≤ k_) ∧ k_ ≠ gb189)) (okp := (fun k_ => (w.heap.size ≤ k_) ∧ k_ ≠ gb189)) ?hr ?hp (fun _ hk => hk) ((show ∀ k_, w'.heap.size ≤ k_ → (fun k_ => (w.heap.size ≤ k_) ∧ k_ ≠ gb189) k_ from fun k_ hk => ⟨(Nat.le_trans (below_size (by repeat (first | (with_reducible first | exact HB.out | apply bA | apply bN | apply bD | refine bS ?_ GE189.out) | exact HB.out))) hk), Kd.freshB (g := gb189) (o := .cells #[.int .i64 a0_0, .slice A0_1 l0_1.length c0_1, .int .i64 a0_2, .int .i64 a0_3] 27 (0, 0)) (by (with_reducible repeat (first | refine kN ?_ _ | refine kD ?_ | refine kA ?_ _)); exact BK189.out) k_ hk⟩) _ (Nat.le_refl _)) (Below.refl _ _) (Nat.le_refl _) (by simp) ?_; (case hd => rfl); (case hg => rfl); (case hr => first | (go_simp; done) | (go_simp; rfl)); (case hp => exact (Reps.c3 (show Kd.FK k24 _ _ (⟨64, 1, y198⟩ : S24) [.int .i64 64, .int .i64 1, .slice Ao32 y198.length co32] from (k24_mkF _ _ (⟨64, 1, y198⟩ : S24) (Kd.R_reads' (Kd.R_mono (ok' := (fun k_ => (w.heap.size ≤ k_) ∧ k_ ≠ gb189)) (Kd.R_types (HO200.out) BK189.out (by decide)) (fun k_ hk => by first | exact ⟨hk.1.1, hk.2⟩ | exact ⟨hk.1, hk.2⟩))).2.1 (Kd.R_F (Kd.R_mono (ok' := (fun k_ => (w.heap.size ≤ k_) ∧ k_ ≠ gb189)) (Kd.R_types (HO200.out) BK189.out (by decide)) (fun k_ hk => by first | exact ⟨hk.1.1, hk.2⟩ | exact ⟨hk.1, hk.2⟩))))) (Reps.c3 (show Kd.FK k24 _ _ (⟨64, 2, x3_2⟩ : S24) [.int .i64 64, .int .i64 2, .slice Ao24 x3_2.length co24] from (k24_mkF _ _ (⟨64, 2, x3_2⟩ : S24) (Kd.R_reads' (Kd.R_mono (ok' := (fun k_ => (w.heap.size ≤ k_) ∧ k_ ≠ gb189)) (Kd.R_types (HO_3.out) BK189.out (by decide)) (fun k_ hk => by first | exact ⟨hk.1.1, hk.2⟩ | exact ⟨hk.1, hk.2⟩))).2.1 (Kd.R_F (Kd.R_mono (ok' := (fun k_ => (w.heap.size ≤ k_) ∧ k_ ≠ gb189)) (Kd.R_types (HO_3.out) BK189.out (by decide)) (fun k_ hk => by first | exact ⟨hk.1.1, hk.2⟩ | exact ⟨hk.1, hk.2⟩))))) (Reps.c3 (show Kd.FK k24 _ _ (⟨64, 3, t201⟩ : S24) [.int .i64 64, .int .i64 3, .slice Ao33 t201.length co33] from (k24_mkF _ _ (⟨64, 3, t201⟩ : S24) (Kd.R_reads' (Kd.R_mono (ok' := (fun k_ => (w.heap.size ≤ k_) ∧ k_ ≠ gb189)) (Kd.R_types (HO203.out) BK189.out (by decide)) (fun k_ hk => by first | exact ⟨hk.1.1, hk.2⟩ | exact ⟨hk.1, hk.2⟩))).2.1 (Kd.R_F (Kd.R_mono (ok' := (fun k_ => (w.heap.size ≤ k_) ∧ k_ ≠ gb189)) (Kd.R_types (HO203.out) BK189.out (by decide)) (fun k_ hk => by first | exact ⟨hk.1.1, hk.2⟩ | exact ⟨hk.1, hk.2⟩))))) (Reps.none _ _)))))
           intro v205 w34 ho35 hb hg_ hnew_
           clear hg_ hnew_
           (first | rw [← Ny204.out] at ho35 | (simp only [Int.reduceToNat] at ho35; rw [← Ny204.out] at ho35))
           have n0_ := Aside0.mk (Kd.N_lower ho35 (below_size (by repeat (first | (with_reducible first | exact HB.out | apply bA | apply bN | apply bD | refine bS ?_ GE189.out) | exact HB.out))))
           have n1_ := Aside0.mk (blk_below (g := gb189) (o := .cells #[.int .i64 a0_0, .slice A0_1 l0_1.length c0_1, .int .i64 a0_2, .int .i64 a0_3] 27 (0, 0)) (by (with_reducible repeat (first | refine kN ?_ _ | refine kD ?_ | refine kA ?_ _)); exact BK189.out) hb)
           have n2_ := Aside0.mk (below_step (by repeat (first | (with_reducible first | exact HB.out | apply bA | apply bN | apply bD | refine bS ?_ GE189.out) | exact HB.out)) hb)
           clear BK189
           clear HB
           clear HO200
           clear HO203
           clear HO_3
           have HO206 := n0_
           have BK189 := n1_
           have HB := n2_
           clear n0_ n1_ n2_
           clear hb ho35
           refine hK.out _ _ ⟨.slice Ao32 y198.length co32, .slice Ao33 t201.length co33, v205, m4_, m10_, m12_, (by rw [ha.out]; exact putSel_upk 8 hb_ rfl rfl rfl), fun h0_ => absurd ((up_self b 11).symm.trans h0_) (by decide), (by (with_reducible repeat (first | refine kN ?_ _ | refine kD ?_ | refine kA ?_ _)); exact BK189.out), (by repeat (first | (with_reducible first | exact HB.out | apply bA | apply bN | apply bD | refine bS ?_ GE189.out) | exact HB.out)), fun _ h1_ => absurd ((up_self b 11).symm.trans h1_) (by decide), fun _ h1_ => absurd ((up_self b 11).symm.trans h1_) (by decide), fun _ => (by (with_reducible repeat (first | apply Kd.N_alloc | apply Kd.N_drewN | apply Kd.N_drew)); first | exact HO206.out | exact Kd.N_mono HO206.out (by intro k_ hk; first | exact hk | trivial | (simp only [true_and, and_true, and_assoc] at hk ⊢; first | exact hk | trivial) | simp_all)), Q_X4_, Q_X10_, fun h0_ => absurd ((hoff 12 (by kernel_rfl)).symm.trans h0_) (by decide)⟩
          refine steps_cons ?_ ?_
          ·
           rintro b a w' ⟨v199, v202, v205, m4_, m10_, m12_, ha, Q_HO_3, Q_BK189, Q_HB, Q_HO200, Q_HO203, Q_HO206, Q_X4_, Q_X10_, Q_X12_⟩ hb_ hon hoff
           refine ⟨_, rfl, fun K hK => ?_⟩
           have e41 : a.tmps[41]? = some (v205) := by rw [ha]; exact putSel_on (e := (11, 41, v205)) 8 rfl rfl (hon 11 (by kernel_rfl)) rfl
           replace ha := Aside0.mk ha
           have BK189 := Aside0.mk Q_BK189
           have HB := Aside0.mk Q_HB
           have HO206 := Aside0.mk (Q_HO206 (hon 11 (by kernel_rfl)))
           refine value_ (w1 := w') (v := v205) (by rfl) rfl ?_ ?_
           ·
            go_simp
            (try simp only [i64_w])
            try rfl
            all_goals (first | rfl | (simp [bne]; done))
           refine hK.out _ _ ⟨v199, v202, v205, m4_, m10_, (v205), (by rw [ha.out]; exact putSel_upk 9 hb_ rfl rfl rfl), fun h0_ => absurd ((hon 11 (by kernel_rfl)).symm.trans h0_) (by decide), Q_BK189, Q_HB, fun _ h1_ => absurd ((hon 11 (by kernel_rfl)).symm.trans h1_) (by decide), fun _ h1_ => absurd ((hon 11 (by kernel_rfl)).symm.trans h1_) (by decide), Q_HO206, Q_X4_, Q_X10_, fun _ => rfl⟩
          exact steps_nil
         rintro b a w33 hall ⟨v199, v202, v205, m4_, m10_, m12_, ha, Q_HO_3, Q_BK189, Q_HB, Q_HO200, Q_HO203, Q_HO206, Q_X4_, Q_X10_, Q_X12_⟩
         clear BK189 HB HO_3
         have hb1_ := hall 1 (by kernel_rfl)
         have hb2_ := hall 2 (by kernel_rfl)
         have hb3_ := hall 3 (by kernel_rfl)
         have hb4_ := hall 4 (by kernel_rfl)
         have hb6_ := hall 6 (by kernel_rfl)
         have hb8_ := hall 8 (by kernel_rfl)
         have hb9_ := hall 9 (by kernel_rfl)
         have hb10_ := hall 10 (by kernel_rfl)
         have hb11_ := hall 11 (by kernel_rfl)
         have hb12_ := hall 12 (by kernel_rfl)
         subst ha
         obtain rfl := (Q_X4_ hb4_).symm
         obtain rfl := (Q_X10_ hb10_).symm
         obtain rfl := (Q_X12_ hb12_).symm
         simp only [putSel, hb1_, hb2_, hb3_, hb4_, hb6_, hb8_, hb9_, hb10_, hb11_, hb12_, if_true, Act.put, sA, sB, sC]
         clear Q_HO_3
         have BK189 := Aside0.mk Q_BK189
         clear Q_BK189
         have HB := Aside0.mk Q_HB
         clear Q_HB
         clear Q_HO200
         clear Q_HO203
         have HO206 := Aside0.mk (Q_HO206 hb11_)
         clear Q_HO206
         clear hall hb1_ hb2_ hb3_ hb4_ hb6_ hb8_ hb9_ hb10_ hb11_ hb12_
         have hcz34_0 : w33.cell? ⟨gb189, 0, none⟩ = some (.int .i64 a0_0) := (blk_cell BK189.out 0).trans rfl
         have hcz34_1 : w33.cell? ⟨gb189, 1, none⟩ = some (.slice A0_1 l0_1.length c0_1) := (blk_cell BK189.out 1).trans rfl
         have hcz34_2 : w33.cell? ⟨gb189, 2, none⟩ = some (.int .i64 a0_2) := (blk_cell BK189.out 2).trans rfl
         have hcz34_3 : w33.cell? ⟨gb189, 3, none⟩ = some (.int .i64 a0_3) := (blk_cell BK189.out 3).trans rfl
         have hfz34_0 := blk_frozen BK189.out 0
         have hfz34_1 := blk_frozen BK189.out 1
         have hfz34_2 := blk_frozen BK189.out 2
         have hfz34_3 := blk_frozen BK189.out 3
         try go_wp2_with (first | ((with_reducible refine gate_callee (f := 30) rfl ?_); refine goesL_ (some 48) rfl rfl Try.func30 (by kernel_rfl) rfl #[.slice none 0 0, .int .i64 a0_3, .int .i64 4] rfl (by (try simp only [List.map_toArray, List.map_cons, List.map_nil]); first | done | rfl | (simp only [List.length_drop, List.length_take]; rfl)) ?_; (refine (octet_Put.calls k2 _ _ ([] : List Int) a0_3 4 t207 _ ?side1 ?side2 A22.out).mono ?_); (case side1 => exact Kd.C_nil _ _); (case side2 => exact Nat.le_refl _); rintro e w35 ⟨v208, rfl, ho0, hb⟩; refine ⟨_, rfl, ?_⟩; have n0_ := Aside0.mk (Kd.N_elder' (by (with_reducible repeat (first | apply Kd.N_alloc | apply Kd.N_drewN | apply Kd.N_drew)); exact HO206.out) (Kd.R_base ho0) hb); have n1_ := Aside0.mk (Kd.R_lower (Kd.R_newM (M := fun k_ => (w.heap.size ≤ k_)) ho0 (below_size (by repeat (first | (with_reducible first | exact HB.out | apply bA | apply bN | apply bD | refine bS ?_ GE189.out) | exact HB.out))) (fun k_ h_ => h_)) (below_size (by repeat (first | (with_reducible first | exact HB.out | apply bA | apply bN | apply bD | refine bS ?_ GE189.out) | exact HB.out)))); have n2_ := Aside0.mk (blk_below (g := gb189) (o := .cells #[.int .i64 a0_0, .slice A0_1 l0_1.length c0_1, .int .i64 a0_2, .int .i64 a0_3] 27 (0, 0)) (by (with_reducible repeat (first | refine kN ?_ _ | refine kD ?_ | refine kA ?_ _)); exact BK189.out) hb); have n3_ := Aside0.mk (below_step (by repeat (first | (with_reducible first | exact HB.out | apply bA | apply bN | apply bD | refine bS ?_ GE189.out) | exact HB.out)) hb); clear HO206; clear BK189; clear HB; have HO206 := n0_; have HO209 := n1_; have BK189 := n2_; have HB := n3_; clear n0_ n1_ n2_ n3_; (try clear hb); (try clear hb2); (try clear hk); (try clear hi); (try clear ho0); obtain ⟨Ao36, co36, eo36⟩ := Kd.R_slice HO209.out; subst eo36) | ((with_reducible refine gate_builtin (b := .append) (xs := #[.tmp 45, .tmp 50]) rfl ?_); at_builtin; refine Kd.N_append k24 (w0 := w) w.heap.size rfl (.tmp 45) (.tmp 50) 31 24 (.agg #[(.int .i64 0), (.int .i64 0), (.slice none 0 0)]) 40 rfl Try.underlying31 info24 rfl (by decide) (by omega) v205 y204 (⟨192, 35, t207⟩ : S24) [.int .i64 192, .int .i64 35, .slice Ao36 t207.length co36] (fun k_ => (w.heap.size ≤ k_) ∧ k_ ≠ gb189) (fun k_ => ((fun k_ => (w.heap.size ≤ k_) ∧ k_ ≠ gb189)) k_ ∧ some k_ ≠ (v205 : Value).ownBlock) rfl rfl ?aP (fun _ hk => hk) ?aF ?aO ?aB ?aS ?aL ?_; (case aP => exact (k24_mkF _ _ (⟨192, 35, t207⟩ : S24) (Kd.R_reads' (Kd.R_mono (ok' := (fun k_ => ((fun k_ => (w.heap.size ≤ k_) ∧ k_ ≠ gb189)) k_ ∧ some k_ ≠ (v205 : Value).ownBlock)) (Kd.R_types (Kd.R_apart' (HO209.out) (Kd.N_typed HO206.out) (by decide)) BK189.out (by decide)) (fun k_ hk => by first | exact ⟨⟨hk.1.1.1, hk.2⟩, hk.1.2⟩ | exact ⟨⟨hk.1.1, hk.2⟩, hk.1.2⟩))).2.1 (Kd.R_F (Kd.R_mono (ok' := (fun k_ => ((fun k_ => (w.heap.size ≤ k_) ∧ k_ ≠ gb189)) k_ ∧ some k_ ≠ (v205 : Value).ownBlock)) (Kd.R_types (Kd.R_apart' (HO209.out) (Kd.N_typed HO206.out) (by decide)) BK189.out (by decide)) (fun k_ hk => by first | exact ⟨⟨hk.1.1.1, hk.2⟩, hk.1.2⟩ | exact ⟨⟨hk.1.1, hk.2⟩, hk.1.2⟩))))); (case aB => exact (by repeat (first | (with_reducible first | exact HB.out | apply bA | apply bN | apply bD | refine bS ?_ GE189.out) | exact HB.out))); (case aF => exact (fun k_ hk => ⟨(Nat.le_trans (below_size (by repeat (first | (with_reducible first | exact HB.out | apply bA | apply bN | apply bD | refine bS ?_ GE189.out) | exact HB.out))) hk), Kd.freshB (g := gb189) (o := .cells #[.int .i64 a0_0, .slice A0_1 l0_1.length c0_1, .int .i64 a0_2, .int .i64 a0_3] 27 (0, 0)) (by (with_reducible repeat (first | refine kN ?_ _ | refine kD ?_ | refine kA ?_ _)); exact BK189.out) k_ hk⟩)); (case aO => exact (by (with_reducible repeat (first | apply Kd.N_alloc | apply Kd.N_drewN | apply Kd.N_drew)); exact Kd.N_mono HO206.out (fun _ hk => ⟨hk.1.1, hk.1.2⟩))); (case aS => exact (below_size (by repeat (first | (with_reducible first | exact HB.out | apply bA | apply bN | apply bD | refine bS ?_ GE189.out) | exact HB.out)))); (case aL => have := LMc23.out; omega); intro v211 w37 ho hb hg hat; rw [← Ny210.out] at ho; have n0_ := Aside0.mk (blk_grown (g := gb189) (o := .cells #[.int .i64 a0_0, .slice A0_1 l0_1.length c0_1, .int .i64 a0_2, .int .i64 a0_3] 27 (0, 0)) (by (with_reducible repeat (first | refine kN ?_ _ | refine kD ?_ | refine kA ?_ _)); exact BK189.out) hg (Kd.N_ne HO206.out BK189.out (by decide))); have n1_ := Aside0.mk (hb); have n2_ := Aside0.mk (ho); clear BK189; clear HB; clear HO206; clear HO209; have BK189 := n0_; have HB := n1_; have HO212 := n2_; clear n0_ n1_ n2_; clear ho hb hg hat))
         go_ret
         exact ⟨_, by first | rfl | (simp <;> rfl) | (simp [*] <;> rfl), by (with_reducible repeat (first | apply Kd.N_alloc | apply Kd.N_drewN | apply Kd.N_drew)); exact Kd.N_mono HO212.out (fun _ hk => hk.1), by repeat (first | (with_reducible first | exact HB.out | apply bA | apply bN | apply bD | refine bS ?_ GE189.out) | exact HB.out)⟩
        ·
         rw [if_neg c23] at H
         exact absurd H (by simp)
       ·
        rw [if_neg c21] at H
        have c21b0 : decide (0 < a0_3) = false := decide_eq_false c21
        clear c21
        obtain rfl := Option.some.inj H
        obtain ⟨Ao38, co38, eo38⟩ := Kd.R_slice HO_3.out
        subst eo38
        try go_wp2
        have n0_ := Aside0.mk (Kd.R_drew HO_3.out)
        have n1_ := Aside0.mk (blk_drew BK189.out)
        have n2_ := Aside0.mk (below_drew1 HB.out)
        clear HO_3
        clear BK189
        clear HB
        have HO_3 := n0_
        have BK189 := n1_
        have HB := n2_
        clear n0_ n1_ n2_
        refine start_ (n := 13) (S := fun w' => True) (ds := []) #[false, false, false, false, false, false, false, false, false, false, false, false, false] (by kernel_rfl) rfl rfl trivial (fun hHeld => ?_); refine with_tabW attr_Of.tab11 attr_Of.bits11 (fun HT_ HW_ => ?_)
        generalize wr.drew = w39 at HO_3 BK189 HB hHeld ⊢
        refine pure_ (i := 0) (N := some 30) (v := ?_) (a' := ?_) #[true, false, false, false, false, false, false, false, false, false, false, false, false] rfl rfl (any_of HT_.out (by kernel_rfl)) (fun _ _ _ h => h) (Or.inl ⟨by rfl, ?_⟩) ?_ ?_
        rotate_left
        ·
         intro w'
         go_simp
         with_reducible rfl
        rotate_left
        ·
         simp only [Act.put, sA, sB, sC, i64_w, i32_w]
         rfl
        refine pure_ (i := 5) (N := some 35) (v := ?_) (a' := ?_) #[true, false, false, false, false, true, false, false, false, false, false, false, false] rfl rfl (any_of HT_.out (by kernel_rfl)) (fun _ _ _ h => h) (Or.inl ⟨by rfl, ?_⟩) ?_ ?_
        rotate_left
        ·
         intro w'
         go_simp
         with_reducible rfl
        rotate_left
        ·
         simp only [Act.put, sA, sB, sC, i64_w, i32_w]
         rfl
        refine pure_ (i := 7) (N := some 37) (v := ?_) (a' := ?_) #[true, false, false, false, false, true, false, true, false, false, false, false, false] rfl rfl (any_of HT_.out (by kernel_rfl)) (fun _ _ _ h => h) (Or.inl ⟨by rfl, ?_⟩) ?_ ?_
        rotate_left
        ·
         intro w'
         go_simp
         with_reducible rfl
        rotate_left
        ·
         simp only [Act.put, sA, sB, sC, i64_w, i32_w]
         rfl
        refine inv_at [1, 2, 3, 4, 6, 8, 9, 10, 11, 12] (fun a0_ b a w' => ∃ (v199 : Value) (v202 : Value) (v205 : Value) (m4_ : Value) (m10_ : Value) (m12_ : Value), a = putSel a0_ b [(1, 31, .int .i64 a0_0), (2, 32, .int .u8 ((a0_0) % 256)), (3, 33, v199), (4, 34, m4_), (6, 36, .agg #[.int .i64 64, .int .i64 2, .slice Ao38 x3_2.length co38]), (8, 38, .int .i64 a0_2), (9, 39, v202), (10, 40, m10_), (11, 41, v205), (12, 6, m12_)] ∧ (b 11 = false → Kd.R (Kd.int .u8) 5 w' w.heap.size (fun k_ => (w.heap.size ≤ k_)) (.slice Ao38 x3_2.length co38) x3_2) ∧ (w'.heap[gb189]? = some (.cells #[.int .i64 a0_0, .slice A0_1 l0_1.length c0_1, .int .i64 a0_2, .int .i64 a0_3] 27 (0, 0))) ∧ (Below w.heap.size w w') ∧ (b 3 = true → b 11 = false → Kd.R (Kd.int .u8) 5 w' w.heap.size (fun k_ => (w.heap.size ≤ k_) ∧ some k_ ≠ (.slice Ao38 x3_2.length co38 : Value).ownBlock) v199 y198) ∧ (b 9 = true → b 11 = false → Kd.R (Kd.int .u8) 5 w' w.heap.size (fun k_ => (w.heap.size ≤ k_) ∧ some k_ ≠ (.slice Ao38 x3_2.length co38 : Value).ownBlock) v202 t201) ∧ (b 11 = true → Kd.N k24 24 w' w.heap.size (fun k_ => (w.heap.size ≤ k_) ∧ k_ ≠ gb189) v205 y204) ∧ (b 4 = true → (m4_ : Value) = .agg #[.int .i64 64, .int .i64 1, v199]) ∧ (b 10 = true → (m10_ : Value) = .agg #[.int .i64 64, .int .i64 3, v202]) ∧ (b 12 = true → (m12_ : Value) = v205)) HT_.out HW_.out (by kernel_rfl) (by kernel_rfl) ?_ ?_ ?_
        ·
         exact ⟨.bool false, .bool false, .bool false, .bool false, .bool false, .bool false, by simp only [putSel, Bool.false_eq_true, if_false], fun _ => (by first | exact HO_3.out | exact (by (with_reducible repeat (first | apply Kd.R_alloc | apply Kd.R_drewN | apply Kd.R_drew)); first | exact HO_3.out | exact Kd.R_mono HO_3.out (by intro k_ hk; first | exact hk | trivial | (simp only [true_and, and_true, and_assoc] at hk ⊢; first | exact hk | trivial) | simp_all))), (by first | exact BK189.out | exact (by (with_reducible repeat (first | refine kN ?_ _ | refine kD ?_ | refine kA ?_ _)); exact BK189.out)), (by first | exact HB.out | exact (by repeat (first | (with_reducible first | exact HB.out | apply bA | apply bN | apply bD | refine bS ?_ GE189.out) | exact HB.out))), fun h_ => absurd h_ (by decide), fun h_ => absurd h_ (by decide), fun h_ => absurd h_ (by decide), fun h_ => absurd h_ (by decide), fun h_ => absurd h_ (by decide), fun h_ => absurd h_ (by decide)⟩
        ·
         skip
         clear BK189 HB HO_3
         refine steps_cons ?_ ?_
         ·
          rintro b a w' ⟨v199, v202, v205, m4_, m10_, m12_, ha, Q_HO_3, Q_BK189, Q_HB, Q_HO200, Q_HO203, Q_HO206, Q_X4_, Q_X10_, Q_X12_⟩ hb_ hon hoff
          refine ⟨_, rfl, fun K hK => ?_⟩
          have e30 : a.tmps[30]? = some (.pointer (some ⟨gb189, 0, none⟩)) := by rw [ha]; exact (putSel_off rfl).trans rfl
          replace ha := Aside0.mk ha
          have HO_3 := Aside0.mk (Q_HO_3 (hoff 11 (by kernel_rfl)))
          have BK189 := Aside0.mk Q_BK189
          have HB := Aside0.mk Q_HB
          have hc0_ : w'.cell? ⟨gb189, 0, none⟩ = some (.int .i64 a0_0) := (blk_cell BK189.out 0).trans rfl
          have hc1_ : w'.cell? ⟨gb189, 1, none⟩ = some (.slice A0_1 l0_1.length c0_1) := (blk_cell BK189.out 1).trans rfl
          have hc2_ : w'.cell? ⟨gb189, 2, none⟩ = some (.int .i64 a0_2) := (blk_cell BK189.out 2).trans rfl
          have hc3_ : w'.cell? ⟨gb189, 3, none⟩ = some (.int .i64 a0_3) := (blk_cell BK189.out 3).trans rfl
          refine value_ (w1 := w') (v := .int .i64 a0_0) (by rfl) rfl ?_ ?_
          ·
           go_simp
           (try simp only [i64_w])
           try rfl
           all_goals (first | rfl | (simp [bne]; done))
          refine hK.out _ _ ⟨v199, v202, v205, m4_, m10_, m12_, (by rw [ha.out]; exact putSel_upk 0 hb_ rfl rfl rfl), Q_HO_3, Q_BK189, Q_HB, fun h0_ _ => absurd ((hoff 3 (by kernel_rfl)).symm.trans h0_) (by decide), Q_HO203, fun h0_ => absurd ((hoff 11 (by kernel_rfl)).symm.trans h0_) (by decide), fun h0_ => absurd ((hoff 4 (by kernel_rfl)).symm.trans h0_) (by decide), Q_X10_, fun h0_ => absurd ((hoff 12 (by kernel_rfl)).symm.trans h0_) (by decide)⟩
         refine steps_cons ?_ ?_
         ·
          rintro b a w' ⟨v199, v202, v205, m4_, m10_, m12_, ha, Q_HO_3, Q_BK189, Q_HB, Q_HO200, Q_HO203, Q_HO206, Q_X4_, Q_X10_, Q_X12_⟩ hb_ hon hoff
          refine ⟨_, rfl, fun K hK => ?_⟩
          have e31 : a.tmps[31]? = some (.int .i64 a0_0) := by rw [ha]; exact putSel_on (e := (1, 31, .int .i64 a0_0)) 0 rfl rfl (hon 1 (by kernel_rfl)) rfl
          replace ha := Aside0.mk ha
          have HO_3 := Aside0.mk (Q_HO_3 (hoff 11 (by kernel_rfl)))
          have BK189 := Aside0.mk Q_BK189
          have HB := Aside0.mk Q_HB
          refine value_ (w1 := w') (v := .int .u8 ((a0_0) % 256)) (by rfl) rfl ?_ ?_
          ·
           go_simp
           (try simp only [i64_w])
           try rfl
           all_goals (first | rfl | (simp [bne]; done))
          refine hK.out _ _ ⟨v199, v202, v205, m4_, m10_, m12_, (by rw [ha.out]; exact putSel_upk 1 hb_ rfl rfl rfl), Q_HO_3, Q_BK189, Q_HB, fun h0_ _ => absurd ((hoff 3 (by kernel_rfl)).symm.trans h0_) (by decide), Q_HO203, fun h0_ => absurd ((hoff 11 (by kernel_rfl)).symm.trans h0_) (by decide), fun h0_ => absurd ((hoff 4 (by kernel_rfl)).symm.trans h0_) (by decide), Q_X10_, fun h0_ => absurd ((hoff 12 (by kernel_rfl)).symm.trans h0_) (by decide)⟩
         refine steps_cons ?_ ?_
         ·
          rintro b a w' ⟨v199, v202, v205, m4_, m10_, m12_, ha, Q_HO_3, Q_BK189, Q_HB, Q_HO200, Q_HO203, Q_HO206, Q_X4_, Q_X10_, Q_X12_⟩ hb_ hon hoff
          refine ⟨_, rfl, fun K hK => ?_⟩
          have e32 : a.tmps[32]? = some (.int .u8 ((a0_0) % 256)) := by rw [ha]; exact putSel_on (e := (2, 32, .int .u8 ((a0_0) % 256))) 1 rfl rfl (hon 2 (by kernel_rfl)) rfl
          replace ha := Aside0.mk ha
          have HO_3 := Aside0.mk (Q_HO_3 (hoff 11 (by kernel_rfl)))
          have BK189 := Aside0.mk Q_BK189
          have HB := Aside0.mk Q_HB
          refine Kd.R_lit_step (Kd.int .u8) _ 5 ?hg (N := 33) ?hd (xs := ([(a0_0) % 256] : List Int)) (inner := [.int .u8 ((a0_0) % 256)]) (ok := fun _ => True) (okp := fun _ => True) ?hr ?hp (fun _ hk => hk) trivial (Below.refl _ _) (Nat.le_refl _) (by simp) ?_; (case hd => rfl); (case hg => rfl); (case hr => first | (go_simp; done) | (go_simp; rfl)); (case hp => exact (Reps.one (show Kd.M (Kd.int .u8) _ _ _ ((a0_0) % 256) [.int .u8 ((a0_0) % 256)] from rfl) (Reps.none _ _)))
          intro v199 w40 ho41 hb hg_ hnew_
          clear hg_ hnew_
          (first | rw [← Ny198.out] at ho41 | (simp only [Int.reduceToNat] at ho41; rw [← Ny198.out] at ho41))
          have n0_ := Aside0.mk (Kd.R_elder' (by (with_reducible repeat (first | apply Kd.R_alloc | apply Kd.R_drewN | apply Kd.R_drew)); first | exact HO_3.out | exact Kd.R_mono HO_3.out (by intro k_ hk; first | exact hk | trivial | (simp only [true_and, and_true, and_assoc] at hk ⊢; first | exact hk | trivial) | simp_all)) (Kd.R_base ho41) hb)
          have n1_ := Aside0.mk (Kd.R_lower (Kd.R_new' (Kd.R_newM (M := fun k_ => (w.heap.size ≤ k_)) ho41 (below_size (by repeat (first | (with_reducible first | exact HB.out | apply bA | apply bN | apply bD | refine bS ?_ GE189.out) | exact HB.out))) (fun k_ h_ => h_)) (Kd.R_lt (by (with_reducible repeat (first | apply Kd.R_alloc | apply Kd.R_drewN | apply Kd.R_drew)); first | exact HO_3.out | exact Kd.R_mono HO_3.out (by intro k_ hk; first | exact hk | trivial | (simp only [true_and, and_true, and_assoc] at hk ⊢; first | exact hk | trivial) | simp_all)))) (below_size (by repeat (first | (with_reducible first | exact HB.out | apply bA | apply bN | apply bD | refine bS ?_ GE189.out) | exact HB.out))))
          have n2_ := Aside0.mk (blk_below (g := gb189) (o := .cells #[.int .i64 a0_0, .slice A0_1 l0_1.length c0_1, .int .i64 a0_2, .int .i64 a0_3] 27 (0, 0)) (by (with_reducible repeat (first | refine kN ?_ _ | refine kD ?_ | refine kA ?_ _)); exact BK189.out) hb)
          have n3_ := Aside0.mk (below_step (by repeat (first | (with_reducible first | exact HB.out | apply bA | apply bN | apply bD | refine bS ?_ GE189.out) | exact HB.out)) hb)
          have z_HO203 := fun (h0_ : b 9 = true) (h1_ : b 11 = false) => (show Kd.R (Kd.int .u8) 5 w40 w.heap.size (fun k_ => (w.heap.size ≤ k_) ∧ some k_ ≠ (.slice Ao38 x3_2.length co38 : Value).ownBlock) v202 t201 from by first | exact (Kd.R_elder' (by (with_reducible repeat (first | apply Kd.R_alloc | apply Kd.R_drewN | apply Kd.R_drew)); exact (Q_HO203 h0_ h1_)) (Kd.R_base ho41) hb) | exact Kd.R_mono (Kd.R_elder' (by (with_reducible repeat (first | apply Kd.R_alloc | apply Kd.R_drewN | apply Kd.R_drew)); exact (Q_HO203 h0_ h1_)) (Kd.R_base ho41) hb) (fun _ h_ => by first | trivial | exact h_ | exact h_.1))
          clear HO_3
          clear BK189
          clear HB
          have HO_3 := n0_
          have HO200 := n1_
          have BK189 := n2_
          have HB := n3_
          clear n0_ n1_ n2_ n3_
          clear hb ho41
          obtain ⟨Ao42, co42, eo42⟩ := Kd.R_slice HO200.out
          (first | subst eo42 | (injection eo42 with f1_ f2_ f3_; have f4_ := f1_.symm; have f5_ := f3_.symm; clear f1_ f2_ f3_; subst f4_; subst f5_))
          refine hK.out _ _ ⟨.slice Ao42 y198.length co42, v202, v205, m4_, m10_, m12_, (by rw [ha.out]; exact putSel_upk 2 hb_ rfl rfl rfl), fun _ => (by (with_reducible repeat (first | apply Kd.R_alloc | apply Kd.R_drewN | apply Kd.R_drew)); first | exact HO_3.out | exact Kd.R_mono HO_3.out (by intro k_ hk; first | exact hk | trivial | (simp only [true_and, and_true, and_assoc] at hk ⊢; first | exact hk | trivial) | simp_all)), (by (with_reducible repeat (first | refine kN ?_ _ | refine kD ?_ | refine kA ?_ _)); exact BK189.out), (by repeat (first | (with_reducible first | exact HB.out | apply bA | apply bN | apply bD | refine bS ?_ GE189.out) | exact HB.out)), fun _ _ => (by (with_reducible repeat (first | apply Kd.R_alloc | apply Kd.R_drewN | apply Kd.R_drew)); exact Kd.R_mono HO200.out (by intro _ hk; first | exact ⟨hk.1.1, hk.2⟩ | exact hk | trivial | (simp only [true_and, and_true, and_assoc] at hk ⊢; first | exact hk | trivial) | simp_all)), z_HO203, fun h0_ => absurd ((hoff 11 (by kernel_rfl)).symm.trans h0_) (by decide), fun h0_ => absurd ((hoff 4 (by kernel_rfl)).symm.trans h0_) (by decide), Q_X10_, fun h0_ => absurd ((hoff 12 (by kernel_rfl)).symm.trans h0_) (by decide)⟩
         refine steps_cons ?_ ?_
         ·
          rintro b a w' ⟨v199, v202, v205, m4_, m10_, m12_, ha, Q_HO_3, Q_BK189, Q_HB, Q_HO200, Q_HO203, Q_HO206, Q_X4_, Q_X10_, Q_X12_⟩ hb_ hon hoff
          refine ⟨_, rfl, fun K hK => ?_⟩
          have e33 : a.tmps[33]? = some (v199) := by rw [ha]; exact putSel_on (e := (3, 33, v199)) 2 rfl rfl (hon 3 (by kernel_rfl)) rfl
          replace ha := Aside0.mk ha
          have HO_3 := Aside0.mk (Q_HO_3 (hoff 11 (by kernel_rfl)))
          have BK189 := Aside0.mk Q_BK189
          have HB := Aside0.mk Q_HB
          have HO200 := Aside0.mk (Q_HO200 (hon 3 (by kernel_rfl)) (hoff 11 (by kernel_rfl)))
          obtain ⟨Ao4_0, co4_0, eo_⟩ := Kd.R_slice HO200.out
          subst eo_
          refine value_ (w1 := w') (v := .agg #[.int .i64 64, .int .i64 1, .slice Ao4_0 y198.length co4_0]) (by rfl) rfl ?_ ?_
          ·
           go_simp
           (try simp only [i64_w])
           try rfl
           all_goals (first | rfl | (simp [bne]; done))
          refine hK.out _ _ ⟨.slice Ao4_0 y198.length co4_0, v202, v205, (.agg #[.int .i64 64, .int .i64 1, .slice Ao4_0 y198.length co4_0]), m10_, m12_, (by rw [ha.out]; exact putSel_upk 3 hb_ rfl rfl rfl), Q_HO_3, Q_BK189, Q_HB, Q_HO200, Q_HO203, fun h0_ => absurd ((hoff 11 (by kernel_rfl)).symm.trans h0_) (by decide), fun _ => rfl, Q_X10_, fun h0_ => absurd ((hoff 12 (by kernel_rfl)).symm.trans h0_) (by decide)⟩
         refine steps_cons ?_ ?_
         ·
          rintro b a w' ⟨v199, v202, v205, m4_, m10_, m12_, ha, Q_HO_3, Q_BK189, Q_HB, Q_HO200, Q_HO203, Q_HO206, Q_X4_, Q_X10_, Q_X12_⟩ hb_ hon hoff
          refine ⟨_, rfl, fun K hK => ?_⟩
          have e35 : a.tmps[35]? = some (.slice Ao38 x3_2.length co38) := by rw [ha]; exact (putSel_off rfl).trans rfl
          replace ha := Aside0.mk ha
          have HO_3 := Aside0.mk (Q_HO_3 (hoff 11 (by kernel_rfl)))
          have BK189 := Aside0.mk Q_BK189
          have HB := Aside0.mk Q_HB
          refine value_ (w1 := w') (v := .agg #[.int .i64 64, .int .i64 2, .slice Ao38 x3_2.length co38]) (by rfl) rfl ?_ ?_
          ·
           go_simp
           (try simp only [i64_w])
           try rfl
           all_goals (first | rfl | (simp [bne]; done))
          refine hK.out _ _ ⟨v199, v202, v205, m4_, m10_, m12_, (by rw [ha.out]; exact putSel_upk 4 hb_ rfl rfl rfl), Q_HO_3, Q_BK189, Q_HB, Q_HO200, Q_HO203, fun h0_ => absurd ((hoff 11 (by kernel_rfl)).symm.trans h0_) (by decide), Q_X4_, Q_X10_, fun h0_ => absurd ((hoff 12 (by kernel_rfl)).symm.trans h0_) (by decide)⟩
         refine steps_cons ?_ ?_
         ·
          rintro b a w' ⟨v199, v202, v205, m4_, m10_, m12_, ha, Q_HO_3, Q_BK189, Q_HB, Q_HO200, Q_HO203, Q_HO206, Q_X4_, Q_X10_, Q_X12_⟩ hb_ hon hoff
          refine ⟨_, rfl, fun K hK => ?_⟩
          have e37 : a.tmps[37]? = some (.pointer (some ⟨gb189, 2, none⟩)) := by rw [ha]; exact (putSel_off rfl).trans rfl
          replace ha := Aside0.mk ha
          have HO_3 := Aside0.mk (Q_HO_3 (hoff 11 (by kernel_rfl)))
          have BK189 := Aside0.mk Q_BK189
          have HB := Aside0.mk Q_HB
          have hc0_ : w'.cell? ⟨gb189, 0, none⟩ = some (.int .i64 a0_0) := (blk_cell BK189.out 0).trans rfl
          have hc1_ : w'.cell? ⟨gb189, 1, none⟩ = some (.slice A0_1 l0_1.length c0_1) := (blk_cell BK189.out 1).trans rfl
          have hc2_ : w'.cell? ⟨gb189, 2, none⟩ = some (.int .i64 a0_2) := (blk_cell BK189.out 2).trans rfl
          have hc3_ : w'.cell? ⟨gb189, 3, none⟩ = some (.int .i64 a0_3) := (blk_cell BK189.out 3).trans rfl
          refine value_ (w1 := w') (v := .int .i64 a0_2) (by rfl) rfl ?_ ?_
          ·
           go_simp
           (try simp only [i64_w])
           try rfl
           all_goals (first | rfl | (simp [bne]; done))
          refine hK.out _ _ ⟨v199, v202, v205, m4_, m10_, m12_, (by rw [ha.out]; exact putSel_upk 5 hb_ rfl rfl rfl), Q_HO_3, Q_BK189, Q_HB, Q_HO200, fun h0_ _ => absurd ((hoff 9 (by kernel_rfl)).symm.trans h0_) (by decide), fun h0_ => absurd ((hoff 11 (by kernel_rfl)).symm.trans h0_) (by decide), Q_X4_, fun h0_ => absurd ((hoff 10 (by kernel_rfl)).symm.trans h0_) (by decide), fun h0_ => absurd ((hoff 12 (by kernel_rfl)).symm.trans h0_) (by decide)⟩
         refine steps_cons ?_ ?_
         ·
          rintro b a w' ⟨v199, v202, v205, m4_, m10_, m12_, ha, Q_HO_3, Q_BK189, Q_HB, Q_HO200, Q_HO203, Q_HO206, Q_X4_, Q_X10_, Q_X12_⟩ hb_ hon hoff
          refine ⟨_, rfl, fun K hK => ?_⟩
          have e38 : a.tmps[38]? = some (.int .i64 a0_2) := by rw [ha]; exact putSel_on (e := (8, 38, .int .i64 a0_2)) 5 rfl rfl (hon 8 (by kernel_rfl)) rfl
          replace ha := Aside0.mk ha
          have HO_3 := Aside0.mk (Q_HO_3 (hoff 11 (by kernel_rfl)))
          have BK189 := Aside0.mk Q_BK189
          have HB := Aside0.mk Q_HB
          refine goes_ Try.func30 (by kernel_rfl) rfl #[.slice none 0 0, .int .i64 a0_2, .int .i64 4] (by rfl) rfl rfl (by first | (simp only [List.map_toArray, List.map_cons, List.map_nil, Act.eval, Array.getD_eq_getD_getElem?, Option.getD_some, e38]; done) | (simp only [List.map_toArray, List.map_cons, List.map_nil, Act.eval, Array.getD_eq_getD_getElem?, Option.getD_some, e38]; rfl)) ?_
          refine (octet_Put.calls k2 _ _ ([] : List Int) a0_2 4 t201 _ ?side1 ?side2 A20.out).mono ?_
          (case side1 => exact Kd.C_nil _ _)
          (case side2 => exact Nat.le_refl _)
          rintro e w40 ⟨v202, rfl, ho0, hb⟩
          refine ⟨_, rfl, ?_⟩
          have n0_ := Aside0.mk (Kd.R_elder' (by (with_reducible repeat (first | apply Kd.R_alloc | apply Kd.R_drewN | apply Kd.R_drew)); first | exact HO_3.out | exact Kd.R_mono HO_3.out (by intro k_ hk; first | exact hk | trivial | (simp only [true_and, and_true, and_assoc] at hk ⊢; first | exact hk | trivial) | simp_all)) (Kd.R_base ho0) hb)
          have n1_ := Aside0.mk (Kd.R_lower (Kd.R_new' (Kd.R_newM (M := fun k_ => (w.heap.size ≤ k_)) ho0 (below_size (by repeat (first | (with_reducible first | exact HB.out | apply bA | apply bN | apply bD | refine bS ?_ GE189.out) | exact HB.out))) (fun k_ h_ => h_)) (Kd.R_lt (by (with_reducible repeat (first | apply Kd.R_alloc | apply Kd.R_drewN | apply Kd.R_drew)); first | exact HO_3.out | exact Kd.R_mono HO_3.out (by intro k_ hk; first | exact hk | trivial | (simp only [true_and, and_true, and_assoc] at hk ⊢; first | exact hk | trivial) | simp_all)))) (below_size (by repeat (first | (with_reducible first | exact HB.out | apply bA | apply bN | apply bD | refine bS ?_ GE189.out) | exact HB.out))))
          have n2_ := Aside0.mk (blk_below (g := gb189) (o := .cells #[.int .i64 a0_0, .slice A0_1 l0_1.length c0_1, .int .i64 a0_2, .int .i64 a0_3] 27 (0, 0)) (by (with_reducible repeat (first | refine kN ?_ _ | refine kD ?_ | refine kA ?_ _)); exact BK189.out) hb)
          have n3_ := Aside0.mk (below_step (by repeat (first | (with_reducible first | exact HB.out | apply bA | apply bN | apply bD | refine bS ?_ GE189.out) | exact HB.out)) hb)
          have z_HO200 := fun (h0_ : b 3 = true) (h1_ : b 11 = false) => (show Kd.R (Kd.int .u8) 5 w40 w.heap.size (fun k_ => (w.heap.size ≤ k_) ∧ some k_ ≠ (.slice Ao38 x3_2.length co38 : Value).ownBlock) v199 y198 from by first | exact (Kd.R_elder' (by (with_reducible repeat (first | apply Kd.R_alloc | apply Kd.R_drewN | apply Kd.R_drew)); exact (Q_HO200 h0_ h1_)) (Kd.R_base ho0) hb) | exact Kd.R_mono (Kd.R_elder' (by (with_reducible repeat (first | apply Kd.R_alloc | apply Kd.R_drewN | apply Kd.R_drew)); exact (Q_HO200 h0_ h1_)) (Kd.R_base ho0) hb) (fun _ h_ => by first | trivial | exact h_ | exact h_.1))
          clear HO_3
          clear BK189
          clear HB
          have HO_3 := n0_
          have HO203 := n1_
          have BK189 := n2_
          have HB := n3_
          clear n0_ n1_ n2_ n3_
          (try clear hb)
          (try clear hb2)
          (try clear hk)
          (try clear hi)
          (try clear ho0)
          obtain ⟨Ao41, co41, eo41⟩ := Kd.R_slice HO203.out
          (first | subst eo41 | (injection eo41 with f1_ f2_ f3_; have f4_ := f1_.symm; have f5_ := f3_.symm; clear f1_ f2_ f3_; subst f4_; subst f5_))
          refine hK.out _ _ ⟨v199, .slice Ao41 t201.length co41, v205, m4_, m10_, m12_, (by rw [ha.out]; exact putSel_upk 6 hb_ rfl rfl rfl), fun _ => (by (with_reducible repeat (first | apply Kd.R_alloc | apply Kd.R_drewN | apply Kd.R_drew)); first | exact HO_3.out | exact Kd.R_mono HO_3.out (by intro k_ hk; first | exact hk | trivial | (simp only [true_and, and_true, and_assoc] at hk ⊢; first | exact hk | trivial) | simp_all)), (by (with_reducible repeat (first | refine kN ?_ _ | refine kD ?_ | refine kA ?_ _)); exact BK189.out), (by repeat (first | (with_reducible first | exact HB.out | apply bA | apply bN | apply bD | refine bS ?_ GE189.out) | exact HB.out)), z_HO200, fun _ _ => (by (with_reducible repeat (first | apply Kd.R_alloc | apply Kd.R_drewN | apply Kd.R_drew)); exact Kd.R_mono HO203.out (by intro _ hk; first | exact ⟨hk.1.1, hk.2⟩ | exact hk | trivial | (simp only [true_and, and_true, and_assoc] at hk ⊢; first | exact hk | trivial) | simp_all)), fun h0_ => absurd ((hoff 11 (by kernel_rfl)).symm.trans h0_) (by decide), Q_X4_, fun h0_ => absurd ((hoff 10 (by kernel_rfl)).symm.trans h0_) (by decide), fun h0_ => absurd ((hoff 12 (by kernel_rfl)).symm.trans h0_) (by decide)⟩
         refine steps_cons ?_ ?_
         ·
          rintro b a w' ⟨v199, v202, v205, m4_, m10_, m12_, ha, Q_HO_3, Q_BK189, Q_HB, Q_HO200, Q_HO203, Q_HO206, Q_X4_, Q_X10_, Q_X12_⟩ hb_ hon hoff
          refine ⟨_, rfl, fun K hK => ?_⟩
          have e39 : a.tmps[39]? = some (v202) := by rw [ha]; exact putSel_on (e := (9, 39, v202)) 6 rfl rfl (hon 9 (by kernel_rfl)) rfl
          replace ha := Aside0.mk ha
          have HO_3 := Aside0.mk (Q_HO_3 (hoff 11 (by kernel_rfl)))
          have BK189 := Aside0.mk Q_BK189
          have HB := Aside0.mk Q_HB
          have HO203 := Aside0.mk (Q_HO203 (hon 9 (by kernel_rfl)) (hoff 11 (by kernel_rfl)))
          obtain ⟨Ao10_0, co10_0, eo_⟩ := Kd.R_slice HO203.out
          subst eo_
          refine value_ (w1 := w') (v := .agg #[.int .i64 64, .int .i64 3, .slice Ao10_0 t201.length co10_0]) (by rfl) rfl ?_ ?_
          ·
           go_simp
           (try simp only [i64_w])
           try rfl
           all_goals (first | rfl | (simp [bne]; done))
          refine hK.out _ _ ⟨v199, .slice Ao10_0 t201.length co10_0, v205, m4_, (.agg #[.int .i64 64, .int .i64 3, .slice Ao10_0 t201.length co10_0]), m12_, (by rw [ha.out]; exact putSel_upk 7 hb_ rfl rfl rfl), Q_HO_3, Q_BK189, Q_HB, Q_HO200, Q_HO203, fun h0_ => absurd ((hoff 11 (by kernel_rfl)).symm.trans h0_) (by decide), Q_X4_, fun _ => rfl, fun h0_ => absurd ((hoff 12 (by kernel_rfl)).symm.trans h0_) (by decide)⟩
         refine steps_cons ?_ ?_
         ·
          rintro b a w' ⟨v199, v202, v205, m4_, m10_, m12_, ha, Q_HO_3, Q_BK189, Q_HB, Q_HO200, Q_HO203, Q_HO206, Q_X4_, Q_X10_, Q_X12_⟩ hb_ hon hoff
          refine ⟨_, rfl, fun K hK => ?_⟩
          have e34 : a.tmps[34]? = some (m4_) := by rw [ha]; exact putSel_on (e := (4, 34, m4_)) 3 rfl rfl (hon 4 (by kernel_rfl)) rfl
          rw [Q_X4_ (hon 4 (by kernel_rfl))] at e34
          have e36 : a.tmps[36]? = some (.agg #[.int .i64 64, .int .i64 2, .slice Ao38 x3_2.length co38]) := by rw [ha]; exact putSel_on (e := (6, 36, .agg #[.int .i64 64, .int .i64 2, .slice Ao38 x3_2.length co38])) 4 rfl rfl (hon 6 (by kernel_rfl)) rfl
          have e40 : a.tmps[40]? = some (m10_) := by rw [ha]; exact putSel_on (e := (10, 40, m10_)) 7 rfl rfl (hon 10 (by kernel_rfl)) rfl
          rw [Q_X10_ (hon 10 (by kernel_rfl))] at e40
          replace ha := Aside0.mk ha
          have HO_3 := Aside0.mk (Q_HO_3 hb_)
          have BK189 := Aside0.mk Q_BK189
          have HB := Aside0.mk Q_HB
          have HO200 := Aside0.mk (Q_HO200 (hon 3 (by kernel_rfl)) hb_)
          have HO203 := Aside0.mk (Q_HO203 (hon 9 (by kernel_rfl)) hb_)
          obtain ⟨Ao46, co46, eo46⟩ := Kd.R_slice HO200.out
          (first | subst eo46 | (injection eo46 with f1_ f2_ f3_; have f4_ := f1_.symm; have f5_ := f3_.symm; clear f1_ f2_ f3_; subst f4_; subst f5_))
          obtain ⟨Ao47, co47, eo47⟩ := Kd.R_slice HO203.out
          (first | subst eo47 | (injection eo47 with f1_ f2_ f3_; have f4_ := f1_.symm; have f5_ := f3_.symm; clear f1_ f2_ f3_; subst f4_; subst f5_))
          refine Kd.N_lit_step k24 _ 24 ?hg (N' := 41) ?hd (xs := ([(⟨64, 1, y198⟩ : S24), (⟨64, 2, x3_2⟩ : S24), (⟨64, 3, t201⟩ : S24)] : List (S24))) (inner := [.int .i64 64, .int .i64 1, .slice Ao46 y198.length co46, .int .i64 64, .int .i64 2, .slice Ao38 x3_2.length co38, .int .i64 64, .int .i64 3, .slice Ao47 t201.length co47]) (ok := (fun k_ => (w.heap.size ≤ k_) ∧ k_ ≠ gb189)) (okp := (fun k_ => (w.heap.size ≤ k_) ∧ k_ ≠ gb189)) ?hr ?hp (fun _ hk => hk) ((show ∀ k_, w'.heap.size ≤ k_ → (fun k_ => (w.heap.size ≤ k_) ∧ k_ ≠ gb189) k_ from fun k_ hk => ⟨(Nat.le_trans (below_size (by repeat (first | (with_reducible first | exact HB.out | apply bA | apply bN | apply bD | refine bS ?_ GE189.out) | exact HB.out))) hk), Kd.freshB (g := gb189) (o := .cells #[.int .i64 a0_0, .slice A0_1 l0_1.length c0_1, .int .i64 a0_2, .int .i64 a0_3] 27 (0, 0)) (by (with_reducible repeat (first | refine kN ?_ _ | refine kD ?_ | refine kA ?_ _)); exact BK189.out) k_ hk⟩) _ (Nat.le_refl _)) (Below.refl _ _) (Nat.le_refl _) (by simp) ?_; (case hd => rfl); (case hg => rfl); (case hr => first | (go_simp; done) | (go_simp; rfl)); (case hp => exact (Reps.c3 (show Kd.FK k24 _ _ (⟨64, 1, y198⟩ : S24) [.int .i64 64, .int .i64 1, .slice Ao46 y198.length co46] from (k24_mkF _ _ (⟨64, 1, y198⟩ : S24) (Kd.R_reads' (Kd.R_mono (ok' := (fun k_ => (w.heap.size ≤ k_) ∧ k_ ≠ gb189)) (Kd.R_types (HO200.out) BK189.out (by decide)) (fun k_ hk => by first | exact ⟨hk.1.1, hk.2⟩ | exact ⟨hk.1, hk.2⟩))).2.1 (Kd.R_F (Kd.R_mono (ok' := (fun k_ => (w.heap.size ≤ k_) ∧ k_ ≠ gb189)) (Kd.R_types (HO200.out) BK189.out (by decide)) (fun k_ hk => by first | exact ⟨hk.1.1, hk.2⟩ | exact ⟨hk.1, hk.2⟩))))) (Reps.c3 (show Kd.FK k24 _ _ (⟨64, 2, x3_2⟩ : S24) [.int .i64 64, .int .i64 2, .slice Ao38 x3_2.length co38] from (k24_mkF _ _ (⟨64, 2, x3_2⟩ : S24) (Kd.R_reads' (Kd.R_mono (ok' := (fun k_ => (w.heap.size ≤ k_) ∧ k_ ≠ gb189)) (Kd.R_types (HO_3.out) BK189.out (by decide)) (fun k_ hk => by first | exact ⟨hk.1.1, hk.2⟩ | exact ⟨hk.1, hk.2⟩))).2.1 (Kd.R_F (Kd.R_mono (ok' := (fun k_ => (w.heap.size ≤ k_) ∧ k_ ≠ gb189)) (Kd.R_types (HO_3.out) BK189.out (by decide)) (fun k_ hk => by first | exact ⟨hk.1.1, hk.2⟩ | exact ⟨hk.1, hk.2⟩))))) (Reps.c3 (show Kd.FK k24 _ _ (⟨64, 3, t201⟩ : S24) [.int .i64 64, .int .i64 3, .slice Ao47 t201.length co47] from (k24_mkF _ _ (⟨64, 3, t201⟩ : S24) (Kd.R_reads' (Kd.R_mono (ok' := (fun k_ => (w.heap.size ≤ k_) ∧ k_ ≠ gb189)) (Kd.R_types (HO203.out) BK189.out (by decide)) (fun k_ hk => by first | exact ⟨hk.1.1, hk.2⟩ | exact ⟨hk.1, hk.2⟩))).2.1 (Kd.R_F (Kd.R_mono (ok' := (fun k_ => (w.heap.size ≤ k_) ∧ k_ ≠ gb189)) (Kd.R_types (HO203.out) BK189.out (by decide)) (fun k_ hk => by first | exact ⟨hk.1.1, hk.2⟩ | exact ⟨hk.1, hk.2⟩))))) (Reps.none _ _)))))
          intro v205 w48 ho49 hb hg_ hnew_
          clear hg_ hnew_
          (first | rw [← Ny204.out] at ho49 | (simp only [Int.reduceToNat] at ho49; rw [← Ny204.out] at ho49))
          have n0_ := Aside0.mk (Kd.N_lower ho49 (below_size (by repeat (first | (with_reducible first | exact HB.out | apply bA | apply bN | apply bD | refine bS ?_ GE189.out) | exact HB.out))))
          have n1_ := Aside0.mk (blk_below (g := gb189) (o := .cells #[.int .i64 a0_0, .slice A0_1 l0_1.length c0_1, .int .i64 a0_2, .int .i64 a0_3] 27 (0, 0)) (by (with_reducible repeat (first | refine kN ?_ _ | refine kD ?_ | refine kA ?_ _)); exact BK189.out) hb)
          have n2_ := Aside0.mk (below_step (by repeat (first | (with_reducible first | exact HB.out | apply bA | apply bN | apply bD | refine bS ?_ GE189.out) | exact HB.out)) hb)
          clear BK189
          clear HB
          clear HO200
          clear HO203
          clear HO_3
          have HO206 := n0_
          have BK189 := n1_
          have HB := n2_
          clear n0_ n1_ n2_
          clear hb ho49
          refine hK.out _ _ ⟨.slice Ao46 y198.length co46, .slice Ao47 t201.length co47, v205, m4_, m10_, m12_, (by rw [ha.out]; exact putSel_upk 8 hb_ rfl rfl rfl), fun h0_ => absurd ((up_self b 11).symm.trans h0_) (by decide), (by (with_reducible repeat (first | refine kN ?_ _ | refine kD ?_ | refine kA ?_ _)); exact BK189.out), (by repeat (first | (with_reducible first | exact HB.out | apply bA | apply bN | apply bD | refine bS ?_ GE189.out) | exact HB.out)), fun _ h1_ => absurd ((up_self b 11).symm.trans h1_) (by decide), fun _ h1_ => absurd ((up_self b 11).symm.trans h1_) (by decide), fun _ => (by (with_reducible repeat (first | apply Kd.N_alloc | apply Kd.N_drewN | apply Kd.N_drew)); first | exact HO206.out | exact Kd.N_mono HO206.out (by intro k_ hk; first | exact hk | trivial | (simp only [true_and, and_true, and_assoc] at hk ⊢; first | exact hk | trivial) | simp_all)), Q_X4_, Q_X10_, fun h0_ => absurd ((hoff 12 (by kernel_rfl)).symm.trans h0_) (by decide)⟩
         refine steps_cons ?_ ?_
         ·
          rintro b a w' ⟨v199, v202, v205, m4_, m10_, m12_, ha, Q_HO_3, Q_BK189, Q_HB, Q_HO200, Q_HO203, Q_HO206, Q_X4_, Q_X10_, Q_X12_⟩ hb_ hon hoff
          refine ⟨_, rfl, fun K hK => ?_⟩
          have e41 : a.tmps[41]? = some (v205) := by rw [ha]; exact putSel_on (e := (11, 41, v205)) 8 rfl rfl (hon 11 (by kernel_rfl)) rfl
          replace ha := Aside0.mk ha
          have BK189 := Aside0.mk Q_BK189
          have HB := Aside0.mk Q_HB
          have HO206 := Aside0.mk (Q_HO206 (hon 11 (by kernel_rfl)))
          refine value_ (w1 := w') (v := v205) (by rfl) rfl ?_ ?_
          ·
           go_simp
           (try simp only [i64_w])
           try rfl
           all_goals (first | rfl | (simp [bne]; done))
          refine hK.out _ _ ⟨v199, v202, v205, m4_, m10_, (v205), (by rw [ha.out]; exact putSel_upk 9 hb_ rfl rfl rfl), fun h0_ => absurd ((hon 11 (by kernel_rfl)).symm.trans h0_) (by decide), Q_BK189, Q_HB, fun _ h1_ => absurd ((hon 11 (by kernel_rfl)).symm.trans h1_) (by decide), fun _ h1_ => absurd ((hon 11 (by kernel_rfl)).symm.trans h1_) (by decide), Q_HO206, Q_X4_, Q_X10_, fun _ => rfl⟩
         exact steps_nil
        rintro b a w47 hall ⟨v199, v202, v205, m4_, m10_, m12_, ha, Q_HO_3, Q_BK189, Q_HB, Q_HO200, Q_HO203, Q_HO206, Q_X4_, Q_X10_, Q_X12_⟩
        clear BK189 HB HO_3
        have hb1_ := hall 1 (by kernel_rfl)
        have hb2_ := hall 2 (by kernel_rfl)
        have hb3_ := hall 3 (by kernel_rfl)
        have hb4_ := hall 4 (by kernel_rfl)
        have hb6_ := hall 6 (by kernel_rfl)
        have hb8_ := hall 8 (by kernel_rfl)
        have hb9_ := hall 9 (by kernel_rfl)
        have hb10_ := hall 10 (by kernel_rfl)
        have hb11_ := hall 11 (by kernel_rfl)
        have hb12_ := hall 12 (by kernel_rfl)
        subst ha
        obtain rfl := (Q_X4_ hb4_).symm
        obtain rfl := (Q_X10_ hb10_).symm
        obtain rfl := (Q_X12_ hb12_).symm
        simp only [putSel, hb1_, hb2_, hb3_, hb4_, hb6_, hb8_, hb9_, hb10_, hb11_, hb12_, if_true, Act.put, sA, sB, sC]
        clear Q_HO_3
        have BK189 := Aside0.mk Q_BK189
        clear Q_BK189
        have HB := Aside0.mk Q_HB
        clear Q_HB
        clear Q_HO200
        clear Q_HO203
        have HO206 := Aside0.mk (Q_HO206 hb11_)
        clear Q_HO206
        clear hall hb1_ hb2_ hb3_ hb4_ hb6_ hb8_ hb9_ hb10_ hb11_ hb12_
        have hcz48_0 : w47.cell? ⟨gb189, 0, none⟩ = some (.int .i64 a0_0) := (blk_cell BK189.out 0).trans rfl
        have hcz48_1 : w47.cell? ⟨gb189, 1, none⟩ = some (.slice A0_1 l0_1.length c0_1) := (blk_cell BK189.out 1).trans rfl
        have hcz48_2 : w47.cell? ⟨gb189, 2, none⟩ = some (.int .i64 a0_2) := (blk_cell BK189.out 2).trans rfl
        have hcz48_3 : w47.cell? ⟨gb189, 3, none⟩ = some (.int .i64 a0_3) := (blk_cell BK189.out 3).trans rfl
        have hfz48_0 := blk_frozen BK189.out 0
        have hfz48_1 := blk_frozen BK189.out 1
        have hfz48_2 := blk_frozen BK189.out 2
        have hfz48_3 := blk_frozen BK189.out 3
        try go_wp2
        go_ret
        exact ⟨_, by first | rfl | (simp <;> rfl) | (simp [*] <;> rfl), by (with_reducible repeat (first | apply Kd.N_alloc | apply Kd.N_drewN | apply Kd.N_drew)); exact Kd.N_mono HO206.out (fun _ hk => hk.1), by repeat (first | (with_reducible first | exact HB.out | apply bA | apply bN | apply bD | refine bS ?_ GE189.out) | exact HB.out)⟩
 ·
  replace c3 := Bool.eq_false_iff.mpr c3
  subst c3
  have H1 : (some ([] : List (S24))) = some r := by rw [if_neg (show ¬ (false = true) by decide)] at H; first | done | exact H
  clear H
  have H := H1
  clear H1
  obtain rfl := Option.some.inj H
  go_enter Try.func20, Try.ntmps20
  go_wp2_with (first | ((with_reducible refine gate_dst (N := 1) rfl ?_); refine box_event ?hg (N := 1) ?hd (cs := #[.int .i64 a0_0, .slice A0_1 l0_1.length c0_1, .int .i64 a0_2, .int .i64 a0_3]) (t := 27) ?hr ?_; (case hd => rfl); (case hg => rfl); (case hr => first | (go_simp; done) | (go_simp; rfl)); intro gb189 hg w49 hbox hb; have n0_ := Aside0.mk (below_step (by repeat (first | (with_reducible first | exact HB.out | apply bA | apply bN | apply bD) | exact HB.out)) hb); have n1_ := Aside0.mk (hbox); have n2_ := Aside0.mk ((by rw [hg]; exact (below_size (by repeat (first | (with_reducible first | exact HB.out | apply bA | apply bN | apply bD) | exact HB.out))) : w.heap.size ≤ gb189)); have n3_ := Aside0.mk ((by rw [hg]; exact (below_size (by repeat (first | (with_reducible first | exact HB.out | apply bA | apply bN | apply bD) | exact HB.out))) : w.heap.size ≤ gb189)); clear HB; have HB := n0_; have BK189 := n1_; have GW189 := n2_; have GE189 := n3_; clear n0_ n1_ n2_ n3_; clear hb hbox hg; have hcz50_0 : w49.cell? ⟨gb189, 0, none⟩ = some (.int .i64 a0_0) := (blk_cell BK189.out 0).trans rfl; have hcz50_1 : w49.cell? ⟨gb189, 1, none⟩ = some (.slice A0_1 l0_1.length c0_1) := (blk_cell BK189.out 1).trans rfl; have hcz50_2 : w49.cell? ⟨gb189, 2, none⟩ = some (.int .i64 a0_2) := (blk_cell BK189.out 2).trans rfl; have hcz50_3 : w49.cell? ⟨gb189, 3, none⟩ = some (.int .i64 a0_3) := (blk_cell BK189.out 3).trans rfl; have hfz50_0 := blk_frozen BK189.out 0; have hfz50_1 := blk_frozen BK189.out 1; have hfz50_2 := blk_frozen BK189.out 2; have hfz50_3 := blk_frozen BK189.out 3) | ((with_reducible refine gate_callee (f := 18) rfl ?_); refine goesL_ (some 8) rfl rfl Try.func18 (by kernel_rfl) rfl #[.agg #[.int .i64 a0_0, .slice A0_1 l0_1.length c0_1, .int .i64 a0_2, .int .i64 a0_3]] rfl (by (try simp only [List.map_toArray, List.map_cons, List.map_nil]); first | done | rfl | (simp only [List.length_drop, List.length_take]; rfl)) ?_; (with_reducible refine (attr_Sane.calls a0_0 _ _ l0_1 a0_2 a0_3 false _ ?side1 ?side2 A2.out).mono ?_); (case side1 => repeat (first | exact (Kd.C_below HR0_1.out HB.out) | (with_reducible refine Kd.C_alloc ?_ _) | (with_reducible refine Kd.C_drewN ?_ _) | (with_reducible refine Kd.C_drew ?_))); (case side2 => exact HC0_1.out); rintro e w51 ⟨rfl, hb⟩; refine ⟨_, rfl, ?_⟩; have n0_ := Aside0.mk (blk_below (g := gb189) (o := .cells #[.int .i64 a0_0, .slice A0_1 l0_1.length c0_1, .int .i64 a0_2, .int .i64 a0_3] 27 (0, 0)) (by (with_reducible repeat (first | refine kN ?_ _ | refine kD ?_ | refine kA ?_ _)); exact BK189.out) hb); have n1_ := Aside0.mk (below_step (by repeat (first | (with_reducible first | exact HB.out | apply bA | apply bN | apply bD | refine bS ?_ GE189.out) | exact HB.out)) hb); clear BK189; clear HB; have BK189 := n0_; have HB := n1_; clear n0_ n1_; (try clear hb); (try clear hb2); (try clear hk); (try clear hi)))
  go_ret
  exact ⟨_, by first | rfl | (simp <;> rfl) | (simp [*] <;> rfl), by first | exact Kd.S_nil _ _ _ _ _ | exact Kd.N_nil _ _ _ _ _ | exact Kd.V_nil _ _ _ _ _ | exact Kd.Q_nil _ _ _ _ _ | exact Kd.R_nil _ _ _ _ _, by repeat (first | (with_reducible first | exact HB.out | apply bA | apply bN | apply bD | refine bS ?_ GE189.out) | exact HB.out)⟩

end Go.Proofs.Ytfmhclbcoladpaa.E
