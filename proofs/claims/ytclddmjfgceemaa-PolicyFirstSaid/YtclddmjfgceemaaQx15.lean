/- Each call of a Go function comes to what the Lean function of its name answers (written out by wip/tools/xprint.py, checked by Lean); conditions: those in each statement. -/
import Derived.Test.YtclddmjfgceemaaQx0
import Derived.Test.YtclddmjfgceemaaQx2
import Derived.Test.YtclddmjfgceemaaQx5
import Derived.Test.YtclddmjfgceemaaQx7
namespace Go.Proofs.Ytclddmjfgceemaa.Q
open Go.RowKit Go.Proofs.YtclddmjfgceemaaW.PrintWords Go.Proofs.YtclddmjfgceemaaW.PrintLast Go.Proofs.YtclddmjfgceemaaW.PrintMore Go.Proofs.YtclddmjfgceemaaW.PrintX
attribute [local go_sem] max2_int min2_int max_two min_two max_three min_three max_four min_four   -- for this text's walks alone
set_option linter.unusedVariables false
set_option linter.unusedSimpArgs false

attribute [local go_sem high] eqA31
/-! ### ridgewaylaw10_PolicyFirst: function 4 -/
mutual
def ridgewaylaw10_PolicyFirst.j0 : Nat → List (S31) → Bool → Bool → Int → Int → List Int → Int → Option (Bool)
 | 0, _, _, _, _, _, _, _ => none
 | k + 1, x0, x5, x18, x234000, x234001, x234002, x234003 => if x18 = true then (some x5) else ((policy_Pick.f k x0 x234000 x234001 x234002 x234003).bind fun bt235 => (ridgewaylaw10_PolicyFirst.l0 k x0 x5 bt235.2.2.2.2.2.2 0 x234000 x234001 x234002 x234003 bt235.1 bt235.2.1 bt235.2.2.1 bt235.2.2.2.1 bt235.2.2.2.2.1 bt235.2.2.2.2.2.1))
def ridgewaylaw10_PolicyFirst.l0 : Nat → List (S31) → Bool → Bool → Int → Int → Int → List Int → Int → Int → Int → Int → Int → Int → Int → Option (Bool)
 | 0, _, _, _, _, _, _, _, _, _, _, _, _, _, _ => none
 | k + 1, x0, x5, x7, x8, x234000, x234001, x234002, x234003, x243000, x243001, x243002, x243003, x243004, x243005 => if x8 < (x0.length : Int) then (if 0 ≤ x8 then ((policy_Fits.f k ((rd_T31 x0 x8).f0) ((rd_T31 x0 x8).f1.f0) ((rd_T31 x0 x8).f1.f1) ((rd_T31 x0 x8).f2) ((rd_T31 x0 x8).f3) ((rd_T31 x0 x8).f4) x234000 x234001 x234002 x234003).bind fun t244 => (if t244 = true then (if x5 = true then (if x7 = true then (some (x243000 == ((rd_T31 x0 x8).f0) && ((x243001 == ((rd_T31 x0 x8).f1.f0) && (x243002 == ((rd_T31 x0 x8).f1.f1))) && (x243003 == ((rd_T31 x0 x8).f2) && (x243004 == ((rd_T31 x0 x8).f3) && (x243005 == ((rd_T31 x0 x8).f4))))))) else (some false)) else (some false)) else (ridgewaylaw10_PolicyFirst.l0 k x0 x5 x7 (wrap64 (x8 + 1)) x234000 x234001 x234002 x234003 x243000 x243001 x243002 x243003 x243004 x243005))) else (none)) else (if x5 = true then (if x7 = true then (some false) else (some (x243000 == 0 && ((x243001 == 0 && (x243002 == 0)) && (x243003 == 0 && (x243004 == 0 && (x243005 == 0))))))) else (some false))
end
def ridgewaylaw10_PolicyFirst.f (k : Nat) (l0 : List (S31)) (a1_0 : Int) (a1_1 : Int) (l1_2 : List Int) (a1_3 : Int) : Option (Bool) := (ridgewaylaw10_awake.f).bind fun t234 => (if (l0.length : Int) > 30 then (ridgewaylaw10_PolicyFirst.j0 k l0 t234 true a1_0 a1_1 l1_2 a1_3) else (ridgewaylaw10_PolicyFirst.j0 k l0 t234 (decide ((l1_2.length : Int) > 100)) a1_0 a1_1 l1_2 a1_3))
theorem ridgewaylaw10_PolicyFirst.mono_l : ∀ k, (∀ y0 y1 y2 y3 y4 y5 y6, LeO (ridgewaylaw10_PolicyFirst.j0 k y0 y1 y2 y3 y4 y5 y6) (ridgewaylaw10_PolicyFirst.j0 (k + 1) y0 y1 y2 y3 y4 y5 y6)) ∧ (∀ y0 y1 y2 y3 y4 y5 y6 y7 y8 y9 y10 y11 y12 y13, LeO (ridgewaylaw10_PolicyFirst.l0 k y0 y1 y2 y3 y4 y5 y6 y7 y8 y9 y10 y11 y12 y13) (ridgewaylaw10_PolicyFirst.l0 (k + 1) y0 y1 y2 y3 y4 y5 y6 y7 y8 y9 y10 y11 y12 y13))
 | 0 => ⟨fun _ _ _ _ _ _ _ r h => by simp [ridgewaylaw10_PolicyFirst.j0] at h, fun _ _ _ _ _ _ _ _ _ _ _ _ _ _ r h => by simp [ridgewaylaw10_PolicyFirst.l0] at h⟩
 | k + 1 => by
  obtain ⟨ih0, ih1⟩ := ridgewaylaw10_PolicyFirst.mono_l k
  refine ⟨?_, ?_⟩
  ·
   intro y0 y1 y2 y3 y4 y5 y6
   unfold ridgewaylaw10_PolicyFirst.j0
   repeat' first
   | (with_reducible exact ih0 _ _ _ _ _ _ _)
   | (with_reducible exact ih1 _ _ _ _ _ _ _ _ _ _ _ _ _ _)
   | (with_reducible exact policy_Fits.mono _ _ _ _ _ _ _ _ _ _ _)
   | (with_reducible exact policy_Pick.mono _ _ _ _ _ _)
   | (with_reducible exact LeO.refl _)
   | (with_reducible exact LeO.none _)
   | (with_reducible refine LeO.ite ?_ ?_)
   | (with_reducible refine LeO.bind ?_ (fun _ => ?_))
   | exact ih0 _ _ _ _ _ _ _
   | exact ih1 _ _ _ _ _ _ _ _ _ _ _ _ _ _
   | exact policy_Fits.mono _ _ _ _ _ _ _ _ _ _ _
   | exact policy_Pick.mono _ _ _ _ _ _
   | exact LeO.none _
   | refine LeO.ite ?_ ?_
   | refine LeO.bind ?_ (fun _ => ?_)
  ·
   intro y0 y1 y2 y3 y4 y5 y6 y7 y8 y9 y10 y11 y12 y13
   unfold ridgewaylaw10_PolicyFirst.l0
   repeat' first
   | (with_reducible exact ih0 _ _ _ _ _ _ _)
   | (with_reducible exact ih1 _ _ _ _ _ _ _ _ _ _ _ _ _ _)
   | (with_reducible exact policy_Fits.mono _ _ _ _ _ _ _ _ _ _ _)
   | (with_reducible exact policy_Pick.mono _ _ _ _ _ _)
   | (with_reducible exact LeO.refl _)
   | (with_reducible exact LeO.none _)
   | (with_reducible refine LeO.ite ?_ ?_)
   | (with_reducible refine LeO.bind ?_ (fun _ => ?_))
   | exact ih0 _ _ _ _ _ _ _
   | exact ih1 _ _ _ _ _ _ _ _ _ _ _ _ _ _
   | exact policy_Fits.mono _ _ _ _ _ _ _ _ _ _ _
   | exact policy_Pick.mono _ _ _ _ _ _
   | exact LeO.none _
   | refine LeO.ite ?_ ?_
   | refine LeO.bind ?_ (fun _ => ?_)
theorem ridgewaylaw10_PolicyFirst.mono : ∀ a0 a1 a2 a3 a4 k, LeO (ridgewaylaw10_PolicyFirst.f k a0 a1 a2 a3 a4) (ridgewaylaw10_PolicyFirst.f (k + 1) a0 a1 a2 a3 a4) := by
 intro a0 a1 a2 a3 a4 k
 obtain ⟨ih0, ih1⟩ := ridgewaylaw10_PolicyFirst.mono_l k
 unfold ridgewaylaw10_PolicyFirst.f
 repeat' first
   | (with_reducible exact ih0 _ _ _ _ _ _ _)
   | (with_reducible exact ih1 _ _ _ _ _ _ _ _ _ _ _ _ _ _)
   | (with_reducible exact policy_Fits.mono _ _ _ _ _ _ _ _ _ _ _)
   | (with_reducible exact policy_Pick.mono _ _ _ _ _ _)
   | (with_reducible exact LeO.refl _)
   | (with_reducible exact LeO.none _)
   | (with_reducible refine LeO.ite ?_ ?_)
   | (with_reducible refine LeO.bind ?_ (fun _ => ?_))
   | exact ih0 _ _ _ _ _ _ _
   | exact ih1 _ _ _ _ _ _ _ _ _ _ _ _ _ _
   | exact policy_Fits.mono _ _ _ _ _ _ _ _ _ _ _
   | exact policy_Pick.mono _ _ _ _ _ _
   | exact LeO.none _
   | refine LeO.ite ?_ ?_
   | refine LeO.bind ?_ (fun _ => ?_)
def ridgewaylaw10_PolicyFirst.T9 : Bool × List (List Nat × List Nat) := (true, [([], []), ([0], [0]), ([1], [1]), ([1, 2], [1, 2]), ([3, 1], [3]), ([4], [4]), ([4], [4]), ([4], [4]), ([6, 7, 4], [4, 6, 7]), ([8, 4], [4, 8]), ([5, 9, 4], [4, 5, 9]), ([4, 10], [4, 10]), ([11, 4, 0, 1, 2, 3, 4, 5, 6, 7, 8, 9, 10, 11], [11])])
def ridgewaylaw10_PolicyFirst.B9 : List Nat := [0, 1, 3, 7, 15, 31, 31, 31, 223, 479, 1023, 2047, 4095]
theorem ridgewaylaw10_PolicyFirst.tab9 : rtab .any (opsOf Try.f4 9) = ridgewaylaw10_PolicyFirst.T9 := by kernel_rfl
theorem ridgewaylaw10_PolicyFirst.bits9 : waitsOk ridgewaylaw10_PolicyFirst.T9.2 ridgewaylaw10_PolicyFirst.B9 = true := by kernel_rfl
set_option maxHeartbeats 8000000 in
set_option maxRecDepth 100000 in
theorem ridgewaylaw10_PolicyFirst.calls (k : Nat) (A0 : Option Addr) (c0 : Nat) (l0 : List (S31)) (a1_0 : Int) (a1_1 : Int) (A1_2 : Option Addr) (c1_2 : Nat) (l1_2 : List Int) (a1_3 : Int) (w : World) (hr0 : Kd.C k31 w A0 l0.length l0) (hc0 : l0.length ≤ c0) (hr1_2 : Kd.C (Kd.int .i64) w A1_2 l1_2.length l1_2) (hc1_2 : l1_2.length ≤ c1_2) (h : ridgewaylaw10_PolicyFirst.f k l0 a1_0 a1_1 l1_2 a1_3 = some true) :
  Calls Try.prog 4 #[.slice A0 l0.length c0, .agg #[.int .i64 a1_0, .int .i64 a1_1, .slice A1_2 l1_2.length c1_2, .int .i64 a1_3]] w fun e w' => e = .returned (.bool true) ∧ Below w.heap.size w w' := by
 have hu27 := Try.underlying27
 have hu31 := Try.underlying31
 have HR0 := Aside0.mk hr0
 have HC0 := Aside0.mk hc0
 clear hr0 hc0
 have HR1_2 := Aside0.mk hr1_2
 have HC1_2 := Aside0.mk hc1_2
 clear hr1_2 hc1_2
 have HB := Aside0.mk (Below.refl w.heap.size w)
 have H : ((ridgewaylaw10_awake.f).bind fun t234 => (if (l0.length : Int) > 30 then (ridgewaylaw10_PolicyFirst.j0 k l0 t234 true a1_0 a1_1 l1_2 a1_3) else (ridgewaylaw10_PolicyFirst.j0 k l0 t234 (decide ((l1_2.length : Int) > 100)) a1_0 a1_1 l1_2 a1_3))) = some true := h
 clear h
 replace H := Option.bind_eq_some_iff.mp H
 obtain ⟨t234, A30, H⟩ := H
 replace H : (if (l0.length : Int) > 30 then (ridgewaylaw10_PolicyFirst.j0 k l0 t234 true a1_0 a1_1 l1_2 a1_3) else (ridgewaylaw10_PolicyFirst.j0 k l0 t234 (decide ((l1_2.length : Int) > 100)) a1_0 a1_1 l1_2 a1_3)) = some true := H
 have A3 := Aside0.mk A30
 clear A30
 have HC4 := Aside0.mk H
 clear H
 go_enter Try.func4, Try.ntmps4
 go_upto_region 2 with (first | ((with_reducible refine gate_dst (N := 3) rfl ?_); (try (refine gate_guard (by rfl) ?_; dsimp only)); refine box_event ?hg (N := 3) ?hd (cs := #[.int .i64 a1_0, .int .i64 a1_1, .slice A1_2 l1_2.length c1_2, .int .i64 a1_3]) (t := 27) ?hr ?_; (case hd => rfl); (case hg => rfl); (case hr => first | (go_simp; done) | (go_simp; rfl)); intro gb233 hg w5 hbox hb; have n0_ := Aside0.mk (below_step (by repeat (first | (with_reducible first | exact HB.out | apply bA | apply bN | apply bD) | exact HB.out)) hb); have n1_ := Aside0.mk (hbox); have n2_ := Aside0.mk ((by rw [hg]; exact (below_size (by repeat (first | (with_reducible first | exact HB.out | apply bA | apply bN | apply bD) | exact HB.out))) : w.heap.size ≤ gb233)); have n3_ := Aside0.mk ((by rw [hg]; exact (below_size (by repeat (first | (with_reducible first | exact HB.out | apply bA | apply bN | apply bD) | exact HB.out))) : w.heap.size ≤ gb233)); clear HB; have HB := n0_; have BK233 := n1_; have GW233 := n2_; have GE233 := n3_; clear n0_ n1_ n2_ n3_; clear hb hbox hg) | ((with_reducible refine gate_callee (f := 8) rfl ?_); refine goesL_ (some 9) rfl rfl Try.func8 (by kernel_rfl) rfl #[] rfl (by (try simp only [List.map_toArray, List.map_cons, List.map_nil]); first | done | rfl | (simp only [List.length_drop, List.length_take]; rfl)) ?_; (with_reducible refine (ridgewaylaw10_awake.calls  t234 _ A3.out).mono ?_); rintro e w6 ⟨rfl, hb⟩; refine ⟨_, rfl, ?_⟩; have n0_ := Aside0.mk (blk_below (g := gb233) (o := .cells #[.int .i64 a1_0, .int .i64 a1_1, .slice A1_2 l1_2.length c1_2, .int .i64 a1_3] 27 (0, 0)) (by (with_reducible repeat (first | refine kN ?_ _ | refine kD ?_ | refine kA ?_ _)); exact BK233.out) hb); have n1_ := Aside0.mk (below_step (by repeat (first | (with_reducible first | exact HB.out | apply bA | apply bN | apply bD | refine bS ?_ GE233.out) | exact HB.out)) hb); clear BK233; clear HB; have BK233 := n0_; have HB := n1_; clear n0_ n1_; (try clear hb); (try clear hb2); (try clear hk); (try clear hi)))
 (try simp only [Act.put, sA, sB, sC])
 go_cut [18] (fun v18 wc => ∃ (kq : Nat) (x18_3 : Bool), v18 = .bool x18_3 ∧ Aside0 (ridgewaylaw10_PolicyFirst.j0 kq l0 t234 x18_3 a1_0 a1_1 l1_2 a1_3 = some true) ∧ Aside0 (kq ≤ k) ∧ Aside0 (wc.heap[gb233]? = some (.cells #[.int .i64 a1_0, .int .i64 a1_1, (.slice A1_2 l1_2.length c1_2), .int .i64 a1_3] 27 (0, 0))) ∧ Aside0 (Below w.heap.size w wc))
 case first =>
  have H := HC4.out
  clear HC4
  by_cases c7 : (l0.length : Int) > 30
  ·
   rw [if_pos c7] at H
   have c7b0 : decide (30 < (l0.length : Int)) = true := decide_eq_true c7
   have c7b1 : decide (30 < l0.length) = true := decide_eq_true (by omega)
   clear c7
   (first | rw [c7b0] | (simp only [i64_w, i32_w]; rw [c7b0]) | skip)
   have H' := Aside0.mk H
   clear H
   go_wp2
   go_meet
   case rel => exact ⟨_, (true), (by first | rfl | (simp; done) | (simp [*]; done)), H', ⟨by first | omega | exact Nat.le_refl _⟩, ⟨by (with_reducible repeat (first | refine kN ?_ _ | refine kD ?_ | refine kA ?_ _)); exact BK233.out⟩, ⟨by repeat (first | (with_reducible first | exact HB.out | apply bA | apply bN | apply bD | refine bS ?_ GE233.out) | exact HB.out)⟩⟩
  ·
   rw [if_neg c7] at H
   have c7b0 : decide (30 < (l0.length : Int)) = false := decide_eq_false c7
   have c7b1 : decide (30 < l0.length) = false := decide_eq_false (by omega)
   clear c7
   (first | rw [c7b0] | (simp only [i64_w, i32_w]; rw [c7b0]) | skip)
   have H' := Aside0.mk H
   clear H
   have hcz8_0 : w6.cell? ⟨gb233, 0, none⟩ = some (.int .i64 a1_0) := (blk_cell BK233.out 0).trans rfl
   have hcz8_1 : w6.cell? ⟨gb233, 1, none⟩ = some (.int .i64 a1_1) := (blk_cell BK233.out 1).trans rfl
   have hcz8_2 : w6.cell? ⟨gb233, 2, none⟩ = some (.slice A1_2 l1_2.length c1_2) := (blk_cell BK233.out 2).trans rfl
   have hcz8_3 : w6.cell? ⟨gb233, 3, none⟩ = some (.int .i64 a1_3) := (blk_cell BK233.out 3).trans rfl
   have hfz8_0 := blk_frozen BK233.out 0
   have hfz8_1 := blk_frozen BK233.out 1
   have hfz8_2 := blk_frozen BK233.out 2
   have hfz8_3 := blk_frozen BK233.out 3
   go_wp2
   go_meet
   case rel => exact ⟨_, (decide ((l1_2.length : Int) > 100)), (by first | rfl | (simp; done) | (simp [*]; done)), H', ⟨by first | omega | exact Nat.le_refl _⟩, ⟨by (with_reducible repeat (first | refine kN ?_ _ | refine kD ?_ | refine kA ?_ _)); exact BK233.out⟩, ⟨by repeat (first | (with_reducible first | exact HB.out | apply bA | apply bN | apply bD | refine bS ?_ GE233.out) | exact HB.out)⟩⟩
 case rest =>
  clear HC4
  try clear c1
  try clear p2
  try clear c4
  try clear c7
  try clear c7b0
  try clear c7b1
  try clear c8
  try clear hcz8_0
  try clear hcz8_1
  try clear hcz8_2
  try clear hcz8_3
  try clear hfz8_0
  try clear hfz8_1
  try clear hfz8_2
  try clear hfz8_3
  obtain ⟨kq, x18_3, rfl, HA, HJ3, BK233, HB⟩ := hcut
  cases kq with
  | zero => exact absurd HA.out (by simp [ridgewaylaw10_PolicyFirst.j0])
  | succ kj3 =>
   have H := HA.out
   clear HA
   simp only [ridgewaylaw10_PolicyFirst.j0] at H
   by_cases c9 : x18_3 = true
   ·
    subst c9
    have H1 : (some t234) = some true := by rw [if_pos rfl] at H; first | done | exact H
    clear H
    have H := H1
    clear H1
    have HRL_ := Aside0.mk (Option.some.inj H)
    clear H
    go_wp2
    all_goals first | (go_ret; refine ⟨?_, ?_⟩; (focus (first | rfl | (simp [errW_none, errW_some] <;> rfl) | (rw [HRL_.out] <;> rfl) | (simp only [HRL_.out] <;> rfl) | (have h_ := HRL_.out; simp at h_; simp [h_]; done) | (have h_ := HRL_.out; simp [*] at h_ ⊢; done) | (simp [*, errW_none, errW_some] <;> rfl))); (focus (repeat (first | (with_reducible first | exact HB.out | apply bA | apply bN | apply bD | refine bS ?_ GE233.out) | exact HB.out)))) | (exfalso; simp_all; done)
   ·
    replace c9 := Bool.eq_false_iff.mpr c9
    subst c9
    have H1 : ((policy_Pick.f kj3 l0 a1_0 a1_1 l1_2 a1_3).bind fun bt235 => (ridgewaylaw10_PolicyFirst.l0 kj3 l0 t234 bt235.2.2.2.2.2.2 0 a1_0 a1_1 l1_2 a1_3 bt235.1 bt235.2.1 bt235.2.2.1 bt235.2.2.2.1 bt235.2.2.2.2.1 bt235.2.2.2.2.2.1)) = some true := by rw [if_neg (show ¬ (false = true) by decide)] at H; first | done | exact H
    clear H
    have H := H1
    clear H1
    replace H := Option.bind_eq_some_iff.mp H
    obtain ⟨⟨t235, t236, t237, t238, t239, t240, t241⟩, A100, H⟩ := H
    replace H : (ridgewaylaw10_PolicyFirst.l0 kj3 l0 t234 t241 0 a1_0 a1_1 l1_2 a1_3 t235 t236 t237 t238 t239 t240) = some true := H
    have A10 := Aside0.mk A100
    clear A100
    have H' := Aside0.mk H
    clear H
    have hcz11_0 : wc.cell? ⟨gb233, 0, none⟩ = some (.int .i64 a1_0) := (blk_cell BK233.out 0).trans rfl
    have hcz11_1 : wc.cell? ⟨gb233, 1, none⟩ = some (.int .i64 a1_1) := (blk_cell BK233.out 1).trans rfl
    have hcz11_2 : wc.cell? ⟨gb233, 2, none⟩ = some (.slice A1_2 l1_2.length c1_2) := (blk_cell BK233.out 2).trans rfl
    have hcz11_3 : wc.cell? ⟨gb233, 3, none⟩ = some (.int .i64 a1_3) := (blk_cell BK233.out 3).trans rfl
    have hfz11_0 := blk_frozen BK233.out 0
    have hfz11_1 := blk_frozen BK233.out 1
    have hfz11_2 := blk_frozen BK233.out 2
    have hfz11_3 := blk_frozen BK233.out 3
    go_wp2_with (first | ((with_reducible refine gate_callee (f := 15) rfl ?_); refine goesL_ (some 23) rfl rfl Try.func15 (by kernel_rfl) rfl #[.slice A0 l0.length c0, .agg #[.int .i64 a1_0, .int .i64 a1_1, .slice A1_2 l1_2.length c1_2, .int .i64 a1_3]] rfl (by (try simp only [List.map_toArray, List.map_cons, List.map_nil]); first | done | rfl | (simp only [List.length_drop, List.length_take]; rfl)) ?_; (with_reducible refine (policy_Pick.calls kj3 _ _ l0 a1_0 a1_1 _ _ l1_2 a1_3 t235 t236 t237 t238 t239 t240 t241 _ ?side1 ?side2 ?side3 ?side4 A10.out).mono ?_); (case side1 => repeat (first | exact (Kd.C_below HR0.out HB.out) | (with_reducible refine Kd.C_alloc ?_ _) | (with_reducible refine Kd.C_drewN ?_ _) | (with_reducible refine Kd.C_drew ?_))); (case side2 => exact HC0.out); (case side3 => repeat (first | exact (Kd.C_below HR1_2.out HB.out) | (with_reducible refine Kd.C_alloc ?_ _) | (with_reducible refine Kd.C_drewN ?_ _) | (with_reducible refine Kd.C_drew ?_))); (case side4 => exact HC1_2.out); rintro e w12 ⟨rfl, hb⟩; refine ⟨_, rfl, ?_⟩; have n0_ := Aside0.mk (blk_below (g := gb233) (o := .cells #[.int .i64 a1_0, .int .i64 a1_1, .slice A1_2 l1_2.length c1_2, .int .i64 a1_3] 27 (0, 0)) (by (with_reducible repeat (first | refine kN ?_ _ | refine kD ?_ | refine kA ?_ _)); exact BK233.out) hb); have n1_ := Aside0.mk (below_step (by repeat (first | (with_reducible first | exact HB.out | apply bA | apply bN | apply bD | refine bS ?_ GE233.out) | exact HB.out)) hb); clear BK233; clear HB; have BK233 := n0_; have HB := n1_; clear n0_ n1_; (try clear hb); (try clear hb2); (try clear hk); (try clear hi)) | ((with_reducible refine gate_dst (N := 6) rfl ?_); (try (refine gate_guard (by rfl) ?_; dsimp only)); refine box_event ?hg (N := 6) ?hd (cs := #[.int .i64 0, .int .i64 0, .int .i64 0, .int .i64 0, .int .i64 0, .int .i64 0]) (t := 31) ?hr ?_; (case hd => rfl); (case hg => rfl); (case hr => first | (go_simp; done) | (go_simp; rfl)); intro gb242 hg w13 hbox hb; have n0_ := Aside0.mk (blk_below (g := gb233) (o := .cells #[.int .i64 a1_0, .int .i64 a1_1, .slice A1_2 l1_2.length c1_2, .int .i64 a1_3] 27 (0, 0)) (by (with_reducible repeat (first | refine kN ?_ _ | refine kD ?_ | refine kA ?_ _)); exact BK233.out) hb); have n1_ := Aside0.mk (below_step (by repeat (first | (with_reducible first | exact HB.out | apply bA | apply bN | apply bD | refine bS ?_ GE233.out) | exact HB.out)) hb); have n2_ := Aside0.mk (hbox); have n3_ := Aside0.mk ((by rw [hg]; exact (below_size (by repeat (first | (with_reducible first | exact HB.out | apply bA | apply bN | apply bD | refine bS ?_ GE233.out) | exact HB.out))) : w.heap.size ≤ gb242)); have n4_ := Aside0.mk ((by rw [hg]; exact (below_size (by repeat (first | (with_reducible first | exact HB.out | apply bA | apply bN | apply bD | refine bS ?_ GE233.out) | exact HB.out))) : w.heap.size ≤ gb242)); have n5_ := Aside0.mk ((by rw [hg]; exact Nat.ne_of_lt (blk_lt (g := gb233) (o := .cells #[.int .i64 a1_0, .int .i64 a1_1, .slice A1_2 l1_2.length c1_2, .int .i64 a1_3] 27 (0, 0)) (by (with_reducible repeat (first | refine kN ?_ _ | refine kD ?_ | refine kA ?_ _)); exact BK233.out)) : gb233 ≠ gb242)); have n6_ := Aside0.mk ((by rw [hg]; exact Nat.ne_of_gt (blk_lt (g := gb233) (o := .cells #[.int .i64 a1_0, .int .i64 a1_1, .slice A1_2 l1_2.length c1_2, .int .i64 a1_3] 27 (0, 0)) (by (with_reducible repeat (first | refine kN ?_ _ | refine kD ?_ | refine kA ?_ _)); exact BK233.out)) : gb242 ≠ gb233)); clear BK233; clear HB; have BK233 := n0_; have HB := n1_; have BK242 := n2_; have GW242 := n3_; have GE242 := n4_; have NB233_242 := n5_; have NB242_233 := n6_; clear n0_ n1_ n2_ n3_ n4_ n5_ n6_; clear hb hbox hg; have hnb14 := NB242_233.out; have hnc14 := NB233_242.out; have hcz15_0 : w13.cell? ⟨gb242, 0, none⟩ = some (.int .i64 0) := (blk_cell BK242.out 0).trans rfl; have hcz15_1 : w13.cell? ⟨gb242, 1, none⟩ = some (.int .i64 0) := (blk_cell BK242.out 1).trans rfl; have hcz15_2 : w13.cell? ⟨gb242, 2, none⟩ = some (.int .i64 0) := (blk_cell BK242.out 2).trans rfl; have hcz15_3 : w13.cell? ⟨gb242, 3, none⟩ = some (.int .i64 0) := (blk_cell BK242.out 3).trans rfl; have hcz15_4 : w13.cell? ⟨gb242, 4, none⟩ = some (.int .i64 0) := (blk_cell BK242.out 4).trans rfl; have hcz15_5 : w13.cell? ⟨gb242, 5, none⟩ = some (.int .i64 0) := (blk_cell BK242.out 5).trans rfl; have hfz15_0 := blk_frozen BK242.out 0; have hfz15_1 := blk_frozen BK242.out 1; have hfz15_2 := blk_frozen BK242.out 2; have hfz15_3 := blk_frozen BK242.out 3; have hfz15_4 := blk_frozen BK242.out 4; have hfz15_5 := blk_frozen BK242.out 5))
    go_loopg [8] kj3 (fun kq v8 w' => ∃ (x8_2 : Int), v8 = .int .i64 x8_2 ∧ Aside0 (ridgewaylaw10_PolicyFirst.l0 kq l0 t234 t241 x8_2 a1_0 a1_1 l1_2 a1_3 t235 t236 t237 t238 t239 t240 = some true) ∧ Aside0 (kq ≤ kj3) ∧ Aside0 (w'.heap[gb233]? = some (.cells #[.int .i64 a1_0, .int .i64 a1_1, (.slice A1_2 l1_2.length c1_2), .int .i64 a1_3] 27 (0, 0))) ∧ Aside0 (w'.heap[gb242]? = some (.cells #[.int .i64 t235, .int .i64 t236, .int .i64 t237, .int .i64 t238, .int .i64 t239, .int .i64 t240] 31 (0, 0))) ∧ Aside0 (Below w.heap.size w w'))
    case atStart => exact ⟨(0), (by first | rfl | (simp; done) | (simp [*]; done)), H', ⟨Nat.le_refl _⟩, ⟨by (with_reducible repeat (first | refine kN ?_ _ | refine kD ?_ | refine kA ?_ _)); refine blk_far ?_ NB233_242.out _; (with_reducible repeat (first | refine kN ?_ _ | refine kD ?_ | refine kA ?_ _)); refine blk_far ?_ NB233_242.out _; (with_reducible repeat (first | refine kN ?_ _ | refine kD ?_ | refine kA ?_ _)); refine blk_far ?_ NB233_242.out _; (with_reducible repeat (first | refine kN ?_ _ | refine kD ?_ | refine kA ?_ _)); refine blk_far ?_ NB233_242.out _; (with_reducible repeat (first | refine kN ?_ _ | refine kD ?_ | refine kA ?_ _)); refine blk_far ?_ NB233_242.out _; (with_reducible repeat (first | refine kN ?_ _ | refine kD ?_ | refine kA ?_ _)); refine blk_far ?_ NB233_242.out _; (with_reducible repeat (first | refine kN ?_ _ | refine kD ?_ | refine kA ?_ _)); exact BK233.out⟩, ⟨by (with_reducible repeat (first | refine kN ?_ _ | refine kD ?_ | refine kA ?_ _)); refine blk_put (cs := #[.int .i64 t235, .int .i64 t236, .int .i64 t237, .int .i64 t238, .int .i64 t239, .int .i64 0]) ?_ 5 _ rfl; (with_reducible repeat (first | refine kN ?_ _ | refine kD ?_ | refine kA ?_ _)); refine blk_put (cs := #[.int .i64 t235, .int .i64 t236, .int .i64 t237, .int .i64 t238, .int .i64 0, .int .i64 0]) ?_ 4 _ rfl; (with_reducible repeat (first | refine kN ?_ _ | refine kD ?_ | refine kA ?_ _)); refine blk_put (cs := #[.int .i64 t235, .int .i64 t236, .int .i64 t237, .int .i64 0, .int .i64 0, .int .i64 0]) ?_ 3 _ rfl; (with_reducible repeat (first | refine kN ?_ _ | refine kD ?_ | refine kA ?_ _)); refine blk_put (cs := #[.int .i64 t235, .int .i64 t236, .int .i64 0, .int .i64 0, .int .i64 0, .int .i64 0]) ?_ 2 _ rfl; (with_reducible repeat (first | refine kN ?_ _ | refine kD ?_ | refine kA ?_ _)); refine blk_put (cs := #[.int .i64 t235, .int .i64 0, .int .i64 0, .int .i64 0, .int .i64 0, .int .i64 0]) ?_ 1 _ rfl; (with_reducible repeat (first | refine kN ?_ _ | refine kD ?_ | refine kA ?_ _)); refine blk_put (cs := #[.int .i64 0, .int .i64 0, .int .i64 0, .int .i64 0, .int .i64 0, .int .i64 0]) ?_ 0 _ rfl; (with_reducible repeat (first | refine kN ?_ _ | refine kD ?_ | refine kA ?_ _)); exact BK242.out⟩, ⟨by repeat (first | (with_reducible first | exact HB.out | apply bA | apply bN | apply bD | refine bS ?_ GE233.out | refine bS ?_ GE242.out) | exact HB.out)⟩⟩
    case round =>
     clear H'
     try clear c1
     try clear p2
     try clear c4
     try clear c7
     try clear c7b0
     try clear c7b1
     try clear c8
     try clear c9
     try clear c14
     try clear c15
     try clear hcz11_0
     try clear hcz11_1
     try clear hcz11_2
     try clear hcz11_3
     try clear hcz15_0
     try clear hcz15_1
     try clear hcz15_2
     try clear hcz15_3
     try clear hcz15_4
     try clear hcz15_5
     try clear hcz8_0
     try clear hcz8_1
     try clear hcz8_2
     try clear hcz8_3
     try clear hfz11_0
     try clear hfz11_1
     try clear hfz11_2
     try clear hfz11_3
     try clear hfz15_0
     try clear hfz15_1
     try clear hfz15_2
     try clear hfz15_3
     try clear hfz15_4
     try clear hfz15_5
     try clear hfz8_0
     try clear hfz8_1
     try clear hfz8_2
     try clear hfz8_3
     try clear p2
     obtain ⟨x8_2, rfl, HA, HK2, BK233, BK242, HB⟩ := hrel
     cases gk with
     | zero => exact absurd HA.out (by simp [ridgewaylaw10_PolicyFirst.l0])
     | succ k2 =>
      have H := HA.out
      clear HA
      simp only [ridgewaylaw10_PolicyFirst.l0] at H
      by_cases c16 : x8_2 < (l0.length : Int)
      ·
       rw [if_pos c16] at H
       have c16b0 : decide (x8_2 < (l0.length : Int)) = true := decide_eq_true c16
       clear c16
       by_cases c17 : 0 ≤ x8_2
       ·
        rw [if_pos c17] at H
        have c17b0 : decide (0 ≤ x8_2) = true := decide_eq_true c17
        clear c17
        replace H := Option.bind_eq_some_iff.mp H
        obtain ⟨t244, A180, H⟩ := H
        replace H : (if t244 = true then (if t234 = true then (if t241 = true then (some (t235 == ((rd_T31 l0 x8_2).f0) && ((t236 == ((rd_T31 l0 x8_2).f1.f0) && (t237 == ((rd_T31 l0 x8_2).f1.f1))) && (t238 == ((rd_T31 l0 x8_2).f2) && (t239 == ((rd_T31 l0 x8_2).f3) && (t240 == ((rd_T31 l0 x8_2).f4))))))) else (some false)) else (some false)) else (ridgewaylaw10_PolicyFirst.l0 k2 l0 t234 t241 (wrap64 (x8_2 + 1)) a1_0 a1_1 l1_2 a1_3 t235 t236 t237 t238 t239 t240)) = some true := H
        have A18 := Aside0.mk A180
        clear A180
        by_cases c19 : t244 = true
        ·
         subst c19
         have H1 : (if t234 = true then (if t241 = true then (some (t235 == ((rd_T31 l0 x8_2).f0) && ((t236 == ((rd_T31 l0 x8_2).f1.f0) && (t237 == ((rd_T31 l0 x8_2).f1.f1))) && (t238 == ((rd_T31 l0 x8_2).f2) && (t239 == ((rd_T31 l0 x8_2).f3) && (t240 == ((rd_T31 l0 x8_2).f4))))))) else (some false)) else (some false)) = some true := by rw [if_pos rfl] at H; first | done | exact H
         clear H
         have H := H1
         clear H1
         by_cases c20 : t234 = true
         ·
          subst c20
          have H1 : (if t241 = true then (some (t235 == ((rd_T31 l0 x8_2).f0) && ((t236 == ((rd_T31 l0 x8_2).f1.f0) && (t237 == ((rd_T31 l0 x8_2).f1.f1))) && (t238 == ((rd_T31 l0 x8_2).f2) && (t239 == ((rd_T31 l0 x8_2).f3) && (t240 == ((rd_T31 l0 x8_2).f4))))))) else (some false)) = some true := by rw [if_pos rfl] at H; first | done | exact H
          clear H
          have H := H1
          clear H1
          by_cases c21 : t241 = true
          ·
           subst c21
           have H1 : (some (t235 == ((rd_T31 l0 x8_2).f0) && ((t236 == ((rd_T31 l0 x8_2).f1.f0) && (t237 == ((rd_T31 l0 x8_2).f1.f1))) && (t238 == ((rd_T31 l0 x8_2).f2) && (t239 == ((rd_T31 l0 x8_2).f3) && (t240 == ((rd_T31 l0 x8_2).f4))))))) = some true := by rw [if_pos rfl] at H; first | done | exact H
           clear H
           have H := H1
           clear H1
           have HRL_ := Aside0.mk (Option.some.inj H)
           clear H
           try go_wp2
           have n0_ := Aside0.mk (blk_drew BK233.out)
           have n1_ := Aside0.mk (blk_drew BK242.out)
           have n2_ := Aside0.mk (below_drew1 HB.out)
           clear BK233
           clear BK242
           clear HB
           have BK233 := n0_
           have BK242 := n1_
           have HB := n2_
           clear n0_ n1_ n2_
           have p243 : 0 ≤ (x8_2 : Int) := of_decide_eq_true (by first | (with_reducible assumption) | assumption)
           have q243 : x8_2 < (l0.length : Int) := of_decide_eq_true (by first | (with_reducible assumption) | assumption)
           obtain ⟨ad243, e243, hx243_0, hx243_1, hx243_2, hx243_3, hx243_4, hx243_5⟩ := at_T31 HR0.out x8_2 p243 q243
           have hw243_5 := hx243_5
           have hw243_4 := hx243_4
           have hw243_3 := hx243_3
           have hw243_2 := hx243_2
           have hw243_1 := hx243_1
           have hw243_0 := hx243_0
           cases e243
           replace hx243_0 := cB HB.out hx243_0
           replace hx243_1 := cB HB.out hx243_1
           replace hx243_2 := cB HB.out hx243_2
           replace hx243_3 := cB HB.out hx243_3
           replace hx243_4 := cB HB.out hx243_4
           replace hx243_5 := cB HB.out hx243_5
           replace p243 := eq_true p243
           replace q243 := eq_true q243
           refine start_ (n := 6) (S := fun w' => w'.cell? ⟨gb233, 0, none⟩ = some (.int .i64 a1_0) ∧ w'.cell? ⟨gb233, 1, none⟩ = some (.int .i64 a1_1) ∧ w'.cell? ⟨gb233, 2, none⟩ = some (.slice A1_2 l1_2.length c1_2) ∧ w'.cell? ⟨gb233, 3, none⟩ = some (.int .i64 a1_3) ∧ w'.cell? (ad243.add ((x8_2).toNat * 6)) = some (.int .i64 ((rd_T31 l0 x8_2).f0)) ∧ w'.cell? ⟨(ad243.add ((x8_2).toNat * 6)).block, (ad243.add ((x8_2).toNat * 6)).off + 1, none⟩ = some (.int .i64 ((rd_T31 l0 x8_2).f1.f0)) ∧ w'.cell? ⟨(ad243.add ((x8_2).toNat * 6)).block, (ad243.add ((x8_2).toNat * 6)).off + 2, none⟩ = some (.int .i64 ((rd_T31 l0 x8_2).f1.f1)) ∧ w'.cell? ⟨(ad243.add ((x8_2).toNat * 6)).block, (ad243.add ((x8_2).toNat * 6)).off + 3, none⟩ = some (.int .i64 ((rd_T31 l0 x8_2).f2)) ∧ w'.cell? ⟨(ad243.add ((x8_2).toNat * 6)).block, (ad243.add ((x8_2).toNat * 6)).off + 4, none⟩ = some (.int .i64 ((rd_T31 l0 x8_2).f3)) ∧ w'.cell? ⟨(ad243.add ((x8_2).toNat * 6)).block, (ad243.add ((x8_2).toNat * 6)).off + 5, none⟩ = some (.int .i64 ((rd_T31 l0 x8_2).f4))) (ds := []) #[false, false, false, false, false, false] (by kernel_rfl) rfl rfl ⟨(blk_cell BK233.out 0).trans rfl, (blk_cell BK233.out 1).trans rfl, (blk_cell BK233.out 2).trans rfl, (blk_cell BK233.out 3).trans rfl, (cB HB.out hw243_0), (cB HB.out hw243_1), (cB HB.out hw243_2), (cB HB.out hw243_3), (cB HB.out hw243_4), (cB HB.out hw243_5)⟩ (fun hHeld => ?_)
           generalize wr.drew = w22 at BK233 BK242 HB hx243_0 hx243_1 hx243_2 hx243_3 hx243_4 hx243_5 hHeld ⊢
           refine pure_ (i := 0) (N := some 32) (v := ?_) (a' := ?_) #[true, false, false, false, false, false] rfl rfl (by kernel_rfl) (fun _ _ _ h => h) (Or.inl ⟨by rfl, ?_⟩) ?_ ?_
           rotate_left
           ·
            intro w'
            go_simp
            with_reducible rfl
           rotate_left
           ·
            simp only [Act.put, sA, sB, sC, i64_w, i32_w]
            rfl
           refine pure_ (i := 1) (N := some 33) (v := ?_) (a' := ?_) #[true, true, false, false, false, false] rfl rfl (by kernel_rfl) (fun _ _ _ h => h) (Or.inl ⟨by rfl, ?_⟩) ?_ ?_
           rotate_left
           ·
            intro w'
            go_simp
            with_reducible rfl
           rotate_left
           ·
            simp only [Act.put, sA, sB, sC, i64_w, i32_w]
            rfl
           refine pure_ (i := 2) (N := some 34) (v := ?_) (a' := ?_) #[true, true, true, false, false, false] rfl rfl (by kernel_rfl) (fun _ _ _ h => h) (Or.inl ⟨by rfl, ?_⟩) ?_ ?_
           rotate_left
           ·
            intro w'
            go_simp
            with_reducible rfl
           rotate_left
           ·
            simp only [Act.put, sA, sB, sC, i64_w, i32_w]
            rfl
           refine take_ (i := 3) (N := some 35) (v := ?_) (a' := ?_) #[true, true, true, true, false, false] rfl rfl (by kernel_rfl) (fun _ _ _ h => h) (Or.inl ⟨by rfl, ?_⟩) hHeld ?_ ?_
           rotate_left
           ·
            rintro w' ⟨s0, s1, s2, s3, s4, s5, s6, s7, s8, s9⟩
            go_simp
            with_reducible rfl
           rotate_left
           ·
            simp only [Act.put, sA, sB, sC, i64_w, i32_w]
            rfl
           refine take_ (i := 4) (N := some 36) (v := ?_) (a' := ?_) #[true, true, true, true, true, false] rfl rfl (by kernel_rfl) (fun _ _ _ h => h) (Or.inl ⟨by rfl, ?_⟩) hHeld ?_ ?_
           rotate_left
           ·
            rintro w' ⟨s0, s1, s2, s3, s4, s5, s6, s7, s8, s9⟩
            go_simp
            with_reducible rfl
           rotate_left
           ·
            simp only [Act.put, sA, sB, sC, i64_w, i32_w]
            rfl
           refine one_ (i := 5) (N := some 37) #[true, true, true, true, true, true] rfl rfl (by kernel_rfl) (by decide) (fun K hK => ?_)
           refine goes_ Try.func11 (by kernel_rfl) rfl #[.agg #[.int .i64 ((rd_T31 l0 x8_2).f0), .int .i64 ((rd_T31 l0 x8_2).f1.f0), .int .i64 ((rd_T31 l0 x8_2).f1.f1), .int .i64 ((rd_T31 l0 x8_2).f2), .int .i64 ((rd_T31 l0 x8_2).f3), .int .i64 ((rd_T31 l0 x8_2).f4)], .agg #[.int .i64 a1_0, .int .i64 a1_1, .slice A1_2 l1_2.length c1_2, .int .i64 a1_3]] (by rfl) rfl rfl (by (try simp only [List.map_toArray, List.map_cons, List.map_nil]); first | done | rfl | (simp only [List.length_drop, List.length_take]; rfl)) ?_
           with_reducible refine (policy_Fits.calls k2 ((rd_T31 l0 x8_2).f0) ((rd_T31 l0 x8_2).f1.f0) ((rd_T31 l0 x8_2).f1.f1) ((rd_T31 l0 x8_2).f2) ((rd_T31 l0 x8_2).f3) ((rd_T31 l0 x8_2).f4) a1_0 a1_1 _ _ l1_2 a1_3 true _ ?side1 ?side2 A18.out).mono ?_
           (case side1 => repeat (first | exact (Kd.C_below HR1_2.out HB.out) | (with_reducible refine Kd.C_alloc ?_ _) | (with_reducible refine Kd.C_drewN ?_ _) | (with_reducible refine Kd.C_drew ?_)))
           (case side2 => exact HC1_2.out)
           rintro e w23 ⟨rfl, hb⟩
           refine ⟨_, rfl, ?_⟩
           have n0_ := Aside0.mk (blk_below (g := gb233) (o := .cells #[.int .i64 a1_0, .int .i64 a1_1, .slice A1_2 l1_2.length c1_2, .int .i64 a1_3] 27 (0, 0)) (by (with_reducible repeat (first | refine kN ?_ _ | refine kD ?_ | refine kA ?_ _)); exact BK233.out) hb)
           have n1_ := Aside0.mk (blk_below (g := gb242) (o := .cells #[.int .i64 t235, .int .i64 t236, .int .i64 t237, .int .i64 t238, .int .i64 t239, .int .i64 t240] 31 (0, 0)) (by (with_reducible repeat (first | refine kN ?_ _ | refine kD ?_ | refine kA ?_ _)); exact BK242.out) hb)
           have n2_ := Aside0.mk (below_step (by repeat (first | (with_reducible first | exact HB.out | apply bA | apply bN | apply bD | refine bS ?_ GE233.out | refine bS ?_ GE242.out) | exact HB.out)) hb)
           clear BK233
           clear BK242
           clear HB
           have BK233 := n0_
           have BK242 := n1_
           have HB := n2_
           clear n0_ n1_ n2_
           (try clear hb)
           (try clear hb2)
           (try clear hk)
           (try clear hi)
           refine hK.out _ _ ⟨(blk_cell BK233.out 0).trans rfl, (blk_cell BK233.out 1).trans rfl, (blk_cell BK233.out 2).trans rfl, (blk_cell BK233.out 3).trans rfl, (cB HB.out hw243_0), (cB HB.out hw243_1), (cB HB.out hw243_2), (cB HB.out hw243_3), (cB HB.out hw243_4), (cB HB.out hw243_5)⟩ (fun hHeld => ?_)
           clear hK K
           refine norm_ (a' := ?_) ?_ ?_
           rotate_left
           ·
            show Act.put _ (some 37) _ = _
            simp only [Act.put, sA, sB, sC, i64_w, i32_w]
            rfl
           refine done_ (by kernel_rfl) ?_
           try go_wp2
           have n0_ := Aside0.mk (blk_drew BK233.out)
           have n1_ := Aside0.mk (blk_drew BK242.out)
           have n2_ := Aside0.mk (below_drew1 HB.out)
           clear BK233
           clear BK242
           clear HB
           have BK233 := n0_
           have BK242 := n1_
           have HB := n2_
           clear n0_ n1_ n2_
           have p245 : 0 ≤ (x8_2 : Int) := of_decide_eq_true (by first | (with_reducible assumption) | assumption)
           have q245 : x8_2 < (l0.length : Int) := of_decide_eq_true (by first | (with_reducible assumption) | assumption)
           obtain ⟨ad245, e245, hx245_0, hx245_1, hx245_2, hx245_3, hx245_4, hx245_5⟩ := at_T31 HR0.out x8_2 p245 q245
           have hw245_5 := hx245_5
           have hw245_4 := hx245_4
           have hw245_3 := hx245_3
           have hw245_2 := hx245_2
           have hw245_1 := hx245_1
           have hw245_0 := hx245_0
           obtain rfl : ad243 = ad245 := (by injection e245)
           replace hx245_0 := cB HB.out hx245_0
           replace hx245_1 := cB HB.out hx245_1
           replace hx245_2 := cB HB.out hx245_2
           replace hx245_3 := cB HB.out hx245_3
           replace hx245_4 := cB HB.out hx245_4
           replace hx245_5 := cB HB.out hx245_5
           replace p245 := eq_true p245
           replace q245 := eq_true q245
           refine start_ (n := 13) (S := fun w' => w'.cell? ⟨gb242, 0, none⟩ = some (.int .i64 t235) ∧ w'.cell? ⟨gb242, 1, none⟩ = some (.int .i64 t236) ∧ w'.cell? ⟨gb242, 2, none⟩ = some (.int .i64 t237) ∧ w'.cell? ⟨gb242, 3, none⟩ = some (.int .i64 t238) ∧ w'.cell? ⟨gb242, 4, none⟩ = some (.int .i64 t239) ∧ w'.cell? ⟨gb242, 5, none⟩ = some (.int .i64 t240) ∧ w'.cell? (ad243.add ((x8_2).toNat * 6)) = some (.int .i64 ((rd_T31 l0 x8_2).f0)) ∧ w'.cell? ⟨(ad243.add ((x8_2).toNat * 6)).block, (ad243.add ((x8_2).toNat * 6)).off + 1, none⟩ = some (.int .i64 ((rd_T31 l0 x8_2).f1.f0)) ∧ w'.cell? ⟨(ad243.add ((x8_2).toNat * 6)).block, (ad243.add ((x8_2).toNat * 6)).off + 2, none⟩ = some (.int .i64 ((rd_T31 l0 x8_2).f1.f1)) ∧ w'.cell? ⟨(ad243.add ((x8_2).toNat * 6)).block, (ad243.add ((x8_2).toNat * 6)).off + 3, none⟩ = some (.int .i64 ((rd_T31 l0 x8_2).f2)) ∧ w'.cell? ⟨(ad243.add ((x8_2).toNat * 6)).block, (ad243.add ((x8_2).toNat * 6)).off + 4, none⟩ = some (.int .i64 ((rd_T31 l0 x8_2).f3)) ∧ w'.cell? ⟨(ad243.add ((x8_2).toNat * 6)).block, (ad243.add ((x8_2).toNat * 6)).off + 5, none⟩ = some (.int .i64 ((rd_T31 l0 x8_2).f4))) (ds := []) #[false, false, false, false, false, false, false, false, false, false, false, false, false] (by kernel_rfl) rfl rfl ⟨(blk_cell BK242.out 0).trans rfl, (blk_cell BK242.out 1).trans rfl, (blk_cell BK242.out 2).trans rfl, (blk_cell BK242.out 3).trans rfl, (blk_cell BK242.out 4).trans rfl, (blk_cell BK242.out 5).trans rfl, (cB HB.out hw245_0), (cB HB.out hw245_1), (cB HB.out hw245_2), (cB HB.out hw245_3), (cB HB.out hw245_4), (cB HB.out hw245_5)⟩ (fun hHeld => ?_); refine with_tabW ridgewaylaw10_PolicyFirst.tab9 ridgewaylaw10_PolicyFirst.bits9 (fun HT_ HW_ => ?_)
           generalize w23.drew = w24 at BK233 BK242 HB hx245_0 hx245_1 hx245_2 hx245_3 hx245_4 hx245_5 hHeld ⊢
           refine pure_ (i := 0) (N := some 38) (v := ?_) (a' := ?_) #[true, false, false, false, false, false, false, false, false, false, false, false, false] rfl rfl (any_of HT_.out (by kernel_rfl)) (fun _ _ _ h => h) (Or.inl ⟨by rfl, ?_⟩) ?_ ?_
           rotate_left
           ·
            intro w'
            go_simp
            with_reducible rfl
           rotate_left
           ·
            simp only [Act.put, sA, sB, sC, i64_w, i32_w]
            rfl
           refine pure_ (i := 1) (N := some 39) (v := ?_) (a' := ?_) #[true, true, false, false, false, false, false, false, false, false, false, false, false] rfl rfl (any_of HT_.out (by kernel_rfl)) (fun _ _ _ h => h) (Or.inl ⟨by rfl, ?_⟩) ?_ ?_
           rotate_left
           ·
            intro w'
            go_simp
            with_reducible rfl
           rotate_left
           ·
            simp only [Act.put, sA, sB, sC, i64_w, i32_w]
            rfl
           refine pure_ (i := 2) (N := some 40) (v := ?_) (a' := ?_) #[true, true, true, false, false, false, false, false, false, false, false, false, false] rfl rfl (any_of HT_.out (by kernel_rfl)) (fun _ _ _ h => h) (Or.inl ⟨by rfl, ?_⟩) ?_ ?_
           rotate_left
           ·
            intro w'
            go_simp
            with_reducible rfl
           rotate_left
           ·
            simp only [Act.put, sA, sB, sC, i64_w, i32_w]
            rfl
           refine pure_ (i := 3) (N := some 41) (v := ?_) (a' := ?_) #[true, true, true, true, false, false, false, false, false, false, false, false, false] rfl rfl (any_of HT_.out (by kernel_rfl)) (fun _ _ _ h => h) (Or.inl ⟨by rfl, ?_⟩) ?_ ?_
           rotate_left
           ·
            intro w'
            go_simp
            with_reducible rfl
           rotate_left
           ·
            simp only [Act.put, sA, sB, sC, i64_w, i32_w]
            rfl
           refine pure_ (i := 4) (N := some 42) (v := ?_) (a' := ?_) #[true, true, true, true, true, false, false, false, false, false, false, false, false] rfl rfl (any_of HT_.out (by kernel_rfl)) (fun _ _ _ h => h) (Or.inl ⟨by rfl, ?_⟩) ?_ ?_
           rotate_left
           ·
            intro w'
            go_simp
            with_reducible rfl
           rotate_left
           ·
            simp only [Act.put, sA, sB, sC, i64_w, i32_w]
            rfl
           refine pure_ (i := 6) (N := some 44) (v := ?_) (a' := ?_) #[true, true, true, true, true, false, true, false, false, false, false, false, false] rfl rfl (any_of HT_.out (by kernel_rfl)) (fun _ _ _ h => h) (Or.inl ⟨by rfl, ?_⟩) ?_ ?_
           rotate_left
           ·
            intro w'
            go_simp
            with_reducible rfl
           rotate_left
           ·
            simp only [Act.put, sA, sB, sC, i64_w, i32_w]
            rfl
           refine pure_ (i := 7) (N := some 45) (v := ?_) (a' := ?_) #[true, true, true, true, true, false, true, true, false, false, false, false, false] rfl rfl (any_of HT_.out (by kernel_rfl)) (fun _ _ _ h => h) (Or.inl ⟨by rfl, ?_⟩) ?_ ?_
           rotate_left
           ·
            intro w'
            go_simp
            with_reducible rfl
           rotate_left
           ·
            simp only [Act.put, sA, sB, sC, i64_w, i32_w]
            rfl
           refine pure_ (i := 8) (N := some 46) (v := ?_) (a' := ?_) #[true, true, true, true, true, false, true, true, true, false, false, false, false] rfl rfl (any_of HT_.out (by kernel_rfl)) (fun _ _ _ h => h) (Or.inl ⟨by rfl, ?_⟩) ?_ ?_
           rotate_left
           ·
            intro w'
            go_simp
            with_reducible rfl
           rotate_left
           ·
            simp only [Act.put, sA, sB, sC, i64_w, i32_w]
            rfl
           refine take_ (i := 5) (N := some 43) (v := ?_) (a' := ?_) #[true, true, true, true, true, true, true, true, true, false, false, false, false] rfl rfl (take_ofW HT_.out HW_.out (by kernel_rfl)) (fun _ _ _ h => h) (Or.inl ⟨by rfl, ?_⟩) hHeld ?_ ?_
           rotate_left
           ·
            rintro w' ⟨s0, s1, s2, s3, s4, s5, s6, s7, s8, s9, s10, s11⟩
            go_simp
            with_reducible rfl
           rotate_left
           ·
            simp only [Act.put, sA, sB, sC, i64_w, i32_w]
            rfl
           refine take_ (i := 9) (N := some 47) (v := ?_) (a' := ?_) #[true, true, true, true, true, true, true, true, true, true, false, false, false] rfl rfl (take_ofW HT_.out HW_.out (by kernel_rfl)) (fun _ _ _ h => h) (Or.inl ⟨by rfl, ?_⟩) hHeld ?_ ?_
           rotate_left
           ·
            rintro w' ⟨s0, s1, s2, s3, s4, s5, s6, s7, s8, s9, s10, s11⟩
            go_simp
            with_reducible rfl
           rotate_left
           ·
            simp only [Act.put, sA, sB, sC, i64_w, i32_w]
            rfl
           refine pure_ (i := 10) (N := some 48) (v := ?_) (a' := ?_) #[true, true, true, true, true, true, true, true, true, true, true, false, false] rfl rfl (any_of HT_.out (by kernel_rfl)) (fun _ _ _ h => h) (Or.inl ⟨by rfl, ?_⟩) ?_ ?_
           rotate_left
           ·
            intro w'
            go_simp
            with_reducible rfl
           rotate_left
           ·
            simp only [Act.put, sA, sB, sC, i64_w, i32_w]
            rfl
           refine pure_ (i := 11) (N := some 49) (v := ?_) (a' := ?_) #[true, true, true, true, true, true, true, true, true, true, true, true, false] rfl rfl (any_of HT_.out (by kernel_rfl)) (fun _ _ _ h => h) (Or.inl ⟨by rfl, ?_⟩) ?_ ?_
           rotate_left
           ·
            intro w'
            go_simp
            with_reducible rfl
           rotate_left
           ·
            simp only [Act.put, sA, sB, sC, i64_w, i32_w]
            rfl
           refine pure_ (i := 12) (N := some 4) (v := ?_) (a' := ?_) #[true, true, true, true, true, true, true, true, true, true, true, true, true] rfl rfl (any_of HT_.out (by kernel_rfl)) (fun _ _ _ h => h) (Or.inl ⟨by rfl, ?_⟩) ?_ ?_
           rotate_left
           ·
            intro w'
            go_simp
            with_reducible rfl
           rotate_left
           ·
            simp only [Act.put, sA, sB, sC, i64_w, i32_w]
            rfl
           refine done_ (done_of HT_.out (by kernel_rfl)) ?_
           try go_wp2
           all_goals first | (go_ret; refine ⟨?_, ?_⟩; (focus (first | rfl | (simp [errW_none, errW_some] <;> rfl) | (rw [HRL_.out] <;> rfl) | (simp only [HRL_.out] <;> rfl) | (have h_ := HRL_.out; simp at h_; simp [h_]; done) | (have h_ := HRL_.out; simp [*] at h_ ⊢; done) | (simp [*, errW_none, errW_some] <;> rfl))); (focus (repeat (first | (with_reducible first | exact HB.out | apply bA | apply bN | apply bD | refine bS ?_ GE233.out | refine bS ?_ GE242.out) | exact HB.out)))) | (exfalso; simp_all; done)
          ·
           replace c21 := Bool.eq_false_iff.mpr c21
           subst c21
           have H1 : (some false) = some true := by rw [if_neg (show ¬ (false = true) by decide)] at H; first | done | exact H
           clear H
           have H := H1
           clear H1
           exact absurd H (by simp)
         ·
          replace c20 := Bool.eq_false_iff.mpr c20
          subst c20
          have H1 : (some false) = some true := by rw [if_neg (show ¬ (false = true) by decide)] at H; first | done | exact H
          clear H
          have H := H1
          clear H1
          exact absurd H (by simp)
        ·
         replace c19 := Bool.eq_false_iff.mpr c19
         subst c19
         have H1 : (ridgewaylaw10_PolicyFirst.l0 k2 l0 t234 t241 (wrap64 (x8_2 + 1)) a1_0 a1_1 l1_2 a1_3 t235 t236 t237 t238 t239 t240) = some true := by rw [if_neg (show ¬ (false = true) by decide)] at H; first | done | exact H
         clear H
         have H := H1
         clear H1
         have H' := Aside0.mk H
         clear H
         try go_wp2
         have n0_ := Aside0.mk (blk_drew BK233.out)
         have n1_ := Aside0.mk (blk_drew BK242.out)
         have n2_ := Aside0.mk (below_drew1 HB.out)
         clear BK233
         clear BK242
         clear HB
         have BK233 := n0_
         have BK242 := n1_
         have HB := n2_
         clear n0_ n1_ n2_
         have p243 : 0 ≤ (x8_2 : Int) := of_decide_eq_true (by first | (with_reducible assumption) | assumption)
         have q243 : x8_2 < (l0.length : Int) := of_decide_eq_true (by first | (with_reducible assumption) | assumption)
         obtain ⟨ad243, e243, hx243_0, hx243_1, hx243_2, hx243_3, hx243_4, hx243_5⟩ := at_T31 HR0.out x8_2 p243 q243
         have hw243_5 := hx243_5
         have hw243_4 := hx243_4
         have hw243_3 := hx243_3
         have hw243_2 := hx243_2
         have hw243_1 := hx243_1
         have hw243_0 := hx243_0
         cases e243
         replace hx243_0 := cB HB.out hx243_0
         replace hx243_1 := cB HB.out hx243_1
         replace hx243_2 := cB HB.out hx243_2
         replace hx243_3 := cB HB.out hx243_3
         replace hx243_4 := cB HB.out hx243_4
         replace hx243_5 := cB HB.out hx243_5
         replace p243 := eq_true p243
         replace q243 := eq_true q243
         refine start_ (n := 6) (S := fun w' => w'.cell? ⟨gb233, 0, none⟩ = some (.int .i64 a1_0) ∧ w'.cell? ⟨gb233, 1, none⟩ = some (.int .i64 a1_1) ∧ w'.cell? ⟨gb233, 2, none⟩ = some (.slice A1_2 l1_2.length c1_2) ∧ w'.cell? ⟨gb233, 3, none⟩ = some (.int .i64 a1_3) ∧ w'.cell? (ad243.add ((x8_2).toNat * 6)) = some (.int .i64 ((rd_T31 l0 x8_2).f0)) ∧ w'.cell? ⟨(ad243.add ((x8_2).toNat * 6)).block, (ad243.add ((x8_2).toNat * 6)).off + 1, none⟩ = some (.int .i64 ((rd_T31 l0 x8_2).f1.f0)) ∧ w'.cell? ⟨(ad243.add ((x8_2).toNat * 6)).block, (ad243.add ((x8_2).toNat * 6)).off + 2, none⟩ = some (.int .i64 ((rd_T31 l0 x8_2).f1.f1)) ∧ w'.cell? ⟨(ad243.add ((x8_2).toNat * 6)).block, (ad243.add ((x8_2).toNat * 6)).off + 3, none⟩ = some (.int .i64 ((rd_T31 l0 x8_2).f2)) ∧ w'.cell? ⟨(ad243.add ((x8_2).toNat * 6)).block, (ad243.add ((x8_2).toNat * 6)).off + 4, none⟩ = some (.int .i64 ((rd_T31 l0 x8_2).f3)) ∧ w'.cell? ⟨(ad243.add ((x8_2).toNat * 6)).block, (ad243.add ((x8_2).toNat * 6)).off + 5, none⟩ = some (.int .i64 ((rd_T31 l0 x8_2).f4))) (ds := []) #[false, false, false, false, false, false] (by kernel_rfl) rfl rfl ⟨(blk_cell BK233.out 0).trans rfl, (blk_cell BK233.out 1).trans rfl, (blk_cell BK233.out 2).trans rfl, (blk_cell BK233.out 3).trans rfl, (cB HB.out hw243_0), (cB HB.out hw243_1), (cB HB.out hw243_2), (cB HB.out hw243_3), (cB HB.out hw243_4), (cB HB.out hw243_5)⟩ (fun hHeld => ?_)
         generalize wr.drew = w25 at BK233 BK242 HB hx243_0 hx243_1 hx243_2 hx243_3 hx243_4 hx243_5 hHeld ⊢
         refine pure_ (i := 0) (N := some 32) (v := ?_) (a' := ?_) #[true, false, false, false, false, false] rfl rfl (by kernel_rfl) (fun _ _ _ h => h) (Or.inl ⟨by rfl, ?_⟩) ?_ ?_
         rotate_left
         ·
          intro w'
          go_simp
          with_reducible rfl
         rotate_left
         ·
          simp only [Act.put, sA, sB, sC, i64_w, i32_w]
          rfl
         refine pure_ (i := 1) (N := some 33) (v := ?_) (a' := ?_) #[true, true, false, false, false, false] rfl rfl (by kernel_rfl) (fun _ _ _ h => h) (Or.inl ⟨by rfl, ?_⟩) ?_ ?_
         rotate_left
         ·
          intro w'
          go_simp
          with_reducible rfl
         rotate_left
         ·
          simp only [Act.put, sA, sB, sC, i64_w, i32_w]
          rfl
         refine pure_ (i := 2) (N := some 34) (v := ?_) (a' := ?_) #[true, true, true, false, false, false] rfl rfl (by kernel_rfl) (fun _ _ _ h => h) (Or.inl ⟨by rfl, ?_⟩) ?_ ?_
         rotate_left
         ·
          intro w'
          go_simp
          with_reducible rfl
         rotate_left
         ·
          simp only [Act.put, sA, sB, sC, i64_w, i32_w]
          rfl
         refine take_ (i := 3) (N := some 35) (v := ?_) (a' := ?_) #[true, true, true, true, false, false] rfl rfl (by kernel_rfl) (fun _ _ _ h => h) (Or.inl ⟨by rfl, ?_⟩) hHeld ?_ ?_
         rotate_left
         ·
          rintro w' ⟨s0, s1, s2, s3, s4, s5, s6, s7, s8, s9⟩
          go_simp
          with_reducible rfl
         rotate_left
         ·
          simp only [Act.put, sA, sB, sC, i64_w, i32_w]
          rfl
         refine take_ (i := 4) (N := some 36) (v := ?_) (a' := ?_) #[true, true, true, true, true, false] rfl rfl (by kernel_rfl) (fun _ _ _ h => h) (Or.inl ⟨by rfl, ?_⟩) hHeld ?_ ?_
         rotate_left
         ·
          rintro w' ⟨s0, s1, s2, s3, s4, s5, s6, s7, s8, s9⟩
          go_simp
          with_reducible rfl
         rotate_left
         ·
          simp only [Act.put, sA, sB, sC, i64_w, i32_w]
          rfl
         refine one_ (i := 5) (N := some 37) #[true, true, true, true, true, true] rfl rfl (by kernel_rfl) (by decide) (fun K hK => ?_)
         refine goes_ Try.func11 (by kernel_rfl) rfl #[.agg #[.int .i64 ((rd_T31 l0 x8_2).f0), .int .i64 ((rd_T31 l0 x8_2).f1.f0), .int .i64 ((rd_T31 l0 x8_2).f1.f1), .int .i64 ((rd_T31 l0 x8_2).f2), .int .i64 ((rd_T31 l0 x8_2).f3), .int .i64 ((rd_T31 l0 x8_2).f4)], .agg #[.int .i64 a1_0, .int .i64 a1_1, .slice A1_2 l1_2.length c1_2, .int .i64 a1_3]] (by rfl) rfl rfl (by (try simp only [List.map_toArray, List.map_cons, List.map_nil]); first | done | rfl | (simp only [List.length_drop, List.length_take]; rfl)) ?_
         with_reducible refine (policy_Fits.calls k2 ((rd_T31 l0 x8_2).f0) ((rd_T31 l0 x8_2).f1.f0) ((rd_T31 l0 x8_2).f1.f1) ((rd_T31 l0 x8_2).f2) ((rd_T31 l0 x8_2).f3) ((rd_T31 l0 x8_2).f4) a1_0 a1_1 _ _ l1_2 a1_3 false _ ?side1 ?side2 A18.out).mono ?_
         (case side1 => repeat (first | exact (Kd.C_below HR1_2.out HB.out) | (with_reducible refine Kd.C_alloc ?_ _) | (with_reducible refine Kd.C_drewN ?_ _) | (with_reducible refine Kd.C_drew ?_)))
         (case side2 => exact HC1_2.out)
         rintro e w26 ⟨rfl, hb⟩
         refine ⟨_, rfl, ?_⟩
         have n0_ := Aside0.mk (blk_below (g := gb233) (o := .cells #[.int .i64 a1_0, .int .i64 a1_1, .slice A1_2 l1_2.length c1_2, .int .i64 a1_3] 27 (0, 0)) (by (with_reducible repeat (first | refine kN ?_ _ | refine kD ?_ | refine kA ?_ _)); exact BK233.out) hb)
         have n1_ := Aside0.mk (blk_below (g := gb242) (o := .cells #[.int .i64 t235, .int .i64 t236, .int .i64 t237, .int .i64 t238, .int .i64 t239, .int .i64 t240] 31 (0, 0)) (by (with_reducible repeat (first | refine kN ?_ _ | refine kD ?_ | refine kA ?_ _)); exact BK242.out) hb)
         have n2_ := Aside0.mk (below_step (by repeat (first | (with_reducible first | exact HB.out | apply bA | apply bN | apply bD | refine bS ?_ GE233.out | refine bS ?_ GE242.out) | exact HB.out)) hb)
         clear BK233
         clear BK242
         clear HB
         have BK233 := n0_
         have BK242 := n1_
         have HB := n2_
         clear n0_ n1_ n2_
         (try clear hb)
         (try clear hb2)
         (try clear hk)
         (try clear hi)
         refine hK.out _ _ ⟨(blk_cell BK233.out 0).trans rfl, (blk_cell BK233.out 1).trans rfl, (blk_cell BK233.out 2).trans rfl, (blk_cell BK233.out 3).trans rfl, (cB HB.out hw243_0), (cB HB.out hw243_1), (cB HB.out hw243_2), (cB HB.out hw243_3), (cB HB.out hw243_4), (cB HB.out hw243_5)⟩ (fun hHeld => ?_)
         clear hK K
         refine norm_ (a' := ?_) ?_ ?_
         rotate_left
         ·
          show Act.put _ (some 37) _ = _
          simp only [Act.put, sA, sB, sC, i64_w, i32_w]
          rfl
         refine done_ (by kernel_rfl) ?_
         try go_wp2
         go_roundg k2
         case measure => have := HJ3.out; have := HK2.out; omega
         case rel => exact ⟨(wrap64 (x8_2 + 1)), (by first | rfl | (simp; done) | (simp [*]; done)), H', ⟨by have := HJ3.out; have := HK2.out; omega⟩, ⟨by (with_reducible repeat (first | refine kN ?_ _ | refine kD ?_ | refine kA ?_ _)); exact BK233.out⟩, ⟨by (with_reducible repeat (first | refine kN ?_ _ | refine kD ?_ | refine kA ?_ _)); exact BK242.out⟩, ⟨by repeat (first | (with_reducible first | exact HB.out | apply bA | apply bN | apply bD | refine bS ?_ GE233.out | refine bS ?_ GE242.out) | exact HB.out)⟩⟩
       ·
        rw [if_neg c17] at H
        exact absurd H (by simp)
      ·
       rw [if_neg c16] at H
       have c16b0 : decide (x8_2 < (l0.length : Int)) = false := decide_eq_false c16
       clear c16
       by_cases c27 : t234 = true
       ·
        subst c27
        have H1 : (if t241 = true then (some false) else (some (t235 == 0 && ((t236 == 0 && (t237 == 0)) && (t238 == 0 && (t239 == 0 && (t240 == 0))))))) = some true := by rw [if_pos rfl] at H; first | done | exact H
        clear H
        have H := H1
        clear H1
        by_cases c28 : t241 = true
        ·
         subst c28
         have H1 : (some false) = some true := by rw [if_pos rfl] at H; first | done | exact H
         clear H
         have H := H1
         clear H1
         exact absurd H (by simp)
        ·
         replace c28 := Bool.eq_false_iff.mpr c28
         subst c28
         have H1 : (some (t235 == 0 && ((t236 == 0 && (t237 == 0)) && (t238 == 0 && (t239 == 0 && (t240 == 0)))))) = some true := by rw [if_neg (show ¬ (false = true) by decide)] at H; first | done | exact H
         clear H
         have H := H1
         clear H1
         have HRL_ := Aside0.mk (Option.some.inj H)
         clear H
         have hnb29 := NB242_233.out
         have hnc29 := NB233_242.out
         have hcz30_0 : wr.cell? ⟨gb242, 0, none⟩ = some (.int .i64 t235) := (blk_cell BK242.out 0).trans rfl
         have hcz30_1 : wr.cell? ⟨gb242, 1, none⟩ = some (.int .i64 t236) := (blk_cell BK242.out 1).trans rfl
         have hcz30_2 : wr.cell? ⟨gb242, 2, none⟩ = some (.int .i64 t237) := (blk_cell BK242.out 2).trans rfl
         have hcz30_3 : wr.cell? ⟨gb242, 3, none⟩ = some (.int .i64 t238) := (blk_cell BK242.out 3).trans rfl
         have hcz30_4 : wr.cell? ⟨gb242, 4, none⟩ = some (.int .i64 t239) := (blk_cell BK242.out 4).trans rfl
         have hcz30_5 : wr.cell? ⟨gb242, 5, none⟩ = some (.int .i64 t240) := (blk_cell BK242.out 5).trans rfl
         have hfz30_0 := blk_frozen BK242.out 0
         have hfz30_1 := blk_frozen BK242.out 1
         have hfz30_2 := blk_frozen BK242.out 2
         have hfz30_3 := blk_frozen BK242.out 3
         have hfz30_4 := blk_frozen BK242.out 4
         have hfz30_5 := blk_frozen BK242.out 5
         go_wp2
         all_goals first | (go_ret; refine ⟨?_, ?_⟩; (focus (first | rfl | (simp [errW_none, errW_some] <;> rfl) | (rw [HRL_.out] <;> rfl) | (simp only [HRL_.out] <;> rfl) | (have h_ := HRL_.out; simp at h_; simp [h_]; done) | (have h_ := HRL_.out; simp [*] at h_ ⊢; done) | (simp [*, errW_none, errW_some] <;> rfl))); (focus (repeat (first | (with_reducible first | exact HB.out | apply bA | apply bN | apply bD | refine bS ?_ GE233.out | refine bS ?_ GE242.out) | exact HB.out)))) | (exfalso; simp_all; done)
       ·
        replace c27 := Bool.eq_false_iff.mpr c27
        subst c27
        have H1 : (some false) = some true := by rw [if_neg (show ¬ (false = true) by decide)] at H; first | done | exact H
        clear H
        have H := H1
        clear H1
        exact absurd H (by simp)

/-- THE ONE PURE STATEMENT of ridgewaylaw10_PolicyFirst. -/
def ridgewaylaw10_PolicyFirst.Pure : Prop := ∀ (l0 : List (S31)) (x1 : S27), (l0.length ≤ maxLen ∧ ∀ y ∈ l0, wf31 y) → (wf27 x1) → ∃ k, ridgewaylaw10_PolicyFirst.f k l0 (x1.f0.f0) (x1.f0.f1) (x1.f1) (x1.f2) = some true

end Go.Proofs.Ytclddmjfgceemaa.Q
