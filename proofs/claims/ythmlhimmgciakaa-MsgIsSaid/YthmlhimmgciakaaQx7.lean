/- Each call of a Go function comes to what the Lean function of its name answers (written out by wip/tools/xprint.py, checked by Lean); conditions: those in each statement. -/
import Derived.Test.YthmlhimmgciakaaQx0
import Derived.Test.YthmlhimmgciakaaQx1
import Derived.Test.YthmlhimmgciakaaQx2
import Derived.Test.YthmlhimmgciakaaQx3
import Derived.Test.YthmlhimmgciakaaQx4
import Derived.Test.YthmlhimmgciakaaQx5
import Derived.Test.YthmlhimmgciakaaQx6
namespace Go.Proofs.Ythmlhimmgciakaa.Q
open Go.RowKit Go.Proofs.YthmlhimmgciakaaW.PrintWords Go.Proofs.YthmlhimmgciakaaW.PrintLast Go.Proofs.YthmlhimmgciakaaW.PrintMore Go.Proofs.YthmlhimmgciakaaW.PrintX
attribute [local go_sem] max2_int min2_int max_two min_two max_three min_three max_four min_four   -- for this text's walks alone
set_option linter.unusedVariables false
set_option linter.unusedSimpArgs false

/-! ### ridgewaylaw03_MsgIs: function 3 -/
def ridgewaylaw03_MsgIs.j0 : Nat → List Int → Int → Bool → Bool → Int → List Int → Option (Bool)
 | 0, _, _, _, _, _, _ => none
 | k + 1, x0, x2, x7, x23, x243000, x243001 => if x23 = true then (some x7) else ((msg_Get.f k x0).bind fun bt244 => ((ridgewayref03_Get.f k x0).bind fun bt256 => (if x7 = true then ((ridgewayref03_Same.f bt244.1 bt244.2.1 bt256.1 bt256.2.1).bind fun t268 => (if t268 = true then (if bt244.2.2.1 = bt256.2.2.1 then ((ridgewayref03_SameNote.f bt244.2.2.2.1 bt244.2.2.2.2.1 bt244.2.2.2.2.2 bt256.2.2.2.1 bt256.2.2.2.2.1 bt256.2.2.2.2.2).bind fun t269 => (if t269 = true then ((msg_Least.f x2).bind fun t270 => ((ridgewayref03_Least.f x2).bind fun t271 => (if t270 = t271 then ((msg_Sane.f x243000 x243001).bind fun t272 => ((ridgewayref03_Sane.f x243000 x243001).bind fun t273 => (if (t272 == t273) = true then ((msg_Put.f k x0 x243000 x243001).bind fun t274 => ((ridgewayref03_Put.f k x0 x243000 x243001).bind fun t277 => (some ((strOfNums t274).toList == (strOfNums t277).toList)))) else (some false)))) else (some false)))) else (some false))) else (some false)) else (some false))) else (some false))))
def ridgewaylaw03_MsgIs.f (k : Nat) (l0 : List Int) (a1_0 : Int) (l1_1 : List Int) (a2 : Int) : Option (Bool) := (ridgewaylaw03_awake.f).bind fun t243 => (if (l0.length : Int) > 5000 then (ridgewaylaw03_MsgIs.j0 k l0 a2 t243 true a1_0 l1_1) else (ridgewaylaw03_MsgIs.j0 k l0 a2 t243 (decide ((l1_1.length : Int) > 5000)) a1_0 l1_1))
theorem ridgewaylaw03_MsgIs.mono_l : ∀ k, (∀ y0 y1 y2 y3 y4 y5, LeO (ridgewaylaw03_MsgIs.j0 k y0 y1 y2 y3 y4 y5) (ridgewaylaw03_MsgIs.j0 (k + 1) y0 y1 y2 y3 y4 y5))
 | 0 => fun _ _ _ _ _ _ r h => by simp [ridgewaylaw03_MsgIs.j0] at h
 | k + 1 => by
  have ih0 := ridgewaylaw03_MsgIs.mono_l k
  ·
   intro y0 y1 y2 y3 y4 y5
   unfold ridgewaylaw03_MsgIs.j0
   repeat' first
   | (with_reducible exact ih0 _ _ _ _ _ _)
   | (with_reducible exact msg_Get.mono _ _)
   | (with_reducible exact msg_Put.mono _ _ _ _)
   | (with_reducible exact ridgewayref03_Get.mono _ _)
   | (with_reducible exact ridgewayref03_Put.mono _ _ _ _)
   | (with_reducible exact LeO.refl _)
   | (with_reducible exact LeO.none _)
   | (with_reducible refine LeO.ite ?_ ?_)
   | (with_reducible refine LeO.bind ?_ (fun _ => ?_))
   | exact ih0 _ _ _ _ _ _
   | exact msg_Get.mono _ _
   | exact msg_Put.mono _ _ _ _
   | exact ridgewayref03_Get.mono _ _
   | exact ridgewayref03_Put.mono _ _ _ _
   | exact LeO.none _
   | refine LeO.ite ?_ ?_
   | refine LeO.bind ?_ (fun _ => ?_)
theorem ridgewaylaw03_MsgIs.mono : ∀ a0 a1 a2 a3 k, LeO (ridgewaylaw03_MsgIs.f k a0 a1 a2 a3) (ridgewaylaw03_MsgIs.f (k + 1) a0 a1 a2 a3) := by
 intro a0 a1 a2 a3 k
 have ih0 := ridgewaylaw03_MsgIs.mono_l k
 unfold ridgewaylaw03_MsgIs.f
 repeat' first
   | (with_reducible exact ih0 _ _ _ _ _ _)
   | (with_reducible exact msg_Get.mono _ _)
   | (with_reducible exact msg_Put.mono _ _ _ _)
   | (with_reducible exact ridgewayref03_Get.mono _ _)
   | (with_reducible exact ridgewayref03_Put.mono _ _ _ _)
   | (with_reducible exact LeO.refl _)
   | (with_reducible exact LeO.none _)
   | (with_reducible refine LeO.ite ?_ ?_)
   | (with_reducible refine LeO.bind ?_ (fun _ => ?_))
   | exact ih0 _ _ _ _ _ _
   | exact msg_Get.mono _ _
   | exact msg_Put.mono _ _ _ _
   | exact ridgewayref03_Get.mono _ _
   | exact ridgewayref03_Put.mono _ _ _ _
   | exact LeO.none _
   | refine LeO.ite ?_ ?_
   | refine LeO.bind ?_ (fun _ => ?_)
def ridgewaylaw03_MsgIs.T6 : Bool × List (List Nat × List Nat) := (true, [([], []), ([0], [0]), ([1], [1]), ([1], [1]), ([2, 3, 1, 1], [1, 2, 3]), ([1, 4], [1, 4]), ([5, 4], [5]), ([6], [6]), ([6], [6]), ([7, 8, 6], [6, 7, 8]), ([6, 9], [6, 9]), ([10, 6], [10]), ([11], [11]), ([11], [11]), ([12, 13, 11, 11], [11, 12, 13]), ([11, 14], [11, 14]), ([15, 14], [15]), ([16], [16]), ([17, 16, 16], [16, 17]), ([16], [16]), ([19, 18, 16], [16, 19]), ([18, 20, 16], [16, 18, 20]), ([16, 21], [16, 21]), ([22, 20], [22]), ([23], [23]), ([24, 23, 23], [23, 24]), ([23], [23]), ([26, 25, 23], [23, 26]), ([25, 27, 23], [23, 25, 27]), ([23, 28], [23, 28]), ([29, 27], [29]), ([30], [30]), ([30], [30]), ([31, 32, 30, 30], [30, 31, 32]), ([33, 30], [30, 33]), ([30], [30]), ([30], [30]), ([35, 36, 33, 30], [30, 35, 36]), ([37, 30], [30, 37]), ([34, 38, 30], [30, 34, 38]), ([30, 39], [30, 39]), ([40, 37, 0, 1, 2, 3, 4, 5, 6, 7, 8, 9, 10, 11, 12, 13, 14, 15, 16, 17, 18, 19, 20, 21, 22, 23, 24, 25, 26, 27, 28, 29, 30, 31, 32, 33, 34, 35, 36, 37, 38, 39, 40], [40])])
def ridgewaylaw03_MsgIs.B6 : List Nat := [0, 1, 3, 3, 15, 31, 63, 127, 127, 511, 1023, 2047, 4095, 4095, 16383, 32767, 65535, 131071, 262143, 131071, 1048575, 2097151, 4194303, 8388607, 16777215, 33554431, 16777215, 134217727, 268435455, 536870911, 1073741823, 2147483647, 2147483647, 8589934591, 17179869183, 2147483647, 2147483647, 120259084287, 257698037759, 549755813887, 1099511627775, 2199023255551]
theorem ridgewaylaw03_MsgIs.tab6 : rtab .any (opsOf Try.f3 6) = ridgewaylaw03_MsgIs.T6 := by kernel_rfl
theorem ridgewaylaw03_MsgIs.bits6 : waitsOk ridgewaylaw03_MsgIs.T6.2 ridgewaylaw03_MsgIs.B6 = true := by kernel_rfl
set_option maxHeartbeats 8000000 in
set_option maxRecDepth 100000 in
theorem ridgewaylaw03_MsgIs.calls (k : Nat) (A0 : Option Addr) (c0 : Nat) (l0 : List Int) (a1_0 : Int) (A1_1 : Option Addr) (c1_1 : Nat) (l1_1 : List Int) (a2 : Int) (w : World) (hr0 : Kd.C (Kd.int .u8) w A0 l0.length l0) (hc0 : l0.length ≤ c0) (hr1_1 : Kd.C (Kd.int .u8) w A1_1 l1_1.length l1_1) (hc1_1 : l1_1.length ≤ c1_1) (h : ridgewaylaw03_MsgIs.f k l0 a1_0 l1_1 a2 = some true) :
  Calls Try.prog 3 #[.slice A0 l0.length c0, .agg #[.int .i64 a1_0, .slice A1_1 l1_1.length c1_1], .int .i64 a2] w fun e w' => e = .returned (.bool true) ∧ Below w.heap.size w w' := by
 have hu24 := Try.underlying24
 have hu27 := Try.underlying27
 have HR0 := Aside0.mk hr0
 have HC0 := Aside0.mk hc0
 clear hr0 hc0
 have HR1_1 := Aside0.mk hr1_1
 have HC1_1 := Aside0.mk hc1_1
 clear hr1_1 hc1_1
 have HB := Aside0.mk (Below.refl w.heap.size w)
 have H : ((ridgewaylaw03_awake.f).bind fun t243 => (if (l0.length : Int) > 5000 then (ridgewaylaw03_MsgIs.j0 k l0 a2 t243 true a1_0 l1_1) else (ridgewaylaw03_MsgIs.j0 k l0 a2 t243 (decide ((l1_1.length : Int) > 5000)) a1_0 l1_1))) = some true := h
 clear h
 replace H := Option.bind_eq_some_iff.mp H
 obtain ⟨t243, A40, H⟩ := H
 replace H : (if (l0.length : Int) > 5000 then (ridgewaylaw03_MsgIs.j0 k l0 a2 t243 true a1_0 l1_1) else (ridgewaylaw03_MsgIs.j0 k l0 a2 t243 (decide ((l1_1.length : Int) > 5000)) a1_0 l1_1)) = some true := H
 have A4 := Aside0.mk A40
 clear A40
 have HC5 := Aside0.mk H
 clear H
 go_enter Try.func3, Try.ntmps3
 go_upto_region 2 with (first | ((with_reducible refine gate_dst (N := 4) rfl ?_); (try (refine gate_guard (by rfl) ?_; dsimp only)); refine box_event ?hg (N := 4) ?hd (cs := #[.int .i64 a1_0, .slice A1_1 l1_1.length c1_1]) (t := 24) ?hr ?_; (case hd => rfl); (case hg => rfl); (case hr => first | (go_simp; done) | (go_simp; rfl)); intro gb242 hg w6 hbox hb; have n0_ := Aside0.mk (below_step (by repeat (first | (with_reducible first | exact HB.out | apply bA | apply bN | apply bD) | exact HB.out)) hb); have n1_ := Aside0.mk (hbox); have n2_ := Aside0.mk ((by rw [hg]; exact (below_size (by repeat (first | (with_reducible first | exact HB.out | apply bA | apply bN | apply bD) | exact HB.out))) : w.heap.size ≤ gb242)); have n3_ := Aside0.mk ((by rw [hg]; exact (below_size (by repeat (first | (with_reducible first | exact HB.out | apply bA | apply bN | apply bD) | exact HB.out))) : w.heap.size ≤ gb242)); clear HB; have HB := n0_; have BK242 := n1_; have GW242 := n2_; have GE242 := n3_; clear n0_ n1_ n2_ n3_; clear hb hbox hg) | ((with_reducible refine gate_callee (f := 8) rfl ?_); refine goesL_ (some 14) rfl rfl Try.func8 (by kernel_rfl) rfl #[] rfl (by (try simp only [List.map_toArray, List.map_cons, List.map_nil]); first | done | rfl | (simp only [List.length_drop, List.length_take]; rfl)) ?_; (with_reducible refine (ridgewaylaw03_awake.calls  t243 _ A4.out).mono ?_); rintro e w7 ⟨rfl, hb⟩; refine ⟨_, rfl, ?_⟩; have n0_ := Aside0.mk (blk_below (g := gb242) (o := .cells #[.int .i64 a1_0, .slice A1_1 l1_1.length c1_1] 24 (0, 0)) (by (with_reducible repeat (first | refine kN ?_ _ | refine kD ?_ | refine kA ?_ _)); exact BK242.out) hb); have n1_ := Aside0.mk (below_step (by repeat (first | (with_reducible first | exact HB.out | apply bA | apply bN | apply bD | refine bS ?_ GE242.out) | exact HB.out)) hb); clear BK242; clear HB; have BK242 := n0_; have HB := n1_; clear n0_ n1_; (try clear hb); (try clear hb2); (try clear hk); (try clear hi)))
 (try simp only [Act.put, sA, sB, sC])
 go_cut [23] (fun v23 wc => ∃ (kq : Nat) (x23_4 : Bool), v23 = .bool x23_4 ∧ Aside0 (ridgewaylaw03_MsgIs.j0 kq l0 a2 t243 x23_4 a1_0 l1_1 = some true) ∧ Aside0 (kq ≤ k) ∧ Aside0 (wc.heap[gb242]? = some (.cells #[.int .i64 a1_0, (.slice A1_1 l1_1.length c1_1)] 24 (0, 0))) ∧ Aside0 (Below w.heap.size w wc))
 case first =>
  have H := HC5.out
  clear HC5
  by_cases c8 : (l0.length : Int) > 5000
  ·
   rw [if_pos c8] at H
   have c8b0 : decide (5000 < (l0.length : Int)) = true := decide_eq_true c8
   have c8b1 : decide (5000 < l0.length) = true := decide_eq_true (by omega)
   clear c8
   (first | rw [c8b0] | (simp only [i64_w, i32_w]; rw [c8b0]) | skip)
   have H' := Aside0.mk H
   clear H
   go_wp2
   go_meet
   case rel => exact ⟨_, (true), (by first | rfl | (simp; done) | (simp [*]; done)), H', ⟨by first | omega | exact Nat.le_refl _⟩, ⟨by (with_reducible repeat (first | refine kN ?_ _ | refine kD ?_ | refine kA ?_ _)); exact BK242.out⟩, ⟨by repeat (first | (with_reducible first | exact HB.out | apply bA | apply bN | apply bD | refine bS ?_ GE242.out) | exact HB.out)⟩⟩
  ·
   rw [if_neg c8] at H
   have c8b0 : decide (5000 < (l0.length : Int)) = false := decide_eq_false c8
   have c8b1 : decide (5000 < l0.length) = false := decide_eq_false (by omega)
   clear c8
   (first | rw [c8b0] | (simp only [i64_w, i32_w]; rw [c8b0]) | skip)
   have H' := Aside0.mk H
   clear H
   have hcz9_0 : w7.cell? ⟨gb242, 0, none⟩ = some (.int .i64 a1_0) := (blk_cell BK242.out 0).trans rfl
   have hcz9_1 : w7.cell? ⟨gb242, 1, none⟩ = some (.slice A1_1 l1_1.length c1_1) := (blk_cell BK242.out 1).trans rfl
   have hfz9_0 := blk_frozen BK242.out 0
   have hfz9_1 := blk_frozen BK242.out 1
   go_wp2
   go_meet
   case rel => exact ⟨_, (decide ((l1_1.length : Int) > 5000)), (by first | rfl | (simp; done) | (simp [*]; done)), H', ⟨by first | omega | exact Nat.le_refl _⟩, ⟨by (with_reducible repeat (first | refine kN ?_ _ | refine kD ?_ | refine kA ?_ _)); exact BK242.out⟩, ⟨by repeat (first | (with_reducible first | exact HB.out | apply bA | apply bN | apply bD | refine bS ?_ GE242.out) | exact HB.out)⟩⟩
 case rest =>
  clear HC5
  try clear c1
  try clear p2
  try clear c3
  try clear c8
  try clear c8b0
  try clear c8b1
  try clear hcz9_0
  try clear hcz9_1
  try clear hfz9_0
  try clear hfz9_1
  obtain ⟨kq, x23_4, rfl, HA, HJ4, BK242, HB⟩ := hcut
  cases kq with
  | zero => exact absurd HA.out (by simp [ridgewaylaw03_MsgIs.j0])
  | succ kj4 =>
   have H := HA.out
   clear HA
   simp only [ridgewaylaw03_MsgIs.j0] at H
   by_cases c10 : x23_4 = true
   ·
    subst c10
    have H1 : (some t243) = some true := by rw [if_pos rfl] at H; first | done | exact H
    clear H
    have H := H1
    clear H1
    have HRL_ := Aside0.mk (Option.some.inj H)
    clear H
    go_wp2
    all_goals first | (go_ret; refine ⟨?_, ?_⟩; (focus (first | rfl | (simp [errW_none, errW_some] <;> rfl) | (rw [HRL_.out] <;> rfl) | (simp only [HRL_.out] <;> rfl) | (have h_ := HRL_.out; simp at h_; simp [h_]; done) | (have h_ := HRL_.out; simp [*] at h_ ⊢; done) | (simp [*, errW_none, errW_some] <;> rfl))); (focus (repeat (first | (with_reducible first | exact HB.out | apply bA | apply bN | apply bD | refine bS ?_ GE242.out) | exact HB.out)))) | (exfalso; simp_all; done)
   ·
    replace c10 := Bool.eq_false_iff.mpr c10
    subst c10
    have H1 : ((msg_Get.f kj4 l0).bind fun bt244 => ((ridgewayref03_Get.f kj4 l0).bind fun bt256 => (if t243 = true then ((ridgewayref03_Same.f bt244.1 bt244.2.1 bt256.1 bt256.2.1).bind fun t268 => (if t268 = true then (if bt244.2.2.1 = bt256.2.2.1 then ((ridgewayref03_SameNote.f bt244.2.2.2.1 bt244.2.2.2.2.1 bt244.2.2.2.2.2 bt256.2.2.2.1 bt256.2.2.2.2.1 bt256.2.2.2.2.2).bind fun t269 => (if t269 = true then ((msg_Least.f a2).bind fun t270 => ((ridgewayref03_Least.f a2).bind fun t271 => (if t270 = t271 then ((msg_Sane.f a1_0 l1_1).bind fun t272 => ((ridgewayref03_Sane.f a1_0 l1_1).bind fun t273 => (if (t272 == t273) = true then ((msg_Put.f kj4 l0 a1_0 l1_1).bind fun t274 => ((ridgewayref03_Put.f kj4 l0 a1_0 l1_1).bind fun t277 => (some ((strOfNums t274).toList == (strOfNums t277).toList)))) else (some false)))) else (some false)))) else (some false))) else (some false)) else (some false))) else (some false)))) = some true := by rw [if_neg (show ¬ (false = true) by decide)] at H; first | done | exact H
    clear H
    have H := H1
    clear H1
    replace H := Option.bind_eq_some_iff.mp H
    obtain ⟨⟨t244, t245, t248, t249, t250, t251⟩, A110, H⟩ := H
    replace H : ((ridgewayref03_Get.f kj4 l0).bind fun bt256 => (if t243 = true then ((ridgewayref03_Same.f t244 t245 bt256.1 bt256.2.1).bind fun t268 => (if t268 = true then (if t248 = bt256.2.2.1 then ((ridgewayref03_SameNote.f t249 t250 t251 bt256.2.2.2.1 bt256.2.2.2.2.1 bt256.2.2.2.2.2).bind fun t269 => (if t269 = true then ((msg_Least.f a2).bind fun t270 => ((ridgewayref03_Least.f a2).bind fun t271 => (if t270 = t271 then ((msg_Sane.f a1_0 l1_1).bind fun t272 => ((ridgewayref03_Sane.f a1_0 l1_1).bind fun t273 => (if (t272 == t273) = true then ((msg_Put.f kj4 l0 a1_0 l1_1).bind fun t274 => ((ridgewayref03_Put.f kj4 l0 a1_0 l1_1).bind fun t277 => (some ((strOfNums t274).toList == (strOfNums t277).toList)))) else (some false)))) else (some false)))) else (some false))) else (some false)) else (some false))) else (some false))) = some true := H
    have A11 := Aside0.mk A110
    clear A110
    replace H := Option.bind_eq_some_iff.mp H
    obtain ⟨⟨t256, t257, t260, t261, t262, t263⟩, A120, H⟩ := H
    replace H : (if t243 = true then ((ridgewayref03_Same.f t244 t245 t256 t257).bind fun t268 => (if t268 = true then (if t248 = t260 then ((ridgewayref03_SameNote.f t249 t250 t251 t261 t262 t263).bind fun t269 => (if t269 = true then ((msg_Least.f a2).bind fun t270 => ((ridgewayref03_Least.f a2).bind fun t271 => (if t270 = t271 then ((msg_Sane.f a1_0 l1_1).bind fun t272 => ((ridgewayref03_Sane.f a1_0 l1_1).bind fun t273 => (if (t272 == t273) = true then ((msg_Put.f kj4 l0 a1_0 l1_1).bind fun t274 => ((ridgewayref03_Put.f kj4 l0 a1_0 l1_1).bind fun t277 => (some ((strOfNums t274).toList == (strOfNums t277).toList)))) else (some false)))) else (some false)))) else (some false))) else (some false)) else (some false))) else (some false)) = some true := H
    have A12 := Aside0.mk A120
    clear A120
    by_cases c13 : t243 = true
    ·
     subst c13
     have H1 : ((ridgewayref03_Same.f t244 t245 t256 t257).bind fun t268 => (if t268 = true then (if t248 = t260 then ((ridgewayref03_SameNote.f t249 t250 t251 t261 t262 t263).bind fun t269 => (if t269 = true then ((msg_Least.f a2).bind fun t270 => ((ridgewayref03_Least.f a2).bind fun t271 => (if t270 = t271 then ((msg_Sane.f a1_0 l1_1).bind fun t272 => ((ridgewayref03_Sane.f a1_0 l1_1).bind fun t273 => (if (t272 == t273) = true then ((msg_Put.f kj4 l0 a1_0 l1_1).bind fun t274 => ((ridgewayref03_Put.f kj4 l0 a1_0 l1_1).bind fun t277 => (some ((strOfNums t274).toList == (strOfNums t277).toList)))) else (some false)))) else (some false)))) else (some false))) else (some false)) else (some false))) = some true := by rw [if_pos rfl] at H; first | done | exact H
     clear H
     have H := H1
     clear H1
     replace H := Option.bind_eq_some_iff.mp H
     obtain ⟨t268, A140, H⟩ := H
     replace H : (if t268 = true then (if t248 = t260 then ((ridgewayref03_SameNote.f t249 t250 t251 t261 t262 t263).bind fun t269 => (if t269 = true then ((msg_Least.f a2).bind fun t270 => ((ridgewayref03_Least.f a2).bind fun t271 => (if t270 = t271 then ((msg_Sane.f a1_0 l1_1).bind fun t272 => ((ridgewayref03_Sane.f a1_0 l1_1).bind fun t273 => (if (t272 == t273) = true then ((msg_Put.f kj4 l0 a1_0 l1_1).bind fun t274 => ((ridgewayref03_Put.f kj4 l0 a1_0 l1_1).bind fun t277 => (some ((strOfNums t274).toList == (strOfNums t277).toList)))) else (some false)))) else (some false)))) else (some false))) else (some false)) else (some false)) = some true := H
     have A14 := Aside0.mk A140
     clear A140
     by_cases c15 : t268 = true
     ·
      subst c15
      have H1 : (if t248 = t260 then ((ridgewayref03_SameNote.f t249 t250 t251 t261 t262 t263).bind fun t269 => (if t269 = true then ((msg_Least.f a2).bind fun t270 => ((ridgewayref03_Least.f a2).bind fun t271 => (if t270 = t271 then ((msg_Sane.f a1_0 l1_1).bind fun t272 => ((ridgewayref03_Sane.f a1_0 l1_1).bind fun t273 => (if (t272 == t273) = true then ((msg_Put.f kj4 l0 a1_0 l1_1).bind fun t274 => ((ridgewayref03_Put.f kj4 l0 a1_0 l1_1).bind fun t277 => (some ((strOfNums t274).toList == (strOfNums t277).toList)))) else (some false)))) else (some false)))) else (some false))) else (some false)) = some true := by rw [if_pos rfl] at H; first | done | exact H
      clear H
      have H := H1
      clear H1
      by_cases c16 : t248 = t260
      ·
       rw [if_pos c16] at H
       have c16b0 : (t248 == t260) = true := beq_iff_eq.mpr c16
       have c16b1 : (t248 != t260) = false := bne_eq_false_iff_eq.mpr c16
       clear c16
       replace H := Option.bind_eq_some_iff.mp H
       obtain ⟨t269, A170, H⟩ := H
       replace H : (if t269 = true then ((msg_Least.f a2).bind fun t270 => ((ridgewayref03_Least.f a2).bind fun t271 => (if t270 = t271 then ((msg_Sane.f a1_0 l1_1).bind fun t272 => ((ridgewayref03_Sane.f a1_0 l1_1).bind fun t273 => (if (t272 == t273) = true then ((msg_Put.f kj4 l0 a1_0 l1_1).bind fun t274 => ((ridgewayref03_Put.f kj4 l0 a1_0 l1_1).bind fun t277 => (some ((strOfNums t274).toList == (strOfNums t277).toList)))) else (some false)))) else (some false)))) else (some false)) = some true := H
       have A17 := Aside0.mk A170
       clear A170
       by_cases c18 : t269 = true
       ·
        subst c18
        have H1 : ((msg_Least.f a2).bind fun t270 => ((ridgewayref03_Least.f a2).bind fun t271 => (if t270 = t271 then ((msg_Sane.f a1_0 l1_1).bind fun t272 => ((ridgewayref03_Sane.f a1_0 l1_1).bind fun t273 => (if (t272 == t273) = true then ((msg_Put.f kj4 l0 a1_0 l1_1).bind fun t274 => ((ridgewayref03_Put.f kj4 l0 a1_0 l1_1).bind fun t277 => (some ((strOfNums t274).toList == (strOfNums t277).toList)))) else (some false)))) else (some false)))) = some true := by rw [if_pos rfl] at H; first | done | exact H
        clear H
        have H := H1
        clear H1
        replace H := Option.bind_eq_some_iff.mp H
        obtain ⟨t270, A190, H⟩ := H
        replace H : ((ridgewayref03_Least.f a2).bind fun t271 => (if t270 = t271 then ((msg_Sane.f a1_0 l1_1).bind fun t272 => ((ridgewayref03_Sane.f a1_0 l1_1).bind fun t273 => (if (t272 == t273) = true then ((msg_Put.f kj4 l0 a1_0 l1_1).bind fun t274 => ((ridgewayref03_Put.f kj4 l0 a1_0 l1_1).bind fun t277 => (some ((strOfNums t274).toList == (strOfNums t277).toList)))) else (some false)))) else (some false))) = some true := H
        have A19 := Aside0.mk A190
        clear A190
        replace H := Option.bind_eq_some_iff.mp H
        obtain ⟨t271, A200, H⟩ := H
        replace H : (if t270 = t271 then ((msg_Sane.f a1_0 l1_1).bind fun t272 => ((ridgewayref03_Sane.f a1_0 l1_1).bind fun t273 => (if (t272 == t273) = true then ((msg_Put.f kj4 l0 a1_0 l1_1).bind fun t274 => ((ridgewayref03_Put.f kj4 l0 a1_0 l1_1).bind fun t277 => (some ((strOfNums t274).toList == (strOfNums t277).toList)))) else (some false)))) else (some false)) = some true := H
        have A20 := Aside0.mk A200
        clear A200
        by_cases c21 : t270 = t271
        ·
         rw [if_pos c21] at H
         have c21b0 : (t270 == t271) = true := beq_iff_eq.mpr c21
         have c21b1 : (t270 != t271) = false := bne_eq_false_iff_eq.mpr c21
         clear c21
         replace H := Option.bind_eq_some_iff.mp H
         obtain ⟨t272, A220, H⟩ := H
         replace H : ((ridgewayref03_Sane.f a1_0 l1_1).bind fun t273 => (if (t272 == t273) = true then ((msg_Put.f kj4 l0 a1_0 l1_1).bind fun t274 => ((ridgewayref03_Put.f kj4 l0 a1_0 l1_1).bind fun t277 => (some ((strOfNums t274).toList == (strOfNums t277).toList)))) else (some false))) = some true := H
         have A22 := Aside0.mk A220
         clear A220
         replace H := Option.bind_eq_some_iff.mp H
         obtain ⟨t273, A230, H⟩ := H
         replace H : (if (t272 == t273) = true then ((msg_Put.f kj4 l0 a1_0 l1_1).bind fun t274 => ((ridgewayref03_Put.f kj4 l0 a1_0 l1_1).bind fun t277 => (some ((strOfNums t274).toList == (strOfNums t277).toList)))) else (some false)) = some true := H
         have A23 := Aside0.mk A230
         clear A230
         by_cases c24 : (t272 == t273) = true
         ·
          rw [if_pos c24] at H
          have c24b0 : (t272 == t273) = true := c24
          (try (have c24b1 : decide (t272 = t273) = true := by simpa using c24))
          (try (have c24b2 : (t272 == t273) = true := by simpa using c24))
          clear c24
          replace H := Option.bind_eq_some_iff.mp H
          obtain ⟨t274, A250, H⟩ := H
          replace H : ((ridgewayref03_Put.f kj4 l0 a1_0 l1_1).bind fun t277 => (some ((strOfNums t274).toList == (strOfNums t277).toList))) = some true := H
          have A25 := Aside0.mk A250
          clear A250
          replace H := Option.bind_eq_some_iff.mp H
          obtain ⟨t277, A260, H⟩ := H
          replace H : (some ((strOfNums t274).toList == (strOfNums t277).toList)) = some true := H
          have A26 := Aside0.mk A260
          clear A260
          have HRL_ := Aside0.mk (Option.some.inj H)
          clear H
          try go_wp2_with (first | ((with_reducible refine gate_callee (f := 9) rfl ?_); refine goesL_ (some 27) rfl rfl Try.func9 (by kernel_rfl) rfl #[.slice A0 l0.length c0] rfl (by (try simp only [List.map_toArray, List.map_cons, List.map_nil]); first | done | rfl | (simp only [List.length_drop, List.length_take]; rfl)) ?_; (with_reducible refine (msg_Get.calls kj4 _ _ l0 t244 t245 t248 t249 t250 t251 _ ?side1 ?side2 A11.out).mono ?_); (case side1 => repeat (first | exact (Kd.C_below HR0.out HB.out) | (with_reducible refine Kd.C_alloc ?_ _) | (with_reducible refine Kd.C_drewN ?_ _) | (with_reducible refine Kd.C_drew ?_))); (case side2 => exact HC0.out); rintro e w27 ⟨v246, v252, rfl, ho0, ho1, hb⟩; refine ⟨_, rfl, ?_⟩; have n0_ := Aside0.mk (Kd.R_lower ho0 (below_size (by repeat (first | (with_reducible first | exact HB.out | apply bA | apply bN | apply bD | refine bS ?_ GE242.out) | exact HB.out)))); have n1_ := Aside0.mk (Kd.R_lower ho1 (below_size (by repeat (first | (with_reducible first | exact HB.out | apply bA | apply bN | apply bD | refine bS ?_ GE242.out) | exact HB.out)))); have n2_ := Aside0.mk (blk_below (g := gb242) (o := .cells #[.int .i64 a1_0, .slice A1_1 l1_1.length c1_1] 24 (0, 0)) (by (with_reducible repeat (first | refine kN ?_ _ | refine kD ?_ | refine kA ?_ _)); exact BK242.out) hb); have n3_ := Aside0.mk (below_step (by repeat (first | (with_reducible first | exact HB.out | apply bA | apply bN | apply bD | refine bS ?_ GE242.out) | exact HB.out)) hb); clear BK242; clear HB; have HO247 := n0_; have HO253 := n1_; have BK242 := n2_; have HB := n3_; clear n0_ n1_ n2_ n3_; (try clear hb); (try clear hb2); (try clear hk); (try clear hi); (try clear ho0); (try clear ho1)) | ((with_reducible refine gate_dst (N := 8) rfl ?_); (try (refine gate_guard (by rfl) ?_; dsimp only)); refine box_event ?hg (N := 8) ?hd (cs := #[.int .i64 0, .slice none 0 0]) (t := 24) ?hr ?_; (case hd => rfl); (case hg => rfl); (case hr => first | (go_simp; done) | (go_simp; rfl)); intro gb254 hg w28 hbox hb; have n0_ := Aside0.mk (Kd.R_below (by (with_reducible repeat (first | apply Kd.R_alloc | apply Kd.R_drewN | apply Kd.R_drew)); exact HO247.out) hb); have n1_ := Aside0.mk (Kd.R_below (by (with_reducible repeat (first | apply Kd.R_alloc | apply Kd.R_drewN | apply Kd.R_drew)); exact HO253.out) hb); have n2_ := Aside0.mk (blk_below (g := gb242) (o := .cells #[.int .i64 a1_0, .slice A1_1 l1_1.length c1_1] 24 (0, 0)) (by (with_reducible repeat (first | refine kN ?_ _ | refine kD ?_ | refine kA ?_ _)); exact BK242.out) hb); have n3_ := Aside0.mk (below_step (by repeat (first | (with_reducible first | exact HB.out | apply bA | apply bN | apply bD | refine bS ?_ GE242.out) | exact HB.out)) hb); have n4_ := Aside0.mk (hbox); have n5_ := Aside0.mk ((by rw [hg]; exact (below_size (by repeat (first | (with_reducible first | exact HB.out | apply bA | apply bN | apply bD | refine bS ?_ GE242.out) | exact HB.out))) : w.heap.size ≤ gb254)); have n6_ := Aside0.mk ((by rw [hg]; exact (below_size (by repeat (first | (with_reducible first | exact HB.out | apply bA | apply bN | apply bD | refine bS ?_ GE242.out) | exact HB.out))) : w.heap.size ≤ gb254)); have n7_ := Aside0.mk ((by rw [hg]; exact Nat.ne_of_lt (blk_lt (g := gb242) (o := .cells #[.int .i64 a1_0, .slice A1_1 l1_1.length c1_1] 24 (0, 0)) (by (with_reducible repeat (first | refine kN ?_ _ | refine kD ?_ | refine kA ?_ _)); exact BK242.out)) : gb242 ≠ gb254)); have n8_ := Aside0.mk ((by rw [hg]; exact Nat.ne_of_gt (blk_lt (g := gb242) (o := .cells #[.int .i64 a1_0, .slice A1_1 l1_1.length c1_1] 24 (0, 0)) (by (with_reducible repeat (first | refine kN ?_ _ | refine kD ?_ | refine kA ?_ _)); exact BK242.out)) : gb254 ≠ gb242)); clear HO247; clear HO253; clear BK242; clear HB; have HO247 := n0_; have HO253 := n1_; have BK242 := n2_; have HB := n3_; have BK254 := n4_; have GW254 := n5_; have GE254 := n6_; have NB242_254 := n7_; have NB254_242 := n8_; clear n0_ n1_ n2_ n3_ n4_ n5_ n6_ n7_ n8_; clear hb hbox hg) | ((with_reducible refine gate_dst (N := 10) rfl ?_); (try (refine gate_guard (by rfl) ?_; dsimp only)); refine box_event ?hg (N := 10) ?hd (cs := #[.int .i64 0, .int .i64 0, .slice none 0 0]) (t := 27) ?hr ?_; (case hd => rfl); (case hg => rfl); (case hr => first | (go_simp; done) | (go_simp; rfl)); intro gb255 hg w29 hbox hb; have n0_ := Aside0.mk (Kd.R_below (by (with_reducible repeat (first | apply Kd.R_alloc | apply Kd.R_drewN | apply Kd.R_drew)); exact HO247.out) hb); have n1_ := Aside0.mk (Kd.R_below (by (with_reducible repeat (first | apply Kd.R_alloc | apply Kd.R_drewN | apply Kd.R_drew)); exact HO253.out) hb); have n2_ := Aside0.mk (blk_below (g := gb242) (o := .cells #[.int .i64 a1_0, .slice A1_1 l1_1.length c1_1] 24 (0, 0)) (by (with_reducible repeat (first | refine kN ?_ _ | refine kD ?_ | refine kA ?_ _)); exact BK242.out) hb); have n3_ := Aside0.mk (blk_below (g := gb254) (o := .cells #[.int .i64 0, .slice none 0 0] 24 (0, 0)) (by (with_reducible repeat (first | refine kN ?_ _ | refine kD ?_ | refine kA ?_ _)); exact BK254.out) hb); have n4_ := Aside0.mk (below_step (by repeat (first | (with_reducible first | exact HB.out | apply bA | apply bN | apply bD | refine bS ?_ GE242.out | refine bS ?_ GE254.out) | exact HB.out)) hb); have n5_ := Aside0.mk (hbox); have n6_ := Aside0.mk ((by rw [hg]; exact (below_size (by repeat (first | (with_reducible first | exact HB.out | apply bA | apply bN | apply bD | refine bS ?_ GE242.out | refine bS ?_ GE254.out) | exact HB.out))) : w.heap.size ≤ gb255)); have n7_ := Aside0.mk ((by rw [hg]; exact (below_size (by repeat (first | (with_reducible first | exact HB.out | apply bA | apply bN | apply bD | refine bS ?_ GE242.out | refine bS ?_ GE254.out) | exact HB.out))) : w.heap.size ≤ gb255)); have n8_ := Aside0.mk ((by rw [hg]; exact Nat.ne_of_lt (blk_lt (g := gb242) (o := .cells #[.int .i64 a1_0, .slice A1_1 l1_1.length c1_1] 24 (0, 0)) (by (with_reducible repeat (first | refine kN ?_ _ | refine kD ?_ | refine kA ?_ _)); exact BK242.out)) : gb242 ≠ gb255)); have n9_ := Aside0.mk ((by rw [hg]; exact Nat.ne_of_gt (blk_lt (g := gb242) (o := .cells #[.int .i64 a1_0, .slice A1_1 l1_1.length c1_1] 24 (0, 0)) (by (with_reducible repeat (first | refine kN ?_ _ | refine kD ?_ | refine kA ?_ _)); exact BK242.out)) : gb255 ≠ gb242)); have n10_ := Aside0.mk ((by rw [hg]; exact Nat.ne_of_lt (blk_lt (g := gb254) (o := .cells #[.int .i64 0, .slice none 0 0] 24 (0, 0)) (by (with_reducible repeat (first | refine kN ?_ _ | refine kD ?_ | refine kA ?_ _)); exact BK254.out)) : gb254 ≠ gb255)); have n11_ := Aside0.mk ((by rw [hg]; exact Nat.ne_of_gt (blk_lt (g := gb254) (o := .cells #[.int .i64 0, .slice none 0 0] 24 (0, 0)) (by (with_reducible repeat (first | refine kN ?_ _ | refine kD ?_ | refine kA ?_ _)); exact BK254.out)) : gb255 ≠ gb254)); clear HO247; clear HO253; clear BK242; clear BK254; clear HB; have HO247 := n0_; have HO253 := n1_; have BK242 := n2_; have BK254 := n3_; have HB := n4_; have BK255 := n5_; have GW255 := n6_; have GE255 := n7_; have NB242_255 := n8_; have NB255_242 := n9_; have NB254_255 := n10_; have NB255_254 := n11_; clear n0_ n1_ n2_ n3_ n4_ n5_ n6_ n7_ n8_ n9_ n10_ n11_; clear hb hbox hg; have hnb30 := NB254_242.out; have hnc30 := NB242_254.out; have hnb31 := NB254_255.out; have hnc31 := NB255_254.out; have hcz32_0 : w29.cell? ⟨gb254, 0, none⟩ = some (.int .i64 0) := (blk_cell BK254.out 0).trans rfl; have hcz32_1 : w29.cell? ⟨gb254, 1, none⟩ = some (.slice none 0 0) := (blk_cell BK254.out 1).trans rfl; have hfz32_0 := blk_frozen BK254.out 0; have hfz32_1 := blk_frozen BK254.out 1; obtain ⟨Ao33, co33, eo33⟩ := Kd.R_slice HO247.out; subst eo33) | ((with_reducible refine gate_store (t := 24) (p := 8) rfl ?_); refine store_event (t := 24) (p := 8) (v := ?vo_w34) (w1 := ((w29.setCell ⟨gb254, 0, none⟩ (.int .i64 t244)).setCell ⟨gb254, 1, none⟩ (.slice Ao33 t245.length co33))) ?hg ?ho ?hn ?hr ?_; (case ho => rfl); (case hg => rfl); (case hn => rfl); (case hr => first | (go_simp; done) | (go_simp; rfl)); intro w34 hw; have n0_ : Aside0 (Kd.R (Kd.int .u8) 5 w34 w.heap.size (fun k_ => some k_ ≠ (v252 : Value).ownBlock) (.slice Ao33 t245.length co33) t245) := ⟨(by rw [hw]; exact (by (with_reducible repeat (first | apply Kd.R_alloc | apply Kd.R_drewN | apply Kd.R_drew)); exact Kd.R_mono (Kd.R_far (p := ⟨gb254, 1, none⟩) (Kd.R_far (p := ⟨gb254, 0, none⟩) (Kd.R_types HO247.out BK254.out (by decide)) (fun _ hk => hk.2) (.int .i64 t244)) (fun _ hk => hk.2) (.slice Ao33 t245.length co33)) (fun _ hk => hk.1)))⟩; have n1_ : Aside0 (Kd.R (Kd.int .u8) 5 w34 w.heap.size (fun k_ => some k_ ≠ (.slice Ao33 t245.length co33 : Value).ownBlock) v252 t251) := ⟨(by rw [hw]; exact (by (with_reducible repeat (first | apply Kd.R_alloc | apply Kd.R_drewN | apply Kd.R_drew)); exact Kd.R_mono (Kd.R_far (p := ⟨gb254, 1, none⟩) (Kd.R_far (p := ⟨gb254, 0, none⟩) (Kd.R_types HO253.out BK254.out (by decide)) (fun _ hk => hk.2) (.int .i64 t244)) (fun _ hk => hk.2) (.slice Ao33 t245.length co33)) (fun _ hk => hk.1)))⟩; have n2_ : Aside0 (w34.heap[gb242]? = some (.cells #[.int .i64 a1_0, .slice A1_1 l1_1.length c1_1] 24 (0, 0))) := ⟨(by rw [hw]; exact (by (with_reducible repeat (first | refine kN ?_ _ | refine kD ?_ | refine kA ?_ _)); refine blk_far ?_ NB242_254.out _; (with_reducible repeat (first | refine kN ?_ _ | refine kD ?_ | refine kA ?_ _)); refine blk_far ?_ NB242_254.out _; (with_reducible repeat (first | refine kN ?_ _ | refine kD ?_ | refine kA ?_ _)); exact BK242.out))⟩; have n3_ : Aside0 (w34.heap[gb254]? = some (.cells #[.int .i64 t244, .slice Ao33 t245.length co33] 24 (0, 0))) := ⟨(by rw [hw]; exact (by (with_reducible repeat (first | refine kN ?_ _ | refine kD ?_ | refine kA ?_ _)); refine blk_put (cs := #[.int .i64 t244, .slice none 0 0]) ?_ 1 _ rfl; (with_reducible repeat (first | refine kN ?_ _ | refine kD ?_ | refine kA ?_ _)); refine blk_put (cs := #[.int .i64 0, .slice none 0 0]) ?_ 0 _ rfl; (with_reducible repeat (first | refine kN ?_ _ | refine kD ?_ | refine kA ?_ _)); exact BK254.out))⟩; have n4_ : Aside0 (w34.heap[gb255]? = some (.cells #[.int .i64 0, .int .i64 0, .slice none 0 0] 27 (0, 0))) := ⟨(by rw [hw]; exact (by (with_reducible repeat (first | refine kN ?_ _ | refine kD ?_ | refine kA ?_ _)); refine blk_far ?_ NB255_254.out _; (with_reducible repeat (first | refine kN ?_ _ | refine kD ?_ | refine kA ?_ _)); refine blk_far ?_ NB255_254.out _; (with_reducible repeat (first | refine kN ?_ _ | refine kD ?_ | refine kA ?_ _)); exact BK255.out))⟩; have n5_ : Aside0 (Below w.heap.size w w34) := ⟨(by rw [hw]; exact (by repeat (first | (with_reducible first | exact HB.out | apply bA | apply bN | apply bD | refine bS ?_ GE242.out | refine bS ?_ GE254.out | refine bS ?_ GE255.out) | exact HB.out)))⟩; clear hw; clear HO247; clear HO253; clear BK242; clear BK254; clear BK255; clear HB; have HO247 := n0_; have HO253 := n1_; have BK242 := n2_; have BK254 := n3_; have BK255 := n4_; have HB := n5_; clear n0_ n1_ n2_ n3_ n4_ n5_; have hnb35 := NB255_242.out; have hnc35 := NB242_255.out; have hcz36_0 : w34.cell? ⟨gb255, 0, none⟩ = some (.int .i64 0) := (blk_cell BK255.out 0).trans rfl; have hcz36_1 : w34.cell? ⟨gb255, 1, none⟩ = some (.int .i64 0) := (blk_cell BK255.out 1).trans rfl; have hcz36_2 : w34.cell? ⟨gb255, 2, none⟩ = some (.slice none 0 0) := (blk_cell BK255.out 2).trans rfl; have hfz36_0 := blk_frozen BK255.out 0; have hfz36_1 := blk_frozen BK255.out 1; have hfz36_2 := blk_frozen BK255.out 2; obtain ⟨Ao37, co37, eo37⟩ := Kd.R_slice HO253.out; subst eo37) | ((with_reducible refine gate_store (t := 27) (p := 10) rfl ?_); refine store_event (t := 27) (p := 10) (v := ?vo_w38) (w1 := (((w34.setCell ⟨gb255, 0, none⟩ (.int .i64 t249)).setCell ⟨gb255, 1, none⟩ (.int .i64 t250)).setCell ⟨gb255, 2, none⟩ (.slice Ao37 t251.length co37))) ?hg ?ho ?hn ?hr ?_; (case ho => rfl); (case hg => rfl); (case hn => rfl); (case hr => first | (go_simp; done) | (go_simp; rfl)); intro w38 hw; have n0_ : Aside0 (Kd.R (Kd.int .u8) 5 w38 w.heap.size (fun k_ => some k_ ≠ (.slice Ao37 t251.length co37 : Value).ownBlock) (.slice Ao33 t245.length co33) t245) := ⟨(by rw [hw]; exact (by (with_reducible repeat (first | apply Kd.R_alloc | apply Kd.R_drewN | apply Kd.R_drew)); exact Kd.R_mono (Kd.R_far (p := ⟨gb255, 2, none⟩) (Kd.R_far (p := ⟨gb255, 1, none⟩) (Kd.R_far (p := ⟨gb255, 0, none⟩) (Kd.R_types HO247.out BK255.out (by decide)) (fun _ hk => hk.2) (.int .i64 t249)) (fun _ hk => hk.2) (.int .i64 t250)) (fun _ hk => hk.2) (.slice Ao37 t251.length co37)) (fun _ hk => hk.1)))⟩; have n1_ : Aside0 (Kd.R (Kd.int .u8) 5 w38 w.heap.size (fun k_ => some k_ ≠ (.slice Ao33 t245.length co33 : Value).ownBlock) (.slice Ao37 t251.length co37) t251) := ⟨(by rw [hw]; exact (by (with_reducible repeat (first | apply Kd.R_alloc | apply Kd.R_drewN | apply Kd.R_drew)); exact Kd.R_mono (Kd.R_far (p := ⟨gb255, 2, none⟩) (Kd.R_far (p := ⟨gb255, 1, none⟩) (Kd.R_far (p := ⟨gb255, 0, none⟩) (Kd.R_types HO253.out BK255.out (by decide)) (fun _ hk => hk.2) (.int .i64 t249)) (fun _ hk => hk.2) (.int .i64 t250)) (fun _ hk => hk.2) (.slice Ao37 t251.length co37)) (fun _ hk => hk.1)))⟩; have n2_ : Aside0 (w38.heap[gb242]? = some (.cells #[.int .i64 a1_0, .slice A1_1 l1_1.length c1_1] 24 (0, 0))) := ⟨(by rw [hw]; exact (by (with_reducible repeat (first | refine kN ?_ _ | refine kD ?_ | refine kA ?_ _)); refine blk_far ?_ NB242_255.out _; (with_reducible repeat (first | refine kN ?_ _ | refine kD ?_ | refine kA ?_ _)); refine blk_far ?_ NB242_255.out _; (with_reducible repeat (first | refine kN ?_ _ | refine kD ?_ | refine kA ?_ _)); refine blk_far ?_ NB242_255.out _; (with_reducible repeat (first | refine kN ?_ _ | refine kD ?_ | refine kA ?_ _)); exact BK242.out))⟩; have n3_ : Aside0 (w38.heap[gb254]? = some (.cells #[.int .i64 t244, .slice Ao33 t245.length co33] 24 (0, 0))) := ⟨(by rw [hw]; exact (by (with_reducible repeat (first | refine kN ?_ _ | refine kD ?_ | refine kA ?_ _)); refine blk_far ?_ NB254_255.out _; (with_reducible repeat (first | refine kN ?_ _ | refine kD ?_ | refine kA ?_ _)); refine blk_far ?_ NB254_255.out _; (with_reducible repeat (first | refine kN ?_ _ | refine kD ?_ | refine kA ?_ _)); refine blk_far ?_ NB254_255.out _; (with_reducible repeat (first | refine kN ?_ _ | refine kD ?_ | refine kA ?_ _)); exact BK254.out))⟩; have n4_ : Aside0 (w38.heap[gb255]? = some (.cells #[.int .i64 t249, .int .i64 t250, .slice Ao37 t251.length co37] 27 (0, 0))) := ⟨(by rw [hw]; exact (by (with_reducible repeat (first | refine kN ?_ _ | refine kD ?_ | refine kA ?_ _)); refine blk_put (cs := #[.int .i64 t249, .int .i64 t250, .slice none 0 0]) ?_ 2 _ rfl; (with_reducible repeat (first | refine kN ?_ _ | refine kD ?_ | refine kA ?_ _)); refine blk_put (cs := #[.int .i64 t249, .int .i64 0, .slice none 0 0]) ?_ 1 _ rfl; (with_reducible repeat (first | refine kN ?_ _ | refine kD ?_ | refine kA ?_ _)); refine blk_put (cs := #[.int .i64 0, .int .i64 0, .slice none 0 0]) ?_ 0 _ rfl; (with_reducible repeat (first | refine kN ?_ _ | refine kD ?_ | refine kA ?_ _)); exact BK255.out))⟩; have n5_ : Aside0 (Below w.heap.size w w38) := ⟨(by rw [hw]; exact (by repeat (first | (with_reducible first | exact HB.out | apply bA | apply bN | apply bD | refine bS ?_ GE242.out | refine bS ?_ GE254.out | refine bS ?_ GE255.out) | exact HB.out)))⟩; clear hw; clear HO247; clear HO253; clear BK242; clear BK254; clear BK255; clear HB; have HO247 := n0_; have HO253 := n1_; have BK242 := n2_; have BK254 := n3_; have BK255 := n4_; have HB := n5_; clear n0_ n1_ n2_ n3_ n4_ n5_) | ((with_reducible refine gate_callee (f := 10) rfl ?_); refine goesL_ (some 33) rfl rfl Try.func10 (by kernel_rfl) rfl #[.slice A0 l0.length c0] rfl (by (try simp only [List.map_toArray, List.map_cons, List.map_nil]); first | done | rfl | (simp only [List.length_drop, List.length_take]; rfl)) ?_; (with_reducible refine (ridgewayref03_Get.calls kj4 (fun k_ => k_ < w.heap.size) _ _ l0 t256 t257 t260 t261 t262 t263 _ ?side1 A12.out).mono ?_); (case side1 => exact Kd.V_mk HC0.out (Kd.F_below (Kd.C_F (Kd.heap_int .u8) HR0.out) (by repeat (first | (with_reducible first | exact HB.out | apply bA | apply bN | apply bD | refine bS ?_ GE242.out | refine bS ?_ GE254.out | refine bS ?_ GE255.out) | exact HB.out)))); rintro e w39 ⟨v258, v264, rfl, ho0, ho1, hb⟩; refine ⟨_, rfl, ?_⟩; have n0_ := Aside0.mk (Kd.R_below (by (with_reducible repeat (first | apply Kd.R_alloc | apply Kd.R_drewN | apply Kd.R_drew)); exact HO247.out) hb); have n1_ := Aside0.mk (Kd.R_below (by (with_reducible repeat (first | apply Kd.R_alloc | apply Kd.R_drewN | apply Kd.R_drew)); exact HO253.out) hb); have n2_ := Aside0.mk (Kd.V_lower (Kd.V_mono (ok' := fun k_ => some k_ ≠ (.slice Ao33 t245.length co33 : Value).ownBlock ∧ some k_ ≠ (.slice Ao37 t251.length co37 : Value).ownBlock ∧ k_ ≠ gb242 ∧ k_ ≠ gb254 ∧ k_ ≠ gb255) ho0 (fun k_ hk_ => ⟨Or.elim hk_ (fun hs_ => fun e_ => Nat.not_le.2 hs_ (Kd.R_base HO247.out k_ e_.symm)) (fun hn_ => (Kd.fresh' (Kd.R_lt (by (with_reducible repeat (first | apply Kd.R_alloc | apply Kd.R_drewN | apply Kd.R_drew)); exact HO247.out)) k_ hn_)), Or.elim hk_ (fun hs_ => fun e_ => Nat.not_le.2 hs_ (Kd.R_base HO253.out k_ e_.symm)) (fun hn_ => (Kd.fresh' (Kd.R_lt (by (with_reducible repeat (first | apply Kd.R_alloc | apply Kd.R_drewN | apply Kd.R_drew)); exact HO253.out)) k_ hn_)), Or.elim hk_ (fun hs_ => fun e_ => Nat.not_le.2 hs_ (by rw [e_]; exact GW242.out)) (fun hn_ => (Kd.freshB (g := gb242) (o := .cells #[.int .i64 a1_0, .slice A1_1 l1_1.length c1_1] 24 (0, 0)) (by (with_reducible repeat (first | refine kN ?_ _ | refine kD ?_ | refine kA ?_ _)); exact BK242.out) k_ hn_)), Or.elim hk_ (fun hs_ => fun e_ => Nat.not_le.2 hs_ (by rw [e_]; exact GW254.out)) (fun hn_ => (Kd.freshB (g := gb254) (o := .cells #[.int .i64 t244, .slice Ao33 t245.length co33] 24 (0, 0)) (by (with_reducible repeat (first | refine kN ?_ _ | refine kD ?_ | refine kA ?_ _)); exact BK254.out) k_ hn_)), Or.elim hk_ (fun hs_ => fun e_ => Nat.not_le.2 hs_ (by rw [e_]; exact GW255.out)) (fun hn_ => (Kd.freshB (g := gb255) (o := .cells #[.int .i64 t249, .int .i64 t250, .slice Ao37 t251.length co37] 27 (0, 0)) (by (with_reducible repeat (first | refine kN ?_ _ | refine kD ?_ | refine kA ?_ _)); exact BK255.out) k_ hn_))⟩)) (below_size (by repeat (first | (with_reducible first | exact HB.out | apply bA | apply bN | apply bD | refine bS ?_ GE242.out | refine bS ?_ GE254.out | refine bS ?_ GE255.out) | exact HB.out)))); have n3_ := Aside0.mk (Kd.V_lower (Kd.V_mono (ok' := fun k_ => some k_ ≠ (.slice Ao33 t245.length co33 : Value).ownBlock ∧ some k_ ≠ (.slice Ao37 t251.length co37 : Value).ownBlock ∧ k_ ≠ gb242 ∧ k_ ≠ gb254 ∧ k_ ≠ gb255) ho1 (fun k_ hk_ => ⟨Or.elim hk_ (fun hs_ => fun e_ => Nat.not_le.2 hs_ (Kd.R_base HO247.out k_ e_.symm)) (fun hn_ => (Kd.fresh' (Kd.R_lt (by (with_reducible repeat (first | apply Kd.R_alloc | apply Kd.R_drewN | apply Kd.R_drew)); exact HO247.out)) k_ hn_)), Or.elim hk_ (fun hs_ => fun e_ => Nat.not_le.2 hs_ (Kd.R_base HO253.out k_ e_.symm)) (fun hn_ => (Kd.fresh' (Kd.R_lt (by (with_reducible repeat (first | apply Kd.R_alloc | apply Kd.R_drewN | apply Kd.R_drew)); exact HO253.out)) k_ hn_)), Or.elim hk_ (fun hs_ => fun e_ => Nat.not_le.2 hs_ (by rw [e_]; exact GW242.out)) (fun hn_ => (Kd.freshB (g := gb242) (o := .cells #[.int .i64 a1_0, .slice A1_1 l1_1.length c1_1] 24 (0, 0)) (by (with_reducible repeat (first | refine kN ?_ _ | refine kD ?_ | refine kA ?_ _)); exact BK242.out) k_ hn_)), Or.elim hk_ (fun hs_ => fun e_ => Nat.not_le.2 hs_ (by rw [e_]; exact GW254.out)) (fun hn_ => (Kd.freshB (g := gb254) (o := .cells #[.int .i64 t244, .slice Ao33 t245.length co33] 24 (0, 0)) (by (with_reducible repeat (first | refine kN ?_ _ | refine kD ?_ | refine kA ?_ _)); exact BK254.out) k_ hn_)), Or.elim hk_ (fun hs_ => fun e_ => Nat.not_le.2 hs_ (by rw [e_]; exact GW255.out)) (fun hn_ => (Kd.freshB (g := gb255) (o := .cells #[.int .i64 t249, .int .i64 t250, .slice Ao37 t251.length co37] 27 (0, 0)) (by (with_reducible repeat (first | refine kN ?_ _ | refine kD ?_ | refine kA ?_ _)); exact BK255.out) k_ hn_))⟩)) (below_size (by repeat (first | (with_reducible first | exact HB.out | apply bA | apply bN | apply bD | refine bS ?_ GE242.out | refine bS ?_ GE254.out | refine bS ?_ GE255.out) | exact HB.out)))); have n4_ := Aside0.mk (blk_below (g := gb242) (o := .cells #[.int .i64 a1_0, .slice A1_1 l1_1.length c1_1] 24 (0, 0)) (by (with_reducible repeat (first | refine kN ?_ _ | refine kD ?_ | refine kA ?_ _)); exact BK242.out) hb); have n5_ := Aside0.mk (blk_below (g := gb254) (o := .cells #[.int .i64 t244, .slice Ao33 t245.length co33] 24 (0, 0)) (by (with_reducible repeat (first | refine kN ?_ _ | refine kD ?_ | refine kA ?_ _)); exact BK254.out) hb); have n6_ := Aside0.mk (blk_below (g := gb255) (o := .cells #[.int .i64 t249, .int .i64 t250, .slice Ao37 t251.length co37] 27 (0, 0)) (by (with_reducible repeat (first | refine kN ?_ _ | refine kD ?_ | refine kA ?_ _)); exact BK255.out) hb); have n7_ := Aside0.mk (below_step (by repeat (first | (with_reducible first | exact HB.out | apply bA | apply bN | apply bD | refine bS ?_ GE242.out | refine bS ?_ GE254.out | refine bS ?_ GE255.out) | exact HB.out)) hb); clear HO247; clear HO253; clear BK242; clear BK254; clear BK255; clear HB; have HO247 := n0_; have HO253 := n1_; have HO259 := n2_; have HO265 := n3_; have BK242 := n4_; have BK254 := n5_; have BK255 := n6_; have HB := n7_; clear n0_ n1_ n2_ n3_ n4_ n5_ n6_ n7_; (try clear hb); (try clear hb2); (try clear hk); (try clear hi); (try clear ho0); (try clear ho1)) | ((with_reducible refine gate_dst (N := 11) rfl ?_); (try (refine gate_guard (by rfl) ?_; dsimp only)); refine box_event ?hg (N := 11) ?hd (cs := #[.int .i64 0, .slice none 0 0]) (t := 24) ?hr ?_; (case hd => rfl); (case hg => rfl); (case hr => first | (go_simp; done) | (go_simp; rfl)); intro gb266 hg w40 hbox hb; have n0_ := Aside0.mk (Kd.R_below (by (with_reducible repeat (first | apply Kd.R_alloc | apply Kd.R_drewN | apply Kd.R_drew)); exact HO247.out) hb); have n1_ := Aside0.mk (Kd.R_below (by (with_reducible repeat (first | apply Kd.R_alloc | apply Kd.R_drewN | apply Kd.R_drew)); exact HO253.out) hb); have n2_ := Aside0.mk (Kd.V_below (Kd.V_elderB (by (with_reducible repeat (first | apply Kd.V_alloc | apply Kd.V_drewN | apply Kd.V_drew)); exact HO259.out) gb266 (Nat.le_of_eq hg.symm)) hb); have n3_ := Aside0.mk (Kd.V_below (Kd.V_elderB (by (with_reducible repeat (first | apply Kd.V_alloc | apply Kd.V_drewN | apply Kd.V_drew)); exact HO265.out) gb266 (Nat.le_of_eq hg.symm)) hb); have n4_ := Aside0.mk (blk_below (g := gb242) (o := .cells #[.int .i64 a1_0, .slice A1_1 l1_1.length c1_1] 24 (0, 0)) (by (with_reducible repeat (first | refine kN ?_ _ | refine kD ?_ | refine kA ?_ _)); exact BK242.out) hb); have n5_ := Aside0.mk (blk_below (g := gb254) (o := .cells #[.int .i64 t244, .slice Ao33 t245.length co33] 24 (0, 0)) (by (with_reducible repeat (first | refine kN ?_ _ | refine kD ?_ | refine kA ?_ _)); exact BK254.out) hb); have n6_ := Aside0.mk (blk_below (g := gb255) (o := .cells #[.int .i64 t249, .int .i64 t250, .slice Ao37 t251.length co37] 27 (0, 0)) (by (with_reducible repeat (first | refine kN ?_ _ | refine kD ?_ | refine kA ?_ _)); exact BK255.out) hb); have n7_ := Aside0.mk (below_step (by repeat (first | (with_reducible first | exact HB.out | apply bA | apply bN | apply bD | refine bS ?_ GE242.out | refine bS ?_ GE254.out | refine bS ?_ GE255.out) | exact HB.out)) hb); have n8_ := Aside0.mk (hbox); have n9_ := Aside0.mk ((by rw [hg]; exact (below_size (by repeat (first | (with_reducible first | exact HB.out | apply bA | apply bN | apply bD | refine bS ?_ GE242.out | refine bS ?_ GE254.out | refine bS ?_ GE255.out) | exact HB.out))) : w.heap.size ≤ gb266)); have n10_ := Aside0.mk ((by rw [hg]; exact (below_size (by repeat (first | (with_reducible first | exact HB.out | apply bA | apply bN | apply bD | refine bS ?_ GE242.out | refine bS ?_ GE254.out | refine bS ?_ GE255.out) | exact HB.out))) : w.heap.size ≤ gb266)); have n11_ := Aside0.mk ((by rw [hg]; exact Nat.ne_of_lt (blk_lt (g := gb242) (o := .cells #[.int .i64 a1_0, .slice A1_1 l1_1.length c1_1] 24 (0, 0)) (by (with_reducible repeat (first | refine kN ?_ _ | refine kD ?_ | refine kA ?_ _)); exact BK242.out)) : gb242 ≠ gb266)); have n12_ := Aside0.mk ((by rw [hg]; exact Nat.ne_of_gt (blk_lt (g := gb242) (o := .cells #[.int .i64 a1_0, .slice A1_1 l1_1.length c1_1] 24 (0, 0)) (by (with_reducible repeat (first | refine kN ?_ _ | refine kD ?_ | refine kA ?_ _)); exact BK242.out)) : gb266 ≠ gb242)); have n13_ := Aside0.mk ((by rw [hg]; exact Nat.ne_of_lt (blk_lt (g := gb254) (o := .cells #[.int .i64 t244, .slice Ao33 t245.length co33] 24 (0, 0)) (by (with_reducible repeat (first | refine kN ?_ _ | refine kD ?_ | refine kA ?_ _)); exact BK254.out)) : gb254 ≠ gb266)); have n14_ := Aside0.mk ((by rw [hg]; exact Nat.ne_of_gt (blk_lt (g := gb254) (o := .cells #[.int .i64 t244, .slice Ao33 t245.length co33] 24 (0, 0)) (by (with_reducible repeat (first | refine kN ?_ _ | refine kD ?_ | refine kA ?_ _)); exact BK254.out)) : gb266 ≠ gb254)); have n15_ := Aside0.mk ((by rw [hg]; exact Nat.ne_of_lt (blk_lt (g := gb255) (o := .cells #[.int .i64 t249, .int .i64 t250, .slice Ao37 t251.length co37] 27 (0, 0)) (by (with_reducible repeat (first | refine kN ?_ _ | refine kD ?_ | refine kA ?_ _)); exact BK255.out)) : gb255 ≠ gb266)); have n16_ := Aside0.mk ((by rw [hg]; exact Nat.ne_of_gt (blk_lt (g := gb255) (o := .cells #[.int .i64 t249, .int .i64 t250, .slice Ao37 t251.length co37] 27 (0, 0)) (by (with_reducible repeat (first | refine kN ?_ _ | refine kD ?_ | refine kA ?_ _)); exact BK255.out)) : gb266 ≠ gb255)); clear HO247; clear HO253; clear HO259; clear HO265; clear BK242; clear BK254; clear BK255; clear HB; have HO247 := n0_; have HO253 := n1_; have HO259 := n2_; have HO265 := n3_; have BK242 := n4_; have BK254 := n5_; have BK255 := n6_; have HB := n7_; have BK266 := n8_; have GW266 := n9_; have GE266 := n10_; have NB242_266 := n11_; have NB266_242 := n12_; have NB254_266 := n13_; have NB266_254 := n14_; have NB255_266 := n15_; have NB266_255 := n16_; clear n0_ n1_ n2_ n3_ n4_ n5_ n6_ n7_ n8_ n9_ n10_ n11_ n12_ n13_ n14_ n15_ n16_; clear hb hbox hg) | ((with_reducible refine gate_dst (N := 13) rfl ?_); (try (refine gate_guard (by rfl) ?_; dsimp only)); refine box_event ?hg (N := 13) ?hd (cs := #[.int .i64 0, .int .i64 0, .slice none 0 0]) (t := 27) ?hr ?_; (case hd => rfl); (case hg => rfl); (case hr => first | (go_simp; done) | (go_simp; rfl)); intro gb267 hg w41 hbox hb; have n0_ := Aside0.mk (Kd.R_below (by (with_reducible repeat (first | apply Kd.R_alloc | apply Kd.R_drewN | apply Kd.R_drew)); exact HO247.out) hb); have n1_ := Aside0.mk (Kd.R_below (by (with_reducible repeat (first | apply Kd.R_alloc | apply Kd.R_drewN | apply Kd.R_drew)); exact HO253.out) hb); have n2_ := Aside0.mk (Kd.V_below (Kd.V_elderB (by (with_reducible repeat (first | apply Kd.V_alloc | apply Kd.V_drewN | apply Kd.V_drew)); exact HO259.out) gb267 (Nat.le_of_eq hg.symm)) hb); have n3_ := Aside0.mk (Kd.V_below (Kd.V_elderB (by (with_reducible repeat (first | apply Kd.V_alloc | apply Kd.V_drewN | apply Kd.V_drew)); exact HO265.out) gb267 (Nat.le_of_eq hg.symm)) hb); have n4_ := Aside0.mk (blk_below (g := gb242) (o := .cells #[.int .i64 a1_0, .slice A1_1 l1_1.length c1_1] 24 (0, 0)) (by (with_reducible repeat (first | refine kN ?_ _ | refine kD ?_ | refine kA ?_ _)); exact BK242.out) hb); have n5_ := Aside0.mk (blk_below (g := gb254) (o := .cells #[.int .i64 t244, .slice Ao33 t245.length co33] 24 (0, 0)) (by (with_reducible repeat (first | refine kN ?_ _ | refine kD ?_ | refine kA ?_ _)); exact BK254.out) hb); have n6_ := Aside0.mk (blk_below (g := gb255) (o := .cells #[.int .i64 t249, .int .i64 t250, .slice Ao37 t251.length co37] 27 (0, 0)) (by (with_reducible repeat (first | refine kN ?_ _ | refine kD ?_ | refine kA ?_ _)); exact BK255.out) hb); have n7_ := Aside0.mk (blk_below (g := gb266) (o := .cells #[.int .i64 0, .slice none 0 0] 24 (0, 0)) (by (with_reducible repeat (first | refine kN ?_ _ | refine kD ?_ | refine kA ?_ _)); exact BK266.out) hb); have n8_ := Aside0.mk (below_step (by repeat (first | (with_reducible first | exact HB.out | apply bA | apply bN | apply bD | refine bS ?_ GE242.out | refine bS ?_ GE254.out | refine bS ?_ GE255.out | refine bS ?_ GE266.out) | exact HB.out)) hb); have n9_ := Aside0.mk (hbox); have n10_ := Aside0.mk ((by rw [hg]; exact (below_size (by repeat (first | (with_reducible first | exact HB.out | apply bA | apply bN | apply bD | refine bS ?_ GE242.out | refine bS ?_ GE254.out | refine bS ?_ GE255.out | refine bS ?_ GE266.out) | exact HB.out))) : w.heap.size ≤ gb267)); have n11_ := Aside0.mk ((by rw [hg]; exact (below_size (by repeat (first | (with_reducible first | exact HB.out | apply bA | apply bN | apply bD | refine bS ?_ GE242.out | refine bS ?_ GE254.out | refine bS ?_ GE255.out | refine bS ?_ GE266.out) | exact HB.out))) : w.heap.size ≤ gb267)); have n12_ := Aside0.mk ((by rw [hg]; exact Nat.ne_of_lt (blk_lt (g := gb242) (o := .cells #[.int .i64 a1_0, .slice A1_1 l1_1.length c1_1] 24 (0, 0)) (by (with_reducible repeat (first | refine kN ?_ _ | refine kD ?_ | refine kA ?_ _)); exact BK242.out)) : gb242 ≠ gb267)); have n13_ := Aside0.mk ((by rw [hg]; exact Nat.ne_of_gt (blk_lt (g := gb242) (o := .cells #[.int .i64 a1_0, .slice A1_1 l1_1.length c1_1] 24 (0, 0)) (by (with_reducible repeat (first | refine kN ?_ _ | refine kD ?_ | refine kA ?_ _)); exact BK242.out)) : gb267 ≠ gb242)); have n14_ := Aside0.mk ((by rw [hg]; exact Nat.ne_of_lt (blk_lt (g := gb254) (o := .cells #[.int .i64 t244, .slice Ao33 t245.length co33] 24 (0, 0)) (by (with_reducible repeat (first | refine kN ?_ _ | refine kD ?_ | refine kA ?_ _)); exact BK254.out)) : gb254 ≠ gb267)); have n15_ := Aside0.mk ((by rw [hg]; exact Nat.ne_of_gt (blk_lt (g := gb254) (o := .cells #[.int .i64 t244, .slice Ao33 t245.length co33] 24 (0, 0)) (by (with_reducible repeat (first | refine kN ?_ _ | refine kD ?_ | refine kA ?_ _)); exact BK254.out)) : gb267 ≠ gb254)); have n16_ := Aside0.mk ((by rw [hg]; exact Nat.ne_of_lt (blk_lt (g := gb255) (o := .cells #[.int .i64 t249, .int .i64 t250, .slice Ao37 t251.length co37] 27 (0, 0)) (by (with_reducible repeat (first | refine kN ?_ _ | refine kD ?_ | refine kA ?_ _)); exact BK255.out)) : gb255 ≠ gb267)); have n17_ := Aside0.mk ((by rw [hg]; exact Nat.ne_of_gt (blk_lt (g := gb255) (o := .cells #[.int .i64 t249, .int .i64 t250, .slice Ao37 t251.length co37] 27 (0, 0)) (by (with_reducible repeat (first | refine kN ?_ _ | refine kD ?_ | refine kA ?_ _)); exact BK255.out)) : gb267 ≠ gb255)); have n18_ := Aside0.mk ((by rw [hg]; exact Nat.ne_of_lt (blk_lt (g := gb266) (o := .cells #[.int .i64 0, .slice none 0 0] 24 (0, 0)) (by (with_reducible repeat (first | refine kN ?_ _ | refine kD ?_ | refine kA ?_ _)); exact BK266.out)) : gb266 ≠ gb267)); have n19_ := Aside0.mk ((by rw [hg]; exact Nat.ne_of_gt (blk_lt (g := gb266) (o := .cells #[.int .i64 0, .slice none 0 0] 24 (0, 0)) (by (with_reducible repeat (first | refine kN ?_ _ | refine kD ?_ | refine kA ?_ _)); exact BK266.out)) : gb267 ≠ gb266)); clear HO247; clear HO253; clear HO259; clear HO265; clear BK242; clear BK254; clear BK255; clear BK266; clear HB; have HO247 := n0_; have HO253 := n1_; have HO259 := n2_; have HO265 := n3_; have BK242 := n4_; have BK254 := n5_; have BK255 := n6_; have BK266 := n7_; have HB := n8_; have BK267 := n9_; have GW267 := n10_; have GE267 := n11_; have NB242_267 := n12_; have NB267_242 := n13_; have NB254_267 := n14_; have NB267_254 := n15_; have NB255_267 := n16_; have NB267_255 := n17_; have NB266_267 := n18_; have NB267_266 := n19_; clear n0_ n1_ n2_ n3_ n4_ n5_ n6_ n7_ n8_ n9_ n10_ n11_ n12_ n13_ n14_ n15_ n16_ n17_ n18_ n19_; clear hb hbox hg; have hnb42 := NB266_242.out; have hnc42 := NB242_266.out; have hnb43 := NB266_254.out; have hnc43 := NB254_266.out; have hnb44 := NB266_255.out; have hnc44 := NB255_266.out; have hnb45 := NB266_267.out; have hnc45 := NB267_266.out; have hcz46_0 : w41.cell? ⟨gb266, 0, none⟩ = some (.int .i64 0) := (blk_cell BK266.out 0).trans rfl; have hcz46_1 : w41.cell? ⟨gb266, 1, none⟩ = some (.slice none 0 0) := (blk_cell BK266.out 1).trans rfl; have hfz46_0 := blk_frozen BK266.out 0; have hfz46_1 := blk_frozen BK266.out 1; obtain ⟨Ao47, co47, eo47⟩ := Kd.V_slice HO259.out; subst eo47; have hnb48 := NB267_242.out; have hnc48 := NB242_267.out; have hnb49 := NB267_254.out; have hnc49 := NB254_267.out; have hnb50 := NB267_255.out; have hnc50 := NB255_267.out; have hcz51_0 : w41.cell? ⟨gb267, 0, none⟩ = some (.int .i64 0) := (blk_cell BK267.out 0).trans rfl; have hcz51_1 : w41.cell? ⟨gb267, 1, none⟩ = some (.int .i64 0) := (blk_cell BK267.out 1).trans rfl; have hcz51_2 : w41.cell? ⟨gb267, 2, none⟩ = some (.slice none 0 0) := (blk_cell BK267.out 2).trans rfl; have hfz51_0 := blk_frozen BK267.out 0; have hfz51_1 := blk_frozen BK267.out 1; have hfz51_2 := blk_frozen BK267.out 2; obtain ⟨Ao52, co52, eo52⟩ := Kd.V_slice HO265.out; subst eo52))
          have n0_ : Aside0 (Kd.R (Kd.int .u8) 5 (((((w41.setCell ⟨gb266, 0, none⟩ (.int .i64 t256)).setCell ⟨gb266, 1, none⟩ (.slice Ao47 t257.length co47)).setCell ⟨gb267, 0, none⟩ (.int .i64 t261)).setCell ⟨gb267, 1, none⟩ (.int .i64 t262)).setCell ⟨gb267, 2, none⟩ (.slice Ao52 t263.length co52)) w.heap.size (fun k_ => some k_ ≠ (.slice Ao37 t251.length co37 : Value).ownBlock) (.slice Ao33 t245.length co33) t245) := ⟨by (with_reducible repeat (first | apply Kd.R_alloc | apply Kd.R_drewN | apply Kd.R_drew)); exact Kd.R_mono (Kd.R_far (p := ⟨gb267, 2, none⟩) (Kd.R_far (p := ⟨gb267, 1, none⟩) (Kd.R_far (p := ⟨gb267, 0, none⟩) (Kd.R_far (p := ⟨gb266, 1, none⟩) (Kd.R_far (p := ⟨gb266, 0, none⟩) (Kd.R_types (Kd.R_types HO247.out BK266.out (by decide)) BK267.out (by decide)) (fun _ hk => hk.1.2) (.int .i64 t256)) (fun _ hk => hk.1.2) (.slice Ao47 t257.length co47)) (fun _ hk => hk.2) (.int .i64 t261)) (fun _ hk => hk.2) (.int .i64 t262)) (fun _ hk => hk.2) (.slice Ao52 t263.length co52)) (fun _ hk => hk.1.1)⟩
          have n1_ : Aside0 (Kd.R (Kd.int .u8) 5 (((((w41.setCell ⟨gb266, 0, none⟩ (.int .i64 t256)).setCell ⟨gb266, 1, none⟩ (.slice Ao47 t257.length co47)).setCell ⟨gb267, 0, none⟩ (.int .i64 t261)).setCell ⟨gb267, 1, none⟩ (.int .i64 t262)).setCell ⟨gb267, 2, none⟩ (.slice Ao52 t263.length co52)) w.heap.size (fun k_ => some k_ ≠ (.slice Ao33 t245.length co33 : Value).ownBlock) (.slice Ao37 t251.length co37) t251) := ⟨by (with_reducible repeat (first | apply Kd.R_alloc | apply Kd.R_drewN | apply Kd.R_drew)); exact Kd.R_mono (Kd.R_far (p := ⟨gb267, 2, none⟩) (Kd.R_far (p := ⟨gb267, 1, none⟩) (Kd.R_far (p := ⟨gb267, 0, none⟩) (Kd.R_far (p := ⟨gb266, 1, none⟩) (Kd.R_far (p := ⟨gb266, 0, none⟩) (Kd.R_types (Kd.R_types HO253.out BK266.out (by decide)) BK267.out (by decide)) (fun _ hk => hk.1.2) (.int .i64 t256)) (fun _ hk => hk.1.2) (.slice Ao47 t257.length co47)) (fun _ hk => hk.2) (.int .i64 t261)) (fun _ hk => hk.2) (.int .i64 t262)) (fun _ hk => hk.2) (.slice Ao52 t263.length co52)) (fun _ hk => hk.1.1)⟩
          have n2_ : Aside0 (Kd.V (Kd.int .u8) 5 (((((w41.setCell ⟨gb266, 0, none⟩ (.int .i64 t256)).setCell ⟨gb266, 1, none⟩ (.slice Ao47 t257.length co47)).setCell ⟨gb267, 0, none⟩ (.int .i64 t261)).setCell ⟨gb267, 1, none⟩ (.int .i64 t262)).setCell ⟨gb267, 2, none⟩ (.slice Ao52 t263.length co52)) w.heap.size (fun k_ => some k_ ≠ (.slice Ao33 t245.length co33 : Value).ownBlock ∧ some k_ ≠ (.slice Ao37 t251.length co37 : Value).ownBlock ∧ k_ ≠ gb242 ∧ k_ ≠ gb254 ∧ k_ ≠ gb255 ∧ k_ ≠ gb266 ∧ k_ ≠ gb267) (.slice Ao47 t257.length co47) t257) := ⟨by (with_reducible repeat (first | apply Kd.V_alloc | apply Kd.V_drewN | apply Kd.V_drew)); exact Kd.V_mono (Kd.V_far (p := ⟨gb267, 2, none⟩) (Kd.V_far (p := ⟨gb267, 1, none⟩) (Kd.V_far (p := ⟨gb267, 0, none⟩) (Kd.V_far (p := ⟨gb266, 1, none⟩) (Kd.V_far (p := ⟨gb266, 0, none⟩) (Kd.V_mono (Kd.V_mono HO259.out (fun k_ hk => (⟨hk, hk.1.2⟩ : _ ∧ k_ ≠ gb266))) (fun k_ hk => (⟨hk, hk.1.2⟩ : _ ∧ k_ ≠ gb267))) (fun _ hk => hk.1.2) (.int .i64 t256)) (fun _ hk => hk.1.2) (.slice Ao47 t257.length co47)) (fun _ hk => hk.2) (.int .i64 t261)) (fun _ hk => hk.2) (.int .i64 t262)) (fun _ hk => hk.2) (.slice Ao52 t263.length co52)) (fun _ hk => ⟨hk.1.1.1.1.1, ⟨hk.1.1.1.1.2.1, ⟨hk.1.1.1.1.2.2.1, ⟨hk.1.1.1.1.2.2.2.1, ⟨hk.1.1.1.1.2.2.2.2, ⟨hk.1.1.1.2, hk.1.1.2⟩⟩⟩⟩⟩⟩)⟩
          have n3_ : Aside0 (Kd.V (Kd.int .u8) 5 (((((w41.setCell ⟨gb266, 0, none⟩ (.int .i64 t256)).setCell ⟨gb266, 1, none⟩ (.slice Ao47 t257.length co47)).setCell ⟨gb267, 0, none⟩ (.int .i64 t261)).setCell ⟨gb267, 1, none⟩ (.int .i64 t262)).setCell ⟨gb267, 2, none⟩ (.slice Ao52 t263.length co52)) w.heap.size (fun k_ => some k_ ≠ (.slice Ao33 t245.length co33 : Value).ownBlock ∧ some k_ ≠ (.slice Ao37 t251.length co37 : Value).ownBlock ∧ k_ ≠ gb242 ∧ k_ ≠ gb254 ∧ k_ ≠ gb255 ∧ k_ ≠ gb266 ∧ k_ ≠ gb267) (.slice Ao52 t263.length co52) t263) := ⟨by (with_reducible repeat (first | apply Kd.V_alloc | apply Kd.V_drewN | apply Kd.V_drew)); exact Kd.V_mono (Kd.V_far (p := ⟨gb267, 2, none⟩) (Kd.V_far (p := ⟨gb267, 1, none⟩) (Kd.V_far (p := ⟨gb267, 0, none⟩) (Kd.V_far (p := ⟨gb266, 1, none⟩) (Kd.V_far (p := ⟨gb266, 0, none⟩) (Kd.V_mono (Kd.V_mono HO265.out (fun k_ hk => (⟨hk, hk.1.2⟩ : _ ∧ k_ ≠ gb266))) (fun k_ hk => (⟨hk, hk.1.2⟩ : _ ∧ k_ ≠ gb267))) (fun _ hk => hk.1.2) (.int .i64 t256)) (fun _ hk => hk.1.2) (.slice Ao47 t257.length co47)) (fun _ hk => hk.2) (.int .i64 t261)) (fun _ hk => hk.2) (.int .i64 t262)) (fun _ hk => hk.2) (.slice Ao52 t263.length co52)) (fun _ hk => ⟨hk.1.1.1.1.1, ⟨hk.1.1.1.1.2.1, ⟨hk.1.1.1.1.2.2.1, ⟨hk.1.1.1.1.2.2.2.1, ⟨hk.1.1.1.1.2.2.2.2, ⟨hk.1.1.1.2, hk.1.1.2⟩⟩⟩⟩⟩⟩)⟩
          have n4_ : Aside0 ((((((w41.setCell ⟨gb266, 0, none⟩ (.int .i64 t256)).setCell ⟨gb266, 1, none⟩ (.slice Ao47 t257.length co47)).setCell ⟨gb267, 0, none⟩ (.int .i64 t261)).setCell ⟨gb267, 1, none⟩ (.int .i64 t262)).setCell ⟨gb267, 2, none⟩ (.slice Ao52 t263.length co52)).heap[gb242]? = some (.cells #[.int .i64 a1_0, .slice A1_1 l1_1.length c1_1] 24 (0, 0))) := ⟨by (with_reducible repeat (first | refine kN ?_ _ | refine kD ?_ | refine kA ?_ _)); refine blk_far ?_ NB242_267.out _; (with_reducible repeat (first | refine kN ?_ _ | refine kD ?_ | refine kA ?_ _)); refine blk_far ?_ NB242_267.out _; (with_reducible repeat (first | refine kN ?_ _ | refine kD ?_ | refine kA ?_ _)); refine blk_far ?_ NB242_267.out _; (with_reducible repeat (first | refine kN ?_ _ | refine kD ?_ | refine kA ?_ _)); refine blk_far ?_ NB242_266.out _; (with_reducible repeat (first | refine kN ?_ _ | refine kD ?_ | refine kA ?_ _)); refine blk_far ?_ NB242_266.out _; (with_reducible repeat (first | refine kN ?_ _ | refine kD ?_ | refine kA ?_ _)); exact BK242.out⟩
          have n5_ : Aside0 ((((((w41.setCell ⟨gb266, 0, none⟩ (.int .i64 t256)).setCell ⟨gb266, 1, none⟩ (.slice Ao47 t257.length co47)).setCell ⟨gb267, 0, none⟩ (.int .i64 t261)).setCell ⟨gb267, 1, none⟩ (.int .i64 t262)).setCell ⟨gb267, 2, none⟩ (.slice Ao52 t263.length co52)).heap[gb254]? = some (.cells #[.int .i64 t244, .slice Ao33 t245.length co33] 24 (0, 0))) := ⟨by (with_reducible repeat (first | refine kN ?_ _ | refine kD ?_ | refine kA ?_ _)); refine blk_far ?_ NB254_267.out _; (with_reducible repeat (first | refine kN ?_ _ | refine kD ?_ | refine kA ?_ _)); refine blk_far ?_ NB254_267.out _; (with_reducible repeat (first | refine kN ?_ _ | refine kD ?_ | refine kA ?_ _)); refine blk_far ?_ NB254_267.out _; (with_reducible repeat (first | refine kN ?_ _ | refine kD ?_ | refine kA ?_ _)); refine blk_far ?_ NB254_266.out _; (with_reducible repeat (first | refine kN ?_ _ | refine kD ?_ | refine kA ?_ _)); refine blk_far ?_ NB254_266.out _; (with_reducible repeat (first | refine kN ?_ _ | refine kD ?_ | refine kA ?_ _)); exact BK254.out⟩
          have n6_ : Aside0 ((((((w41.setCell ⟨gb266, 0, none⟩ (.int .i64 t256)).setCell ⟨gb266, 1, none⟩ (.slice Ao47 t257.length co47)).setCell ⟨gb267, 0, none⟩ (.int .i64 t261)).setCell ⟨gb267, 1, none⟩ (.int .i64 t262)).setCell ⟨gb267, 2, none⟩ (.slice Ao52 t263.length co52)).heap[gb255]? = some (.cells #[.int .i64 t249, .int .i64 t250, .slice Ao37 t251.length co37] 27 (0, 0))) := ⟨by (with_reducible repeat (first | refine kN ?_ _ | refine kD ?_ | refine kA ?_ _)); refine blk_far ?_ NB255_267.out _; (with_reducible repeat (first | refine kN ?_ _ | refine kD ?_ | refine kA ?_ _)); refine blk_far ?_ NB255_267.out _; (with_reducible repeat (first | refine kN ?_ _ | refine kD ?_ | refine kA ?_ _)); refine blk_far ?_ NB255_267.out _; (with_reducible repeat (first | refine kN ?_ _ | refine kD ?_ | refine kA ?_ _)); refine blk_far ?_ NB255_266.out _; (with_reducible repeat (first | refine kN ?_ _ | refine kD ?_ | refine kA ?_ _)); refine blk_far ?_ NB255_266.out _; (with_reducible repeat (first | refine kN ?_ _ | refine kD ?_ | refine kA ?_ _)); exact BK255.out⟩
          have n7_ : Aside0 ((((((w41.setCell ⟨gb266, 0, none⟩ (.int .i64 t256)).setCell ⟨gb266, 1, none⟩ (.slice Ao47 t257.length co47)).setCell ⟨gb267, 0, none⟩ (.int .i64 t261)).setCell ⟨gb267, 1, none⟩ (.int .i64 t262)).setCell ⟨gb267, 2, none⟩ (.slice Ao52 t263.length co52)).heap[gb266]? = some (.cells #[.int .i64 t256, .slice Ao47 t257.length co47] 24 (0, 0))) := ⟨by (with_reducible repeat (first | refine kN ?_ _ | refine kD ?_ | refine kA ?_ _)); refine blk_far ?_ NB266_267.out _; (with_reducible repeat (first | refine kN ?_ _ | refine kD ?_ | refine kA ?_ _)); refine blk_far ?_ NB266_267.out _; (with_reducible repeat (first | refine kN ?_ _ | refine kD ?_ | refine kA ?_ _)); refine blk_far ?_ NB266_267.out _; (with_reducible repeat (first | refine kN ?_ _ | refine kD ?_ | refine kA ?_ _)); refine blk_put (cs := #[.int .i64 t256, .slice none 0 0]) ?_ 1 _ rfl; (with_reducible repeat (first | refine kN ?_ _ | refine kD ?_ | refine kA ?_ _)); refine blk_put (cs := #[.int .i64 0, .slice none 0 0]) ?_ 0 _ rfl; (with_reducible repeat (first | refine kN ?_ _ | refine kD ?_ | refine kA ?_ _)); exact BK266.out⟩
          have n8_ : Aside0 ((((((w41.setCell ⟨gb266, 0, none⟩ (.int .i64 t256)).setCell ⟨gb266, 1, none⟩ (.slice Ao47 t257.length co47)).setCell ⟨gb267, 0, none⟩ (.int .i64 t261)).setCell ⟨gb267, 1, none⟩ (.int .i64 t262)).setCell ⟨gb267, 2, none⟩ (.slice Ao52 t263.length co52)).heap[gb267]? = some (.cells #[.int .i64 t261, .int .i64 t262, .slice Ao52 t263.length co52] 27 (0, 0))) := ⟨by (with_reducible repeat (first | refine kN ?_ _ | refine kD ?_ | refine kA ?_ _)); refine blk_put (cs := #[.int .i64 t261, .int .i64 t262, .slice none 0 0]) ?_ 2 _ rfl; (with_reducible repeat (first | refine kN ?_ _ | refine kD ?_ | refine kA ?_ _)); refine blk_put (cs := #[.int .i64 t261, .int .i64 0, .slice none 0 0]) ?_ 1 _ rfl; (with_reducible repeat (first | refine kN ?_ _ | refine kD ?_ | refine kA ?_ _)); refine blk_put (cs := #[.int .i64 0, .int .i64 0, .slice none 0 0]) ?_ 0 _ rfl; (with_reducible repeat (first | refine kN ?_ _ | refine kD ?_ | refine kA ?_ _)); refine blk_far ?_ NB267_266.out _; (with_reducible repeat (first | refine kN ?_ _ | refine kD ?_ | refine kA ?_ _)); refine blk_far ?_ NB267_266.out _; (with_reducible repeat (first | refine kN ?_ _ | refine kD ?_ | refine kA ?_ _)); exact BK267.out⟩
          have n9_ : Aside0 (Below w.heap.size w (((((w41.setCell ⟨gb266, 0, none⟩ (.int .i64 t256)).setCell ⟨gb266, 1, none⟩ (.slice Ao47 t257.length co47)).setCell ⟨gb267, 0, none⟩ (.int .i64 t261)).setCell ⟨gb267, 1, none⟩ (.int .i64 t262)).setCell ⟨gb267, 2, none⟩ (.slice Ao52 t263.length co52))) := ⟨by repeat (first | (with_reducible first | exact HB.out | apply bA | apply bN | apply bD | refine bS ?_ GE242.out | refine bS ?_ GE254.out | refine bS ?_ GE255.out | refine bS ?_ GE266.out | refine bS ?_ GE267.out) | exact HB.out)⟩
          (try clear HO247)
          (try clear HO253)
          (try clear HO259)
          (try clear HO265)
          (try clear BK242)
          (try clear BK254)
          (try clear BK255)
          (try clear BK266)
          (try clear BK267)
          (try clear HB)
          generalize (((((w41.setCell ⟨gb266, 0, none⟩ (.int .i64 t256)).setCell ⟨gb266, 1, none⟩ (.slice Ao47 t257.length co47)).setCell ⟨gb267, 0, none⟩ (.int .i64 t261)).setCell ⟨gb267, 1, none⟩ (.int .i64 t262)).setCell ⟨gb267, 2, none⟩ (.slice Ao52 t263.length co52)) = w53 at n0_ n1_ n2_ n3_ n4_ n5_ n6_ n7_ n8_ n9_ ⊢
          have HO247 := n0_
          have HO253 := n1_
          have HO259 := n2_
          have HO265 := n3_
          have BK242 := n4_
          have BK254 := n5_
          have BK255 := n6_
          have BK266 := n7_
          have BK267 := n8_
          have HB := n9_
          clear n0_ n1_ n2_ n3_ n4_ n5_ n6_ n7_ n8_ n9_
          have n0_ := Aside0.mk (Kd.R_drew HO247.out)
          have n1_ := Aside0.mk (Kd.R_drew HO253.out)
          have n2_ := Aside0.mk (Kd.V_drew HO259.out)
          have n3_ := Aside0.mk (Kd.V_drew HO265.out)
          have n4_ := Aside0.mk (blk_drew BK242.out)
          have n5_ := Aside0.mk (blk_drew BK254.out)
          have n6_ := Aside0.mk (blk_drew BK255.out)
          have n7_ := Aside0.mk (blk_drew BK266.out)
          have n8_ := Aside0.mk (blk_drew BK267.out)
          have n9_ := Aside0.mk (below_drew1 HB.out)
          clear HO247
          clear HO253
          clear HO259
          clear HO265
          clear BK242
          clear BK254
          clear BK255
          clear BK266
          clear BK267
          clear HB
          have HO247 := n0_
          have HO253 := n1_
          have HO259 := n2_
          have HO265 := n3_
          have BK242 := n4_
          have BK254 := n5_
          have BK255 := n6_
          have BK266 := n7_
          have BK267 := n8_
          have HB := n9_
          clear n0_ n1_ n2_ n3_ n4_ n5_ n6_ n7_ n8_ n9_
          refine start_ (n := 42) (S := fun w' => True) (ds := []) #[false, false, false, false, false, false, false, false, false, false, false, false, false, false, false, false, false, false, false, false, false, false, false, false, false, false, false, false, false, false, false, false, false, false, false, false, false, false, false, false, false, false] (by kernel_rfl) rfl rfl trivial (fun hHeld => ?_); refine with_tabW ridgewaylaw03_MsgIs.tab6 ridgewaylaw03_MsgIs.bits6 (fun HT_ HW_ => ?_)
          generalize w53.drew = w54 at HO247 HO253 HO259 HO265 BK242 BK254 BK255 BK266 BK267 HB hHeld ⊢
          refine pure_ (i := 0) (N := some 37) (v := ?_) (a' := ?_) #[true, false, false, false, false, false, false, false, false, false, false, false, false, false, false, false, false, false, false, false, false, false, false, false, false, false, false, false, false, false, false, false, false, false, false, false, false, false, false, false, false, false] rfl rfl (any_of HT_.out (by kernel_rfl)) (fun _ _ _ h => h) (Or.inl ⟨by rfl, ?_⟩) ?_ ?_
          rotate_left
          ·
           intro w'
           go_simp
           with_reducible rfl
          rotate_left
          ·
           simp only [Act.put, sA, sB, sC, i64_w, i32_w]
           rfl
          refine pure_ (i := 1) (N := some 38) (v := ?_) (a' := ?_) #[true, true, false, false, false, false, false, false, false, false, false, false, false, false, false, false, false, false, false, false, false, false, false, false, false, false, false, false, false, false, false, false, false, false, false, false, false, false, false, false, false, false] rfl rfl (any_of HT_.out (by kernel_rfl)) (fun _ _ _ h => h) (Or.inl ⟨by rfl, ?_⟩) ?_ ?_
          rotate_left
          ·
           intro w'
           go_simp
           with_reducible rfl
          rotate_left
          ·
           simp only [Act.put, sA, sB, sC, i64_w, i32_w]
           rfl
          refine inv_at [2, 3, 4, 5, 6, 7, 8, 9, 10, 11, 12, 13, 14, 15, 16, 17, 18, 19, 20, 21, 22, 23, 24, 25, 26, 27, 28, 29, 30, 31, 32, 33, 34, 35, 36, 37, 38, 39, 40, 41] (fun a0_ b a w' => ∃ (v275 : Value) (v278 : Value), a = putSel a0_ b [(2, 39, .agg #[.int .i64 t244, .slice Ao33 t245.length co33]), (3, 40, .agg #[.int .i64 t256, .slice Ao47 t257.length co47]), (4, 41, .bool true), (5, 42, .bool true), (6, 43, .bool true), (7, 44, .int .i64 t248), (8, 45, .int .i64 t260), (9, 46, .bool (t248 == t260)), (10, 47, .bool (t248 == t260)), (11, 48, .bool (t248 == t260)), (12, 49, .agg #[.int .i64 t249, .int .i64 t250, .slice Ao37 t251.length co37]), (13, 50, .agg #[.int .i64 t261, .int .i64 t262, .slice Ao52 t263.length co52]), (14, 51, .bool true), (15, 52, .bool true), (16, 53, .bool true), (17, 54, .int .i64 a2), (18, 55, .int .i64 t270), (19, 56, .int .i64 a2), (20, 57, .int .i64 t271), (21, 58, .bool (t270 == t271)), (22, 59, .bool (t270 == t271)), (23, 60, .bool (t270 == t271)), (24, 61, .agg #[.int .i64 a1_0, .slice A1_1 l1_1.length c1_1]), (25, 62, .bool t272), (26, 63, .agg #[.int .i64 a1_0, .slice A1_1 l1_1.length c1_1]), (27, 64, .bool t273), (28, 65, .bool (t272 == t273)), (29, 66, .bool (t272 == t273)), (30, 67, .bool (t272 == t273)), (31, 68, .slice A0 l0.length c0), (32, 69, .agg #[.int .i64 a1_0, .slice A1_1 l1_1.length c1_1]), (33, 70, v275), (34, 71, .string (strOfNums t274)), (35, 72, .slice A0 l0.length c0), (36, 73, .agg #[.int .i64 a1_0, .slice A1_1 l1_1.length c1_1]), (37, 74, v278), (38, 75, .string (strOfNums t277)), (39, 76, .bool ((strOfNums t274).toList == (strOfNums t277).toList)), (40, 77, .bool ((strOfNums t274).toList == (strOfNums t277).toList)), (41, 6, .bool ((strOfNums t274).toList == (strOfNums t277).toList))] ∧ (Kd.R (Kd.int .u8) 5 w' w.heap.size (fun k_ => some k_ ≠ (.slice Ao37 t251.length co37 : Value).ownBlock) (.slice Ao33 t245.length co33) t245) ∧ (Kd.R (Kd.int .u8) 5 w' w.heap.size (fun k_ => some k_ ≠ (.slice Ao33 t245.length co33 : Value).ownBlock) (.slice Ao37 t251.length co37) t251) ∧ (Kd.V (Kd.int .u8) 5 w' w.heap.size (fun k_ => some k_ ≠ (.slice Ao33 t245.length co33 : Value).ownBlock ∧ some k_ ≠ (.slice Ao37 t251.length co37 : Value).ownBlock ∧ k_ ≠ gb242 ∧ k_ ≠ gb254 ∧ k_ ≠ gb255 ∧ k_ ≠ gb266 ∧ k_ ≠ gb267) (.slice Ao47 t257.length co47) t257) ∧ (Kd.V (Kd.int .u8) 5 w' w.heap.size (fun k_ => some k_ ≠ (.slice Ao33 t245.length co33 : Value).ownBlock ∧ some k_ ≠ (.slice Ao37 t251.length co37 : Value).ownBlock ∧ k_ ≠ gb242 ∧ k_ ≠ gb254 ∧ k_ ≠ gb255 ∧ k_ ≠ gb266 ∧ k_ ≠ gb267) (.slice Ao52 t263.length co52) t263) ∧ (w'.heap[gb242]? = some (.cells #[.int .i64 a1_0, .slice A1_1 l1_1.length c1_1] 24 (0, 0))) ∧ (w'.heap[gb254]? = some (.cells #[.int .i64 t244, .slice Ao33 t245.length co33] 24 (0, 0))) ∧ (w'.heap[gb255]? = some (.cells #[.int .i64 t249, .int .i64 t250, .slice Ao37 t251.length co37] 27 (0, 0))) ∧ (w'.heap[gb266]? = some (.cells #[.int .i64 t256, .slice Ao47 t257.length co47] 24 (0, 0))) ∧ (w'.heap[gb267]? = some (.cells #[.int .i64 t261, .int .i64 t262, .slice Ao52 t263.length co52] 27 (0, 0))) ∧ (Below w.heap.size w w') ∧ (b 33 = true → Kd.R (Kd.int .u8) 5 w' w.heap.size (fun k_ => some k_ ≠ (.slice Ao33 t245.length co33 : Value).ownBlock ∧ some k_ ≠ (.slice Ao37 t251.length co37 : Value).ownBlock) v275 t274) ∧ (b 37 = true → Kd.R (Kd.int .u8) 5 w' w.heap.size (fun k_ => some k_ ≠ (.slice Ao33 t245.length co33 : Value).ownBlock ∧ some k_ ≠ (.slice Ao37 t251.length co37 : Value).ownBlock) v278 t277)) HT_.out HW_.out (by kernel_rfl) (by kernel_rfl) ?_ ?_ ?_
          ·
           exact ⟨.bool false, .bool false, by simp only [putSel, Bool.false_eq_true, if_false], (by first | exact HO247.out | exact (by (with_reducible repeat (first | apply Kd.R_alloc | apply Kd.R_drewN | apply Kd.R_drew)); first | exact HO247.out | exact Kd.R_mono HO247.out (by intro k_ hk; first | exact hk | trivial | (simp only [true_and, and_true, and_assoc] at hk ⊢; first | exact hk | trivial) | simp_all))), (by first | exact HO253.out | exact (by (with_reducible repeat (first | apply Kd.R_alloc | apply Kd.R_drewN | apply Kd.R_drew)); first | exact HO253.out | exact Kd.R_mono HO253.out (by intro k_ hk; first | exact hk | trivial | (simp only [true_and, and_true, and_assoc] at hk ⊢; first | exact hk | trivial) | simp_all))), (by first | exact HO259.out | exact (by (with_reducible repeat (first | apply Kd.V_alloc | apply Kd.V_drewN | apply Kd.V_drew)); first | exact HO259.out | exact Kd.V_mono HO259.out (by intro k_ hk; first | exact hk | trivial | (simp only [true_and, and_true, and_assoc] at hk ⊢; first | exact hk | trivial) | simp_all))), (by first | exact HO265.out | exact (by (with_reducible repeat (first | apply Kd.V_alloc | apply Kd.V_drewN | apply Kd.V_drew)); first | exact HO265.out | exact Kd.V_mono HO265.out (by intro k_ hk; first | exact hk | trivial | (simp only [true_and, and_true, and_assoc] at hk ⊢; first | exact hk | trivial) | simp_all))), (by first | exact BK242.out | exact (by (with_reducible repeat (first | refine kN ?_ _ | refine kD ?_ | refine kA ?_ _)); exact BK242.out)), (by first | exact BK254.out | exact (by (with_reducible repeat (first | refine kN ?_ _ | refine kD ?_ | refine kA ?_ _)); exact BK254.out)), (by first | exact BK255.out | exact (by (with_reducible repeat (first | refine kN ?_ _ | refine kD ?_ | refine kA ?_ _)); exact BK255.out)), (by first | exact BK266.out | exact (by (with_reducible repeat (first | refine kN ?_ _ | refine kD ?_ | refine kA ?_ _)); exact BK266.out)), (by first | exact BK267.out | exact (by (with_reducible repeat (first | refine kN ?_ _ | refine kD ?_ | refine kA ?_ _)); exact BK267.out)), (by first | exact HB.out | exact (by repeat (first | (with_reducible first | exact HB.out | apply bA | apply bN | apply bD | refine bS ?_ GE242.out | refine bS ?_ GE254.out | refine bS ?_ GE255.out | refine bS ?_ GE266.out | refine bS ?_ GE267.out) | exact HB.out))), fun h_ => absurd h_ (by decide), fun h_ => absurd h_ (by decide)⟩
          ·
           skip
           clear BK242 BK254 BK255 BK266 BK267 HB HO247 HO253 HO259 HO265
           refine steps_cons ?_ ?_
           ·
            rintro b a w' ⟨v275, v278, ha, Q_HO247, Q_HO253, Q_HO259, Q_HO265, Q_BK242, Q_BK254, Q_BK255, Q_BK266, Q_BK267, Q_HB, Q_HO276, Q_HO279⟩ hb_ hon hoff
            refine ⟨_, rfl, fun K hK => ?_⟩
            have e8 : a.tmps[8]? = some (.pointer (some ⟨gb254, 0, none⟩)) := by rw [ha]; exact (putSel_off rfl).trans rfl
            have e38 : a.tmps[38]? = some (.bool true) := by rw [ha]; exact (putSel_off rfl).trans rfl
            replace ha := Aside0.mk ha
            have HO247 := Aside0.mk Q_HO247
            have HO253 := Aside0.mk Q_HO253
            have HO259 := Aside0.mk Q_HO259
            have HO265 := Aside0.mk Q_HO265
            have BK242 := Aside0.mk Q_BK242
            have BK254 := Aside0.mk Q_BK254
            have BK255 := Aside0.mk Q_BK255
            have BK266 := Aside0.mk Q_BK266
            have BK267 := Aside0.mk Q_BK267
            have HB := Aside0.mk Q_HB
            have hc0_ : w'.cell? ⟨gb254, 0, none⟩ = some (.int .i64 t244) := (blk_cell BK254.out 0).trans rfl
            have hc1_ : w'.cell? ⟨gb254, 1, none⟩ = some (.slice Ao33 t245.length co33) := (blk_cell BK254.out 1).trans rfl
            refine value_ (w1 := w') (v := .agg #[.int .i64 t244, .slice Ao33 t245.length co33]) (wanted_on rfl rfl rfl (e38.trans (by first | rfl | (simp [*]; done)))) rfl ?_ ?_
            ·
             go_simp
             (try simp only [i64_w])
             try rfl
             all_goals (first | rfl | (simp [bne]; done))
            refine hK.out _ _ ⟨v275, v278, (by rw [ha.out]; exact putSel_upk 0 hb_ rfl rfl rfl), Q_HO247, Q_HO253, Q_HO259, Q_HO265, Q_BK242, Q_BK254, Q_BK255, Q_BK266, Q_BK267, Q_HB, fun h0_ => absurd ((hoff 33 (by kernel_rfl)).symm.trans h0_) (by decide), fun h0_ => absurd ((hoff 37 (by kernel_rfl)).symm.trans h0_) (by decide)⟩
           refine steps_cons ?_ ?_
           ·
            rintro b a w' ⟨v275, v278, ha, Q_HO247, Q_HO253, Q_HO259, Q_HO265, Q_BK242, Q_BK254, Q_BK255, Q_BK266, Q_BK267, Q_HB, Q_HO276, Q_HO279⟩ hb_ hon hoff
            refine ⟨_, rfl, fun K hK => ?_⟩
            have e11 : a.tmps[11]? = some (.pointer (some ⟨gb266, 0, none⟩)) := by rw [ha]; exact (putSel_off rfl).trans rfl
            have e38 : a.tmps[38]? = some (.bool true) := by rw [ha]; exact (putSel_off rfl).trans rfl
            replace ha := Aside0.mk ha
            have HO247 := Aside0.mk Q_HO247
            have HO253 := Aside0.mk Q_HO253
            have HO259 := Aside0.mk Q_HO259
            have HO265 := Aside0.mk Q_HO265
            have BK242 := Aside0.mk Q_BK242
            have BK254 := Aside0.mk Q_BK254
            have BK255 := Aside0.mk Q_BK255
            have BK266 := Aside0.mk Q_BK266
            have BK267 := Aside0.mk Q_BK267
            have HB := Aside0.mk Q_HB
            have hc0_ : w'.cell? ⟨gb266, 0, none⟩ = some (.int .i64 t256) := (blk_cell BK266.out 0).trans rfl
            have hc1_ : w'.cell? ⟨gb266, 1, none⟩ = some (.slice Ao47 t257.length co47) := (blk_cell BK266.out 1).trans rfl
            refine value_ (w1 := w') (v := .agg #[.int .i64 t256, .slice Ao47 t257.length co47]) (wanted_on rfl rfl rfl (e38.trans (by first | rfl | (simp [*]; done)))) rfl ?_ ?_
            ·
             go_simp
             (try simp only [i64_w])
             try rfl
             all_goals (first | rfl | (simp [bne]; done))
            refine hK.out _ _ ⟨v275, v278, (by rw [ha.out]; exact putSel_upk 1 hb_ rfl rfl rfl), Q_HO247, Q_HO253, Q_HO259, Q_HO265, Q_BK242, Q_BK254, Q_BK255, Q_BK266, Q_BK267, Q_HB, fun h0_ => absurd ((hoff 33 (by kernel_rfl)).symm.trans h0_) (by decide), fun h0_ => absurd ((hoff 37 (by kernel_rfl)).symm.trans h0_) (by decide)⟩
           refine steps_cons ?_ ?_
           ·
            rintro b a w' ⟨v275, v278, ha, Q_HO247, Q_HO253, Q_HO259, Q_HO265, Q_BK242, Q_BK254, Q_BK255, Q_BK266, Q_BK267, Q_HB, Q_HO276, Q_HO279⟩ hb_ hon hoff
            refine ⟨_, rfl, fun K hK => ?_⟩
            have e39 : a.tmps[39]? = some (.agg #[.int .i64 t244, .slice Ao33 t245.length co33]) := by rw [ha]; exact putSel_on (e := (2, 39, .agg #[.int .i64 t244, .slice Ao33 t245.length co33])) 0 rfl rfl (hon 2 (by kernel_rfl)) rfl
            have e40 : a.tmps[40]? = some (.agg #[.int .i64 t256, .slice Ao47 t257.length co47]) := by rw [ha]; exact putSel_on (e := (3, 40, .agg #[.int .i64 t256, .slice Ao47 t257.length co47])) 1 rfl rfl (hon 3 (by kernel_rfl)) rfl
            have e38 : a.tmps[38]? = some (.bool true) := by rw [ha]; exact (putSel_off rfl).trans rfl
            replace ha := Aside0.mk ha
            have HO247 := Aside0.mk Q_HO247
            have HO253 := Aside0.mk Q_HO253
            have HO259 := Aside0.mk Q_HO259
            have HO265 := Aside0.mk Q_HO265
            have BK242 := Aside0.mk Q_BK242
            have BK254 := Aside0.mk Q_BK254
            have BK255 := Aside0.mk Q_BK255
            have BK266 := Aside0.mk Q_BK266
            have BK267 := Aside0.mk Q_BK267
            have HB := Aside0.mk Q_HB
            refine goes_ Try.func11 (by kernel_rfl) rfl #[.agg #[.int .i64 t244, .slice Ao33 t245.length co33], .agg #[.int .i64 t256, .slice Ao47 t257.length co47]] (wanted_on rfl rfl rfl (e38.trans (by first | rfl | (simp [*]; done)))) rfl rfl (by first | (simp only [List.map_toArray, List.map_cons, List.map_nil, Act.eval, Array.getD_eq_getD_getElem?, Option.getD_some, e39, e40, e38]; done) | (simp only [List.map_toArray, List.map_cons, List.map_nil, Act.eval, Array.getD_eq_getD_getElem?, Option.getD_some, e39, e40, e38]; rfl)) ?_
            with_reducible refine (ridgewayref03_Same.calls t244 _ _ t245 t256 _ _ t257 true _ ?side1 ?side2 ?side3 ?side4 A14.out).mono ?_
            (case side1 => repeat (first | exact (Kd.R_reads' HO247.out).2.2 | (with_reducible refine Kd.C_alloc ?_ _) | (with_reducible refine Kd.C_drewN ?_ _) | (with_reducible refine Kd.C_drew ?_)))
            (case side2 => exact (Kd.R_reads' HO247.out).2.1)
            (case side3 => repeat (first | exact (Kd.V_reads' HO259.out).2.2 | (with_reducible refine Kd.C_alloc ?_ _) | (with_reducible refine Kd.C_drewN ?_ _) | (with_reducible refine Kd.C_drew ?_)))
            (case side4 => exact (Kd.V_reads' HO259.out).2.1)
            rintro e w55 ⟨rfl, hb⟩
            refine ⟨_, rfl, ?_⟩
            have n0_ := Aside0.mk (Kd.R_below (by (with_reducible repeat (first | apply Kd.R_alloc | apply Kd.R_drewN | apply Kd.R_drew)); first | exact HO247.out | exact Kd.R_mono HO247.out (by intro k_ hk; first | exact hk | trivial | (simp only [true_and, and_true, and_assoc] at hk ⊢; first | exact hk | trivial) | simp_all)) hb)
            have n1_ := Aside0.mk (Kd.R_below (by (with_reducible repeat (first | apply Kd.R_alloc | apply Kd.R_drewN | apply Kd.R_drew)); first | exact HO253.out | exact Kd.R_mono HO253.out (by intro k_ hk; first | exact hk | trivial | (simp only [true_and, and_true, and_assoc] at hk ⊢; first | exact hk | trivial) | simp_all)) hb)
            have n2_ := Aside0.mk (Kd.V_below (by (with_reducible repeat (first | apply Kd.V_alloc | apply Kd.V_drewN | apply Kd.V_drew)); first | exact HO259.out | exact Kd.V_mono HO259.out (by intro k_ hk; first | exact hk | trivial | (simp only [true_and, and_true, and_assoc] at hk ⊢; first | exact hk | trivial) | simp_all)) hb)
            have n3_ := Aside0.mk (Kd.V_below (by (with_reducible repeat (first | apply Kd.V_alloc | apply Kd.V_drewN | apply Kd.V_drew)); first | exact HO265.out | exact Kd.V_mono HO265.out (by intro k_ hk; first | exact hk | trivial | (simp only [true_and, and_true, and_assoc] at hk ⊢; first | exact hk | trivial) | simp_all)) hb)
            have n4_ := Aside0.mk (blk_below (g := gb242) (o := .cells #[.int .i64 a1_0, .slice A1_1 l1_1.length c1_1] 24 (0, 0)) (by (with_reducible repeat (first | refine kN ?_ _ | refine kD ?_ | refine kA ?_ _)); exact BK242.out) hb)
            have n5_ := Aside0.mk (blk_below (g := gb254) (o := .cells #[.int .i64 t244, .slice Ao33 t245.length co33] 24 (0, 0)) (by (with_reducible repeat (first | refine kN ?_ _ | refine kD ?_ | refine kA ?_ _)); exact BK254.out) hb)
            have n6_ := Aside0.mk (blk_below (g := gb255) (o := .cells #[.int .i64 t249, .int .i64 t250, .slice Ao37 t251.length co37] 27 (0, 0)) (by (with_reducible repeat (first | refine kN ?_ _ | refine kD ?_ | refine kA ?_ _)); exact BK255.out) hb)
            have n7_ := Aside0.mk (blk_below (g := gb266) (o := .cells #[.int .i64 t256, .slice Ao47 t257.length co47] 24 (0, 0)) (by (with_reducible repeat (first | refine kN ?_ _ | refine kD ?_ | refine kA ?_ _)); exact BK266.out) hb)
            have n8_ := Aside0.mk (blk_below (g := gb267) (o := .cells #[.int .i64 t261, .int .i64 t262, .slice Ao52 t263.length co52] 27 (0, 0)) (by (with_reducible repeat (first | refine kN ?_ _ | refine kD ?_ | refine kA ?_ _)); exact BK267.out) hb)
            have n9_ := Aside0.mk (below_step (by repeat (first | (with_reducible first | exact HB.out | apply bA | apply bN | apply bD | refine bS ?_ GE242.out | refine bS ?_ GE254.out | refine bS ?_ GE255.out | refine bS ?_ GE266.out | refine bS ?_ GE267.out) | exact HB.out)) hb)
            clear HO247
            clear HO253
            clear HO259
            clear HO265
            clear BK242
            clear BK254
            clear BK255
            clear BK266
            clear BK267
            clear HB
            have HO247 := n0_
            have HO253 := n1_
            have HO259 := n2_
            have HO265 := n3_
            have BK242 := n4_
            have BK254 := n5_
            have BK255 := n6_
            have BK266 := n7_
            have BK267 := n8_
            have HB := n9_
            clear n0_ n1_ n2_ n3_ n4_ n5_ n6_ n7_ n8_ n9_
            (try clear hb)
            (try clear hb2)
            (try clear hk)
            (try clear hi)
            refine hK.out _ _ ⟨v275, v278, (by rw [ha.out]; exact putSel_upk 2 hb_ rfl rfl rfl), (by (with_reducible repeat (first | apply Kd.R_alloc | apply Kd.R_drewN | apply Kd.R_drew)); first | exact HO247.out | exact Kd.R_mono HO247.out (by intro k_ hk; first | exact hk | trivial | (simp only [true_and, and_true, and_assoc] at hk ⊢; first | exact hk | trivial) | simp_all)), (by (with_reducible repeat (first | apply Kd.R_alloc | apply Kd.R_drewN | apply Kd.R_drew)); first | exact HO253.out | exact Kd.R_mono HO253.out (by intro k_ hk; first | exact hk | trivial | (simp only [true_and, and_true, and_assoc] at hk ⊢; first | exact hk | trivial) | simp_all)), (by (with_reducible repeat (first | apply Kd.V_alloc | apply Kd.V_drewN | apply Kd.V_drew)); first | exact HO259.out | exact Kd.V_mono HO259.out (by intro k_ hk; first | exact hk | trivial | (simp only [true_and, and_true, and_assoc] at hk ⊢; first | exact hk | trivial) | simp_all)), (by (with_reducible repeat (first | apply Kd.V_alloc | apply Kd.V_drewN | apply Kd.V_drew)); first | exact HO265.out | exact Kd.V_mono HO265.out (by intro k_ hk; first | exact hk | trivial | (simp only [true_and, and_true, and_assoc] at hk ⊢; first | exact hk | trivial) | simp_all)), (by (with_reducible repeat (first | refine kN ?_ _ | refine kD ?_ | refine kA ?_ _)); exact BK242.out), (by (with_reducible repeat (first | refine kN ?_ _ | refine kD ?_ | refine kA ?_ _)); exact BK254.out), (by (with_reducible repeat (first | refine kN ?_ _ | refine kD ?_ | refine kA ?_ _)); exact BK255.out), (by (with_reducible repeat (first | refine kN ?_ _ | refine kD ?_ | refine kA ?_ _)); exact BK266.out), (by (with_reducible repeat (first | refine kN ?_ _ | refine kD ?_ | refine kA ?_ _)); exact BK267.out), (by repeat (first | (with_reducible first | exact HB.out | apply bA | apply bN | apply bD | refine bS ?_ GE242.out | refine bS ?_ GE254.out | refine bS ?_ GE255.out | refine bS ?_ GE266.out | refine bS ?_ GE267.out) | exact HB.out)), fun h0_ => absurd ((hoff 33 (by kernel_rfl)).symm.trans h0_) (by decide), fun h0_ => absurd ((hoff 37 (by kernel_rfl)).symm.trans h0_) (by decide)⟩
           refine steps_cons ?_ ?_
           ·
            rintro b a w' ⟨v275, v278, ha, Q_HO247, Q_HO253, Q_HO259, Q_HO265, Q_BK242, Q_BK254, Q_BK255, Q_BK266, Q_BK267, Q_HB, Q_HO276, Q_HO279⟩ hb_ hon hoff
            refine ⟨_, rfl, fun K hK => ?_⟩
            have e38 : a.tmps[38]? = some (.bool true) := by rw [ha]; exact (putSel_off rfl).trans rfl
            have e41 : a.tmps[41]? = some (.bool true) := by rw [ha]; exact putSel_on (e := (4, 41, .bool true)) 2 rfl rfl (hon 4 (by kernel_rfl)) rfl
            replace ha := Aside0.mk ha
            have HO247 := Aside0.mk Q_HO247
            have HO253 := Aside0.mk Q_HO253
            have HO259 := Aside0.mk Q_HO259
            have HO265 := Aside0.mk Q_HO265
            have BK242 := Aside0.mk Q_BK242
            have BK254 := Aside0.mk Q_BK254
            have BK255 := Aside0.mk Q_BK255
            have BK266 := Aside0.mk Q_BK266
            have BK267 := Aside0.mk Q_BK267
            have HB := Aside0.mk Q_HB
            refine value_ (w1 := w') (v := .bool true) (by rfl) rfl ?_ ?_
            ·
             go_simp
             (try simp only [i64_w])
             try rfl
             all_goals (first | rfl | (simp [bne]; done))
            refine hK.out _ _ ⟨v275, v278, (by rw [ha.out]; exact putSel_upk 3 hb_ rfl rfl rfl), Q_HO247, Q_HO253, Q_HO259, Q_HO265, Q_BK242, Q_BK254, Q_BK255, Q_BK266, Q_BK267, Q_HB, fun h0_ => absurd ((hoff 33 (by kernel_rfl)).symm.trans h0_) (by decide), fun h0_ => absurd ((hoff 37 (by kernel_rfl)).symm.trans h0_) (by decide)⟩
           refine steps_cons ?_ ?_
           ·
            rintro b a w' ⟨v275, v278, ha, Q_HO247, Q_HO253, Q_HO259, Q_HO265, Q_BK242, Q_BK254, Q_BK255, Q_BK266, Q_BK267, Q_HB, Q_HO276, Q_HO279⟩ hb_ hon hoff
            refine ⟨_, rfl, fun K hK => ?_⟩
            have e42 : a.tmps[42]? = some (.bool true) := by rw [ha]; exact putSel_on (e := (5, 42, .bool true)) 3 rfl rfl (hon 5 (by kernel_rfl)) rfl
            replace ha := Aside0.mk ha
            have HO247 := Aside0.mk Q_HO247
            have HO253 := Aside0.mk Q_HO253
            have HO259 := Aside0.mk Q_HO259
            have HO265 := Aside0.mk Q_HO265
            have BK242 := Aside0.mk Q_BK242
            have BK254 := Aside0.mk Q_BK254
            have BK255 := Aside0.mk Q_BK255
            have BK266 := Aside0.mk Q_BK266
            have BK267 := Aside0.mk Q_BK267
            have HB := Aside0.mk Q_HB
            refine value_ (w1 := w') (v := .bool true) (by rfl) rfl ?_ ?_
            ·
             go_simp
             (try simp only [i64_w])
             try rfl
             all_goals (first | rfl | (simp [bne]; done))
            refine hK.out _ _ ⟨v275, v278, (by rw [ha.out]; exact putSel_upk 4 hb_ rfl rfl rfl), Q_HO247, Q_HO253, Q_HO259, Q_HO265, Q_BK242, Q_BK254, Q_BK255, Q_BK266, Q_BK267, Q_HB, fun h0_ => absurd ((hoff 33 (by kernel_rfl)).symm.trans h0_) (by decide), fun h0_ => absurd ((hoff 37 (by kernel_rfl)).symm.trans h0_) (by decide)⟩
           refine steps_cons ?_ ?_
           ·
            rintro b a w' ⟨v275, v278, ha, Q_HO247, Q_HO253, Q_HO259, Q_HO265, Q_BK242, Q_BK254, Q_BK255, Q_BK266, Q_BK267, Q_HB, Q_HO276, Q_HO279⟩ hb_ hon hoff
            refine ⟨_, rfl, fun K hK => ?_⟩
            have e9 : a.tmps[9]? = some (.int .i64 t248) := by rw [ha]; exact (putSel_off rfl).trans rfl
            have e43 : a.tmps[43]? = some (.bool true) := by rw [ha]; exact putSel_on (e := (6, 43, .bool true)) 4 rfl rfl (hon 6 (by kernel_rfl)) rfl
            replace ha := Aside0.mk ha
            have HO247 := Aside0.mk Q_HO247
            have HO253 := Aside0.mk Q_HO253
            have HO259 := Aside0.mk Q_HO259
            have HO265 := Aside0.mk Q_HO265
            have BK242 := Aside0.mk Q_BK242
            have BK254 := Aside0.mk Q_BK254
            have BK255 := Aside0.mk Q_BK255
            have BK266 := Aside0.mk Q_BK266
            have BK267 := Aside0.mk Q_BK267
            have HB := Aside0.mk Q_HB
            refine value_ (w1 := w') (v := .int .i64 t248) (wanted_on rfl rfl rfl (e43.trans (by first | rfl | (simp [*]; done)))) rfl ?_ ?_
            ·
             go_simp
             (try simp only [i64_w])
             try rfl
             all_goals (first | rfl | (simp [bne]; done))
            refine hK.out _ _ ⟨v275, v278, (by rw [ha.out]; exact putSel_upk 5 hb_ rfl rfl rfl), Q_HO247, Q_HO253, Q_HO259, Q_HO265, Q_BK242, Q_BK254, Q_BK255, Q_BK266, Q_BK267, Q_HB, fun h0_ => absurd ((hoff 33 (by kernel_rfl)).symm.trans h0_) (by decide), fun h0_ => absurd ((hoff 37 (by kernel_rfl)).symm.trans h0_) (by decide)⟩
           refine steps_cons ?_ ?_
           ·
            rintro b a w' ⟨v275, v278, ha, Q_HO247, Q_HO253, Q_HO259, Q_HO265, Q_BK242, Q_BK254, Q_BK255, Q_BK266, Q_BK267, Q_HB, Q_HO276, Q_HO279⟩ hb_ hon hoff
            refine ⟨_, rfl, fun K hK => ?_⟩
            have e12 : a.tmps[12]? = some (.int .i64 t260) := by rw [ha]; exact (putSel_off rfl).trans rfl
            have e43 : a.tmps[43]? = some (.bool true) := by rw [ha]; exact putSel_on (e := (6, 43, .bool true)) 4 rfl rfl (hon 6 (by kernel_rfl)) rfl
            replace ha := Aside0.mk ha
            have HO247 := Aside0.mk Q_HO247
            have HO253 := Aside0.mk Q_HO253
            have HO259 := Aside0.mk Q_HO259
            have HO265 := Aside0.mk Q_HO265
            have BK242 := Aside0.mk Q_BK242
            have BK254 := Aside0.mk Q_BK254
            have BK255 := Aside0.mk Q_BK255
            have BK266 := Aside0.mk Q_BK266
            have BK267 := Aside0.mk Q_BK267
            have HB := Aside0.mk Q_HB
            refine value_ (w1 := w') (v := .int .i64 t260) (wanted_on rfl rfl rfl (e43.trans (by first | rfl | (simp [*]; done)))) rfl ?_ ?_
            ·
             go_simp
             (try simp only [i64_w])
             try rfl
             all_goals (first | rfl | (simp [bne]; done))
            refine hK.out _ _ ⟨v275, v278, (by rw [ha.out]; exact putSel_upk 6 hb_ rfl rfl rfl), Q_HO247, Q_HO253, Q_HO259, Q_HO265, Q_BK242, Q_BK254, Q_BK255, Q_BK266, Q_BK267, Q_HB, fun h0_ => absurd ((hoff 33 (by kernel_rfl)).symm.trans h0_) (by decide), fun h0_ => absurd ((hoff 37 (by kernel_rfl)).symm.trans h0_) (by decide)⟩
           refine steps_cons ?_ ?_
           ·
            rintro b a w' ⟨v275, v278, ha, Q_HO247, Q_HO253, Q_HO259, Q_HO265, Q_BK242, Q_BK254, Q_BK255, Q_BK266, Q_BK267, Q_HB, Q_HO276, Q_HO279⟩ hb_ hon hoff
            refine ⟨_, rfl, fun K hK => ?_⟩
            have e44 : a.tmps[44]? = some (.int .i64 t248) := by rw [ha]; exact putSel_on (e := (7, 44, .int .i64 t248)) 5 rfl rfl (hon 7 (by kernel_rfl)) rfl
            have e45 : a.tmps[45]? = some (.int .i64 t260) := by rw [ha]; exact putSel_on (e := (8, 45, .int .i64 t260)) 6 rfl rfl (hon 8 (by kernel_rfl)) rfl
            have e43 : a.tmps[43]? = some (.bool true) := by rw [ha]; exact putSel_on (e := (6, 43, .bool true)) 4 rfl rfl (hon 6 (by kernel_rfl)) rfl
            replace ha := Aside0.mk ha
            have HO247 := Aside0.mk Q_HO247
            have HO253 := Aside0.mk Q_HO253
            have HO259 := Aside0.mk Q_HO259
            have HO265 := Aside0.mk Q_HO265
            have BK242 := Aside0.mk Q_BK242
            have BK254 := Aside0.mk Q_BK254
            have BK255 := Aside0.mk Q_BK255
            have BK266 := Aside0.mk Q_BK266
            have BK267 := Aside0.mk Q_BK267
            have HB := Aside0.mk Q_HB
            refine value_ (w1 := w') (v := .bool (t248 == t260)) (wanted_on rfl rfl rfl (e43.trans (by first | rfl | (simp [*]; done)))) rfl ?_ ?_
            ·
             go_simp
             (try simp only [i64_w])
             try rfl
             all_goals (first | rfl | (simp [bne]; done))
            refine hK.out _ _ ⟨v275, v278, (by rw [ha.out]; exact putSel_upk 7 hb_ rfl rfl rfl), Q_HO247, Q_HO253, Q_HO259, Q_HO265, Q_BK242, Q_BK254, Q_BK255, Q_BK266, Q_BK267, Q_HB, fun h0_ => absurd ((hoff 33 (by kernel_rfl)).symm.trans h0_) (by decide), fun h0_ => absurd ((hoff 37 (by kernel_rfl)).symm.trans h0_) (by decide)⟩
           refine steps_cons ?_ ?_
           ·
            rintro b a w' ⟨v275, v278, ha, Q_HO247, Q_HO253, Q_HO259, Q_HO265, Q_BK242, Q_BK254, Q_BK255, Q_BK266, Q_BK267, Q_HB, Q_HO276, Q_HO279⟩ hb_ hon hoff
            refine ⟨_, rfl, fun K hK => ?_⟩
            have e43 : a.tmps[43]? = some (.bool true) := by rw [ha]; exact putSel_on (e := (6, 43, .bool true)) 4 rfl rfl (hon 6 (by kernel_rfl)) rfl
            have e46 : a.tmps[46]? = some (.bool (t248 == t260)) := by rw [ha]; exact putSel_on (e := (9, 46, .bool (t248 == t260))) 7 rfl rfl (hon 9 (by kernel_rfl)) rfl
            replace ha := Aside0.mk ha
            have HO247 := Aside0.mk Q_HO247
            have HO253 := Aside0.mk Q_HO253
            have HO259 := Aside0.mk Q_HO259
            have HO265 := Aside0.mk Q_HO265
            have BK242 := Aside0.mk Q_BK242
            have BK254 := Aside0.mk Q_BK254
            have BK255 := Aside0.mk Q_BK255
            have BK266 := Aside0.mk Q_BK266
            have BK267 := Aside0.mk Q_BK267
            have HB := Aside0.mk Q_HB
            refine value_ (w1 := w') (v := .bool (t248 == t260)) (by rfl) rfl ?_ ?_
            ·
             go_simp
             (try simp only [i64_w])
             try rfl
             all_goals (first | rfl | (simp [bne]; done))
            refine hK.out _ _ ⟨v275, v278, (by rw [ha.out]; exact putSel_upk 8 hb_ rfl rfl rfl), Q_HO247, Q_HO253, Q_HO259, Q_HO265, Q_BK242, Q_BK254, Q_BK255, Q_BK266, Q_BK267, Q_HB, fun h0_ => absurd ((hoff 33 (by kernel_rfl)).symm.trans h0_) (by decide), fun h0_ => absurd ((hoff 37 (by kernel_rfl)).symm.trans h0_) (by decide)⟩
           refine steps_cons ?_ ?_
           ·
            rintro b a w' ⟨v275, v278, ha, Q_HO247, Q_HO253, Q_HO259, Q_HO265, Q_BK242, Q_BK254, Q_BK255, Q_BK266, Q_BK267, Q_HB, Q_HO276, Q_HO279⟩ hb_ hon hoff
            refine ⟨_, rfl, fun K hK => ?_⟩
            have e47 : a.tmps[47]? = some (.bool (t248 == t260)) := by rw [ha]; exact putSel_on (e := (10, 47, .bool (t248 == t260))) 8 rfl rfl (hon 10 (by kernel_rfl)) rfl
            replace ha := Aside0.mk ha
            have HO247 := Aside0.mk Q_HO247
            have HO253 := Aside0.mk Q_HO253
            have HO259 := Aside0.mk Q_HO259
            have HO265 := Aside0.mk Q_HO265
            have BK242 := Aside0.mk Q_BK242
            have BK254 := Aside0.mk Q_BK254
            have BK255 := Aside0.mk Q_BK255
            have BK266 := Aside0.mk Q_BK266
            have BK267 := Aside0.mk Q_BK267
            have HB := Aside0.mk Q_HB
            refine value_ (w1 := w') (v := .bool (t248 == t260)) (by rfl) rfl ?_ ?_
            ·
             go_simp
             (try simp only [i64_w])
             try rfl
             all_goals (first | rfl | (simp [bne]; done))
            refine hK.out _ _ ⟨v275, v278, (by rw [ha.out]; exact putSel_upk 9 hb_ rfl rfl rfl), Q_HO247, Q_HO253, Q_HO259, Q_HO265, Q_BK242, Q_BK254, Q_BK255, Q_BK266, Q_BK267, Q_HB, fun h0_ => absurd ((hoff 33 (by kernel_rfl)).symm.trans h0_) (by decide), fun h0_ => absurd ((hoff 37 (by kernel_rfl)).symm.trans h0_) (by decide)⟩
           refine steps_cons ?_ ?_
           ·
            rintro b a w' ⟨v275, v278, ha, Q_HO247, Q_HO253, Q_HO259, Q_HO265, Q_BK242, Q_BK254, Q_BK255, Q_BK266, Q_BK267, Q_HB, Q_HO276, Q_HO279⟩ hb_ hon hoff
            refine ⟨_, rfl, fun K hK => ?_⟩
            have e10 : a.tmps[10]? = some (.pointer (some ⟨gb255, 0, none⟩)) := by rw [ha]; exact (putSel_off rfl).trans rfl
            have e48 : a.tmps[48]? = some (.bool (t248 == t260)) := by rw [ha]; exact putSel_on (e := (11, 48, .bool (t248 == t260))) 9 rfl rfl (hon 11 (by kernel_rfl)) rfl
            replace ha := Aside0.mk ha
            have HO247 := Aside0.mk Q_HO247
            have HO253 := Aside0.mk Q_HO253
            have HO259 := Aside0.mk Q_HO259
            have HO265 := Aside0.mk Q_HO265
            have BK242 := Aside0.mk Q_BK242
            have BK254 := Aside0.mk Q_BK254
            have BK255 := Aside0.mk Q_BK255
            have BK266 := Aside0.mk Q_BK266
            have BK267 := Aside0.mk Q_BK267
            have HB := Aside0.mk Q_HB
            have hc0_ : w'.cell? ⟨gb255, 0, none⟩ = some (.int .i64 t249) := (blk_cell BK255.out 0).trans rfl
            have hc1_ : w'.cell? ⟨gb255, 1, none⟩ = some (.int .i64 t250) := (blk_cell BK255.out 1).trans rfl
            have hc2_ : w'.cell? ⟨gb255, 2, none⟩ = some (.slice Ao37 t251.length co37) := (blk_cell BK255.out 2).trans rfl
            refine value_ (w1 := w') (v := .agg #[.int .i64 t249, .int .i64 t250, .slice Ao37 t251.length co37]) (wanted_on rfl rfl rfl (e48.trans (by first | rfl | (simp [*]; done)))) rfl ?_ ?_
            ·
             go_simp
             (try simp only [i64_w])
             try rfl
             all_goals (first | rfl | (simp [bne]; done))
            refine hK.out _ _ ⟨v275, v278, (by rw [ha.out]; exact putSel_upk 10 hb_ rfl rfl rfl), Q_HO247, Q_HO253, Q_HO259, Q_HO265, Q_BK242, Q_BK254, Q_BK255, Q_BK266, Q_BK267, Q_HB, fun h0_ => absurd ((hoff 33 (by kernel_rfl)).symm.trans h0_) (by decide), fun h0_ => absurd ((hoff 37 (by kernel_rfl)).symm.trans h0_) (by decide)⟩
           refine steps_cons ?_ ?_
           ·
            rintro b a w' ⟨v275, v278, ha, Q_HO247, Q_HO253, Q_HO259, Q_HO265, Q_BK242, Q_BK254, Q_BK255, Q_BK266, Q_BK267, Q_HB, Q_HO276, Q_HO279⟩ hb_ hon hoff
            refine ⟨_, rfl, fun K hK => ?_⟩
            have e13 : a.tmps[13]? = some (.pointer (some ⟨gb267, 0, none⟩)) := by rw [ha]; exact (putSel_off rfl).trans rfl
            have e48 : a.tmps[48]? = some (.bool (t248 == t260)) := by rw [ha]; exact putSel_on (e := (11, 48, .bool (t248 == t260))) 9 rfl rfl (hon 11 (by kernel_rfl)) rfl
            replace ha := Aside0.mk ha
            have HO247 := Aside0.mk Q_HO247
            have HO253 := Aside0.mk Q_HO253
            have HO259 := Aside0.mk Q_HO259
            have HO265 := Aside0.mk Q_HO265
            have BK242 := Aside0.mk Q_BK242
            have BK254 := Aside0.mk Q_BK254
            have BK255 := Aside0.mk Q_BK255
            have BK266 := Aside0.mk Q_BK266
            have BK267 := Aside0.mk Q_BK267
            have HB := Aside0.mk Q_HB
            have hc0_ : w'.cell? ⟨gb267, 0, none⟩ = some (.int .i64 t261) := (blk_cell BK267.out 0).trans rfl
            have hc1_ : w'.cell? ⟨gb267, 1, none⟩ = some (.int .i64 t262) := (blk_cell BK267.out 1).trans rfl
            have hc2_ : w'.cell? ⟨gb267, 2, none⟩ = some (.slice Ao52 t263.length co52) := (blk_cell BK267.out 2).trans rfl
            refine value_ (w1 := w') (v := .agg #[.int .i64 t261, .int .i64 t262, .slice Ao52 t263.length co52]) (wanted_on rfl rfl rfl (e48.trans (by first | rfl | (simp [*]; done)))) rfl ?_ ?_
            ·
             go_simp
             (try simp only [i64_w])
             try rfl
             all_goals (first | rfl | (simp [bne]; done))
            refine hK.out _ _ ⟨v275, v278, (by rw [ha.out]; exact putSel_upk 11 hb_ rfl rfl rfl), Q_HO247, Q_HO253, Q_HO259, Q_HO265, Q_BK242, Q_BK254, Q_BK255, Q_BK266, Q_BK267, Q_HB, fun h0_ => absurd ((hoff 33 (by kernel_rfl)).symm.trans h0_) (by decide), fun h0_ => absurd ((hoff 37 (by kernel_rfl)).symm.trans h0_) (by decide)⟩
           refine steps_cons ?_ ?_
           ·
            rintro b a w' ⟨v275, v278, ha, Q_HO247, Q_HO253, Q_HO259, Q_HO265, Q_BK242, Q_BK254, Q_BK255, Q_BK266, Q_BK267, Q_HB, Q_HO276, Q_HO279⟩ hb_ hon hoff
            refine ⟨_, rfl, fun K hK => ?_⟩
            have e49 : a.tmps[49]? = some (.agg #[.int .i64 t249, .int .i64 t250, .slice Ao37 t251.length co37]) := by rw [ha]; exact putSel_on (e := (12, 49, .agg #[.int .i64 t249, .int .i64 t250, .slice Ao37 t251.length co37])) 10 rfl rfl (hon 12 (by kernel_rfl)) rfl
            have e50 : a.tmps[50]? = some (.agg #[.int .i64 t261, .int .i64 t262, .slice Ao52 t263.length co52]) := by rw [ha]; exact putSel_on (e := (13, 50, .agg #[.int .i64 t261, .int .i64 t262, .slice Ao52 t263.length co52])) 11 rfl rfl (hon 13 (by kernel_rfl)) rfl
            have e48 : a.tmps[48]? = some (.bool (t248 == t260)) := by rw [ha]; exact putSel_on (e := (11, 48, .bool (t248 == t260))) 9 rfl rfl (hon 11 (by kernel_rfl)) rfl
            replace ha := Aside0.mk ha
            have HO247 := Aside0.mk Q_HO247
            have HO253 := Aside0.mk Q_HO253
            have HO259 := Aside0.mk Q_HO259
            have HO265 := Aside0.mk Q_HO265
            have BK242 := Aside0.mk Q_BK242
            have BK254 := Aside0.mk Q_BK254
            have BK255 := Aside0.mk Q_BK255
            have BK266 := Aside0.mk Q_BK266
            have BK267 := Aside0.mk Q_BK267
            have HB := Aside0.mk Q_HB
            refine goes_ Try.func12 (by kernel_rfl) rfl #[.agg #[.int .i64 t249, .int .i64 t250, .slice Ao37 t251.length co37], .agg #[.int .i64 t261, .int .i64 t262, .slice Ao52 t263.length co52]] (wanted_on rfl rfl rfl (e48.trans (by first | rfl | (simp [*]; done)))) rfl rfl (by first | (simp only [List.map_toArray, List.map_cons, List.map_nil, Act.eval, Array.getD_eq_getD_getElem?, Option.getD_some, e49, e50, e48]; done) | (simp only [List.map_toArray, List.map_cons, List.map_nil, Act.eval, Array.getD_eq_getD_getElem?, Option.getD_some, e49, e50, e48]; rfl)) ?_
            with_reducible refine (ridgewayref03_SameNote.calls t249 t250 _ _ t251 t261 t262 _ _ t263 true _ ?side1 ?side2 ?side3 ?side4 A17.out).mono ?_
            (case side1 => repeat (first | exact (Kd.R_reads' HO253.out).2.2 | (with_reducible refine Kd.C_alloc ?_ _) | (with_reducible refine Kd.C_drewN ?_ _) | (with_reducible refine Kd.C_drew ?_)))
            (case side2 => exact (Kd.R_reads' HO253.out).2.1)
            (case side3 => repeat (first | exact (Kd.V_reads' HO265.out).2.2 | (with_reducible refine Kd.C_alloc ?_ _) | (with_reducible refine Kd.C_drewN ?_ _) | (with_reducible refine Kd.C_drew ?_)))
            (case side4 => exact (Kd.V_reads' HO265.out).2.1)
            rintro e w57 ⟨rfl, hb⟩
            refine ⟨_, rfl, ?_⟩
            have n0_ := Aside0.mk (Kd.R_below (by (with_reducible repeat (first | apply Kd.R_alloc | apply Kd.R_drewN | apply Kd.R_drew)); first | exact HO247.out | exact Kd.R_mono HO247.out (by intro k_ hk; first | exact hk | trivial | (simp only [true_and, and_true, and_assoc] at hk ⊢; first | exact hk | trivial) | simp_all)) hb)
            have n1_ := Aside0.mk (Kd.R_below (by (with_reducible repeat (first | apply Kd.R_alloc | apply Kd.R_drewN | apply Kd.R_drew)); first | exact HO253.out | exact Kd.R_mono HO253.out (by intro k_ hk; first | exact hk | trivial | (simp only [true_and, and_true, and_assoc] at hk ⊢; first | exact hk | trivial) | simp_all)) hb)
            have n2_ := Aside0.mk (Kd.V_below (by (with_reducible repeat (first | apply Kd.V_alloc | apply Kd.V_drewN | apply Kd.V_drew)); first | exact HO259.out | exact Kd.V_mono HO259.out (by intro k_ hk; first | exact hk | trivial | (simp only [true_and, and_true, and_assoc] at hk ⊢; first | exact hk | trivial) | simp_all)) hb)
            have n3_ := Aside0.mk (Kd.V_below (by (with_reducible repeat (first | apply Kd.V_alloc | apply Kd.V_drewN | apply Kd.V_drew)); first | exact HO265.out | exact Kd.V_mono HO265.out (by intro k_ hk; first | exact hk | trivial | (simp only [true_and, and_true, and_assoc] at hk ⊢; first | exact hk | trivial) | simp_all)) hb)
            have n4_ := Aside0.mk (blk_below (g := gb242) (o := .cells #[.int .i64 a1_0, .slice A1_1 l1_1.length c1_1] 24 (0, 0)) (by (with_reducible repeat (first | refine kN ?_ _ | refine kD ?_ | refine kA ?_ _)); exact BK242.out) hb)
            have n5_ := Aside0.mk (blk_below (g := gb254) (o := .cells #[.int .i64 t244, .slice Ao33 t245.length co33] 24 (0, 0)) (by (with_reducible repeat (first | refine kN ?_ _ | refine kD ?_ | refine kA ?_ _)); exact BK254.out) hb)
            have n6_ := Aside0.mk (blk_below (g := gb255) (o := .cells #[.int .i64 t249, .int .i64 t250, .slice Ao37 t251.length co37] 27 (0, 0)) (by (with_reducible repeat (first | refine kN ?_ _ | refine kD ?_ | refine kA ?_ _)); exact BK255.out) hb)
            have n7_ := Aside0.mk (blk_below (g := gb266) (o := .cells #[.int .i64 t256, .slice Ao47 t257.length co47] 24 (0, 0)) (by (with_reducible repeat (first | refine kN ?_ _ | refine kD ?_ | refine kA ?_ _)); exact BK266.out) hb)
            have n8_ := Aside0.mk (blk_below (g := gb267) (o := .cells #[.int .i64 t261, .int .i64 t262, .slice Ao52 t263.length co52] 27 (0, 0)) (by (with_reducible repeat (first | refine kN ?_ _ | refine kD ?_ | refine kA ?_ _)); exact BK267.out) hb)
            have n9_ := Aside0.mk (below_step (by repeat (first | (with_reducible first | exact HB.out | apply bA | apply bN | apply bD | refine bS ?_ GE242.out | refine bS ?_ GE254.out | refine bS ?_ GE255.out | refine bS ?_ GE266.out | refine bS ?_ GE267.out) | exact HB.out)) hb)
            clear HO247
            clear HO253
            clear HO259
            clear HO265
            clear BK242
            clear BK254
            clear BK255
            clear BK266
            clear BK267
            clear HB
            have HO247 := n0_
            have HO253 := n1_
            have HO259 := n2_
            have HO265 := n3_
            have BK242 := n4_
            have BK254 := n5_
            have BK255 := n6_
            have BK266 := n7_
            have BK267 := n8_
            have HB := n9_
            clear n0_ n1_ n2_ n3_ n4_ n5_ n6_ n7_ n8_ n9_
            (try clear hb)
            (try clear hb2)
            (try clear hk)
            (try clear hi)
            refine hK.out _ _ ⟨v275, v278, (by rw [ha.out]; exact putSel_upk 12 hb_ rfl rfl rfl), (by (with_reducible repeat (first | apply Kd.R_alloc | apply Kd.R_drewN | apply Kd.R_drew)); first | exact HO247.out | exact Kd.R_mono HO247.out (by intro k_ hk; first | exact hk | trivial | (simp only [true_and, and_true, and_assoc] at hk ⊢; first | exact hk | trivial) | simp_all)), (by (with_reducible repeat (first | apply Kd.R_alloc | apply Kd.R_drewN | apply Kd.R_drew)); first | exact HO253.out | exact Kd.R_mono HO253.out (by intro k_ hk; first | exact hk | trivial | (simp only [true_and, and_true, and_assoc] at hk ⊢; first | exact hk | trivial) | simp_all)), (by (with_reducible repeat (first | apply Kd.V_alloc | apply Kd.V_drewN | apply Kd.V_drew)); first | exact HO259.out | exact Kd.V_mono HO259.out (by intro k_ hk; first | exact hk | trivial | (simp only [true_and, and_true, and_assoc] at hk ⊢; first | exact hk | trivial) | simp_all)), (by (with_reducible repeat (first | apply Kd.V_alloc | apply Kd.V_drewN | apply Kd.V_drew)); first | exact HO265.out | exact Kd.V_mono HO265.out (by intro k_ hk; first | exact hk | trivial | (simp only [true_and, and_true, and_assoc] at hk ⊢; first | exact hk | trivial) | simp_all)), (by (with_reducible repeat (first | refine kN ?_ _ | refine kD ?_ | refine kA ?_ _)); exact BK242.out), (by (with_reducible repeat (first | refine kN ?_ _ | refine kD ?_ | refine kA ?_ _)); exact BK254.out), (by (with_reducible repeat (first | refine kN ?_ _ | refine kD ?_ | refine kA ?_ _)); exact BK255.out), (by (with_reducible repeat (first | refine kN ?_ _ | refine kD ?_ | refine kA ?_ _)); exact BK266.out), (by (with_reducible repeat (first | refine kN ?_ _ | refine kD ?_ | refine kA ?_ _)); exact BK267.out), (by repeat (first | (with_reducible first | exact HB.out | apply bA | apply bN | apply bD | refine bS ?_ GE242.out | refine bS ?_ GE254.out | refine bS ?_ GE255.out | refine bS ?_ GE266.out | refine bS ?_ GE267.out) | exact HB.out)), fun h0_ => absurd ((hoff 33 (by kernel_rfl)).symm.trans h0_) (by decide), fun h0_ => absurd ((hoff 37 (by kernel_rfl)).symm.trans h0_) (by decide)⟩
           refine steps_cons ?_ ?_
           ·
            rintro b a w' ⟨v275, v278, ha, Q_HO247, Q_HO253, Q_HO259, Q_HO265, Q_BK242, Q_BK254, Q_BK255, Q_BK266, Q_BK267, Q_HB, Q_HO276, Q_HO279⟩ hb_ hon hoff
            refine ⟨_, rfl, fun K hK => ?_⟩
            have e48 : a.tmps[48]? = some (.bool (t248 == t260)) := by rw [ha]; exact putSel_on (e := (11, 48, .bool (t248 == t260))) 9 rfl rfl (hon 11 (by kernel_rfl)) rfl
            have e51 : a.tmps[51]? = some (.bool true) := by rw [ha]; exact putSel_on (e := (14, 51, .bool true)) 12 rfl rfl (hon 14 (by kernel_rfl)) rfl
            replace ha := Aside0.mk ha
            have HO247 := Aside0.mk Q_HO247
            have HO253 := Aside0.mk Q_HO253
            have HO259 := Aside0.mk Q_HO259
            have HO265 := Aside0.mk Q_HO265
            have BK242 := Aside0.mk Q_BK242
            have BK254 := Aside0.mk Q_BK254
            have BK255 := Aside0.mk Q_BK255
            have BK266 := Aside0.mk Q_BK266
            have BK267 := Aside0.mk Q_BK267
            have HB := Aside0.mk Q_HB
            refine value_ (w1 := w') (v := .bool true) (by rfl) rfl ?_ ?_
            ·
             go_simp
             (try simp only [i64_w])
             try rfl
             all_goals (first | rfl | (simp [bne]; done))
            refine hK.out _ _ ⟨v275, v278, (by rw [ha.out]; exact putSel_upk 13 hb_ rfl rfl rfl), Q_HO247, Q_HO253, Q_HO259, Q_HO265, Q_BK242, Q_BK254, Q_BK255, Q_BK266, Q_BK267, Q_HB, fun h0_ => absurd ((hoff 33 (by kernel_rfl)).symm.trans h0_) (by decide), fun h0_ => absurd ((hoff 37 (by kernel_rfl)).symm.trans h0_) (by decide)⟩
           refine steps_cons ?_ ?_
           ·
            rintro b a w' ⟨v275, v278, ha, Q_HO247, Q_HO253, Q_HO259, Q_HO265, Q_BK242, Q_BK254, Q_BK255, Q_BK266, Q_BK267, Q_HB, Q_HO276, Q_HO279⟩ hb_ hon hoff
            refine ⟨_, rfl, fun K hK => ?_⟩
            have e52 : a.tmps[52]? = some (.bool true) := by rw [ha]; exact putSel_on (e := (15, 52, .bool true)) 13 rfl rfl (hon 15 (by kernel_rfl)) rfl
            replace ha := Aside0.mk ha
            have HO247 := Aside0.mk Q_HO247
            have HO253 := Aside0.mk Q_HO253
            have HO259 := Aside0.mk Q_HO259
            have HO265 := Aside0.mk Q_HO265
            have BK242 := Aside0.mk Q_BK242
            have BK254 := Aside0.mk Q_BK254
            have BK255 := Aside0.mk Q_BK255
            have BK266 := Aside0.mk Q_BK266
            have BK267 := Aside0.mk Q_BK267
            have HB := Aside0.mk Q_HB
            refine value_ (w1 := w') (v := .bool true) (by rfl) rfl ?_ ?_
            ·
             go_simp
             (try simp only [i64_w])
             try rfl
             all_goals (first | rfl | (simp [bne]; done))
            refine hK.out _ _ ⟨v275, v278, (by rw [ha.out]; exact putSel_upk 14 hb_ rfl rfl rfl), Q_HO247, Q_HO253, Q_HO259, Q_HO265, Q_BK242, Q_BK254, Q_BK255, Q_BK266, Q_BK267, Q_HB, fun h0_ => absurd ((hoff 33 (by kernel_rfl)).symm.trans h0_) (by decide), fun h0_ => absurd ((hoff 37 (by kernel_rfl)).symm.trans h0_) (by decide)⟩
           refine steps_cons ?_ ?_
           ·
            rintro b a w' ⟨v275, v278, ha, Q_HO247, Q_HO253, Q_HO259, Q_HO265, Q_BK242, Q_BK254, Q_BK255, Q_BK266, Q_BK267, Q_HB, Q_HO276, Q_HO279⟩ hb_ hon hoff
            refine ⟨_, rfl, fun K hK => ?_⟩
            have e2 : a.tmps[2]? = some (.int .i64 a2) := by rw [ha]; exact (putSel_off rfl).trans rfl
            have e53 : a.tmps[53]? = some (.bool true) := by rw [ha]; exact putSel_on (e := (16, 53, .bool true)) 14 rfl rfl (hon 16 (by kernel_rfl)) rfl
            replace ha := Aside0.mk ha
            have HO247 := Aside0.mk Q_HO247
            have HO253 := Aside0.mk Q_HO253
            have HO259 := Aside0.mk Q_HO259
            have HO265 := Aside0.mk Q_HO265
            have BK242 := Aside0.mk Q_BK242
            have BK254 := Aside0.mk Q_BK254
            have BK255 := Aside0.mk Q_BK255
            have BK266 := Aside0.mk Q_BK266
            have BK267 := Aside0.mk Q_BK267
            have HB := Aside0.mk Q_HB
            refine value_ (w1 := w') (v := .int .i64 a2) (wanted_on rfl rfl rfl (e53.trans (by first | rfl | (simp [*]; done)))) rfl ?_ ?_
            ·
             go_simp
             (try simp only [i64_w])
             try rfl
             all_goals (first | rfl | (simp [bne]; done))
            refine hK.out _ _ ⟨v275, v278, (by rw [ha.out]; exact putSel_upk 15 hb_ rfl rfl rfl), Q_HO247, Q_HO253, Q_HO259, Q_HO265, Q_BK242, Q_BK254, Q_BK255, Q_BK266, Q_BK267, Q_HB, fun h0_ => absurd ((hoff 33 (by kernel_rfl)).symm.trans h0_) (by decide), fun h0_ => absurd ((hoff 37 (by kernel_rfl)).symm.trans h0_) (by decide)⟩
           refine steps_cons ?_ ?_
           ·
            rintro b a w' ⟨v275, v278, ha, Q_HO247, Q_HO253, Q_HO259, Q_HO265, Q_BK242, Q_BK254, Q_BK255, Q_BK266, Q_BK267, Q_HB, Q_HO276, Q_HO279⟩ hb_ hon hoff
            refine ⟨_, rfl, fun K hK => ?_⟩
            have e54 : a.tmps[54]? = some (.int .i64 a2) := by rw [ha]; exact putSel_on (e := (17, 54, .int .i64 a2)) 15 rfl rfl (hon 17 (by kernel_rfl)) rfl
            have e53 : a.tmps[53]? = some (.bool true) := by rw [ha]; exact putSel_on (e := (16, 53, .bool true)) 14 rfl rfl (hon 16 (by kernel_rfl)) rfl
            replace ha := Aside0.mk ha
            have HO247 := Aside0.mk Q_HO247
            have HO253 := Aside0.mk Q_HO253
            have HO259 := Aside0.mk Q_HO259
            have HO265 := Aside0.mk Q_HO265
            have BK242 := Aside0.mk Q_BK242
            have BK254 := Aside0.mk Q_BK254
            have BK255 := Aside0.mk Q_BK255
            have BK266 := Aside0.mk Q_BK266
            have BK267 := Aside0.mk Q_BK267
            have HB := Aside0.mk Q_HB
            refine goes_ Try.func13 (by kernel_rfl) rfl #[.int .i64 a2] (wanted_on rfl rfl rfl (e53.trans (by first | rfl | (simp [*]; done)))) rfl rfl (by first | (simp only [List.map_toArray, List.map_cons, List.map_nil, Act.eval, Array.getD_eq_getD_getElem?, Option.getD_some, e54, e53]; done) | (simp only [List.map_toArray, List.map_cons, List.map_nil, Act.eval, Array.getD_eq_getD_getElem?, Option.getD_some, e54, e53]; rfl)) ?_
            with_reducible refine (msg_Least.calls a2 t270 _ A19.out).mono ?_
            rintro e w' ⟨rfl, ⟨nd, rfl⟩⟩
            refine ⟨_, rfl, ?_⟩
            refine hK.out _ _ ⟨v275, v278, (by rw [ha.out]; exact putSel_upk 16 hb_ rfl rfl rfl), (by (with_reducible repeat (first | apply Kd.R_alloc | apply Kd.R_drewN | apply Kd.R_drew)); first | exact HO247.out | exact Kd.R_mono HO247.out (by intro k_ hk; first | exact hk | trivial | (simp only [true_and, and_true, and_assoc] at hk ⊢; first | exact hk | trivial) | simp_all)), (by (with_reducible repeat (first | apply Kd.R_alloc | apply Kd.R_drewN | apply Kd.R_drew)); first | exact HO253.out | exact Kd.R_mono HO253.out (by intro k_ hk; first | exact hk | trivial | (simp only [true_and, and_true, and_assoc] at hk ⊢; first | exact hk | trivial) | simp_all)), (by (with_reducible repeat (first | apply Kd.V_alloc | apply Kd.V_drewN | apply Kd.V_drew)); first | exact HO259.out | exact Kd.V_mono HO259.out (by intro k_ hk; first | exact hk | trivial | (simp only [true_and, and_true, and_assoc] at hk ⊢; first | exact hk | trivial) | simp_all)), (by (with_reducible repeat (first | apply Kd.V_alloc | apply Kd.V_drewN | apply Kd.V_drew)); first | exact HO265.out | exact Kd.V_mono HO265.out (by intro k_ hk; first | exact hk | trivial | (simp only [true_and, and_true, and_assoc] at hk ⊢; first | exact hk | trivial) | simp_all)), (by (with_reducible repeat (first | refine kN ?_ _ | refine kD ?_ | refine kA ?_ _)); exact BK242.out), (by (with_reducible repeat (first | refine kN ?_ _ | refine kD ?_ | refine kA ?_ _)); exact BK254.out), (by (with_reducible repeat (first | refine kN ?_ _ | refine kD ?_ | refine kA ?_ _)); exact BK255.out), (by (with_reducible repeat (first | refine kN ?_ _ | refine kD ?_ | refine kA ?_ _)); exact BK266.out), (by (with_reducible repeat (first | refine kN ?_ _ | refine kD ?_ | refine kA ?_ _)); exact BK267.out), (by repeat (first | (with_reducible first | exact HB.out | apply bA | apply bN | apply bD | refine bS ?_ GE242.out | refine bS ?_ GE254.out | refine bS ?_ GE255.out | refine bS ?_ GE266.out | refine bS ?_ GE267.out) | exact HB.out)), fun h0_ => absurd ((hoff 33 (by kernel_rfl)).symm.trans h0_) (by decide), fun h0_ => absurd ((hoff 37 (by kernel_rfl)).symm.trans h0_) (by decide)⟩
           refine steps_cons ?_ ?_
           ·
            rintro b a w' ⟨v275, v278, ha, Q_HO247, Q_HO253, Q_HO259, Q_HO265, Q_BK242, Q_BK254, Q_BK255, Q_BK266, Q_BK267, Q_HB, Q_HO276, Q_HO279⟩ hb_ hon hoff
            refine ⟨_, rfl, fun K hK => ?_⟩
            have e2 : a.tmps[2]? = some (.int .i64 a2) := by rw [ha]; exact (putSel_off rfl).trans rfl
            have e53 : a.tmps[53]? = some (.bool true) := by rw [ha]; exact putSel_on (e := (16, 53, .bool true)) 14 rfl rfl (hon 16 (by kernel_rfl)) rfl
            replace ha := Aside0.mk ha
            have HO247 := Aside0.mk Q_HO247
            have HO253 := Aside0.mk Q_HO253
            have HO259 := Aside0.mk Q_HO259
            have HO265 := Aside0.mk Q_HO265
            have BK242 := Aside0.mk Q_BK242
            have BK254 := Aside0.mk Q_BK254
            have BK255 := Aside0.mk Q_BK255
            have BK266 := Aside0.mk Q_BK266
            have BK267 := Aside0.mk Q_BK267
            have HB := Aside0.mk Q_HB
            refine value_ (w1 := w') (v := .int .i64 a2) (wanted_on rfl rfl rfl (e53.trans (by first | rfl | (simp [*]; done)))) rfl ?_ ?_
            ·
             go_simp
             (try simp only [i64_w])
             try rfl
             all_goals (first | rfl | (simp [bne]; done))
            refine hK.out _ _ ⟨v275, v278, (by rw [ha.out]; exact putSel_upk 17 hb_ rfl rfl rfl), Q_HO247, Q_HO253, Q_HO259, Q_HO265, Q_BK242, Q_BK254, Q_BK255, Q_BK266, Q_BK267, Q_HB, fun h0_ => absurd ((hoff 33 (by kernel_rfl)).symm.trans h0_) (by decide), fun h0_ => absurd ((hoff 37 (by kernel_rfl)).symm.trans h0_) (by decide)⟩
           refine steps_cons ?_ ?_
           ·
            rintro b a w' ⟨v275, v278, ha, Q_HO247, Q_HO253, Q_HO259, Q_HO265, Q_BK242, Q_BK254, Q_BK255, Q_BK266, Q_BK267, Q_HB, Q_HO276, Q_HO279⟩ hb_ hon hoff
            refine ⟨_, rfl, fun K hK => ?_⟩
            have e56 : a.tmps[56]? = some (.int .i64 a2) := by rw [ha]; exact putSel_on (e := (19, 56, .int .i64 a2)) 17 rfl rfl (hon 19 (by kernel_rfl)) rfl
            have e53 : a.tmps[53]? = some (.bool true) := by rw [ha]; exact putSel_on (e := (16, 53, .bool true)) 14 rfl rfl (hon 16 (by kernel_rfl)) rfl
            replace ha := Aside0.mk ha
            have HO247 := Aside0.mk Q_HO247
            have HO253 := Aside0.mk Q_HO253
            have HO259 := Aside0.mk Q_HO259
            have HO265 := Aside0.mk Q_HO265
            have BK242 := Aside0.mk Q_BK242
            have BK254 := Aside0.mk Q_BK254
            have BK255 := Aside0.mk Q_BK255
            have BK266 := Aside0.mk Q_BK266
            have BK267 := Aside0.mk Q_BK267
            have HB := Aside0.mk Q_HB
            refine goes_ Try.func14 (by kernel_rfl) rfl #[.int .i64 a2] (wanted_on rfl rfl rfl (e53.trans (by first | rfl | (simp [*]; done)))) rfl rfl (by first | (simp only [List.map_toArray, List.map_cons, List.map_nil, Act.eval, Array.getD_eq_getD_getElem?, Option.getD_some, e56, e53]; done) | (simp only [List.map_toArray, List.map_cons, List.map_nil, Act.eval, Array.getD_eq_getD_getElem?, Option.getD_some, e56, e53]; rfl)) ?_
            with_reducible refine (ridgewayref03_Least.calls a2 t271 _ A20.out).mono ?_
            rintro e w' ⟨rfl, ⟨nd, rfl⟩⟩
            refine ⟨_, rfl, ?_⟩
            refine hK.out _ _ ⟨v275, v278, (by rw [ha.out]; exact putSel_upk 18 hb_ rfl rfl rfl), (by (with_reducible repeat (first | apply Kd.R_alloc | apply Kd.R_drewN | apply Kd.R_drew)); first | exact HO247.out | exact Kd.R_mono HO247.out (by intro k_ hk; first | exact hk | trivial | (simp only [true_and, and_true, and_assoc] at hk ⊢; first | exact hk | trivial) | simp_all)), (by (with_reducible repeat (first | apply Kd.R_alloc | apply Kd.R_drewN | apply Kd.R_drew)); first | exact HO253.out | exact Kd.R_mono HO253.out (by intro k_ hk; first | exact hk | trivial | (simp only [true_and, and_true, and_assoc] at hk ⊢; first | exact hk | trivial) | simp_all)), (by (with_reducible repeat (first | apply Kd.V_alloc | apply Kd.V_drewN | apply Kd.V_drew)); first | exact HO259.out | exact Kd.V_mono HO259.out (by intro k_ hk; first | exact hk | trivial | (simp only [true_and, and_true, and_assoc] at hk ⊢; first | exact hk | trivial) | simp_all)), (by (with_reducible repeat (first | apply Kd.V_alloc | apply Kd.V_drewN | apply Kd.V_drew)); first | exact HO265.out | exact Kd.V_mono HO265.out (by intro k_ hk; first | exact hk | trivial | (simp only [true_and, and_true, and_assoc] at hk ⊢; first | exact hk | trivial) | simp_all)), (by (with_reducible repeat (first | refine kN ?_ _ | refine kD ?_ | refine kA ?_ _)); exact BK242.out), (by (with_reducible repeat (first | refine kN ?_ _ | refine kD ?_ | refine kA ?_ _)); exact BK254.out), (by (with_reducible repeat (first | refine kN ?_ _ | refine kD ?_ | refine kA ?_ _)); exact BK255.out), (by (with_reducible repeat (first | refine kN ?_ _ | refine kD ?_ | refine kA ?_ _)); exact BK266.out), (by (with_reducible repeat (first | refine kN ?_ _ | refine kD ?_ | refine kA ?_ _)); exact BK267.out), (by repeat (first | (with_reducible first | exact HB.out | apply bA | apply bN | apply bD | refine bS ?_ GE242.out | refine bS ?_ GE254.out | refine bS ?_ GE255.out | refine bS ?_ GE266.out | refine bS ?_ GE267.out) | exact HB.out)), fun h0_ => absurd ((hoff 33 (by kernel_rfl)).symm.trans h0_) (by decide), fun h0_ => absurd ((hoff 37 (by kernel_rfl)).symm.trans h0_) (by decide)⟩
           refine steps_cons ?_ ?_
           ·
            rintro b a w' ⟨v275, v278, ha, Q_HO247, Q_HO253, Q_HO259, Q_HO265, Q_BK242, Q_BK254, Q_BK255, Q_BK266, Q_BK267, Q_HB, Q_HO276, Q_HO279⟩ hb_ hon hoff
            refine ⟨_, rfl, fun K hK => ?_⟩
            have e55 : a.tmps[55]? = some (.int .i64 t270) := by rw [ha]; exact putSel_on (e := (18, 55, .int .i64 t270)) 16 rfl rfl (hon 18 (by kernel_rfl)) rfl
            have e57 : a.tmps[57]? = some (.int .i64 t271) := by rw [ha]; exact putSel_on (e := (20, 57, .int .i64 t271)) 18 rfl rfl (hon 20 (by kernel_rfl)) rfl
            have e53 : a.tmps[53]? = some (.bool true) := by rw [ha]; exact putSel_on (e := (16, 53, .bool true)) 14 rfl rfl (hon 16 (by kernel_rfl)) rfl
            replace ha := Aside0.mk ha
            have HO247 := Aside0.mk Q_HO247
            have HO253 := Aside0.mk Q_HO253
            have HO259 := Aside0.mk Q_HO259
            have HO265 := Aside0.mk Q_HO265
            have BK242 := Aside0.mk Q_BK242
            have BK254 := Aside0.mk Q_BK254
            have BK255 := Aside0.mk Q_BK255
            have BK266 := Aside0.mk Q_BK266
            have BK267 := Aside0.mk Q_BK267
            have HB := Aside0.mk Q_HB
            refine value_ (w1 := w') (v := .bool (t270 == t271)) (wanted_on rfl rfl rfl (e53.trans (by first | rfl | (simp [*]; done)))) rfl ?_ ?_
            ·
             go_simp
             (try simp only [i64_w])
             try rfl
             all_goals (first | rfl | (simp [bne]; done))
            refine hK.out _ _ ⟨v275, v278, (by rw [ha.out]; exact putSel_upk 19 hb_ rfl rfl rfl), Q_HO247, Q_HO253, Q_HO259, Q_HO265, Q_BK242, Q_BK254, Q_BK255, Q_BK266, Q_BK267, Q_HB, fun h0_ => absurd ((hoff 33 (by kernel_rfl)).symm.trans h0_) (by decide), fun h0_ => absurd ((hoff 37 (by kernel_rfl)).symm.trans h0_) (by decide)⟩
           refine steps_cons ?_ ?_
           ·
            rintro b a w' ⟨v275, v278, ha, Q_HO247, Q_HO253, Q_HO259, Q_HO265, Q_BK242, Q_BK254, Q_BK255, Q_BK266, Q_BK267, Q_HB, Q_HO276, Q_HO279⟩ hb_ hon hoff
            refine ⟨_, rfl, fun K hK => ?_⟩
            have e53 : a.tmps[53]? = some (.bool true) := by rw [ha]; exact putSel_on (e := (16, 53, .bool true)) 14 rfl rfl (hon 16 (by kernel_rfl)) rfl
            have e58 : a.tmps[58]? = some (.bool (t270 == t271)) := by rw [ha]; exact putSel_on (e := (21, 58, .bool (t270 == t271))) 19 rfl rfl (hon 21 (by kernel_rfl)) rfl
            replace ha := Aside0.mk ha
            have HO247 := Aside0.mk Q_HO247
            have HO253 := Aside0.mk Q_HO253
            have HO259 := Aside0.mk Q_HO259
            have HO265 := Aside0.mk Q_HO265
            have BK242 := Aside0.mk Q_BK242
            have BK254 := Aside0.mk Q_BK254
            have BK255 := Aside0.mk Q_BK255
            have BK266 := Aside0.mk Q_BK266
            have BK267 := Aside0.mk Q_BK267
            have HB := Aside0.mk Q_HB
            refine value_ (w1 := w') (v := .bool (t270 == t271)) (by rfl) rfl ?_ ?_
            ·
             go_simp
             (try simp only [i64_w])
             try rfl
             all_goals (first | rfl | (simp [bne]; done))
            refine hK.out _ _ ⟨v275, v278, (by rw [ha.out]; exact putSel_upk 20 hb_ rfl rfl rfl), Q_HO247, Q_HO253, Q_HO259, Q_HO265, Q_BK242, Q_BK254, Q_BK255, Q_BK266, Q_BK267, Q_HB, fun h0_ => absurd ((hoff 33 (by kernel_rfl)).symm.trans h0_) (by decide), fun h0_ => absurd ((hoff 37 (by kernel_rfl)).symm.trans h0_) (by decide)⟩
           refine steps_cons ?_ ?_
           ·
            rintro b a w' ⟨v275, v278, ha, Q_HO247, Q_HO253, Q_HO259, Q_HO265, Q_BK242, Q_BK254, Q_BK255, Q_BK266, Q_BK267, Q_HB, Q_HO276, Q_HO279⟩ hb_ hon hoff
            refine ⟨_, rfl, fun K hK => ?_⟩
            have e59 : a.tmps[59]? = some (.bool (t270 == t271)) := by rw [ha]; exact putSel_on (e := (22, 59, .bool (t270 == t271))) 20 rfl rfl (hon 22 (by kernel_rfl)) rfl
            replace ha := Aside0.mk ha
            have HO247 := Aside0.mk Q_HO247
            have HO253 := Aside0.mk Q_HO253
            have HO259 := Aside0.mk Q_HO259
            have HO265 := Aside0.mk Q_HO265
            have BK242 := Aside0.mk Q_BK242
            have BK254 := Aside0.mk Q_BK254
            have BK255 := Aside0.mk Q_BK255
            have BK266 := Aside0.mk Q_BK266
            have BK267 := Aside0.mk Q_BK267
            have HB := Aside0.mk Q_HB
            refine value_ (w1 := w') (v := .bool (t270 == t271)) (by rfl) rfl ?_ ?_
            ·
             go_simp
             (try simp only [i64_w])
             try rfl
             all_goals (first | rfl | (simp [bne]; done))
            refine hK.out _ _ ⟨v275, v278, (by rw [ha.out]; exact putSel_upk 21 hb_ rfl rfl rfl), Q_HO247, Q_HO253, Q_HO259, Q_HO265, Q_BK242, Q_BK254, Q_BK255, Q_BK266, Q_BK267, Q_HB, fun h0_ => absurd ((hoff 33 (by kernel_rfl)).symm.trans h0_) (by decide), fun h0_ => absurd ((hoff 37 (by kernel_rfl)).symm.trans h0_) (by decide)⟩
           refine steps_cons ?_ ?_
           ·
            rintro b a w' ⟨v275, v278, ha, Q_HO247, Q_HO253, Q_HO259, Q_HO265, Q_BK242, Q_BK254, Q_BK255, Q_BK266, Q_BK267, Q_HB, Q_HO276, Q_HO279⟩ hb_ hon hoff
            refine ⟨_, rfl, fun K hK => ?_⟩
            have e4 : a.tmps[4]? = some (.pointer (some ⟨gb242, 0, none⟩)) := by rw [ha]; exact (putSel_off rfl).trans rfl
            have e60 : a.tmps[60]? = some (.bool (t270 == t271)) := by rw [ha]; exact putSel_on (e := (23, 60, .bool (t270 == t271))) 21 rfl rfl (hon 23 (by kernel_rfl)) rfl
            replace ha := Aside0.mk ha
            have HO247 := Aside0.mk Q_HO247
            have HO253 := Aside0.mk Q_HO253
            have HO259 := Aside0.mk Q_HO259
            have HO265 := Aside0.mk Q_HO265
            have BK242 := Aside0.mk Q_BK242
            have BK254 := Aside0.mk Q_BK254
            have BK255 := Aside0.mk Q_BK255
            have BK266 := Aside0.mk Q_BK266
            have BK267 := Aside0.mk Q_BK267
            have HB := Aside0.mk Q_HB
            have hc0_ : w'.cell? ⟨gb242, 0, none⟩ = some (.int .i64 a1_0) := (blk_cell BK242.out 0).trans rfl
            have hc1_ : w'.cell? ⟨gb242, 1, none⟩ = some (.slice A1_1 l1_1.length c1_1) := (blk_cell BK242.out 1).trans rfl
            refine value_ (w1 := w') (v := .agg #[.int .i64 a1_0, .slice A1_1 l1_1.length c1_1]) (wanted_on rfl rfl rfl (e60.trans (by first | rfl | (simp [*]; done)))) rfl ?_ ?_
            ·
             go_simp
             (try simp only [i64_w])
             try rfl
             all_goals (first | rfl | (simp [bne]; done))
            refine hK.out _ _ ⟨v275, v278, (by rw [ha.out]; exact putSel_upk 22 hb_ rfl rfl rfl), Q_HO247, Q_HO253, Q_HO259, Q_HO265, Q_BK242, Q_BK254, Q_BK255, Q_BK266, Q_BK267, Q_HB, fun h0_ => absurd ((hoff 33 (by kernel_rfl)).symm.trans h0_) (by decide), fun h0_ => absurd ((hoff 37 (by kernel_rfl)).symm.trans h0_) (by decide)⟩
           refine steps_cons ?_ ?_
           ·
            rintro b a w' ⟨v275, v278, ha, Q_HO247, Q_HO253, Q_HO259, Q_HO265, Q_BK242, Q_BK254, Q_BK255, Q_BK266, Q_BK267, Q_HB, Q_HO276, Q_HO279⟩ hb_ hon hoff
            refine ⟨_, rfl, fun K hK => ?_⟩
            have e61 : a.tmps[61]? = some (.agg #[.int .i64 a1_0, .slice A1_1 l1_1.length c1_1]) := by rw [ha]; exact putSel_on (e := (24, 61, .agg #[.int .i64 a1_0, .slice A1_1 l1_1.length c1_1])) 22 rfl rfl (hon 24 (by kernel_rfl)) rfl
            have e60 : a.tmps[60]? = some (.bool (t270 == t271)) := by rw [ha]; exact putSel_on (e := (23, 60, .bool (t270 == t271))) 21 rfl rfl (hon 23 (by kernel_rfl)) rfl
            replace ha := Aside0.mk ha
            have HO247 := Aside0.mk Q_HO247
            have HO253 := Aside0.mk Q_HO253
            have HO259 := Aside0.mk Q_HO259
            have HO265 := Aside0.mk Q_HO265
            have BK242 := Aside0.mk Q_BK242
            have BK254 := Aside0.mk Q_BK254
            have BK255 := Aside0.mk Q_BK255
            have BK266 := Aside0.mk Q_BK266
            have BK267 := Aside0.mk Q_BK267
            have HB := Aside0.mk Q_HB
            refine goes_ Try.func15 (by kernel_rfl) rfl #[.agg #[.int .i64 a1_0, .slice A1_1 l1_1.length c1_1]] (wanted_on rfl rfl rfl (e60.trans (by first | rfl | (simp [*]; done)))) rfl rfl (by first | (simp only [List.map_toArray, List.map_cons, List.map_nil, Act.eval, Array.getD_eq_getD_getElem?, Option.getD_some, e61, e60]; done) | (simp only [List.map_toArray, List.map_cons, List.map_nil, Act.eval, Array.getD_eq_getD_getElem?, Option.getD_some, e61, e60]; rfl)) ?_
            with_reducible refine (msg_Sane.calls a1_0 _ _ l1_1 t272 _ ?side1 ?side2 A22.out).mono ?_
            (case side1 => repeat (first | exact (Kd.C_below HR1_1.out HB.out) | (with_reducible refine Kd.C_alloc ?_ _) | (with_reducible refine Kd.C_drewN ?_ _) | (with_reducible refine Kd.C_drew ?_)))
            (case side2 => exact HC1_1.out)
            rintro e w58 ⟨rfl, hb⟩
            refine ⟨_, rfl, ?_⟩
            have n0_ := Aside0.mk (Kd.R_below (by (with_reducible repeat (first | apply Kd.R_alloc | apply Kd.R_drewN | apply Kd.R_drew)); first | exact HO247.out | exact Kd.R_mono HO247.out (by intro k_ hk; first | exact hk | trivial | (simp only [true_and, and_true, and_assoc] at hk ⊢; first | exact hk | trivial) | simp_all)) hb)
            have n1_ := Aside0.mk (Kd.R_below (by (with_reducible repeat (first | apply Kd.R_alloc | apply Kd.R_drewN | apply Kd.R_drew)); first | exact HO253.out | exact Kd.R_mono HO253.out (by intro k_ hk; first | exact hk | trivial | (simp only [true_and, and_true, and_assoc] at hk ⊢; first | exact hk | trivial) | simp_all)) hb)
            have n2_ := Aside0.mk (Kd.V_below (by (with_reducible repeat (first | apply Kd.V_alloc | apply Kd.V_drewN | apply Kd.V_drew)); first | exact HO259.out | exact Kd.V_mono HO259.out (by intro k_ hk; first | exact hk | trivial | (simp only [true_and, and_true, and_assoc] at hk ⊢; first | exact hk | trivial) | simp_all)) hb)
            have n3_ := Aside0.mk (Kd.V_below (by (with_reducible repeat (first | apply Kd.V_alloc | apply Kd.V_drewN | apply Kd.V_drew)); first | exact HO265.out | exact Kd.V_mono HO265.out (by intro k_ hk; first | exact hk | trivial | (simp only [true_and, and_true, and_assoc] at hk ⊢; first | exact hk | trivial) | simp_all)) hb)
            have n4_ := Aside0.mk (blk_below (g := gb242) (o := .cells #[.int .i64 a1_0, .slice A1_1 l1_1.length c1_1] 24 (0, 0)) (by (with_reducible repeat (first | refine kN ?_ _ | refine kD ?_ | refine kA ?_ _)); exact BK242.out) hb)
            have n5_ := Aside0.mk (blk_below (g := gb254) (o := .cells #[.int .i64 t244, .slice Ao33 t245.length co33] 24 (0, 0)) (by (with_reducible repeat (first | refine kN ?_ _ | refine kD ?_ | refine kA ?_ _)); exact BK254.out) hb)
            have n6_ := Aside0.mk (blk_below (g := gb255) (o := .cells #[.int .i64 t249, .int .i64 t250, .slice Ao37 t251.length co37] 27 (0, 0)) (by (with_reducible repeat (first | refine kN ?_ _ | refine kD ?_ | refine kA ?_ _)); exact BK255.out) hb)
            have n7_ := Aside0.mk (blk_below (g := gb266) (o := .cells #[.int .i64 t256, .slice Ao47 t257.length co47] 24 (0, 0)) (by (with_reducible repeat (first | refine kN ?_ _ | refine kD ?_ | refine kA ?_ _)); exact BK266.out) hb)
            have n8_ := Aside0.mk (blk_below (g := gb267) (o := .cells #[.int .i64 t261, .int .i64 t262, .slice Ao52 t263.length co52] 27 (0, 0)) (by (with_reducible repeat (first | refine kN ?_ _ | refine kD ?_ | refine kA ?_ _)); exact BK267.out) hb)
            have n9_ := Aside0.mk (below_step (by repeat (first | (with_reducible first | exact HB.out | apply bA | apply bN | apply bD | refine bS ?_ GE242.out | refine bS ?_ GE254.out | refine bS ?_ GE255.out | refine bS ?_ GE266.out | refine bS ?_ GE267.out) | exact HB.out)) hb)
            clear HO247
            clear HO253
            clear HO259
            clear HO265
            clear BK242
            clear BK254
            clear BK255
            clear BK266
            clear BK267
            clear HB
            have HO247 := n0_
            have HO253 := n1_
            have HO259 := n2_
            have HO265 := n3_
            have BK242 := n4_
            have BK254 := n5_
            have BK255 := n6_
            have BK266 := n7_
            have BK267 := n8_
            have HB := n9_
            clear n0_ n1_ n2_ n3_ n4_ n5_ n6_ n7_ n8_ n9_
            (try clear hb)
            (try clear hb2)
            (try clear hk)
            (try clear hi)
            refine hK.out _ _ ⟨v275, v278, (by rw [ha.out]; exact putSel_upk 23 hb_ rfl rfl rfl), (by (with_reducible repeat (first | apply Kd.R_alloc | apply Kd.R_drewN | apply Kd.R_drew)); first | exact HO247.out | exact Kd.R_mono HO247.out (by intro k_ hk; first | exact hk | trivial | (simp only [true_and, and_true, and_assoc] at hk ⊢; first | exact hk | trivial) | simp_all)), (by (with_reducible repeat (first | apply Kd.R_alloc | apply Kd.R_drewN | apply Kd.R_drew)); first | exact HO253.out | exact Kd.R_mono HO253.out (by intro k_ hk; first | exact hk | trivial | (simp only [true_and, and_true, and_assoc] at hk ⊢; first | exact hk | trivial) | simp_all)), (by (with_reducible repeat (first | apply Kd.V_alloc | apply Kd.V_drewN | apply Kd.V_drew)); first | exact HO259.out | exact Kd.V_mono HO259.out (by intro k_ hk; first | exact hk | trivial | (simp only [true_and, and_true, and_assoc] at hk ⊢; first | exact hk | trivial) | simp_all)), (by (with_reducible repeat (first | apply Kd.V_alloc | apply Kd.V_drewN | apply Kd.V_drew)); first | exact HO265.out | exact Kd.V_mono HO265.out (by intro k_ hk; first | exact hk | trivial | (simp only [true_and, and_true, and_assoc] at hk ⊢; first | exact hk | trivial) | simp_all)), (by (with_reducible repeat (first | refine kN ?_ _ | refine kD ?_ | refine kA ?_ _)); exact BK242.out), (by (with_reducible repeat (first | refine kN ?_ _ | refine kD ?_ | refine kA ?_ _)); exact BK254.out), (by (with_reducible repeat (first | refine kN ?_ _ | refine kD ?_ | refine kA ?_ _)); exact BK255.out), (by (with_reducible repeat (first | refine kN ?_ _ | refine kD ?_ | refine kA ?_ _)); exact BK266.out), (by (with_reducible repeat (first | refine kN ?_ _ | refine kD ?_ | refine kA ?_ _)); exact BK267.out), (by repeat (first | (with_reducible first | exact HB.out | apply bA | apply bN | apply bD | refine bS ?_ GE242.out | refine bS ?_ GE254.out | refine bS ?_ GE255.out | refine bS ?_ GE266.out | refine bS ?_ GE267.out) | exact HB.out)), fun h0_ => absurd ((hoff 33 (by kernel_rfl)).symm.trans h0_) (by decide), fun h0_ => absurd ((hoff 37 (by kernel_rfl)).symm.trans h0_) (by decide)⟩
           refine steps_cons ?_ ?_
           ·
            rintro b a w' ⟨v275, v278, ha, Q_HO247, Q_HO253, Q_HO259, Q_HO265, Q_BK242, Q_BK254, Q_BK255, Q_BK266, Q_BK267, Q_HB, Q_HO276, Q_HO279⟩ hb_ hon hoff
            refine ⟨_, rfl, fun K hK => ?_⟩
            have e4 : a.tmps[4]? = some (.pointer (some ⟨gb242, 0, none⟩)) := by rw [ha]; exact (putSel_off rfl).trans rfl
            have e60 : a.tmps[60]? = some (.bool (t270 == t271)) := by rw [ha]; exact putSel_on (e := (23, 60, .bool (t270 == t271))) 21 rfl rfl (hon 23 (by kernel_rfl)) rfl
            replace ha := Aside0.mk ha
            have HO247 := Aside0.mk Q_HO247
            have HO253 := Aside0.mk Q_HO253
            have HO259 := Aside0.mk Q_HO259
            have HO265 := Aside0.mk Q_HO265
            have BK242 := Aside0.mk Q_BK242
            have BK254 := Aside0.mk Q_BK254
            have BK255 := Aside0.mk Q_BK255
            have BK266 := Aside0.mk Q_BK266
            have BK267 := Aside0.mk Q_BK267
            have HB := Aside0.mk Q_HB
            have hc0_ : w'.cell? ⟨gb242, 0, none⟩ = some (.int .i64 a1_0) := (blk_cell BK242.out 0).trans rfl
            have hc1_ : w'.cell? ⟨gb242, 1, none⟩ = some (.slice A1_1 l1_1.length c1_1) := (blk_cell BK242.out 1).trans rfl
            refine value_ (w1 := w') (v := .agg #[.int .i64 a1_0, .slice A1_1 l1_1.length c1_1]) (wanted_on rfl rfl rfl (e60.trans (by first | rfl | (simp [*]; done)))) rfl ?_ ?_
            ·
             go_simp
             (try simp only [i64_w])
             try rfl
             all_goals (first | rfl | (simp [bne]; done))
            refine hK.out _ _ ⟨v275, v278, (by rw [ha.out]; exact putSel_upk 24 hb_ rfl rfl rfl), Q_HO247, Q_HO253, Q_HO259, Q_HO265, Q_BK242, Q_BK254, Q_BK255, Q_BK266, Q_BK267, Q_HB, fun h0_ => absurd ((hoff 33 (by kernel_rfl)).symm.trans h0_) (by decide), fun h0_ => absurd ((hoff 37 (by kernel_rfl)).symm.trans h0_) (by decide)⟩
           refine steps_cons ?_ ?_
           ·
            rintro b a w' ⟨v275, v278, ha, Q_HO247, Q_HO253, Q_HO259, Q_HO265, Q_BK242, Q_BK254, Q_BK255, Q_BK266, Q_BK267, Q_HB, Q_HO276, Q_HO279⟩ hb_ hon hoff
            refine ⟨_, rfl, fun K hK => ?_⟩
            have e63 : a.tmps[63]? = some (.agg #[.int .i64 a1_0, .slice A1_1 l1_1.length c1_1]) := by rw [ha]; exact putSel_on (e := (26, 63, .agg #[.int .i64 a1_0, .slice A1_1 l1_1.length c1_1])) 24 rfl rfl (hon 26 (by kernel_rfl)) rfl
            have e60 : a.tmps[60]? = some (.bool (t270 == t271)) := by rw [ha]; exact putSel_on (e := (23, 60, .bool (t270 == t271))) 21 rfl rfl (hon 23 (by kernel_rfl)) rfl
            replace ha := Aside0.mk ha
            have HO247 := Aside0.mk Q_HO247
            have HO253 := Aside0.mk Q_HO253
            have HO259 := Aside0.mk Q_HO259
            have HO265 := Aside0.mk Q_HO265
            have BK242 := Aside0.mk Q_BK242
            have BK254 := Aside0.mk Q_BK254
            have BK255 := Aside0.mk Q_BK255
            have BK266 := Aside0.mk Q_BK266
            have BK267 := Aside0.mk Q_BK267
            have HB := Aside0.mk Q_HB
            refine goes_ Try.func16 (by kernel_rfl) rfl #[.agg #[.int .i64 a1_0, .slice A1_1 l1_1.length c1_1]] (wanted_on rfl rfl rfl (e60.trans (by first | rfl | (simp [*]; done)))) rfl rfl (by first | (simp only [List.map_toArray, List.map_cons, List.map_nil, Act.eval, Array.getD_eq_getD_getElem?, Option.getD_some, e63, e60]; done) | (simp only [List.map_toArray, List.map_cons, List.map_nil, Act.eval, Array.getD_eq_getD_getElem?, Option.getD_some, e63, e60]; rfl)) ?_
            with_reducible refine (ridgewayref03_Sane.calls a1_0 _ _ l1_1 t273 _ ?side1 ?side2 A23.out).mono ?_
            (case side1 => repeat (first | exact (Kd.C_below HR1_1.out HB.out) | (with_reducible refine Kd.C_alloc ?_ _) | (with_reducible refine Kd.C_drewN ?_ _) | (with_reducible refine Kd.C_drew ?_)))
            (case side2 => exact HC1_1.out)
            rintro e w59 ⟨rfl, hb⟩
            refine ⟨_, rfl, ?_⟩
            have n0_ := Aside0.mk (Kd.R_below (by (with_reducible repeat (first | apply Kd.R_alloc | apply Kd.R_drewN | apply Kd.R_drew)); first | exact HO247.out | exact Kd.R_mono HO247.out (by intro k_ hk; first | exact hk | trivial | (simp only [true_and, and_true, and_assoc] at hk ⊢; first | exact hk | trivial) | simp_all)) hb)
            have n1_ := Aside0.mk (Kd.R_below (by (with_reducible repeat (first | apply Kd.R_alloc | apply Kd.R_drewN | apply Kd.R_drew)); first | exact HO253.out | exact Kd.R_mono HO253.out (by intro k_ hk; first | exact hk | trivial | (simp only [true_and, and_true, and_assoc] at hk ⊢; first | exact hk | trivial) | simp_all)) hb)
            have n2_ := Aside0.mk (Kd.V_below (by (with_reducible repeat (first | apply Kd.V_alloc | apply Kd.V_drewN | apply Kd.V_drew)); first | exact HO259.out | exact Kd.V_mono HO259.out (by intro k_ hk; first | exact hk | trivial | (simp only [true_and, and_true, and_assoc] at hk ⊢; first | exact hk | trivial) | simp_all)) hb)
            have n3_ := Aside0.mk (Kd.V_below (by (with_reducible repeat (first | apply Kd.V_alloc | apply Kd.V_drewN | apply Kd.V_drew)); first | exact HO265.out | exact Kd.V_mono HO265.out (by intro k_ hk; first | exact hk | trivial | (simp only [true_and, and_true, and_assoc] at hk ⊢; first | exact hk | trivial) | simp_all)) hb)
            have n4_ := Aside0.mk (blk_below (g := gb242) (o := .cells #[.int .i64 a1_0, .slice A1_1 l1_1.length c1_1] 24 (0, 0)) (by (with_reducible repeat (first | refine kN ?_ _ | refine kD ?_ | refine kA ?_ _)); exact BK242.out) hb)
            have n5_ := Aside0.mk (blk_below (g := gb254) (o := .cells #[.int .i64 t244, .slice Ao33 t245.length co33] 24 (0, 0)) (by (with_reducible repeat (first | refine kN ?_ _ | refine kD ?_ | refine kA ?_ _)); exact BK254.out) hb)
            have n6_ := Aside0.mk (blk_below (g := gb255) (o := .cells #[.int .i64 t249, .int .i64 t250, .slice Ao37 t251.length co37] 27 (0, 0)) (by (with_reducible repeat (first | refine kN ?_ _ | refine kD ?_ | refine kA ?_ _)); exact BK255.out) hb)
            have n7_ := Aside0.mk (blk_below (g := gb266) (o := .cells #[.int .i64 t256, .slice Ao47 t257.length co47] 24 (0, 0)) (by (with_reducible repeat (first | refine kN ?_ _ | refine kD ?_ | refine kA ?_ _)); exact BK266.out) hb)
            have n8_ := Aside0.mk (blk_below (g := gb267) (o := .cells #[.int .i64 t261, .int .i64 t262, .slice Ao52 t263.length co52] 27 (0, 0)) (by (with_reducible repeat (first | refine kN ?_ _ | refine kD ?_ | refine kA ?_ _)); exact BK267.out) hb)
            have n9_ := Aside0.mk (below_step (by repeat (first | (with_reducible first | exact HB.out | apply bA | apply bN | apply bD | refine bS ?_ GE242.out | refine bS ?_ GE254.out | refine bS ?_ GE255.out | refine bS ?_ GE266.out | refine bS ?_ GE267.out) | exact HB.out)) hb)
            clear HO247
            clear HO253
            clear HO259
            clear HO265
            clear BK242
            clear BK254
            clear BK255
            clear BK266
            clear BK267
            clear HB
            have HO247 := n0_
            have HO253 := n1_
            have HO259 := n2_
            have HO265 := n3_
            have BK242 := n4_
            have BK254 := n5_
            have BK255 := n6_
            have BK266 := n7_
            have BK267 := n8_
            have HB := n9_
            clear n0_ n1_ n2_ n3_ n4_ n5_ n6_ n7_ n8_ n9_
            (try clear hb)
            (try clear hb2)
            (try clear hk)
            (try clear hi)
            refine hK.out _ _ ⟨v275, v278, (by rw [ha.out]; exact putSel_upk 25 hb_ rfl rfl rfl), (by (with_reducible repeat (first | apply Kd.R_alloc | apply Kd.R_drewN | apply Kd.R_drew)); first | exact HO247.out | exact Kd.R_mono HO247.out (by intro k_ hk; first | exact hk | trivial | (simp only [true_and, and_true, and_assoc] at hk ⊢; first | exact hk | trivial) | simp_all)), (by (with_reducible repeat (first | apply Kd.R_alloc | apply Kd.R_drewN | apply Kd.R_drew)); first | exact HO253.out | exact Kd.R_mono HO253.out (by intro k_ hk; first | exact hk | trivial | (simp only [true_and, and_true, and_assoc] at hk ⊢; first | exact hk | trivial) | simp_all)), (by (with_reducible repeat (first | apply Kd.V_alloc | apply Kd.V_drewN | apply Kd.V_drew)); first | exact HO259.out | exact Kd.V_mono HO259.out (by intro k_ hk; first | exact hk | trivial | (simp only [true_and, and_true, and_assoc] at hk ⊢; first | exact hk | trivial) | simp_all)), (by (with_reducible repeat (first | apply Kd.V_alloc | apply Kd.V_drewN | apply Kd.V_drew)); first | exact HO265.out | exact Kd.V_mono HO265.out (by intro k_ hk; first | exact hk | trivial | (simp only [true_and, and_true, and_assoc] at hk ⊢; first | exact hk | trivial) | simp_all)), (by (with_reducible repeat (first | refine kN ?_ _ | refine kD ?_ | refine kA ?_ _)); exact BK242.out), (by (with_reducible repeat (first | refine kN ?_ _ | refine kD ?_ | refine kA ?_ _)); exact BK254.out), (by (with_reducible repeat (first | refine kN ?_ _ | refine kD ?_ | refine kA ?_ _)); exact BK255.out), (by (with_reducible repeat (first | refine kN ?_ _ | refine kD ?_ | refine kA ?_ _)); exact BK266.out), (by (with_reducible repeat (first | refine kN ?_ _ | refine kD ?_ | refine kA ?_ _)); exact BK267.out), (by repeat (first | (with_reducible first | exact HB.out | apply bA | apply bN | apply bD | refine bS ?_ GE242.out | refine bS ?_ GE254.out | refine bS ?_ GE255.out | refine bS ?_ GE266.out | refine bS ?_ GE267.out) | exact HB.out)), fun h0_ => absurd ((hoff 33 (by kernel_rfl)).symm.trans h0_) (by decide), fun h0_ => absurd ((hoff 37 (by kernel_rfl)).symm.trans h0_) (by decide)⟩
           refine steps_cons ?_ ?_
           ·
            rintro b a w' ⟨v275, v278, ha, Q_HO247, Q_HO253, Q_HO259, Q_HO265, Q_BK242, Q_BK254, Q_BK255, Q_BK266, Q_BK267, Q_HB, Q_HO276, Q_HO279⟩ hb_ hon hoff
            refine ⟨_, rfl, fun K hK => ?_⟩
            have e62 : a.tmps[62]? = some (.bool t272) := by rw [ha]; exact putSel_on (e := (25, 62, .bool t272)) 23 rfl rfl (hon 25 (by kernel_rfl)) rfl
            have e64 : a.tmps[64]? = some (.bool t273) := by rw [ha]; exact putSel_on (e := (27, 64, .bool t273)) 25 rfl rfl (hon 27 (by kernel_rfl)) rfl
            have e60 : a.tmps[60]? = some (.bool (t270 == t271)) := by rw [ha]; exact putSel_on (e := (23, 60, .bool (t270 == t271))) 21 rfl rfl (hon 23 (by kernel_rfl)) rfl
            replace ha := Aside0.mk ha
            have HO247 := Aside0.mk Q_HO247
            have HO253 := Aside0.mk Q_HO253
            have HO259 := Aside0.mk Q_HO259
            have HO265 := Aside0.mk Q_HO265
            have BK242 := Aside0.mk Q_BK242
            have BK254 := Aside0.mk Q_BK254
            have BK255 := Aside0.mk Q_BK255
            have BK266 := Aside0.mk Q_BK266
            have BK267 := Aside0.mk Q_BK267
            have HB := Aside0.mk Q_HB
            refine value_ (w1 := w') (v := .bool (t272 == t273)) (wanted_on rfl rfl rfl (e60.trans (by first | rfl | (simp [*]; done)))) rfl ?_ ?_
            ·
             go_simp
             (try simp only [i64_w])
             try rfl
             all_goals (first | rfl | (simp [bne]; done))
            refine hK.out _ _ ⟨v275, v278, (by rw [ha.out]; exact putSel_upk 26 hb_ rfl rfl rfl), Q_HO247, Q_HO253, Q_HO259, Q_HO265, Q_BK242, Q_BK254, Q_BK255, Q_BK266, Q_BK267, Q_HB, fun h0_ => absurd ((hoff 33 (by kernel_rfl)).symm.trans h0_) (by decide), fun h0_ => absurd ((hoff 37 (by kernel_rfl)).symm.trans h0_) (by decide)⟩
           refine steps_cons ?_ ?_
           ·
            rintro b a w' ⟨v275, v278, ha, Q_HO247, Q_HO253, Q_HO259, Q_HO265, Q_BK242, Q_BK254, Q_BK255, Q_BK266, Q_BK267, Q_HB, Q_HO276, Q_HO279⟩ hb_ hon hoff
            refine ⟨_, rfl, fun K hK => ?_⟩
            have e60 : a.tmps[60]? = some (.bool (t270 == t271)) := by rw [ha]; exact putSel_on (e := (23, 60, .bool (t270 == t271))) 21 rfl rfl (hon 23 (by kernel_rfl)) rfl
            have e65 : a.tmps[65]? = some (.bool (t272 == t273)) := by rw [ha]; exact putSel_on (e := (28, 65, .bool (t272 == t273))) 26 rfl rfl (hon 28 (by kernel_rfl)) rfl
            replace ha := Aside0.mk ha
            have HO247 := Aside0.mk Q_HO247
            have HO253 := Aside0.mk Q_HO253
            have HO259 := Aside0.mk Q_HO259
            have HO265 := Aside0.mk Q_HO265
            have BK242 := Aside0.mk Q_BK242
            have BK254 := Aside0.mk Q_BK254
            have BK255 := Aside0.mk Q_BK255
            have BK266 := Aside0.mk Q_BK266
            have BK267 := Aside0.mk Q_BK267
            have HB := Aside0.mk Q_HB
            refine value_ (w1 := w') (v := .bool (t272 == t273)) (by rfl) rfl ?_ ?_
            ·
             go_simp
             (try simp only [i64_w])
             try rfl
             all_goals (first | rfl | (simp [bne]; done))
            refine hK.out _ _ ⟨v275, v278, (by rw [ha.out]; exact putSel_upk 27 hb_ rfl rfl rfl), Q_HO247, Q_HO253, Q_HO259, Q_HO265, Q_BK242, Q_BK254, Q_BK255, Q_BK266, Q_BK267, Q_HB, fun h0_ => absurd ((hoff 33 (by kernel_rfl)).symm.trans h0_) (by decide), fun h0_ => absurd ((hoff 37 (by kernel_rfl)).symm.trans h0_) (by decide)⟩
           refine steps_cons ?_ ?_
           ·
            rintro b a w' ⟨v275, v278, ha, Q_HO247, Q_HO253, Q_HO259, Q_HO265, Q_BK242, Q_BK254, Q_BK255, Q_BK266, Q_BK267, Q_HB, Q_HO276, Q_HO279⟩ hb_ hon hoff
            refine ⟨_, rfl, fun K hK => ?_⟩
            have e66 : a.tmps[66]? = some (.bool (t272 == t273)) := by rw [ha]; exact putSel_on (e := (29, 66, .bool (t272 == t273))) 27 rfl rfl (hon 29 (by kernel_rfl)) rfl
            replace ha := Aside0.mk ha
            have HO247 := Aside0.mk Q_HO247
            have HO253 := Aside0.mk Q_HO253
            have HO259 := Aside0.mk Q_HO259
            have HO265 := Aside0.mk Q_HO265
            have BK242 := Aside0.mk Q_BK242
            have BK254 := Aside0.mk Q_BK254
            have BK255 := Aside0.mk Q_BK255
            have BK266 := Aside0.mk Q_BK266
            have BK267 := Aside0.mk Q_BK267
            have HB := Aside0.mk Q_HB
            refine value_ (w1 := w') (v := .bool (t272 == t273)) (by rfl) rfl ?_ ?_
            ·
             go_simp
             (try simp only [i64_w])
             try rfl
             all_goals (first | rfl | (simp [bne]; done))
            refine hK.out _ _ ⟨v275, v278, (by rw [ha.out]; exact putSel_upk 28 hb_ rfl rfl rfl), Q_HO247, Q_HO253, Q_HO259, Q_HO265, Q_BK242, Q_BK254, Q_BK255, Q_BK266, Q_BK267, Q_HB, fun h0_ => absurd ((hoff 33 (by kernel_rfl)).symm.trans h0_) (by decide), fun h0_ => absurd ((hoff 37 (by kernel_rfl)).symm.trans h0_) (by decide)⟩
           refine steps_cons ?_ ?_
           ·
            rintro b a w' ⟨v275, v278, ha, Q_HO247, Q_HO253, Q_HO259, Q_HO265, Q_BK242, Q_BK254, Q_BK255, Q_BK266, Q_BK267, Q_HB, Q_HO276, Q_HO279⟩ hb_ hon hoff
            refine ⟨_, rfl, fun K hK => ?_⟩
            have e0 : a.tmps[0]? = some (.slice A0 l0.length c0) := by rw [ha]; exact (putSel_off rfl).trans rfl
            have e67 : a.tmps[67]? = some (.bool (t272 == t273)) := by rw [ha]; exact putSel_on (e := (30, 67, .bool (t272 == t273))) 28 rfl rfl (hon 30 (by kernel_rfl)) rfl
            replace ha := Aside0.mk ha
            have HO247 := Aside0.mk Q_HO247
            have HO253 := Aside0.mk Q_HO253
            have HO259 := Aside0.mk Q_HO259
            have HO265 := Aside0.mk Q_HO265
            have BK242 := Aside0.mk Q_BK242
            have BK254 := Aside0.mk Q_BK254
            have BK255 := Aside0.mk Q_BK255
            have BK266 := Aside0.mk Q_BK266
            have BK267 := Aside0.mk Q_BK267
            have HB := Aside0.mk Q_HB
            refine value_ (w1 := w') (v := .slice A0 l0.length c0) (wanted_on rfl rfl rfl (e67.trans (by first | rfl | (simp [*]; done)))) rfl ?_ ?_
            ·
             go_simp
             (try simp only [i64_w])
             try rfl
             all_goals (first | rfl | (simp [bne]; done))
            refine hK.out _ _ ⟨v275, v278, (by rw [ha.out]; exact putSel_upk 29 hb_ rfl rfl rfl), Q_HO247, Q_HO253, Q_HO259, Q_HO265, Q_BK242, Q_BK254, Q_BK255, Q_BK266, Q_BK267, Q_HB, fun h0_ => absurd ((hoff 33 (by kernel_rfl)).symm.trans h0_) (by decide), fun h0_ => absurd ((hoff 37 (by kernel_rfl)).symm.trans h0_) (by decide)⟩
           refine steps_cons ?_ ?_
           ·
            rintro b a w' ⟨v275, v278, ha, Q_HO247, Q_HO253, Q_HO259, Q_HO265, Q_BK242, Q_BK254, Q_BK255, Q_BK266, Q_BK267, Q_HB, Q_HO276, Q_HO279⟩ hb_ hon hoff
            refine ⟨_, rfl, fun K hK => ?_⟩
            have e4 : a.tmps[4]? = some (.pointer (some ⟨gb242, 0, none⟩)) := by rw [ha]; exact (putSel_off rfl).trans rfl
            have e67 : a.tmps[67]? = some (.bool (t272 == t273)) := by rw [ha]; exact putSel_on (e := (30, 67, .bool (t272 == t273))) 28 rfl rfl (hon 30 (by kernel_rfl)) rfl
            replace ha := Aside0.mk ha
            have HO247 := Aside0.mk Q_HO247
            have HO253 := Aside0.mk Q_HO253
            have HO259 := Aside0.mk Q_HO259
            have HO265 := Aside0.mk Q_HO265
            have BK242 := Aside0.mk Q_BK242
            have BK254 := Aside0.mk Q_BK254
            have BK255 := Aside0.mk Q_BK255
            have BK266 := Aside0.mk Q_BK266
            have BK267 := Aside0.mk Q_BK267
            have HB := Aside0.mk Q_HB
            have hc0_ : w'.cell? ⟨gb242, 0, none⟩ = some (.int .i64 a1_0) := (blk_cell BK242.out 0).trans rfl
            have hc1_ : w'.cell? ⟨gb242, 1, none⟩ = some (.slice A1_1 l1_1.length c1_1) := (blk_cell BK242.out 1).trans rfl
            refine value_ (w1 := w') (v := .agg #[.int .i64 a1_0, .slice A1_1 l1_1.length c1_1]) (wanted_on rfl rfl rfl (e67.trans (by first | rfl | (simp [*]; done)))) rfl ?_ ?_
            ·
             go_simp
             (try simp only [i64_w])
             try rfl
             all_goals (first | rfl | (simp [bne]; done))
            refine hK.out _ _ ⟨v275, v278, (by rw [ha.out]; exact putSel_upk 30 hb_ rfl rfl rfl), Q_HO247, Q_HO253, Q_HO259, Q_HO265, Q_BK242, Q_BK254, Q_BK255, Q_BK266, Q_BK267, Q_HB, fun h0_ => absurd ((hoff 33 (by kernel_rfl)).symm.trans h0_) (by decide), fun h0_ => absurd ((hoff 37 (by kernel_rfl)).symm.trans h0_) (by decide)⟩
           refine steps_cons ?_ ?_
           ·
            rintro b a w' ⟨v275, v278, ha, Q_HO247, Q_HO253, Q_HO259, Q_HO265, Q_BK242, Q_BK254, Q_BK255, Q_BK266, Q_BK267, Q_HB, Q_HO276, Q_HO279⟩ hb_ hon hoff
            refine ⟨_, rfl, fun K hK => ?_⟩
            have e68 : a.tmps[68]? = some (.slice A0 l0.length c0) := by rw [ha]; exact putSel_on (e := (31, 68, .slice A0 l0.length c0)) 29 rfl rfl (hon 31 (by kernel_rfl)) rfl
            have e69 : a.tmps[69]? = some (.agg #[.int .i64 a1_0, .slice A1_1 l1_1.length c1_1]) := by rw [ha]; exact putSel_on (e := (32, 69, .agg #[.int .i64 a1_0, .slice A1_1 l1_1.length c1_1])) 30 rfl rfl (hon 32 (by kernel_rfl)) rfl
            have e67 : a.tmps[67]? = some (.bool (t272 == t273)) := by rw [ha]; exact putSel_on (e := (30, 67, .bool (t272 == t273))) 28 rfl rfl (hon 30 (by kernel_rfl)) rfl
            replace ha := Aside0.mk ha
            have HO247 := Aside0.mk Q_HO247
            have HO253 := Aside0.mk Q_HO253
            have HO259 := Aside0.mk Q_HO259
            have HO265 := Aside0.mk Q_HO265
            have BK242 := Aside0.mk Q_BK242
            have BK254 := Aside0.mk Q_BK254
            have BK255 := Aside0.mk Q_BK255
            have BK266 := Aside0.mk Q_BK266
            have BK267 := Aside0.mk Q_BK267
            have HB := Aside0.mk Q_HB
            refine goes_ Try.func17 (by kernel_rfl) rfl #[.slice A0 l0.length c0, .agg #[.int .i64 a1_0, .slice A1_1 l1_1.length c1_1]] (wanted_on rfl rfl rfl (e67.trans (by first | rfl | (simp [*]; done)))) rfl rfl (by first | (simp only [List.map_toArray, List.map_cons, List.map_nil, Act.eval, Array.getD_eq_getD_getElem?, Option.getD_some, e68, e69, e67]; done) | (simp only [List.map_toArray, List.map_cons, List.map_nil, Act.eval, Array.getD_eq_getD_getElem?, Option.getD_some, e68, e69, e67]; rfl)) ?_
            with_reducible refine (msg_Put.calls kj4 (fun k_ => k_ < w.heap.size) _ _ l0 a1_0 _ _ l1_1 t274 _ ?side1 ?side2 ?side3 A25.out).mono ?_
            (case side1 => exact Kd.V_mk HC0.out (Kd.F_below (Kd.C_F (Kd.heap_int .u8) HR0.out) (by repeat (first | (with_reducible first | exact HB.out | apply bA | apply bN | apply bD | refine bS ?_ GE242.out | refine bS ?_ GE254.out | refine bS ?_ GE255.out | refine bS ?_ GE266.out | refine bS ?_ GE267.out) | exact HB.out))))
            (case side2 => repeat (first | exact (Kd.C_below HR1_1.out HB.out) | (with_reducible refine Kd.C_alloc ?_ _) | (with_reducible refine Kd.C_drewN ?_ _) | (with_reducible refine Kd.C_drew ?_)))
            (case side3 => exact HC1_1.out)
            rintro e w60 ⟨v275, rfl, ho0, hb⟩
            refine ⟨_, rfl, ?_⟩
            have n0_ := Aside0.mk (Kd.R_elder' (by (with_reducible repeat (first | apply Kd.R_alloc | apply Kd.R_drewN | apply Kd.R_drew)); first | exact HO247.out | exact Kd.R_mono HO247.out (by intro k_ hk; first | exact hk | trivial | (simp only [true_and, and_true, and_assoc] at hk ⊢; first | exact hk | trivial) | simp_all)) (Kd.R_base ho0) hb)
            have n1_ := Aside0.mk (Kd.R_elder' (by (with_reducible repeat (first | apply Kd.R_alloc | apply Kd.R_drewN | apply Kd.R_drew)); first | exact HO253.out | exact Kd.R_mono HO253.out (by intro k_ hk; first | exact hk | trivial | (simp only [true_and, and_true, and_assoc] at hk ⊢; first | exact hk | trivial) | simp_all)) (Kd.R_base ho0) hb)
            have n2_ := Aside0.mk (Kd.V_elder' (by (with_reducible repeat (first | apply Kd.V_alloc | apply Kd.V_drewN | apply Kd.V_drew)); first | exact HO259.out | exact Kd.V_mono HO259.out (by intro k_ hk; first | exact hk | trivial | (simp only [true_and, and_true, and_assoc] at hk ⊢; first | exact hk | trivial) | simp_all)) (Kd.R_base ho0) hb)
            have n3_ := Aside0.mk (Kd.V_elder' (by (with_reducible repeat (first | apply Kd.V_alloc | apply Kd.V_drewN | apply Kd.V_drew)); first | exact HO265.out | exact Kd.V_mono HO265.out (by intro k_ hk; first | exact hk | trivial | (simp only [true_and, and_true, and_assoc] at hk ⊢; first | exact hk | trivial) | simp_all)) (Kd.R_base ho0) hb)
            have n4_ := Aside0.mk (Kd.R_lower (Kd.R_new' (Kd.R_new' (Kd.R_mono (ok' := fun k_ => True) ho0 (fun _ hk_ => trivial)) (Kd.R_lt (by (with_reducible repeat (first | apply Kd.R_alloc | apply Kd.R_drewN | apply Kd.R_drew)); first | exact HO247.out | exact Kd.R_mono HO247.out (by intro k_ hk; first | exact hk | trivial | (simp only [true_and, and_true, and_assoc] at hk ⊢; first | exact hk | trivial) | simp_all)))) (Kd.R_lt (by (with_reducible repeat (first | apply Kd.R_alloc | apply Kd.R_drewN | apply Kd.R_drew)); first | exact HO253.out | exact Kd.R_mono HO253.out (by intro k_ hk; first | exact hk | trivial | (simp only [true_and, and_true, and_assoc] at hk ⊢; first | exact hk | trivial) | simp_all)))) (below_size (by repeat (first | (with_reducible first | exact HB.out | apply bA | apply bN | apply bD | refine bS ?_ GE242.out | refine bS ?_ GE254.out | refine bS ?_ GE255.out | refine bS ?_ GE266.out | refine bS ?_ GE267.out) | exact HB.out))))
            have n5_ := Aside0.mk (blk_below (g := gb242) (o := .cells #[.int .i64 a1_0, .slice A1_1 l1_1.length c1_1] 24 (0, 0)) (by (with_reducible repeat (first | refine kN ?_ _ | refine kD ?_ | refine kA ?_ _)); exact BK242.out) hb)
            have n6_ := Aside0.mk (blk_below (g := gb254) (o := .cells #[.int .i64 t244, .slice Ao33 t245.length co33] 24 (0, 0)) (by (with_reducible repeat (first | refine kN ?_ _ | refine kD ?_ | refine kA ?_ _)); exact BK254.out) hb)
            have n7_ := Aside0.mk (blk_below (g := gb255) (o := .cells #[.int .i64 t249, .int .i64 t250, .slice Ao37 t251.length co37] 27 (0, 0)) (by (with_reducible repeat (first | refine kN ?_ _ | refine kD ?_ | refine kA ?_ _)); exact BK255.out) hb)
            have n8_ := Aside0.mk (blk_below (g := gb266) (o := .cells #[.int .i64 t256, .slice Ao47 t257.length co47] 24 (0, 0)) (by (with_reducible repeat (first | refine kN ?_ _ | refine kD ?_ | refine kA ?_ _)); exact BK266.out) hb)
            have n9_ := Aside0.mk (blk_below (g := gb267) (o := .cells #[.int .i64 t261, .int .i64 t262, .slice Ao52 t263.length co52] 27 (0, 0)) (by (with_reducible repeat (first | refine kN ?_ _ | refine kD ?_ | refine kA ?_ _)); exact BK267.out) hb)
            have n10_ := Aside0.mk (below_step (by repeat (first | (with_reducible first | exact HB.out | apply bA | apply bN | apply bD | refine bS ?_ GE242.out | refine bS ?_ GE254.out | refine bS ?_ GE255.out | refine bS ?_ GE266.out | refine bS ?_ GE267.out) | exact HB.out)) hb)
            clear HO247
            clear HO253
            clear HO259
            clear HO265
            clear BK242
            clear BK254
            clear BK255
            clear BK266
            clear BK267
            clear HB
            have HO247 := n0_
            have HO253 := n1_
            have HO259 := n2_
            have HO265 := n3_
            have HO276 := n4_
            have BK242 := n5_
            have BK254 := n6_
            have BK255 := n7_
            have BK266 := n8_
            have BK267 := n9_
            have HB := n10_
            clear n0_ n1_ n2_ n3_ n4_ n5_ n6_ n7_ n8_ n9_ n10_
            (try clear hb)
            (try clear hb2)
            (try clear hk)
            (try clear hi)
            (try clear ho0)
            refine hK.out _ _ ⟨v275, v278, (by rw [ha.out]; exact putSel_upk 31 hb_ rfl rfl rfl), (by (with_reducible repeat (first | apply Kd.R_alloc | apply Kd.R_drewN | apply Kd.R_drew)); first | exact HO247.out | exact Kd.R_mono HO247.out (by intro k_ hk; first | exact hk | trivial | (simp only [true_and, and_true, and_assoc] at hk ⊢; first | exact hk | trivial) | simp_all)), (by (with_reducible repeat (first | apply Kd.R_alloc | apply Kd.R_drewN | apply Kd.R_drew)); first | exact HO253.out | exact Kd.R_mono HO253.out (by intro k_ hk; first | exact hk | trivial | (simp only [true_and, and_true, and_assoc] at hk ⊢; first | exact hk | trivial) | simp_all)), (by (with_reducible repeat (first | apply Kd.V_alloc | apply Kd.V_drewN | apply Kd.V_drew)); exact Kd.V_mono HO259.out (by intro _ hk; first | exact ⟨hk.1.1, ⟨hk.1.2.1, ⟨hk.2, ⟨hk.1.2.2.1, ⟨hk.1.2.2.2.1, ⟨hk.1.2.2.2.2.1, ⟨hk.1.2.2.2.2.2.1, hk.1.2.2.2.2.2.2⟩⟩⟩⟩⟩⟩⟩ | exact hk | trivial | (simp only [true_and, and_true, and_assoc] at hk ⊢; first | exact hk | trivial) | simp_all)), (by (with_reducible repeat (first | apply Kd.V_alloc | apply Kd.V_drewN | apply Kd.V_drew)); exact Kd.V_mono HO265.out (by intro _ hk; first | exact ⟨hk.1.1, ⟨hk.1.2.1, ⟨hk.2, ⟨hk.1.2.2.1, ⟨hk.1.2.2.2.1, ⟨hk.1.2.2.2.2.1, ⟨hk.1.2.2.2.2.2.1, hk.1.2.2.2.2.2.2⟩⟩⟩⟩⟩⟩⟩ | exact hk | trivial | (simp only [true_and, and_true, and_assoc] at hk ⊢; first | exact hk | trivial) | simp_all)), (by (with_reducible repeat (first | refine kN ?_ _ | refine kD ?_ | refine kA ?_ _)); exact BK242.out), (by (with_reducible repeat (first | refine kN ?_ _ | refine kD ?_ | refine kA ?_ _)); exact BK254.out), (by (with_reducible repeat (first | refine kN ?_ _ | refine kD ?_ | refine kA ?_ _)); exact BK255.out), (by (with_reducible repeat (first | refine kN ?_ _ | refine kD ?_ | refine kA ?_ _)); exact BK266.out), (by (with_reducible repeat (first | refine kN ?_ _ | refine kD ?_ | refine kA ?_ _)); exact BK267.out), (by repeat (first | (with_reducible first | exact HB.out | apply bA | apply bN | apply bD | refine bS ?_ GE242.out | refine bS ?_ GE254.out | refine bS ?_ GE255.out | refine bS ?_ GE266.out | refine bS ?_ GE267.out) | exact HB.out)), fun _ => (by (with_reducible repeat (first | apply Kd.R_alloc | apply Kd.R_drewN | apply Kd.R_drew)); exact Kd.R_mono HO276.out (by intro _ hk; first | exact ⟨hk.1.2, hk.2⟩ | exact hk | trivial | (simp only [true_and, and_true, and_assoc] at hk ⊢; first | exact hk | trivial) | simp_all)), fun h0_ => absurd ((hoff 37 (by kernel_rfl)).symm.trans h0_) (by decide)⟩
           refine steps_cons ?_ ?_
           ·
            rintro b a w' ⟨v275, v278, ha, Q_HO247, Q_HO253, Q_HO259, Q_HO265, Q_BK242, Q_BK254, Q_BK255, Q_BK266, Q_BK267, Q_HB, Q_HO276, Q_HO279⟩ hb_ hon hoff
            refine ⟨_, rfl, fun K hK => ?_⟩
            have e70 : a.tmps[70]? = some (v275) := by rw [ha]; exact putSel_on (e := (33, 70, v275)) 31 rfl rfl (hon 33 (by kernel_rfl)) rfl
            have e67 : a.tmps[67]? = some (.bool (t272 == t273)) := by rw [ha]; exact putSel_on (e := (30, 67, .bool (t272 == t273))) 28 rfl rfl (hon 30 (by kernel_rfl)) rfl
            replace ha := Aside0.mk ha
            have HO247 := Aside0.mk Q_HO247
            have HO253 := Aside0.mk Q_HO253
            have HO259 := Aside0.mk Q_HO259
            have HO265 := Aside0.mk Q_HO265
            have BK242 := Aside0.mk Q_BK242
            have BK254 := Aside0.mk Q_BK254
            have BK255 := Aside0.mk Q_BK255
            have BK266 := Aside0.mk Q_BK266
            have BK267 := Aside0.mk Q_BK267
            have HB := Aside0.mk Q_HB
            have HO276 := Aside0.mk (Q_HO276 (hon 33 (by kernel_rfl)))
            obtain ⟨Ao34_0, co34_0, eo_⟩ := Kd.R_slice HO276.out
            subst eo_
            have hcv34_ := own_string (P := Try.prog) Try.underlying22 Try.underlying5 Try.underlying9 (Kd.own_of_R HO276.out)
            refine value_ (w1 := w') (v := .string (strOfNums t274)) (wanted_on rfl rfl rfl (e67.trans (by first | rfl | (simp [*]; done)))) rfl ?_ ?_
            ·
             go_simp
             (try simp only [i64_w])
             try rfl
             all_goals (first | rfl | (simp [bne]; done))
            refine hK.out _ _ ⟨.slice Ao34_0 t274.length co34_0, v278, (by rw [ha.out]; exact putSel_upk 32 hb_ rfl rfl rfl), Q_HO247, Q_HO253, Q_HO259, Q_HO265, Q_BK242, Q_BK254, Q_BK255, Q_BK266, Q_BK267, Q_HB, Q_HO276, Q_HO279⟩
           refine steps_cons ?_ ?_
           ·
            rintro b a w' ⟨v275, v278, ha, Q_HO247, Q_HO253, Q_HO259, Q_HO265, Q_BK242, Q_BK254, Q_BK255, Q_BK266, Q_BK267, Q_HB, Q_HO276, Q_HO279⟩ hb_ hon hoff
            refine ⟨_, rfl, fun K hK => ?_⟩
            have e0 : a.tmps[0]? = some (.slice A0 l0.length c0) := by rw [ha]; exact (putSel_off rfl).trans rfl
            have e67 : a.tmps[67]? = some (.bool (t272 == t273)) := by rw [ha]; exact putSel_on (e := (30, 67, .bool (t272 == t273))) 28 rfl rfl (hon 30 (by kernel_rfl)) rfl
            replace ha := Aside0.mk ha
            have HO247 := Aside0.mk Q_HO247
            have HO253 := Aside0.mk Q_HO253
            have HO259 := Aside0.mk Q_HO259
            have HO265 := Aside0.mk Q_HO265
            have BK242 := Aside0.mk Q_BK242
            have BK254 := Aside0.mk Q_BK254
            have BK255 := Aside0.mk Q_BK255
            have BK266 := Aside0.mk Q_BK266
            have BK267 := Aside0.mk Q_BK267
            have HB := Aside0.mk Q_HB
            refine value_ (w1 := w') (v := .slice A0 l0.length c0) (wanted_on rfl rfl rfl (e67.trans (by first | rfl | (simp [*]; done)))) rfl ?_ ?_
            ·
             go_simp
             (try simp only [i64_w])
             try rfl
             all_goals (first | rfl | (simp [bne]; done))
            refine hK.out _ _ ⟨v275, v278, (by rw [ha.out]; exact putSel_upk 33 hb_ rfl rfl rfl), Q_HO247, Q_HO253, Q_HO259, Q_HO265, Q_BK242, Q_BK254, Q_BK255, Q_BK266, Q_BK267, Q_HB, Q_HO276, fun h0_ => absurd ((hoff 37 (by kernel_rfl)).symm.trans h0_) (by decide)⟩
           refine steps_cons ?_ ?_
           ·
            rintro b a w' ⟨v275, v278, ha, Q_HO247, Q_HO253, Q_HO259, Q_HO265, Q_BK242, Q_BK254, Q_BK255, Q_BK266, Q_BK267, Q_HB, Q_HO276, Q_HO279⟩ hb_ hon hoff
            refine ⟨_, rfl, fun K hK => ?_⟩
            have e4 : a.tmps[4]? = some (.pointer (some ⟨gb242, 0, none⟩)) := by rw [ha]; exact (putSel_off rfl).trans rfl
            have e67 : a.tmps[67]? = some (.bool (t272 == t273)) := by rw [ha]; exact putSel_on (e := (30, 67, .bool (t272 == t273))) 28 rfl rfl (hon 30 (by kernel_rfl)) rfl
            replace ha := Aside0.mk ha
            have HO247 := Aside0.mk Q_HO247
            have HO253 := Aside0.mk Q_HO253
            have HO259 := Aside0.mk Q_HO259
            have HO265 := Aside0.mk Q_HO265
            have BK242 := Aside0.mk Q_BK242
            have BK254 := Aside0.mk Q_BK254
            have BK255 := Aside0.mk Q_BK255
            have BK266 := Aside0.mk Q_BK266
            have BK267 := Aside0.mk Q_BK267
            have HB := Aside0.mk Q_HB
            have hc0_ : w'.cell? ⟨gb242, 0, none⟩ = some (.int .i64 a1_0) := (blk_cell BK242.out 0).trans rfl
            have hc1_ : w'.cell? ⟨gb242, 1, none⟩ = some (.slice A1_1 l1_1.length c1_1) := (blk_cell BK242.out 1).trans rfl
            refine value_ (w1 := w') (v := .agg #[.int .i64 a1_0, .slice A1_1 l1_1.length c1_1]) (wanted_on rfl rfl rfl (e67.trans (by first | rfl | (simp [*]; done)))) rfl ?_ ?_
            ·
             go_simp
             (try simp only [i64_w])
             try rfl
             all_goals (first | rfl | (simp [bne]; done))
            refine hK.out _ _ ⟨v275, v278, (by rw [ha.out]; exact putSel_upk 34 hb_ rfl rfl rfl), Q_HO247, Q_HO253, Q_HO259, Q_HO265, Q_BK242, Q_BK254, Q_BK255, Q_BK266, Q_BK267, Q_HB, Q_HO276, fun h0_ => absurd ((hoff 37 (by kernel_rfl)).symm.trans h0_) (by decide)⟩
           refine steps_cons ?_ ?_
           ·
            rintro b a w' ⟨v275, v278, ha, Q_HO247, Q_HO253, Q_HO259, Q_HO265, Q_BK242, Q_BK254, Q_BK255, Q_BK266, Q_BK267, Q_HB, Q_HO276, Q_HO279⟩ hb_ hon hoff
            refine ⟨_, rfl, fun K hK => ?_⟩
            have e72 : a.tmps[72]? = some (.slice A0 l0.length c0) := by rw [ha]; exact putSel_on (e := (35, 72, .slice A0 l0.length c0)) 33 rfl rfl (hon 35 (by kernel_rfl)) rfl
            have e73 : a.tmps[73]? = some (.agg #[.int .i64 a1_0, .slice A1_1 l1_1.length c1_1]) := by rw [ha]; exact putSel_on (e := (36, 73, .agg #[.int .i64 a1_0, .slice A1_1 l1_1.length c1_1])) 34 rfl rfl (hon 36 (by kernel_rfl)) rfl
            have e67 : a.tmps[67]? = some (.bool (t272 == t273)) := by rw [ha]; exact putSel_on (e := (30, 67, .bool (t272 == t273))) 28 rfl rfl (hon 30 (by kernel_rfl)) rfl
            replace ha := Aside0.mk ha
            have HO247 := Aside0.mk Q_HO247
            have HO253 := Aside0.mk Q_HO253
            have HO259 := Aside0.mk Q_HO259
            have HO265 := Aside0.mk Q_HO265
            have BK242 := Aside0.mk Q_BK242
            have BK254 := Aside0.mk Q_BK254
            have BK255 := Aside0.mk Q_BK255
            have BK266 := Aside0.mk Q_BK266
            have BK267 := Aside0.mk Q_BK267
            have HB := Aside0.mk Q_HB
            have HO276 := Aside0.mk (Q_HO276 (hon 33 (by kernel_rfl)))
            refine goes_ Try.func18 (by kernel_rfl) rfl #[.slice A0 l0.length c0, .agg #[.int .i64 a1_0, .slice A1_1 l1_1.length c1_1]] (wanted_on rfl rfl rfl (e67.trans (by first | rfl | (simp [*]; done)))) rfl rfl (by first | (simp only [List.map_toArray, List.map_cons, List.map_nil, Act.eval, Array.getD_eq_getD_getElem?, Option.getD_some, e72, e73, e67]; done) | (simp only [List.map_toArray, List.map_cons, List.map_nil, Act.eval, Array.getD_eq_getD_getElem?, Option.getD_some, e72, e73, e67]; rfl)) ?_
            with_reducible refine (ridgewayref03_Put.calls kj4 _ _ l0 a1_0 _ _ l1_1 t277 _ ?side1 ?side2 ?side3 ?side4 A26.out).mono ?_
            (case side1 => repeat (first | exact (Kd.C_below HR0.out HB.out) | (with_reducible refine Kd.C_alloc ?_ _) | (with_reducible refine Kd.C_drewN ?_ _) | (with_reducible refine Kd.C_drew ?_)))
            (case side2 => exact HC0.out)
            (case side3 => repeat (first | exact (Kd.C_below HR1_1.out HB.out) | (with_reducible refine Kd.C_alloc ?_ _) | (with_reducible refine Kd.C_drewN ?_ _) | (with_reducible refine Kd.C_drew ?_)))
            (case side4 => exact HC1_1.out)
            rintro e w61 ⟨v278, rfl, ho0, hb⟩
            refine ⟨_, rfl, ?_⟩
            have n0_ := Aside0.mk (Kd.R_elder' (by (with_reducible repeat (first | apply Kd.R_alloc | apply Kd.R_drewN | apply Kd.R_drew)); first | exact HO247.out | exact Kd.R_mono HO247.out (by intro k_ hk; first | exact hk | trivial | (simp only [true_and, and_true, and_assoc] at hk ⊢; first | exact hk | trivial) | simp_all)) (Kd.R_base ho0) hb)
            have n1_ := Aside0.mk (Kd.R_elder' (by (with_reducible repeat (first | apply Kd.R_alloc | apply Kd.R_drewN | apply Kd.R_drew)); first | exact HO253.out | exact Kd.R_mono HO253.out (by intro k_ hk; first | exact hk | trivial | (simp only [true_and, and_true, and_assoc] at hk ⊢; first | exact hk | trivial) | simp_all)) (Kd.R_base ho0) hb)
            have n2_ := Aside0.mk (Kd.V_elder' (by (with_reducible repeat (first | apply Kd.V_alloc | apply Kd.V_drewN | apply Kd.V_drew)); first | exact HO259.out | exact Kd.V_mono HO259.out (by intro k_ hk; first | exact hk | trivial | (simp only [true_and, and_true, and_assoc] at hk ⊢; first | exact hk | trivial) | simp_all)) (Kd.R_base ho0) hb)
            have n3_ := Aside0.mk (Kd.V_elder' (by (with_reducible repeat (first | apply Kd.V_alloc | apply Kd.V_drewN | apply Kd.V_drew)); first | exact HO265.out | exact Kd.V_mono HO265.out (by intro k_ hk; first | exact hk | trivial | (simp only [true_and, and_true, and_assoc] at hk ⊢; first | exact hk | trivial) | simp_all)) (Kd.R_base ho0) hb)
            have n4_ := Aside0.mk (Kd.R_elder' (by (with_reducible repeat (first | apply Kd.R_alloc | apply Kd.R_drewN | apply Kd.R_drew)); first | exact HO276.out | exact Kd.R_mono HO276.out (by intro k_ hk; first | exact hk | trivial | (simp only [true_and, and_true, and_assoc] at hk ⊢; first | exact hk | trivial) | simp_all)) (Kd.R_base ho0) hb)
            have n5_ := Aside0.mk (Kd.R_lower (Kd.R_new' (Kd.R_new' (Kd.R_new' ho0 (Kd.R_lt (by (with_reducible repeat (first | apply Kd.R_alloc | apply Kd.R_drewN | apply Kd.R_drew)); first | exact HO247.out | exact Kd.R_mono HO247.out (by intro k_ hk; first | exact hk | trivial | (simp only [true_and, and_true, and_assoc] at hk ⊢; first | exact hk | trivial) | simp_all)))) (Kd.R_lt (by (with_reducible repeat (first | apply Kd.R_alloc | apply Kd.R_drewN | apply Kd.R_drew)); first | exact HO253.out | exact Kd.R_mono HO253.out (by intro k_ hk; first | exact hk | trivial | (simp only [true_and, and_true, and_assoc] at hk ⊢; first | exact hk | trivial) | simp_all)))) (Kd.R_lt (by (with_reducible repeat (first | apply Kd.R_alloc | apply Kd.R_drewN | apply Kd.R_drew)); first | exact HO276.out | exact Kd.R_mono HO276.out (by intro k_ hk; first | exact hk | trivial | (simp only [true_and, and_true, and_assoc] at hk ⊢; first | exact hk | trivial) | simp_all)))) (below_size (by repeat (first | (with_reducible first | exact HB.out | apply bA | apply bN | apply bD | refine bS ?_ GE242.out | refine bS ?_ GE254.out | refine bS ?_ GE255.out | refine bS ?_ GE266.out | refine bS ?_ GE267.out) | exact HB.out))))
            have n6_ := Aside0.mk (blk_below (g := gb242) (o := .cells #[.int .i64 a1_0, .slice A1_1 l1_1.length c1_1] 24 (0, 0)) (by (with_reducible repeat (first | refine kN ?_ _ | refine kD ?_ | refine kA ?_ _)); exact BK242.out) hb)
            have n7_ := Aside0.mk (blk_below (g := gb254) (o := .cells #[.int .i64 t244, .slice Ao33 t245.length co33] 24 (0, 0)) (by (with_reducible repeat (first | refine kN ?_ _ | refine kD ?_ | refine kA ?_ _)); exact BK254.out) hb)
            have n8_ := Aside0.mk (blk_below (g := gb255) (o := .cells #[.int .i64 t249, .int .i64 t250, .slice Ao37 t251.length co37] 27 (0, 0)) (by (with_reducible repeat (first | refine kN ?_ _ | refine kD ?_ | refine kA ?_ _)); exact BK255.out) hb)
            have n9_ := Aside0.mk (blk_below (g := gb266) (o := .cells #[.int .i64 t256, .slice Ao47 t257.length co47] 24 (0, 0)) (by (with_reducible repeat (first | refine kN ?_ _ | refine kD ?_ | refine kA ?_ _)); exact BK266.out) hb)
            have n10_ := Aside0.mk (blk_below (g := gb267) (o := .cells #[.int .i64 t261, .int .i64 t262, .slice Ao52 t263.length co52] 27 (0, 0)) (by (with_reducible repeat (first | refine kN ?_ _ | refine kD ?_ | refine kA ?_ _)); exact BK267.out) hb)
            have n11_ := Aside0.mk (below_step (by repeat (first | (with_reducible first | exact HB.out | apply bA | apply bN | apply bD | refine bS ?_ GE242.out | refine bS ?_ GE254.out | refine bS ?_ GE255.out | refine bS ?_ GE266.out | refine bS ?_ GE267.out) | exact HB.out)) hb)
            clear HO247
            clear HO253
            clear HO259
            clear HO265
            clear HO276
            clear BK242
            clear BK254
            clear BK255
            clear BK266
            clear BK267
            clear HB
            have HO247 := n0_
            have HO253 := n1_
            have HO259 := n2_
            have HO265 := n3_
            have HO276 := n4_
            have HO279 := n5_
            have BK242 := n6_
            have BK254 := n7_
            have BK255 := n8_
            have BK266 := n9_
            have BK267 := n10_
            have HB := n11_
            clear n0_ n1_ n2_ n3_ n4_ n5_ n6_ n7_ n8_ n9_ n10_ n11_
            (try clear hb)
            (try clear hb2)
            (try clear hk)
            (try clear hi)
            (try clear ho0)
            refine hK.out _ _ ⟨v275, v278, (by rw [ha.out]; exact putSel_upk 35 hb_ rfl rfl rfl), (by (with_reducible repeat (first | apply Kd.R_alloc | apply Kd.R_drewN | apply Kd.R_drew)); exact Kd.R_mono HO247.out (by intro _ hk; first | exact ⟨hk.1.1, ⟨hk.1.2, hk.2⟩⟩ | exact hk | trivial | (simp only [true_and, and_true, and_assoc] at hk ⊢; first | exact hk | trivial) | simp_all)), (by (with_reducible repeat (first | apply Kd.R_alloc | apply Kd.R_drewN | apply Kd.R_drew)); exact Kd.R_mono HO253.out (by intro _ hk; first | exact ⟨hk.1.1, ⟨hk.1.2, hk.2⟩⟩ | exact hk | trivial | (simp only [true_and, and_true, and_assoc] at hk ⊢; first | exact hk | trivial) | simp_all)), (by (with_reducible repeat (first | apply Kd.V_alloc | apply Kd.V_drewN | apply Kd.V_drew)); exact Kd.V_mono HO259.out (by intro _ hk; first | exact ⟨hk.1.1, ⟨hk.1.2.1, ⟨hk.1.2.2.1, ⟨hk.2, ⟨hk.1.2.2.2.1, ⟨hk.1.2.2.2.2.1, ⟨hk.1.2.2.2.2.2.1, ⟨hk.1.2.2.2.2.2.2.1, hk.1.2.2.2.2.2.2.2⟩⟩⟩⟩⟩⟩⟩⟩ | exact hk | trivial | (simp only [true_and, and_true, and_assoc] at hk ⊢; first | exact hk | trivial) | simp_all)), (by (with_reducible repeat (first | apply Kd.V_alloc | apply Kd.V_drewN | apply Kd.V_drew)); exact Kd.V_mono HO265.out (by intro _ hk; first | exact ⟨hk.1.1, ⟨hk.1.2.1, ⟨hk.1.2.2.1, ⟨hk.2, ⟨hk.1.2.2.2.1, ⟨hk.1.2.2.2.2.1, ⟨hk.1.2.2.2.2.2.1, ⟨hk.1.2.2.2.2.2.2.1, hk.1.2.2.2.2.2.2.2⟩⟩⟩⟩⟩⟩⟩⟩ | exact hk | trivial | (simp only [true_and, and_true, and_assoc] at hk ⊢; first | exact hk | trivial) | simp_all)), (by (with_reducible repeat (first | refine kN ?_ _ | refine kD ?_ | refine kA ?_ _)); exact BK242.out), (by (with_reducible repeat (first | refine kN ?_ _ | refine kD ?_ | refine kA ?_ _)); exact BK254.out), (by (with_reducible repeat (first | refine kN ?_ _ | refine kD ?_ | refine kA ?_ _)); exact BK255.out), (by (with_reducible repeat (first | refine kN ?_ _ | refine kD ?_ | refine kA ?_ _)); exact BK266.out), (by (with_reducible repeat (first | refine kN ?_ _ | refine kD ?_ | refine kA ?_ _)); exact BK267.out), (by repeat (first | (with_reducible first | exact HB.out | apply bA | apply bN | apply bD | refine bS ?_ GE242.out | refine bS ?_ GE254.out | refine bS ?_ GE255.out | refine bS ?_ GE266.out | refine bS ?_ GE267.out) | exact HB.out)), fun _ => (by (with_reducible repeat (first | apply Kd.R_alloc | apply Kd.R_drewN | apply Kd.R_drew)); exact Kd.R_mono HO276.out (by intro _ hk; first | exact ⟨hk.1.1, ⟨hk.1.2, hk.2⟩⟩ | exact hk | trivial | (simp only [true_and, and_true, and_assoc] at hk ⊢; first | exact hk | trivial) | simp_all)), fun _ => (by (with_reducible repeat (first | apply Kd.R_alloc | apply Kd.R_drewN | apply Kd.R_drew)); exact Kd.R_mono HO279.out (by intro _ hk; first | exact ⟨hk.1.1.2, ⟨hk.1.2, hk.2⟩⟩ | exact hk | trivial | (simp only [true_and, and_true, and_assoc] at hk ⊢; first | exact hk | trivial) | simp_all))⟩
           refine steps_cons ?_ ?_
           ·
            rintro b a w' ⟨v275, v278, ha, Q_HO247, Q_HO253, Q_HO259, Q_HO265, Q_BK242, Q_BK254, Q_BK255, Q_BK266, Q_BK267, Q_HB, Q_HO276, Q_HO279⟩ hb_ hon hoff
            refine ⟨_, rfl, fun K hK => ?_⟩
            have e74 : a.tmps[74]? = some (v278) := by rw [ha]; exact putSel_on (e := (37, 74, v278)) 35 rfl rfl (hon 37 (by kernel_rfl)) rfl
            have e67 : a.tmps[67]? = some (.bool (t272 == t273)) := by rw [ha]; exact putSel_on (e := (30, 67, .bool (t272 == t273))) 28 rfl rfl (hon 30 (by kernel_rfl)) rfl
            replace ha := Aside0.mk ha
            have HO247 := Aside0.mk Q_HO247
            have HO253 := Aside0.mk Q_HO253
            have HO259 := Aside0.mk Q_HO259
            have HO265 := Aside0.mk Q_HO265
            have BK242 := Aside0.mk Q_BK242
            have BK254 := Aside0.mk Q_BK254
            have BK255 := Aside0.mk Q_BK255
            have BK266 := Aside0.mk Q_BK266
            have BK267 := Aside0.mk Q_BK267
            have HB := Aside0.mk Q_HB
            have HO276 := Aside0.mk (Q_HO276 (hon 33 (by kernel_rfl)))
            have HO279 := Aside0.mk (Q_HO279 (hon 37 (by kernel_rfl)))
            obtain ⟨Ao38_0, co38_0, eo_⟩ := Kd.R_slice HO279.out
            subst eo_
            have hcv38_ := own_string (P := Try.prog) Try.underlying22 Try.underlying5 Try.underlying9 (Kd.own_of_R HO279.out)
            refine value_ (w1 := w') (v := .string (strOfNums t277)) (wanted_on rfl rfl rfl (e67.trans (by first | rfl | (simp [*]; done)))) rfl ?_ ?_
            ·
             go_simp
             (try simp only [i64_w])
             try rfl
             all_goals (first | rfl | (simp [bne]; done))
            refine hK.out _ _ ⟨v275, .slice Ao38_0 t277.length co38_0, (by rw [ha.out]; exact putSel_upk 36 hb_ rfl rfl rfl), Q_HO247, Q_HO253, Q_HO259, Q_HO265, Q_BK242, Q_BK254, Q_BK255, Q_BK266, Q_BK267, Q_HB, Q_HO276, Q_HO279⟩
           refine steps_cons ?_ ?_
           ·
            rintro b a w' ⟨v275, v278, ha, Q_HO247, Q_HO253, Q_HO259, Q_HO265, Q_BK242, Q_BK254, Q_BK255, Q_BK266, Q_BK267, Q_HB, Q_HO276, Q_HO279⟩ hb_ hon hoff
            refine ⟨_, rfl, fun K hK => ?_⟩
            have e71 : a.tmps[71]? = some (.string (strOfNums t274)) := by rw [ha]; exact putSel_on (e := (34, 71, .string (strOfNums t274))) 32 rfl rfl (hon 34 (by kernel_rfl)) rfl
            have e75 : a.tmps[75]? = some (.string (strOfNums t277)) := by rw [ha]; exact putSel_on (e := (38, 75, .string (strOfNums t277))) 36 rfl rfl (hon 38 (by kernel_rfl)) rfl
            have e67 : a.tmps[67]? = some (.bool (t272 == t273)) := by rw [ha]; exact putSel_on (e := (30, 67, .bool (t272 == t273))) 28 rfl rfl (hon 30 (by kernel_rfl)) rfl
            replace ha := Aside0.mk ha
            have HO247 := Aside0.mk Q_HO247
            have HO253 := Aside0.mk Q_HO253
            have HO259 := Aside0.mk Q_HO259
            have HO265 := Aside0.mk Q_HO265
            have BK242 := Aside0.mk Q_BK242
            have BK254 := Aside0.mk Q_BK254
            have BK255 := Aside0.mk Q_BK255
            have BK266 := Aside0.mk Q_BK266
            have BK267 := Aside0.mk Q_BK267
            have HB := Aside0.mk Q_HB
            have HO276 := Aside0.mk (Q_HO276 (hon 33 (by kernel_rfl)))
            have HO279 := Aside0.mk (Q_HO279 (hon 37 (by kernel_rfl)))
            refine value_ (w1 := w') (v := .bool ((strOfNums t274).toList == (strOfNums t277).toList)) (wanted_on rfl rfl rfl (e67.trans (by first | rfl | (simp [*]; done)))) rfl ?_ ?_
            ·
             go_simp
             (try simp only [i64_w])
             try rfl
             all_goals (first | rfl | (simp [bne]; done))
            refine hK.out _ _ ⟨v275, v278, (by rw [ha.out]; exact putSel_upk 37 hb_ rfl rfl rfl), Q_HO247, Q_HO253, Q_HO259, Q_HO265, Q_BK242, Q_BK254, Q_BK255, Q_BK266, Q_BK267, Q_HB, Q_HO276, Q_HO279⟩
           refine steps_cons ?_ ?_
           ·
            rintro b a w' ⟨v275, v278, ha, Q_HO247, Q_HO253, Q_HO259, Q_HO265, Q_BK242, Q_BK254, Q_BK255, Q_BK266, Q_BK267, Q_HB, Q_HO276, Q_HO279⟩ hb_ hon hoff
            refine ⟨_, rfl, fun K hK => ?_⟩
            have e67 : a.tmps[67]? = some (.bool (t272 == t273)) := by rw [ha]; exact putSel_on (e := (30, 67, .bool (t272 == t273))) 28 rfl rfl (hon 30 (by kernel_rfl)) rfl
            have e76 : a.tmps[76]? = some (.bool ((strOfNums t274).toList == (strOfNums t277).toList)) := by rw [ha]; exact putSel_on (e := (39, 76, .bool ((strOfNums t274).toList == (strOfNums t277).toList))) 37 rfl rfl (hon 39 (by kernel_rfl)) rfl
            replace ha := Aside0.mk ha
            have HO247 := Aside0.mk Q_HO247
            have HO253 := Aside0.mk Q_HO253
            have HO259 := Aside0.mk Q_HO259
            have HO265 := Aside0.mk Q_HO265
            have BK242 := Aside0.mk Q_BK242
            have BK254 := Aside0.mk Q_BK254
            have BK255 := Aside0.mk Q_BK255
            have BK266 := Aside0.mk Q_BK266
            have BK267 := Aside0.mk Q_BK267
            have HB := Aside0.mk Q_HB
            have HO276 := Aside0.mk (Q_HO276 (hon 33 (by kernel_rfl)))
            have HO279 := Aside0.mk (Q_HO279 (hon 37 (by kernel_rfl)))
            refine value_ (w1 := w') (v := .bool ((strOfNums t274).toList == (strOfNums t277).toList)) (by rfl) rfl ?_ ?_
            ·
             go_simp
             (try simp only [i64_w])
             try rfl
             all_goals (first | rfl | (simp [bne]; done))
            refine hK.out _ _ ⟨v275, v278, (by rw [ha.out]; exact putSel_upk 38 hb_ rfl rfl rfl), Q_HO247, Q_HO253, Q_HO259, Q_HO265, Q_BK242, Q_BK254, Q_BK255, Q_BK266, Q_BK267, Q_HB, Q_HO276, Q_HO279⟩
           refine steps_cons ?_ ?_
           ·
            rintro b a w' ⟨v275, v278, ha, Q_HO247, Q_HO253, Q_HO259, Q_HO265, Q_BK242, Q_BK254, Q_BK255, Q_BK266, Q_BK267, Q_HB, Q_HO276, Q_HO279⟩ hb_ hon hoff
            refine ⟨_, rfl, fun K hK => ?_⟩
            have e77 : a.tmps[77]? = some (.bool ((strOfNums t274).toList == (strOfNums t277).toList)) := by rw [ha]; exact putSel_on (e := (40, 77, .bool ((strOfNums t274).toList == (strOfNums t277).toList))) 38 rfl rfl (hon 40 (by kernel_rfl)) rfl
            replace ha := Aside0.mk ha
            have HO247 := Aside0.mk Q_HO247
            have HO253 := Aside0.mk Q_HO253
            have HO259 := Aside0.mk Q_HO259
            have HO265 := Aside0.mk Q_HO265
            have BK242 := Aside0.mk Q_BK242
            have BK254 := Aside0.mk Q_BK254
            have BK255 := Aside0.mk Q_BK255
            have BK266 := Aside0.mk Q_BK266
            have BK267 := Aside0.mk Q_BK267
            have HB := Aside0.mk Q_HB
            have HO276 := Aside0.mk (Q_HO276 (hon 33 (by kernel_rfl)))
            have HO279 := Aside0.mk (Q_HO279 (hon 37 (by kernel_rfl)))
            refine value_ (w1 := w') (v := .bool ((strOfNums t274).toList == (strOfNums t277).toList)) (by rfl) rfl ?_ ?_
            ·
             go_simp
             (try simp only [i64_w])
             try rfl
             all_goals (first | rfl | (simp [bne]; done))
            refine hK.out _ _ ⟨v275, v278, (by rw [ha.out]; exact putSel_upk 39 hb_ rfl rfl rfl), Q_HO247, Q_HO253, Q_HO259, Q_HO265, Q_BK242, Q_BK254, Q_BK255, Q_BK266, Q_BK267, Q_HB, Q_HO276, Q_HO279⟩
           exact steps_nil
          rintro b a w61 hall ⟨v275, v278, ha, Q_HO247, Q_HO253, Q_HO259, Q_HO265, Q_BK242, Q_BK254, Q_BK255, Q_BK266, Q_BK267, Q_HB, Q_HO276, Q_HO279⟩
          clear BK242 BK254 BK255 BK266 BK267 HB HO247 HO253 HO259 HO265
          have hb2_ := hall 2 (by kernel_rfl)
          have hb3_ := hall 3 (by kernel_rfl)
          have hb4_ := hall 4 (by kernel_rfl)
          have hb5_ := hall 5 (by kernel_rfl)
          have hb6_ := hall 6 (by kernel_rfl)
          have hb7_ := hall 7 (by kernel_rfl)
          have hb8_ := hall 8 (by kernel_rfl)
          have hb9_ := hall 9 (by kernel_rfl)
          have hb10_ := hall 10 (by kernel_rfl)
          have hb11_ := hall 11 (by kernel_rfl)
          have hb12_ := hall 12 (by kernel_rfl)
          have hb13_ := hall 13 (by kernel_rfl)
          have hb14_ := hall 14 (by kernel_rfl)
          have hb15_ := hall 15 (by kernel_rfl)
          have hb16_ := hall 16 (by kernel_rfl)
          have hb17_ := hall 17 (by kernel_rfl)
          have hb18_ := hall 18 (by kernel_rfl)
          have hb19_ := hall 19 (by kernel_rfl)
          have hb20_ := hall 20 (by kernel_rfl)
          have hb21_ := hall 21 (by kernel_rfl)
          have hb22_ := hall 22 (by kernel_rfl)
          have hb23_ := hall 23 (by kernel_rfl)
          have hb24_ := hall 24 (by kernel_rfl)
          have hb25_ := hall 25 (by kernel_rfl)
          have hb26_ := hall 26 (by kernel_rfl)
          have hb27_ := hall 27 (by kernel_rfl)
          have hb28_ := hall 28 (by kernel_rfl)
          have hb29_ := hall 29 (by kernel_rfl)
          have hb30_ := hall 30 (by kernel_rfl)
          have hb31_ := hall 31 (by kernel_rfl)
          have hb32_ := hall 32 (by kernel_rfl)
          have hb33_ := hall 33 (by kernel_rfl)
          have hb34_ := hall 34 (by kernel_rfl)
          have hb35_ := hall 35 (by kernel_rfl)
          have hb36_ := hall 36 (by kernel_rfl)
          have hb37_ := hall 37 (by kernel_rfl)
          have hb38_ := hall 38 (by kernel_rfl)
          have hb39_ := hall 39 (by kernel_rfl)
          have hb40_ := hall 40 (by kernel_rfl)
          have hb41_ := hall 41 (by kernel_rfl)
          subst ha
          simp only [putSel, hb2_, hb3_, hb4_, hb5_, hb6_, hb7_, hb8_, hb9_, hb10_, hb11_, hb12_, hb13_, hb14_, hb15_, hb16_, hb17_, hb18_, hb19_, hb20_, hb21_, hb22_, hb23_, hb24_, hb25_, hb26_, hb27_, hb28_, hb29_, hb30_, hb31_, hb32_, hb33_, hb34_, hb35_, hb36_, hb37_, hb38_, hb39_, hb40_, hb41_, if_true, Act.put, sA, sB, sC]
          have HO247 := Aside0.mk Q_HO247
          clear Q_HO247
          have HO253 := Aside0.mk Q_HO253
          clear Q_HO253
          have HO259 := Aside0.mk Q_HO259
          clear Q_HO259
          have HO265 := Aside0.mk Q_HO265
          clear Q_HO265
          have BK242 := Aside0.mk Q_BK242
          clear Q_BK242
          have BK254 := Aside0.mk Q_BK254
          clear Q_BK254
          have BK255 := Aside0.mk Q_BK255
          clear Q_BK255
          have BK266 := Aside0.mk Q_BK266
          clear Q_BK266
          have BK267 := Aside0.mk Q_BK267
          clear Q_BK267
          have HB := Aside0.mk Q_HB
          clear Q_HB
          have HO276 := Aside0.mk (Q_HO276 hb33_)
          clear Q_HO276
          have HO279 := Aside0.mk (Q_HO279 hb37_)
          clear Q_HO279
          clear hall hb2_ hb3_ hb4_ hb5_ hb6_ hb7_ hb8_ hb9_ hb10_ hb11_ hb12_ hb13_ hb14_ hb15_ hb16_ hb17_ hb18_ hb19_ hb20_ hb21_ hb22_ hb23_ hb24_ hb25_ hb26_ hb27_ hb28_ hb29_ hb30_ hb31_ hb32_ hb33_ hb34_ hb35_ hb36_ hb37_ hb38_ hb39_ hb40_ hb41_
          try go_wp2
          all_goals first | (go_ret; refine ⟨?_, ?_⟩; (focus (first | rfl | (simp [errW_none, errW_some] <;> rfl) | (rw [HRL_.out] <;> rfl) | (simp only [HRL_.out] <;> rfl) | (have h_ := HRL_.out; simp at h_; simp [h_]; done) | (have h_ := HRL_.out; simp [*] at h_ ⊢; done) | (simp [*, errW_none, errW_some] <;> rfl))); (focus (repeat (first | (with_reducible first | exact HB.out | apply bA | apply bN | apply bD | refine bS ?_ GE242.out | refine bS ?_ GE254.out | refine bS ?_ GE255.out | refine bS ?_ GE266.out | refine bS ?_ GE267.out) | exact HB.out)))) | (exfalso; simp_all; done)
         ·
          rw [if_neg c24] at H
          have c24b0 : (t272 == t273) = false := by simpa using c24
          (try (have c24b1 : decide (t272 = t273) = false := by simpa using c24))
          (try (have c24b2 : (t272 == t273) = false := by simpa using c24))
          (try (have c24b3 : ¬ (t272 = t273) := by simpa using c24))
          clear c24
          exact absurd H (by simp)
        ·
         rw [if_neg c21] at H
         have c21b0 : (t270 == t271) = false := beq_eq_false_iff_ne.mpr c21
         have c21b1 : (t270 != t271) = true := bne_iff_ne.mpr c21
         exact absurd H (by simp)
       ·
        replace c18 := Bool.eq_false_iff.mpr c18
        subst c18
        have H1 : (some false) = some true := by rw [if_neg (show ¬ (false = true) by decide)] at H; first | done | exact H
        clear H
        have H := H1
        clear H1
        exact absurd H (by simp)
      ·
       rw [if_neg c16] at H
       have c16b0 : (t248 == t260) = false := beq_eq_false_iff_ne.mpr c16
       have c16b1 : (t248 != t260) = true := bne_iff_ne.mpr c16
       exact absurd H (by simp)
     ·
      replace c15 := Bool.eq_false_iff.mpr c15
      subst c15
      have H1 : (some false) = some true := by rw [if_neg (show ¬ (false = true) by decide)] at H; first | done | exact H
      clear H
      have H := H1
      clear H1
      exact absurd H (by simp)
    ·
     replace c13 := Bool.eq_false_iff.mpr c13
     subst c13
     have H1 : (some false) = some true := by rw [if_neg (show ¬ (false = true) by decide)] at H; first | done | exact H
     clear H
     have H := H1
     clear H1
     exact absurd H (by simp)

/-- THE ONE PURE STATEMENT of ridgewaylaw03_MsgIs. -/
def ridgewaylaw03_MsgIs.Pure : Prop := ∀ (l0 : List Int) (x1 : S24) (a2 : Int), (l0.length ≤ maxLen ∧ ∀ y ∈ l0, (Lit.int .u8 y).wf = true) → (wf24 x1) → ((Lit.int .i64 a2).wf = true) → ∃ k, ridgewaylaw03_MsgIs.f k l0 (x1.f0) (x1.f1) a2 = some true

end Go.Proofs.Ythmlhimmgciakaa.Q
