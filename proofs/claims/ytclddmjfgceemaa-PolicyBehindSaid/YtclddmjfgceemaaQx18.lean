/- Each call of a Go function comes to what the Lean function of its name answers (written out by wip/tools/xprint.py, checked by Lean); conditions: those in each statement. -/
import Derived.Test.YtclddmjfgceemaaQx0
import Derived.Test.YtclddmjfgceemaaQx2
import Derived.Test.YtclddmjfgceemaaQx5
import Derived.Test.YtclddmjfgceemaaQx6
import Derived.Test.YtclddmjfgceemaaQx7
namespace Go.Proofs.Ytclddmjfgceemaa.Q
open Go.RowKit Go.Proofs.YtclddmjfgceemaaW.PrintWords Go.Proofs.YtclddmjfgceemaaW.PrintLast Go.Proofs.YtclddmjfgceemaaW.PrintMore Go.Proofs.YtclddmjfgceemaaW.PrintX
attribute [local go_sem] max2_int min2_int max_two min_two max_three min_three max_four min_four   -- for this text's walks alone
set_option linter.unusedVariables false
set_option linter.unusedSimpArgs false

attribute [local go_sem high] eqA31
/-! ### ridgewaylaw10_PolicyBehind: function 7 -/
mutual
def ridgewaylaw10_PolicyBehind.j0 : Nat → List (S31) → List (S31) → Bool → Bool → Int → Int → Int → Int → Int → Int → Int → Int → List Int → Int → Option (Bool)
 | 0, _, _, _, _, _, _, _, _, _, _, _, _, _, _ => none
 | k + 1, x0, x2, x9, x40, x281000, x281001, x281002, x281003, x281004, x281005, x282000, x282001, x282002, x282003 => if x40 = true then (some x9) else ((some (([] : List (S31)) : List (S31))).bind fun y284 => (if y284.length + x0.length < 2932031007402 then ((some (y284 ++ x0 : List (S31))).bind fun y287 => (if y287.length < 2932031007402 then ((some (y287 ++ [(⟨x281000, (⟨x281001, x281002⟩ : S24), x281003, x281004, x281005⟩ : S31)] : List (S31))).bind fun y290 => ((some (([] : List (S31)) : List (S31))).bind fun y293 => (if y293.length + y290.length < 2932031007402 then ((some (y293 ++ y290 : List (S31))).bind fun y296 => (if y296.length + x2.length < 2932031007402 then ((some (y296 ++ x2 : List (S31))).bind fun y299 => ((policy_Pick.f k y290 x282000 x282001 x282002 x282003).bind fun bt302 => ((policy_Pick.f k y299 x282000 x282001 x282002 x282003).bind fun bt310 => (if bt302.2.2.2.2.2.2 = true then (if bt310.2.2.2.2.2.2 = true then (if (!(bt302.1 == bt310.1) || ((!(bt302.2.1 == bt310.2.1) || (!(bt302.2.2.1 == bt310.2.2.1))) || (!(bt302.2.2.2.1 == bt310.2.2.2.1) || (!(bt302.2.2.2.2.1 == bt310.2.2.2.2.1) || (!(bt302.2.2.2.2.2.1 == bt310.2.2.2.2.2.1)))))) = true then (ridgewaylaw10_PolicyBehind.j1 k x2 x9 y290 true x282000 x282001 x282002 x282003 bt302.1 bt302.2.1 bt302.2.2.1 bt302.2.2.2.1 bt302.2.2.2.2.1 bt302.2.2.2.2.2.1) else ((policy_Reach.f y299 x282003).bind fun t318 => ((policy_Reach.f y290 x282003).bind fun t321 => (ridgewaylaw10_PolicyBehind.j1 k x2 x9 y290 ((t318.length : Int) != (t321.length : Int)) x282000 x282001 x282002 x282003 bt302.1 bt302.2.1 bt302.2.2.1 bt302.2.2.2.1 bt302.2.2.2.2.1 bt302.2.2.2.2.2.1)))) else (ridgewaylaw10_PolicyBehind.j1 k x2 x9 y290 true x282000 x282001 x282002 x282003 bt302.1 bt302.2.1 bt302.2.2.1 bt302.2.2.2.1 bt302.2.2.2.2.1 bt302.2.2.2.2.2.1)) else (ridgewaylaw10_PolicyBehind.j1 k x2 x9 y290 true x282000 x282001 x282002 x282003 bt302.1 bt302.2.1 bt302.2.2.1 bt302.2.2.2.1 bt302.2.2.2.2.1 bt302.2.2.2.2.2.1))))) else (none))) else (none)))) else (none))) else (none)))
def ridgewaylaw10_PolicyBehind.j1 : Nat → List (S31) → Bool → List (S31) → Bool → Int → Int → List Int → Int → Int → Int → Int → Int → Int → Int → Option (Bool)
 | 0, _, _, _, _, _, _, _, _, _, _, _, _, _, _ => none
 | k + 1, x2, x9, x10, x90, x282000, x282001, x282002, x282003, x310000, x310001, x310002, x310003, x310004, x310005 => if x90 = true then (some false) else (if (x2.length : Int) = 0 then (some x9) else (if 0 < (x2.length : Int) then ((policy_Fits.f k ((rd_T31 x2 0).f0) ((rd_T31 x2 0).f1.f0) ((rd_T31 x2 0).f1.f1) ((rd_T31 x2 0).f2) ((rd_T31 x2 0).f3) ((rd_T31 x2 0).f4) x282000 x282001 x282002 x282003).bind fun t325 => (if t325 = true then (some x9) else ((some (([(⟨(rd_T31 x2 0).f0, (⟨(rd_T31 x2 0).f1.f0, (rd_T31 x2 0).f1.f1⟩ : S24), (rd_T31 x2 0).f2, (rd_T31 x2 0).f3, (rd_T31 x2 0).f4⟩ : S31)] : List (S31)) : List (S31))).bind fun y327 => (if y327.length + x10.length < 2932031007402 then ((policy_Pick.f k (y327 ++ x10) x282000 x282001 x282002 x282003).bind fun bt333 => (if x9 = true then (if bt333.2.2.2.2.2.2 = true then (some (bt333.1 == x310000 && ((bt333.2.1 == x310001 && (bt333.2.2.1 == x310002)) && (bt333.2.2.2.1 == x310003 && (bt333.2.2.2.2.1 == x310004 && (bt333.2.2.2.2.2.1 == x310005)))))) else (some false)) else (some false))) else (none))))) else (none)))
end
def ridgewaylaw10_PolicyBehind.f (k : Nat) (l0 : List (S31)) (a1_0 : Int) (a1_1 : Int) (a1_2 : Int) (a1_3 : Int) (a1_4 : Int) (a1_5 : Int) (l2 : List (S31)) (a3_0 : Int) (a3_1 : Int) (l3_2 : List Int) (a3_3 : Int) : Option (Bool) := (ridgewaylaw10_awake.f).bind fun t282 => (if (l0.length : Int) > 20 then (ridgewaylaw10_PolicyBehind.j0 k l0 l2 t282 true a1_0 a1_1 a1_2 a1_3 a1_4 a1_5 a3_0 a3_1 l3_2 a3_3) else (if (l2.length : Int) > 20 then (ridgewaylaw10_PolicyBehind.j0 k l0 l2 t282 true a1_0 a1_1 a1_2 a1_3 a1_4 a1_5 a3_0 a3_1 l3_2 a3_3) else (if (l3_2.length : Int) > 100 then (ridgewaylaw10_PolicyBehind.j0 k l0 l2 t282 true a1_0 a1_1 a1_2 a1_3 a1_4 a1_5 a3_0 a3_1 l3_2 a3_3) else ((policy_Total.f a1_0 a1_1 a1_2 a1_3 a1_4 a1_5 a3_3).bind fun t283 => (ridgewaylaw10_PolicyBehind.j0 k l0 l2 t282 (!t283) a1_0 a1_1 a1_2 a1_3 a1_4 a1_5 a3_0 a3_1 l3_2 a3_3)))))
theorem ridgewaylaw10_PolicyBehind.mono_l : ∀ k, (∀ y0 y1 y2 y3 y4 y5 y6 y7 y8 y9 y10 y11 y12 y13, LeO (ridgewaylaw10_PolicyBehind.j0 k y0 y1 y2 y3 y4 y5 y6 y7 y8 y9 y10 y11 y12 y13) (ridgewaylaw10_PolicyBehind.j0 (k + 1) y0 y1 y2 y3 y4 y5 y6 y7 y8 y9 y10 y11 y12 y13)) ∧ (∀ y0 y1 y2 y3 y4 y5 y6 y7 y8 y9 y10 y11 y12 y13, LeO (ridgewaylaw10_PolicyBehind.j1 k y0 y1 y2 y3 y4 y5 y6 y7 y8 y9 y10 y11 y12 y13) (ridgewaylaw10_PolicyBehind.j1 (k + 1) y0 y1 y2 y3 y4 y5 y6 y7 y8 y9 y10 y11 y12 y13))
 | 0 => ⟨fun _ _ _ _ _ _ _ _ _ _ _ _ _ _ r h => by simp [ridgewaylaw10_PolicyBehind.j0] at h, fun _ _ _ _ _ _ _ _ _ _ _ _ _ _ r h => by simp [ridgewaylaw10_PolicyBehind.j1] at h⟩
 | k + 1 => by
  obtain ⟨ih0, ih1⟩ := ridgewaylaw10_PolicyBehind.mono_l k
  refine ⟨?_, ?_⟩
  ·
   intro y0 y1 y2 y3 y4 y5 y6 y7 y8 y9 y10 y11 y12 y13
   unfold ridgewaylaw10_PolicyBehind.j0
   repeat' first
   | (with_reducible exact ih0 _ _ _ _ _ _ _ _ _ _ _ _ _ _)
   | (with_reducible exact ih1 _ _ _ _ _ _ _ _ _ _ _ _ _ _)
   | (with_reducible exact policy_Fits.mono _ _ _ _ _ _ _ _ _ _ _)
   | (with_reducible exact policy_Pick.mono _ _ _ _ _ _)
   | (with_reducible exact LeO.refl _)
   | (with_reducible exact LeO.none _)
   | (with_reducible refine LeO.ite ?_ ?_)
   | (with_reducible refine LeO.bind ?_ (fun _ => ?_))
   | exact ih0 _ _ _ _ _ _ _ _ _ _ _ _ _ _
   | exact ih1 _ _ _ _ _ _ _ _ _ _ _ _ _ _
   | exact policy_Fits.mono _ _ _ _ _ _ _ _ _ _ _
   | exact policy_Pick.mono _ _ _ _ _ _
   | exact LeO.none _
   | refine LeO.ite ?_ ?_
   | refine LeO.bind ?_ (fun _ => ?_)
  ·
   intro y0 y1 y2 y3 y4 y5 y6 y7 y8 y9 y10 y11 y12 y13
   unfold ridgewaylaw10_PolicyBehind.j1
   repeat' first
   | (with_reducible exact ih0 _ _ _ _ _ _ _ _ _ _ _ _ _ _)
   | (with_reducible exact ih1 _ _ _ _ _ _ _ _ _ _ _ _ _ _)
   | (with_reducible exact policy_Fits.mono _ _ _ _ _ _ _ _ _ _ _)
   | (with_reducible exact policy_Pick.mono _ _ _ _ _ _)
   | (with_reducible exact LeO.refl _)
   | (with_reducible exact LeO.none _)
   | (with_reducible refine LeO.ite ?_ ?_)
   | (with_reducible refine LeO.bind ?_ (fun _ => ?_))
   | exact ih0 _ _ _ _ _ _ _ _ _ _ _ _ _ _
   | exact ih1 _ _ _ _ _ _ _ _ _ _ _ _ _ _
   | exact policy_Fits.mono _ _ _ _ _ _ _ _ _ _ _
   | exact policy_Pick.mono _ _ _ _ _ _
   | exact LeO.none _
   | refine LeO.ite ?_ ?_
   | refine LeO.bind ?_ (fun _ => ?_)
theorem ridgewaylaw10_PolicyBehind.mono : ∀ a0 a1 a2 a3 a4 a5 a6 a7 a8 a9 a10 a11 k, LeO (ridgewaylaw10_PolicyBehind.f k a0 a1 a2 a3 a4 a5 a6 a7 a8 a9 a10 a11) (ridgewaylaw10_PolicyBehind.f (k + 1) a0 a1 a2 a3 a4 a5 a6 a7 a8 a9 a10 a11) := by
 intro a0 a1 a2 a3 a4 a5 a6 a7 a8 a9 a10 a11 k
 obtain ⟨ih0, ih1⟩ := ridgewaylaw10_PolicyBehind.mono_l k
 unfold ridgewaylaw10_PolicyBehind.f
 repeat' first
   | (with_reducible exact ih0 _ _ _ _ _ _ _ _ _ _ _ _ _ _)
   | (with_reducible exact ih1 _ _ _ _ _ _ _ _ _ _ _ _ _ _)
   | (with_reducible exact policy_Fits.mono _ _ _ _ _ _ _ _ _ _ _)
   | (with_reducible exact policy_Pick.mono _ _ _ _ _ _)
   | (with_reducible exact LeO.refl _)
   | (with_reducible exact LeO.none _)
   | (with_reducible refine LeO.ite ?_ ?_)
   | (with_reducible refine LeO.bind ?_ (fun _ => ?_))
   | exact ih0 _ _ _ _ _ _ _ _ _ _ _ _ _ _
   | exact ih1 _ _ _ _ _ _ _ _ _ _ _ _ _ _
   | exact policy_Fits.mono _ _ _ _ _ _ _ _ _ _ _
   | exact policy_Pick.mono _ _ _ _ _ _
   | exact LeO.none _
   | refine LeO.ite ?_ ?_
   | refine LeO.bind ?_ (fun _ => ?_)
def ridgewaylaw10_PolicyBehind.T10 : Bool × List (List Nat × List Nat) := (true, [([], []), ([0], [0]), ([1], [1]), ([2], [2]), ([3, 2], [2, 3]), ([2, 4], [2, 4]), ([5, 2], [5]), ([6], [6]), ([6], [6]), ([7, 8, 6], [6, 7, 8]), ([6, 9], [6, 9]), ([10, 6], [10]), ([11], [11]), ([11], [11]), ([13, 11], [11, 13]), ([12, 14, 11, 11], [11, 12, 14]), ([15, 11], [11, 15]), ([11], [11]), ([11], [11]), ([18, 11], [11, 18]), ([17, 19, 15, 11], [11, 17, 19]), ([20, 11], [11, 20]), ([16, 21, 11], [11, 16, 21]), ([11, 22], [11, 22])])
def ridgewaylaw10_PolicyBehind.B10 : List Nat := [0, 1, 3, 7, 15, 31, 63, 127, 127, 511, 1023, 2047, 4095, 4095, 12287, 32767, 65535, 4095, 4095, 266239, 983039, 2031615, 4194303, 8388607]
theorem ridgewaylaw10_PolicyBehind.tab10 : rtab .any (opsOf Try.f7 10) = ridgewaylaw10_PolicyBehind.T10 := by kernel_rfl
theorem ridgewaylaw10_PolicyBehind.bits10 : waitsOk ridgewaylaw10_PolicyBehind.T10.2 ridgewaylaw10_PolicyBehind.B10 = true := by kernel_rfl
def ridgewaylaw10_PolicyBehind.T12 : Bool × List (List Nat × List Nat) := (true, [([], []), ([0], [0]), ([1], [1]), ([2], [2]), ([3], [3]), ([4, 3], [3, 4]), ([5, 3], [3, 5]), ([3], [3]), ([6, 7, 3, 3], [3, 6, 7]), ([3, 8], [3, 8])])
def ridgewaylaw10_PolicyBehind.B12 : List Nat := [0, 1, 3, 7, 15, 31, 63, 15, 255, 511]
theorem ridgewaylaw10_PolicyBehind.tab12 : rtab .any (opsOf Try.f7 12) = ridgewaylaw10_PolicyBehind.T12 := by kernel_rfl
theorem ridgewaylaw10_PolicyBehind.bits12 : waitsOk ridgewaylaw10_PolicyBehind.T12.2 ridgewaylaw10_PolicyBehind.B12 = true := by kernel_rfl
set_option maxHeartbeats 8000000 in
set_option maxRecDepth 100000 in
theorem ridgewaylaw10_PolicyBehind.calls (k : Nat) (A0 : Option Addr) (c0 : Nat) (l0 : List (S31)) (a1_0 : Int) (a1_1 : Int) (a1_2 : Int) (a1_3 : Int) (a1_4 : Int) (a1_5 : Int) (A2 : Option Addr) (c2 : Nat) (l2 : List (S31)) (a3_0 : Int) (a3_1 : Int) (A3_2 : Option Addr) (c3_2 : Nat) (l3_2 : List Int) (a3_3 : Int) (w : World) (hr0 : Kd.C k31 w A0 l0.length l0) (hc0 : l0.length ≤ c0) (hr2 : Kd.C k31 w A2 l2.length l2) (hc2 : l2.length ≤ c2) (hr3_2 : Kd.C (Kd.int .i64) w A3_2 l3_2.length l3_2) (hc3_2 : l3_2.length ≤ c3_2) (h : ridgewaylaw10_PolicyBehind.f k l0 a1_0 a1_1 a1_2 a1_3 a1_4 a1_5 l2 a3_0 a3_1 l3_2 a3_3 = some true) :
  Calls Try.prog 7 #[.slice A0 l0.length c0, .agg #[.int .i64 a1_0, .int .i64 a1_1, .int .i64 a1_2, .int .i64 a1_3, .int .i64 a1_4, .int .i64 a1_5], .slice A2 l2.length c2, .agg #[.int .i64 a3_0, .int .i64 a3_1, .slice A3_2 l3_2.length c3_2, .int .i64 a3_3]] w fun e w' => e = .returned (.bool true) ∧ Below w.heap.size w w' := by
 have hu31 := Try.underlying31
 have hu27 := Try.underlying27
 have HR0 := Aside0.mk hr0
 have HC0 := Aside0.mk hc0
 clear hr0 hc0
 have HR2 := Aside0.mk hr2
 have HC2 := Aside0.mk hc2
 clear hr2 hc2
 have HR3_2 := Aside0.mk hr3_2
 have HC3_2 := Aside0.mk hc3_2
 clear hr3_2 hc3_2
 have HB := Aside0.mk (Below.refl w.heap.size w)
 have H : ((ridgewaylaw10_awake.f).bind fun t282 => (if (l0.length : Int) > 20 then (ridgewaylaw10_PolicyBehind.j0 k l0 l2 t282 true a1_0 a1_1 a1_2 a1_3 a1_4 a1_5 a3_0 a3_1 l3_2 a3_3) else (if (l2.length : Int) > 20 then (ridgewaylaw10_PolicyBehind.j0 k l0 l2 t282 true a1_0 a1_1 a1_2 a1_3 a1_4 a1_5 a3_0 a3_1 l3_2 a3_3) else (if (l3_2.length : Int) > 100 then (ridgewaylaw10_PolicyBehind.j0 k l0 l2 t282 true a1_0 a1_1 a1_2 a1_3 a1_4 a1_5 a3_0 a3_1 l3_2 a3_3) else ((policy_Total.f a1_0 a1_1 a1_2 a1_3 a1_4 a1_5 a3_3).bind fun t283 => (ridgewaylaw10_PolicyBehind.j0 k l0 l2 t282 (!t283) a1_0 a1_1 a1_2 a1_3 a1_4 a1_5 a3_0 a3_1 l3_2 a3_3)))))) = some true := h
 clear h
 replace H := Option.bind_eq_some_iff.mp H
 obtain ⟨t282, A50, H⟩ := H
 replace H : (if (l0.length : Int) > 20 then (ridgewaylaw10_PolicyBehind.j0 k l0 l2 t282 true a1_0 a1_1 a1_2 a1_3 a1_4 a1_5 a3_0 a3_1 l3_2 a3_3) else (if (l2.length : Int) > 20 then (ridgewaylaw10_PolicyBehind.j0 k l0 l2 t282 true a1_0 a1_1 a1_2 a1_3 a1_4 a1_5 a3_0 a3_1 l3_2 a3_3) else (if (l3_2.length : Int) > 100 then (ridgewaylaw10_PolicyBehind.j0 k l0 l2 t282 true a1_0 a1_1 a1_2 a1_3 a1_4 a1_5 a3_0 a3_1 l3_2 a3_3) else ((policy_Total.f a1_0 a1_1 a1_2 a1_3 a1_4 a1_5 a3_3).bind fun t283 => (ridgewaylaw10_PolicyBehind.j0 k l0 l2 t282 (!t283) a1_0 a1_1 a1_2 a1_3 a1_4 a1_5 a3_0 a3_1 l3_2 a3_3))))) = some true := H
 have A5 := Aside0.mk A50
 clear A50
 have HC6 := Aside0.mk H
 clear H
 go_enter Try.func7, Try.ntmps7
 go_upto_region 2 with (first | ((with_reducible refine gate_dst (N := 5) rfl ?_); (try (refine gate_guard (by rfl) ?_; dsimp only)); refine box_event ?hg (N := 5) ?hd (cs := #[.int .i64 a1_0, .int .i64 a1_1, .int .i64 a1_2, .int .i64 a1_3, .int .i64 a1_4, .int .i64 a1_5]) (t := 31) ?hr ?_; (case hd => rfl); (case hg => rfl); (case hr => first | (go_simp; done) | (go_simp; rfl)); intro gb280 hg w7 hbox hb; have n0_ := Aside0.mk (below_step (by repeat (first | (with_reducible first | exact HB.out | apply bA | apply bN | apply bD) | exact HB.out)) hb); have n1_ := Aside0.mk (hbox); have n2_ := Aside0.mk ((by rw [hg]; exact (below_size (by repeat (first | (with_reducible first | exact HB.out | apply bA | apply bN | apply bD) | exact HB.out))) : w.heap.size ≤ gb280)); have n3_ := Aside0.mk ((by rw [hg]; exact (below_size (by repeat (first | (with_reducible first | exact HB.out | apply bA | apply bN | apply bD) | exact HB.out))) : w.heap.size ≤ gb280)); clear HB; have HB := n0_; have BK280 := n1_; have GW280 := n2_; have GE280 := n3_; clear n0_ n1_ n2_ n3_; clear hb hbox hg) | ((with_reducible refine gate_dst (N := 7) rfl ?_); (try (refine gate_guard (by rfl) ?_; dsimp only)); refine box_event ?hg (N := 7) ?hd (cs := #[.int .i64 a3_0, .int .i64 a3_1, .slice A3_2 l3_2.length c3_2, .int .i64 a3_3]) (t := 27) ?hr ?_; (case hd => rfl); (case hg => rfl); (case hr => first | (go_simp; done) | (go_simp; rfl)); intro gb281 hg w8 hbox hb; have n0_ := Aside0.mk (blk_below (g := gb280) (o := .cells #[.int .i64 a1_0, .int .i64 a1_1, .int .i64 a1_2, .int .i64 a1_3, .int .i64 a1_4, .int .i64 a1_5] 31 (0, 0)) (by (with_reducible repeat (first | refine kN ?_ _ | refine kD ?_ | refine kA ?_ _)); exact BK280.out) hb); have n1_ := Aside0.mk (below_step (by repeat (first | (with_reducible first | exact HB.out | apply bA | apply bN | apply bD | refine bS ?_ GE280.out) | exact HB.out)) hb); have n2_ := Aside0.mk (hbox); have n3_ := Aside0.mk ((by rw [hg]; exact (below_size (by repeat (first | (with_reducible first | exact HB.out | apply bA | apply bN | apply bD | refine bS ?_ GE280.out) | exact HB.out))) : w.heap.size ≤ gb281)); have n4_ := Aside0.mk ((by rw [hg]; exact (below_size (by repeat (first | (with_reducible first | exact HB.out | apply bA | apply bN | apply bD | refine bS ?_ GE280.out) | exact HB.out))) : w.heap.size ≤ gb281)); have n5_ := Aside0.mk ((by rw [hg]; exact Nat.ne_of_lt (blk_lt (g := gb280) (o := .cells #[.int .i64 a1_0, .int .i64 a1_1, .int .i64 a1_2, .int .i64 a1_3, .int .i64 a1_4, .int .i64 a1_5] 31 (0, 0)) (by (with_reducible repeat (first | refine kN ?_ _ | refine kD ?_ | refine kA ?_ _)); exact BK280.out)) : gb280 ≠ gb281)); have n6_ := Aside0.mk ((by rw [hg]; exact Nat.ne_of_gt (blk_lt (g := gb280) (o := .cells #[.int .i64 a1_0, .int .i64 a1_1, .int .i64 a1_2, .int .i64 a1_3, .int .i64 a1_4, .int .i64 a1_5] 31 (0, 0)) (by (with_reducible repeat (first | refine kN ?_ _ | refine kD ?_ | refine kA ?_ _)); exact BK280.out)) : gb281 ≠ gb280)); clear BK280; clear HB; have BK280 := n0_; have HB := n1_; have BK281 := n2_; have GW281 := n3_; have GE281 := n4_; have NB280_281 := n5_; have NB281_280 := n6_; clear n0_ n1_ n2_ n3_ n4_ n5_ n6_; clear hb hbox hg) | ((with_reducible refine gate_callee (f := 8) rfl ?_); refine goesL_ (some 19) rfl rfl Try.func8 (by kernel_rfl) rfl #[] rfl (by (try simp only [List.map_toArray, List.map_cons, List.map_nil]); first | done | rfl | (simp only [List.length_drop, List.length_take]; rfl)) ?_; (with_reducible refine (ridgewaylaw10_awake.calls  t282 _ A5.out).mono ?_); rintro e w9 ⟨rfl, hb⟩; refine ⟨_, rfl, ?_⟩; have n0_ := Aside0.mk (blk_below (g := gb280) (o := .cells #[.int .i64 a1_0, .int .i64 a1_1, .int .i64 a1_2, .int .i64 a1_3, .int .i64 a1_4, .int .i64 a1_5] 31 (0, 0)) (by (with_reducible repeat (first | refine kN ?_ _ | refine kD ?_ | refine kA ?_ _)); exact BK280.out) hb); have n1_ := Aside0.mk (blk_below (g := gb281) (o := .cells #[.int .i64 a3_0, .int .i64 a3_1, .slice A3_2 l3_2.length c3_2, .int .i64 a3_3] 27 (0, 0)) (by (with_reducible repeat (first | refine kN ?_ _ | refine kD ?_ | refine kA ?_ _)); exact BK281.out) hb); have n2_ := Aside0.mk (below_step (by repeat (first | (with_reducible first | exact HB.out | apply bA | apply bN | apply bD | refine bS ?_ GE280.out | refine bS ?_ GE281.out) | exact HB.out)) hb); clear BK280; clear BK281; clear HB; have BK280 := n0_; have BK281 := n1_; have HB := n2_; clear n0_ n1_ n2_; (try clear hb); (try clear hb2); (try clear hk); (try clear hi)))
 (try simp only [Act.put, sA, sB, sC])
 go_cut [40] (fun v40 wc => ∃ (kq : Nat) (x40_5 : Bool), v40 = .bool x40_5 ∧ Aside0 (ridgewaylaw10_PolicyBehind.j0 kq l0 l2 t282 x40_5 a1_0 a1_1 a1_2 a1_3 a1_4 a1_5 a3_0 a3_1 l3_2 a3_3 = some true) ∧ Aside0 (kq ≤ k) ∧ Aside0 (wc.heap[gb280]? = some (.cells #[.int .i64 a1_0, .int .i64 a1_1, .int .i64 a1_2, .int .i64 a1_3, .int .i64 a1_4, .int .i64 a1_5] 31 (0, 0))) ∧ Aside0 (wc.heap[gb281]? = some (.cells #[.int .i64 a3_0, .int .i64 a3_1, (.slice A3_2 l3_2.length c3_2), .int .i64 a3_3] 27 (0, 0))) ∧ Aside0 (Below w.heap.size w wc))
 case first =>
  have H := HC6.out
  clear HC6
  by_cases c10 : (l0.length : Int) > 20
  ·
   rw [if_pos c10] at H
   have c10b0 : decide (20 < (l0.length : Int)) = true := decide_eq_true c10
   have c10b1 : decide (20 < l0.length) = true := decide_eq_true (by omega)
   clear c10
   (first | rw [c10b0] | (simp only [i64_w, i32_w]; rw [c10b0]) | skip)
   have H' := Aside0.mk H
   clear H
   go_wp2
   go_meet
   case rel => exact ⟨_, (true), (by first | rfl | (simp; done) | (simp [*]; done)), H', ⟨by first | omega | exact Nat.le_refl _⟩, ⟨by (with_reducible repeat (first | refine kN ?_ _ | refine kD ?_ | refine kA ?_ _)); exact BK280.out⟩, ⟨by (with_reducible repeat (first | refine kN ?_ _ | refine kD ?_ | refine kA ?_ _)); exact BK281.out⟩, ⟨by repeat (first | (with_reducible first | exact HB.out | apply bA | apply bN | apply bD | refine bS ?_ GE280.out | refine bS ?_ GE281.out) | exact HB.out)⟩⟩
  ·
   rw [if_neg c10] at H
   have c10b0 : decide (20 < (l0.length : Int)) = false := decide_eq_false c10
   have c10b1 : decide (20 < l0.length) = false := decide_eq_false (by omega)
   clear c10
   (first | rw [c10b0] | (simp only [i64_w, i32_w]; rw [c10b0]) | skip)
   by_cases c11 : (l2.length : Int) > 20
   ·
    rw [if_pos c11] at H
    have c11b0 : decide (20 < (l2.length : Int)) = true := decide_eq_true c11
    have c11b1 : decide (20 < l2.length) = true := decide_eq_true (by omega)
    clear c11
    have H' := Aside0.mk H
    clear H
    go_wp2
    go_meet
    case rel => exact ⟨_, (true), (by first | rfl | (simp; done) | (simp [*]; done)), H', ⟨by first | omega | exact Nat.le_refl _⟩, ⟨by (with_reducible repeat (first | refine kN ?_ _ | refine kD ?_ | refine kA ?_ _)); exact BK280.out⟩, ⟨by (with_reducible repeat (first | refine kN ?_ _ | refine kD ?_ | refine kA ?_ _)); exact BK281.out⟩, ⟨by repeat (first | (with_reducible first | exact HB.out | apply bA | apply bN | apply bD | refine bS ?_ GE280.out | refine bS ?_ GE281.out) | exact HB.out)⟩⟩
   ·
    rw [if_neg c11] at H
    have c11b0 : decide (20 < (l2.length : Int)) = false := decide_eq_false c11
    have c11b1 : decide (20 < l2.length) = false := decide_eq_false (by omega)
    clear c11
    by_cases c12 : (l3_2.length : Int) > 100
    ·
     rw [if_pos c12] at H
     have c12b0 : decide (100 < (l3_2.length : Int)) = true := decide_eq_true c12
     have c12b1 : decide (100 < l3_2.length) = true := decide_eq_true (by omega)
     clear c12
     have H' := Aside0.mk H
     clear H
     have hnb13 := NB281_280.out
     have hnc13 := NB280_281.out
     have hcz14_0 : w9.cell? ⟨gb281, 0, none⟩ = some (.int .i64 a3_0) := (blk_cell BK281.out 0).trans rfl
     have hcz14_1 : w9.cell? ⟨gb281, 1, none⟩ = some (.int .i64 a3_1) := (blk_cell BK281.out 1).trans rfl
     have hcz14_2 : w9.cell? ⟨gb281, 2, none⟩ = some (.slice A3_2 l3_2.length c3_2) := (blk_cell BK281.out 2).trans rfl
     have hcz14_3 : w9.cell? ⟨gb281, 3, none⟩ = some (.int .i64 a3_3) := (blk_cell BK281.out 3).trans rfl
     have hfz14_0 := blk_frozen BK281.out 0
     have hfz14_1 := blk_frozen BK281.out 1
     have hfz14_2 := blk_frozen BK281.out 2
     have hfz14_3 := blk_frozen BK281.out 3
     go_wp2
     go_meet
     case rel => exact ⟨_, (true), (by first | rfl | (simp; done) | (simp [*]; done)), H', ⟨by first | omega | exact Nat.le_refl _⟩, ⟨by (with_reducible repeat (first | refine kN ?_ _ | refine kD ?_ | refine kA ?_ _)); exact BK280.out⟩, ⟨by (with_reducible repeat (first | refine kN ?_ _ | refine kD ?_ | refine kA ?_ _)); exact BK281.out⟩, ⟨by repeat (first | (with_reducible first | exact HB.out | apply bA | apply bN | apply bD | refine bS ?_ GE280.out | refine bS ?_ GE281.out) | exact HB.out)⟩⟩
    ·
     rw [if_neg c12] at H
     have c12b0 : decide (100 < (l3_2.length : Int)) = false := decide_eq_false c12
     have c12b1 : decide (100 < l3_2.length) = false := decide_eq_false (by omega)
     clear c12
     replace H := Option.bind_eq_some_iff.mp H
     obtain ⟨t283, A150, H⟩ := H
     replace H : (ridgewaylaw10_PolicyBehind.j0 k l0 l2 t282 (!t283) a1_0 a1_1 a1_2 a1_3 a1_4 a1_5 a3_0 a3_1 l3_2 a3_3) = some true := H
     have A15 := Aside0.mk A150
     clear A150
     have H' := Aside0.mk H
     clear H
     have hnb16 := NB281_280.out
     have hnc16 := NB280_281.out
     have hcz17_0 : w9.cell? ⟨gb281, 0, none⟩ = some (.int .i64 a3_0) := (blk_cell BK281.out 0).trans rfl
     have hcz17_1 : w9.cell? ⟨gb281, 1, none⟩ = some (.int .i64 a3_1) := (blk_cell BK281.out 1).trans rfl
     have hcz17_2 : w9.cell? ⟨gb281, 2, none⟩ = some (.slice A3_2 l3_2.length c3_2) := (blk_cell BK281.out 2).trans rfl
     have hcz17_3 : w9.cell? ⟨gb281, 3, none⟩ = some (.int .i64 a3_3) := (blk_cell BK281.out 3).trans rfl
     have hfz17_0 := blk_frozen BK281.out 0
     have hfz17_1 := blk_frozen BK281.out 1
     have hfz17_2 := blk_frozen BK281.out 2
     have hfz17_3 := blk_frozen BK281.out 3
     have hcz18_0 : w9.cell? ⟨gb280, 0, none⟩ = some (.int .i64 a1_0) := (blk_cell BK280.out 0).trans rfl
     have hcz18_1 : w9.cell? ⟨gb280, 1, none⟩ = some (.int .i64 a1_1) := (blk_cell BK280.out 1).trans rfl
     have hcz18_2 : w9.cell? ⟨gb280, 2, none⟩ = some (.int .i64 a1_2) := (blk_cell BK280.out 2).trans rfl
     have hcz18_3 : w9.cell? ⟨gb280, 3, none⟩ = some (.int .i64 a1_3) := (blk_cell BK280.out 3).trans rfl
     have hcz18_4 : w9.cell? ⟨gb280, 4, none⟩ = some (.int .i64 a1_4) := (blk_cell BK280.out 4).trans rfl
     have hcz18_5 : w9.cell? ⟨gb280, 5, none⟩ = some (.int .i64 a1_5) := (blk_cell BK280.out 5).trans rfl
     have hfz18_0 := blk_frozen BK280.out 0
     have hfz18_1 := blk_frozen BK280.out 1
     have hfz18_2 := blk_frozen BK280.out 2
     have hfz18_3 := blk_frozen BK280.out 3
     have hfz18_4 := blk_frozen BK280.out 4
     have hfz18_5 := blk_frozen BK280.out 5
     go_wp2_with (first | (go_at_call 13; (with_reducible refine (policy_Total.calls a1_0 a1_1 a1_2 a1_3 a1_4 a1_5 a3_3 t283 _ A15.out).mono ?_); rintro e w19 ⟨rfl, hb⟩; have n0_ := Aside0.mk (blk_below (g := gb280) (o := .cells #[.int .i64 a1_0, .int .i64 a1_1, .int .i64 a1_2, .int .i64 a1_3, .int .i64 a1_4, .int .i64 a1_5] 31 (0, 0)) (by (with_reducible repeat (first | refine kN ?_ _ | refine kD ?_ | refine kA ?_ _)); exact BK280.out) hb); have n1_ := Aside0.mk (blk_below (g := gb281) (o := .cells #[.int .i64 a3_0, .int .i64 a3_1, .slice A3_2 l3_2.length c3_2, .int .i64 a3_3] 27 (0, 0)) (by (with_reducible repeat (first | refine kN ?_ _ | refine kD ?_ | refine kA ?_ _)); exact BK281.out) hb); have n2_ := Aside0.mk (below_step (by repeat (first | (with_reducible first | exact HB.out | apply bA | apply bN | apply bD | refine bS ?_ GE280.out | refine bS ?_ GE281.out) | exact HB.out)) hb); clear BK280; clear BK281; clear HB; have BK280 := n0_; have BK281 := n1_; have HB := n2_; clear n0_ n1_ n2_; (try clear hb); (try clear hb2); (try clear hk); (try clear hi)))
     go_meet
     case rel => exact ⟨_, (!t283), (by first | rfl | (simp; done) | (simp [*]; done)), H', ⟨by first | omega | exact Nat.le_refl _⟩, ⟨by (with_reducible repeat (first | refine kN ?_ _ | refine kD ?_ | refine kA ?_ _)); exact BK280.out⟩, ⟨by (with_reducible repeat (first | refine kN ?_ _ | refine kD ?_ | refine kA ?_ _)); exact BK281.out⟩, ⟨by repeat (first | (with_reducible first | exact HB.out | apply bA | apply bN | apply bD | refine bS ?_ GE280.out | refine bS ?_ GE281.out) | exact HB.out)⟩⟩
 case rest =>
  clear HC6
  try clear c1
  try clear c2
  try clear p2
  try clear c3
  try clear c7
  try clear c8
  try clear c10
  try clear c10b0
  try clear c10b1
  try clear c11
  try clear c11b0
  try clear c11b1
  try clear c12
  try clear c12b0
  try clear c12b1
  try clear c13
  try clear c16
  try clear hcz14_0
  try clear hcz14_1
  try clear hcz14_2
  try clear hcz14_3
  try clear hcz17_0
  try clear hcz17_1
  try clear hcz17_2
  try clear hcz17_3
  try clear hcz18_0
  try clear hcz18_1
  try clear hcz18_2
  try clear hcz18_3
  try clear hcz18_4
  try clear hcz18_5
  try clear hfz14_0
  try clear hfz14_1
  try clear hfz14_2
  try clear hfz14_3
  try clear hfz17_0
  try clear hfz17_1
  try clear hfz17_2
  try clear hfz17_3
  try clear hfz18_0
  try clear hfz18_1
  try clear hfz18_2
  try clear hfz18_3
  try clear hfz18_4
  try clear hfz18_5
  obtain ⟨kq, x40_5, rfl, HA, HJ5, BK280, BK281, HB⟩ := hcut
  cases kq with
  | zero => exact absurd HA.out (by simp [ridgewaylaw10_PolicyBehind.j0])
  | succ kj5 =>
   have H := HA.out
   clear HA
   simp only [ridgewaylaw10_PolicyBehind.j0] at H
   by_cases c20 : x40_5 = true
   ·
    subst c20
    have H1 : (some t282) = some true := by rw [if_pos rfl] at H; first | done | exact H
    clear H
    have H := H1
    clear H1
    have HRL_ := Aside0.mk (Option.some.inj H)
    clear H
    go_wp2
    all_goals first | (go_ret; refine ⟨?_, ?_⟩; (focus (first | rfl | (simp [errW_none, errW_some] <;> rfl) | (rw [HRL_.out] <;> rfl) | (simp only [HRL_.out] <;> rfl) | (have h_ := HRL_.out; simp at h_; simp [h_]; done) | (have h_ := HRL_.out; simp [*] at h_ ⊢; done) | (simp [*, errW_none, errW_some] <;> rfl))); (focus (repeat (first | (with_reducible first | exact HB.out | apply bA | apply bN | apply bD | refine bS ?_ GE280.out | refine bS ?_ GE281.out) | exact HB.out)))) | (exfalso; simp_all; done)
   ·
    replace c20 := Bool.eq_false_iff.mpr c20
    subst c20
    have H1 : ((some (([] : List (S31)) : List (S31))).bind fun y284 => (if y284.length + l0.length < 2932031007402 then ((some (y284 ++ l0 : List (S31))).bind fun y287 => (if y287.length < 2932031007402 then ((some (y287 ++ [(⟨a1_0, (⟨a1_1, a1_2⟩ : S24), a1_3, a1_4, a1_5⟩ : S31)] : List (S31))).bind fun y290 => ((some (([] : List (S31)) : List (S31))).bind fun y293 => (if y293.length + y290.length < 2932031007402 then ((some (y293 ++ y290 : List (S31))).bind fun y296 => (if y296.length + l2.length < 2932031007402 then ((some (y296 ++ l2 : List (S31))).bind fun y299 => ((policy_Pick.f kj5 y290 a3_0 a3_1 l3_2 a3_3).bind fun bt302 => ((policy_Pick.f kj5 y299 a3_0 a3_1 l3_2 a3_3).bind fun bt310 => (if bt302.2.2.2.2.2.2 = true then (if bt310.2.2.2.2.2.2 = true then (if (!(bt302.1 == bt310.1) || ((!(bt302.2.1 == bt310.2.1) || (!(bt302.2.2.1 == bt310.2.2.1))) || (!(bt302.2.2.2.1 == bt310.2.2.2.1) || (!(bt302.2.2.2.2.1 == bt310.2.2.2.2.1) || (!(bt302.2.2.2.2.2.1 == bt310.2.2.2.2.2.1)))))) = true then (ridgewaylaw10_PolicyBehind.j1 kj5 l2 t282 y290 true a3_0 a3_1 l3_2 a3_3 bt302.1 bt302.2.1 bt302.2.2.1 bt302.2.2.2.1 bt302.2.2.2.2.1 bt302.2.2.2.2.2.1) else ((policy_Reach.f y299 a3_3).bind fun t318 => ((policy_Reach.f y290 a3_3).bind fun t321 => (ridgewaylaw10_PolicyBehind.j1 kj5 l2 t282 y290 ((t318.length : Int) != (t321.length : Int)) a3_0 a3_1 l3_2 a3_3 bt302.1 bt302.2.1 bt302.2.2.1 bt302.2.2.2.1 bt302.2.2.2.2.1 bt302.2.2.2.2.2.1)))) else (ridgewaylaw10_PolicyBehind.j1 kj5 l2 t282 y290 true a3_0 a3_1 l3_2 a3_3 bt302.1 bt302.2.1 bt302.2.2.1 bt302.2.2.2.1 bt302.2.2.2.2.1 bt302.2.2.2.2.2.1)) else (ridgewaylaw10_PolicyBehind.j1 kj5 l2 t282 y290 true a3_0 a3_1 l3_2 a3_3 bt302.1 bt302.2.1 bt302.2.2.1 bt302.2.2.2.1 bt302.2.2.2.2.1 bt302.2.2.2.2.2.1))))) else (none))) else (none)))) else (none))) else (none))) = some true := by rw [if_neg (show ¬ (false = true) by decide)] at H; first | done | exact H
    clear H
    have H := H1
    clear H1
    obtain ⟨y284, hy284⟩ : ∃ y_ : List (S31), y_ = (([] : List (S31))) := ⟨_, rfl⟩
    replace H : (if y284.length + l0.length < 2932031007402 then ((some (y284 ++ l0 : List (S31))).bind fun y287 => (if y287.length < 2932031007402 then ((some (y287 ++ [(⟨a1_0, (⟨a1_1, a1_2⟩ : S24), a1_3, a1_4, a1_5⟩ : S31)] : List (S31))).bind fun y290 => ((some (([] : List (S31)) : List (S31))).bind fun y293 => (if y293.length + y290.length < 2932031007402 then ((some (y293 ++ y290 : List (S31))).bind fun y296 => (if y296.length + l2.length < 2932031007402 then ((some (y296 ++ l2 : List (S31))).bind fun y299 => ((policy_Pick.f kj5 y290 a3_0 a3_1 l3_2 a3_3).bind fun bt302 => ((policy_Pick.f kj5 y299 a3_0 a3_1 l3_2 a3_3).bind fun bt310 => (if bt302.2.2.2.2.2.2 = true then (if bt310.2.2.2.2.2.2 = true then (if (!(bt302.1 == bt310.1) || ((!(bt302.2.1 == bt310.2.1) || (!(bt302.2.2.1 == bt310.2.2.1))) || (!(bt302.2.2.2.1 == bt310.2.2.2.1) || (!(bt302.2.2.2.2.1 == bt310.2.2.2.2.1) || (!(bt302.2.2.2.2.2.1 == bt310.2.2.2.2.2.1)))))) = true then (ridgewaylaw10_PolicyBehind.j1 kj5 l2 t282 y290 true a3_0 a3_1 l3_2 a3_3 bt302.1 bt302.2.1 bt302.2.2.1 bt302.2.2.2.1 bt302.2.2.2.2.1 bt302.2.2.2.2.2.1) else ((policy_Reach.f y299 a3_3).bind fun t318 => ((policy_Reach.f y290 a3_3).bind fun t321 => (ridgewaylaw10_PolicyBehind.j1 kj5 l2 t282 y290 ((t318.length : Int) != (t321.length : Int)) a3_0 a3_1 l3_2 a3_3 bt302.1 bt302.2.1 bt302.2.2.1 bt302.2.2.2.1 bt302.2.2.2.2.1 bt302.2.2.2.2.2.1)))) else (ridgewaylaw10_PolicyBehind.j1 kj5 l2 t282 y290 true a3_0 a3_1 l3_2 a3_3 bt302.1 bt302.2.1 bt302.2.2.1 bt302.2.2.2.1 bt302.2.2.2.2.1 bt302.2.2.2.2.2.1)) else (ridgewaylaw10_PolicyBehind.j1 kj5 l2 t282 y290 true a3_0 a3_1 l3_2 a3_3 bt302.1 bt302.2.1 bt302.2.2.1 bt302.2.2.2.1 bt302.2.2.2.2.1 bt302.2.2.2.2.2.1))))) else (none))) else (none)))) else (none))) else (none)) = some true := by first | (rw [hy284]; with_reducible exact H) | (have H2_ := (Option.bind_some _ _).symm.trans H; rw [hy284]; with_reducible exact H2_) | (have H2_ := (Option.bind_some _ _).symm.trans H; with_reducible exact H2_) | with_reducible exact H | (rw [hy284]; exact H) | exact H
    have Ny284 := Aside0.mk hy284
    clear hy284
    by_cases c21 : y284.length + l0.length < 2932031007402
    ·
     rw [if_pos c21] at H
     have LMc21 := Aside0.mk c21
     clear c21
     obtain ⟨y287, hy287⟩ : ∃ y_ : List (S31), y_ = (y284 ++ l0) := ⟨_, rfl⟩
     replace H : (if y287.length < 2932031007402 then ((some (y287 ++ [(⟨a1_0, (⟨a1_1, a1_2⟩ : S24), a1_3, a1_4, a1_5⟩ : S31)] : List (S31))).bind fun y290 => ((some (([] : List (S31)) : List (S31))).bind fun y293 => (if y293.length + y290.length < 2932031007402 then ((some (y293 ++ y290 : List (S31))).bind fun y296 => (if y296.length + l2.length < 2932031007402 then ((some (y296 ++ l2 : List (S31))).bind fun y299 => ((policy_Pick.f kj5 y290 a3_0 a3_1 l3_2 a3_3).bind fun bt302 => ((policy_Pick.f kj5 y299 a3_0 a3_1 l3_2 a3_3).bind fun bt310 => (if bt302.2.2.2.2.2.2 = true then (if bt310.2.2.2.2.2.2 = true then (if (!(bt302.1 == bt310.1) || ((!(bt302.2.1 == bt310.2.1) || (!(bt302.2.2.1 == bt310.2.2.1))) || (!(bt302.2.2.2.1 == bt310.2.2.2.1) || (!(bt302.2.2.2.2.1 == bt310.2.2.2.2.1) || (!(bt302.2.2.2.2.2.1 == bt310.2.2.2.2.2.1)))))) = true then (ridgewaylaw10_PolicyBehind.j1 kj5 l2 t282 y290 true a3_0 a3_1 l3_2 a3_3 bt302.1 bt302.2.1 bt302.2.2.1 bt302.2.2.2.1 bt302.2.2.2.2.1 bt302.2.2.2.2.2.1) else ((policy_Reach.f y299 a3_3).bind fun t318 => ((policy_Reach.f y290 a3_3).bind fun t321 => (ridgewaylaw10_PolicyBehind.j1 kj5 l2 t282 y290 ((t318.length : Int) != (t321.length : Int)) a3_0 a3_1 l3_2 a3_3 bt302.1 bt302.2.1 bt302.2.2.1 bt302.2.2.2.1 bt302.2.2.2.2.1 bt302.2.2.2.2.2.1)))) else (ridgewaylaw10_PolicyBehind.j1 kj5 l2 t282 y290 true a3_0 a3_1 l3_2 a3_3 bt302.1 bt302.2.1 bt302.2.2.1 bt302.2.2.2.1 bt302.2.2.2.2.1 bt302.2.2.2.2.2.1)) else (ridgewaylaw10_PolicyBehind.j1 kj5 l2 t282 y290 true a3_0 a3_1 l3_2 a3_3 bt302.1 bt302.2.1 bt302.2.2.1 bt302.2.2.2.1 bt302.2.2.2.2.1 bt302.2.2.2.2.2.1))))) else (none))) else (none)))) else (none)) = some true := by first | (rw [hy287]; with_reducible exact H) | (have H2_ := (Option.bind_some _ _).symm.trans H; rw [hy287]; with_reducible exact H2_) | (have H2_ := (Option.bind_some _ _).symm.trans H; with_reducible exact H2_) | with_reducible exact H | (rw [hy287]; exact H) | exact H
     have Ny287 := Aside0.mk hy287
     clear hy287
     by_cases c22 : y287.length < 2932031007402
     ·
      rw [if_pos c22] at H
      have LMc22 := Aside0.mk c22
      clear c22
      obtain ⟨y290, hy290⟩ : ∃ y_ : List (S31), y_ = (y287 ++ [(⟨a1_0, (⟨a1_1, a1_2⟩ : S24), a1_3, a1_4, a1_5⟩ : S31)]) := ⟨_, rfl⟩
      replace H : ((some (([] : List (S31)) : List (S31))).bind fun y293 => (if y293.length + y290.length < 2932031007402 then ((some (y293 ++ y290 : List (S31))).bind fun y296 => (if y296.length + l2.length < 2932031007402 then ((some (y296 ++ l2 : List (S31))).bind fun y299 => ((policy_Pick.f kj5 y290 a3_0 a3_1 l3_2 a3_3).bind fun bt302 => ((policy_Pick.f kj5 y299 a3_0 a3_1 l3_2 a3_3).bind fun bt310 => (if bt302.2.2.2.2.2.2 = true then (if bt310.2.2.2.2.2.2 = true then (if (!(bt302.1 == bt310.1) || ((!(bt302.2.1 == bt310.2.1) || (!(bt302.2.2.1 == bt310.2.2.1))) || (!(bt302.2.2.2.1 == bt310.2.2.2.1) || (!(bt302.2.2.2.2.1 == bt310.2.2.2.2.1) || (!(bt302.2.2.2.2.2.1 == bt310.2.2.2.2.2.1)))))) = true then (ridgewaylaw10_PolicyBehind.j1 kj5 l2 t282 y290 true a3_0 a3_1 l3_2 a3_3 bt302.1 bt302.2.1 bt302.2.2.1 bt302.2.2.2.1 bt302.2.2.2.2.1 bt302.2.2.2.2.2.1) else ((policy_Reach.f y299 a3_3).bind fun t318 => ((policy_Reach.f y290 a3_3).bind fun t321 => (ridgewaylaw10_PolicyBehind.j1 kj5 l2 t282 y290 ((t318.length : Int) != (t321.length : Int)) a3_0 a3_1 l3_2 a3_3 bt302.1 bt302.2.1 bt302.2.2.1 bt302.2.2.2.1 bt302.2.2.2.2.1 bt302.2.2.2.2.2.1)))) else (ridgewaylaw10_PolicyBehind.j1 kj5 l2 t282 y290 true a3_0 a3_1 l3_2 a3_3 bt302.1 bt302.2.1 bt302.2.2.1 bt302.2.2.2.1 bt302.2.2.2.2.1 bt302.2.2.2.2.2.1)) else (ridgewaylaw10_PolicyBehind.j1 kj5 l2 t282 y290 true a3_0 a3_1 l3_2 a3_3 bt302.1 bt302.2.1 bt302.2.2.1 bt302.2.2.2.1 bt302.2.2.2.2.1 bt302.2.2.2.2.2.1))))) else (none))) else (none))) = some true := by first | (rw [hy290]; with_reducible exact H) | (have H2_ := (Option.bind_some _ _).symm.trans H; rw [hy290]; with_reducible exact H2_) | (have H2_ := (Option.bind_some _ _).symm.trans H; with_reducible exact H2_) | with_reducible exact H | (rw [hy290]; exact H) | exact H
      have Ny290 := Aside0.mk hy290
      clear hy290
      obtain ⟨y293, hy293⟩ : ∃ y_ : List (S31), y_ = (([] : List (S31))) := ⟨_, rfl⟩
      replace H : (if y293.length + y290.length < 2932031007402 then ((some (y293 ++ y290 : List (S31))).bind fun y296 => (if y296.length + l2.length < 2932031007402 then ((some (y296 ++ l2 : List (S31))).bind fun y299 => ((policy_Pick.f kj5 y290 a3_0 a3_1 l3_2 a3_3).bind fun bt302 => ((policy_Pick.f kj5 y299 a3_0 a3_1 l3_2 a3_3).bind fun bt310 => (if bt302.2.2.2.2.2.2 = true then (if bt310.2.2.2.2.2.2 = true then (if (!(bt302.1 == bt310.1) || ((!(bt302.2.1 == bt310.2.1) || (!(bt302.2.2.1 == bt310.2.2.1))) || (!(bt302.2.2.2.1 == bt310.2.2.2.1) || (!(bt302.2.2.2.2.1 == bt310.2.2.2.2.1) || (!(bt302.2.2.2.2.2.1 == bt310.2.2.2.2.2.1)))))) = true then (ridgewaylaw10_PolicyBehind.j1 kj5 l2 t282 y290 true a3_0 a3_1 l3_2 a3_3 bt302.1 bt302.2.1 bt302.2.2.1 bt302.2.2.2.1 bt302.2.2.2.2.1 bt302.2.2.2.2.2.1) else ((policy_Reach.f y299 a3_3).bind fun t318 => ((policy_Reach.f y290 a3_3).bind fun t321 => (ridgewaylaw10_PolicyBehind.j1 kj5 l2 t282 y290 ((t318.length : Int) != (t321.length : Int)) a3_0 a3_1 l3_2 a3_3 bt302.1 bt302.2.1 bt302.2.2.1 bt302.2.2.2.1 bt302.2.2.2.2.1 bt302.2.2.2.2.2.1)))) else (ridgewaylaw10_PolicyBehind.j1 kj5 l2 t282 y290 true a3_0 a3_1 l3_2 a3_3 bt302.1 bt302.2.1 bt302.2.2.1 bt302.2.2.2.1 bt302.2.2.2.2.1 bt302.2.2.2.2.2.1)) else (ridgewaylaw10_PolicyBehind.j1 kj5 l2 t282 y290 true a3_0 a3_1 l3_2 a3_3 bt302.1 bt302.2.1 bt302.2.2.1 bt302.2.2.2.1 bt302.2.2.2.2.1 bt302.2.2.2.2.2.1))))) else (none))) else (none)) = some true := by first | (rw [hy293]; with_reducible exact H) | (have H2_ := (Option.bind_some _ _).symm.trans H; rw [hy293]; with_reducible exact H2_) | (have H2_ := (Option.bind_some _ _).symm.trans H; with_reducible exact H2_) | with_reducible exact H | (rw [hy293]; exact H) | exact H
      have Ny293 := Aside0.mk hy293
      clear hy293
      by_cases c23 : y293.length + y290.length < 2932031007402
      ·
       rw [if_pos c23] at H
       have LMc23 := Aside0.mk c23
       clear c23
       obtain ⟨y296, hy296⟩ : ∃ y_ : List (S31), y_ = (y293 ++ y290) := ⟨_, rfl⟩
       replace H : (if y296.length + l2.length < 2932031007402 then ((some (y296 ++ l2 : List (S31))).bind fun y299 => ((policy_Pick.f kj5 y290 a3_0 a3_1 l3_2 a3_3).bind fun bt302 => ((policy_Pick.f kj5 y299 a3_0 a3_1 l3_2 a3_3).bind fun bt310 => (if bt302.2.2.2.2.2.2 = true then (if bt310.2.2.2.2.2.2 = true then (if (!(bt302.1 == bt310.1) || ((!(bt302.2.1 == bt310.2.1) || (!(bt302.2.2.1 == bt310.2.2.1))) || (!(bt302.2.2.2.1 == bt310.2.2.2.1) || (!(bt302.2.2.2.2.1 == bt310.2.2.2.2.1) || (!(bt302.2.2.2.2.2.1 == bt310.2.2.2.2.2.1)))))) = true then (ridgewaylaw10_PolicyBehind.j1 kj5 l2 t282 y290 true a3_0 a3_1 l3_2 a3_3 bt302.1 bt302.2.1 bt302.2.2.1 bt302.2.2.2.1 bt302.2.2.2.2.1 bt302.2.2.2.2.2.1) else ((policy_Reach.f y299 a3_3).bind fun t318 => ((policy_Reach.f y290 a3_3).bind fun t321 => (ridgewaylaw10_PolicyBehind.j1 kj5 l2 t282 y290 ((t318.length : Int) != (t321.length : Int)) a3_0 a3_1 l3_2 a3_3 bt302.1 bt302.2.1 bt302.2.2.1 bt302.2.2.2.1 bt302.2.2.2.2.1 bt302.2.2.2.2.2.1)))) else (ridgewaylaw10_PolicyBehind.j1 kj5 l2 t282 y290 true a3_0 a3_1 l3_2 a3_3 bt302.1 bt302.2.1 bt302.2.2.1 bt302.2.2.2.1 bt302.2.2.2.2.1 bt302.2.2.2.2.2.1)) else (ridgewaylaw10_PolicyBehind.j1 kj5 l2 t282 y290 true a3_0 a3_1 l3_2 a3_3 bt302.1 bt302.2.1 bt302.2.2.1 bt302.2.2.2.1 bt302.2.2.2.2.1 bt302.2.2.2.2.2.1))))) else (none)) = some true := by first | (rw [hy296]; with_reducible exact H) | (have H2_ := (Option.bind_some _ _).symm.trans H; rw [hy296]; with_reducible exact H2_) | (have H2_ := (Option.bind_some _ _).symm.trans H; with_reducible exact H2_) | with_reducible exact H | (rw [hy296]; exact H) | exact H
       have Ny296 := Aside0.mk hy296
       clear hy296
       by_cases c24 : y296.length + l2.length < 2932031007402
       ·
        rw [if_pos c24] at H
        have LMc24 := Aside0.mk c24
        clear c24
        obtain ⟨y299, hy299⟩ : ∃ y_ : List (S31), y_ = (y296 ++ l2) := ⟨_, rfl⟩
        replace H : ((policy_Pick.f kj5 y290 a3_0 a3_1 l3_2 a3_3).bind fun bt302 => ((policy_Pick.f kj5 y299 a3_0 a3_1 l3_2 a3_3).bind fun bt310 => (if bt302.2.2.2.2.2.2 = true then (if bt310.2.2.2.2.2.2 = true then (if (!(bt302.1 == bt310.1) || ((!(bt302.2.1 == bt310.2.1) || (!(bt302.2.2.1 == bt310.2.2.1))) || (!(bt302.2.2.2.1 == bt310.2.2.2.1) || (!(bt302.2.2.2.2.1 == bt310.2.2.2.2.1) || (!(bt302.2.2.2.2.2.1 == bt310.2.2.2.2.2.1)))))) = true then (ridgewaylaw10_PolicyBehind.j1 kj5 l2 t282 y290 true a3_0 a3_1 l3_2 a3_3 bt302.1 bt302.2.1 bt302.2.2.1 bt302.2.2.2.1 bt302.2.2.2.2.1 bt302.2.2.2.2.2.1) else ((policy_Reach.f y299 a3_3).bind fun t318 => ((policy_Reach.f y290 a3_3).bind fun t321 => (ridgewaylaw10_PolicyBehind.j1 kj5 l2 t282 y290 ((t318.length : Int) != (t321.length : Int)) a3_0 a3_1 l3_2 a3_3 bt302.1 bt302.2.1 bt302.2.2.1 bt302.2.2.2.1 bt302.2.2.2.2.1 bt302.2.2.2.2.2.1)))) else (ridgewaylaw10_PolicyBehind.j1 kj5 l2 t282 y290 true a3_0 a3_1 l3_2 a3_3 bt302.1 bt302.2.1 bt302.2.2.1 bt302.2.2.2.1 bt302.2.2.2.2.1 bt302.2.2.2.2.2.1)) else (ridgewaylaw10_PolicyBehind.j1 kj5 l2 t282 y290 true a3_0 a3_1 l3_2 a3_3 bt302.1 bt302.2.1 bt302.2.2.1 bt302.2.2.2.1 bt302.2.2.2.2.1 bt302.2.2.2.2.2.1)))) = some true := by first | (rw [hy299]; with_reducible exact H) | (have H2_ := (Option.bind_some _ _).symm.trans H; rw [hy299]; with_reducible exact H2_) | (have H2_ := (Option.bind_some _ _).symm.trans H; with_reducible exact H2_) | with_reducible exact H | (rw [hy299]; exact H) | exact H
        have Ny299 := Aside0.mk hy299
        clear hy299
        replace H := Option.bind_eq_some_iff.mp H
        obtain ⟨⟨t302, t303, t304, t305, t306, t307, t308⟩, A250, H⟩ := H
        replace H : ((policy_Pick.f kj5 y299 a3_0 a3_1 l3_2 a3_3).bind fun bt310 => (if t308 = true then (if bt310.2.2.2.2.2.2 = true then (if (!(t302 == bt310.1) || ((!(t303 == bt310.2.1) || (!(t304 == bt310.2.2.1))) || (!(t305 == bt310.2.2.2.1) || (!(t306 == bt310.2.2.2.2.1) || (!(t307 == bt310.2.2.2.2.2.1)))))) = true then (ridgewaylaw10_PolicyBehind.j1 kj5 l2 t282 y290 true a3_0 a3_1 l3_2 a3_3 t302 t303 t304 t305 t306 t307) else ((policy_Reach.f y299 a3_3).bind fun t318 => ((policy_Reach.f y290 a3_3).bind fun t321 => (ridgewaylaw10_PolicyBehind.j1 kj5 l2 t282 y290 ((t318.length : Int) != (t321.length : Int)) a3_0 a3_1 l3_2 a3_3 t302 t303 t304 t305 t306 t307)))) else (ridgewaylaw10_PolicyBehind.j1 kj5 l2 t282 y290 true a3_0 a3_1 l3_2 a3_3 t302 t303 t304 t305 t306 t307)) else (ridgewaylaw10_PolicyBehind.j1 kj5 l2 t282 y290 true a3_0 a3_1 l3_2 a3_3 t302 t303 t304 t305 t306 t307))) = some true := H
        have A25 := Aside0.mk A250
        clear A250
        replace H := Option.bind_eq_some_iff.mp H
        obtain ⟨⟨t310, t311, t312, t313, t314, t315, t316⟩, A260, H⟩ := H
        replace H : (if t308 = true then (if t316 = true then (if (!(t302 == t310) || ((!(t303 == t311) || (!(t304 == t312))) || (!(t305 == t313) || (!(t306 == t314) || (!(t307 == t315)))))) = true then (ridgewaylaw10_PolicyBehind.j1 kj5 l2 t282 y290 true a3_0 a3_1 l3_2 a3_3 t302 t303 t304 t305 t306 t307) else ((policy_Reach.f y299 a3_3).bind fun t318 => ((policy_Reach.f y290 a3_3).bind fun t321 => (ridgewaylaw10_PolicyBehind.j1 kj5 l2 t282 y290 ((t318.length : Int) != (t321.length : Int)) a3_0 a3_1 l3_2 a3_3 t302 t303 t304 t305 t306 t307)))) else (ridgewaylaw10_PolicyBehind.j1 kj5 l2 t282 y290 true a3_0 a3_1 l3_2 a3_3 t302 t303 t304 t305 t306 t307)) else (ridgewaylaw10_PolicyBehind.j1 kj5 l2 t282 y290 true a3_0 a3_1 l3_2 a3_3 t302 t303 t304 t305 t306 t307)) = some true := H
        have A26 := Aside0.mk A260
        clear A260
        have HC27 := Aside0.mk H
        clear H
        go_upto_region 10 with (first | ((with_reducible refine gate_dst (N := 42) rfl ?_); (try (refine gate_guard (by rfl) ?_; dsimp only)); refine Kd.R_lit k31 _ 31 ?hg (N := 42) ?hd (xs := ([] : List (S31))) (inner := []) (ok := fun _ => True) (okp := fun _ => True) ?hr ?hp (fun _ hk => hk) trivial (Below.refl _ _) (Nat.le_refl _) (by simp) ?_; (case hd => rfl); (case hg => rfl); (case hr => first | (go_simp; done) | (go_simp; rfl)); (case hp => exact (Reps.none _ _)); intro v285 w28 ho29 hb hg_ hnew_; clear hg_ hnew_; (first | rw [← Ny284.out] at ho29 | (simp only [Int.reduceToNat] at ho29; rw [← Ny284.out] at ho29)); have n0_ := Aside0.mk (Kd.R_lower (Kd.R_newB ho29 (g := gb280) (o := .cells #[.int .i64 a1_0, .int .i64 a1_1, .int .i64 a1_2, .int .i64 a1_3, .int .i64 a1_4, .int .i64 a1_5] 31 (0, 0)) (by (with_reducible repeat (first | refine kN ?_ _ | refine kD ?_ | refine kA ?_ _)); exact BK280.out)) (below_size (by repeat (first | (with_reducible first | exact HB.out | apply bA | apply bN | apply bD | refine bS ?_ GE280.out | refine bS ?_ GE281.out) | exact HB.out)))); have n1_ := Aside0.mk (blk_below (g := gb280) (o := .cells #[.int .i64 a1_0, .int .i64 a1_1, .int .i64 a1_2, .int .i64 a1_3, .int .i64 a1_4, .int .i64 a1_5] 31 (0, 0)) (by (with_reducible repeat (first | refine kN ?_ _ | refine kD ?_ | refine kA ?_ _)); exact BK280.out) hb); have n2_ := Aside0.mk (blk_below (g := gb281) (o := .cells #[.int .i64 a3_0, .int .i64 a3_1, .slice A3_2 l3_2.length c3_2, .int .i64 a3_3] 27 (0, 0)) (by (with_reducible repeat (first | refine kN ?_ _ | refine kD ?_ | refine kA ?_ _)); exact BK281.out) hb); have n3_ := Aside0.mk (below_step (by repeat (first | (with_reducible first | exact HB.out | apply bA | apply bN | apply bD | refine bS ?_ GE280.out | refine bS ?_ GE281.out) | exact HB.out)) hb); clear BK280; clear BK281; clear HB; have HO286 := n0_; have BK280 := n1_; have BK281 := n2_; have HB := n3_; clear n0_ n1_ n2_ n3_; clear hb ho29) | ((with_reducible refine gate_builtin (b := .append) (xs := #[.tmp 42, .tmp 43]) rfl ?_); (try (refine gate_guard (by rfl) ?_; dsimp only)); at_builtin; refine Kd.R_append_rows k31 (w0 := w) w.heap.size rfl (.tmp 42) (.tmp 43) 22 31 (.agg #[(.int .i64 0), (.int .i64 0), (.int .i64 0), (.int .i64 0), (.int .i64 0), (.int .i64 0)]) 48 rfl Try.underlying22 info31 rfl (by decide) (by omega) v285 y284 l0 _ _ _ (fun k_ => k_ ≠ gb280) (fun _ => False) rfl rfl ?aO ?aR (fun _ _ h => h) (fun _ h => h.elim) ?aF ?aB ?aS ?aL ?_; (case aR => repeat (first | exact (Kd.C_below HR0.out HB.out) | (with_reducible refine Kd.C_alloc ?_ _) | (with_reducible refine Kd.C_drewN ?_ _) | (with_reducible refine Kd.C_drew ?_))); (case aB => exact (by repeat (first | (with_reducible first | exact HB.out | apply bA | apply bN | apply bD | refine bS ?_ GE280.out | refine bS ?_ GE281.out) | exact HB.out))); (case aF => exact (fun k_ hk => Kd.freshB (g := gb280) (o := .cells #[.int .i64 a1_0, .int .i64 a1_1, .int .i64 a1_2, .int .i64 a1_3, .int .i64 a1_4, .int .i64 a1_5] 31 (0, 0)) (by (with_reducible repeat (first | refine kN ?_ _ | refine kD ?_ | refine kA ?_ _)); exact BK280.out) k_ hk)); (case aO => exact (by (with_reducible repeat (first | apply Kd.R_alloc | apply Kd.R_drewN | apply Kd.R_drew)); exact Kd.R_mono HO286.out (fun _ hk => hk.2))); (case aS => exact (below_size (by repeat (first | (with_reducible first | exact HB.out | apply bA | apply bN | apply bD | refine bS ?_ GE280.out | refine bS ?_ GE281.out) | exact HB.out)))); (case aL => have := LMc21.out; omega); intro v288 w30 ho hb hg hat; rw [← Ny287.out] at ho; have n0_ := Aside0.mk (blk_grown (g := gb280) (o := .cells #[.int .i64 a1_0, .int .i64 a1_1, .int .i64 a1_2, .int .i64 a1_3, .int .i64 a1_4, .int .i64 a1_5] 31 (0, 0)) (by (with_reducible repeat (first | refine kN ?_ _ | refine kD ?_ | refine kA ?_ _)); exact BK280.out) hg (Kd.R_away HO286.out (fun _ hk => hk.2))); have n1_ := Aside0.mk (blk_grown (g := gb281) (o := .cells #[.int .i64 a3_0, .int .i64 a3_1, .slice A3_2 l3_2.length c3_2, .int .i64 a3_3] 27 (0, 0)) (by (with_reducible repeat (first | refine kN ?_ _ | refine kD ?_ | refine kA ?_ _)); exact BK281.out) hg (Kd.R_ne HO286.out BK281.out (by decide))); have n2_ := Aside0.mk (hb); have n3_ := Aside0.mk (ho); clear BK280; clear BK281; clear HB; clear HO286; have BK280 := n0_; have BK281 := n1_; have HB := n2_; have HO289 := n3_; clear n0_ n1_ n2_ n3_; clear ho hb hg hat; have hnb31 := NB280_281.out; have hnc31 := NB281_280.out; have hcz32_0 : w30.cell? ⟨gb280, 0, none⟩ = some (.int .i64 a1_0) := (blk_cell BK280.out 0).trans rfl; have hcz32_1 : w30.cell? ⟨gb280, 1, none⟩ = some (.int .i64 a1_1) := (blk_cell BK280.out 1).trans rfl; have hcz32_2 : w30.cell? ⟨gb280, 2, none⟩ = some (.int .i64 a1_2) := (blk_cell BK280.out 2).trans rfl; have hcz32_3 : w30.cell? ⟨gb280, 3, none⟩ = some (.int .i64 a1_3) := (blk_cell BK280.out 3).trans rfl; have hcz32_4 : w30.cell? ⟨gb280, 4, none⟩ = some (.int .i64 a1_4) := (blk_cell BK280.out 4).trans rfl; have hcz32_5 : w30.cell? ⟨gb280, 5, none⟩ = some (.int .i64 a1_5) := (blk_cell BK280.out 5).trans rfl; have hfz32_0 := blk_frozen BK280.out 0; have hfz32_1 := blk_frozen BK280.out 1; have hfz32_2 := blk_frozen BK280.out 2; have hfz32_3 := blk_frozen BK280.out 3; have hfz32_4 := blk_frozen BK280.out 4; have hfz32_5 := blk_frozen BK280.out 5) | ((with_reducible refine gate_builtin (b := .append) (xs := #[.tmp 45, .tmp 47]) rfl ?_); (try (refine gate_guard (by rfl) ?_; dsimp only)); at_builtin; refine Kd.R_append k31 (w0 := w) w.heap.size rfl (.tmp 45) (.tmp 47) 22 31 (.agg #[(.int .i64 0), (.int .i64 0), (.int .i64 0), (.int .i64 0), (.int .i64 0), (.int .i64 0)]) 48 rfl Try.underlying22 info31 rfl (by decide) (by omega) v288 y287 (⟨a1_0, (⟨a1_1, a1_2⟩ : S24), a1_3, a1_4, a1_5⟩ : S31) [.int .i64 a1_0, .int .i64 a1_1, .int .i64 a1_2, .int .i64 a1_3, .int .i64 a1_4, .int .i64 a1_5] (fun k_ => k_ ≠ gb280) (fun _ => False) rfl rfl ?aP (fun _ hk => hk.elim) ?aF ?aO ?aB ?aS ?aL ?_; (case aP => exact k31_mkM _ _ _ (⟨a1_0, (⟨a1_1, a1_2⟩ : S24), a1_3, a1_4, a1_5⟩ : S31)); (case aB => exact (by repeat (first | (with_reducible first | exact HB.out | apply bA | apply bN | apply bD | refine bS ?_ GE280.out | refine bS ?_ GE281.out) | exact HB.out))); (case aF => exact (fun k_ hk => Kd.freshB (g := gb280) (o := .cells #[.int .i64 a1_0, .int .i64 a1_1, .int .i64 a1_2, .int .i64 a1_3, .int .i64 a1_4, .int .i64 a1_5] 31 (0, 0)) (by (with_reducible repeat (first | refine kN ?_ _ | refine kD ?_ | refine kA ?_ _)); exact BK280.out) k_ hk)); (case aO => exact (by (with_reducible repeat (first | apply Kd.R_alloc | apply Kd.R_drewN | apply Kd.R_drew)); exact HO289.out)); (case aS => exact (below_size (by repeat (first | (with_reducible first | exact HB.out | apply bA | apply bN | apply bD | refine bS ?_ GE280.out | refine bS ?_ GE281.out) | exact HB.out)))); (case aL => have := LMc22.out; omega); intro v291 w33 ho hb hg hat; rw [← Ny290.out] at ho; have n0_ := Aside0.mk (blk_grown (g := gb280) (o := .cells #[.int .i64 a1_0, .int .i64 a1_1, .int .i64 a1_2, .int .i64 a1_3, .int .i64 a1_4, .int .i64 a1_5] 31 (0, 0)) (by (with_reducible repeat (first | refine kN ?_ _ | refine kD ?_ | refine kA ?_ _)); exact BK280.out) hg (Kd.R_away HO289.out (fun _ hk => hk))); have n1_ := Aside0.mk (blk_grown (g := gb281) (o := .cells #[.int .i64 a3_0, .int .i64 a3_1, .slice A3_2 l3_2.length c3_2, .int .i64 a3_3] 27 (0, 0)) (by (with_reducible repeat (first | refine kN ?_ _ | refine kD ?_ | refine kA ?_ _)); exact BK281.out) hg (Kd.R_ne HO289.out BK281.out (by decide))); have n2_ := Aside0.mk (hb); have n3_ := Aside0.mk (ho); clear BK280; clear BK281; clear HB; clear HO289; have BK280 := n0_; have BK281 := n1_; have HB := n2_; have HO292 := n3_; clear n0_ n1_ n2_ n3_; clear ho hb hg hat) | ((with_reducible refine gate_dst (N := 49) rfl ?_); (try (refine gate_guard (by rfl) ?_; dsimp only)); refine Kd.R_lit k31 _ 31 ?hg (N := 49) ?hd (xs := ([] : List (S31))) (inner := []) (ok := fun _ => True) (okp := fun _ => True) ?hr ?hp (fun _ hk => hk) trivial (Below.refl _ _) (Nat.le_refl _) (by simp) ?_; (case hd => rfl); (case hg => rfl); (case hr => first | (go_simp; done) | (go_simp; rfl)); (case hp => exact (Reps.none _ _)); intro v294 w34 ho35 hb hg_ hnew_; clear hg_ hnew_; (first | rw [← Ny293.out] at ho35 | (simp only [Int.reduceToNat] at ho35; rw [← Ny293.out] at ho35)); have n0_ := Aside0.mk (Kd.R_elder' (by (with_reducible repeat (first | apply Kd.R_alloc | apply Kd.R_drewN | apply Kd.R_drew)); exact HO292.out) (Kd.R_base ho35) hb); have n1_ := Aside0.mk (Kd.R_lower (Kd.R_newB (Kd.R_new' ho35 (Kd.R_lt (by (with_reducible repeat (first | apply Kd.R_alloc | apply Kd.R_drewN | apply Kd.R_drew)); exact HO292.out))) (g := gb280) (o := .cells #[.int .i64 a1_0, .int .i64 a1_1, .int .i64 a1_2, .int .i64 a1_3, .int .i64 a1_4, .int .i64 a1_5] 31 (0, 0)) (by (with_reducible repeat (first | refine kN ?_ _ | refine kD ?_ | refine kA ?_ _)); exact BK280.out)) (below_size (by repeat (first | (with_reducible first | exact HB.out | apply bA | apply bN | apply bD | refine bS ?_ GE280.out | refine bS ?_ GE281.out) | exact HB.out)))); have n2_ := Aside0.mk (blk_below (g := gb280) (o := .cells #[.int .i64 a1_0, .int .i64 a1_1, .int .i64 a1_2, .int .i64 a1_3, .int .i64 a1_4, .int .i64 a1_5] 31 (0, 0)) (by (with_reducible repeat (first | refine kN ?_ _ | refine kD ?_ | refine kA ?_ _)); exact BK280.out) hb); have n3_ := Aside0.mk (blk_below (g := gb281) (o := .cells #[.int .i64 a3_0, .int .i64 a3_1, .slice A3_2 l3_2.length c3_2, .int .i64 a3_3] 27 (0, 0)) (by (with_reducible repeat (first | refine kN ?_ _ | refine kD ?_ | refine kA ?_ _)); exact BK281.out) hb); have n4_ := Aside0.mk (below_step (by repeat (first | (with_reducible first | exact HB.out | apply bA | apply bN | apply bD | refine bS ?_ GE280.out | refine bS ?_ GE281.out) | exact HB.out)) hb); clear HO292; clear BK280; clear BK281; clear HB; have HO292 := n0_; have HO295 := n1_; have BK280 := n2_; have BK281 := n3_; have HB := n4_; clear n0_ n1_ n2_ n3_ n4_; clear hb ho35; obtain ⟨Ao37, co37, eo37⟩ := Kd.R_slice HO292.out; subst eo37) | ((with_reducible refine gate_builtin (b := .append) (xs := #[.tmp 49, .tmp 50]) rfl ?_); (try (refine gate_guard (by rfl) ?_; dsimp only)); at_builtin; refine Kd.R_append_rows k31 (w0 := w) w.heap.size rfl (.tmp 49) (.tmp 50) 22 31 (.agg #[(.int .i64 0), (.int .i64 0), (.int .i64 0), (.int .i64 0), (.int .i64 0), (.int .i64 0)]) 48 rfl Try.underlying22 info31 rfl (by decide) (by omega) v294 y293 y290 _ _ _ (fun k_ => some k_ ≠ (.slice Ao37 y290.length co37 : Value).ownBlock ∧ k_ ≠ gb280) (fun _ => False) rfl rfl ?aO ?aR (fun _ _ h => h) (fun _ h => h.elim) ?aF ?aB ?aS ?aL ?_; (case aR => repeat (first | exact (Kd.R_reads' HO292.out).2.2 | (with_reducible refine Kd.C_alloc ?_ _) | (with_reducible refine Kd.C_drewN ?_ _) | (with_reducible refine Kd.C_drew ?_))); (case aB => exact (by repeat (first | (with_reducible first | exact HB.out | apply bA | apply bN | apply bD | refine bS ?_ GE280.out | refine bS ?_ GE281.out) | exact HB.out))); (case aF => exact (fun k_ hk => ⟨Kd.fresh' (Kd.R_lt (by (with_reducible repeat (first | apply Kd.R_alloc | apply Kd.R_drewN | apply Kd.R_drew)); exact HO292.out)) k_ hk, Kd.freshB (g := gb280) (o := .cells #[.int .i64 a1_0, .int .i64 a1_1, .int .i64 a1_2, .int .i64 a1_3, .int .i64 a1_4, .int .i64 a1_5] 31 (0, 0)) (by (with_reducible repeat (first | refine kN ?_ _ | refine kD ?_ | refine kA ?_ _)); exact BK280.out) k_ hk⟩)); (case aO => exact (by (with_reducible repeat (first | apply Kd.R_alloc | apply Kd.R_drewN | apply Kd.R_drew)); exact Kd.R_mono HO295.out (fun _ hk => ⟨hk.1.2, hk.2⟩))); (case aS => exact (below_size (by repeat (first | (with_reducible first | exact HB.out | apply bA | apply bN | apply bD | refine bS ?_ GE280.out | refine bS ?_ GE281.out) | exact HB.out)))); (case aL => have := LMc23.out; omega); intro v297 w36 ho hb hg hat; rw [← Ny296.out] at ho; have n0_ := Aside0.mk (blk_grown (g := gb280) (o := .cells #[.int .i64 a1_0, .int .i64 a1_1, .int .i64 a1_2, .int .i64 a1_3, .int .i64 a1_4, .int .i64 a1_5] 31 (0, 0)) (by (with_reducible repeat (first | refine kN ?_ _ | refine kD ?_ | refine kA ?_ _)); exact BK280.out) hg (Kd.R_away HO295.out (fun _ hk => hk.2))); have n1_ := Aside0.mk (blk_grown (g := gb281) (o := .cells #[.int .i64 a3_0, .int .i64 a3_1, .slice A3_2 l3_2.length c3_2, .int .i64 a3_3] 27 (0, 0)) (by (with_reducible repeat (first | refine kN ?_ _ | refine kD ?_ | refine kA ?_ _)); exact BK281.out) hg (Kd.R_ne HO295.out BK281.out (by decide))); have n2_ := Aside0.mk (Kd.R_after (ok := (fun k_ => k_ ≠ gb280)) (by (with_reducible repeat (first | apply Kd.R_alloc | apply Kd.R_drewN | apply Kd.R_drew)); exact HO292.out) hg hat); have n3_ := Aside0.mk (hb); have n4_ := Aside0.mk (ho); clear BK280; clear BK281; clear HO292; clear HB; clear HO295; have BK280 := n0_; have BK281 := n1_; have HO292 := n2_; have HB := n3_; have HO298 := n4_; clear n0_ n1_ n2_ n3_ n4_; clear ho hb hg hat) | ((with_reducible refine gate_builtin (b := .append) (xs := #[.tmp 52, .tmp 53]) rfl ?_); (try (refine gate_guard (by rfl) ?_; dsimp only)); at_builtin; refine Kd.R_append_rows k31 (w0 := w) w.heap.size rfl (.tmp 52) (.tmp 53) 22 31 (.agg #[(.int .i64 0), (.int .i64 0), (.int .i64 0), (.int .i64 0), (.int .i64 0), (.int .i64 0)]) 48 rfl Try.underlying22 info31 rfl (by decide) (by omega) v297 y296 l2 _ _ _ (fun k_ => some k_ ≠ (.slice Ao37 y290.length co37 : Value).ownBlock ∧ k_ ≠ gb280) (fun _ => False) rfl rfl ?aO ?aR (fun _ _ h => h) (fun _ h => h.elim) ?aF ?aB ?aS ?aL ?_; (case aR => repeat (first | exact (Kd.C_below HR2.out HB.out) | (with_reducible refine Kd.C_alloc ?_ _) | (with_reducible refine Kd.C_drewN ?_ _) | (with_reducible refine Kd.C_drew ?_))); (case aB => exact (by repeat (first | (with_reducible first | exact HB.out | apply bA | apply bN | apply bD | refine bS ?_ GE280.out | refine bS ?_ GE281.out) | exact HB.out))); (case aF => exact (fun k_ hk => ⟨Kd.fresh' (Kd.R_lt (by (with_reducible repeat (first | apply Kd.R_alloc | apply Kd.R_drewN | apply Kd.R_drew)); exact HO292.out)) k_ hk, Kd.freshB (g := gb280) (o := .cells #[.int .i64 a1_0, .int .i64 a1_1, .int .i64 a1_2, .int .i64 a1_3, .int .i64 a1_4, .int .i64 a1_5] 31 (0, 0)) (by (with_reducible repeat (first | refine kN ?_ _ | refine kD ?_ | refine kA ?_ _)); exact BK280.out) k_ hk⟩)); (case aO => exact (by (with_reducible repeat (first | apply Kd.R_alloc | apply Kd.R_drewN | apply Kd.R_drew)); exact HO298.out)); (case aS => exact (below_size (by repeat (first | (with_reducible first | exact HB.out | apply bA | apply bN | apply bD | refine bS ?_ GE280.out | refine bS ?_ GE281.out) | exact HB.out)))); (case aL => have := LMc24.out; omega); intro v300 w38 ho hb hg hat; rw [← Ny299.out] at ho; have n0_ := Aside0.mk (blk_grown (g := gb280) (o := .cells #[.int .i64 a1_0, .int .i64 a1_1, .int .i64 a1_2, .int .i64 a1_3, .int .i64 a1_4, .int .i64 a1_5] 31 (0, 0)) (by (with_reducible repeat (first | refine kN ?_ _ | refine kD ?_ | refine kA ?_ _)); exact BK280.out) hg (Kd.R_away HO298.out (fun _ hk => hk.2))); have n1_ := Aside0.mk (blk_grown (g := gb281) (o := .cells #[.int .i64 a3_0, .int .i64 a3_1, .slice A3_2 l3_2.length c3_2, .int .i64 a3_3] 27 (0, 0)) (by (with_reducible repeat (first | refine kN ?_ _ | refine kD ?_ | refine kA ?_ _)); exact BK281.out) hg (Kd.R_ne HO298.out BK281.out (by decide))); have n2_ := Aside0.mk (Kd.R_after (ok := (fun k_ => k_ ≠ gb280)) (by (with_reducible repeat (first | apply Kd.R_alloc | apply Kd.R_drewN | apply Kd.R_drew)); exact HO292.out) hg hat); have n3_ := Aside0.mk (hb); have n4_ := Aside0.mk (ho); clear BK280; clear BK281; clear HO292; clear HB; clear HO298; have BK280 := n0_; have BK281 := n1_; have HO292 := n2_; have HB := n3_; have HO301 := n4_; clear n0_ n1_ n2_ n3_ n4_; clear ho hb hg hat; have hcz39_0 : w38.cell? ⟨gb281, 0, none⟩ = some (.int .i64 a3_0) := (blk_cell BK281.out 0).trans rfl; have hcz39_1 : w38.cell? ⟨gb281, 1, none⟩ = some (.int .i64 a3_1) := (blk_cell BK281.out 1).trans rfl; have hcz39_2 : w38.cell? ⟨gb281, 2, none⟩ = some (.slice A3_2 l3_2.length c3_2) := (blk_cell BK281.out 2).trans rfl; have hcz39_3 : w38.cell? ⟨gb281, 3, none⟩ = some (.int .i64 a3_3) := (blk_cell BK281.out 3).trans rfl; have hfz39_0 := blk_frozen BK281.out 0; have hfz39_1 := blk_frozen BK281.out 1; have hfz39_2 := blk_frozen BK281.out 2; have hfz39_3 := blk_frozen BK281.out 3) | ((with_reducible refine gate_callee (f := 15) rfl ?_); refine goesL_ (some 58) rfl rfl Try.func15 (by kernel_rfl) rfl #[.slice Ao37 y290.length co37, .agg #[.int .i64 a3_0, .int .i64 a3_1, .slice A3_2 l3_2.length c3_2, .int .i64 a3_3]] rfl (by (try simp only [List.map_toArray, List.map_cons, List.map_nil]); first | done | rfl | (simp only [List.length_drop, List.length_take]; rfl)) ?_; (with_reducible refine (policy_Pick.calls kj5 _ _ y290 a3_0 a3_1 _ _ l3_2 a3_3 t302 t303 t304 t305 t306 t307 t308 _ ?side1 ?side2 ?side3 ?side4 A25.out).mono ?_); (case side1 => repeat (first | exact (Kd.R_reads' HO292.out).2.2 | (with_reducible refine Kd.C_alloc ?_ _) | (with_reducible refine Kd.C_drewN ?_ _) | (with_reducible refine Kd.C_drew ?_))); (case side2 => exact (Kd.R_reads' HO292.out).2.1); (case side3 => repeat (first | exact (Kd.C_below HR3_2.out HB.out) | (with_reducible refine Kd.C_alloc ?_ _) | (with_reducible refine Kd.C_drewN ?_ _) | (with_reducible refine Kd.C_drew ?_))); (case side4 => exact HC3_2.out); rintro e w40 ⟨rfl, hb⟩; refine ⟨_, rfl, ?_⟩; have n0_ := Aside0.mk (Kd.R_below (by (with_reducible repeat (first | apply Kd.R_alloc | apply Kd.R_drewN | apply Kd.R_drew)); exact HO292.out) hb); have n1_ := Aside0.mk (Kd.R_below (by (with_reducible repeat (first | apply Kd.R_alloc | apply Kd.R_drewN | apply Kd.R_drew)); exact HO301.out) hb); have n2_ := Aside0.mk (blk_below (g := gb280) (o := .cells #[.int .i64 a1_0, .int .i64 a1_1, .int .i64 a1_2, .int .i64 a1_3, .int .i64 a1_4, .int .i64 a1_5] 31 (0, 0)) (by (with_reducible repeat (first | refine kN ?_ _ | refine kD ?_ | refine kA ?_ _)); exact BK280.out) hb); have n3_ := Aside0.mk (blk_below (g := gb281) (o := .cells #[.int .i64 a3_0, .int .i64 a3_1, .slice A3_2 l3_2.length c3_2, .int .i64 a3_3] 27 (0, 0)) (by (with_reducible repeat (first | refine kN ?_ _ | refine kD ?_ | refine kA ?_ _)); exact BK281.out) hb); have n4_ := Aside0.mk (below_step (by repeat (first | (with_reducible first | exact HB.out | apply bA | apply bN | apply bD | refine bS ?_ GE280.out | refine bS ?_ GE281.out) | exact HB.out)) hb); clear HO292; clear HO301; clear BK280; clear BK281; clear HB; have HO292 := n0_; have HO301 := n1_; have BK280 := n2_; have BK281 := n3_; have HB := n4_; clear n0_ n1_ n2_ n3_ n4_; (try clear hb); (try clear hb2); (try clear hk); (try clear hi)) | ((with_reducible refine gate_dst (N := 12) rfl ?_); (try (refine gate_guard (by rfl) ?_; dsimp only)); refine box_event ?hg (N := 12) ?hd (cs := #[.int .i64 0, .int .i64 0, .int .i64 0, .int .i64 0, .int .i64 0, .int .i64 0]) (t := 31) ?hr ?_; (case hd => rfl); (case hg => rfl); (case hr => first | (go_simp; done) | (go_simp; rfl)); intro gb309 hg w41 hbox hb; have n0_ := Aside0.mk (Kd.R_below (Kd.R_elderB (by (with_reducible repeat (first | apply Kd.R_alloc | apply Kd.R_drewN | apply Kd.R_drew)); exact HO292.out) gb309 (Nat.le_of_eq hg.symm)) hb); have n1_ := Aside0.mk (Kd.R_below (Kd.R_elderB (by (with_reducible repeat (first | apply Kd.R_alloc | apply Kd.R_drewN | apply Kd.R_drew)); exact HO301.out) gb309 (Nat.le_of_eq hg.symm)) hb); have n2_ := Aside0.mk (blk_below (g := gb280) (o := .cells #[.int .i64 a1_0, .int .i64 a1_1, .int .i64 a1_2, .int .i64 a1_3, .int .i64 a1_4, .int .i64 a1_5] 31 (0, 0)) (by (with_reducible repeat (first | refine kN ?_ _ | refine kD ?_ | refine kA ?_ _)); exact BK280.out) hb); have n3_ := Aside0.mk (blk_below (g := gb281) (o := .cells #[.int .i64 a3_0, .int .i64 a3_1, .slice A3_2 l3_2.length c3_2, .int .i64 a3_3] 27 (0, 0)) (by (with_reducible repeat (first | refine kN ?_ _ | refine kD ?_ | refine kA ?_ _)); exact BK281.out) hb); have n4_ := Aside0.mk (below_step (by repeat (first | (with_reducible first | exact HB.out | apply bA | apply bN | apply bD | refine bS ?_ GE280.out | refine bS ?_ GE281.out) | exact HB.out)) hb); have n5_ := Aside0.mk (hbox); have n6_ := Aside0.mk ((by rw [hg]; exact (below_size (by repeat (first | (with_reducible first | exact HB.out | apply bA | apply bN | apply bD | refine bS ?_ GE280.out | refine bS ?_ GE281.out) | exact HB.out))) : w.heap.size ≤ gb309)); have n7_ := Aside0.mk ((by rw [hg]; exact (below_size (by repeat (first | (with_reducible first | exact HB.out | apply bA | apply bN | apply bD | refine bS ?_ GE280.out | refine bS ?_ GE281.out) | exact HB.out))) : w.heap.size ≤ gb309)); have n8_ := Aside0.mk ((by rw [hg]; exact Nat.ne_of_lt (blk_lt (g := gb280) (o := .cells #[.int .i64 a1_0, .int .i64 a1_1, .int .i64 a1_2, .int .i64 a1_3, .int .i64 a1_4, .int .i64 a1_5] 31 (0, 0)) (by (with_reducible repeat (first | refine kN ?_ _ | refine kD ?_ | refine kA ?_ _)); exact BK280.out)) : gb280 ≠ gb309)); have n9_ := Aside0.mk ((by rw [hg]; exact Nat.ne_of_gt (blk_lt (g := gb280) (o := .cells #[.int .i64 a1_0, .int .i64 a1_1, .int .i64 a1_2, .int .i64 a1_3, .int .i64 a1_4, .int .i64 a1_5] 31 (0, 0)) (by (with_reducible repeat (first | refine kN ?_ _ | refine kD ?_ | refine kA ?_ _)); exact BK280.out)) : gb309 ≠ gb280)); have n10_ := Aside0.mk ((by rw [hg]; exact Nat.ne_of_lt (blk_lt (g := gb281) (o := .cells #[.int .i64 a3_0, .int .i64 a3_1, .slice A3_2 l3_2.length c3_2, .int .i64 a3_3] 27 (0, 0)) (by (with_reducible repeat (first | refine kN ?_ _ | refine kD ?_ | refine kA ?_ _)); exact BK281.out)) : gb281 ≠ gb309)); have n11_ := Aside0.mk ((by rw [hg]; exact Nat.ne_of_gt (blk_lt (g := gb281) (o := .cells #[.int .i64 a3_0, .int .i64 a3_1, .slice A3_2 l3_2.length c3_2, .int .i64 a3_3] 27 (0, 0)) (by (with_reducible repeat (first | refine kN ?_ _ | refine kD ?_ | refine kA ?_ _)); exact BK281.out)) : gb309 ≠ gb281)); clear HO292; clear HO301; clear BK280; clear BK281; clear HB; have HO292 := n0_; have HO301 := n1_; have BK280 := n2_; have BK281 := n3_; have HB := n4_; have BK309 := n5_; have GW309 := n6_; have GE309 := n7_; have NB280_309 := n8_; have NB309_280 := n9_; have NB281_309 := n10_; have NB309_281 := n11_; clear n0_ n1_ n2_ n3_ n4_ n5_ n6_ n7_ n8_ n9_ n10_ n11_; clear hb hbox hg; have hnb42 := NB309_280.out; have hnc42 := NB280_309.out; have hnb43 := NB309_281.out; have hnc43 := NB281_309.out; have hcz44_0 : w41.cell? ⟨gb309, 0, none⟩ = some (.int .i64 0) := (blk_cell BK309.out 0).trans rfl; have hcz44_1 : w41.cell? ⟨gb309, 1, none⟩ = some (.int .i64 0) := (blk_cell BK309.out 1).trans rfl; have hcz44_2 : w41.cell? ⟨gb309, 2, none⟩ = some (.int .i64 0) := (blk_cell BK309.out 2).trans rfl; have hcz44_3 : w41.cell? ⟨gb309, 3, none⟩ = some (.int .i64 0) := (blk_cell BK309.out 3).trans rfl; have hcz44_4 : w41.cell? ⟨gb309, 4, none⟩ = some (.int .i64 0) := (blk_cell BK309.out 4).trans rfl; have hcz44_5 : w41.cell? ⟨gb309, 5, none⟩ = some (.int .i64 0) := (blk_cell BK309.out 5).trans rfl; have hfz44_0 := blk_frozen BK309.out 0; have hfz44_1 := blk_frozen BK309.out 1; have hfz44_2 := blk_frozen BK309.out 2; have hfz44_3 := blk_frozen BK309.out 3; have hfz44_4 := blk_frozen BK309.out 4; have hfz44_5 := blk_frozen BK309.out 5; have hcz45_0 : w41.cell? ⟨gb281, 0, none⟩ = some (.int .i64 a3_0) := (blk_cell BK281.out 0).trans rfl; have hcz45_1 : w41.cell? ⟨gb281, 1, none⟩ = some (.int .i64 a3_1) := (blk_cell BK281.out 1).trans rfl; have hcz45_2 : w41.cell? ⟨gb281, 2, none⟩ = some (.slice A3_2 l3_2.length c3_2) := (blk_cell BK281.out 2).trans rfl; have hcz45_3 : w41.cell? ⟨gb281, 3, none⟩ = some (.int .i64 a3_3) := (blk_cell BK281.out 3).trans rfl; have hfz45_0 := blk_frozen BK281.out 0; have hfz45_1 := blk_frozen BK281.out 1; have hfz45_2 := blk_frozen BK281.out 2; have hfz45_3 := blk_frozen BK281.out 3; obtain ⟨Ao46, co46, eo46⟩ := Kd.R_slice HO301.out; subst eo46) | ((with_reducible refine gate_callee (f := 15) rfl ?_); refine goesL_ (some 64) rfl rfl Try.func15 (by kernel_rfl) rfl #[.slice Ao46 y299.length co46, .agg #[.int .i64 a3_0, .int .i64 a3_1, .slice A3_2 l3_2.length c3_2, .int .i64 a3_3]] rfl (by (try simp only [List.map_toArray, List.map_cons, List.map_nil]); first | done | rfl | (simp only [List.length_drop, List.length_take]; rfl)) ?_; (with_reducible refine (policy_Pick.calls kj5 _ _ y299 a3_0 a3_1 _ _ l3_2 a3_3 t310 t311 t312 t313 t314 t315 t316 _ ?side1 ?side2 ?side3 ?side4 A26.out).mono ?_); (case side1 => refine (Kd.R_reads' (e := 31) (base := w.heap.size) (ok := fun k_ => ((some k_ ≠ (.slice Ao37 y290.length co37 : Value).ownBlock ∧ k_ ≠ gb280) ∧ k_ ≠ gb309)) (n := y299.length) (c := co46) ?_).2.2; exact (by (with_reducible repeat (first | apply Kd.R_alloc | apply Kd.R_drewN | apply Kd.R_drew)); exact (Kd.R_mono (Kd.R_far (p := ⟨gb309, 5, none⟩) (Kd.R_far (p := ⟨gb309, 4, none⟩) (Kd.R_far (p := ⟨gb309, 3, none⟩) (Kd.R_far (p := ⟨gb309, 2, none⟩) (Kd.R_far (p := ⟨gb309, 1, none⟩) (Kd.R_far (p := ⟨gb309, 0, none⟩) (Kd.R_mono HO301.out (fun k_ hk => (⟨hk, hk.2⟩ : _ ∧ k_ ≠ gb309))) (fun _ hk => hk.2) (.int .i64 t302)) (fun _ hk => hk.2) (.int .i64 t303)) (fun _ hk => hk.2) (.int .i64 t304)) (fun _ hk => hk.2) (.int .i64 t305)) (fun _ hk => hk.2) (.int .i64 t306)) (fun _ hk => hk.2) (.int .i64 t307)) (fun _ h_ => h_.1)))); (case side2 => exact (Kd.R_reads' HO301.out).2.1); (case side3 => exact Kd.C_below HR3_2.out (by repeat (first | (with_reducible first | exact HB.out | apply bA | apply bN | apply bD | refine bS ?_ GE280.out | refine bS ?_ GE281.out | refine bS ?_ GE309.out) | exact HB.out))); (case side4 => exact HC3_2.out); rintro e w47 ⟨rfl, hb⟩; refine ⟨_, rfl, ?_⟩; have n0_ := Aside0.mk (Kd.R_below (by (with_reducible repeat (first | apply Kd.R_alloc | apply Kd.R_drewN | apply Kd.R_drew)); exact (Kd.R_mono (Kd.R_far (p := ⟨gb309, 5, none⟩) (Kd.R_far (p := ⟨gb309, 4, none⟩) (Kd.R_far (p := ⟨gb309, 3, none⟩) (Kd.R_far (p := ⟨gb309, 2, none⟩) (Kd.R_far (p := ⟨gb309, 1, none⟩) (Kd.R_far (p := ⟨gb309, 0, none⟩) (Kd.R_mono HO292.out (fun k_ hk => (⟨hk, hk.2⟩ : _ ∧ k_ ≠ gb309))) (fun _ hk => hk.2) (.int .i64 t302)) (fun _ hk => hk.2) (.int .i64 t303)) (fun _ hk => hk.2) (.int .i64 t304)) (fun _ hk => hk.2) (.int .i64 t305)) (fun _ hk => hk.2) (.int .i64 t306)) (fun _ hk => hk.2) (.int .i64 t307)) (fun _ h_ => h_.1))) hb); have n1_ := Aside0.mk (Kd.R_below (by (with_reducible repeat (first | apply Kd.R_alloc | apply Kd.R_drewN | apply Kd.R_drew)); exact (Kd.R_mono (Kd.R_far (p := ⟨gb309, 5, none⟩) (Kd.R_far (p := ⟨gb309, 4, none⟩) (Kd.R_far (p := ⟨gb309, 3, none⟩) (Kd.R_far (p := ⟨gb309, 2, none⟩) (Kd.R_far (p := ⟨gb309, 1, none⟩) (Kd.R_far (p := ⟨gb309, 0, none⟩) (Kd.R_mono HO301.out (fun k_ hk => (⟨hk, hk.2⟩ : _ ∧ k_ ≠ gb309))) (fun _ hk => hk.2) (.int .i64 t302)) (fun _ hk => hk.2) (.int .i64 t303)) (fun _ hk => hk.2) (.int .i64 t304)) (fun _ hk => hk.2) (.int .i64 t305)) (fun _ hk => hk.2) (.int .i64 t306)) (fun _ hk => hk.2) (.int .i64 t307)) (fun _ h_ => h_.1))) hb); have n2_ := Aside0.mk (blk_below (g := gb280) (o := .cells #[.int .i64 a1_0, .int .i64 a1_1, .int .i64 a1_2, .int .i64 a1_3, .int .i64 a1_4, .int .i64 a1_5] 31 (0, 0)) (by (with_reducible repeat (first | refine kN ?_ _ | refine kD ?_ | refine kA ?_ _)); refine blk_far ?_ NB280_309.out _; (with_reducible repeat (first | refine kN ?_ _ | refine kD ?_ | refine kA ?_ _)); refine blk_far ?_ NB280_309.out _; (with_reducible repeat (first | refine kN ?_ _ | refine kD ?_ | refine kA ?_ _)); refine blk_far ?_ NB280_309.out _; (with_reducible repeat (first | refine kN ?_ _ | refine kD ?_ | refine kA ?_ _)); refine blk_far ?_ NB280_309.out _; (with_reducible repeat (first | refine kN ?_ _ | refine kD ?_ | refine kA ?_ _)); refine blk_far ?_ NB280_309.out _; (with_reducible repeat (first | refine kN ?_ _ | refine kD ?_ | refine kA ?_ _)); refine blk_far ?_ NB280_309.out _; (with_reducible repeat (first | refine kN ?_ _ | refine kD ?_ | refine kA ?_ _)); exact BK280.out) hb); have n3_ := Aside0.mk (blk_below (g := gb281) (o := .cells #[.int .i64 a3_0, .int .i64 a3_1, .slice A3_2 l3_2.length c3_2, .int .i64 a3_3] 27 (0, 0)) (by (with_reducible repeat (first | refine kN ?_ _ | refine kD ?_ | refine kA ?_ _)); refine blk_far ?_ NB281_309.out _; (with_reducible repeat (first | refine kN ?_ _ | refine kD ?_ | refine kA ?_ _)); refine blk_far ?_ NB281_309.out _; (with_reducible repeat (first | refine kN ?_ _ | refine kD ?_ | refine kA ?_ _)); refine blk_far ?_ NB281_309.out _; (with_reducible repeat (first | refine kN ?_ _ | refine kD ?_ | refine kA ?_ _)); refine blk_far ?_ NB281_309.out _; (with_reducible repeat (first | refine kN ?_ _ | refine kD ?_ | refine kA ?_ _)); refine blk_far ?_ NB281_309.out _; (with_reducible repeat (first | refine kN ?_ _ | refine kD ?_ | refine kA ?_ _)); refine blk_far ?_ NB281_309.out _; (with_reducible repeat (first | refine kN ?_ _ | refine kD ?_ | refine kA ?_ _)); exact BK281.out) hb); have n4_ := Aside0.mk (blk_below (g := gb309) (o := .cells #[.int .i64 t302, .int .i64 t303, .int .i64 t304, .int .i64 t305, .int .i64 t306, .int .i64 t307] 31 (0, 0)) (by (with_reducible repeat (first | refine kN ?_ _ | refine kD ?_ | refine kA ?_ _)); refine blk_put (cs := #[.int .i64 t302, .int .i64 t303, .int .i64 t304, .int .i64 t305, .int .i64 t306, .int .i64 0]) ?_ 5 _ rfl; (with_reducible repeat (first | refine kN ?_ _ | refine kD ?_ | refine kA ?_ _)); refine blk_put (cs := #[.int .i64 t302, .int .i64 t303, .int .i64 t304, .int .i64 t305, .int .i64 0, .int .i64 0]) ?_ 4 _ rfl; (with_reducible repeat (first | refine kN ?_ _ | refine kD ?_ | refine kA ?_ _)); refine blk_put (cs := #[.int .i64 t302, .int .i64 t303, .int .i64 t304, .int .i64 0, .int .i64 0, .int .i64 0]) ?_ 3 _ rfl; (with_reducible repeat (first | refine kN ?_ _ | refine kD ?_ | refine kA ?_ _)); refine blk_put (cs := #[.int .i64 t302, .int .i64 t303, .int .i64 0, .int .i64 0, .int .i64 0, .int .i64 0]) ?_ 2 _ rfl; (with_reducible repeat (first | refine kN ?_ _ | refine kD ?_ | refine kA ?_ _)); refine blk_put (cs := #[.int .i64 t302, .int .i64 0, .int .i64 0, .int .i64 0, .int .i64 0, .int .i64 0]) ?_ 1 _ rfl; (with_reducible repeat (first | refine kN ?_ _ | refine kD ?_ | refine kA ?_ _)); refine blk_put (cs := #[.int .i64 0, .int .i64 0, .int .i64 0, .int .i64 0, .int .i64 0, .int .i64 0]) ?_ 0 _ rfl; (with_reducible repeat (first | refine kN ?_ _ | refine kD ?_ | refine kA ?_ _)); exact BK309.out) hb); have n5_ := Aside0.mk (below_step (by repeat (first | (with_reducible first | exact HB.out | apply bA | apply bN | apply bD | refine bS ?_ GE280.out | refine bS ?_ GE281.out | refine bS ?_ GE309.out) | exact HB.out)) hb); clear HO292; clear HO301; clear BK280; clear BK281; clear BK309; clear HB; have HO292 := n0_; have HO301 := n1_; have BK280 := n2_; have BK281 := n3_; have BK309 := n4_; have HB := n5_; clear n0_ n1_ n2_ n3_ n4_ n5_; (try clear hb); (try clear hb2); (try clear hk); (try clear hi)) | ((with_reducible refine gate_dst (N := 14) rfl ?_); (try (refine gate_guard (by rfl) ?_; dsimp only)); refine box_event ?hg (N := 14) ?hd (cs := #[.int .i64 0, .int .i64 0, .int .i64 0, .int .i64 0, .int .i64 0, .int .i64 0]) (t := 31) ?hr ?_; (case hd => rfl); (case hg => rfl); (case hr => first | (go_simp; done) | (go_simp; rfl)); intro gb317 hg w48 hbox hb; have n0_ := Aside0.mk (Kd.R_below (Kd.R_elderB (by (with_reducible repeat (first | apply Kd.R_alloc | apply Kd.R_drewN | apply Kd.R_drew)); exact HO292.out) gb317 (Nat.le_of_eq hg.symm)) hb); have n1_ := Aside0.mk (Kd.R_below (Kd.R_elderB (by (with_reducible repeat (first | apply Kd.R_alloc | apply Kd.R_drewN | apply Kd.R_drew)); exact HO301.out) gb317 (Nat.le_of_eq hg.symm)) hb); have n2_ := Aside0.mk (blk_below (g := gb280) (o := .cells #[.int .i64 a1_0, .int .i64 a1_1, .int .i64 a1_2, .int .i64 a1_3, .int .i64 a1_4, .int .i64 a1_5] 31 (0, 0)) (by (with_reducible repeat (first | refine kN ?_ _ | refine kD ?_ | refine kA ?_ _)); exact BK280.out) hb); have n3_ := Aside0.mk (blk_below (g := gb281) (o := .cells #[.int .i64 a3_0, .int .i64 a3_1, .slice A3_2 l3_2.length c3_2, .int .i64 a3_3] 27 (0, 0)) (by (with_reducible repeat (first | refine kN ?_ _ | refine kD ?_ | refine kA ?_ _)); exact BK281.out) hb); have n4_ := Aside0.mk (blk_below (g := gb309) (o := .cells #[.int .i64 t302, .int .i64 t303, .int .i64 t304, .int .i64 t305, .int .i64 t306, .int .i64 t307] 31 (0, 0)) (by (with_reducible repeat (first | refine kN ?_ _ | refine kD ?_ | refine kA ?_ _)); exact BK309.out) hb); have n5_ := Aside0.mk (below_step (by repeat (first | (with_reducible first | exact HB.out | apply bA | apply bN | apply bD | refine bS ?_ GE280.out | refine bS ?_ GE281.out | refine bS ?_ GE309.out) | exact HB.out)) hb); have n6_ := Aside0.mk (hbox); have n7_ := Aside0.mk ((by rw [hg]; exact (below_size (by repeat (first | (with_reducible first | exact HB.out | apply bA | apply bN | apply bD | refine bS ?_ GE280.out | refine bS ?_ GE281.out | refine bS ?_ GE309.out) | exact HB.out))) : w.heap.size ≤ gb317)); have n8_ := Aside0.mk ((by rw [hg]; exact (below_size (by repeat (first | (with_reducible first | exact HB.out | apply bA | apply bN | apply bD | refine bS ?_ GE280.out | refine bS ?_ GE281.out | refine bS ?_ GE309.out) | exact HB.out))) : w.heap.size ≤ gb317)); have n9_ := Aside0.mk ((by rw [hg]; exact Nat.ne_of_lt (blk_lt (g := gb280) (o := .cells #[.int .i64 a1_0, .int .i64 a1_1, .int .i64 a1_2, .int .i64 a1_3, .int .i64 a1_4, .int .i64 a1_5] 31 (0, 0)) (by (with_reducible repeat (first | refine kN ?_ _ | refine kD ?_ | refine kA ?_ _)); exact BK280.out)) : gb280 ≠ gb317)); have n10_ := Aside0.mk ((by rw [hg]; exact Nat.ne_of_gt (blk_lt (g := gb280) (o := .cells #[.int .i64 a1_0, .int .i64 a1_1, .int .i64 a1_2, .int .i64 a1_3, .int .i64 a1_4, .int .i64 a1_5] 31 (0, 0)) (by (with_reducible repeat (first | refine kN ?_ _ | refine kD ?_ | refine kA ?_ _)); exact BK280.out)) : gb317 ≠ gb280)); have n11_ := Aside0.mk ((by rw [hg]; exact Nat.ne_of_lt (blk_lt (g := gb281) (o := .cells #[.int .i64 a3_0, .int .i64 a3_1, .slice A3_2 l3_2.length c3_2, .int .i64 a3_3] 27 (0, 0)) (by (with_reducible repeat (first | refine kN ?_ _ | refine kD ?_ | refine kA ?_ _)); exact BK281.out)) : gb281 ≠ gb317)); have n12_ := Aside0.mk ((by rw [hg]; exact Nat.ne_of_gt (blk_lt (g := gb281) (o := .cells #[.int .i64 a3_0, .int .i64 a3_1, .slice A3_2 l3_2.length c3_2, .int .i64 a3_3] 27 (0, 0)) (by (with_reducible repeat (first | refine kN ?_ _ | refine kD ?_ | refine kA ?_ _)); exact BK281.out)) : gb317 ≠ gb281)); have n13_ := Aside0.mk ((by rw [hg]; exact Nat.ne_of_lt (blk_lt (g := gb309) (o := .cells #[.int .i64 t302, .int .i64 t303, .int .i64 t304, .int .i64 t305, .int .i64 t306, .int .i64 t307] 31 (0, 0)) (by (with_reducible repeat (first | refine kN ?_ _ | refine kD ?_ | refine kA ?_ _)); exact BK309.out)) : gb309 ≠ gb317)); have n14_ := Aside0.mk ((by rw [hg]; exact Nat.ne_of_gt (blk_lt (g := gb309) (o := .cells #[.int .i64 t302, .int .i64 t303, .int .i64 t304, .int .i64 t305, .int .i64 t306, .int .i64 t307] 31 (0, 0)) (by (with_reducible repeat (first | refine kN ?_ _ | refine kD ?_ | refine kA ?_ _)); exact BK309.out)) : gb317 ≠ gb309)); clear HO292; clear HO301; clear BK280; clear BK281; clear BK309; clear HB; have HO292 := n0_; have HO301 := n1_; have BK280 := n2_; have BK281 := n3_; have BK309 := n4_; have HB := n5_; have BK317 := n6_; have GW317 := n7_; have GE317 := n8_; have NB280_317 := n9_; have NB317_280 := n10_; have NB281_317 := n11_; have NB317_281 := n12_; have NB309_317 := n13_; have NB317_309 := n14_; clear n0_ n1_ n2_ n3_ n4_ n5_ n6_ n7_ n8_ n9_ n10_ n11_ n12_ n13_ n14_; clear hb hbox hg; have hnb49 := NB317_280.out; have hnc49 := NB280_317.out; have hnb50 := NB317_281.out; have hnc50 := NB281_317.out; have hnb51 := NB317_309.out; have hnc51 := NB309_317.out; have hcz52_0 : w48.cell? ⟨gb317, 0, none⟩ = some (.int .i64 0) := (blk_cell BK317.out 0).trans rfl; have hcz52_1 : w48.cell? ⟨gb317, 1, none⟩ = some (.int .i64 0) := (blk_cell BK317.out 1).trans rfl; have hcz52_2 : w48.cell? ⟨gb317, 2, none⟩ = some (.int .i64 0) := (blk_cell BK317.out 2).trans rfl; have hcz52_3 : w48.cell? ⟨gb317, 3, none⟩ = some (.int .i64 0) := (blk_cell BK317.out 3).trans rfl; have hcz52_4 : w48.cell? ⟨gb317, 4, none⟩ = some (.int .i64 0) := (blk_cell BK317.out 4).trans rfl; have hcz52_5 : w48.cell? ⟨gb317, 5, none⟩ = some (.int .i64 0) := (blk_cell BK317.out 5).trans rfl; have hfz52_0 := blk_frozen BK317.out 0; have hfz52_1 := blk_frozen BK317.out 1; have hfz52_2 := blk_frozen BK317.out 2; have hfz52_3 := blk_frozen BK317.out 3; have hfz52_4 := blk_frozen BK317.out 4; have hfz52_5 := blk_frozen BK317.out 5))
        (try simp only [Act.put, sA, sB, sC])
        go_cut [90] (fun v90 wc => ∃ (kq : Nat) (x90_26 : Bool), v90 = .bool x90_26 ∧ Aside0 (ridgewaylaw10_PolicyBehind.j1 kq l2 t282 y290 x90_26 a3_0 a3_1 l3_2 a3_3 t302 t303 t304 t305 t306 t307 = some true) ∧ Aside0 (kq ≤ kj5) ∧ Aside0 (Kd.R k31 31 wc w.heap.size (fun k_ => k_ ≠ gb280 ∧ k_ ≠ gb309 ∧ k_ ≠ gb317) (.slice Ao37 y290.length co37) y290) ∧ Aside0 (wc.heap[gb280]? = some (.cells #[.int .i64 a1_0, .int .i64 a1_1, .int .i64 a1_2, .int .i64 a1_3, .int .i64 a1_4, .int .i64 a1_5] 31 (0, 0))) ∧ Aside0 (wc.heap[gb281]? = some (.cells #[.int .i64 a3_0, .int .i64 a3_1, (.slice A3_2 l3_2.length c3_2), .int .i64 a3_3] 27 (0, 0))) ∧ Aside0 (wc.heap[gb309]? = some (.cells #[.int .i64 t302, .int .i64 t303, .int .i64 t304, .int .i64 t305, .int .i64 t306, .int .i64 t307] 31 (0, 0))) ∧ Aside0 (wc.heap[gb317]? = some (.cells #[.int .i64 t310, .int .i64 t311, .int .i64 t312, .int .i64 t313, .int .i64 t314, .int .i64 t315] 31 (0, 0))) ∧ Aside0 (Below w.heap.size w wc))
        case first =>
         have H := HC27.out
         clear HC27
         by_cases c53 : t308 = true
         ·
          subst c53
          have H1 : (if t316 = true then (if (!(t302 == t310) || ((!(t303 == t311) || (!(t304 == t312))) || (!(t305 == t313) || (!(t306 == t314) || (!(t307 == t315)))))) = true then (ridgewaylaw10_PolicyBehind.j1 kj5 l2 t282 y290 true a3_0 a3_1 l3_2 a3_3 t302 t303 t304 t305 t306 t307) else ((policy_Reach.f y299 a3_3).bind fun t318 => ((policy_Reach.f y290 a3_3).bind fun t321 => (ridgewaylaw10_PolicyBehind.j1 kj5 l2 t282 y290 ((t318.length : Int) != (t321.length : Int)) a3_0 a3_1 l3_2 a3_3 t302 t303 t304 t305 t306 t307)))) else (ridgewaylaw10_PolicyBehind.j1 kj5 l2 t282 y290 true a3_0 a3_1 l3_2 a3_3 t302 t303 t304 t305 t306 t307)) = some true := by rw [if_pos rfl] at H; first | done | exact H
          clear H
          have H := H1
          clear H1
          by_cases c54 : t316 = true
          ·
           subst c54
           have H1 : (if (!(t302 == t310) || ((!(t303 == t311) || (!(t304 == t312))) || (!(t305 == t313) || (!(t306 == t314) || (!(t307 == t315)))))) = true then (ridgewaylaw10_PolicyBehind.j1 kj5 l2 t282 y290 true a3_0 a3_1 l3_2 a3_3 t302 t303 t304 t305 t306 t307) else ((policy_Reach.f y299 a3_3).bind fun t318 => ((policy_Reach.f y290 a3_3).bind fun t321 => (ridgewaylaw10_PolicyBehind.j1 kj5 l2 t282 y290 ((t318.length : Int) != (t321.length : Int)) a3_0 a3_1 l3_2 a3_3 t302 t303 t304 t305 t306 t307)))) = some true := by rw [if_pos rfl] at H; first | done | exact H
           clear H
           have H := H1
           clear H1
           by_cases c55 : (!(t302 == t310) || ((!(t303 == t311) || (!(t304 == t312))) || (!(t305 == t313) || (!(t306 == t314) || (!(t307 == t315)))))) = true
           ·
            rw [if_pos c55] at H
            have c55b0 : (!(t302 == t310) || ((!(t303 == t311) || (!(t304 == t312))) || (!(t305 == t313) || (!(t306 == t314) || (!(t307 == t315)))))) = true := c55
            clear c55
            (first | rw [c55b0] | (simp only [i64_w, i32_w]; rw [c55b0]) | skip)
            have H' := Aside0.mk H
            clear H
            try go_wp2
            have n0_ : Aside0 (Kd.R k31 31 ((((((w48.setCell ⟨gb317, 0, none⟩ (.int .i64 t310)).setCell ⟨gb317, 1, none⟩ (.int .i64 t311)).setCell ⟨gb317, 2, none⟩ (.int .i64 t312)).setCell ⟨gb317, 3, none⟩ (.int .i64 t313)).setCell ⟨gb317, 4, none⟩ (.int .i64 t314)).setCell ⟨gb317, 5, none⟩ (.int .i64 t315)) w.heap.size (fun k_ => some k_ ≠ (.slice Ao46 y299.length co46 : Value).ownBlock ∧ k_ ≠ gb280 ∧ k_ ≠ gb309 ∧ k_ ≠ gb317) (.slice Ao37 y290.length co37) y290) := ⟨by (with_reducible repeat (first | apply Kd.R_alloc | apply Kd.R_drewN | apply Kd.R_drew)); exact Kd.R_mono (Kd.R_far (p := ⟨gb317, 5, none⟩) (Kd.R_far (p := ⟨gb317, 4, none⟩) (Kd.R_far (p := ⟨gb317, 3, none⟩) (Kd.R_far (p := ⟨gb317, 2, none⟩) (Kd.R_far (p := ⟨gb317, 1, none⟩) (Kd.R_far (p := ⟨gb317, 0, none⟩) (Kd.R_mono HO292.out (fun k_ hk => (⟨hk, hk.2⟩ : _ ∧ k_ ≠ gb317))) (fun _ hk => hk.2) (.int .i64 t310)) (fun _ hk => hk.2) (.int .i64 t311)) (fun _ hk => hk.2) (.int .i64 t312)) (fun _ hk => hk.2) (.int .i64 t313)) (fun _ hk => hk.2) (.int .i64 t314)) (fun _ hk => hk.2) (.int .i64 t315)) (fun _ hk => ⟨hk.1.1.1.2, ⟨hk.1.1.1.1, ⟨hk.1.1.2, hk.1.2⟩⟩⟩)⟩
            have n1_ : Aside0 (Kd.R k31 31 ((((((w48.setCell ⟨gb317, 0, none⟩ (.int .i64 t310)).setCell ⟨gb317, 1, none⟩ (.int .i64 t311)).setCell ⟨gb317, 2, none⟩ (.int .i64 t312)).setCell ⟨gb317, 3, none⟩ (.int .i64 t313)).setCell ⟨gb317, 4, none⟩ (.int .i64 t314)).setCell ⟨gb317, 5, none⟩ (.int .i64 t315)) w.heap.size (fun k_ => some k_ ≠ (.slice Ao37 y290.length co37 : Value).ownBlock ∧ k_ ≠ gb280 ∧ k_ ≠ gb309 ∧ k_ ≠ gb317) (.slice Ao46 y299.length co46) y299) := ⟨by (with_reducible repeat (first | apply Kd.R_alloc | apply Kd.R_drewN | apply Kd.R_drew)); exact Kd.R_mono (Kd.R_far (p := ⟨gb317, 5, none⟩) (Kd.R_far (p := ⟨gb317, 4, none⟩) (Kd.R_far (p := ⟨gb317, 3, none⟩) (Kd.R_far (p := ⟨gb317, 2, none⟩) (Kd.R_far (p := ⟨gb317, 1, none⟩) (Kd.R_far (p := ⟨gb317, 0, none⟩) (Kd.R_mono HO301.out (fun k_ hk => (⟨hk, hk.2⟩ : _ ∧ k_ ≠ gb317))) (fun _ hk => hk.2) (.int .i64 t310)) (fun _ hk => hk.2) (.int .i64 t311)) (fun _ hk => hk.2) (.int .i64 t312)) (fun _ hk => hk.2) (.int .i64 t313)) (fun _ hk => hk.2) (.int .i64 t314)) (fun _ hk => hk.2) (.int .i64 t315)) (fun _ hk => ⟨hk.1.1.1.1, ⟨hk.1.1.1.2, ⟨hk.1.1.2, hk.1.2⟩⟩⟩)⟩
            have n2_ : Aside0 (((((((w48.setCell ⟨gb317, 0, none⟩ (.int .i64 t310)).setCell ⟨gb317, 1, none⟩ (.int .i64 t311)).setCell ⟨gb317, 2, none⟩ (.int .i64 t312)).setCell ⟨gb317, 3, none⟩ (.int .i64 t313)).setCell ⟨gb317, 4, none⟩ (.int .i64 t314)).setCell ⟨gb317, 5, none⟩ (.int .i64 t315)).heap[gb280]? = some (.cells #[.int .i64 a1_0, .int .i64 a1_1, .int .i64 a1_2, .int .i64 a1_3, .int .i64 a1_4, .int .i64 a1_5] 31 (0, 0))) := ⟨by (with_reducible repeat (first | refine kN ?_ _ | refine kD ?_ | refine kA ?_ _)); refine blk_far ?_ NB280_317.out _; (with_reducible repeat (first | refine kN ?_ _ | refine kD ?_ | refine kA ?_ _)); refine blk_far ?_ NB280_317.out _; (with_reducible repeat (first | refine kN ?_ _ | refine kD ?_ | refine kA ?_ _)); refine blk_far ?_ NB280_317.out _; (with_reducible repeat (first | refine kN ?_ _ | refine kD ?_ | refine kA ?_ _)); refine blk_far ?_ NB280_317.out _; (with_reducible repeat (first | refine kN ?_ _ | refine kD ?_ | refine kA ?_ _)); refine blk_far ?_ NB280_317.out _; (with_reducible repeat (first | refine kN ?_ _ | refine kD ?_ | refine kA ?_ _)); refine blk_far ?_ NB280_317.out _; (with_reducible repeat (first | refine kN ?_ _ | refine kD ?_ | refine kA ?_ _)); exact BK280.out⟩
            have n3_ : Aside0 (((((((w48.setCell ⟨gb317, 0, none⟩ (.int .i64 t310)).setCell ⟨gb317, 1, none⟩ (.int .i64 t311)).setCell ⟨gb317, 2, none⟩ (.int .i64 t312)).setCell ⟨gb317, 3, none⟩ (.int .i64 t313)).setCell ⟨gb317, 4, none⟩ (.int .i64 t314)).setCell ⟨gb317, 5, none⟩ (.int .i64 t315)).heap[gb281]? = some (.cells #[.int .i64 a3_0, .int .i64 a3_1, .slice A3_2 l3_2.length c3_2, .int .i64 a3_3] 27 (0, 0))) := ⟨by (with_reducible repeat (first | refine kN ?_ _ | refine kD ?_ | refine kA ?_ _)); refine blk_far ?_ NB281_317.out _; (with_reducible repeat (first | refine kN ?_ _ | refine kD ?_ | refine kA ?_ _)); refine blk_far ?_ NB281_317.out _; (with_reducible repeat (first | refine kN ?_ _ | refine kD ?_ | refine kA ?_ _)); refine blk_far ?_ NB281_317.out _; (with_reducible repeat (first | refine kN ?_ _ | refine kD ?_ | refine kA ?_ _)); refine blk_far ?_ NB281_317.out _; (with_reducible repeat (first | refine kN ?_ _ | refine kD ?_ | refine kA ?_ _)); refine blk_far ?_ NB281_317.out _; (with_reducible repeat (first | refine kN ?_ _ | refine kD ?_ | refine kA ?_ _)); refine blk_far ?_ NB281_317.out _; (with_reducible repeat (first | refine kN ?_ _ | refine kD ?_ | refine kA ?_ _)); exact BK281.out⟩
            have n4_ : Aside0 (((((((w48.setCell ⟨gb317, 0, none⟩ (.int .i64 t310)).setCell ⟨gb317, 1, none⟩ (.int .i64 t311)).setCell ⟨gb317, 2, none⟩ (.int .i64 t312)).setCell ⟨gb317, 3, none⟩ (.int .i64 t313)).setCell ⟨gb317, 4, none⟩ (.int .i64 t314)).setCell ⟨gb317, 5, none⟩ (.int .i64 t315)).heap[gb309]? = some (.cells #[.int .i64 t302, .int .i64 t303, .int .i64 t304, .int .i64 t305, .int .i64 t306, .int .i64 t307] 31 (0, 0))) := ⟨by (with_reducible repeat (first | refine kN ?_ _ | refine kD ?_ | refine kA ?_ _)); refine blk_far ?_ NB309_317.out _; (with_reducible repeat (first | refine kN ?_ _ | refine kD ?_ | refine kA ?_ _)); refine blk_far ?_ NB309_317.out _; (with_reducible repeat (first | refine kN ?_ _ | refine kD ?_ | refine kA ?_ _)); refine blk_far ?_ NB309_317.out _; (with_reducible repeat (first | refine kN ?_ _ | refine kD ?_ | refine kA ?_ _)); refine blk_far ?_ NB309_317.out _; (with_reducible repeat (first | refine kN ?_ _ | refine kD ?_ | refine kA ?_ _)); refine blk_far ?_ NB309_317.out _; (with_reducible repeat (first | refine kN ?_ _ | refine kD ?_ | refine kA ?_ _)); refine blk_far ?_ NB309_317.out _; (with_reducible repeat (first | refine kN ?_ _ | refine kD ?_ | refine kA ?_ _)); exact BK309.out⟩
            have n5_ : Aside0 (((((((w48.setCell ⟨gb317, 0, none⟩ (.int .i64 t310)).setCell ⟨gb317, 1, none⟩ (.int .i64 t311)).setCell ⟨gb317, 2, none⟩ (.int .i64 t312)).setCell ⟨gb317, 3, none⟩ (.int .i64 t313)).setCell ⟨gb317, 4, none⟩ (.int .i64 t314)).setCell ⟨gb317, 5, none⟩ (.int .i64 t315)).heap[gb317]? = some (.cells #[.int .i64 t310, .int .i64 t311, .int .i64 t312, .int .i64 t313, .int .i64 t314, .int .i64 t315] 31 (0, 0))) := ⟨by (with_reducible repeat (first | refine kN ?_ _ | refine kD ?_ | refine kA ?_ _)); refine blk_put (cs := #[.int .i64 t310, .int .i64 t311, .int .i64 t312, .int .i64 t313, .int .i64 t314, .int .i64 0]) ?_ 5 _ rfl; (with_reducible repeat (first | refine kN ?_ _ | refine kD ?_ | refine kA ?_ _)); refine blk_put (cs := #[.int .i64 t310, .int .i64 t311, .int .i64 t312, .int .i64 t313, .int .i64 0, .int .i64 0]) ?_ 4 _ rfl; (with_reducible repeat (first | refine kN ?_ _ | refine kD ?_ | refine kA ?_ _)); refine blk_put (cs := #[.int .i64 t310, .int .i64 t311, .int .i64 t312, .int .i64 0, .int .i64 0, .int .i64 0]) ?_ 3 _ rfl; (with_reducible repeat (first | refine kN ?_ _ | refine kD ?_ | refine kA ?_ _)); refine blk_put (cs := #[.int .i64 t310, .int .i64 t311, .int .i64 0, .int .i64 0, .int .i64 0, .int .i64 0]) ?_ 2 _ rfl; (with_reducible repeat (first | refine kN ?_ _ | refine kD ?_ | refine kA ?_ _)); refine blk_put (cs := #[.int .i64 t310, .int .i64 0, .int .i64 0, .int .i64 0, .int .i64 0, .int .i64 0]) ?_ 1 _ rfl; (with_reducible repeat (first | refine kN ?_ _ | refine kD ?_ | refine kA ?_ _)); refine blk_put (cs := #[.int .i64 0, .int .i64 0, .int .i64 0, .int .i64 0, .int .i64 0, .int .i64 0]) ?_ 0 _ rfl; (with_reducible repeat (first | refine kN ?_ _ | refine kD ?_ | refine kA ?_ _)); exact BK317.out⟩
            have n6_ : Aside0 (Below w.heap.size w ((((((w48.setCell ⟨gb317, 0, none⟩ (.int .i64 t310)).setCell ⟨gb317, 1, none⟩ (.int .i64 t311)).setCell ⟨gb317, 2, none⟩ (.int .i64 t312)).setCell ⟨gb317, 3, none⟩ (.int .i64 t313)).setCell ⟨gb317, 4, none⟩ (.int .i64 t314)).setCell ⟨gb317, 5, none⟩ (.int .i64 t315))) := ⟨by repeat (first | (with_reducible first | exact HB.out | apply bA | apply bN | apply bD | refine bS ?_ GE280.out | refine bS ?_ GE281.out | refine bS ?_ GE309.out | refine bS ?_ GE317.out) | exact HB.out)⟩
            (try clear HO292)
            (try clear HO301)
            (try clear BK280)
            (try clear BK281)
            (try clear BK309)
            (try clear BK317)
            (try clear HB)
            generalize ((((((w48.setCell ⟨gb317, 0, none⟩ (.int .i64 t310)).setCell ⟨gb317, 1, none⟩ (.int .i64 t311)).setCell ⟨gb317, 2, none⟩ (.int .i64 t312)).setCell ⟨gb317, 3, none⟩ (.int .i64 t313)).setCell ⟨gb317, 4, none⟩ (.int .i64 t314)).setCell ⟨gb317, 5, none⟩ (.int .i64 t315)) = w56 at n0_ n1_ n2_ n3_ n4_ n5_ n6_ ⊢
            have HO292 := n0_
            have HO301 := n1_
            have BK280 := n2_
            have BK281 := n3_
            have BK309 := n4_
            have BK317 := n5_
            have HB := n6_
            clear n0_ n1_ n2_ n3_ n4_ n5_ n6_
            have n0_ := Aside0.mk (Kd.R_drew HO292.out)
            have n1_ := Aside0.mk (Kd.R_drew HO301.out)
            have n2_ := Aside0.mk (blk_drew BK280.out)
            have n3_ := Aside0.mk (blk_drew BK281.out)
            have n4_ := Aside0.mk (blk_drew BK309.out)
            have n5_ := Aside0.mk (blk_drew BK317.out)
            have n6_ := Aside0.mk (below_drew1 HB.out)
            clear HO292
            clear HO301
            clear BK280
            clear BK281
            clear BK309
            clear BK317
            clear HB
            have HO292 := n0_
            have HO301 := n1_
            have BK280 := n2_
            have BK281 := n3_
            have BK309 := n4_
            have BK317 := n5_
            have HB := n6_
            clear n0_ n1_ n2_ n3_ n4_ n5_ n6_
            refine start_ (n := 24) (S := fun w' => w'.cell? ⟨gb309, 0, none⟩ = some (.int .i64 t302) ∧ w'.cell? ⟨gb309, 1, none⟩ = some (.int .i64 t303) ∧ w'.cell? ⟨gb309, 2, none⟩ = some (.int .i64 t304) ∧ w'.cell? ⟨gb309, 3, none⟩ = some (.int .i64 t305) ∧ w'.cell? ⟨gb309, 4, none⟩ = some (.int .i64 t306) ∧ w'.cell? ⟨gb309, 5, none⟩ = some (.int .i64 t307) ∧ w'.cell? ⟨gb317, 0, none⟩ = some (.int .i64 t310) ∧ w'.cell? ⟨gb317, 1, none⟩ = some (.int .i64 t311) ∧ w'.cell? ⟨gb317, 2, none⟩ = some (.int .i64 t312) ∧ w'.cell? ⟨gb317, 3, none⟩ = some (.int .i64 t313) ∧ w'.cell? ⟨gb317, 4, none⟩ = some (.int .i64 t314) ∧ w'.cell? ⟨gb317, 5, none⟩ = some (.int .i64 t315)) (ds := []) #[false, false, false, false, false, false, false, false, false, false, false, false, false, false, false, false, false, false, false, false, false, false, false, false] (by kernel_rfl) rfl rfl ⟨(blk_cell BK309.out 0).trans rfl, (blk_cell BK309.out 1).trans rfl, (blk_cell BK309.out 2).trans rfl, (blk_cell BK309.out 3).trans rfl, (blk_cell BK309.out 4).trans rfl, (blk_cell BK309.out 5).trans rfl, (blk_cell BK317.out 0).trans rfl, (blk_cell BK317.out 1).trans rfl, (blk_cell BK317.out 2).trans rfl, (blk_cell BK317.out 3).trans rfl, (blk_cell BK317.out 4).trans rfl, (blk_cell BK317.out 5).trans rfl⟩ (fun hHeld => ?_); refine with_tabW ridgewaylaw10_PolicyBehind.tab10 ridgewaylaw10_PolicyBehind.bits10 (fun HT_ HW_ => ?_)
            generalize w56.drew = w57 at HO292 HO301 BK280 BK281 BK309 BK317 HB hHeld ⊢
            refine pure_ (i := 0) (N := some 67) (v := ?_) (a' := ?_) #[true, false, false, false, false, false, false, false, false, false, false, false, false, false, false, false, false, false, false, false, false, false, false, false] rfl rfl (any_of HT_.out (by kernel_rfl)) (fun _ _ _ h => h) (Or.inl ⟨by rfl, ?_⟩) ?_ ?_
            rotate_left
            ·
             intro w'
             go_simp
             with_reducible rfl
            rotate_left
            ·
             simp only [Act.put, sA, sB, sC, i64_w, i32_w]
             rfl
            refine pure_ (i := 1) (N := some 68) (v := ?_) (a' := ?_) #[true, true, false, false, false, false, false, false, false, false, false, false, false, false, false, false, false, false, false, false, false, false, false, false] rfl rfl (any_of HT_.out (by kernel_rfl)) (fun _ _ _ h => h) (Or.inl ⟨by rfl, ?_⟩) ?_ ?_
            rotate_left
            ·
             intro w'
             go_simp
             with_reducible rfl
            rotate_left
            ·
             simp only [Act.put, sA, sB, sC, i64_w, i32_w]
             rfl
            refine pure_ (i := 2) (N := some 69) (v := ?_) (a' := ?_) #[true, true, true, false, false, false, false, false, false, false, false, false, false, false, false, false, false, false, false, false, false, false, false, false] rfl rfl (any_of HT_.out (by kernel_rfl)) (fun _ _ _ h => h) (Or.inl ⟨by rfl, ?_⟩) ?_ ?_
            rotate_left
            ·
             intro w'
             go_simp
             with_reducible rfl
            rotate_left
            ·
             simp only [Act.put, sA, sB, sC, i64_w, i32_w]
             rfl
            refine pure_ (i := 3) (N := some 70) (v := ?_) (a' := ?_) #[true, true, true, true, false, false, false, false, false, false, false, false, false, false, false, false, false, false, false, false, false, false, false, false] rfl rfl (any_of HT_.out (by kernel_rfl)) (fun _ _ _ h => h) (Or.inl ⟨by rfl, ?_⟩) ?_ ?_
            rotate_left
            ·
             intro w'
             go_simp
             with_reducible rfl
            rotate_left
            ·
             simp only [Act.put, sA, sB, sC, i64_w, i32_w]
             rfl
            refine pure_ (i := 4) (N := some 71) (v := ?_) (a' := ?_) #[true, true, true, true, true, false, false, false, false, false, false, false, false, false, false, false, false, false, false, false, false, false, false, false] rfl rfl (any_of HT_.out (by kernel_rfl)) (fun _ _ _ h => h) (Or.inl ⟨by rfl, ?_⟩) ?_ ?_
            rotate_left
            ·
             intro w'
             go_simp
             with_reducible rfl
            rotate_left
            ·
             simp only [Act.put, sA, sB, sC, i64_w, i32_w]
             rfl
            refine pure_ (i := 5) (N := some 72) (v := ?_) (a' := ?_) #[true, true, true, true, true, true, false, false, false, false, false, false, false, false, false, false, false, false, false, false, false, false, false, false] rfl rfl (any_of HT_.out (by kernel_rfl)) (fun _ _ _ h => h) (Or.inl ⟨by rfl, ?_⟩) ?_ ?_
            rotate_left
            ·
             intro w'
             go_simp
             with_reducible rfl
            rotate_left
            ·
             simp only [Act.put, sA, sB, sC, i64_w, i32_w]
             rfl
            refine pure_ (i := 6) (N := some 73) (v := ?_) (a' := ?_) #[true, true, true, true, true, true, true, false, false, false, false, false, false, false, false, false, false, false, false, false, false, false, false, false] rfl rfl (any_of HT_.out (by kernel_rfl)) (fun _ _ _ h => h) (Or.inl ⟨by rfl, ?_⟩) ?_ ?_
            rotate_left
            ·
             intro w'
             go_simp
             with_reducible rfl
            rotate_left
            ·
             simp only [Act.put, sA, sB, sC, i64_w, i32_w]
             rfl
            refine take_ (i := 7) (N := some 74) (v := ?_) (a' := ?_) #[true, true, true, true, true, true, true, true, false, false, false, false, false, false, false, false, false, false, false, false, false, false, false, false] rfl rfl (take_ofW HT_.out HW_.out (by kernel_rfl)) (fun _ _ _ h => h) (Or.inl ⟨by rfl, ?_⟩) hHeld ?_ ?_
            rotate_left
            ·
             rintro w' ⟨s0, s1, s2, s3, s4, s5, s6, s7, s8, s9, s10, s11⟩
             go_simp
             with_reducible rfl
            rotate_left
            ·
             simp only [Act.put, sA, sB, sC, i64_w, i32_w]
             rfl
            refine take_ (i := 8) (N := some 75) (v := ?_) (a' := ?_) #[true, true, true, true, true, true, true, true, true, false, false, false, false, false, false, false, false, false, false, false, false, false, false, false] rfl rfl (take_ofW HT_.out HW_.out (by kernel_rfl)) (fun _ _ _ h => h) (Or.inl ⟨by rfl, ?_⟩) hHeld ?_ ?_
            rotate_left
            ·
             rintro w' ⟨s0, s1, s2, s3, s4, s5, s6, s7, s8, s9, s10, s11⟩
             go_simp
             with_reducible rfl
            rotate_left
            ·
             simp only [Act.put, sA, sB, sC, i64_w, i32_w]
             rfl
            refine pure_ (i := 9) (N := some 76) (v := ?_) (a' := ?_) #[true, true, true, true, true, true, true, true, true, true, false, false, false, false, false, false, false, false, false, false, false, false, false, false] rfl rfl (any_of HT_.out (by kernel_rfl)) (fun _ _ _ h => h) (Or.inl ⟨by rfl, ?_⟩) ?_ ?_
            rotate_left
            ·
             intro w'
             go_simp
             with_reducible rfl
            rotate_left
            ·
             simp only [Act.put, sA, sB, sC, i64_w, i32_w]
             rfl
            refine pure_ (i := 10) (N := some 77) (v := ?_) (a' := ?_) #[true, true, true, true, true, true, true, true, true, true, true, false, false, false, false, false, false, false, false, false, false, false, false, false] rfl rfl (any_of HT_.out (by kernel_rfl)) (fun _ _ _ h => h) (Or.inl ⟨by rfl, ?_⟩) ?_ ?_
            rotate_left
            ·
             intro w'
             go_simp
             with_reducible rfl
            rotate_left
            ·
             simp only [Act.put, sA, sB, sC, i64_w, i32_w]
             rfl
            refine pure_ (i := 11) (N := some 78) (v := ?_) (a' := ?_) #[true, true, true, true, true, true, true, true, true, true, true, true, false, false, false, false, false, false, false, false, false, false, false, false] rfl rfl (any_of HT_.out (by kernel_rfl)) (fun _ _ _ h => h) (Or.inl ⟨by rfl, ?_⟩) ?_ ?_
            rotate_left
            ·
             intro w'
             go_simp
             with_reducible rfl
            rotate_left
            ·
             simp only [Act.put, sA, sB, sC, i64_w, i32_w]
             rfl
            refine pure_ (i := 12) (N := some 79) (v := undef) (a' := ?_) #[true, true, true, true, true, true, true, true, true, true, true, true, true, false, false, false, false, false, false, false, false, false, false, false] rfl rfl (any_of HT_.out (by kernel_rfl)) (fun _ _ _ h => h) (Or.inr ⟨by rfl, rfl⟩) ?_ ?_
            rotate_left
            ·
             simp only [Act.put, sA, sB, sC, i64_w, i32_w]
             rfl
            refine pure_ (i := 13) (N := some 80) (v := undef) (a' := ?_) #[true, true, true, true, true, true, true, true, true, true, true, true, true, true, false, false, false, false, false, false, false, false, false, false] rfl rfl (any_of HT_.out (by kernel_rfl)) (fun _ _ _ h => h) (Or.inr ⟨by rfl, rfl⟩) ?_ ?_
            rotate_left
            ·
             simp only [Act.put, sA, sB, sC, i64_w, i32_w]
             rfl
            refine pure_ (i := 14) (N := some 81) (v := undef) (a' := ?_) #[true, true, true, true, true, true, true, true, true, true, true, true, true, true, true, false, false, false, false, false, false, false, false, false] rfl rfl (any_of HT_.out (by kernel_rfl)) (fun _ _ _ h => h) (Or.inr ⟨by rfl, rfl⟩) ?_ ?_
            rotate_left
            ·
             simp only [Act.put, sA, sB, sC, i64_w, i32_w]
             rfl
            refine pure_ (i := 15) (N := some 82) (v := undef) (a' := ?_) #[true, true, true, true, true, true, true, true, true, true, true, true, true, true, true, true, false, false, false, false, false, false, false, false] rfl rfl (any_of HT_.out (by kernel_rfl)) (fun _ _ _ h => h) (Or.inr ⟨by rfl, rfl⟩) ?_ ?_
            rotate_left
            ·
             simp only [Act.put, sA, sB, sC, i64_w, i32_w]
             rfl
            refine pure_ (i := 16) (N := some 83) (v := undef) (a' := ?_) #[true, true, true, true, true, true, true, true, true, true, true, true, true, true, true, true, true, false, false, false, false, false, false, false] rfl rfl (any_of HT_.out (by kernel_rfl)) (fun _ _ _ h => h) (Or.inr ⟨by rfl, rfl⟩) ?_ ?_
            rotate_left
            ·
             simp only [Act.put, sA, sB, sC, i64_w, i32_w]
             rfl
            refine pure_ (i := 17) (N := some 84) (v := undef) (a' := ?_) #[true, true, true, true, true, true, true, true, true, true, true, true, true, true, true, true, true, true, false, false, false, false, false, false] rfl rfl (any_of HT_.out (by kernel_rfl)) (fun _ _ _ h => h) (Or.inr ⟨by rfl, rfl⟩) ?_ ?_
            rotate_left
            ·
             simp only [Act.put, sA, sB, sC, i64_w, i32_w]
             rfl
            refine pure_ (i := 18) (N := some 85) (v := undef) (a' := ?_) #[true, true, true, true, true, true, true, true, true, true, true, true, true, true, true, true, true, true, true, false, false, false, false, false] rfl rfl (any_of HT_.out (by kernel_rfl)) (fun _ _ _ h => h) (Or.inr ⟨by rfl, rfl⟩) ?_ ?_
            rotate_left
            ·
             simp only [Act.put, sA, sB, sC, i64_w, i32_w]
             rfl
            refine pure_ (i := 19) (N := some 86) (v := undef) (a' := ?_) #[true, true, true, true, true, true, true, true, true, true, true, true, true, true, true, true, true, true, true, true, false, false, false, false] rfl rfl (any_of HT_.out (by kernel_rfl)) (fun _ _ _ h => h) (Or.inr ⟨by rfl, rfl⟩) ?_ ?_
            rotate_left
            ·
             simp only [Act.put, sA, sB, sC, i64_w, i32_w]
             rfl
            refine pure_ (i := 20) (N := some 87) (v := undef) (a' := ?_) #[true, true, true, true, true, true, true, true, true, true, true, true, true, true, true, true, true, true, true, true, true, false, false, false] rfl rfl (any_of HT_.out (by kernel_rfl)) (fun _ _ _ h => h) (Or.inr ⟨by rfl, rfl⟩) ?_ ?_
            rotate_left
            ·
             simp only [Act.put, sA, sB, sC, i64_w, i32_w]
             rfl
            refine pure_ (i := 21) (N := some 88) (v := undef) (a' := ?_) #[true, true, true, true, true, true, true, true, true, true, true, true, true, true, true, true, true, true, true, true, true, true, false, false] rfl rfl (any_of HT_.out (by kernel_rfl)) (fun _ _ _ h => h) (Or.inr ⟨by rfl, rfl⟩) ?_ ?_
            rotate_left
            ·
             simp only [Act.put, sA, sB, sC, i64_w, i32_w]
             rfl
            refine pure_ (i := 22) (N := some 89) (v := undef) (a' := ?_) #[true, true, true, true, true, true, true, true, true, true, true, true, true, true, true, true, true, true, true, true, true, true, true, false] rfl rfl (any_of HT_.out (by kernel_rfl)) (fun _ _ _ h => h) (Or.inr ⟨by rfl, rfl⟩) ?_ ?_
            rotate_left
            ·
             simp only [Act.put, sA, sB, sC, i64_w, i32_w]
             rfl
            refine pure_ (i := 23) (N := some 90) (v := ?_) (a' := ?_) #[true, true, true, true, true, true, true, true, true, true, true, true, true, true, true, true, true, true, true, true, true, true, true, true] rfl rfl (any_of HT_.out (by kernel_rfl)) (fun _ _ _ h => h) (Or.inl ⟨by rfl, ?_⟩) ?_ ?_
            rotate_left
            ·
             intro w'
             go_simp
             with_reducible rfl
            rotate_left
            ·
             simp only [Act.put, sA, sB, sC, i64_w, i32_w]
             rfl
            refine done_ (done_of HT_.out (by kernel_rfl)) ?_
            try go_wp2
            go_meet
            case rel => exact ⟨_, (true), (by first | rfl | (simp; done) | (simp [*]; done)), H', ⟨by have := HJ5.out; first | omega | exact Nat.le_refl _⟩, ⟨by (with_reducible repeat (first | apply Kd.R_alloc | apply Kd.R_drewN | apply Kd.R_drew)); exact Kd.R_mono HO292.out (fun _ hk => ⟨hk.2.1, ⟨hk.2.2.1, hk.2.2.2⟩⟩)⟩, ⟨by (with_reducible repeat (first | refine kN ?_ _ | refine kD ?_ | refine kA ?_ _)); exact BK280.out⟩, ⟨by (with_reducible repeat (first | refine kN ?_ _ | refine kD ?_ | refine kA ?_ _)); exact BK281.out⟩, ⟨by (with_reducible repeat (first | refine kN ?_ _ | refine kD ?_ | refine kA ?_ _)); exact BK309.out⟩, ⟨by (with_reducible repeat (first | refine kN ?_ _ | refine kD ?_ | refine kA ?_ _)); exact BK317.out⟩, ⟨by repeat (first | (with_reducible first | exact HB.out | apply bA | apply bN | apply bD | refine bS ?_ GE280.out | refine bS ?_ GE281.out | refine bS ?_ GE309.out | refine bS ?_ GE317.out) | exact HB.out)⟩⟩
           ·
            rw [if_neg c55] at H
            have c55b0 : (!(t302 == t310) || ((!(t303 == t311) || (!(t304 == t312))) || (!(t305 == t313) || (!(t306 == t314) || (!(t307 == t315)))))) = false := by simpa using c55
            clear c55
            (first | rw [c55b0] | (simp only [i64_w, i32_w]; rw [c55b0]) | skip)
            replace H := Option.bind_eq_some_iff.mp H
            obtain ⟨t318, A580, H⟩ := H
            replace H : ((policy_Reach.f y290 a3_3).bind fun t321 => (ridgewaylaw10_PolicyBehind.j1 kj5 l2 t282 y290 ((t318.length : Int) != (t321.length : Int)) a3_0 a3_1 l3_2 a3_3 t302 t303 t304 t305 t306 t307)) = some true := H
            have A58 := Aside0.mk A580
            clear A580
            replace H := Option.bind_eq_some_iff.mp H
            obtain ⟨t321, A590, H⟩ := H
            replace H : (ridgewaylaw10_PolicyBehind.j1 kj5 l2 t282 y290 ((t318.length : Int) != (t321.length : Int)) a3_0 a3_1 l3_2 a3_3 t302 t303 t304 t305 t306 t307) = some true := H
            have A59 := Aside0.mk A590
            clear A590
            have H' := Aside0.mk H
            clear H
            try go_wp2
            have n0_ : Aside0 (Kd.R k31 31 ((((((w48.setCell ⟨gb317, 0, none⟩ (.int .i64 t310)).setCell ⟨gb317, 1, none⟩ (.int .i64 t311)).setCell ⟨gb317, 2, none⟩ (.int .i64 t312)).setCell ⟨gb317, 3, none⟩ (.int .i64 t313)).setCell ⟨gb317, 4, none⟩ (.int .i64 t314)).setCell ⟨gb317, 5, none⟩ (.int .i64 t315)) w.heap.size (fun k_ => some k_ ≠ (.slice Ao46 y299.length co46 : Value).ownBlock ∧ k_ ≠ gb280 ∧ k_ ≠ gb309 ∧ k_ ≠ gb317) (.slice Ao37 y290.length co37) y290) := ⟨by (with_reducible repeat (first | apply Kd.R_alloc | apply Kd.R_drewN | apply Kd.R_drew)); exact Kd.R_mono (Kd.R_far (p := ⟨gb317, 5, none⟩) (Kd.R_far (p := ⟨gb317, 4, none⟩) (Kd.R_far (p := ⟨gb317, 3, none⟩) (Kd.R_far (p := ⟨gb317, 2, none⟩) (Kd.R_far (p := ⟨gb317, 1, none⟩) (Kd.R_far (p := ⟨gb317, 0, none⟩) (Kd.R_mono HO292.out (fun k_ hk => (⟨hk, hk.2⟩ : _ ∧ k_ ≠ gb317))) (fun _ hk => hk.2) (.int .i64 t310)) (fun _ hk => hk.2) (.int .i64 t311)) (fun _ hk => hk.2) (.int .i64 t312)) (fun _ hk => hk.2) (.int .i64 t313)) (fun _ hk => hk.2) (.int .i64 t314)) (fun _ hk => hk.2) (.int .i64 t315)) (fun _ hk => ⟨hk.1.1.1.2, ⟨hk.1.1.1.1, ⟨hk.1.1.2, hk.1.2⟩⟩⟩)⟩
            have n1_ : Aside0 (Kd.R k31 31 ((((((w48.setCell ⟨gb317, 0, none⟩ (.int .i64 t310)).setCell ⟨gb317, 1, none⟩ (.int .i64 t311)).setCell ⟨gb317, 2, none⟩ (.int .i64 t312)).setCell ⟨gb317, 3, none⟩ (.int .i64 t313)).setCell ⟨gb317, 4, none⟩ (.int .i64 t314)).setCell ⟨gb317, 5, none⟩ (.int .i64 t315)) w.heap.size (fun k_ => some k_ ≠ (.slice Ao37 y290.length co37 : Value).ownBlock ∧ k_ ≠ gb280 ∧ k_ ≠ gb309 ∧ k_ ≠ gb317) (.slice Ao46 y299.length co46) y299) := ⟨by (with_reducible repeat (first | apply Kd.R_alloc | apply Kd.R_drewN | apply Kd.R_drew)); exact Kd.R_mono (Kd.R_far (p := ⟨gb317, 5, none⟩) (Kd.R_far (p := ⟨gb317, 4, none⟩) (Kd.R_far (p := ⟨gb317, 3, none⟩) (Kd.R_far (p := ⟨gb317, 2, none⟩) (Kd.R_far (p := ⟨gb317, 1, none⟩) (Kd.R_far (p := ⟨gb317, 0, none⟩) (Kd.R_mono HO301.out (fun k_ hk => (⟨hk, hk.2⟩ : _ ∧ k_ ≠ gb317))) (fun _ hk => hk.2) (.int .i64 t310)) (fun _ hk => hk.2) (.int .i64 t311)) (fun _ hk => hk.2) (.int .i64 t312)) (fun _ hk => hk.2) (.int .i64 t313)) (fun _ hk => hk.2) (.int .i64 t314)) (fun _ hk => hk.2) (.int .i64 t315)) (fun _ hk => ⟨hk.1.1.1.1, ⟨hk.1.1.1.2, ⟨hk.1.1.2, hk.1.2⟩⟩⟩)⟩
            have n2_ : Aside0 (((((((w48.setCell ⟨gb317, 0, none⟩ (.int .i64 t310)).setCell ⟨gb317, 1, none⟩ (.int .i64 t311)).setCell ⟨gb317, 2, none⟩ (.int .i64 t312)).setCell ⟨gb317, 3, none⟩ (.int .i64 t313)).setCell ⟨gb317, 4, none⟩ (.int .i64 t314)).setCell ⟨gb317, 5, none⟩ (.int .i64 t315)).heap[gb280]? = some (.cells #[.int .i64 a1_0, .int .i64 a1_1, .int .i64 a1_2, .int .i64 a1_3, .int .i64 a1_4, .int .i64 a1_5] 31 (0, 0))) := ⟨by (with_reducible repeat (first | refine kN ?_ _ | refine kD ?_ | refine kA ?_ _)); refine blk_far ?_ NB280_317.out _; (with_reducible repeat (first | refine kN ?_ _ | refine kD ?_ | refine kA ?_ _)); refine blk_far ?_ NB280_317.out _; (with_reducible repeat (first | refine kN ?_ _ | refine kD ?_ | refine kA ?_ _)); refine blk_far ?_ NB280_317.out _; (with_reducible repeat (first | refine kN ?_ _ | refine kD ?_ | refine kA ?_ _)); refine blk_far ?_ NB280_317.out _; (with_reducible repeat (first | refine kN ?_ _ | refine kD ?_ | refine kA ?_ _)); refine blk_far ?_ NB280_317.out _; (with_reducible repeat (first | refine kN ?_ _ | refine kD ?_ | refine kA ?_ _)); refine blk_far ?_ NB280_317.out _; (with_reducible repeat (first | refine kN ?_ _ | refine kD ?_ | refine kA ?_ _)); exact BK280.out⟩
            have n3_ : Aside0 (((((((w48.setCell ⟨gb317, 0, none⟩ (.int .i64 t310)).setCell ⟨gb317, 1, none⟩ (.int .i64 t311)).setCell ⟨gb317, 2, none⟩ (.int .i64 t312)).setCell ⟨gb317, 3, none⟩ (.int .i64 t313)).setCell ⟨gb317, 4, none⟩ (.int .i64 t314)).setCell ⟨gb317, 5, none⟩ (.int .i64 t315)).heap[gb281]? = some (.cells #[.int .i64 a3_0, .int .i64 a3_1, .slice A3_2 l3_2.length c3_2, .int .i64 a3_3] 27 (0, 0))) := ⟨by (with_reducible repeat (first | refine kN ?_ _ | refine kD ?_ | refine kA ?_ _)); refine blk_far ?_ NB281_317.out _; (with_reducible repeat (first | refine kN ?_ _ | refine kD ?_ | refine kA ?_ _)); refine blk_far ?_ NB281_317.out _; (with_reducible repeat (first | refine kN ?_ _ | refine kD ?_ | refine kA ?_ _)); refine blk_far ?_ NB281_317.out _; (with_reducible repeat (first | refine kN ?_ _ | refine kD ?_ | refine kA ?_ _)); refine blk_far ?_ NB281_317.out _; (with_reducible repeat (first | refine kN ?_ _ | refine kD ?_ | refine kA ?_ _)); refine blk_far ?_ NB281_317.out _; (with_reducible repeat (first | refine kN ?_ _ | refine kD ?_ | refine kA ?_ _)); refine blk_far ?_ NB281_317.out _; (with_reducible repeat (first | refine kN ?_ _ | refine kD ?_ | refine kA ?_ _)); exact BK281.out⟩
            have n4_ : Aside0 (((((((w48.setCell ⟨gb317, 0, none⟩ (.int .i64 t310)).setCell ⟨gb317, 1, none⟩ (.int .i64 t311)).setCell ⟨gb317, 2, none⟩ (.int .i64 t312)).setCell ⟨gb317, 3, none⟩ (.int .i64 t313)).setCell ⟨gb317, 4, none⟩ (.int .i64 t314)).setCell ⟨gb317, 5, none⟩ (.int .i64 t315)).heap[gb309]? = some (.cells #[.int .i64 t302, .int .i64 t303, .int .i64 t304, .int .i64 t305, .int .i64 t306, .int .i64 t307] 31 (0, 0))) := ⟨by (with_reducible repeat (first | refine kN ?_ _ | refine kD ?_ | refine kA ?_ _)); refine blk_far ?_ NB309_317.out _; (with_reducible repeat (first | refine kN ?_ _ | refine kD ?_ | refine kA ?_ _)); refine blk_far ?_ NB309_317.out _; (with_reducible repeat (first | refine kN ?_ _ | refine kD ?_ | refine kA ?_ _)); refine blk_far ?_ NB309_317.out _; (with_reducible repeat (first | refine kN ?_ _ | refine kD ?_ | refine kA ?_ _)); refine blk_far ?_ NB309_317.out _; (with_reducible repeat (first | refine kN ?_ _ | refine kD ?_ | refine kA ?_ _)); refine blk_far ?_ NB309_317.out _; (with_reducible repeat (first | refine kN ?_ _ | refine kD ?_ | refine kA ?_ _)); refine blk_far ?_ NB309_317.out _; (with_reducible repeat (first | refine kN ?_ _ | refine kD ?_ | refine kA ?_ _)); exact BK309.out⟩
            have n5_ : Aside0 (((((((w48.setCell ⟨gb317, 0, none⟩ (.int .i64 t310)).setCell ⟨gb317, 1, none⟩ (.int .i64 t311)).setCell ⟨gb317, 2, none⟩ (.int .i64 t312)).setCell ⟨gb317, 3, none⟩ (.int .i64 t313)).setCell ⟨gb317, 4, none⟩ (.int .i64 t314)).setCell ⟨gb317, 5, none⟩ (.int .i64 t315)).heap[gb317]? = some (.cells #[.int .i64 t310, .int .i64 t311, .int .i64 t312, .int .i64 t313, .int .i64 t314, .int .i64 t315] 31 (0, 0))) := ⟨by (with_reducible repeat (first | refine kN ?_ _ | refine kD ?_ | refine kA ?_ _)); refine blk_put (cs := #[.int .i64 t310, .int .i64 t311, .int .i64 t312, .int .i64 t313, .int .i64 t314, .int .i64 0]) ?_ 5 _ rfl; (with_reducible repeat (first | refine kN ?_ _ | refine kD ?_ | refine kA ?_ _)); refine blk_put (cs := #[.int .i64 t310, .int .i64 t311, .int .i64 t312, .int .i64 t313, .int .i64 0, .int .i64 0]) ?_ 4 _ rfl; (with_reducible repeat (first | refine kN ?_ _ | refine kD ?_ | refine kA ?_ _)); refine blk_put (cs := #[.int .i64 t310, .int .i64 t311, .int .i64 t312, .int .i64 0, .int .i64 0, .int .i64 0]) ?_ 3 _ rfl; (with_reducible repeat (first | refine kN ?_ _ | refine kD ?_ | refine kA ?_ _)); refine blk_put (cs := #[.int .i64 t310, .int .i64 t311, .int .i64 0, .int .i64 0, .int .i64 0, .int .i64 0]) ?_ 2 _ rfl; (with_reducible repeat (first | refine kN ?_ _ | refine kD ?_ | refine kA ?_ _)); refine blk_put (cs := #[.int .i64 t310, .int .i64 0, .int .i64 0, .int .i64 0, .int .i64 0, .int .i64 0]) ?_ 1 _ rfl; (with_reducible repeat (first | refine kN ?_ _ | refine kD ?_ | refine kA ?_ _)); refine blk_put (cs := #[.int .i64 0, .int .i64 0, .int .i64 0, .int .i64 0, .int .i64 0, .int .i64 0]) ?_ 0 _ rfl; (with_reducible repeat (first | refine kN ?_ _ | refine kD ?_ | refine kA ?_ _)); exact BK317.out⟩
            have n6_ : Aside0 (Below w.heap.size w ((((((w48.setCell ⟨gb317, 0, none⟩ (.int .i64 t310)).setCell ⟨gb317, 1, none⟩ (.int .i64 t311)).setCell ⟨gb317, 2, none⟩ (.int .i64 t312)).setCell ⟨gb317, 3, none⟩ (.int .i64 t313)).setCell ⟨gb317, 4, none⟩ (.int .i64 t314)).setCell ⟨gb317, 5, none⟩ (.int .i64 t315))) := ⟨by repeat (first | (with_reducible first | exact HB.out | apply bA | apply bN | apply bD | refine bS ?_ GE280.out | refine bS ?_ GE281.out | refine bS ?_ GE309.out | refine bS ?_ GE317.out) | exact HB.out)⟩
            (try clear HO292)
            (try clear HO301)
            (try clear BK280)
            (try clear BK281)
            (try clear BK309)
            (try clear BK317)
            (try clear HB)
            generalize ((((((w48.setCell ⟨gb317, 0, none⟩ (.int .i64 t310)).setCell ⟨gb317, 1, none⟩ (.int .i64 t311)).setCell ⟨gb317, 2, none⟩ (.int .i64 t312)).setCell ⟨gb317, 3, none⟩ (.int .i64 t313)).setCell ⟨gb317, 4, none⟩ (.int .i64 t314)).setCell ⟨gb317, 5, none⟩ (.int .i64 t315)) = w60 at n0_ n1_ n2_ n3_ n4_ n5_ n6_ ⊢
            have HO292 := n0_
            have HO301 := n1_
            have BK280 := n2_
            have BK281 := n3_
            have BK309 := n4_
            have BK317 := n5_
            have HB := n6_
            clear n0_ n1_ n2_ n3_ n4_ n5_ n6_
            have n0_ := Aside0.mk (Kd.R_drew HO292.out)
            have n1_ := Aside0.mk (Kd.R_drew HO301.out)
            have n2_ := Aside0.mk (blk_drew BK280.out)
            have n3_ := Aside0.mk (blk_drew BK281.out)
            have n4_ := Aside0.mk (blk_drew BK309.out)
            have n5_ := Aside0.mk (blk_drew BK317.out)
            have n6_ := Aside0.mk (below_drew1 HB.out)
            clear HO292
            clear HO301
            clear BK280
            clear BK281
            clear BK309
            clear BK317
            clear HB
            have HO292 := n0_
            have HO301 := n1_
            have BK280 := n2_
            have BK281 := n3_
            have BK309 := n4_
            have BK317 := n5_
            have HB := n6_
            clear n0_ n1_ n2_ n3_ n4_ n5_ n6_
            refine start_ (n := 24) (S := fun w' => w'.cell? ⟨gb309, 0, none⟩ = some (.int .i64 t302) ∧ w'.cell? ⟨gb309, 1, none⟩ = some (.int .i64 t303) ∧ w'.cell? ⟨gb309, 2, none⟩ = some (.int .i64 t304) ∧ w'.cell? ⟨gb309, 3, none⟩ = some (.int .i64 t305) ∧ w'.cell? ⟨gb309, 4, none⟩ = some (.int .i64 t306) ∧ w'.cell? ⟨gb309, 5, none⟩ = some (.int .i64 t307) ∧ w'.cell? ⟨gb317, 0, none⟩ = some (.int .i64 t310) ∧ w'.cell? ⟨gb317, 1, none⟩ = some (.int .i64 t311) ∧ w'.cell? ⟨gb317, 2, none⟩ = some (.int .i64 t312) ∧ w'.cell? ⟨gb317, 3, none⟩ = some (.int .i64 t313) ∧ w'.cell? ⟨gb317, 4, none⟩ = some (.int .i64 t314) ∧ w'.cell? ⟨gb317, 5, none⟩ = some (.int .i64 t315) ∧ w'.cell? ⟨gb281, 0, none⟩ = some (.int .i64 a3_0) ∧ w'.cell? ⟨gb281, 1, none⟩ = some (.int .i64 a3_1) ∧ w'.cell? ⟨gb281, 2, none⟩ = some (.slice A3_2 l3_2.length c3_2) ∧ w'.cell? ⟨gb281, 3, none⟩ = some (.int .i64 a3_3)) (ds := []) #[false, false, false, false, false, false, false, false, false, false, false, false, false, false, false, false, false, false, false, false, false, false, false, false] (by kernel_rfl) rfl rfl ⟨(blk_cell BK309.out 0).trans rfl, (blk_cell BK309.out 1).trans rfl, (blk_cell BK309.out 2).trans rfl, (blk_cell BK309.out 3).trans rfl, (blk_cell BK309.out 4).trans rfl, (blk_cell BK309.out 5).trans rfl, (blk_cell BK317.out 0).trans rfl, (blk_cell BK317.out 1).trans rfl, (blk_cell BK317.out 2).trans rfl, (blk_cell BK317.out 3).trans rfl, (blk_cell BK317.out 4).trans rfl, (blk_cell BK317.out 5).trans rfl, (blk_cell BK281.out 0).trans rfl, (blk_cell BK281.out 1).trans rfl, (blk_cell BK281.out 2).trans rfl, (blk_cell BK281.out 3).trans rfl⟩ (fun hHeld => ?_); refine with_tabW ridgewaylaw10_PolicyBehind.tab10 ridgewaylaw10_PolicyBehind.bits10 (fun HT_ HW_ => ?_)
            generalize w60.drew = w61 at HO292 HO301 BK280 BK281 BK309 BK317 HB hHeld ⊢
            refine pure_ (i := 0) (N := some 67) (v := ?_) (a' := ?_) #[true, false, false, false, false, false, false, false, false, false, false, false, false, false, false, false, false, false, false, false, false, false, false, false] rfl rfl (any_of HT_.out (by kernel_rfl)) (fun _ _ _ h => h) (Or.inl ⟨by rfl, ?_⟩) ?_ ?_
            rotate_left
            ·
             intro w'
             go_simp
             with_reducible rfl
            rotate_left
            ·
             simp only [Act.put, sA, sB, sC, i64_w, i32_w]
             rfl
            refine pure_ (i := 1) (N := some 68) (v := ?_) (a' := ?_) #[true, true, false, false, false, false, false, false, false, false, false, false, false, false, false, false, false, false, false, false, false, false, false, false] rfl rfl (any_of HT_.out (by kernel_rfl)) (fun _ _ _ h => h) (Or.inl ⟨by rfl, ?_⟩) ?_ ?_
            rotate_left
            ·
             intro w'
             go_simp
             with_reducible rfl
            rotate_left
            ·
             simp only [Act.put, sA, sB, sC, i64_w, i32_w]
             rfl
            refine pure_ (i := 2) (N := some 69) (v := ?_) (a' := ?_) #[true, true, true, false, false, false, false, false, false, false, false, false, false, false, false, false, false, false, false, false, false, false, false, false] rfl rfl (any_of HT_.out (by kernel_rfl)) (fun _ _ _ h => h) (Or.inl ⟨by rfl, ?_⟩) ?_ ?_
            rotate_left
            ·
             intro w'
             go_simp
             with_reducible rfl
            rotate_left
            ·
             simp only [Act.put, sA, sB, sC, i64_w, i32_w]
             rfl
            refine pure_ (i := 3) (N := some 70) (v := ?_) (a' := ?_) #[true, true, true, true, false, false, false, false, false, false, false, false, false, false, false, false, false, false, false, false, false, false, false, false] rfl rfl (any_of HT_.out (by kernel_rfl)) (fun _ _ _ h => h) (Or.inl ⟨by rfl, ?_⟩) ?_ ?_
            rotate_left
            ·
             intro w'
             go_simp
             with_reducible rfl
            rotate_left
            ·
             simp only [Act.put, sA, sB, sC, i64_w, i32_w]
             rfl
            refine pure_ (i := 4) (N := some 71) (v := ?_) (a' := ?_) #[true, true, true, true, true, false, false, false, false, false, false, false, false, false, false, false, false, false, false, false, false, false, false, false] rfl rfl (any_of HT_.out (by kernel_rfl)) (fun _ _ _ h => h) (Or.inl ⟨by rfl, ?_⟩) ?_ ?_
            rotate_left
            ·
             intro w'
             go_simp
             with_reducible rfl
            rotate_left
            ·
             simp only [Act.put, sA, sB, sC, i64_w, i32_w]
             rfl
            refine pure_ (i := 5) (N := some 72) (v := ?_) (a' := ?_) #[true, true, true, true, true, true, false, false, false, false, false, false, false, false, false, false, false, false, false, false, false, false, false, false] rfl rfl (any_of HT_.out (by kernel_rfl)) (fun _ _ _ h => h) (Or.inl ⟨by rfl, ?_⟩) ?_ ?_
            rotate_left
            ·
             intro w'
             go_simp
             with_reducible rfl
            rotate_left
            ·
             simp only [Act.put, sA, sB, sC, i64_w, i32_w]
             rfl
            refine pure_ (i := 6) (N := some 73) (v := ?_) (a' := ?_) #[true, true, true, true, true, true, true, false, false, false, false, false, false, false, false, false, false, false, false, false, false, false, false, false] rfl rfl (any_of HT_.out (by kernel_rfl)) (fun _ _ _ h => h) (Or.inl ⟨by rfl, ?_⟩) ?_ ?_
            rotate_left
            ·
             intro w'
             go_simp
             with_reducible rfl
            rotate_left
            ·
             simp only [Act.put, sA, sB, sC, i64_w, i32_w]
             rfl
            refine take_ (i := 7) (N := some 74) (v := ?_) (a' := ?_) #[true, true, true, true, true, true, true, true, false, false, false, false, false, false, false, false, false, false, false, false, false, false, false, false] rfl rfl (take_ofW HT_.out HW_.out (by kernel_rfl)) (fun _ _ _ h => h) (Or.inl ⟨by rfl, ?_⟩) hHeld ?_ ?_
            rotate_left
            ·
             rintro w' ⟨s0, s1, s2, s3, s4, s5, s6, s7, s8, s9, s10, s11, s12, s13, s14, s15⟩
             go_simp
             with_reducible rfl
            rotate_left
            ·
             simp only [Act.put, sA, sB, sC, i64_w, i32_w]
             rfl
            refine take_ (i := 8) (N := some 75) (v := ?_) (a' := ?_) #[true, true, true, true, true, true, true, true, true, false, false, false, false, false, false, false, false, false, false, false, false, false, false, false] rfl rfl (take_ofW HT_.out HW_.out (by kernel_rfl)) (fun _ _ _ h => h) (Or.inl ⟨by rfl, ?_⟩) hHeld ?_ ?_
            rotate_left
            ·
             rintro w' ⟨s0, s1, s2, s3, s4, s5, s6, s7, s8, s9, s10, s11, s12, s13, s14, s15⟩
             go_simp
             with_reducible rfl
            rotate_left
            ·
             simp only [Act.put, sA, sB, sC, i64_w, i32_w]
             rfl
            refine pure_ (i := 9) (N := some 76) (v := ?_) (a' := ?_) #[true, true, true, true, true, true, true, true, true, true, false, false, false, false, false, false, false, false, false, false, false, false, false, false] rfl rfl (any_of HT_.out (by kernel_rfl)) (fun _ _ _ h => h) (Or.inl ⟨by rfl, ?_⟩) ?_ ?_
            rotate_left
            ·
             intro w'
             go_simp
             with_reducible rfl
            rotate_left
            ·
             simp only [Act.put, sA, sB, sC, i64_w, i32_w]
             rfl
            refine pure_ (i := 10) (N := some 77) (v := ?_) (a' := ?_) #[true, true, true, true, true, true, true, true, true, true, true, false, false, false, false, false, false, false, false, false, false, false, false, false] rfl rfl (any_of HT_.out (by kernel_rfl)) (fun _ _ _ h => h) (Or.inl ⟨by rfl, ?_⟩) ?_ ?_
            rotate_left
            ·
             intro w'
             go_simp
             with_reducible rfl
            rotate_left
            ·
             simp only [Act.put, sA, sB, sC, i64_w, i32_w]
             rfl
            refine pure_ (i := 11) (N := some 78) (v := ?_) (a' := ?_) #[true, true, true, true, true, true, true, true, true, true, true, true, false, false, false, false, false, false, false, false, false, false, false, false] rfl rfl (any_of HT_.out (by kernel_rfl)) (fun _ _ _ h => h) (Or.inl ⟨by rfl, ?_⟩) ?_ ?_
            rotate_left
            ·
             intro w'
             go_simp
             with_reducible rfl
            rotate_left
            ·
             simp only [Act.put, sA, sB, sC, i64_w, i32_w]
             rfl
            refine pure_ (i := 12) (N := some 79) (v := ?_) (a' := ?_) #[true, true, true, true, true, true, true, true, true, true, true, true, true, false, false, false, false, false, false, false, false, false, false, false] rfl rfl (any_of HT_.out (by kernel_rfl)) (fun _ _ _ h => h) (Or.inl ⟨by rfl, ?_⟩) ?_ ?_
            rotate_left
            ·
             intro w'
             go_simp
             with_reducible rfl
            rotate_left
            ·
             simp only [Act.put, sA, sB, sC, i64_w, i32_w]
             rfl
            refine pure_ (i := 13) (N := some 80) (v := ?_) (a' := ?_) #[true, true, true, true, true, true, true, true, true, true, true, true, true, true, false, false, false, false, false, false, false, false, false, false] rfl rfl (any_of HT_.out (by kernel_rfl)) (fun _ _ _ h => h) (Or.inl ⟨by rfl, ?_⟩) ?_ ?_
            rotate_left
            ·
             intro w'
             go_simp
             with_reducible rfl
            rotate_left
            ·
             simp only [Act.put, sA, sB, sC, i64_w, i32_w]
             rfl
            refine pure_ (i := 17) (N := some 84) (v := ?_) (a' := ?_) #[true, true, true, true, true, true, true, true, true, true, true, true, true, true, false, false, false, true, false, false, false, false, false, false] rfl rfl (any_of HT_.out (by kernel_rfl)) (fun _ _ _ h => h) (Or.inl ⟨by rfl, ?_⟩) ?_ ?_
            rotate_left
            ·
             intro w'
             go_simp
             with_reducible rfl
            rotate_left
            ·
             simp only [Act.put, sA, sB, sC, i64_w, i32_w]
             rfl
            refine pure_ (i := 18) (N := some 85) (v := ?_) (a' := ?_) #[true, true, true, true, true, true, true, true, true, true, true, true, true, true, false, false, false, true, true, false, false, false, false, false] rfl rfl (any_of HT_.out (by kernel_rfl)) (fun _ _ _ h => h) (Or.inl ⟨by rfl, ?_⟩) ?_ ?_
            rotate_left
            ·
             intro w'
             go_simp
             with_reducible rfl
            rotate_left
            ·
             simp only [Act.put, sA, sB, sC, i64_w, i32_w]
             rfl
            refine take_ (i := 14) (N := some 81) (v := ?_) (a' := ?_) #[true, true, true, true, true, true, true, true, true, true, true, true, true, true, true, false, false, true, true, false, false, false, false, false] rfl rfl (take_ofW HT_.out HW_.out (by kernel_rfl)) (fun _ _ _ h => h) (Or.inl ⟨by rfl, ?_⟩) hHeld ?_ ?_
            rotate_left
            ·
             rintro w' ⟨s0, s1, s2, s3, s4, s5, s6, s7, s8, s9, s10, s11, s12, s13, s14, s15⟩
             go_simp
             with_reducible rfl
            rotate_left
            ·
             simp only [Act.put, sA, sB, sC, i64_w, i32_w]
             rfl
            refine take_ (i := 19) (N := some 86) (v := ?_) (a' := ?_) #[true, true, true, true, true, true, true, true, true, true, true, true, true, true, true, false, false, true, true, true, false, false, false, false] rfl rfl (take_ofW HT_.out HW_.out (by kernel_rfl)) (fun _ _ _ h => h) (Or.inl ⟨by rfl, ?_⟩) hHeld ?_ ?_
            rotate_left
            ·
             rintro w' ⟨s0, s1, s2, s3, s4, s5, s6, s7, s8, s9, s10, s11, s12, s13, s14, s15⟩
             go_simp
             with_reducible rfl
            rotate_left
            ·
             simp only [Act.put, sA, sB, sC, i64_w, i32_w]
             rfl
            refine one_ (i := 15) (N := some 82) #[true, true, true, true, true, true, true, true, true, true, true, true, true, true, true, true, false, true, true, true, false, false, false, false] rfl rfl (one_of HT_.out (by kernel_rfl)) (by decide) (fun K hK => ?_)
            refine goes_ Try.func18 (by kernel_rfl) rfl #[.slice Ao46 y299.length co46, .int .i64 a3_3] (by rfl) rfl rfl (by (try simp only [List.map_toArray, List.map_cons, List.map_nil]); first | done | rfl | (simp only [List.length_drop, List.length_take]; rfl)) ?_
            with_reducible refine (policy_Reach.calls _ _ y299 a3_3 t318 _ ?side1 ?side2 A58.out).mono ?_
            (case side1 => repeat (first | exact (Kd.R_reads' HO301.out).2.2 | (with_reducible refine Kd.C_alloc ?_ _) | (with_reducible refine Kd.C_drewN ?_ _) | (with_reducible refine Kd.C_drew ?_)))
            (case side2 => exact (Kd.R_reads' HO301.out).2.1)
            rintro e w62 ⟨v319, rfl, ho0, hb⟩
            refine ⟨_, rfl, ?_⟩
            have n0_ := Aside0.mk (Kd.R_elder' (by (with_reducible repeat (first | apply Kd.R_alloc | apply Kd.R_drewN | apply Kd.R_drew)); exact HO292.out) (Kd.R_base ho0) hb)
            have n1_ := Aside0.mk (Kd.R_elder' (by (with_reducible repeat (first | apply Kd.R_alloc | apply Kd.R_drewN | apply Kd.R_drew)); exact HO301.out) (Kd.R_base ho0) hb)
            have n2_ := Aside0.mk (Kd.R_lower (Kd.R_newB (Kd.R_newB (Kd.R_newB (Kd.R_new' (Kd.R_new' ho0 (Kd.R_lt (by (with_reducible repeat (first | apply Kd.R_alloc | apply Kd.R_drewN | apply Kd.R_drew)); exact HO292.out))) (Kd.R_lt (by (with_reducible repeat (first | apply Kd.R_alloc | apply Kd.R_drewN | apply Kd.R_drew)); exact HO301.out))) (g := gb280) (o := .cells #[.int .i64 a1_0, .int .i64 a1_1, .int .i64 a1_2, .int .i64 a1_3, .int .i64 a1_4, .int .i64 a1_5] 31 (0, 0)) (by (with_reducible repeat (first | refine kN ?_ _ | refine kD ?_ | refine kA ?_ _)); exact BK280.out)) (g := gb309) (o := .cells #[.int .i64 t302, .int .i64 t303, .int .i64 t304, .int .i64 t305, .int .i64 t306, .int .i64 t307] 31 (0, 0)) (by (with_reducible repeat (first | refine kN ?_ _ | refine kD ?_ | refine kA ?_ _)); exact BK309.out)) (g := gb317) (o := .cells #[.int .i64 t310, .int .i64 t311, .int .i64 t312, .int .i64 t313, .int .i64 t314, .int .i64 t315] 31 (0, 0)) (by (with_reducible repeat (first | refine kN ?_ _ | refine kD ?_ | refine kA ?_ _)); exact BK317.out)) (below_size (by repeat (first | (with_reducible first | exact HB.out | apply bA | apply bN | apply bD | refine bS ?_ GE280.out | refine bS ?_ GE281.out | refine bS ?_ GE309.out | refine bS ?_ GE317.out) | exact HB.out))))
            have n3_ := Aside0.mk (blk_below (g := gb280) (o := .cells #[.int .i64 a1_0, .int .i64 a1_1, .int .i64 a1_2, .int .i64 a1_3, .int .i64 a1_4, .int .i64 a1_5] 31 (0, 0)) (by (with_reducible repeat (first | refine kN ?_ _ | refine kD ?_ | refine kA ?_ _)); exact BK280.out) hb)
            have n4_ := Aside0.mk (blk_below (g := gb281) (o := .cells #[.int .i64 a3_0, .int .i64 a3_1, .slice A3_2 l3_2.length c3_2, .int .i64 a3_3] 27 (0, 0)) (by (with_reducible repeat (first | refine kN ?_ _ | refine kD ?_ | refine kA ?_ _)); exact BK281.out) hb)
            have n5_ := Aside0.mk (blk_below (g := gb309) (o := .cells #[.int .i64 t302, .int .i64 t303, .int .i64 t304, .int .i64 t305, .int .i64 t306, .int .i64 t307] 31 (0, 0)) (by (with_reducible repeat (first | refine kN ?_ _ | refine kD ?_ | refine kA ?_ _)); exact BK309.out) hb)
            have n6_ := Aside0.mk (blk_below (g := gb317) (o := .cells #[.int .i64 t310, .int .i64 t311, .int .i64 t312, .int .i64 t313, .int .i64 t314, .int .i64 t315] 31 (0, 0)) (by (with_reducible repeat (first | refine kN ?_ _ | refine kD ?_ | refine kA ?_ _)); exact BK317.out) hb)
            have n7_ := Aside0.mk (below_step (by repeat (first | (with_reducible first | exact HB.out | apply bA | apply bN | apply bD | refine bS ?_ GE280.out | refine bS ?_ GE281.out | refine bS ?_ GE309.out | refine bS ?_ GE317.out) | exact HB.out)) hb)
            clear HO292
            clear HO301
            clear BK280
            clear BK281
            clear BK309
            clear BK317
            clear HB
            have HO292 := n0_
            have HO301 := n1_
            have HO320 := n2_
            have BK280 := n3_
            have BK281 := n4_
            have BK309 := n5_
            have BK317 := n6_
            have HB := n7_
            clear n0_ n1_ n2_ n3_ n4_ n5_ n6_ n7_
            (try clear hb)
            (try clear hb2)
            (try clear hk)
            (try clear hi)
            (try clear ho0)
            obtain ⟨Ao63, co63, eo63⟩ := Kd.R_slice HO320.out
            (first | subst eo63 | (injection eo63 with f1_ f2_ f3_; have f4_ := f1_.symm; have f5_ := f3_.symm; clear f1_ f2_ f3_; subst f4_; subst f5_))
            refine hK.out _ _ ⟨(blk_cell BK309.out 0).trans rfl, (blk_cell BK309.out 1).trans rfl, (blk_cell BK309.out 2).trans rfl, (blk_cell BK309.out 3).trans rfl, (blk_cell BK309.out 4).trans rfl, (blk_cell BK309.out 5).trans rfl, (blk_cell BK317.out 0).trans rfl, (blk_cell BK317.out 1).trans rfl, (blk_cell BK317.out 2).trans rfl, (blk_cell BK317.out 3).trans rfl, (blk_cell BK317.out 4).trans rfl, (blk_cell BK317.out 5).trans rfl, (blk_cell BK281.out 0).trans rfl, (blk_cell BK281.out 1).trans rfl, (blk_cell BK281.out 2).trans rfl, (blk_cell BK281.out 3).trans rfl⟩ (fun hHeld => ?_)
            clear hK K
            refine norm_ (a' := ?_) ?_ ?_
            rotate_left
            ·
             show Act.put _ (some 82) _ = _
             simp only [Act.put, sA, sB, sC, i64_w, i32_w]
             rfl
            refine pure_ (i := 16) (N := some 83) (v := ?_) (a' := ?_) #[true, true, true, true, true, true, true, true, true, true, true, true, true, true, true, true, true, true, true, true, false, false, false, false] rfl rfl (any_of HT_.out (by kernel_rfl)) (fun _ _ _ h => h) (Or.inl ⟨by rfl, ?_⟩) ?_ ?_
            rotate_left
            ·
             intro w'
             go_simp
             with_reducible rfl
            rotate_left
            ·
             simp only [Act.put, sA, sB, sC, i64_w, i32_w]
             rfl
            refine one_ (i := 20) (N := some 87) #[true, true, true, true, true, true, true, true, true, true, true, true, true, true, true, true, true, true, true, true, true, false, false, false] rfl rfl (one_of HT_.out (by kernel_rfl)) (by decide) (fun K hK => ?_)
            refine goes_ Try.func18 (by kernel_rfl) rfl #[.slice Ao37 y290.length co37, .int .i64 a3_3] (by rfl) rfl rfl (by (try simp only [List.map_toArray, List.map_cons, List.map_nil]); first | done | rfl | (simp only [List.length_drop, List.length_take]; rfl)) ?_
            with_reducible refine (policy_Reach.calls _ _ y290 a3_3 t321 _ ?side1 ?side2 A59.out).mono ?_
            (case side1 => repeat (first | exact (Kd.R_reads' HO292.out).2.2 | (with_reducible refine Kd.C_alloc ?_ _) | (with_reducible refine Kd.C_drewN ?_ _) | (with_reducible refine Kd.C_drew ?_)))
            (case side2 => exact (Kd.R_reads' HO292.out).2.1)
            rintro e w64 ⟨v322, rfl, ho0, hb⟩
            refine ⟨_, rfl, ?_⟩
            have n0_ := Aside0.mk (Kd.R_elder' (by (with_reducible repeat (first | apply Kd.R_alloc | apply Kd.R_drewN | apply Kd.R_drew)); exact HO292.out) (Kd.R_base ho0) hb)
            have n1_ := Aside0.mk (Kd.R_elder' (by (with_reducible repeat (first | apply Kd.R_alloc | apply Kd.R_drewN | apply Kd.R_drew)); exact HO301.out) (Kd.R_base ho0) hb)
            have n2_ := Aside0.mk (Kd.R_elder' (by (with_reducible repeat (first | apply Kd.R_alloc | apply Kd.R_drewN | apply Kd.R_drew)); exact HO320.out) (Kd.R_base ho0) hb)
            have n3_ := Aside0.mk (Kd.R_lower (Kd.R_newB (Kd.R_newB (Kd.R_newB (Kd.R_new' (Kd.R_new' (Kd.R_new' ho0 (Kd.R_lt (by (with_reducible repeat (first | apply Kd.R_alloc | apply Kd.R_drewN | apply Kd.R_drew)); exact HO292.out))) (Kd.R_lt (by (with_reducible repeat (first | apply Kd.R_alloc | apply Kd.R_drewN | apply Kd.R_drew)); exact HO301.out))) (Kd.R_lt (by (with_reducible repeat (first | apply Kd.R_alloc | apply Kd.R_drewN | apply Kd.R_drew)); exact HO320.out))) (g := gb280) (o := .cells #[.int .i64 a1_0, .int .i64 a1_1, .int .i64 a1_2, .int .i64 a1_3, .int .i64 a1_4, .int .i64 a1_5] 31 (0, 0)) (by (with_reducible repeat (first | refine kN ?_ _ | refine kD ?_ | refine kA ?_ _)); exact BK280.out)) (g := gb309) (o := .cells #[.int .i64 t302, .int .i64 t303, .int .i64 t304, .int .i64 t305, .int .i64 t306, .int .i64 t307] 31 (0, 0)) (by (with_reducible repeat (first | refine kN ?_ _ | refine kD ?_ | refine kA ?_ _)); exact BK309.out)) (g := gb317) (o := .cells #[.int .i64 t310, .int .i64 t311, .int .i64 t312, .int .i64 t313, .int .i64 t314, .int .i64 t315] 31 (0, 0)) (by (with_reducible repeat (first | refine kN ?_ _ | refine kD ?_ | refine kA ?_ _)); exact BK317.out)) (below_size (by repeat (first | (with_reducible first | exact HB.out | apply bA | apply bN | apply bD | refine bS ?_ GE280.out | refine bS ?_ GE281.out | refine bS ?_ GE309.out | refine bS ?_ GE317.out) | exact HB.out))))
            have n4_ := Aside0.mk (blk_below (g := gb280) (o := .cells #[.int .i64 a1_0, .int .i64 a1_1, .int .i64 a1_2, .int .i64 a1_3, .int .i64 a1_4, .int .i64 a1_5] 31 (0, 0)) (by (with_reducible repeat (first | refine kN ?_ _ | refine kD ?_ | refine kA ?_ _)); exact BK280.out) hb)
            have n5_ := Aside0.mk (blk_below (g := gb281) (o := .cells #[.int .i64 a3_0, .int .i64 a3_1, .slice A3_2 l3_2.length c3_2, .int .i64 a3_3] 27 (0, 0)) (by (with_reducible repeat (first | refine kN ?_ _ | refine kD ?_ | refine kA ?_ _)); exact BK281.out) hb)
            have n6_ := Aside0.mk (blk_below (g := gb309) (o := .cells #[.int .i64 t302, .int .i64 t303, .int .i64 t304, .int .i64 t305, .int .i64 t306, .int .i64 t307] 31 (0, 0)) (by (with_reducible repeat (first | refine kN ?_ _ | refine kD ?_ | refine kA ?_ _)); exact BK309.out) hb)
            have n7_ := Aside0.mk (blk_below (g := gb317) (o := .cells #[.int .i64 t310, .int .i64 t311, .int .i64 t312, .int .i64 t313, .int .i64 t314, .int .i64 t315] 31 (0, 0)) (by (with_reducible repeat (first | refine kN ?_ _ | refine kD ?_ | refine kA ?_ _)); exact BK317.out) hb)
            have n8_ := Aside0.mk (below_step (by repeat (first | (with_reducible first | exact HB.out | apply bA | apply bN | apply bD | refine bS ?_ GE280.out | refine bS ?_ GE281.out | refine bS ?_ GE309.out | refine bS ?_ GE317.out) | exact HB.out)) hb)
            clear HO292
            clear HO301
            clear HO320
            clear BK280
            clear BK281
            clear BK309
            clear BK317
            clear HB
            have HO292 := n0_
            have HO301 := n1_
            have HO320 := n2_
            have HO323 := n3_
            have BK280 := n4_
            have BK281 := n5_
            have BK309 := n6_
            have BK317 := n7_
            have HB := n8_
            clear n0_ n1_ n2_ n3_ n4_ n5_ n6_ n7_ n8_
            (try clear hb)
            (try clear hb2)
            (try clear hk)
            (try clear hi)
            (try clear ho0)
            obtain ⟨Ao65, co65, eo65⟩ := Kd.R_slice HO323.out
            (first | subst eo65 | (injection eo65 with f1_ f2_ f3_; have f4_ := f1_.symm; have f5_ := f3_.symm; clear f1_ f2_ f3_; subst f4_; subst f5_))
            refine hK.out _ _ ⟨(blk_cell BK309.out 0).trans rfl, (blk_cell BK309.out 1).trans rfl, (blk_cell BK309.out 2).trans rfl, (blk_cell BK309.out 3).trans rfl, (blk_cell BK309.out 4).trans rfl, (blk_cell BK309.out 5).trans rfl, (blk_cell BK317.out 0).trans rfl, (blk_cell BK317.out 1).trans rfl, (blk_cell BK317.out 2).trans rfl, (blk_cell BK317.out 3).trans rfl, (blk_cell BK317.out 4).trans rfl, (blk_cell BK317.out 5).trans rfl, (blk_cell BK281.out 0).trans rfl, (blk_cell BK281.out 1).trans rfl, (blk_cell BK281.out 2).trans rfl, (blk_cell BK281.out 3).trans rfl⟩ (fun hHeld => ?_)
            clear hK K
            refine norm_ (a' := ?_) ?_ ?_
            rotate_left
            ·
             show Act.put _ (some 87) _ = _
             simp only [Act.put, sA, sB, sC, i64_w, i32_w]
             rfl
            refine pure_ (i := 21) (N := some 88) (v := ?_) (a' := ?_) #[true, true, true, true, true, true, true, true, true, true, true, true, true, true, true, true, true, true, true, true, true, true, false, false] rfl rfl (any_of HT_.out (by kernel_rfl)) (fun _ _ _ h => h) (Or.inl ⟨by rfl, ?_⟩) ?_ ?_
            rotate_left
            ·
             intro w'
             go_simp
             with_reducible rfl
            rotate_left
            ·
             simp only [Act.put, sA, sB, sC, i64_w, i32_w]
             rfl
            refine pure_ (i := 22) (N := some 89) (v := ?_) (a' := ?_) #[true, true, true, true, true, true, true, true, true, true, true, true, true, true, true, true, true, true, true, true, true, true, true, false] rfl rfl (any_of HT_.out (by kernel_rfl)) (fun _ _ _ h => h) (Or.inl ⟨by rfl, ?_⟩) ?_ ?_
            rotate_left
            ·
             intro w'
             go_simp
             with_reducible rfl
            rotate_left
            ·
             simp only [Act.put, sA, sB, sC, i64_w, i32_w]
             rfl
            refine pure_ (i := 23) (N := some 90) (v := ?_) (a' := ?_) #[true, true, true, true, true, true, true, true, true, true, true, true, true, true, true, true, true, true, true, true, true, true, true, true] rfl rfl (any_of HT_.out (by kernel_rfl)) (fun _ _ _ h => h) (Or.inl ⟨by rfl, ?_⟩) ?_ ?_
            rotate_left
            ·
             intro w'
             go_simp
             with_reducible rfl
            rotate_left
            ·
             simp only [Act.put, sA, sB, sC, i64_w, i32_w]
             rfl
            refine done_ (done_of HT_.out (by kernel_rfl)) ?_
            try go_wp2
            go_meet
            case rel => exact ⟨_, (((t318.length : Int) != (t321.length : Int))), (by first | rfl | (simp; done) | (simp [*]; done)), H', ⟨by have := HJ5.out; first | omega | exact Nat.le_refl _⟩, ⟨by (with_reducible repeat (first | apply Kd.R_alloc | apply Kd.R_drewN | apply Kd.R_drew)); exact Kd.R_mono HO292.out (fun _ hk => ⟨hk.1.1.2.1, ⟨hk.1.1.2.2.1, hk.1.1.2.2.2⟩⟩)⟩, ⟨by (with_reducible repeat (first | refine kN ?_ _ | refine kD ?_ | refine kA ?_ _)); exact BK280.out⟩, ⟨by (with_reducible repeat (first | refine kN ?_ _ | refine kD ?_ | refine kA ?_ _)); exact BK281.out⟩, ⟨by (with_reducible repeat (first | refine kN ?_ _ | refine kD ?_ | refine kA ?_ _)); exact BK309.out⟩, ⟨by (with_reducible repeat (first | refine kN ?_ _ | refine kD ?_ | refine kA ?_ _)); exact BK317.out⟩, ⟨by repeat (first | (with_reducible first | exact HB.out | apply bA | apply bN | apply bD | refine bS ?_ GE280.out | refine bS ?_ GE281.out | refine bS ?_ GE309.out | refine bS ?_ GE317.out) | exact HB.out)⟩⟩
          ·
           replace c54 := Bool.eq_false_iff.mpr c54
           subst c54
           have H1 : (ridgewaylaw10_PolicyBehind.j1 kj5 l2 t282 y290 true a3_0 a3_1 l3_2 a3_3 t302 t303 t304 t305 t306 t307) = some true := by rw [if_neg (show ¬ (false = true) by decide)] at H; first | done | exact H
           clear H
           have H := H1
           clear H1
           have H' := Aside0.mk H
           clear H
           try go_wp2
           have n0_ : Aside0 (Kd.R k31 31 ((((((w48.setCell ⟨gb317, 0, none⟩ (.int .i64 t310)).setCell ⟨gb317, 1, none⟩ (.int .i64 t311)).setCell ⟨gb317, 2, none⟩ (.int .i64 t312)).setCell ⟨gb317, 3, none⟩ (.int .i64 t313)).setCell ⟨gb317, 4, none⟩ (.int .i64 t314)).setCell ⟨gb317, 5, none⟩ (.int .i64 t315)) w.heap.size (fun k_ => some k_ ≠ (.slice Ao46 y299.length co46 : Value).ownBlock ∧ k_ ≠ gb280 ∧ k_ ≠ gb309 ∧ k_ ≠ gb317) (.slice Ao37 y290.length co37) y290) := ⟨by (with_reducible repeat (first | apply Kd.R_alloc | apply Kd.R_drewN | apply Kd.R_drew)); exact Kd.R_mono (Kd.R_far (p := ⟨gb317, 5, none⟩) (Kd.R_far (p := ⟨gb317, 4, none⟩) (Kd.R_far (p := ⟨gb317, 3, none⟩) (Kd.R_far (p := ⟨gb317, 2, none⟩) (Kd.R_far (p := ⟨gb317, 1, none⟩) (Kd.R_far (p := ⟨gb317, 0, none⟩) (Kd.R_mono HO292.out (fun k_ hk => (⟨hk, hk.2⟩ : _ ∧ k_ ≠ gb317))) (fun _ hk => hk.2) (.int .i64 t310)) (fun _ hk => hk.2) (.int .i64 t311)) (fun _ hk => hk.2) (.int .i64 t312)) (fun _ hk => hk.2) (.int .i64 t313)) (fun _ hk => hk.2) (.int .i64 t314)) (fun _ hk => hk.2) (.int .i64 t315)) (fun _ hk => ⟨hk.1.1.1.2, ⟨hk.1.1.1.1, ⟨hk.1.1.2, hk.1.2⟩⟩⟩)⟩
           have n1_ : Aside0 (Kd.R k31 31 ((((((w48.setCell ⟨gb317, 0, none⟩ (.int .i64 t310)).setCell ⟨gb317, 1, none⟩ (.int .i64 t311)).setCell ⟨gb317, 2, none⟩ (.int .i64 t312)).setCell ⟨gb317, 3, none⟩ (.int .i64 t313)).setCell ⟨gb317, 4, none⟩ (.int .i64 t314)).setCell ⟨gb317, 5, none⟩ (.int .i64 t315)) w.heap.size (fun k_ => some k_ ≠ (.slice Ao37 y290.length co37 : Value).ownBlock ∧ k_ ≠ gb280 ∧ k_ ≠ gb309 ∧ k_ ≠ gb317) (.slice Ao46 y299.length co46) y299) := ⟨by (with_reducible repeat (first | apply Kd.R_alloc | apply Kd.R_drewN | apply Kd.R_drew)); exact Kd.R_mono (Kd.R_far (p := ⟨gb317, 5, none⟩) (Kd.R_far (p := ⟨gb317, 4, none⟩) (Kd.R_far (p := ⟨gb317, 3, none⟩) (Kd.R_far (p := ⟨gb317, 2, none⟩) (Kd.R_far (p := ⟨gb317, 1, none⟩) (Kd.R_far (p := ⟨gb317, 0, none⟩) (Kd.R_mono HO301.out (fun k_ hk => (⟨hk, hk.2⟩ : _ ∧ k_ ≠ gb317))) (fun _ hk => hk.2) (.int .i64 t310)) (fun _ hk => hk.2) (.int .i64 t311)) (fun _ hk => hk.2) (.int .i64 t312)) (fun _ hk => hk.2) (.int .i64 t313)) (fun _ hk => hk.2) (.int .i64 t314)) (fun _ hk => hk.2) (.int .i64 t315)) (fun _ hk => ⟨hk.1.1.1.1, ⟨hk.1.1.1.2, ⟨hk.1.1.2, hk.1.2⟩⟩⟩)⟩
           have n2_ : Aside0 (((((((w48.setCell ⟨gb317, 0, none⟩ (.int .i64 t310)).setCell ⟨gb317, 1, none⟩ (.int .i64 t311)).setCell ⟨gb317, 2, none⟩ (.int .i64 t312)).setCell ⟨gb317, 3, none⟩ (.int .i64 t313)).setCell ⟨gb317, 4, none⟩ (.int .i64 t314)).setCell ⟨gb317, 5, none⟩ (.int .i64 t315)).heap[gb280]? = some (.cells #[.int .i64 a1_0, .int .i64 a1_1, .int .i64 a1_2, .int .i64 a1_3, .int .i64 a1_4, .int .i64 a1_5] 31 (0, 0))) := ⟨by (with_reducible repeat (first | refine kN ?_ _ | refine kD ?_ | refine kA ?_ _)); refine blk_far ?_ NB280_317.out _; (with_reducible repeat (first | refine kN ?_ _ | refine kD ?_ | refine kA ?_ _)); refine blk_far ?_ NB280_317.out _; (with_reducible repeat (first | refine kN ?_ _ | refine kD ?_ | refine kA ?_ _)); refine blk_far ?_ NB280_317.out _; (with_reducible repeat (first | refine kN ?_ _ | refine kD ?_ | refine kA ?_ _)); refine blk_far ?_ NB280_317.out _; (with_reducible repeat (first | refine kN ?_ _ | refine kD ?_ | refine kA ?_ _)); refine blk_far ?_ NB280_317.out _; (with_reducible repeat (first | refine kN ?_ _ | refine kD ?_ | refine kA ?_ _)); refine blk_far ?_ NB280_317.out _; (with_reducible repeat (first | refine kN ?_ _ | refine kD ?_ | refine kA ?_ _)); exact BK280.out⟩
           have n3_ : Aside0 (((((((w48.setCell ⟨gb317, 0, none⟩ (.int .i64 t310)).setCell ⟨gb317, 1, none⟩ (.int .i64 t311)).setCell ⟨gb317, 2, none⟩ (.int .i64 t312)).setCell ⟨gb317, 3, none⟩ (.int .i64 t313)).setCell ⟨gb317, 4, none⟩ (.int .i64 t314)).setCell ⟨gb317, 5, none⟩ (.int .i64 t315)).heap[gb281]? = some (.cells #[.int .i64 a3_0, .int .i64 a3_1, .slice A3_2 l3_2.length c3_2, .int .i64 a3_3] 27 (0, 0))) := ⟨by (with_reducible repeat (first | refine kN ?_ _ | refine kD ?_ | refine kA ?_ _)); refine blk_far ?_ NB281_317.out _; (with_reducible repeat (first | refine kN ?_ _ | refine kD ?_ | refine kA ?_ _)); refine blk_far ?_ NB281_317.out _; (with_reducible repeat (first | refine kN ?_ _ | refine kD ?_ | refine kA ?_ _)); refine blk_far ?_ NB281_317.out _; (with_reducible repeat (first | refine kN ?_ _ | refine kD ?_ | refine kA ?_ _)); refine blk_far ?_ NB281_317.out _; (with_reducible repeat (first | refine kN ?_ _ | refine kD ?_ | refine kA ?_ _)); refine blk_far ?_ NB281_317.out _; (with_reducible repeat (first | refine kN ?_ _ | refine kD ?_ | refine kA ?_ _)); refine blk_far ?_ NB281_317.out _; (with_reducible repeat (first | refine kN ?_ _ | refine kD ?_ | refine kA ?_ _)); exact BK281.out⟩
           have n4_ : Aside0 (((((((w48.setCell ⟨gb317, 0, none⟩ (.int .i64 t310)).setCell ⟨gb317, 1, none⟩ (.int .i64 t311)).setCell ⟨gb317, 2, none⟩ (.int .i64 t312)).setCell ⟨gb317, 3, none⟩ (.int .i64 t313)).setCell ⟨gb317, 4, none⟩ (.int .i64 t314)).setCell ⟨gb317, 5, none⟩ (.int .i64 t315)).heap[gb309]? = some (.cells #[.int .i64 t302, .int .i64 t303, .int .i64 t304, .int .i64 t305, .int .i64 t306, .int .i64 t307] 31 (0, 0))) := ⟨by (with_reducible repeat (first | refine kN ?_ _ | refine kD ?_ | refine kA ?_ _)); refine blk_far ?_ NB309_317.out _; (with_reducible repeat (first | refine kN ?_ _ | refine kD ?_ | refine kA ?_ _)); refine blk_far ?_ NB309_317.out _; (with_reducible repeat (first | refine kN ?_ _ | refine kD ?_ | refine kA ?_ _)); refine blk_far ?_ NB309_317.out _; (with_reducible repeat (first | refine kN ?_ _ | refine kD ?_ | refine kA ?_ _)); refine blk_far ?_ NB309_317.out _; (with_reducible repeat (first | refine kN ?_ _ | refine kD ?_ | refine kA ?_ _)); refine blk_far ?_ NB309_317.out _; (with_reducible repeat (first | refine kN ?_ _ | refine kD ?_ | refine kA ?_ _)); refine blk_far ?_ NB309_317.out _; (with_reducible repeat (first | refine kN ?_ _ | refine kD ?_ | refine kA ?_ _)); exact BK309.out⟩
           have n5_ : Aside0 (((((((w48.setCell ⟨gb317, 0, none⟩ (.int .i64 t310)).setCell ⟨gb317, 1, none⟩ (.int .i64 t311)).setCell ⟨gb317, 2, none⟩ (.int .i64 t312)).setCell ⟨gb317, 3, none⟩ (.int .i64 t313)).setCell ⟨gb317, 4, none⟩ (.int .i64 t314)).setCell ⟨gb317, 5, none⟩ (.int .i64 t315)).heap[gb317]? = some (.cells #[.int .i64 t310, .int .i64 t311, .int .i64 t312, .int .i64 t313, .int .i64 t314, .int .i64 t315] 31 (0, 0))) := ⟨by (with_reducible repeat (first | refine kN ?_ _ | refine kD ?_ | refine kA ?_ _)); refine blk_put (cs := #[.int .i64 t310, .int .i64 t311, .int .i64 t312, .int .i64 t313, .int .i64 t314, .int .i64 0]) ?_ 5 _ rfl; (with_reducible repeat (first | refine kN ?_ _ | refine kD ?_ | refine kA ?_ _)); refine blk_put (cs := #[.int .i64 t310, .int .i64 t311, .int .i64 t312, .int .i64 t313, .int .i64 0, .int .i64 0]) ?_ 4 _ rfl; (with_reducible repeat (first | refine kN ?_ _ | refine kD ?_ | refine kA ?_ _)); refine blk_put (cs := #[.int .i64 t310, .int .i64 t311, .int .i64 t312, .int .i64 0, .int .i64 0, .int .i64 0]) ?_ 3 _ rfl; (with_reducible repeat (first | refine kN ?_ _ | refine kD ?_ | refine kA ?_ _)); refine blk_put (cs := #[.int .i64 t310, .int .i64 t311, .int .i64 0, .int .i64 0, .int .i64 0, .int .i64 0]) ?_ 2 _ rfl; (with_reducible repeat (first | refine kN ?_ _ | refine kD ?_ | refine kA ?_ _)); refine blk_put (cs := #[.int .i64 t310, .int .i64 0, .int .i64 0, .int .i64 0, .int .i64 0, .int .i64 0]) ?_ 1 _ rfl; (with_reducible repeat (first | refine kN ?_ _ | refine kD ?_ | refine kA ?_ _)); refine blk_put (cs := #[.int .i64 0, .int .i64 0, .int .i64 0, .int .i64 0, .int .i64 0, .int .i64 0]) ?_ 0 _ rfl; (with_reducible repeat (first | refine kN ?_ _ | refine kD ?_ | refine kA ?_ _)); exact BK317.out⟩
           have n6_ : Aside0 (Below w.heap.size w ((((((w48.setCell ⟨gb317, 0, none⟩ (.int .i64 t310)).setCell ⟨gb317, 1, none⟩ (.int .i64 t311)).setCell ⟨gb317, 2, none⟩ (.int .i64 t312)).setCell ⟨gb317, 3, none⟩ (.int .i64 t313)).setCell ⟨gb317, 4, none⟩ (.int .i64 t314)).setCell ⟨gb317, 5, none⟩ (.int .i64 t315))) := ⟨by repeat (first | (with_reducible first | exact HB.out | apply bA | apply bN | apply bD | refine bS ?_ GE280.out | refine bS ?_ GE281.out | refine bS ?_ GE309.out | refine bS ?_ GE317.out) | exact HB.out)⟩
           (try clear HO292)
           (try clear HO301)
           (try clear BK280)
           (try clear BK281)
           (try clear BK309)
           (try clear BK317)
           (try clear HB)
           generalize ((((((w48.setCell ⟨gb317, 0, none⟩ (.int .i64 t310)).setCell ⟨gb317, 1, none⟩ (.int .i64 t311)).setCell ⟨gb317, 2, none⟩ (.int .i64 t312)).setCell ⟨gb317, 3, none⟩ (.int .i64 t313)).setCell ⟨gb317, 4, none⟩ (.int .i64 t314)).setCell ⟨gb317, 5, none⟩ (.int .i64 t315)) = w66 at n0_ n1_ n2_ n3_ n4_ n5_ n6_ ⊢
           have HO292 := n0_
           have HO301 := n1_
           have BK280 := n2_
           have BK281 := n3_
           have BK309 := n4_
           have BK317 := n5_
           have HB := n6_
           clear n0_ n1_ n2_ n3_ n4_ n5_ n6_
           have n0_ := Aside0.mk (Kd.R_drew HO292.out)
           have n1_ := Aside0.mk (Kd.R_drew HO301.out)
           have n2_ := Aside0.mk (blk_drew BK280.out)
           have n3_ := Aside0.mk (blk_drew BK281.out)
           have n4_ := Aside0.mk (blk_drew BK309.out)
           have n5_ := Aside0.mk (blk_drew BK317.out)
           have n6_ := Aside0.mk (below_drew1 HB.out)
           clear HO292
           clear HO301
           clear BK280
           clear BK281
           clear BK309
           clear BK317
           clear HB
           have HO292 := n0_
           have HO301 := n1_
           have BK280 := n2_
           have BK281 := n3_
           have BK309 := n4_
           have BK317 := n5_
           have HB := n6_
           clear n0_ n1_ n2_ n3_ n4_ n5_ n6_
           refine start_ (n := 24) (S := fun w' => True) (ds := []) #[false, false, false, false, false, false, false, false, false, false, false, false, false, false, false, false, false, false, false, false, false, false, false, false] (by kernel_rfl) rfl rfl trivial (fun hHeld => ?_); refine with_tabW ridgewaylaw10_PolicyBehind.tab10 ridgewaylaw10_PolicyBehind.bits10 (fun HT_ HW_ => ?_)
           generalize w66.drew = w67 at HO292 HO301 BK280 BK281 BK309 BK317 HB hHeld ⊢
           refine pure_ (i := 0) (N := some 67) (v := ?_) (a' := ?_) #[true, false, false, false, false, false, false, false, false, false, false, false, false, false, false, false, false, false, false, false, false, false, false, false] rfl rfl (any_of HT_.out (by kernel_rfl)) (fun _ _ _ h => h) (Or.inl ⟨by rfl, ?_⟩) ?_ ?_
           rotate_left
           ·
            intro w'
            go_simp
            with_reducible rfl
           rotate_left
           ·
            simp only [Act.put, sA, sB, sC, i64_w, i32_w]
            rfl
           refine pure_ (i := 1) (N := some 68) (v := ?_) (a' := ?_) #[true, true, false, false, false, false, false, false, false, false, false, false, false, false, false, false, false, false, false, false, false, false, false, false] rfl rfl (any_of HT_.out (by kernel_rfl)) (fun _ _ _ h => h) (Or.inl ⟨by rfl, ?_⟩) ?_ ?_
           rotate_left
           ·
            intro w'
            go_simp
            with_reducible rfl
           rotate_left
           ·
            simp only [Act.put, sA, sB, sC, i64_w, i32_w]
            rfl
           refine pure_ (i := 2) (N := some 69) (v := ?_) (a' := ?_) #[true, true, true, false, false, false, false, false, false, false, false, false, false, false, false, false, false, false, false, false, false, false, false, false] rfl rfl (any_of HT_.out (by kernel_rfl)) (fun _ _ _ h => h) (Or.inl ⟨by rfl, ?_⟩) ?_ ?_
           rotate_left
           ·
            intro w'
            go_simp
            with_reducible rfl
           rotate_left
           ·
            simp only [Act.put, sA, sB, sC, i64_w, i32_w]
            rfl
           refine pure_ (i := 3) (N := some 70) (v := ?_) (a' := ?_) #[true, true, true, true, false, false, false, false, false, false, false, false, false, false, false, false, false, false, false, false, false, false, false, false] rfl rfl (any_of HT_.out (by kernel_rfl)) (fun _ _ _ h => h) (Or.inl ⟨by rfl, ?_⟩) ?_ ?_
           rotate_left
           ·
            intro w'
            go_simp
            with_reducible rfl
           rotate_left
           ·
            simp only [Act.put, sA, sB, sC, i64_w, i32_w]
            rfl
           refine pure_ (i := 4) (N := some 71) (v := ?_) (a' := ?_) #[true, true, true, true, true, false, false, false, false, false, false, false, false, false, false, false, false, false, false, false, false, false, false, false] rfl rfl (any_of HT_.out (by kernel_rfl)) (fun _ _ _ h => h) (Or.inl ⟨by rfl, ?_⟩) ?_ ?_
           rotate_left
           ·
            intro w'
            go_simp
            with_reducible rfl
           rotate_left
           ·
            simp only [Act.put, sA, sB, sC, i64_w, i32_w]
            rfl
           refine pure_ (i := 5) (N := some 72) (v := ?_) (a' := ?_) #[true, true, true, true, true, true, false, false, false, false, false, false, false, false, false, false, false, false, false, false, false, false, false, false] rfl rfl (any_of HT_.out (by kernel_rfl)) (fun _ _ _ h => h) (Or.inl ⟨by rfl, ?_⟩) ?_ ?_
           rotate_left
           ·
            intro w'
            go_simp
            with_reducible rfl
           rotate_left
           ·
            simp only [Act.put, sA, sB, sC, i64_w, i32_w]
            rfl
           refine pure_ (i := 6) (N := some 73) (v := ?_) (a' := ?_) #[true, true, true, true, true, true, true, false, false, false, false, false, false, false, false, false, false, false, false, false, false, false, false, false] rfl rfl (any_of HT_.out (by kernel_rfl)) (fun _ _ _ h => h) (Or.inl ⟨by rfl, ?_⟩) ?_ ?_
           rotate_left
           ·
            intro w'
            go_simp
            with_reducible rfl
           rotate_left
           ·
            simp only [Act.put, sA, sB, sC, i64_w, i32_w]
            rfl
           refine pure_ (i := 7) (N := some 74) (v := undef) (a' := ?_) #[true, true, true, true, true, true, true, true, false, false, false, false, false, false, false, false, false, false, false, false, false, false, false, false] rfl rfl (any_of HT_.out (by kernel_rfl)) (fun _ _ _ h => h) (Or.inr ⟨by rfl, rfl⟩) ?_ ?_
           rotate_left
           ·
            simp only [Act.put, sA, sB, sC, i64_w, i32_w]
            rfl
           refine pure_ (i := 8) (N := some 75) (v := undef) (a' := ?_) #[true, true, true, true, true, true, true, true, true, false, false, false, false, false, false, false, false, false, false, false, false, false, false, false] rfl rfl (any_of HT_.out (by kernel_rfl)) (fun _ _ _ h => h) (Or.inr ⟨by rfl, rfl⟩) ?_ ?_
           rotate_left
           ·
            simp only [Act.put, sA, sB, sC, i64_w, i32_w]
            rfl
           refine pure_ (i := 9) (N := some 76) (v := undef) (a' := ?_) #[true, true, true, true, true, true, true, true, true, true, false, false, false, false, false, false, false, false, false, false, false, false, false, false] rfl rfl (any_of HT_.out (by kernel_rfl)) (fun _ _ _ h => h) (Or.inr ⟨by rfl, rfl⟩) ?_ ?_
           rotate_left
           ·
            simp only [Act.put, sA, sB, sC, i64_w, i32_w]
            rfl
           refine pure_ (i := 10) (N := some 77) (v := ?_) (a' := ?_) #[true, true, true, true, true, true, true, true, true, true, true, false, false, false, false, false, false, false, false, false, false, false, false, false] rfl rfl (any_of HT_.out (by kernel_rfl)) (fun _ _ _ h => h) (Or.inl ⟨by rfl, ?_⟩) ?_ ?_
           rotate_left
           ·
            intro w'
            go_simp
            with_reducible rfl
           rotate_left
           ·
            simp only [Act.put, sA, sB, sC, i64_w, i32_w]
            rfl
           refine pure_ (i := 11) (N := some 78) (v := ?_) (a' := ?_) #[true, true, true, true, true, true, true, true, true, true, true, true, false, false, false, false, false, false, false, false, false, false, false, false] rfl rfl (any_of HT_.out (by kernel_rfl)) (fun _ _ _ h => h) (Or.inl ⟨by rfl, ?_⟩) ?_ ?_
           rotate_left
           ·
            intro w'
            go_simp
            with_reducible rfl
           rotate_left
           ·
            simp only [Act.put, sA, sB, sC, i64_w, i32_w]
            rfl
           refine pure_ (i := 12) (N := some 79) (v := undef) (a' := ?_) #[true, true, true, true, true, true, true, true, true, true, true, true, true, false, false, false, false, false, false, false, false, false, false, false] rfl rfl (any_of HT_.out (by kernel_rfl)) (fun _ _ _ h => h) (Or.inr ⟨by rfl, rfl⟩) ?_ ?_
           rotate_left
           ·
            simp only [Act.put, sA, sB, sC, i64_w, i32_w]
            rfl
           refine pure_ (i := 13) (N := some 80) (v := undef) (a' := ?_) #[true, true, true, true, true, true, true, true, true, true, true, true, true, true, false, false, false, false, false, false, false, false, false, false] rfl rfl (any_of HT_.out (by kernel_rfl)) (fun _ _ _ h => h) (Or.inr ⟨by rfl, rfl⟩) ?_ ?_
           rotate_left
           ·
            simp only [Act.put, sA, sB, sC, i64_w, i32_w]
            rfl
           refine pure_ (i := 14) (N := some 81) (v := undef) (a' := ?_) #[true, true, true, true, true, true, true, true, true, true, true, true, true, true, true, false, false, false, false, false, false, false, false, false] rfl rfl (any_of HT_.out (by kernel_rfl)) (fun _ _ _ h => h) (Or.inr ⟨by rfl, rfl⟩) ?_ ?_
           rotate_left
           ·
            simp only [Act.put, sA, sB, sC, i64_w, i32_w]
            rfl
           refine pure_ (i := 15) (N := some 82) (v := undef) (a' := ?_) #[true, true, true, true, true, true, true, true, true, true, true, true, true, true, true, true, false, false, false, false, false, false, false, false] rfl rfl (any_of HT_.out (by kernel_rfl)) (fun _ _ _ h => h) (Or.inr ⟨by rfl, rfl⟩) ?_ ?_
           rotate_left
           ·
            simp only [Act.put, sA, sB, sC, i64_w, i32_w]
            rfl
           refine pure_ (i := 16) (N := some 83) (v := undef) (a' := ?_) #[true, true, true, true, true, true, true, true, true, true, true, true, true, true, true, true, true, false, false, false, false, false, false, false] rfl rfl (any_of HT_.out (by kernel_rfl)) (fun _ _ _ h => h) (Or.inr ⟨by rfl, rfl⟩) ?_ ?_
           rotate_left
           ·
            simp only [Act.put, sA, sB, sC, i64_w, i32_w]
            rfl
           refine pure_ (i := 17) (N := some 84) (v := undef) (a' := ?_) #[true, true, true, true, true, true, true, true, true, true, true, true, true, true, true, true, true, true, false, false, false, false, false, false] rfl rfl (any_of HT_.out (by kernel_rfl)) (fun _ _ _ h => h) (Or.inr ⟨by rfl, rfl⟩) ?_ ?_
           rotate_left
           ·
            simp only [Act.put, sA, sB, sC, i64_w, i32_w]
            rfl
           refine pure_ (i := 18) (N := some 85) (v := undef) (a' := ?_) #[true, true, true, true, true, true, true, true, true, true, true, true, true, true, true, true, true, true, true, false, false, false, false, false] rfl rfl (any_of HT_.out (by kernel_rfl)) (fun _ _ _ h => h) (Or.inr ⟨by rfl, rfl⟩) ?_ ?_
           rotate_left
           ·
            simp only [Act.put, sA, sB, sC, i64_w, i32_w]
            rfl
           refine pure_ (i := 19) (N := some 86) (v := undef) (a' := ?_) #[true, true, true, true, true, true, true, true, true, true, true, true, true, true, true, true, true, true, true, true, false, false, false, false] rfl rfl (any_of HT_.out (by kernel_rfl)) (fun _ _ _ h => h) (Or.inr ⟨by rfl, rfl⟩) ?_ ?_
           rotate_left
           ·
            simp only [Act.put, sA, sB, sC, i64_w, i32_w]
            rfl
           refine pure_ (i := 20) (N := some 87) (v := undef) (a' := ?_) #[true, true, true, true, true, true, true, true, true, true, true, true, true, true, true, true, true, true, true, true, true, false, false, false] rfl rfl (any_of HT_.out (by kernel_rfl)) (fun _ _ _ h => h) (Or.inr ⟨by rfl, rfl⟩) ?_ ?_
           rotate_left
           ·
            simp only [Act.put, sA, sB, sC, i64_w, i32_w]
            rfl
           refine pure_ (i := 21) (N := some 88) (v := undef) (a' := ?_) #[true, true, true, true, true, true, true, true, true, true, true, true, true, true, true, true, true, true, true, true, true, true, false, false] rfl rfl (any_of HT_.out (by kernel_rfl)) (fun _ _ _ h => h) (Or.inr ⟨by rfl, rfl⟩) ?_ ?_
           rotate_left
           ·
            simp only [Act.put, sA, sB, sC, i64_w, i32_w]
            rfl
           refine pure_ (i := 22) (N := some 89) (v := undef) (a' := ?_) #[true, true, true, true, true, true, true, true, true, true, true, true, true, true, true, true, true, true, true, true, true, true, true, false] rfl rfl (any_of HT_.out (by kernel_rfl)) (fun _ _ _ h => h) (Or.inr ⟨by rfl, rfl⟩) ?_ ?_
           rotate_left
           ·
            simp only [Act.put, sA, sB, sC, i64_w, i32_w]
            rfl
           refine pure_ (i := 23) (N := some 90) (v := ?_) (a' := ?_) #[true, true, true, true, true, true, true, true, true, true, true, true, true, true, true, true, true, true, true, true, true, true, true, true] rfl rfl (any_of HT_.out (by kernel_rfl)) (fun _ _ _ h => h) (Or.inl ⟨by rfl, ?_⟩) ?_ ?_
           rotate_left
           ·
            intro w'
            go_simp
            with_reducible rfl
           rotate_left
           ·
            simp only [Act.put, sA, sB, sC, i64_w, i32_w]
            rfl
           refine done_ (done_of HT_.out (by kernel_rfl)) ?_
           try go_wp2
           go_meet
           case rel => exact ⟨_, (true), (by first | rfl | (simp; done) | (simp [*]; done)), H', ⟨by have := HJ5.out; first | omega | exact Nat.le_refl _⟩, ⟨by (with_reducible repeat (first | apply Kd.R_alloc | apply Kd.R_drewN | apply Kd.R_drew)); exact Kd.R_mono HO292.out (fun _ hk => ⟨hk.2.1, ⟨hk.2.2.1, hk.2.2.2⟩⟩)⟩, ⟨by (with_reducible repeat (first | refine kN ?_ _ | refine kD ?_ | refine kA ?_ _)); exact BK280.out⟩, ⟨by (with_reducible repeat (first | refine kN ?_ _ | refine kD ?_ | refine kA ?_ _)); exact BK281.out⟩, ⟨by (with_reducible repeat (first | refine kN ?_ _ | refine kD ?_ | refine kA ?_ _)); exact BK309.out⟩, ⟨by (with_reducible repeat (first | refine kN ?_ _ | refine kD ?_ | refine kA ?_ _)); exact BK317.out⟩, ⟨by repeat (first | (with_reducible first | exact HB.out | apply bA | apply bN | apply bD | refine bS ?_ GE280.out | refine bS ?_ GE281.out | refine bS ?_ GE309.out | refine bS ?_ GE317.out) | exact HB.out)⟩⟩
         ·
          replace c53 := Bool.eq_false_iff.mpr c53
          subst c53
          have H1 : (ridgewaylaw10_PolicyBehind.j1 kj5 l2 t282 y290 true a3_0 a3_1 l3_2 a3_3 t302 t303 t304 t305 t306 t307) = some true := by rw [if_neg (show ¬ (false = true) by decide)] at H; first | done | exact H
          clear H
          have H := H1
          clear H1
          have H' := Aside0.mk H
          clear H
          try go_wp2
          have n0_ : Aside0 (Kd.R k31 31 ((((((w48.setCell ⟨gb317, 0, none⟩ (.int .i64 t310)).setCell ⟨gb317, 1, none⟩ (.int .i64 t311)).setCell ⟨gb317, 2, none⟩ (.int .i64 t312)).setCell ⟨gb317, 3, none⟩ (.int .i64 t313)).setCell ⟨gb317, 4, none⟩ (.int .i64 t314)).setCell ⟨gb317, 5, none⟩ (.int .i64 t315)) w.heap.size (fun k_ => some k_ ≠ (.slice Ao46 y299.length co46 : Value).ownBlock ∧ k_ ≠ gb280 ∧ k_ ≠ gb309 ∧ k_ ≠ gb317) (.slice Ao37 y290.length co37) y290) := ⟨by (with_reducible repeat (first | apply Kd.R_alloc | apply Kd.R_drewN | apply Kd.R_drew)); exact Kd.R_mono (Kd.R_far (p := ⟨gb317, 5, none⟩) (Kd.R_far (p := ⟨gb317, 4, none⟩) (Kd.R_far (p := ⟨gb317, 3, none⟩) (Kd.R_far (p := ⟨gb317, 2, none⟩) (Kd.R_far (p := ⟨gb317, 1, none⟩) (Kd.R_far (p := ⟨gb317, 0, none⟩) (Kd.R_mono HO292.out (fun k_ hk => (⟨hk, hk.2⟩ : _ ∧ k_ ≠ gb317))) (fun _ hk => hk.2) (.int .i64 t310)) (fun _ hk => hk.2) (.int .i64 t311)) (fun _ hk => hk.2) (.int .i64 t312)) (fun _ hk => hk.2) (.int .i64 t313)) (fun _ hk => hk.2) (.int .i64 t314)) (fun _ hk => hk.2) (.int .i64 t315)) (fun _ hk => ⟨hk.1.1.1.2, ⟨hk.1.1.1.1, ⟨hk.1.1.2, hk.1.2⟩⟩⟩)⟩
          have n1_ : Aside0 (Kd.R k31 31 ((((((w48.setCell ⟨gb317, 0, none⟩ (.int .i64 t310)).setCell ⟨gb317, 1, none⟩ (.int .i64 t311)).setCell ⟨gb317, 2, none⟩ (.int .i64 t312)).setCell ⟨gb317, 3, none⟩ (.int .i64 t313)).setCell ⟨gb317, 4, none⟩ (.int .i64 t314)).setCell ⟨gb317, 5, none⟩ (.int .i64 t315)) w.heap.size (fun k_ => some k_ ≠ (.slice Ao37 y290.length co37 : Value).ownBlock ∧ k_ ≠ gb280 ∧ k_ ≠ gb309 ∧ k_ ≠ gb317) (.slice Ao46 y299.length co46) y299) := ⟨by (with_reducible repeat (first | apply Kd.R_alloc | apply Kd.R_drewN | apply Kd.R_drew)); exact Kd.R_mono (Kd.R_far (p := ⟨gb317, 5, none⟩) (Kd.R_far (p := ⟨gb317, 4, none⟩) (Kd.R_far (p := ⟨gb317, 3, none⟩) (Kd.R_far (p := ⟨gb317, 2, none⟩) (Kd.R_far (p := ⟨gb317, 1, none⟩) (Kd.R_far (p := ⟨gb317, 0, none⟩) (Kd.R_mono HO301.out (fun k_ hk => (⟨hk, hk.2⟩ : _ ∧ k_ ≠ gb317))) (fun _ hk => hk.2) (.int .i64 t310)) (fun _ hk => hk.2) (.int .i64 t311)) (fun _ hk => hk.2) (.int .i64 t312)) (fun _ hk => hk.2) (.int .i64 t313)) (fun _ hk => hk.2) (.int .i64 t314)) (fun _ hk => hk.2) (.int .i64 t315)) (fun _ hk => ⟨hk.1.1.1.1, ⟨hk.1.1.1.2, ⟨hk.1.1.2, hk.1.2⟩⟩⟩)⟩
          have n2_ : Aside0 (((((((w48.setCell ⟨gb317, 0, none⟩ (.int .i64 t310)).setCell ⟨gb317, 1, none⟩ (.int .i64 t311)).setCell ⟨gb317, 2, none⟩ (.int .i64 t312)).setCell ⟨gb317, 3, none⟩ (.int .i64 t313)).setCell ⟨gb317, 4, none⟩ (.int .i64 t314)).setCell ⟨gb317, 5, none⟩ (.int .i64 t315)).heap[gb280]? = some (.cells #[.int .i64 a1_0, .int .i64 a1_1, .int .i64 a1_2, .int .i64 a1_3, .int .i64 a1_4, .int .i64 a1_5] 31 (0, 0))) := ⟨by (with_reducible repeat (first | refine kN ?_ _ | refine kD ?_ | refine kA ?_ _)); refine blk_far ?_ NB280_317.out _; (with_reducible repeat (first | refine kN ?_ _ | refine kD ?_ | refine kA ?_ _)); refine blk_far ?_ NB280_317.out _; (with_reducible repeat (first | refine kN ?_ _ | refine kD ?_ | refine kA ?_ _)); refine blk_far ?_ NB280_317.out _; (with_reducible repeat (first | refine kN ?_ _ | refine kD ?_ | refine kA ?_ _)); refine blk_far ?_ NB280_317.out _; (with_reducible repeat (first | refine kN ?_ _ | refine kD ?_ | refine kA ?_ _)); refine blk_far ?_ NB280_317.out _; (with_reducible repeat (first | refine kN ?_ _ | refine kD ?_ | refine kA ?_ _)); refine blk_far ?_ NB280_317.out _; (with_reducible repeat (first | refine kN ?_ _ | refine kD ?_ | refine kA ?_ _)); exact BK280.out⟩
          have n3_ : Aside0 (((((((w48.setCell ⟨gb317, 0, none⟩ (.int .i64 t310)).setCell ⟨gb317, 1, none⟩ (.int .i64 t311)).setCell ⟨gb317, 2, none⟩ (.int .i64 t312)).setCell ⟨gb317, 3, none⟩ (.int .i64 t313)).setCell ⟨gb317, 4, none⟩ (.int .i64 t314)).setCell ⟨gb317, 5, none⟩ (.int .i64 t315)).heap[gb281]? = some (.cells #[.int .i64 a3_0, .int .i64 a3_1, .slice A3_2 l3_2.length c3_2, .int .i64 a3_3] 27 (0, 0))) := ⟨by (with_reducible repeat (first | refine kN ?_ _ | refine kD ?_ | refine kA ?_ _)); refine blk_far ?_ NB281_317.out _; (with_reducible repeat (first | refine kN ?_ _ | refine kD ?_ | refine kA ?_ _)); refine blk_far ?_ NB281_317.out _; (with_reducible repeat (first | refine kN ?_ _ | refine kD ?_ | refine kA ?_ _)); refine blk_far ?_ NB281_317.out _; (with_reducible repeat (first | refine kN ?_ _ | refine kD ?_ | refine kA ?_ _)); refine blk_far ?_ NB281_317.out _; (with_reducible repeat (first | refine kN ?_ _ | refine kD ?_ | refine kA ?_ _)); refine blk_far ?_ NB281_317.out _; (with_reducible repeat (first | refine kN ?_ _ | refine kD ?_ | refine kA ?_ _)); refine blk_far ?_ NB281_317.out _; (with_reducible repeat (first | refine kN ?_ _ | refine kD ?_ | refine kA ?_ _)); exact BK281.out⟩
          have n4_ : Aside0 (((((((w48.setCell ⟨gb317, 0, none⟩ (.int .i64 t310)).setCell ⟨gb317, 1, none⟩ (.int .i64 t311)).setCell ⟨gb317, 2, none⟩ (.int .i64 t312)).setCell ⟨gb317, 3, none⟩ (.int .i64 t313)).setCell ⟨gb317, 4, none⟩ (.int .i64 t314)).setCell ⟨gb317, 5, none⟩ (.int .i64 t315)).heap[gb309]? = some (.cells #[.int .i64 t302, .int .i64 t303, .int .i64 t304, .int .i64 t305, .int .i64 t306, .int .i64 t307] 31 (0, 0))) := ⟨by (with_reducible repeat (first | refine kN ?_ _ | refine kD ?_ | refine kA ?_ _)); refine blk_far ?_ NB309_317.out _; (with_reducible repeat (first | refine kN ?_ _ | refine kD ?_ | refine kA ?_ _)); refine blk_far ?_ NB309_317.out _; (with_reducible repeat (first | refine kN ?_ _ | refine kD ?_ | refine kA ?_ _)); refine blk_far ?_ NB309_317.out _; (with_reducible repeat (first | refine kN ?_ _ | refine kD ?_ | refine kA ?_ _)); refine blk_far ?_ NB309_317.out _; (with_reducible repeat (first | refine kN ?_ _ | refine kD ?_ | refine kA ?_ _)); refine blk_far ?_ NB309_317.out _; (with_reducible repeat (first | refine kN ?_ _ | refine kD ?_ | refine kA ?_ _)); refine blk_far ?_ NB309_317.out _; (with_reducible repeat (first | refine kN ?_ _ | refine kD ?_ | refine kA ?_ _)); exact BK309.out⟩
          have n5_ : Aside0 (((((((w48.setCell ⟨gb317, 0, none⟩ (.int .i64 t310)).setCell ⟨gb317, 1, none⟩ (.int .i64 t311)).setCell ⟨gb317, 2, none⟩ (.int .i64 t312)).setCell ⟨gb317, 3, none⟩ (.int .i64 t313)).setCell ⟨gb317, 4, none⟩ (.int .i64 t314)).setCell ⟨gb317, 5, none⟩ (.int .i64 t315)).heap[gb317]? = some (.cells #[.int .i64 t310, .int .i64 t311, .int .i64 t312, .int .i64 t313, .int .i64 t314, .int .i64 t315] 31 (0, 0))) := ⟨by (with_reducible repeat (first | refine kN ?_ _ | refine kD ?_ | refine kA ?_ _)); refine blk_put (cs := #[.int .i64 t310, .int .i64 t311, .int .i64 t312, .int .i64 t313, .int .i64 t314, .int .i64 0]) ?_ 5 _ rfl; (with_reducible repeat (first | refine kN ?_ _ | refine kD ?_ | refine kA ?_ _)); refine blk_put (cs := #[.int .i64 t310, .int .i64 t311, .int .i64 t312, .int .i64 t313, .int .i64 0, .int .i64 0]) ?_ 4 _ rfl; (with_reducible repeat (first | refine kN ?_ _ | refine kD ?_ | refine kA ?_ _)); refine blk_put (cs := #[.int .i64 t310, .int .i64 t311, .int .i64 t312, .int .i64 0, .int .i64 0, .int .i64 0]) ?_ 3 _ rfl; (with_reducible repeat (first | refine kN ?_ _ | refine kD ?_ | refine kA ?_ _)); refine blk_put (cs := #[.int .i64 t310, .int .i64 t311, .int .i64 0, .int .i64 0, .int .i64 0, .int .i64 0]) ?_ 2 _ rfl; (with_reducible repeat (first | refine kN ?_ _ | refine kD ?_ | refine kA ?_ _)); refine blk_put (cs := #[.int .i64 t310, .int .i64 0, .int .i64 0, .int .i64 0, .int .i64 0, .int .i64 0]) ?_ 1 _ rfl; (with_reducible repeat (first | refine kN ?_ _ | refine kD ?_ | refine kA ?_ _)); refine blk_put (cs := #[.int .i64 0, .int .i64 0, .int .i64 0, .int .i64 0, .int .i64 0, .int .i64 0]) ?_ 0 _ rfl; (with_reducible repeat (first | refine kN ?_ _ | refine kD ?_ | refine kA ?_ _)); exact BK317.out⟩
          have n6_ : Aside0 (Below w.heap.size w ((((((w48.setCell ⟨gb317, 0, none⟩ (.int .i64 t310)).setCell ⟨gb317, 1, none⟩ (.int .i64 t311)).setCell ⟨gb317, 2, none⟩ (.int .i64 t312)).setCell ⟨gb317, 3, none⟩ (.int .i64 t313)).setCell ⟨gb317, 4, none⟩ (.int .i64 t314)).setCell ⟨gb317, 5, none⟩ (.int .i64 t315))) := ⟨by repeat (first | (with_reducible first | exact HB.out | apply bA | apply bN | apply bD | refine bS ?_ GE280.out | refine bS ?_ GE281.out | refine bS ?_ GE309.out | refine bS ?_ GE317.out) | exact HB.out)⟩
          (try clear HO292)
          (try clear HO301)
          (try clear BK280)
          (try clear BK281)
          (try clear BK309)
          (try clear BK317)
          (try clear HB)
          generalize ((((((w48.setCell ⟨gb317, 0, none⟩ (.int .i64 t310)).setCell ⟨gb317, 1, none⟩ (.int .i64 t311)).setCell ⟨gb317, 2, none⟩ (.int .i64 t312)).setCell ⟨gb317, 3, none⟩ (.int .i64 t313)).setCell ⟨gb317, 4, none⟩ (.int .i64 t314)).setCell ⟨gb317, 5, none⟩ (.int .i64 t315)) = w68 at n0_ n1_ n2_ n3_ n4_ n5_ n6_ ⊢
          have HO292 := n0_
          have HO301 := n1_
          have BK280 := n2_
          have BK281 := n3_
          have BK309 := n4_
          have BK317 := n5_
          have HB := n6_
          clear n0_ n1_ n2_ n3_ n4_ n5_ n6_
          have n0_ := Aside0.mk (Kd.R_drew HO292.out)
          have n1_ := Aside0.mk (Kd.R_drew HO301.out)
          have n2_ := Aside0.mk (blk_drew BK280.out)
          have n3_ := Aside0.mk (blk_drew BK281.out)
          have n4_ := Aside0.mk (blk_drew BK309.out)
          have n5_ := Aside0.mk (blk_drew BK317.out)
          have n6_ := Aside0.mk (below_drew1 HB.out)
          clear HO292
          clear HO301
          clear BK280
          clear BK281
          clear BK309
          clear BK317
          clear HB
          have HO292 := n0_
          have HO301 := n1_
          have BK280 := n2_
          have BK281 := n3_
          have BK309 := n4_
          have BK317 := n5_
          have HB := n6_
          clear n0_ n1_ n2_ n3_ n4_ n5_ n6_
          refine start_ (n := 24) (S := fun w' => True) (ds := []) #[false, false, false, false, false, false, false, false, false, false, false, false, false, false, false, false, false, false, false, false, false, false, false, false] (by kernel_rfl) rfl rfl trivial (fun hHeld => ?_); refine with_tabW ridgewaylaw10_PolicyBehind.tab10 ridgewaylaw10_PolicyBehind.bits10 (fun HT_ HW_ => ?_)
          generalize w68.drew = w69 at HO292 HO301 BK280 BK281 BK309 BK317 HB hHeld ⊢
          refine pure_ (i := 0) (N := some 67) (v := ?_) (a' := ?_) #[true, false, false, false, false, false, false, false, false, false, false, false, false, false, false, false, false, false, false, false, false, false, false, false] rfl rfl (any_of HT_.out (by kernel_rfl)) (fun _ _ _ h => h) (Or.inl ⟨by rfl, ?_⟩) ?_ ?_
          rotate_left
          ·
           intro w'
           go_simp
           with_reducible rfl
          rotate_left
          ·
           simp only [Act.put, sA, sB, sC, i64_w, i32_w]
           rfl
          refine pure_ (i := 1) (N := some 68) (v := ?_) (a' := ?_) #[true, true, false, false, false, false, false, false, false, false, false, false, false, false, false, false, false, false, false, false, false, false, false, false] rfl rfl (any_of HT_.out (by kernel_rfl)) (fun _ _ _ h => h) (Or.inl ⟨by rfl, ?_⟩) ?_ ?_
          rotate_left
          ·
           intro w'
           go_simp
           with_reducible rfl
          rotate_left
          ·
           simp only [Act.put, sA, sB, sC, i64_w, i32_w]
           rfl
          refine pure_ (i := 2) (N := some 69) (v := ?_) (a' := ?_) #[true, true, true, false, false, false, false, false, false, false, false, false, false, false, false, false, false, false, false, false, false, false, false, false] rfl rfl (any_of HT_.out (by kernel_rfl)) (fun _ _ _ h => h) (Or.inl ⟨by rfl, ?_⟩) ?_ ?_
          rotate_left
          ·
           intro w'
           go_simp
           with_reducible rfl
          rotate_left
          ·
           simp only [Act.put, sA, sB, sC, i64_w, i32_w]
           rfl
          refine pure_ (i := 3) (N := some 70) (v := undef) (a' := ?_) #[true, true, true, true, false, false, false, false, false, false, false, false, false, false, false, false, false, false, false, false, false, false, false, false] rfl rfl (any_of HT_.out (by kernel_rfl)) (fun _ _ _ h => h) (Or.inr ⟨by rfl, rfl⟩) ?_ ?_
          rotate_left
          ·
           simp only [Act.put, sA, sB, sC, i64_w, i32_w]
           rfl
          refine pure_ (i := 4) (N := some 71) (v := undef) (a' := ?_) #[true, true, true, true, true, false, false, false, false, false, false, false, false, false, false, false, false, false, false, false, false, false, false, false] rfl rfl (any_of HT_.out (by kernel_rfl)) (fun _ _ _ h => h) (Or.inr ⟨by rfl, rfl⟩) ?_ ?_
          rotate_left
          ·
           simp only [Act.put, sA, sB, sC, i64_w, i32_w]
           rfl
          refine pure_ (i := 5) (N := some 72) (v := ?_) (a' := ?_) #[true, true, true, true, true, true, false, false, false, false, false, false, false, false, false, false, false, false, false, false, false, false, false, false] rfl rfl (any_of HT_.out (by kernel_rfl)) (fun _ _ _ h => h) (Or.inl ⟨by rfl, ?_⟩) ?_ ?_
          rotate_left
          ·
           intro w'
           go_simp
           with_reducible rfl
          rotate_left
          ·
           simp only [Act.put, sA, sB, sC, i64_w, i32_w]
           rfl
          refine pure_ (i := 6) (N := some 73) (v := ?_) (a' := ?_) #[true, true, true, true, true, true, true, false, false, false, false, false, false, false, false, false, false, false, false, false, false, false, false, false] rfl rfl (any_of HT_.out (by kernel_rfl)) (fun _ _ _ h => h) (Or.inl ⟨by rfl, ?_⟩) ?_ ?_
          rotate_left
          ·
           intro w'
           go_simp
           with_reducible rfl
          rotate_left
          ·
           simp only [Act.put, sA, sB, sC, i64_w, i32_w]
           rfl
          refine pure_ (i := 7) (N := some 74) (v := undef) (a' := ?_) #[true, true, true, true, true, true, true, true, false, false, false, false, false, false, false, false, false, false, false, false, false, false, false, false] rfl rfl (any_of HT_.out (by kernel_rfl)) (fun _ _ _ h => h) (Or.inr ⟨by rfl, rfl⟩) ?_ ?_
          rotate_left
          ·
           simp only [Act.put, sA, sB, sC, i64_w, i32_w]
           rfl
          refine pure_ (i := 8) (N := some 75) (v := undef) (a' := ?_) #[true, true, true, true, true, true, true, true, true, false, false, false, false, false, false, false, false, false, false, false, false, false, false, false] rfl rfl (any_of HT_.out (by kernel_rfl)) (fun _ _ _ h => h) (Or.inr ⟨by rfl, rfl⟩) ?_ ?_
          rotate_left
          ·
           simp only [Act.put, sA, sB, sC, i64_w, i32_w]
           rfl
          refine pure_ (i := 9) (N := some 76) (v := undef) (a' := ?_) #[true, true, true, true, true, true, true, true, true, true, false, false, false, false, false, false, false, false, false, false, false, false, false, false] rfl rfl (any_of HT_.out (by kernel_rfl)) (fun _ _ _ h => h) (Or.inr ⟨by rfl, rfl⟩) ?_ ?_
          rotate_left
          ·
           simp only [Act.put, sA, sB, sC, i64_w, i32_w]
           rfl
          refine pure_ (i := 10) (N := some 77) (v := ?_) (a' := ?_) #[true, true, true, true, true, true, true, true, true, true, true, false, false, false, false, false, false, false, false, false, false, false, false, false] rfl rfl (any_of HT_.out (by kernel_rfl)) (fun _ _ _ h => h) (Or.inl ⟨by rfl, ?_⟩) ?_ ?_
          rotate_left
          ·
           intro w'
           go_simp
           with_reducible rfl
          rotate_left
          ·
           simp only [Act.put, sA, sB, sC, i64_w, i32_w]
           rfl
          refine pure_ (i := 11) (N := some 78) (v := ?_) (a' := ?_) #[true, true, true, true, true, true, true, true, true, true, true, true, false, false, false, false, false, false, false, false, false, false, false, false] rfl rfl (any_of HT_.out (by kernel_rfl)) (fun _ _ _ h => h) (Or.inl ⟨by rfl, ?_⟩) ?_ ?_
          rotate_left
          ·
           intro w'
           go_simp
           with_reducible rfl
          rotate_left
          ·
           simp only [Act.put, sA, sB, sC, i64_w, i32_w]
           rfl
          refine pure_ (i := 12) (N := some 79) (v := undef) (a' := ?_) #[true, true, true, true, true, true, true, true, true, true, true, true, true, false, false, false, false, false, false, false, false, false, false, false] rfl rfl (any_of HT_.out (by kernel_rfl)) (fun _ _ _ h => h) (Or.inr ⟨by rfl, rfl⟩) ?_ ?_
          rotate_left
          ·
           simp only [Act.put, sA, sB, sC, i64_w, i32_w]
           rfl
          refine pure_ (i := 13) (N := some 80) (v := undef) (a' := ?_) #[true, true, true, true, true, true, true, true, true, true, true, true, true, true, false, false, false, false, false, false, false, false, false, false] rfl rfl (any_of HT_.out (by kernel_rfl)) (fun _ _ _ h => h) (Or.inr ⟨by rfl, rfl⟩) ?_ ?_
          rotate_left
          ·
           simp only [Act.put, sA, sB, sC, i64_w, i32_w]
           rfl
          refine pure_ (i := 14) (N := some 81) (v := undef) (a' := ?_) #[true, true, true, true, true, true, true, true, true, true, true, true, true, true, true, false, false, false, false, false, false, false, false, false] rfl rfl (any_of HT_.out (by kernel_rfl)) (fun _ _ _ h => h) (Or.inr ⟨by rfl, rfl⟩) ?_ ?_
          rotate_left
          ·
           simp only [Act.put, sA, sB, sC, i64_w, i32_w]
           rfl
          refine pure_ (i := 15) (N := some 82) (v := undef) (a' := ?_) #[true, true, true, true, true, true, true, true, true, true, true, true, true, true, true, true, false, false, false, false, false, false, false, false] rfl rfl (any_of HT_.out (by kernel_rfl)) (fun _ _ _ h => h) (Or.inr ⟨by rfl, rfl⟩) ?_ ?_
          rotate_left
          ·
           simp only [Act.put, sA, sB, sC, i64_w, i32_w]
           rfl
          refine pure_ (i := 16) (N := some 83) (v := undef) (a' := ?_) #[true, true, true, true, true, true, true, true, true, true, true, true, true, true, true, true, true, false, false, false, false, false, false, false] rfl rfl (any_of HT_.out (by kernel_rfl)) (fun _ _ _ h => h) (Or.inr ⟨by rfl, rfl⟩) ?_ ?_
          rotate_left
          ·
           simp only [Act.put, sA, sB, sC, i64_w, i32_w]
           rfl
          refine pure_ (i := 17) (N := some 84) (v := undef) (a' := ?_) #[true, true, true, true, true, true, true, true, true, true, true, true, true, true, true, true, true, true, false, false, false, false, false, false] rfl rfl (any_of HT_.out (by kernel_rfl)) (fun _ _ _ h => h) (Or.inr ⟨by rfl, rfl⟩) ?_ ?_
          rotate_left
          ·
           simp only [Act.put, sA, sB, sC, i64_w, i32_w]
           rfl
          refine pure_ (i := 18) (N := some 85) (v := undef) (a' := ?_) #[true, true, true, true, true, true, true, true, true, true, true, true, true, true, true, true, true, true, true, false, false, false, false, false] rfl rfl (any_of HT_.out (by kernel_rfl)) (fun _ _ _ h => h) (Or.inr ⟨by rfl, rfl⟩) ?_ ?_
          rotate_left
          ·
           simp only [Act.put, sA, sB, sC, i64_w, i32_w]
           rfl
          refine pure_ (i := 19) (N := some 86) (v := undef) (a' := ?_) #[true, true, true, true, true, true, true, true, true, true, true, true, true, true, true, true, true, true, true, true, false, false, false, false] rfl rfl (any_of HT_.out (by kernel_rfl)) (fun _ _ _ h => h) (Or.inr ⟨by rfl, rfl⟩) ?_ ?_
          rotate_left
          ·
           simp only [Act.put, sA, sB, sC, i64_w, i32_w]
           rfl
          refine pure_ (i := 20) (N := some 87) (v := undef) (a' := ?_) #[true, true, true, true, true, true, true, true, true, true, true, true, true, true, true, true, true, true, true, true, true, false, false, false] rfl rfl (any_of HT_.out (by kernel_rfl)) (fun _ _ _ h => h) (Or.inr ⟨by rfl, rfl⟩) ?_ ?_
          rotate_left
          ·
           simp only [Act.put, sA, sB, sC, i64_w, i32_w]
           rfl
          refine pure_ (i := 21) (N := some 88) (v := undef) (a' := ?_) #[true, true, true, true, true, true, true, true, true, true, true, true, true, true, true, true, true, true, true, true, true, true, false, false] rfl rfl (any_of HT_.out (by kernel_rfl)) (fun _ _ _ h => h) (Or.inr ⟨by rfl, rfl⟩) ?_ ?_
          rotate_left
          ·
           simp only [Act.put, sA, sB, sC, i64_w, i32_w]
           rfl
          refine pure_ (i := 22) (N := some 89) (v := undef) (a' := ?_) #[true, true, true, true, true, true, true, true, true, true, true, true, true, true, true, true, true, true, true, true, true, true, true, false] rfl rfl (any_of HT_.out (by kernel_rfl)) (fun _ _ _ h => h) (Or.inr ⟨by rfl, rfl⟩) ?_ ?_
          rotate_left
          ·
           simp only [Act.put, sA, sB, sC, i64_w, i32_w]
           rfl
          refine pure_ (i := 23) (N := some 90) (v := ?_) (a' := ?_) #[true, true, true, true, true, true, true, true, true, true, true, true, true, true, true, true, true, true, true, true, true, true, true, true] rfl rfl (any_of HT_.out (by kernel_rfl)) (fun _ _ _ h => h) (Or.inl ⟨by rfl, ?_⟩) ?_ ?_
          rotate_left
          ·
           intro w'
           go_simp
           with_reducible rfl
          rotate_left
          ·
           simp only [Act.put, sA, sB, sC, i64_w, i32_w]
           rfl
          refine done_ (done_of HT_.out (by kernel_rfl)) ?_
          try go_wp2
          go_meet
          case rel => exact ⟨_, (true), (by first | rfl | (simp; done) | (simp [*]; done)), H', ⟨by have := HJ5.out; first | omega | exact Nat.le_refl _⟩, ⟨by (with_reducible repeat (first | apply Kd.R_alloc | apply Kd.R_drewN | apply Kd.R_drew)); exact Kd.R_mono HO292.out (fun _ hk => ⟨hk.2.1, ⟨hk.2.2.1, hk.2.2.2⟩⟩)⟩, ⟨by (with_reducible repeat (first | refine kN ?_ _ | refine kD ?_ | refine kA ?_ _)); exact BK280.out⟩, ⟨by (with_reducible repeat (first | refine kN ?_ _ | refine kD ?_ | refine kA ?_ _)); exact BK281.out⟩, ⟨by (with_reducible repeat (first | refine kN ?_ _ | refine kD ?_ | refine kA ?_ _)); exact BK309.out⟩, ⟨by (with_reducible repeat (first | refine kN ?_ _ | refine kD ?_ | refine kA ?_ _)); exact BK317.out⟩, ⟨by repeat (first | (with_reducible first | exact HB.out | apply bA | apply bN | apply bD | refine bS ?_ GE280.out | refine bS ?_ GE281.out | refine bS ?_ GE309.out | refine bS ?_ GE317.out) | exact HB.out)⟩⟩
        case rest =>
         clear HC27
         try clear c1
         try clear p2
         try clear c3
         try clear c5
         try clear c18
         try clear c53
         try clear c54
         obtain ⟨kq, x90_26, rfl, HA, HJ26, HO_10, BK280, BK281, BK309, BK317, HB⟩ := hcut
         cases kq with
         | zero => exact absurd HA.out (by simp [ridgewaylaw10_PolicyBehind.j1])
         | succ kj26 =>
          have H := HA.out
          clear HA
          simp only [ridgewaylaw10_PolicyBehind.j1] at H
          by_cases c70 : x90_26 = true
          ·
           subst c70
           have H1 : (some false) = some true := by rw [if_pos rfl] at H; first | done | exact H
           clear H
           have H := H1
           clear H1
           exact absurd H (by simp)
          ·
           replace c70 := Bool.eq_false_iff.mpr c70
           subst c70
           have H1 : (if (l2.length : Int) = 0 then (some t282) else (if 0 < (l2.length : Int) then ((policy_Fits.f kj26 ((rd_T31 l2 0).f0) ((rd_T31 l2 0).f1.f0) ((rd_T31 l2 0).f1.f1) ((rd_T31 l2 0).f2) ((rd_T31 l2 0).f3) ((rd_T31 l2 0).f4) a3_0 a3_1 l3_2 a3_3).bind fun t325 => (if t325 = true then (some t282) else ((some (([(⟨(rd_T31 l2 0).f0, (⟨(rd_T31 l2 0).f1.f0, (rd_T31 l2 0).f1.f1⟩ : S24), (rd_T31 l2 0).f2, (rd_T31 l2 0).f3, (rd_T31 l2 0).f4⟩ : S31)] : List (S31)) : List (S31))).bind fun y327 => (if y327.length + y290.length < 2932031007402 then ((policy_Pick.f kj26 (y327 ++ y290) a3_0 a3_1 l3_2 a3_3).bind fun bt333 => (if t282 = true then (if bt333.2.2.2.2.2.2 = true then (some (bt333.1 == t302 && ((bt333.2.1 == t303 && (bt333.2.2.1 == t304)) && (bt333.2.2.2.1 == t305 && (bt333.2.2.2.2.1 == t306 && (bt333.2.2.2.2.2.1 == t307)))))) else (some false)) else (some false))) else (none))))) else (none))) = some true := by rw [if_neg (show ¬ (false = true) by decide)] at H; first | done | exact H
           clear H
           have H := H1
           clear H1
           by_cases c71 : (l2.length : Int) = 0
           ·
            rw [if_pos c71] at H
            have c71b0 : ((l2.length : Int) == 0) = true := beq_iff_eq.mpr c71
            have c71b1 : ((l2.length : Int) != 0) = false := bne_eq_false_iff_eq.mpr c71
            clear c71
            have HRL_ := Aside0.mk (Option.some.inj H)
            clear H
            try go_wp2
            have n0_ := Aside0.mk (Kd.R_drew HO_10.out)
            have n1_ := Aside0.mk (blk_drew BK280.out)
            have n2_ := Aside0.mk (blk_drew BK281.out)
            have n3_ := Aside0.mk (blk_drew BK309.out)
            have n4_ := Aside0.mk (blk_drew BK317.out)
            have n5_ := Aside0.mk (below_drew1 HB.out)
            clear HO_10
            clear BK280
            clear BK281
            clear BK309
            clear BK317
            clear HB
            have HO_10 := n0_
            have BK280 := n1_
            have BK281 := n2_
            have BK309 := n3_
            have BK317 := n4_
            have HB := n5_
            clear n0_ n1_ n2_ n3_ n4_ n5_
            refine start_ (n := 10) (S := fun w' => True) (ds := []) #[false, false, false, false, false, false, false, false, false, false] (by kernel_rfl) rfl rfl trivial (fun hHeld => ?_); refine with_tabW ridgewaylaw10_PolicyBehind.tab12 ridgewaylaw10_PolicyBehind.bits12 (fun HT_ HW_ => ?_)
            generalize wc.drew = w72 at HO_10 BK280 BK281 BK309 BK317 HB hHeld ⊢
            refine pure_ (i := 0) (N := some 91) (v := ?_) (a' := ?_) #[true, false, false, false, false, false, false, false, false, false] rfl rfl (any_of HT_.out (by kernel_rfl)) (fun _ _ _ h => h) (Or.inl ⟨by rfl, ?_⟩) ?_ ?_
            rotate_left
            ·
             intro w'
             go_simp
             with_reducible rfl
            rotate_left
            ·
             simp only [Act.put, sA, sB, sC, i64_w, i32_w]
             rfl
            refine pure_ (i := 1) (N := some 92) (v := ?_) (a' := ?_) #[true, true, false, false, false, false, false, false, false, false] rfl rfl (any_of HT_.out (by kernel_rfl)) (fun _ _ _ h => h) (Or.inl ⟨by rfl, ?_⟩) ?_ ?_
            rotate_left
            ·
             intro w'
             go_simp
             with_reducible rfl
            rotate_left
            ·
             simp only [Act.put, sA, sB, sC, i64_w, i32_w]
             rfl
            refine pure_ (i := 2) (N := some 93) (v := ?_) (a' := ?_) #[true, true, true, false, false, false, false, false, false, false] rfl rfl (any_of HT_.out (by kernel_rfl)) (fun _ _ _ h => h) (Or.inl ⟨by rfl, ?_⟩) ?_ ?_
            rotate_left
            ·
             intro w'
             go_simp
             with_reducible rfl
            rotate_left
            ·
             simp only [Act.put, sA, sB, sC, i64_w, i32_w]
             rfl
            refine pure_ (i := 3) (N := some 94) (v := ?_) (a' := ?_) #[true, true, true, true, false, false, false, false, false, false] rfl rfl (any_of HT_.out (by kernel_rfl)) (fun _ _ _ h => h) (Or.inl ⟨by rfl, ?_⟩) ?_ ?_
            rotate_left
            ·
             intro w'
             go_simp
             with_reducible rfl
            rotate_left
            ·
             simp only [Act.put, sA, sB, sC, i64_w, i32_w]
             rfl
            refine pure_ (i := 4) (N := some 95) (v := undef) (a' := ?_) #[true, true, true, true, true, false, false, false, false, false] rfl rfl (any_of HT_.out (by kernel_rfl)) (fun _ _ _ h => h) (Or.inr ⟨by rfl, rfl⟩) ?_ ?_
            rotate_left
            ·
             simp only [Act.put, sA, sB, sC, i64_w, i32_w]
             rfl
            refine pure_ (i := 5) (N := some 96) (v := undef) (a' := ?_) #[true, true, true, true, true, true, false, false, false, false] rfl rfl (any_of HT_.out (by kernel_rfl)) (fun _ _ _ h => h) (Or.inr ⟨by rfl, rfl⟩) ?_ ?_
            rotate_left
            ·
             simp only [Act.put, sA, sB, sC, i64_w, i32_w]
             rfl
            refine pure_ (i := 6) (N := some 97) (v := undef) (a' := ?_) #[true, true, true, true, true, true, true, false, false, false] rfl rfl (any_of HT_.out (by kernel_rfl)) (fun _ _ _ h => h) (Or.inr ⟨by rfl, rfl⟩) ?_ ?_
            rotate_left
            ·
             simp only [Act.put, sA, sB, sC, i64_w, i32_w]
             rfl
            refine pure_ (i := 7) (N := some 98) (v := undef) (a' := ?_) #[true, true, true, true, true, true, true, true, false, false] rfl rfl (any_of HT_.out (by kernel_rfl)) (fun _ _ _ h => h) (Or.inr ⟨by rfl, rfl⟩) ?_ ?_
            rotate_left
            ·
             simp only [Act.put, sA, sB, sC, i64_w, i32_w]
             rfl
            refine pure_ (i := 8) (N := some 99) (v := undef) (a' := ?_) #[true, true, true, true, true, true, true, true, true, false] rfl rfl (any_of HT_.out (by kernel_rfl)) (fun _ _ _ h => h) (Or.inr ⟨by rfl, rfl⟩) ?_ ?_
            rotate_left
            ·
             simp only [Act.put, sA, sB, sC, i64_w, i32_w]
             rfl
            refine pure_ (i := 9) (N := some 100) (v := ?_) (a' := ?_) #[true, true, true, true, true, true, true, true, true, true] rfl rfl (any_of HT_.out (by kernel_rfl)) (fun _ _ _ h => h) (Or.inl ⟨by rfl, ?_⟩) ?_ ?_
            rotate_left
            ·
             intro w'
             go_simp
             with_reducible rfl
            rotate_left
            ·
             simp only [Act.put, sA, sB, sC, i64_w, i32_w]
             rfl
            refine done_ (done_of HT_.out (by kernel_rfl)) ?_
            try go_wp2
            all_goals first | (go_ret; refine ⟨?_, ?_⟩; (focus (first | rfl | (simp [errW_none, errW_some] <;> rfl) | (rw [HRL_.out] <;> rfl) | (simp only [HRL_.out] <;> rfl) | (have h_ := HRL_.out; simp at h_; simp [h_]; done) | (have h_ := HRL_.out; simp [*] at h_ ⊢; done) | (simp [*, errW_none, errW_some] <;> rfl))); (focus (repeat (first | (with_reducible first | exact HB.out | apply bA | apply bN | apply bD | refine bS ?_ GE280.out | refine bS ?_ GE281.out | refine bS ?_ GE309.out | refine bS ?_ GE317.out) | exact HB.out)))) | (exfalso; simp_all; done)
           ·
            rw [if_neg c71] at H
            have c71b0 : ((l2.length : Int) == 0) = false := beq_eq_false_iff_ne.mpr c71
            have c71b1 : ((l2.length : Int) != 0) = true := bne_iff_ne.mpr c71
            have c71b2 : ¬ (l2 = []) := fun h_ => c71 (by rw [h_]; rfl)
            by_cases c73 : 0 < (l2.length : Int)
            ·
             rw [if_pos c73] at H
             have c73b0 : decide (0 < (l2.length : Int)) = true := decide_eq_true c73
             have c73b1 : decide (0 < l2.length) = true := decide_eq_true (by omega)
             clear c73
             replace H := Option.bind_eq_some_iff.mp H
             obtain ⟨t325, A740, H⟩ := H
             replace H : (if t325 = true then (some t282) else ((some (([(⟨(rd_T31 l2 0).f0, (⟨(rd_T31 l2 0).f1.f0, (rd_T31 l2 0).f1.f1⟩ : S24), (rd_T31 l2 0).f2, (rd_T31 l2 0).f3, (rd_T31 l2 0).f4⟩ : S31)] : List (S31)) : List (S31))).bind fun y327 => (if y327.length + y290.length < 2932031007402 then ((policy_Pick.f kj26 (y327 ++ y290) a3_0 a3_1 l3_2 a3_3).bind fun bt333 => (if t282 = true then (if bt333.2.2.2.2.2.2 = true then (some (bt333.1 == t302 && ((bt333.2.1 == t303 && (bt333.2.2.1 == t304)) && (bt333.2.2.2.1 == t305 && (bt333.2.2.2.2.1 == t306 && (bt333.2.2.2.2.2.1 == t307)))))) else (some false)) else (some false))) else (none)))) = some true := H
             have A74 := Aside0.mk A740
             clear A740
             by_cases c75 : t325 = true
             ·
              subst c75
              have H1 : (some t282) = some true := by rw [if_pos rfl] at H; first | done | exact H
              clear H
              have H := H1
              clear H1
              have HRL_ := Aside0.mk (Option.some.inj H)
              clear H
              try go_wp2
              have n0_ := Aside0.mk (Kd.R_drew HO_10.out)
              have n1_ := Aside0.mk (blk_drew BK280.out)
              have n2_ := Aside0.mk (blk_drew BK281.out)
              have n3_ := Aside0.mk (blk_drew BK309.out)
              have n4_ := Aside0.mk (blk_drew BK317.out)
              have n5_ := Aside0.mk (below_drew1 HB.out)
              clear HO_10
              clear BK280
              clear BK281
              clear BK309
              clear BK317
              clear HB
              have HO_10 := n0_
              have BK280 := n1_
              have BK281 := n2_
              have BK309 := n3_
              have BK317 := n4_
              have HB := n5_
              clear n0_ n1_ n2_ n3_ n4_ n5_
              have p324 : 0 ≤ (0 : Int) := (by omega)
              have q324 : 0 < (l2.length : Int) := of_decide_eq_true (by first | (with_reducible assumption) | assumption)
              obtain ⟨ad324, e324, hx324_0, hx324_1, hx324_2, hx324_3, hx324_4, hx324_5⟩ := at_T31 HR2.out 0 p324 q324
              have hw324_5 := hx324_5
              (try rw [show ((0 : Int)).toNat = 0 from rfl] at hw324_5)
              (try rw [show 0 * 6 = 0 from rfl] at hw324_5)
              (try rw [Addr.add_zero'] at hw324_5)
              have hw324_4 := hx324_4
              (try rw [show ((0 : Int)).toNat = 0 from rfl] at hw324_4)
              (try rw [show 0 * 6 = 0 from rfl] at hw324_4)
              (try rw [Addr.add_zero'] at hw324_4)
              have hw324_3 := hx324_3
              (try rw [show ((0 : Int)).toNat = 0 from rfl] at hw324_3)
              (try rw [show 0 * 6 = 0 from rfl] at hw324_3)
              (try rw [Addr.add_zero'] at hw324_3)
              have hw324_2 := hx324_2
              (try rw [show ((0 : Int)).toNat = 0 from rfl] at hw324_2)
              (try rw [show 0 * 6 = 0 from rfl] at hw324_2)
              (try rw [Addr.add_zero'] at hw324_2)
              have hw324_1 := hx324_1
              (try rw [show ((0 : Int)).toNat = 0 from rfl] at hw324_1)
              (try rw [show 0 * 6 = 0 from rfl] at hw324_1)
              (try rw [Addr.add_zero'] at hw324_1)
              have hw324_0 := hx324_0
              (try rw [show ((0 : Int)).toNat = 0 from rfl] at hw324_0)
              (try rw [show 0 * 6 = 0 from rfl] at hw324_0)
              (try rw [Addr.add_zero'] at hw324_0)
              cases e324
              have qi324 : (0 < l2.length) = True := eq_true (by omega)
              (try rw [show ((0 : Int)).toNat = 0 from rfl] at hx324_0)
              (try rw [show 0 * 6 = 0 from rfl] at hx324_0)
              (try rw [Addr.add_zero'] at hx324_0)
              (try rw [show ((0 : Int)).toNat = 0 from rfl] at hx324_1)
              (try rw [show 0 * 6 = 0 from rfl] at hx324_1)
              (try rw [Addr.add_zero'] at hx324_1)
              (try rw [show ((0 : Int)).toNat = 0 from rfl] at hx324_2)
              (try rw [show 0 * 6 = 0 from rfl] at hx324_2)
              (try rw [Addr.add_zero'] at hx324_2)
              (try rw [show ((0 : Int)).toNat = 0 from rfl] at hx324_3)
              (try rw [show 0 * 6 = 0 from rfl] at hx324_3)
              (try rw [Addr.add_zero'] at hx324_3)
              (try rw [show ((0 : Int)).toNat = 0 from rfl] at hx324_4)
              (try rw [show 0 * 6 = 0 from rfl] at hx324_4)
              (try rw [Addr.add_zero'] at hx324_4)
              (try rw [show ((0 : Int)).toNat = 0 from rfl] at hx324_5)
              (try rw [show 0 * 6 = 0 from rfl] at hx324_5)
              (try rw [Addr.add_zero'] at hx324_5)
              replace hx324_0 := cB HB.out hx324_0
              replace hx324_1 := cB HB.out hx324_1
              replace hx324_2 := cB HB.out hx324_2
              replace hx324_3 := cB HB.out hx324_3
              replace hx324_4 := cB HB.out hx324_4
              replace hx324_5 := cB HB.out hx324_5
              replace p324 := eq_true p324
              replace q324 := eq_true q324
              refine start_ (n := 10) (S := fun w' => w'.cell? ⟨gb281, 0, none⟩ = some (.int .i64 a3_0) ∧ w'.cell? ⟨gb281, 1, none⟩ = some (.int .i64 a3_1) ∧ w'.cell? ⟨gb281, 2, none⟩ = some (.slice A3_2 l3_2.length c3_2) ∧ w'.cell? ⟨gb281, 3, none⟩ = some (.int .i64 a3_3) ∧ w'.cell? ad324 = some (.int .i64 ((rd_T31 l2 0).f0)) ∧ w'.cell? ⟨ad324.block, ad324.off + 1, none⟩ = some (.int .i64 ((rd_T31 l2 0).f1.f0)) ∧ w'.cell? ⟨ad324.block, ad324.off + 2, none⟩ = some (.int .i64 ((rd_T31 l2 0).f1.f1)) ∧ w'.cell? ⟨ad324.block, ad324.off + 3, none⟩ = some (.int .i64 ((rd_T31 l2 0).f2)) ∧ w'.cell? ⟨ad324.block, ad324.off + 4, none⟩ = some (.int .i64 ((rd_T31 l2 0).f3)) ∧ w'.cell? ⟨ad324.block, ad324.off + 5, none⟩ = some (.int .i64 ((rd_T31 l2 0).f4))) (ds := []) #[false, false, false, false, false, false, false, false, false, false] (by kernel_rfl) rfl rfl ⟨(blk_cell BK281.out 0).trans rfl, (blk_cell BK281.out 1).trans rfl, (blk_cell BK281.out 2).trans rfl, (blk_cell BK281.out 3).trans rfl, (cB HB.out hw324_0), (cB HB.out hw324_1), (cB HB.out hw324_2), (cB HB.out hw324_3), (cB HB.out hw324_4), (cB HB.out hw324_5)⟩ (fun hHeld => ?_); refine with_tabW ridgewaylaw10_PolicyBehind.tab12 ridgewaylaw10_PolicyBehind.bits12 (fun HT_ HW_ => ?_)
              generalize wc.drew = w76 at HO_10 BK280 BK281 BK309 BK317 HB hx324_0 hx324_1 hx324_2 hx324_3 hx324_4 hx324_5 hHeld ⊢
              refine pure_ (i := 0) (N := some 91) (v := ?_) (a' := ?_) #[true, false, false, false, false, false, false, false, false, false] rfl rfl (any_of HT_.out (by kernel_rfl)) (fun _ _ _ h => h) (Or.inl ⟨by rfl, ?_⟩) ?_ ?_
              rotate_left
              ·
               intro w'
               go_simp
               with_reducible rfl
              rotate_left
              ·
               simp only [Act.put, sA, sB, sC, i64_w, i32_w]
               rfl
              refine pure_ (i := 1) (N := some 92) (v := ?_) (a' := ?_) #[true, true, false, false, false, false, false, false, false, false] rfl rfl (any_of HT_.out (by kernel_rfl)) (fun _ _ _ h => h) (Or.inl ⟨by rfl, ?_⟩) ?_ ?_
              rotate_left
              ·
               intro w'
               go_simp
               with_reducible rfl
              rotate_left
              ·
               simp only [Act.put, sA, sB, sC, i64_w, i32_w]
               rfl
              refine pure_ (i := 2) (N := some 93) (v := ?_) (a' := ?_) #[true, true, true, false, false, false, false, false, false, false] rfl rfl (any_of HT_.out (by kernel_rfl)) (fun _ _ _ h => h) (Or.inl ⟨by rfl, ?_⟩) ?_ ?_
              rotate_left
              ·
               intro w'
               go_simp
               with_reducible rfl
              rotate_left
              ·
               simp only [Act.put, sA, sB, sC, i64_w, i32_w]
               rfl
              refine pure_ (i := 3) (N := some 94) (v := ?_) (a' := ?_) #[true, true, true, true, false, false, false, false, false, false] rfl rfl (any_of HT_.out (by kernel_rfl)) (fun _ _ _ h => h) (Or.inl ⟨by rfl, ?_⟩) ?_ ?_
              rotate_left
              ·
               intro w'
               go_simp
               with_reducible rfl
              rotate_left
              ·
               simp only [Act.put, sA, sB, sC, i64_w, i32_w]
               rfl
              refine pure_ (i := 4) (N := some 95) (v := ?_) (a' := ?_) #[true, true, true, true, true, false, false, false, false, false] rfl rfl (any_of HT_.out (by kernel_rfl)) (fun _ _ _ h => h) (Or.inl ⟨by rfl, ?_⟩) ?_ ?_
              rotate_left
              ·
               intro w'
               go_simp
               with_reducible rfl
              rotate_left
              ·
               simp only [Act.put, sA, sB, sC, i64_w, i32_w]
               rfl
              refine pure_ (i := 5) (N := some 96) (v := ?_) (a' := ?_) #[true, true, true, true, true, true, false, false, false, false] rfl rfl (any_of HT_.out (by kernel_rfl)) (fun _ _ _ h => h) (Or.inl ⟨by rfl, ?_⟩) ?_ ?_
              rotate_left
              ·
               intro w'
               go_simp
               with_reducible rfl
              rotate_left
              ·
               simp only [Act.put, sA, sB, sC, i64_w, i32_w]
               rfl
              refine take_ (i := 6) (N := some 97) (v := ?_) (a' := ?_) #[true, true, true, true, true, true, true, false, false, false] rfl rfl (take_ofW HT_.out HW_.out (by kernel_rfl)) (fun _ _ _ h => h) (Or.inl ⟨by rfl, ?_⟩) hHeld ?_ ?_
              rotate_left
              ·
               rintro w' ⟨s0, s1, s2, s3, s4, s5, s6, s7, s8, s9⟩
               go_simp
               with_reducible rfl
              rotate_left
              ·
               simp only [Act.put, sA, sB, sC, i64_w, i32_w]
               rfl
              refine take_ (i := 7) (N := some 98) (v := ?_) (a' := ?_) #[true, true, true, true, true, true, true, true, false, false] rfl rfl (take_ofW HT_.out HW_.out (by kernel_rfl)) (fun _ _ _ h => h) (Or.inl ⟨by rfl, ?_⟩) hHeld ?_ ?_
              rotate_left
              ·
               rintro w' ⟨s0, s1, s2, s3, s4, s5, s6, s7, s8, s9⟩
               go_simp
               with_reducible rfl
              rotate_left
              ·
               simp only [Act.put, sA, sB, sC, i64_w, i32_w]
               rfl
              refine one_ (i := 8) (N := some 99) #[true, true, true, true, true, true, true, true, true, false] rfl rfl (one_of HT_.out (by kernel_rfl)) (by decide) (fun K hK => ?_)
              refine goes_ Try.func11 (by kernel_rfl) rfl #[.agg #[.int .i64 ((rd_T31 l2 0).f0), .int .i64 ((rd_T31 l2 0).f1.f0), .int .i64 ((rd_T31 l2 0).f1.f1), .int .i64 ((rd_T31 l2 0).f2), .int .i64 ((rd_T31 l2 0).f3), .int .i64 ((rd_T31 l2 0).f4)], .agg #[.int .i64 a3_0, .int .i64 a3_1, .slice A3_2 l3_2.length c3_2, .int .i64 a3_3]] (by rfl) rfl rfl (by (try simp only [List.map_toArray, List.map_cons, List.map_nil]); first | done | rfl | (simp only [List.length_drop, List.length_take]; rfl)) ?_
              with_reducible refine (policy_Fits.calls kj26 ((rd_T31 l2 0).f0) ((rd_T31 l2 0).f1.f0) ((rd_T31 l2 0).f1.f1) ((rd_T31 l2 0).f2) ((rd_T31 l2 0).f3) ((rd_T31 l2 0).f4) a3_0 a3_1 _ _ l3_2 a3_3 true _ ?side1 ?side2 A74.out).mono ?_
              (case side1 => repeat (first | exact (Kd.C_below HR3_2.out HB.out) | (with_reducible refine Kd.C_alloc ?_ _) | (with_reducible refine Kd.C_drewN ?_ _) | (with_reducible refine Kd.C_drew ?_)))
              (case side2 => exact HC3_2.out)
              rintro e w77 ⟨rfl, hb⟩
              refine ⟨_, rfl, ?_⟩
              have n0_ := Aside0.mk (Kd.R_below (by (with_reducible repeat (first | apply Kd.R_alloc | apply Kd.R_drewN | apply Kd.R_drew)); exact HO_10.out) hb)
              have n1_ := Aside0.mk (blk_below (g := gb280) (o := .cells #[.int .i64 a1_0, .int .i64 a1_1, .int .i64 a1_2, .int .i64 a1_3, .int .i64 a1_4, .int .i64 a1_5] 31 (0, 0)) (by (with_reducible repeat (first | refine kN ?_ _ | refine kD ?_ | refine kA ?_ _)); exact BK280.out) hb)
              have n2_ := Aside0.mk (blk_below (g := gb281) (o := .cells #[.int .i64 a3_0, .int .i64 a3_1, .slice A3_2 l3_2.length c3_2, .int .i64 a3_3] 27 (0, 0)) (by (with_reducible repeat (first | refine kN ?_ _ | refine kD ?_ | refine kA ?_ _)); exact BK281.out) hb)
              have n3_ := Aside0.mk (blk_below (g := gb309) (o := .cells #[.int .i64 t302, .int .i64 t303, .int .i64 t304, .int .i64 t305, .int .i64 t306, .int .i64 t307] 31 (0, 0)) (by (with_reducible repeat (first | refine kN ?_ _ | refine kD ?_ | refine kA ?_ _)); exact BK309.out) hb)
              have n4_ := Aside0.mk (blk_below (g := gb317) (o := .cells #[.int .i64 t310, .int .i64 t311, .int .i64 t312, .int .i64 t313, .int .i64 t314, .int .i64 t315] 31 (0, 0)) (by (with_reducible repeat (first | refine kN ?_ _ | refine kD ?_ | refine kA ?_ _)); exact BK317.out) hb)
              have n5_ := Aside0.mk (below_step (by repeat (first | (with_reducible first | exact HB.out | apply bA | apply bN | apply bD | refine bS ?_ GE280.out | refine bS ?_ GE281.out | refine bS ?_ GE309.out | refine bS ?_ GE317.out) | exact HB.out)) hb)
              clear HO_10
              clear BK280
              clear BK281
              clear BK309
              clear BK317
              clear HB
              have HO_10 := n0_
              have BK280 := n1_
              have BK281 := n2_
              have BK309 := n3_
              have BK317 := n4_
              have HB := n5_
              clear n0_ n1_ n2_ n3_ n4_ n5_
              (try clear hb)
              (try clear hb2)
              (try clear hk)
              (try clear hi)
              refine hK.out _ _ ⟨(blk_cell BK281.out 0).trans rfl, (blk_cell BK281.out 1).trans rfl, (blk_cell BK281.out 2).trans rfl, (blk_cell BK281.out 3).trans rfl, (cB HB.out hw324_0), (cB HB.out hw324_1), (cB HB.out hw324_2), (cB HB.out hw324_3), (cB HB.out hw324_4), (cB HB.out hw324_5)⟩ (fun hHeld => ?_)
              clear hK K
              refine norm_ (a' := ?_) ?_ ?_
              rotate_left
              ·
               show Act.put _ (some 99) _ = _
               simp only [Act.put, sA, sB, sC, i64_w, i32_w]
               rfl
              refine pure_ (i := 9) (N := some 100) (v := ?_) (a' := ?_) #[true, true, true, true, true, true, true, true, true, true] rfl rfl (any_of HT_.out (by kernel_rfl)) (fun _ _ _ h => h) (Or.inl ⟨by rfl, ?_⟩) ?_ ?_
              rotate_left
              ·
               intro w'
               go_simp
               with_reducible rfl
              rotate_left
              ·
               simp only [Act.put, sA, sB, sC, i64_w, i32_w]
               rfl
              refine done_ (done_of HT_.out (by kernel_rfl)) ?_
              try go_wp2
              all_goals first | (go_ret; refine ⟨?_, ?_⟩; (focus (first | rfl | (simp [errW_none, errW_some] <;> rfl) | (rw [HRL_.out] <;> rfl) | (simp only [HRL_.out] <;> rfl) | (have h_ := HRL_.out; simp at h_; simp [h_]; done) | (have h_ := HRL_.out; simp [*] at h_ ⊢; done) | (simp [*, errW_none, errW_some] <;> rfl))); (focus (repeat (first | (with_reducible first | exact HB.out | apply bA | apply bN | apply bD | refine bS ?_ GE280.out | refine bS ?_ GE281.out | refine bS ?_ GE309.out | refine bS ?_ GE317.out) | exact HB.out)))) | (exfalso; simp_all; done)
             ·
              replace c75 := Bool.eq_false_iff.mpr c75
              subst c75
              have H1 : ((some (([(⟨(rd_T31 l2 0).f0, (⟨(rd_T31 l2 0).f1.f0, (rd_T31 l2 0).f1.f1⟩ : S24), (rd_T31 l2 0).f2, (rd_T31 l2 0).f3, (rd_T31 l2 0).f4⟩ : S31)] : List (S31)) : List (S31))).bind fun y327 => (if y327.length + y290.length < 2932031007402 then ((policy_Pick.f kj26 (y327 ++ y290) a3_0 a3_1 l3_2 a3_3).bind fun bt333 => (if t282 = true then (if bt333.2.2.2.2.2.2 = true then (some (bt333.1 == t302 && ((bt333.2.1 == t303 && (bt333.2.2.1 == t304)) && (bt333.2.2.2.1 == t305 && (bt333.2.2.2.2.1 == t306 && (bt333.2.2.2.2.2.1 == t307)))))) else (some false)) else (some false))) else (none))) = some true := by rw [if_neg (show ¬ (false = true) by decide)] at H; first | done | exact H
              clear H
              have H := H1
              clear H1
              obtain ⟨y327, hy327⟩ : ∃ y_ : List (S31), y_ = (([(⟨(rd_T31 l2 0).f0, (⟨(rd_T31 l2 0).f1.f0, (rd_T31 l2 0).f1.f1⟩ : S24), (rd_T31 l2 0).f2, (rd_T31 l2 0).f3, (rd_T31 l2 0).f4⟩ : S31)] : List (S31))) := ⟨_, rfl⟩
              replace H : (if y327.length + y290.length < 2932031007402 then ((policy_Pick.f kj26 (y327 ++ y290) a3_0 a3_1 l3_2 a3_3).bind fun bt333 => (if t282 = true then (if bt333.2.2.2.2.2.2 = true then (some (bt333.1 == t302 && ((bt333.2.1 == t303 && (bt333.2.2.1 == t304)) && (bt333.2.2.2.1 == t305 && (bt333.2.2.2.2.1 == t306 && (bt333.2.2.2.2.2.1 == t307)))))) else (some false)) else (some false))) else (none)) = some true := by first | (rw [hy327]; with_reducible exact H) | (have H2_ := (Option.bind_some _ _).symm.trans H; rw [hy327]; with_reducible exact H2_) | (have H2_ := (Option.bind_some _ _).symm.trans H; with_reducible exact H2_) | with_reducible exact H | (rw [hy327]; exact H) | exact H
              have Ny327 := Aside0.mk hy327
              clear hy327
              by_cases c78 : y327.length + y290.length < 2932031007402
              ·
               rw [if_pos c78] at H
               have LMc78 := Aside0.mk c78
               clear c78
               obtain ⟨y330, hy330⟩ : ∃ y_ : List (S31), y_ = (y327 ++ y290) := ⟨_, rfl⟩
               replace H : ((policy_Pick.f kj26 y330 a3_0 a3_1 l3_2 a3_3).bind fun bt333 => (if t282 = true then (if bt333.2.2.2.2.2.2 = true then (some (bt333.1 == t302 && ((bt333.2.1 == t303 && (bt333.2.2.1 == t304)) && (bt333.2.2.2.1 == t305 && (bt333.2.2.2.2.1 == t306 && (bt333.2.2.2.2.2.1 == t307)))))) else (some false)) else (some false))) = some true := by first | (rw [hy330]; with_reducible exact H) | (have H2_ := (Option.bind_some _ _).symm.trans H; rw [hy330]; with_reducible exact H2_) | (have H2_ := (Option.bind_some _ _).symm.trans H; with_reducible exact H2_) | with_reducible exact H | (rw [hy330]; exact H) | exact H
               have Ny330 := Aside0.mk hy330
               clear hy330
               replace H := Option.bind_eq_some_iff.mp H
               obtain ⟨⟨t333, t334, t335, t336, t337, t338, t339⟩, A790, H⟩ := H
               replace H : (if t282 = true then (if t339 = true then (some (t333 == t302 && ((t334 == t303 && (t335 == t304)) && (t336 == t305 && (t337 == t306 && (t338 == t307)))))) else (some false)) else (some false)) = some true := H
               have A79 := Aside0.mk A790
               clear A790
               by_cases c80 : t282 = true
               ·
                subst c80
                have H1 : (if t339 = true then (some (t333 == t302 && ((t334 == t303 && (t335 == t304)) && (t336 == t305 && (t337 == t306 && (t338 == t307)))))) else (some false)) = some true := by rw [if_pos rfl] at H; first | done | exact H
                clear H
                have H := H1
                clear H1
                by_cases c81 : t339 = true
                ·
                 subst c81
                 have H1 : (some (t333 == t302 && ((t334 == t303 && (t335 == t304)) && (t336 == t305 && (t337 == t306 && (t338 == t307)))))) = some true := by rw [if_pos rfl] at H; first | done | exact H
                 clear H
                 have H := H1
                 clear H1
                 have HRL_ := Aside0.mk (Option.some.inj H)
                 clear H
                 try go_wp2
                 have n0_ := Aside0.mk (Kd.R_drew HO_10.out)
                 have n1_ := Aside0.mk (blk_drew BK280.out)
                 have n2_ := Aside0.mk (blk_drew BK281.out)
                 have n3_ := Aside0.mk (blk_drew BK309.out)
                 have n4_ := Aside0.mk (blk_drew BK317.out)
                 have n5_ := Aside0.mk (below_drew1 HB.out)
                 clear HO_10
                 clear BK280
                 clear BK281
                 clear BK309
                 clear BK317
                 clear HB
                 have HO_10 := n0_
                 have BK280 := n1_
                 have BK281 := n2_
                 have BK309 := n3_
                 have BK317 := n4_
                 have HB := n5_
                 clear n0_ n1_ n2_ n3_ n4_ n5_
                 have p324 : 0 ≤ (0 : Int) := (by omega)
                 have q324 : 0 < (l2.length : Int) := of_decide_eq_true (by first | (with_reducible assumption) | assumption)
                 obtain ⟨ad324, e324, hx324_0, hx324_1, hx324_2, hx324_3, hx324_4, hx324_5⟩ := at_T31 HR2.out 0 p324 q324
                 have hw324_5 := hx324_5
                 (try rw [show ((0 : Int)).toNat = 0 from rfl] at hw324_5)
                 (try rw [show 0 * 6 = 0 from rfl] at hw324_5)
                 (try rw [Addr.add_zero'] at hw324_5)
                 have hw324_4 := hx324_4
                 (try rw [show ((0 : Int)).toNat = 0 from rfl] at hw324_4)
                 (try rw [show 0 * 6 = 0 from rfl] at hw324_4)
                 (try rw [Addr.add_zero'] at hw324_4)
                 have hw324_3 := hx324_3
                 (try rw [show ((0 : Int)).toNat = 0 from rfl] at hw324_3)
                 (try rw [show 0 * 6 = 0 from rfl] at hw324_3)
                 (try rw [Addr.add_zero'] at hw324_3)
                 have hw324_2 := hx324_2
                 (try rw [show ((0 : Int)).toNat = 0 from rfl] at hw324_2)
                 (try rw [show 0 * 6 = 0 from rfl] at hw324_2)
                 (try rw [Addr.add_zero'] at hw324_2)
                 have hw324_1 := hx324_1
                 (try rw [show ((0 : Int)).toNat = 0 from rfl] at hw324_1)
                 (try rw [show 0 * 6 = 0 from rfl] at hw324_1)
                 (try rw [Addr.add_zero'] at hw324_1)
                 have hw324_0 := hx324_0
                 (try rw [show ((0 : Int)).toNat = 0 from rfl] at hw324_0)
                 (try rw [show 0 * 6 = 0 from rfl] at hw324_0)
                 (try rw [Addr.add_zero'] at hw324_0)
                 cases e324
                 have qi324 : (0 < l2.length) = True := eq_true (by omega)
                 (try rw [show ((0 : Int)).toNat = 0 from rfl] at hx324_0)
                 (try rw [show 0 * 6 = 0 from rfl] at hx324_0)
                 (try rw [Addr.add_zero'] at hx324_0)
                 (try rw [show ((0 : Int)).toNat = 0 from rfl] at hx324_1)
                 (try rw [show 0 * 6 = 0 from rfl] at hx324_1)
                 (try rw [Addr.add_zero'] at hx324_1)
                 (try rw [show ((0 : Int)).toNat = 0 from rfl] at hx324_2)
                 (try rw [show 0 * 6 = 0 from rfl] at hx324_2)
                 (try rw [Addr.add_zero'] at hx324_2)
                 (try rw [show ((0 : Int)).toNat = 0 from rfl] at hx324_3)
                 (try rw [show 0 * 6 = 0 from rfl] at hx324_3)
                 (try rw [Addr.add_zero'] at hx324_3)
                 (try rw [show ((0 : Int)).toNat = 0 from rfl] at hx324_4)
                 (try rw [show 0 * 6 = 0 from rfl] at hx324_4)
                 (try rw [Addr.add_zero'] at hx324_4)
                 (try rw [show ((0 : Int)).toNat = 0 from rfl] at hx324_5)
                 (try rw [show 0 * 6 = 0 from rfl] at hx324_5)
                 (try rw [Addr.add_zero'] at hx324_5)
                 replace hx324_0 := cB HB.out hx324_0
                 replace hx324_1 := cB HB.out hx324_1
                 replace hx324_2 := cB HB.out hx324_2
                 replace hx324_3 := cB HB.out hx324_3
                 replace hx324_4 := cB HB.out hx324_4
                 replace hx324_5 := cB HB.out hx324_5
                 replace p324 := eq_true p324
                 replace q324 := eq_true q324
                 refine start_ (n := 10) (S := fun w' => w'.cell? ⟨gb281, 0, none⟩ = some (.int .i64 a3_0) ∧ w'.cell? ⟨gb281, 1, none⟩ = some (.int .i64 a3_1) ∧ w'.cell? ⟨gb281, 2, none⟩ = some (.slice A3_2 l3_2.length c3_2) ∧ w'.cell? ⟨gb281, 3, none⟩ = some (.int .i64 a3_3) ∧ w'.cell? ad324 = some (.int .i64 ((rd_T31 l2 0).f0)) ∧ w'.cell? ⟨ad324.block, ad324.off + 1, none⟩ = some (.int .i64 ((rd_T31 l2 0).f1.f0)) ∧ w'.cell? ⟨ad324.block, ad324.off + 2, none⟩ = some (.int .i64 ((rd_T31 l2 0).f1.f1)) ∧ w'.cell? ⟨ad324.block, ad324.off + 3, none⟩ = some (.int .i64 ((rd_T31 l2 0).f2)) ∧ w'.cell? ⟨ad324.block, ad324.off + 4, none⟩ = some (.int .i64 ((rd_T31 l2 0).f3)) ∧ w'.cell? ⟨ad324.block, ad324.off + 5, none⟩ = some (.int .i64 ((rd_T31 l2 0).f4))) (ds := []) #[false, false, false, false, false, false, false, false, false, false] (by kernel_rfl) rfl rfl ⟨(blk_cell BK281.out 0).trans rfl, (blk_cell BK281.out 1).trans rfl, (blk_cell BK281.out 2).trans rfl, (blk_cell BK281.out 3).trans rfl, (cB HB.out hw324_0), (cB HB.out hw324_1), (cB HB.out hw324_2), (cB HB.out hw324_3), (cB HB.out hw324_4), (cB HB.out hw324_5)⟩ (fun hHeld => ?_); refine with_tabW ridgewaylaw10_PolicyBehind.tab12 ridgewaylaw10_PolicyBehind.bits12 (fun HT_ HW_ => ?_)
                 generalize wc.drew = w82 at HO_10 BK280 BK281 BK309 BK317 HB hx324_0 hx324_1 hx324_2 hx324_3 hx324_4 hx324_5 hHeld ⊢
                 refine pure_ (i := 0) (N := some 91) (v := ?_) (a' := ?_) #[true, false, false, false, false, false, false, false, false, false] rfl rfl (any_of HT_.out (by kernel_rfl)) (fun _ _ _ h => h) (Or.inl ⟨by rfl, ?_⟩) ?_ ?_
                 rotate_left
                 ·
                  intro w'
                  go_simp
                  with_reducible rfl
                 rotate_left
                 ·
                  simp only [Act.put, sA, sB, sC, i64_w, i32_w]
                  rfl
                 refine pure_ (i := 1) (N := some 92) (v := ?_) (a' := ?_) #[true, true, false, false, false, false, false, false, false, false] rfl rfl (any_of HT_.out (by kernel_rfl)) (fun _ _ _ h => h) (Or.inl ⟨by rfl, ?_⟩) ?_ ?_
                 rotate_left
                 ·
                  intro w'
                  go_simp
                  with_reducible rfl
                 rotate_left
                 ·
                  simp only [Act.put, sA, sB, sC, i64_w, i32_w]
                  rfl
                 refine pure_ (i := 2) (N := some 93) (v := ?_) (a' := ?_) #[true, true, true, false, false, false, false, false, false, false] rfl rfl (any_of HT_.out (by kernel_rfl)) (fun _ _ _ h => h) (Or.inl ⟨by rfl, ?_⟩) ?_ ?_
                 rotate_left
                 ·
                  intro w'
                  go_simp
                  with_reducible rfl
                 rotate_left
                 ·
                  simp only [Act.put, sA, sB, sC, i64_w, i32_w]
                  rfl
                 refine pure_ (i := 3) (N := some 94) (v := ?_) (a' := ?_) #[true, true, true, true, false, false, false, false, false, false] rfl rfl (any_of HT_.out (by kernel_rfl)) (fun _ _ _ h => h) (Or.inl ⟨by rfl, ?_⟩) ?_ ?_
                 rotate_left
                 ·
                  intro w'
                  go_simp
                  with_reducible rfl
                 rotate_left
                 ·
                  simp only [Act.put, sA, sB, sC, i64_w, i32_w]
                  rfl
                 refine pure_ (i := 4) (N := some 95) (v := ?_) (a' := ?_) #[true, true, true, true, true, false, false, false, false, false] rfl rfl (any_of HT_.out (by kernel_rfl)) (fun _ _ _ h => h) (Or.inl ⟨by rfl, ?_⟩) ?_ ?_
                 rotate_left
                 ·
                  intro w'
                  go_simp
                  with_reducible rfl
                 rotate_left
                 ·
                  simp only [Act.put, sA, sB, sC, i64_w, i32_w]
                  rfl
                 refine pure_ (i := 5) (N := some 96) (v := ?_) (a' := ?_) #[true, true, true, true, true, true, false, false, false, false] rfl rfl (any_of HT_.out (by kernel_rfl)) (fun _ _ _ h => h) (Or.inl ⟨by rfl, ?_⟩) ?_ ?_
                 rotate_left
                 ·
                  intro w'
                  go_simp
                  with_reducible rfl
                 rotate_left
                 ·
                  simp only [Act.put, sA, sB, sC, i64_w, i32_w]
                  rfl
                 refine take_ (i := 6) (N := some 97) (v := ?_) (a' := ?_) #[true, true, true, true, true, true, true, false, false, false] rfl rfl (take_ofW HT_.out HW_.out (by kernel_rfl)) (fun _ _ _ h => h) (Or.inl ⟨by rfl, ?_⟩) hHeld ?_ ?_
                 rotate_left
                 ·
                  rintro w' ⟨s0, s1, s2, s3, s4, s5, s6, s7, s8, s9⟩
                  go_simp
                  with_reducible rfl
                 rotate_left
                 ·
                  simp only [Act.put, sA, sB, sC, i64_w, i32_w]
                  rfl
                 refine take_ (i := 7) (N := some 98) (v := ?_) (a' := ?_) #[true, true, true, true, true, true, true, true, false, false] rfl rfl (take_ofW HT_.out HW_.out (by kernel_rfl)) (fun _ _ _ h => h) (Or.inl ⟨by rfl, ?_⟩) hHeld ?_ ?_
                 rotate_left
                 ·
                  rintro w' ⟨s0, s1, s2, s3, s4, s5, s6, s7, s8, s9⟩
                  go_simp
                  with_reducible rfl
                 rotate_left
                 ·
                  simp only [Act.put, sA, sB, sC, i64_w, i32_w]
                  rfl
                 refine one_ (i := 8) (N := some 99) #[true, true, true, true, true, true, true, true, true, false] rfl rfl (one_of HT_.out (by kernel_rfl)) (by decide) (fun K hK => ?_)
                 refine goes_ Try.func11 (by kernel_rfl) rfl #[.agg #[.int .i64 ((rd_T31 l2 0).f0), .int .i64 ((rd_T31 l2 0).f1.f0), .int .i64 ((rd_T31 l2 0).f1.f1), .int .i64 ((rd_T31 l2 0).f2), .int .i64 ((rd_T31 l2 0).f3), .int .i64 ((rd_T31 l2 0).f4)], .agg #[.int .i64 a3_0, .int .i64 a3_1, .slice A3_2 l3_2.length c3_2, .int .i64 a3_3]] (by rfl) rfl rfl (by (try simp only [List.map_toArray, List.map_cons, List.map_nil]); first | done | rfl | (simp only [List.length_drop, List.length_take]; rfl)) ?_
                 with_reducible refine (policy_Fits.calls kj26 ((rd_T31 l2 0).f0) ((rd_T31 l2 0).f1.f0) ((rd_T31 l2 0).f1.f1) ((rd_T31 l2 0).f2) ((rd_T31 l2 0).f3) ((rd_T31 l2 0).f4) a3_0 a3_1 _ _ l3_2 a3_3 false _ ?side1 ?side2 A74.out).mono ?_
                 (case side1 => repeat (first | exact (Kd.C_below HR3_2.out HB.out) | (with_reducible refine Kd.C_alloc ?_ _) | (with_reducible refine Kd.C_drewN ?_ _) | (with_reducible refine Kd.C_drew ?_)))
                 (case side2 => exact HC3_2.out)
                 rintro e w83 ⟨rfl, hb⟩
                 refine ⟨_, rfl, ?_⟩
                 have n0_ := Aside0.mk (Kd.R_below (by (with_reducible repeat (first | apply Kd.R_alloc | apply Kd.R_drewN | apply Kd.R_drew)); exact HO_10.out) hb)
                 have n1_ := Aside0.mk (blk_below (g := gb280) (o := .cells #[.int .i64 a1_0, .int .i64 a1_1, .int .i64 a1_2, .int .i64 a1_3, .int .i64 a1_4, .int .i64 a1_5] 31 (0, 0)) (by (with_reducible repeat (first | refine kN ?_ _ | refine kD ?_ | refine kA ?_ _)); exact BK280.out) hb)
                 have n2_ := Aside0.mk (blk_below (g := gb281) (o := .cells #[.int .i64 a3_0, .int .i64 a3_1, .slice A3_2 l3_2.length c3_2, .int .i64 a3_3] 27 (0, 0)) (by (with_reducible repeat (first | refine kN ?_ _ | refine kD ?_ | refine kA ?_ _)); exact BK281.out) hb)
                 have n3_ := Aside0.mk (blk_below (g := gb309) (o := .cells #[.int .i64 t302, .int .i64 t303, .int .i64 t304, .int .i64 t305, .int .i64 t306, .int .i64 t307] 31 (0, 0)) (by (with_reducible repeat (first | refine kN ?_ _ | refine kD ?_ | refine kA ?_ _)); exact BK309.out) hb)
                 have n4_ := Aside0.mk (blk_below (g := gb317) (o := .cells #[.int .i64 t310, .int .i64 t311, .int .i64 t312, .int .i64 t313, .int .i64 t314, .int .i64 t315] 31 (0, 0)) (by (with_reducible repeat (first | refine kN ?_ _ | refine kD ?_ | refine kA ?_ _)); exact BK317.out) hb)
                 have n5_ := Aside0.mk (below_step (by repeat (first | (with_reducible first | exact HB.out | apply bA | apply bN | apply bD | refine bS ?_ GE280.out | refine bS ?_ GE281.out | refine bS ?_ GE309.out | refine bS ?_ GE317.out) | exact HB.out)) hb)
                 clear HO_10
                 clear BK280
                 clear BK281
                 clear BK309
                 clear BK317
                 clear HB
                 have HO_10 := n0_
                 have BK280 := n1_
                 have BK281 := n2_
                 have BK309 := n3_
                 have BK317 := n4_
                 have HB := n5_
                 clear n0_ n1_ n2_ n3_ n4_ n5_
                 (try clear hb)
                 (try clear hb2)
                 (try clear hk)
                 (try clear hi)
                 refine hK.out _ _ ⟨(blk_cell BK281.out 0).trans rfl, (blk_cell BK281.out 1).trans rfl, (blk_cell BK281.out 2).trans rfl, (blk_cell BK281.out 3).trans rfl, (cB HB.out hw324_0), (cB HB.out hw324_1), (cB HB.out hw324_2), (cB HB.out hw324_3), (cB HB.out hw324_4), (cB HB.out hw324_5)⟩ (fun hHeld => ?_)
                 clear hK K
                 refine norm_ (a' := ?_) ?_ ?_
                 rotate_left
                 ·
                  show Act.put _ (some 99) _ = _
                  simp only [Act.put, sA, sB, sC, i64_w, i32_w]
                  rfl
                 refine pure_ (i := 9) (N := some 100) (v := ?_) (a' := ?_) #[true, true, true, true, true, true, true, true, true, true] rfl rfl (any_of HT_.out (by kernel_rfl)) (fun _ _ _ h => h) (Or.inl ⟨by rfl, ?_⟩) ?_ ?_
                 rotate_left
                 ·
                  intro w'
                  go_simp
                  with_reducible rfl
                 rotate_left
                 ·
                  simp only [Act.put, sA, sB, sC, i64_w, i32_w]
                  rfl
                 refine done_ (done_of HT_.out (by kernel_rfl)) ?_
                 have p326 : 0 ≤ (0 : Int) := (by omega)
                 have q326 : 0 < (l2.length : Int) := of_decide_eq_true (by first | (with_reducible assumption) | assumption)
                 obtain ⟨ad326, e326, hx326_0, hx326_1, hx326_2, hx326_3, hx326_4, hx326_5⟩ := at_T31 HR2.out 0 p326 q326
                 obtain rfl : ad324 = ad326 := (by injection e326)
                 have qi326 : (0 < l2.length) = True := eq_true (by omega)
                 (try rw [show ((0 : Int)).toNat = 0 from rfl] at hx326_0)
                 (try rw [show 0 * 6 = 0 from rfl] at hx326_0)
                 (try rw [Addr.add_zero'] at hx326_0)
                 (try rw [show ((0 : Int)).toNat = 0 from rfl] at hx326_1)
                 (try rw [show 0 * 6 = 0 from rfl] at hx326_1)
                 (try rw [Addr.add_zero'] at hx326_1)
                 (try rw [show ((0 : Int)).toNat = 0 from rfl] at hx326_2)
                 (try rw [show 0 * 6 = 0 from rfl] at hx326_2)
                 (try rw [Addr.add_zero'] at hx326_2)
                 (try rw [show ((0 : Int)).toNat = 0 from rfl] at hx326_3)
                 (try rw [show 0 * 6 = 0 from rfl] at hx326_3)
                 (try rw [Addr.add_zero'] at hx326_3)
                 (try rw [show ((0 : Int)).toNat = 0 from rfl] at hx326_4)
                 (try rw [show 0 * 6 = 0 from rfl] at hx326_4)
                 (try rw [Addr.add_zero'] at hx326_4)
                 (try rw [show ((0 : Int)).toNat = 0 from rfl] at hx326_5)
                 (try rw [show 0 * 6 = 0 from rfl] at hx326_5)
                 (try rw [Addr.add_zero'] at hx326_5)
                 replace hx326_0 := cB HB.out hx326_0
                 replace hx326_1 := cB HB.out hx326_1
                 replace hx326_2 := cB HB.out hx326_2
                 replace hx326_3 := cB HB.out hx326_3
                 replace hx326_4 := cB HB.out hx326_4
                 replace hx326_5 := cB HB.out hx326_5
                 replace p326 := eq_true p326
                 replace q326 := eq_true q326
                 try go_wp2_with (first | ((with_reducible refine gate_dst (N := 105) rfl ?_); (try (refine gate_guard (by rfl) ?_; dsimp only)); refine Kd.R_lit k31 _ 31 ?hg (N := 105) ?hd (xs := ([(⟨(rd_T31 l2 0).f0, (⟨(rd_T31 l2 0).f1.f0, (rd_T31 l2 0).f1.f1⟩ : S24), (rd_T31 l2 0).f2, (rd_T31 l2 0).f3, (rd_T31 l2 0).f4⟩ : S31)] : List (S31))) (inner := [.int .i64 ((rd_T31 l2 0).f0), .int .i64 ((rd_T31 l2 0).f1.f0), .int .i64 ((rd_T31 l2 0).f1.f1), .int .i64 ((rd_T31 l2 0).f2), .int .i64 ((rd_T31 l2 0).f3), .int .i64 ((rd_T31 l2 0).f4)]) (ok := fun _ => True) (okp := fun _ => True) ?hr ?hp (fun _ hk => hk) trivial (Below.refl _ _) (Nat.le_refl _) (by simp) ?_; (case hd => rfl); (case hg => rfl); (case hr => first | (go_simp; done) | (go_simp; rfl)); (case hp => exact (Reps.c6 (show Kd.M k31 _ _ _ (⟨(rd_T31 l2 0).f0, (⟨(rd_T31 l2 0).f1.f0, (rd_T31 l2 0).f1.f1⟩ : S24), (rd_T31 l2 0).f2, (rd_T31 l2 0).f3, (rd_T31 l2 0).f4⟩ : S31) [.int .i64 ((rd_T31 l2 0).f0), .int .i64 ((rd_T31 l2 0).f1.f0), .int .i64 ((rd_T31 l2 0).f1.f1), .int .i64 ((rd_T31 l2 0).f2), .int .i64 ((rd_T31 l2 0).f3), .int .i64 ((rd_T31 l2 0).f4)] from (k31_mkM _ _ _ (⟨(rd_T31 l2 0).f0, (⟨(rd_T31 l2 0).f1.f0, (rd_T31 l2 0).f1.f1⟩ : S24), (rd_T31 l2 0).f2, (rd_T31 l2 0).f3, (rd_T31 l2 0).f4⟩ : S31) )) (Reps.none _ _))); intro v328 w84 ho85 hb hg_ hnew_; clear hg_ hnew_; (first | rw [← Ny327.out] at ho85 | (simp only [Int.reduceToNat] at ho85; rw [← Ny327.out] at ho85)); have n0_ := Aside0.mk (Kd.R_elder' (by (with_reducible repeat (first | apply Kd.R_alloc | apply Kd.R_drewN | apply Kd.R_drew)); exact HO_10.out) (Kd.R_base ho85) hb); have n1_ := Aside0.mk (Kd.R_lower (Kd.R_newB (Kd.R_newB (Kd.R_newB (Kd.R_new' ho85 (Kd.R_lt (by (with_reducible repeat (first | apply Kd.R_alloc | apply Kd.R_drewN | apply Kd.R_drew)); exact HO_10.out))) (g := gb280) (o := .cells #[.int .i64 a1_0, .int .i64 a1_1, .int .i64 a1_2, .int .i64 a1_3, .int .i64 a1_4, .int .i64 a1_5] 31 (0, 0)) (by (with_reducible repeat (first | refine kN ?_ _ | refine kD ?_ | refine kA ?_ _)); exact BK280.out)) (g := gb309) (o := .cells #[.int .i64 t302, .int .i64 t303, .int .i64 t304, .int .i64 t305, .int .i64 t306, .int .i64 t307] 31 (0, 0)) (by (with_reducible repeat (first | refine kN ?_ _ | refine kD ?_ | refine kA ?_ _)); exact BK309.out)) (g := gb317) (o := .cells #[.int .i64 t310, .int .i64 t311, .int .i64 t312, .int .i64 t313, .int .i64 t314, .int .i64 t315] 31 (0, 0)) (by (with_reducible repeat (first | refine kN ?_ _ | refine kD ?_ | refine kA ?_ _)); exact BK317.out)) (below_size (by repeat (first | (with_reducible first | exact HB.out | apply bA | apply bN | apply bD | refine bS ?_ GE280.out | refine bS ?_ GE281.out | refine bS ?_ GE309.out | refine bS ?_ GE317.out) | exact HB.out)))); have n2_ := Aside0.mk (blk_below (g := gb280) (o := .cells #[.int .i64 a1_0, .int .i64 a1_1, .int .i64 a1_2, .int .i64 a1_3, .int .i64 a1_4, .int .i64 a1_5] 31 (0, 0)) (by (with_reducible repeat (first | refine kN ?_ _ | refine kD ?_ | refine kA ?_ _)); exact BK280.out) hb); have n3_ := Aside0.mk (blk_below (g := gb281) (o := .cells #[.int .i64 a3_0, .int .i64 a3_1, .slice A3_2 l3_2.length c3_2, .int .i64 a3_3] 27 (0, 0)) (by (with_reducible repeat (first | refine kN ?_ _ | refine kD ?_ | refine kA ?_ _)); exact BK281.out) hb); have n4_ := Aside0.mk (blk_below (g := gb309) (o := .cells #[.int .i64 t302, .int .i64 t303, .int .i64 t304, .int .i64 t305, .int .i64 t306, .int .i64 t307] 31 (0, 0)) (by (with_reducible repeat (first | refine kN ?_ _ | refine kD ?_ | refine kA ?_ _)); exact BK309.out) hb); have n5_ := Aside0.mk (blk_below (g := gb317) (o := .cells #[.int .i64 t310, .int .i64 t311, .int .i64 t312, .int .i64 t313, .int .i64 t314, .int .i64 t315] 31 (0, 0)) (by (with_reducible repeat (first | refine kN ?_ _ | refine kD ?_ | refine kA ?_ _)); exact BK317.out) hb); have n6_ := Aside0.mk (below_step (by repeat (first | (with_reducible first | exact HB.out | apply bA | apply bN | apply bD | refine bS ?_ GE280.out | refine bS ?_ GE281.out | refine bS ?_ GE309.out | refine bS ?_ GE317.out) | exact HB.out)) hb); clear HO_10; clear BK280; clear BK281; clear BK309; clear BK317; clear HB; have HO_10 := n0_; have HO329 := n1_; have BK280 := n2_; have BK281 := n3_; have BK309 := n4_; have BK317 := n5_; have HB := n6_; clear n0_ n1_ n2_ n3_ n4_ n5_ n6_; clear hb ho85) | ((with_reducible refine gate_builtin (b := .append) (xs := #[.tmp 105, .tmp 106]) rfl ?_); (try (refine gate_guard (by rfl) ?_; dsimp only)); at_builtin; refine Kd.R_append_rows k31 (w0 := w) w.heap.size rfl (.tmp 105) (.tmp 106) 22 31 (.agg #[(.int .i64 0), (.int .i64 0), (.int .i64 0), (.int .i64 0), (.int .i64 0), (.int .i64 0)]) 48 rfl Try.underlying22 info31 rfl (by decide) (by omega) v328 y327 y290 _ _ _ (fun k_ => some k_ ≠ (.slice Ao37 y290.length co37 : Value).ownBlock ∧ k_ ≠ gb280 ∧ k_ ≠ gb309 ∧ k_ ≠ gb317) (fun _ => False) rfl rfl ?aO ?aR (fun _ _ h => h) (fun _ h => h.elim) ?aF ?aB ?aS ?aL ?_; (case aR => repeat (first | exact (Kd.R_reads' HO_10.out).2.2 | (with_reducible refine Kd.C_alloc ?_ _) | (with_reducible refine Kd.C_drewN ?_ _) | (with_reducible refine Kd.C_drew ?_))); (case aB => exact (by repeat (first | (with_reducible first | exact HB.out | apply bA | apply bN | apply bD | refine bS ?_ GE280.out | refine bS ?_ GE281.out | refine bS ?_ GE309.out | refine bS ?_ GE317.out) | exact HB.out))); (case aF => exact (fun k_ hk => ⟨Kd.fresh' (Kd.R_lt (by (with_reducible repeat (first | apply Kd.R_alloc | apply Kd.R_drewN | apply Kd.R_drew)); exact HO_10.out)) k_ hk, Kd.freshB (g := gb280) (o := .cells #[.int .i64 a1_0, .int .i64 a1_1, .int .i64 a1_2, .int .i64 a1_3, .int .i64 a1_4, .int .i64 a1_5] 31 (0, 0)) (by (with_reducible repeat (first | refine kN ?_ _ | refine kD ?_ | refine kA ?_ _)); exact BK280.out) k_ hk, Kd.freshB (g := gb309) (o := .cells #[.int .i64 t302, .int .i64 t303, .int .i64 t304, .int .i64 t305, .int .i64 t306, .int .i64 t307] 31 (0, 0)) (by (with_reducible repeat (first | refine kN ?_ _ | refine kD ?_ | refine kA ?_ _)); exact BK309.out) k_ hk, Kd.freshB (g := gb317) (o := .cells #[.int .i64 t310, .int .i64 t311, .int .i64 t312, .int .i64 t313, .int .i64 t314, .int .i64 t315] 31 (0, 0)) (by (with_reducible repeat (first | refine kN ?_ _ | refine kD ?_ | refine kA ?_ _)); exact BK317.out) k_ hk⟩)); (case aO => exact (by (with_reducible repeat (first | apply Kd.R_alloc | apply Kd.R_drewN | apply Kd.R_drew)); exact Kd.R_mono HO329.out (fun _ hk => ⟨hk.1.1.1.2, ⟨hk.1.1.2, ⟨hk.1.2, hk.2⟩⟩⟩))); (case aS => exact (below_size (by repeat (first | (with_reducible first | exact HB.out | apply bA | apply bN | apply bD | refine bS ?_ GE280.out | refine bS ?_ GE281.out | refine bS ?_ GE309.out | refine bS ?_ GE317.out) | exact HB.out)))); (case aL => have := LMc78.out; omega); intro v331 w86 ho hb hg hat; rw [← Ny330.out] at ho; have n0_ := Aside0.mk (Kd.R_after (ok := (fun k_ => k_ ≠ gb280 ∧ k_ ≠ gb309 ∧ k_ ≠ gb317)) (by (with_reducible repeat (first | apply Kd.R_alloc | apply Kd.R_drewN | apply Kd.R_drew)); exact HO_10.out) hg hat); have n1_ := Aside0.mk (blk_grown (g := gb280) (o := .cells #[.int .i64 a1_0, .int .i64 a1_1, .int .i64 a1_2, .int .i64 a1_3, .int .i64 a1_4, .int .i64 a1_5] 31 (0, 0)) (by (with_reducible repeat (first | refine kN ?_ _ | refine kD ?_ | refine kA ?_ _)); exact BK280.out) hg (Kd.R_away HO329.out (fun _ hk => hk.1.1.2))); have n2_ := Aside0.mk (blk_grown (g := gb281) (o := .cells #[.int .i64 a3_0, .int .i64 a3_1, .slice A3_2 l3_2.length c3_2, .int .i64 a3_3] 27 (0, 0)) (by (with_reducible repeat (first | refine kN ?_ _ | refine kD ?_ | refine kA ?_ _)); exact BK281.out) hg (Kd.R_ne HO329.out BK281.out (by decide))); have n3_ := Aside0.mk (blk_grown (g := gb309) (o := .cells #[.int .i64 t302, .int .i64 t303, .int .i64 t304, .int .i64 t305, .int .i64 t306, .int .i64 t307] 31 (0, 0)) (by (with_reducible repeat (first | refine kN ?_ _ | refine kD ?_ | refine kA ?_ _)); exact BK309.out) hg (Kd.R_away HO329.out (fun _ hk => hk.1.2))); have n4_ := Aside0.mk (blk_grown (g := gb317) (o := .cells #[.int .i64 t310, .int .i64 t311, .int .i64 t312, .int .i64 t313, .int .i64 t314, .int .i64 t315] 31 (0, 0)) (by (with_reducible repeat (first | refine kN ?_ _ | refine kD ?_ | refine kA ?_ _)); exact BK317.out) hg (Kd.R_away HO329.out (fun _ hk => hk.2))); have n5_ := Aside0.mk (hb); have n6_ := Aside0.mk (ho); clear HO_10; clear BK280; clear BK281; clear BK309; clear BK317; clear HB; clear HO329; have HO_10 := n0_; have BK280 := n1_; have BK281 := n2_; have BK309 := n3_; have BK317 := n4_; have HB := n5_; have HO332 := n6_; clear n0_ n1_ n2_ n3_ n4_ n5_ n6_; clear ho hb hg hat; have hnb87 := NB281_280.out; have hnc87 := NB280_281.out; have hnb88 := NB281_309.out; have hnc88 := NB309_281.out; have hnb89 := NB281_317.out; have hnc89 := NB317_281.out; have hcz90_0 : w86.cell? ⟨gb281, 0, none⟩ = some (.int .i64 a3_0) := (blk_cell BK281.out 0).trans rfl; have hcz90_1 : w86.cell? ⟨gb281, 1, none⟩ = some (.int .i64 a3_1) := (blk_cell BK281.out 1).trans rfl; have hcz90_2 : w86.cell? ⟨gb281, 2, none⟩ = some (.slice A3_2 l3_2.length c3_2) := (blk_cell BK281.out 2).trans rfl; have hcz90_3 : w86.cell? ⟨gb281, 3, none⟩ = some (.int .i64 a3_3) := (blk_cell BK281.out 3).trans rfl; have hfz90_0 := blk_frozen BK281.out 0; have hfz90_1 := blk_frozen BK281.out 1; have hfz90_2 := blk_frozen BK281.out 2; have hfz90_3 := blk_frozen BK281.out 3; obtain ⟨Ao91, co91, eo91⟩ := Kd.R_slice HO332.out; subst eo91) | ((with_reducible refine gate_callee (f := 15) rfl ?_); refine goesL_ (some 111) rfl rfl Try.func15 (by kernel_rfl) rfl #[.slice Ao91 y330.length co91, .agg #[.int .i64 a3_0, .int .i64 a3_1, .slice A3_2 l3_2.length c3_2, .int .i64 a3_3]] rfl (by (try simp only [List.map_toArray, List.map_cons, List.map_nil]); first | done | rfl | (simp only [List.length_drop, List.length_take]; rfl)) ?_; (with_reducible refine (policy_Pick.calls kj26 _ _ y330 a3_0 a3_1 _ _ l3_2 a3_3 t333 t334 t335 t336 t337 t338 true _ ?side1 ?side2 ?side3 ?side4 A79.out).mono ?_); (case side1 => repeat (first | exact (Kd.R_reads' HO332.out).2.2 | (with_reducible refine Kd.C_alloc ?_ _) | (with_reducible refine Kd.C_drewN ?_ _) | (with_reducible refine Kd.C_drew ?_))); (case side2 => exact (Kd.R_reads' HO332.out).2.1); (case side3 => repeat (first | exact (Kd.C_below HR3_2.out HB.out) | (with_reducible refine Kd.C_alloc ?_ _) | (with_reducible refine Kd.C_drewN ?_ _) | (with_reducible refine Kd.C_drew ?_))); (case side4 => exact HC3_2.out); rintro e w92 ⟨rfl, hb⟩; refine ⟨_, rfl, ?_⟩; have n0_ := Aside0.mk (Kd.R_below (by (with_reducible repeat (first | apply Kd.R_alloc | apply Kd.R_drewN | apply Kd.R_drew)); exact HO_10.out) hb); have n1_ := Aside0.mk (Kd.R_below (by (with_reducible repeat (first | apply Kd.R_alloc | apply Kd.R_drewN | apply Kd.R_drew)); exact HO332.out) hb); have n2_ := Aside0.mk (blk_below (g := gb280) (o := .cells #[.int .i64 a1_0, .int .i64 a1_1, .int .i64 a1_2, .int .i64 a1_3, .int .i64 a1_4, .int .i64 a1_5] 31 (0, 0)) (by (with_reducible repeat (first | refine kN ?_ _ | refine kD ?_ | refine kA ?_ _)); exact BK280.out) hb); have n3_ := Aside0.mk (blk_below (g := gb281) (o := .cells #[.int .i64 a3_0, .int .i64 a3_1, .slice A3_2 l3_2.length c3_2, .int .i64 a3_3] 27 (0, 0)) (by (with_reducible repeat (first | refine kN ?_ _ | refine kD ?_ | refine kA ?_ _)); exact BK281.out) hb); have n4_ := Aside0.mk (blk_below (g := gb309) (o := .cells #[.int .i64 t302, .int .i64 t303, .int .i64 t304, .int .i64 t305, .int .i64 t306, .int .i64 t307] 31 (0, 0)) (by (with_reducible repeat (first | refine kN ?_ _ | refine kD ?_ | refine kA ?_ _)); exact BK309.out) hb); have n5_ := Aside0.mk (blk_below (g := gb317) (o := .cells #[.int .i64 t310, .int .i64 t311, .int .i64 t312, .int .i64 t313, .int .i64 t314, .int .i64 t315] 31 (0, 0)) (by (with_reducible repeat (first | refine kN ?_ _ | refine kD ?_ | refine kA ?_ _)); exact BK317.out) hb); have n6_ := Aside0.mk (below_step (by repeat (first | (with_reducible first | exact HB.out | apply bA | apply bN | apply bD | refine bS ?_ GE280.out | refine bS ?_ GE281.out | refine bS ?_ GE309.out | refine bS ?_ GE317.out) | exact HB.out)) hb); clear HO_10; clear HO332; clear BK280; clear BK281; clear BK309; clear BK317; clear HB; have HO_10 := n0_; have HO332 := n1_; have BK280 := n2_; have BK281 := n3_; have BK309 := n4_; have BK317 := n5_; have HB := n6_; clear n0_ n1_ n2_ n3_ n4_ n5_ n6_; (try clear hb); (try clear hb2); (try clear hk); (try clear hi)) | ((with_reducible refine gate_dst (N := 17) rfl ?_); (try (refine gate_guard (by rfl) ?_; dsimp only)); refine box_event ?hg (N := 17) ?hd (cs := #[.int .i64 0, .int .i64 0, .int .i64 0, .int .i64 0, .int .i64 0, .int .i64 0]) (t := 31) ?hr ?_; (case hd => rfl); (case hg => rfl); (case hr => first | (go_simp; done) | (go_simp; rfl)); intro gb340 hg w93 hbox hb; have n0_ := Aside0.mk (Kd.R_below (Kd.R_elderB (by (with_reducible repeat (first | apply Kd.R_alloc | apply Kd.R_drewN | apply Kd.R_drew)); exact HO_10.out) gb340 (Nat.le_of_eq hg.symm)) hb); have n1_ := Aside0.mk (Kd.R_below (Kd.R_elderB (by (with_reducible repeat (first | apply Kd.R_alloc | apply Kd.R_drewN | apply Kd.R_drew)); exact HO332.out) gb340 (Nat.le_of_eq hg.symm)) hb); have n2_ := Aside0.mk (blk_below (g := gb280) (o := .cells #[.int .i64 a1_0, .int .i64 a1_1, .int .i64 a1_2, .int .i64 a1_3, .int .i64 a1_4, .int .i64 a1_5] 31 (0, 0)) (by (with_reducible repeat (first | refine kN ?_ _ | refine kD ?_ | refine kA ?_ _)); exact BK280.out) hb); have n3_ := Aside0.mk (blk_below (g := gb281) (o := .cells #[.int .i64 a3_0, .int .i64 a3_1, .slice A3_2 l3_2.length c3_2, .int .i64 a3_3] 27 (0, 0)) (by (with_reducible repeat (first | refine kN ?_ _ | refine kD ?_ | refine kA ?_ _)); exact BK281.out) hb); have n4_ := Aside0.mk (blk_below (g := gb309) (o := .cells #[.int .i64 t302, .int .i64 t303, .int .i64 t304, .int .i64 t305, .int .i64 t306, .int .i64 t307] 31 (0, 0)) (by (with_reducible repeat (first | refine kN ?_ _ | refine kD ?_ | refine kA ?_ _)); exact BK309.out) hb); have n5_ := Aside0.mk (blk_below (g := gb317) (o := .cells #[.int .i64 t310, .int .i64 t311, .int .i64 t312, .int .i64 t313, .int .i64 t314, .int .i64 t315] 31 (0, 0)) (by (with_reducible repeat (first | refine kN ?_ _ | refine kD ?_ | refine kA ?_ _)); exact BK317.out) hb); have n6_ := Aside0.mk (below_step (by repeat (first | (with_reducible first | exact HB.out | apply bA | apply bN | apply bD | refine bS ?_ GE280.out | refine bS ?_ GE281.out | refine bS ?_ GE309.out | refine bS ?_ GE317.out) | exact HB.out)) hb); have n7_ := Aside0.mk (hbox); have n8_ := Aside0.mk ((by rw [hg]; exact (below_size (by repeat (first | (with_reducible first | exact HB.out | apply bA | apply bN | apply bD | refine bS ?_ GE280.out | refine bS ?_ GE281.out | refine bS ?_ GE309.out | refine bS ?_ GE317.out) | exact HB.out))) : w.heap.size ≤ gb340)); have n9_ := Aside0.mk ((by rw [hg]; exact (below_size (by repeat (first | (with_reducible first | exact HB.out | apply bA | apply bN | apply bD | refine bS ?_ GE280.out | refine bS ?_ GE281.out | refine bS ?_ GE309.out | refine bS ?_ GE317.out) | exact HB.out))) : w.heap.size ≤ gb340)); have n10_ := Aside0.mk ((by rw [hg]; exact Nat.ne_of_lt (blk_lt (g := gb280) (o := .cells #[.int .i64 a1_0, .int .i64 a1_1, .int .i64 a1_2, .int .i64 a1_3, .int .i64 a1_4, .int .i64 a1_5] 31 (0, 0)) (by (with_reducible repeat (first | refine kN ?_ _ | refine kD ?_ | refine kA ?_ _)); exact BK280.out)) : gb280 ≠ gb340)); have n11_ := Aside0.mk ((by rw [hg]; exact Nat.ne_of_gt (blk_lt (g := gb280) (o := .cells #[.int .i64 a1_0, .int .i64 a1_1, .int .i64 a1_2, .int .i64 a1_3, .int .i64 a1_4, .int .i64 a1_5] 31 (0, 0)) (by (with_reducible repeat (first | refine kN ?_ _ | refine kD ?_ | refine kA ?_ _)); exact BK280.out)) : gb340 ≠ gb280)); have n12_ := Aside0.mk ((by rw [hg]; exact Nat.ne_of_lt (blk_lt (g := gb281) (o := .cells #[.int .i64 a3_0, .int .i64 a3_1, .slice A3_2 l3_2.length c3_2, .int .i64 a3_3] 27 (0, 0)) (by (with_reducible repeat (first | refine kN ?_ _ | refine kD ?_ | refine kA ?_ _)); exact BK281.out)) : gb281 ≠ gb340)); have n13_ := Aside0.mk ((by rw [hg]; exact Nat.ne_of_gt (blk_lt (g := gb281) (o := .cells #[.int .i64 a3_0, .int .i64 a3_1, .slice A3_2 l3_2.length c3_2, .int .i64 a3_3] 27 (0, 0)) (by (with_reducible repeat (first | refine kN ?_ _ | refine kD ?_ | refine kA ?_ _)); exact BK281.out)) : gb340 ≠ gb281)); have n14_ := Aside0.mk ((by rw [hg]; exact Nat.ne_of_lt (blk_lt (g := gb309) (o := .cells #[.int .i64 t302, .int .i64 t303, .int .i64 t304, .int .i64 t305, .int .i64 t306, .int .i64 t307] 31 (0, 0)) (by (with_reducible repeat (first | refine kN ?_ _ | refine kD ?_ | refine kA ?_ _)); exact BK309.out)) : gb309 ≠ gb340)); have n15_ := Aside0.mk ((by rw [hg]; exact Nat.ne_of_gt (blk_lt (g := gb309) (o := .cells #[.int .i64 t302, .int .i64 t303, .int .i64 t304, .int .i64 t305, .int .i64 t306, .int .i64 t307] 31 (0, 0)) (by (with_reducible repeat (first | refine kN ?_ _ | refine kD ?_ | refine kA ?_ _)); exact BK309.out)) : gb340 ≠ gb309)); have n16_ := Aside0.mk ((by rw [hg]; exact Nat.ne_of_lt (blk_lt (g := gb317) (o := .cells #[.int .i64 t310, .int .i64 t311, .int .i64 t312, .int .i64 t313, .int .i64 t314, .int .i64 t315] 31 (0, 0)) (by (with_reducible repeat (first | refine kN ?_ _ | refine kD ?_ | refine kA ?_ _)); exact BK317.out)) : gb317 ≠ gb340)); have n17_ := Aside0.mk ((by rw [hg]; exact Nat.ne_of_gt (blk_lt (g := gb317) (o := .cells #[.int .i64 t310, .int .i64 t311, .int .i64 t312, .int .i64 t313, .int .i64 t314, .int .i64 t315] 31 (0, 0)) (by (with_reducible repeat (first | refine kN ?_ _ | refine kD ?_ | refine kA ?_ _)); exact BK317.out)) : gb340 ≠ gb317)); clear HO_10; clear HO332; clear BK280; clear BK281; clear BK309; clear BK317; clear HB; have HO_10 := n0_; have HO332 := n1_; have BK280 := n2_; have BK281 := n3_; have BK309 := n4_; have BK317 := n5_; have HB := n6_; have BK340 := n7_; have GW340 := n8_; have GE340 := n9_; have NB280_340 := n10_; have NB340_280 := n11_; have NB281_340 := n12_; have NB340_281 := n13_; have NB309_340 := n14_; have NB340_309 := n15_; have NB317_340 := n16_; have NB340_317 := n17_; clear n0_ n1_ n2_ n3_ n4_ n5_ n6_ n7_ n8_ n9_ n10_ n11_ n12_ n13_ n14_ n15_ n16_ n17_; clear hb hbox hg; have hnb94 := NB340_280.out; have hnc94 := NB280_340.out; have hnb95 := NB340_281.out; have hnc95 := NB281_340.out; have hnb96 := NB340_309.out; have hnc96 := NB309_340.out; have hnb97 := NB340_317.out; have hnc97 := NB317_340.out; have hcz98_0 : w93.cell? ⟨gb340, 0, none⟩ = some (.int .i64 0) := (blk_cell BK340.out 0).trans rfl; have hcz98_1 : w93.cell? ⟨gb340, 1, none⟩ = some (.int .i64 0) := (blk_cell BK340.out 1).trans rfl; have hcz98_2 : w93.cell? ⟨gb340, 2, none⟩ = some (.int .i64 0) := (blk_cell BK340.out 2).trans rfl; have hcz98_3 : w93.cell? ⟨gb340, 3, none⟩ = some (.int .i64 0) := (blk_cell BK340.out 3).trans rfl; have hcz98_4 : w93.cell? ⟨gb340, 4, none⟩ = some (.int .i64 0) := (blk_cell BK340.out 4).trans rfl; have hcz98_5 : w93.cell? ⟨gb340, 5, none⟩ = some (.int .i64 0) := (blk_cell BK340.out 5).trans rfl; have hfz98_0 := blk_frozen BK340.out 0; have hfz98_1 := blk_frozen BK340.out 1; have hfz98_2 := blk_frozen BK340.out 2; have hfz98_3 := blk_frozen BK340.out 3; have hfz98_4 := blk_frozen BK340.out 4; have hfz98_5 := blk_frozen BK340.out 5; have hnb99 := NB309_280.out; have hnc99 := NB280_309.out; have hnb100 := NB309_317.out; have hnc100 := NB317_309.out; have hcz101_0 : w93.cell? ⟨gb309, 0, none⟩ = some (.int .i64 t302) := (blk_cell BK309.out 0).trans rfl; have hcz101_1 : w93.cell? ⟨gb309, 1, none⟩ = some (.int .i64 t303) := (blk_cell BK309.out 1).trans rfl; have hcz101_2 : w93.cell? ⟨gb309, 2, none⟩ = some (.int .i64 t304) := (blk_cell BK309.out 2).trans rfl; have hcz101_3 : w93.cell? ⟨gb309, 3, none⟩ = some (.int .i64 t305) := (blk_cell BK309.out 3).trans rfl; have hcz101_4 : w93.cell? ⟨gb309, 4, none⟩ = some (.int .i64 t306) := (blk_cell BK309.out 4).trans rfl; have hcz101_5 : w93.cell? ⟨gb309, 5, none⟩ = some (.int .i64 t307) := (blk_cell BK309.out 5).trans rfl; have hfz101_0 := blk_frozen BK309.out 0; have hfz101_1 := blk_frozen BK309.out 1; have hfz101_2 := blk_frozen BK309.out 2; have hfz101_3 := blk_frozen BK309.out 3; have hfz101_4 := blk_frozen BK309.out 4; have hfz101_5 := blk_frozen BK309.out 5))
                 all_goals first | (go_ret; refine ⟨?_, ?_⟩; (focus (first | rfl | (simp [errW_none, errW_some] <;> rfl) | (rw [HRL_.out] <;> rfl) | (simp only [HRL_.out] <;> rfl) | (have h_ := HRL_.out; simp at h_; simp [h_]; done) | (have h_ := HRL_.out; simp [*] at h_ ⊢; done) | (simp [*, errW_none, errW_some] <;> rfl))); (focus (repeat (first | (with_reducible first | exact HB.out | apply bA | apply bN | apply bD | refine bS ?_ GE280.out | refine bS ?_ GE281.out | refine bS ?_ GE309.out | refine bS ?_ GE317.out | refine bS ?_ GE340.out) | exact HB.out)))) | (exfalso; simp_all; done)
                ·
                 replace c81 := Bool.eq_false_iff.mpr c81
                 subst c81
                 have H1 : (some false) = some true := by rw [if_neg (show ¬ (false = true) by decide)] at H; first | done | exact H
                 clear H
                 have H := H1
                 clear H1
                 exact absurd H (by simp)
               ·
                replace c80 := Bool.eq_false_iff.mpr c80
                subst c80
                have H1 : (some false) = some true := by rw [if_neg (show ¬ (false = true) by decide)] at H; first | done | exact H
                clear H
                have H := H1
                clear H1
                exact absurd H (by simp)
              ·
               rw [if_neg c78] at H
               exact absurd H (by simp)
            ·
             rw [if_neg c73] at H
             exact absurd H (by simp)
       ·
        rw [if_neg c24] at H
        exact absurd H (by simp)
      ·
       rw [if_neg c23] at H
       exact absurd H (by simp)
     ·
      rw [if_neg c22] at H
      exact absurd H (by simp)
    ·
     rw [if_neg c21] at H
     exact absurd H (by simp)

/-- THE ONE PURE STATEMENT of ridgewaylaw10_PolicyBehind. -/
def ridgewaylaw10_PolicyBehind.Pure : Prop := ∀ (l0 : List (S31)) (x1 : S31) (l2 : List (S31)) (x3 : S27), (l0.length ≤ maxLen ∧ ∀ y ∈ l0, wf31 y) → (wf31 x1) → (l2.length ≤ maxLen ∧ ∀ y ∈ l2, wf31 y) → (wf27 x3) → ∃ k, ridgewaylaw10_PolicyBehind.f k l0 (x1.f0) (x1.f1.f0) (x1.f1.f1) (x1.f2) (x1.f3) (x1.f4) l2 (x3.f0.f0) (x3.f0.f1) (x3.f1) (x3.f2) = some true

end Go.Proofs.Ytclddmjfgceemaa.Q
