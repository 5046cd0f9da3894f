/- Each call of a Go function comes to what the Lean function of its name answers (written out by wip/tools/xprint.py, checked by Lean); conditions: those in each statement. -/
import Derived.Test.YtfmhclbcoladpaaQx0
import Derived.Test.YtfmhclbcoladpaaQx3
import Derived.Test.YtfmhclbcoladpaaQx4
import Derived.Test.YtfmhclbcoladpaaQx6
import Derived.Test.YtfmhclbcoladpaaQx7
namespace Go.Proofs.Ytfmhclbcoladpaa.Q
open Go.RowKit Go.Proofs.YtfmhclbcoladpaaW.PrintWords Go.Proofs.YtfmhclbcoladpaaW.PrintLast Go.Proofs.YtfmhclbcoladpaaW.PrintMore Go.Proofs.YtfmhclbcoladpaaW.PrintX
attribute [local go_sem] max2_int min2_int max_two min_two max_three min_three max_four min_four   -- for this text's walks alone
set_option linter.unusedVariables false
set_option linter.unusedSimpArgs false

/-! ### ridgewaylaw07_AttrSays: function 6 -/
mutual
def ridgewaylaw07_AttrSays.j0 : Nat → Int → Bool → Bool → Int → List Int → Int → Int → Int → Int → List Int → Option (Bool)
 | 0, _, _, _, _, _, _, _, _, _, _ => none
 | k + 1, x1, x7, x25, x229000, x229001, x229002, x229003, x230000, x230001, x230002 => if x25 = true then (some x7) else ((attr_Of.f k x229000 x229001 x229002 x229003).bind fun t231 => ((attr_Sane.f x229000 x229001 x229002 x229003).bind fun t234 => (if t234 = true then (if (t231.length : Int) < 3 then (ridgewaylaw07_AttrSays.j1 k x1 x7 t231 (t231.length : Int) true x229000 x229001 x229002 x229003 x230000 x230001 x230002) else (ridgewaylaw07_AttrSays.j1 k x1 x7 t231 (t231.length : Int) (decide ((t231.length : Int) > 4)) x229000 x229001 x229002 x229003 x230000 x230001 x230002)) else (if x7 = true then (some ((t231.length : Int) == 0)) else (some false)))))
def ridgewaylaw07_AttrSays.j1 : Nat → Int → Bool → List (S24) → Int → Bool → Int → List Int → Int → Int → Int → Int → List Int → Option (Bool)
 | 0, _, _, _, _, _, _, _, _, _, _, _, _ => none
 | k + 1, x1, x7, x8, x9, x45, x229000, x229001, x229002, x229003, x230000, x230001, x230002 => if x45 = true then (some false) else (if x9 = 0 then (none) else ((some (([] : List (S24)) : List (S24))).bind fun y235 => (if 0 ≤ (Int.tmod (Go.bits .and .i64 x1 65535) x9) then (if (Int.tmod (Go.bits .and .i64 x1 65535) x9) ≤ (x8.length : Int) then ((some (x8.drop ((Int.tmod (Go.bits .and .i64 x1 65535) x9) : Int).toNat : List (S24))).bind fun y238 => (if y235.length + y238.length < 3518437208883 then ((some (y235 ++ y238 : List (S24))).bind fun y243 => ((some (x8.take ((Int.tmod (Go.bits .and .i64 x1 65535) x9) : Int).toNat : List (S24))).bind fun y246 => (if y243.length + y246.length < 3518437208883 then ((some (y243 ++ y246 : List (S24))).bind fun y251 => (if (Go.bits .and .i64 x230000 128) = 0 then (if x230001 ≥ 5 then (ridgewaylaw07_AttrSays.j2 k x7 x8 (Int.tmod (Go.bits .and .i64 x1 65535) x9) y251 (decide (x230001 ≤ 7)) x229000 x229001 x229002 x229003 x230000 x230001 x230002) else (ridgewaylaw07_AttrSays.j2 k x7 x8 (Int.tmod (Go.bits .and .i64 x1 65535) x9) y251 false x229000 x229001 x229002 x229003 x230000 x230001 x230002)) else (if x230001 = 4 then (if x230001 ≥ 5 then (ridgewaylaw07_AttrSays.j2 k x7 x8 (Int.tmod (Go.bits .and .i64 x1 65535) x9) y251 (decide (x230001 ≤ 7)) x229000 x229001 x229002 x229003 x230000 x230001 x230002) else (ridgewaylaw07_AttrSays.j2 k x7 x8 (Int.tmod (Go.bits .and .i64 x1 65535) x9) y251 false x229000 x229001 x229002 x229003 x230000 x230001 x230002)) else (if x230001 = 35 then (if x230001 ≥ 5 then (ridgewaylaw07_AttrSays.j2 k x7 x8 (Int.tmod (Go.bits .and .i64 x1 65535) x9) y251 (decide (x230001 ≤ 7)) x229000 x229001 x229002 x229003 x230000 x230001 x230002) else (ridgewaylaw07_AttrSays.j2 k x7 x8 (Int.tmod (Go.bits .and .i64 x1 65535) x9) y251 false x229000 x229001 x229002 x229003 x230000 x230001 x230002)) else (if x230001 < 1 then (ridgewaylaw07_AttrSays.j2 k x7 x8 (Int.tmod (Go.bits .and .i64 x1 65535) x9) y251 true x229000 x229001 x229002 x229003 x230000 x230001 x230002) else (if x230001 > 3 then (ridgewaylaw07_AttrSays.j2 k x7 x8 (Int.tmod (Go.bits .and .i64 x1 65535) x9) y251 true x229000 x229001 x229002 x229003 x230000 x230001 x230002) else (if x230001 ≥ 5 then (ridgewaylaw07_AttrSays.j2 k x7 x8 (Int.tmod (Go.bits .and .i64 x1 65535) x9) y251 (decide (x230001 ≤ 7)) x229000 x229001 x229002 x229003 x230000 x230001 x230002) else (ridgewaylaw07_AttrSays.j2 k x7 x8 (Int.tmod (Go.bits .and .i64 x1 65535) x9) y251 false x229000 x229001 x229002 x229003 x230000 x230001 x230002)))))))) else (none)))) else (none))) else (none)) else (none))))
def ridgewaylaw07_AttrSays.j2 : Nat → Bool → List (S24) → Int → List (S24) → Bool → Int → List Int → Int → Int → Int → Int → List Int → Option (Bool)
 | 0, _, _, _, _, _, _, _, _, _, _, _, _ => none
 | k + 1, x7, x8, x10, x11, x93, x229000, x229001, x229002, x229003, x230000, x230001, x230002 => if x93 = true then ((some (([(⟨x230000, x230001, x230002⟩ : S24)] : List (S24)) : List (S24))).bind fun y254 => (if y254.length + x11.length < 3518437208883 then ((some (y254 ++ x11 : List (S24))).bind fun y257 => (if 0 ≤ x10 then (if x10 < (x8.length : Int) then (if y257.length < 3518437208883 then ((attr_Judge.f (y257 ++ [(⟨0, (rd_T24 x8 x10).f1, x230002⟩ : S24)])).bind fun bt264 => (if x7 = true then (if bt264.2.2.2.2.1 = 0 then (if bt264.2.2.2.2.2.1 = 0 then ((ridgewayref07_SamePath.f k bt264.1 bt264.2.1 bt264.2.2.1 bt264.2.2.2.1 x229000 x229001 x229002 x229003).bind fun t278 => (some t278)) else (some false)) else (some false)) else (some false))) else (none)) else (none)) else (none))) else (none))) else (if 0 ≤ x10 then (if x10 < (x8.length : Int) then (if x11.length < 3518437208883 then ((attr_Judge.f (x11 ++ [(⟨0, (rd_T24 x8 x10).f1, x230002⟩ : S24)])).bind fun bt283 => (if x7 = true then (if bt283.2.2.2.2.1 = 0 then (if bt283.2.2.2.2.2.1 = 0 then ((ridgewayref07_SamePath.f k bt283.1 bt283.2.1 bt283.2.2.1 bt283.2.2.2.1 x229000 x229001 x229002 x229003).bind fun t297 => (some t297)) else (some false)) else (some false)) else (some false))) else (none)) else (none)) else (none))
end
def ridgewaylaw07_AttrSays.f (k : Nat) (a0_0 : Int) (l0_1 : List Int) (a0_2 : Int) (a0_3 : Int) (a1 : Int) (a2_0 : Int) (a2_1 : Int) (l2_2 : List Int) : Option (Bool) := (ridgewaylaw07_awake.f).bind fun t230 => (if (l0_1.length : Int) > 300 then (ridgewaylaw07_AttrSays.j0 k a1 t230 true a0_0 l0_1 a0_2 a0_3 a2_0 a2_1 l2_2) else (ridgewaylaw07_AttrSays.j0 k a1 t230 (decide ((l2_2.length : Int) > 2000)) a0_0 l0_1 a0_2 a0_3 a2_0 a2_1 l2_2))
theorem ridgewaylaw07_AttrSays.mono_l : ∀ k, (∀ y0 y1 y2 y3 y4 y5 y6 y7 y8 y9, LeO (ridgewaylaw07_AttrSays.j0 k y0 y1 y2 y3 y4 y5 y6 y7 y8 y9) (ridgewaylaw07_AttrSays.j0 (k + 1) y0 y1 y2 y3 y4 y5 y6 y7 y8 y9)) ∧ (∀ y0 y1 y2 y3 y4 y5 y6 y7 y8 y9 y10 y11, LeO (ridgewaylaw07_AttrSays.j1 k y0 y1 y2 y3 y4 y5 y6 y7 y8 y9 y10 y11) (ridgewaylaw07_AttrSays.j1 (k + 1) y0 y1 y2 y3 y4 y5 y6 y7 y8 y9 y10 y11)) ∧ (∀ y0 y1 y2 y3 y4 y5 y6 y7 y8 y9 y10 y11, LeO (ridgewaylaw07_AttrSays.j2 k y0 y1 y2 y3 y4 y5 y6 y7 y8 y9 y10 y11) (ridgewaylaw07_AttrSays.j2 (k + 1) y0 y1 y2 y3 y4 y5 y6 y7 y8 y9 y10 y11))
 | 0 => ⟨fun _ _ _ _ _ _ _ _ _ _ r h => by simp [ridgewaylaw07_AttrSays.j0] at h, fun _ _ _ _ _ _ _ _ _ _ _ _ r h => by simp [ridgewaylaw07_AttrSays.j1] at h, fun _ _ _ _ _ _ _ _ _ _ _ _ r h => by simp [ridgewaylaw07_AttrSays.j2] at h⟩
 | k + 1 => by
  obtain ⟨ih0, ih1, ih2⟩ := ridgewaylaw07_AttrSays.mono_l k
  refine ⟨?_, ?_, ?_⟩
  ·
   intro y0 y1 y2 y3 y4 y5 y6 y7 y8 y9
   unfold ridgewaylaw07_AttrSays.j0
   repeat' first
   | (with_reducible exact ih0 _ _ _ _ _ _ _ _ _ _)
   | (with_reducible exact ih1 _ _ _ _ _ _ _ _ _ _ _ _)
   | (with_reducible exact ih2 _ _ _ _ _ _ _ _ _ _ _ _)
   | (with_reducible exact attr_Of.mono _ _ _ _ _)
   | (with_reducible exact ridgewayref07_SamePath.mono _ _ _ _ _ _ _ _ _)
   | (with_reducible exact LeO.refl _)
   | (with_reducible exact LeO.none _)
   | (with_reducible refine LeO.ite ?_ ?_)
   | (with_reducible refine LeO.bind ?_ (fun _ => ?_))
   | exact ih0 _ _ _ _ _ _ _ _ _ _
   | exact ih1 _ _ _ _ _ _ _ _ _ _ _ _
   | exact ih2 _ _ _ _ _ _ _ _ _ _ _ _
   | exact attr_Of.mono _ _ _ _ _
   | exact ridgewayref07_SamePath.mono _ _ _ _ _ _ _ _ _
   | exact LeO.none _
   | refine LeO.ite ?_ ?_
   | refine LeO.bind ?_ (fun _ => ?_)
  ·
   intro y0 y1 y2 y3 y4 y5 y6 y7 y8 y9 y10 y11
   unfold ridgewaylaw07_AttrSays.j1
   repeat' first
   | (with_reducible exact ih0 _ _ _ _ _ _ _ _ _ _)
   | (with_reducible exact ih1 _ _ _ _ _ _ _ _ _ _ _ _)
   | (with_reducible exact ih2 _ _ _ _ _ _ _ _ _ _ _ _)
   | (with_reducible exact attr_Of.mono _ _ _ _ _)
   | (with_reducible exact ridgewayref07_SamePath.mono _ _ _ _ _ _ _ _ _)
   | (with_reducible exact LeO.refl _)
   | (with_reducible exact LeO.none _)
   | (with_reducible refine LeO.ite ?_ ?_)
   | (with_reducible refine LeO.bind ?_ (fun _ => ?_))
   | exact ih0 _ _ _ _ _ _ _ _ _ _
   | exact ih1 _ _ _ _ _ _ _ _ _ _ _ _
   | exact ih2 _ _ _ _ _ _ _ _ _ _ _ _
   | exact attr_Of.mono _ _ _ _ _
   | exact ridgewayref07_SamePath.mono _ _ _ _ _ _ _ _ _
   | exact LeO.none _
   | refine LeO.ite ?_ ?_
   | refine LeO.bind ?_ (fun _ => ?_)
  ·
   intro y0 y1 y2 y3 y4 y5 y6 y7 y8 y9 y10 y11
   unfold ridgewaylaw07_AttrSays.j2
   repeat' first
   | (with_reducible exact ih0 _ _ _ _ _ _ _ _ _ _)
   | (with_reducible exact ih1 _ _ _ _ _ _ _ _ _ _ _ _)
   | (with_reducible exact ih2 _ _ _ _ _ _ _ _ _ _ _ _)
   | (with_reducible exact attr_Of.mono _ _ _ _ _)
   | (with_reducible exact ridgewayref07_SamePath.mono _ _ _ _ _ _ _ _ _)
   | (with_reducible exact LeO.refl _)
   | (with_reducible exact LeO.none _)
   | (with_reducible refine LeO.ite ?_ ?_)
   | (with_reducible refine LeO.bind ?_ (fun _ => ?_))
   | exact ih0 _ _ _ _ _ _ _ _ _ _
   | exact ih1 _ _ _ _ _ _ _ _ _ _ _ _
   | exact ih2 _ _ _ _ _ _ _ _ _ _ _ _
   | exact attr_Of.mono _ _ _ _ _
   | exact ridgewayref07_SamePath.mono _ _ _ _ _ _ _ _ _
   | exact LeO.none _
   | refine LeO.ite ?_ ?_
   | refine LeO.bind ?_ (fun _ => ?_)
theorem ridgewaylaw07_AttrSays.mono : ∀ a0 a1 a2 a3 a4 a5 a6 a7 k, LeO (ridgewaylaw07_AttrSays.f k a0 a1 a2 a3 a4 a5 a6 a7) (ridgewaylaw07_AttrSays.f (k + 1) a0 a1 a2 a3 a4 a5 a6 a7) := by
 intro a0 a1 a2 a3 a4 a5 a6 a7 k
 obtain ⟨ih0, ih1, ih2⟩ := ridgewaylaw07_AttrSays.mono_l k
 unfold ridgewaylaw07_AttrSays.f
 repeat' first
   | (with_reducible exact ih0 _ _ _ _ _ _ _ _ _ _)
   | (with_reducible exact ih1 _ _ _ _ _ _ _ _ _ _ _ _)
   | (with_reducible exact ih2 _ _ _ _ _ _ _ _ _ _ _ _)
   | (with_reducible exact attr_Of.mono _ _ _ _ _)
   | (with_reducible exact ridgewayref07_SamePath.mono _ _ _ _ _ _ _ _ _)
   | (with_reducible exact LeO.refl _)
   | (with_reducible exact LeO.none _)
   | (with_reducible refine LeO.ite ?_ ?_)
   | (with_reducible refine LeO.bind ?_ (fun _ => ?_))
   | exact ih0 _ _ _ _ _ _ _ _ _ _
   | exact ih1 _ _ _ _ _ _ _ _ _ _ _ _
   | exact ih2 _ _ _ _ _ _ _ _ _ _ _ _
   | exact attr_Of.mono _ _ _ _ _
   | exact ridgewayref07_SamePath.mono _ _ _ _ _ _ _ _ _
   | exact LeO.none _
   | refine LeO.ite ?_ ?_
   | refine LeO.bind ?_ (fun _ => ?_)
def ridgewaylaw07_AttrSays.T15 : Bool × List (List Nat × List Nat) := (true, [([], []), ([], []), ([], []), ([1, 2], [1, 2]), ([3], [3]), ([4], [4]), ([], []), ([6], [6]), ([5, 7], [5, 7]), ([8], [8]), ([0, 9], [0, 9]), ([10, 10, 0, 1, 2, 3, 4, 5, 6, 7, 8, 9, 10], [0, 10])])
def ridgewaylaw07_AttrSays.B15 : List Nat := [0, 0, 0, 6, 14, 30, 0, 64, 254, 510, 1023, 2047]
theorem ridgewaylaw07_AttrSays.tab15 : rtab .any (opsOf Try.f6 15) = ridgewaylaw07_AttrSays.T15 := by kernel_rfl
theorem ridgewaylaw07_AttrSays.bits15 : waitsOk ridgewaylaw07_AttrSays.T15.2 ridgewaylaw07_AttrSays.B15 = true := by kernel_rfl
set_option maxHeartbeats 8000000 in
set_option maxRecDepth 100000 in
theorem ridgewaylaw07_AttrSays.calls (k : Nat) (a0_0 : Int) (A0_1 : Option Addr) (c0_1 : Nat) (l0_1 : List Int) (a0_2 : Int) (a0_3 : Int) (a1 : Int) (a2_0 : Int) (a2_1 : Int) (P2_2_ : Nat → Prop) (A2_2 : Option Addr) (c2_2 : Nat) (l2_2 : List Int) (w : World) (hr0_1 : Kd.C (Kd.int .i64) w A0_1 l0_1.length l0_1) (hc0_1 : l0_1.length ≤ c0_1) (hs2_2 : Kd.V (Kd.int .u8) 5 w w.heap.size (fun k_ => P2_2_ k_) (.slice A2_2 l2_2.length c2_2) l2_2) (h : ridgewaylaw07_AttrSays.f k a0_0 l0_1 a0_2 a0_3 a1 a2_0 a2_1 l2_2 = some true) :
  Calls Try.prog 6 #[.agg #[.int .i64 a0_0, .slice A0_1 l0_1.length c0_1, .int .i64 a0_2, .int .i64 a0_3], .int .i64 a1, .agg #[.int .i64 a2_0, .int .i64 a2_1, .slice A2_2 l2_2.length c2_2]] w fun e w' => e = .returned (.bool true) ∧ Below w.heap.size w w' := by
 have hu27 := Try.underlying27
 have hu24 := Try.underlying24
 have hu41 := Try.underlying41
 have HR0_1 := Aside0.mk hr0_1
 have HC0_1 := Aside0.mk hc0_1
 clear hr0_1 hc0_1
 have HO2_2 := Aside0.mk (show Kd.V (Kd.int .u8) 5 w w.heap.size (fun k_ => (P2_2_ k_ ∨ w.heap.size ≤ k_)) (.slice A2_2 l2_2.length c2_2) l2_2 from Kd.V_mono hs2_2 (fun k_ hk => .inl hk))
 have HB := Aside0.mk (Below.refl w.heap.size w)
 have H : ((ridgewaylaw07_awake.f).bind fun t230 => (if (l0_1.length : Int) > 300 then (ridgewaylaw07_AttrSays.j0 k a1 t230 true a0_0 l0_1 a0_2 a0_3 a2_0 a2_1 l2_2) else (ridgewaylaw07_AttrSays.j0 k a1 t230 (decide ((l2_2.length : Int) > 2000)) a0_0 l0_1 a0_2 a0_3 a2_0 a2_1 l2_2))) = some true := h
 clear h
 replace H := Option.bind_eq_some_iff.mp H
 obtain ⟨t230, A40, H⟩ := H
 replace H : (if (l0_1.length : Int) > 300 then (ridgewaylaw07_AttrSays.j0 k a1 t230 true a0_0 l0_1 a0_2 a0_3 a2_0 a2_1 l2_2) else (ridgewaylaw07_AttrSays.j0 k a1 t230 (decide ((l2_2.length : Int) > 2000)) a0_0 l0_1 a0_2 a0_3 a2_0 a2_1 l2_2)) = some true := H
 have A4 := Aside0.mk A40
 clear A40
 have HC5 := Aside0.mk H
 clear H
 go_enter Try.func6, Try.ntmps6
 go_upto_region 2 with (first | ((with_reducible refine gate_dst (N := 3) rfl ?_); (try (refine gate_guard (by rfl) ?_; dsimp only)); refine box_event ?hg (N := 3) ?hd (cs := #[.int .i64 a0_0, .slice A0_1 l0_1.length c0_1, .int .i64 a0_2, .int .i64 a0_3]) (t := 27) ?hr ?_; (case hd => rfl); (case hg => rfl); (case hr => first | (go_simp; done) | (go_simp; rfl)); intro gb228 hg w6 hbox hb; have n0_ := Aside0.mk (Kd.V_below (Kd.V_elderB (by (with_reducible repeat (first | apply Kd.V_alloc | apply Kd.V_drewN | apply Kd.V_drew)); exact HO2_2.out) gb228 (Nat.le_of_eq hg.symm)) hb); have n1_ := Aside0.mk (below_step (by repeat (first | (with_reducible first | exact HB.out | apply bA | apply bN | apply bD) | exact HB.out)) hb); have n2_ := Aside0.mk (hbox); have n3_ := Aside0.mk ((by rw [hg]; exact (below_size (by repeat (first | (with_reducible first | exact HB.out | apply bA | apply bN | apply bD) | exact HB.out))) : w.heap.size ≤ gb228)); have n4_ := Aside0.mk ((by rw [hg]; exact (below_size (by repeat (first | (with_reducible first | exact HB.out | apply bA | apply bN | apply bD) | exact HB.out))) : w.heap.size ≤ gb228)); clear HO2_2; clear HB; have HO2_2 := n0_; have HB := n1_; have BK228 := n2_; have GW228 := n3_; have GE228 := n4_; clear n0_ n1_ n2_ n3_ n4_; clear hb hbox hg) | ((with_reducible refine gate_dst (N := 5) rfl ?_); (try (refine gate_guard (by rfl) ?_; dsimp only)); refine box_event ?hg (N := 5) ?hd (cs := #[.int .i64 a2_0, .int .i64 a2_1, .slice A2_2 l2_2.length c2_2]) (t := 24) ?hr ?_; (case hd => rfl); (case hg => rfl); (case hr => first | (go_simp; done) | (go_simp; rfl)); intro gb229 hg w7 hbox hb; have n0_ := Aside0.mk (Kd.V_below (Kd.V_elderB (by (with_reducible repeat (first | apply Kd.V_alloc | apply Kd.V_drewN | apply Kd.V_drew)); exact HO2_2.out) gb229 (Nat.le_of_eq hg.symm)) hb); have n1_ := Aside0.mk (blk_below (g := gb228) (o := .cells #[.int .i64 a0_0, .slice A0_1 l0_1.length c0_1, .int .i64 a0_2, .int .i64 a0_3] 27 (0, 0)) (by (with_reducible repeat (first | refine kN ?_ _ | refine kD ?_ | refine kA ?_ _)); exact BK228.out) hb); have n2_ := Aside0.mk (below_step (by repeat (first | (with_reducible first | exact HB.out | apply bA | apply bN | apply bD | refine bS ?_ GE228.out) | exact HB.out)) hb); have n3_ := Aside0.mk (hbox); have n4_ := Aside0.mk ((by rw [hg]; exact (below_size (by repeat (first | (with_reducible first | exact HB.out | apply bA | apply bN | apply bD | refine bS ?_ GE228.out) | exact HB.out))) : w.heap.size ≤ gb229)); have n5_ := Aside0.mk ((by rw [hg]; exact (below_size (by repeat (first | (with_reducible first | exact HB.out | apply bA | apply bN | apply bD | refine bS ?_ GE228.out) | exact HB.out))) : w.heap.size ≤ gb229)); have n6_ := Aside0.mk ((by rw [hg]; exact Nat.ne_of_lt (blk_lt (g := gb228) (o := .cells #[.int .i64 a0_0, .slice A0_1 l0_1.length c0_1, .int .i64 a0_2, .int .i64 a0_3] 27 (0, 0)) (by (with_reducible repeat (first | refine kN ?_ _ | refine kD ?_ | refine kA ?_ _)); exact BK228.out)) : gb228 ≠ gb229)); have n7_ := Aside0.mk ((by rw [hg]; exact Nat.ne_of_gt (blk_lt (g := gb228) (o := .cells #[.int .i64 a0_0, .slice A0_1 l0_1.length c0_1, .int .i64 a0_2, .int .i64 a0_3] 27 (0, 0)) (by (with_reducible repeat (first | refine kN ?_ _ | refine kD ?_ | refine kA ?_ _)); exact BK228.out)) : gb229 ≠ gb228)); clear HO2_2; clear BK228; clear HB; have HO2_2 := n0_; have BK228 := n1_; have HB := n2_; have BK229 := n3_; have GW229 := n4_; have GE229 := n5_; have NB228_229 := n6_; have NB229_228 := n7_; clear n0_ n1_ n2_ n3_ n4_ n5_ n6_ n7_; clear hb hbox hg) | ((with_reducible refine gate_callee (f := 10) rfl ?_); refine goesL_ (some 15) rfl rfl Try.func10 (by kernel_rfl) rfl #[] rfl (by (try simp only [List.map_toArray, List.map_cons, List.map_nil]); first | done | rfl | (simp only [List.length_drop, List.length_take]; rfl)) ?_; (with_reducible refine (ridgewaylaw07_awake.calls  t230 _ A4.out).mono ?_); rintro e w8 ⟨rfl, hb⟩; refine ⟨_, rfl, ?_⟩; have n0_ := Aside0.mk (Kd.V_below (by (with_reducible repeat (first | apply Kd.V_alloc | apply Kd.V_drewN | apply Kd.V_drew)); exact HO2_2.out) hb); have n1_ := Aside0.mk (blk_below (g := gb228) (o := .cells #[.int .i64 a0_0, .slice A0_1 l0_1.length c0_1, .int .i64 a0_2, .int .i64 a0_3] 27 (0, 0)) (by (with_reducible repeat (first | refine kN ?_ _ | refine kD ?_ | refine kA ?_ _)); exact BK228.out) hb); have n2_ := Aside0.mk (blk_below (g := gb229) (o := .cells #[.int .i64 a2_0, .int .i64 a2_1, .slice A2_2 l2_2.length c2_2] 24 (0, 0)) (by (with_reducible repeat (first | refine kN ?_ _ | refine kD ?_ | refine kA ?_ _)); exact BK229.out) hb); have n3_ := Aside0.mk (below_step (by repeat (first | (with_reducible first | exact HB.out | apply bA | apply bN | apply bD | refine bS ?_ GE228.out | refine bS ?_ GE229.out) | exact HB.out)) hb); clear HO2_2; clear BK228; clear BK229; clear HB; have HO2_2 := n0_; have BK228 := n1_; have BK229 := n2_; have HB := n3_; clear n0_ n1_ n2_ n3_; (try clear hb); (try clear hb2); (try clear hk); (try clear hi)))
 (try simp only [Act.put, sA, sB, sC])
 go_cut [25] (fun v25 wc => ∃ (kq : Nat) (x25_4 : Bool), v25 = .bool x25_4 ∧ Aside0 (ridgewaylaw07_AttrSays.j0 kq a1 t230 x25_4 a0_0 l0_1 a0_2 a0_3 a2_0 a2_1 l2_2 = some true) ∧ Aside0 (kq ≤ k) ∧ Aside0 (Kd.V (Kd.int .u8) 5 wc w.heap.size (fun k_ => (P2_2_ k_ ∨ w.heap.size ≤ k_) ∧ k_ ≠ gb228 ∧ k_ ≠ gb229) (.slice A2_2 l2_2.length c2_2) l2_2) ∧ Aside0 (wc.heap[gb228]? = some (.cells #[.int .i64 a0_0, (.slice A0_1 l0_1.length c0_1), .int .i64 a0_2, .int .i64 a0_3] 27 (0, 0))) ∧ Aside0 (wc.heap[gb229]? = some (.cells #[.int .i64 a2_0, .int .i64 a2_1, (.slice A2_2 l2_2.length c2_2)] 24 (0, 0))) ∧ Aside0 (Below w.heap.size w wc))
 case first =>
  have H := HC5.out
  clear HC5
  by_cases c9 : (l0_1.length : Int) > 300
  ·
   rw [if_pos c9] at H
   have c9b0 : decide (300 < (l0_1.length : Int)) = true := decide_eq_true c9
   have c9b1 : decide (300 < l0_1.length) = true := decide_eq_true (by omega)
   clear c9
   (first | rw [c9b0] | (simp only [i64_w, i32_w]; rw [c9b0]) | rw [c9b1] | skip)
   have H' := Aside0.mk H
   clear H
   have hnb10 := NB228_229.out
   have hnc10 := NB229_228.out
   have hcz11_0 : w8.cell? ⟨gb228, 0, none⟩ = some (.int .i64 a0_0) := (blk_cell BK228.out 0).trans rfl
   have hcz11_1 : w8.cell? ⟨gb228, 1, none⟩ = some (.slice A0_1 l0_1.length c0_1) := (blk_cell BK228.out 1).trans rfl
   have hcz11_2 : w8.cell? ⟨gb228, 2, none⟩ = some (.int .i64 a0_2) := (blk_cell BK228.out 2).trans rfl
   have hcz11_3 : w8.cell? ⟨gb228, 3, none⟩ = some (.int .i64 a0_3) := (blk_cell BK228.out 3).trans rfl
   have hfz11_0 := blk_frozen BK228.out 0
   have hfz11_1 := blk_frozen BK228.out 1
   have hfz11_2 := blk_frozen BK228.out 2
   have hfz11_3 := blk_frozen BK228.out 3
   go_wp2
   go_meet
   case rel => exact ⟨_, (true), (by first | rfl | (simp; done) | (simp [*]; done)), H', ⟨by first | omega | exact Nat.le_refl _⟩, ⟨by (with_reducible repeat (first | apply Kd.V_alloc | apply Kd.V_drewN | apply Kd.V_drew)); exact Kd.V_mono HO2_2.out (fun _ hk => ⟨hk.1.1, ⟨hk.1.2, hk.2⟩⟩)⟩, ⟨by (with_reducible repeat (first | refine kN ?_ _ | refine kD ?_ | refine kA ?_ _)); exact BK228.out⟩, ⟨by (with_reducible repeat (first | refine kN ?_ _ | refine kD ?_ | refine kA ?_ _)); exact BK229.out⟩, ⟨by repeat (first | (with_reducible first | exact HB.out | apply bA | apply bN | apply bD | refine bS ?_ GE228.out | refine bS ?_ GE229.out) | exact HB.out)⟩⟩
  ·
   rw [if_neg c9] at H
   have c9b0 : decide (300 < (l0_1.length : Int)) = false := decide_eq_false c9
   have c9b1 : decide (300 < l0_1.length) = false := decide_eq_false (by omega)
   clear c9
   (first | rw [c9b0] | (simp only [i64_w, i32_w]; rw [c9b0]) | rw [c9b1] | skip)
   have H' := Aside0.mk H
   clear H
   have hnb12 := NB228_229.out
   have hnc12 := NB229_228.out
   have hcz13_0 : w8.cell? ⟨gb228, 0, none⟩ = some (.int .i64 a0_0) := (blk_cell BK228.out 0).trans rfl
   have hcz13_1 : w8.cell? ⟨gb228, 1, none⟩ = some (.slice A0_1 l0_1.length c0_1) := (blk_cell BK228.out 1).trans rfl
   have hcz13_2 : w8.cell? ⟨gb228, 2, none⟩ = some (.int .i64 a0_2) := (blk_cell BK228.out 2).trans rfl
   have hcz13_3 : w8.cell? ⟨gb228, 3, none⟩ = some (.int .i64 a0_3) := (blk_cell BK228.out 3).trans rfl
   have hfz13_0 := blk_frozen BK228.out 0
   have hfz13_1 := blk_frozen BK228.out 1
   have hfz13_2 := blk_frozen BK228.out 2
   have hfz13_3 := blk_frozen BK228.out 3
   have hcz14_0 : w8.cell? ⟨gb229, 0, none⟩ = some (.int .i64 a2_0) := (blk_cell BK229.out 0).trans rfl
   have hcz14_1 : w8.cell? ⟨gb229, 1, none⟩ = some (.int .i64 a2_1) := (blk_cell BK229.out 1).trans rfl
   have hcz14_2 : w8.cell? ⟨gb229, 2, none⟩ = some (.slice A2_2 l2_2.length c2_2) := (blk_cell BK229.out 2).trans rfl
   have hfz14_0 := blk_frozen BK229.out 0
   have hfz14_1 := blk_frozen BK229.out 1
   have hfz14_2 := blk_frozen BK229.out 2
   go_wp2
   go_meet
   case rel => exact ⟨_, (decide ((l2_2.length : Int) > 2000)), (by first | rfl | (simp; done) | (simp [*]; done)), H', ⟨by first | omega | exact Nat.le_refl _⟩, ⟨by (with_reducible repeat (first | apply Kd.V_alloc | apply Kd.V_drewN | apply Kd.V_drew)); exact Kd.V_mono HO2_2.out (fun _ hk => ⟨hk.1.1, ⟨hk.1.2, hk.2⟩⟩)⟩, ⟨by (with_reducible repeat (first | refine kN ?_ _ | refine kD ?_ | refine kA ?_ _)); exact BK228.out⟩, ⟨by (with_reducible repeat (first | refine kN ?_ _ | refine kD ?_ | refine kA ?_ _)); exact BK229.out⟩, ⟨by repeat (first | (with_reducible first | exact HB.out | apply bA | apply bN | apply bD | refine bS ?_ GE228.out | refine bS ?_ GE229.out) | exact HB.out)⟩⟩
 case rest =>
  clear HC5
  try clear c1
  try clear c2
  try clear p2
  try clear c6
  try clear c9
  try clear c9b0
  try clear c9b1
  try clear c10
  try clear c12
  try clear hcz11_0
  try clear hcz11_1
  try clear hcz11_2
  try clear hcz11_3
  try clear hcz13_0
  try clear hcz13_1
  try clear hcz13_2
  try clear hcz13_3
  try clear hcz14_0
  try clear hcz14_1
  try clear hcz14_2
  try clear hfz11_0
  try clear hfz11_1
  try clear hfz11_2
  try clear hfz11_3
  try clear hfz13_0
  try clear hfz13_1
  try clear hfz13_2
  try clear hfz13_3
  try clear hfz14_0
  try clear hfz14_1
  try clear hfz14_2
  obtain ⟨kq, x25_4, rfl, HA, HJ4, HO_230002, BK228, BK229, HB⟩ := hcut
  cases kq with
  | zero => exact absurd HA.out (by simp [ridgewaylaw07_AttrSays.j0])
  | succ kj4 =>
   have H := HA.out
   clear HA
   simp only [ridgewaylaw07_AttrSays.j0] at H
   by_cases c15 : x25_4 = true
   ·
    subst c15
    have H1 : (some t230) = some true := by rw [if_pos rfl] at H; first | done | exact H
    clear H
    have H := H1
    clear H1
    have HRL_ := Aside0.mk (Option.some.inj H)
    clear H
    go_wp2
    all_goals first | (go_ret; refine ⟨?_, ?_⟩; (focus (first | rfl | (simp [errW_none, errW_some] <;> rfl) | (rw [HRL_.out] <;> rfl) | (simp only [HRL_.out] <;> rfl) | (have h_ := HRL_.out; simp at h_; simp [h_]; done) | (have h_ := HRL_.out; simp [*] at h_ ⊢; done) | (simp [*, errW_none, errW_some] <;> rfl))); (focus (repeat (first | (with_reducible first | exact HB.out | apply bA | apply bN | apply bD | refine bS ?_ GE228.out | refine bS ?_ GE229.out) | exact HB.out)))) | (exfalso; simp_all; done)
   ·
    replace c15 := Bool.eq_false_iff.mpr c15
    subst c15
    have H1 : ((attr_Of.f kj4 a0_0 l0_1 a0_2 a0_3).bind fun t231 => ((attr_Sane.f a0_0 l0_1 a0_2 a0_3).bind fun t234 => (if t234 = true then (if (t231.length : Int) < 3 then (ridgewaylaw07_AttrSays.j1 kj4 a1 t230 t231 (t231.length : Int) true a0_0 l0_1 a0_2 a0_3 a2_0 a2_1 l2_2) else (ridgewaylaw07_AttrSays.j1 kj4 a1 t230 t231 (t231.length : Int) (decide ((t231.length : Int) > 4)) a0_0 l0_1 a0_2 a0_3 a2_0 a2_1 l2_2)) else (if t230 = true then (some ((t231.length : Int) == 0)) else (some false))))) = some true := by rw [if_neg (show ¬ (false = true) by decide)] at H; first | done | exact H
    clear H
    have H := H1
    clear H1
    replace H := Option.bind_eq_some_iff.mp H
    obtain ⟨t231, A160, H⟩ := H
    replace H : ((attr_Sane.f a0_0 l0_1 a0_2 a0_3).bind fun t234 => (if t234 = true then (if (t231.length : Int) < 3 then (ridgewaylaw07_AttrSays.j1 kj4 a1 t230 t231 (t231.length : Int) true a0_0 l0_1 a0_2 a0_3 a2_0 a2_1 l2_2) else (ridgewaylaw07_AttrSays.j1 kj4 a1 t230 t231 (t231.length : Int) (decide ((t231.length : Int) > 4)) a0_0 l0_1 a0_2 a0_3 a2_0 a2_1 l2_2)) else (if t230 = true then (some ((t231.length : Int) == 0)) else (some false)))) = some true := H
    have A16 := Aside0.mk A160
    clear A160
    replace H := Option.bind_eq_some_iff.mp H
    obtain ⟨t234, A170, H⟩ := H
    replace H : (if t234 = true then (if (t231.length : Int) < 3 then (ridgewaylaw07_AttrSays.j1 kj4 a1 t230 t231 (t231.length : Int) true a0_0 l0_1 a0_2 a0_3 a2_0 a2_1 l2_2) else (ridgewaylaw07_AttrSays.j1 kj4 a1 t230 t231 (t231.length : Int) (decide ((t231.length : Int) > 4)) a0_0 l0_1 a0_2 a0_3 a2_0 a2_1 l2_2)) else (if t230 = true then (some ((t231.length : Int) == 0)) else (some false))) = some true := H
    have A17 := Aside0.mk A170
    clear A170
    by_cases c18 : t234 = true
    ·
     subst c18
     have H1 : (if (t231.length : Int) < 3 then (ridgewaylaw07_AttrSays.j1 kj4 a1 t230 t231 (t231.length : Int) true a0_0 l0_1 a0_2 a0_3 a2_0 a2_1 l2_2) else (ridgewaylaw07_AttrSays.j1 kj4 a1 t230 t231 (t231.length : Int) (decide ((t231.length : Int) > 4)) a0_0 l0_1 a0_2 a0_3 a2_0 a2_1 l2_2)) = some true := by rw [if_pos rfl] at H; first | done | exact H
     clear H
     have H := H1
     clear H1
     have HC19 := Aside0.mk H
     clear H
     have hnb20 := NB228_229.out
     have hnc20 := NB229_228.out
     have hcz21_0 : wc.cell? ⟨gb228, 0, none⟩ = some (.int .i64 a0_0) := (blk_cell BK228.out 0).trans rfl
     have hcz21_1 : wc.cell? ⟨gb228, 1, none⟩ = some (.slice A0_1 l0_1.length c0_1) := (blk_cell BK228.out 1).trans rfl
     have hcz21_2 : wc.cell? ⟨gb228, 2, none⟩ = some (.int .i64 a0_2) := (blk_cell BK228.out 2).trans rfl
     have hcz21_3 : wc.cell? ⟨gb228, 3, none⟩ = some (.int .i64 a0_3) := (blk_cell BK228.out 3).trans rfl
     have hfz21_0 := blk_frozen BK228.out 0
     have hfz21_1 := blk_frozen BK228.out 1
     have hfz21_2 := blk_frozen BK228.out 2
     have hfz21_3 := blk_frozen BK228.out 3
     go_upto_region 8 with (first | ((with_reducible refine gate_callee (f := 20) rfl ?_); refine goesL_ (some 28) rfl rfl Try.func20 (by kernel_rfl) rfl #[.agg #[.int .i64 a0_0, .slice A0_1 l0_1.length c0_1, .int .i64 a0_2, .int .i64 a0_3]] rfl (by (try simp only [List.map_toArray, List.map_cons, List.map_nil]); first | done | rfl | (simp only [List.length_drop, List.length_take]; rfl)) ?_; (with_reducible refine (attr_Of.calls kj4 a0_0 _ _ l0_1 a0_2 a0_3 t231 _ ?side1 ?side2 A16.out).mono ?_); (case side1 => repeat (first | exact (Kd.C_below HR0_1.out HB.out) | (with_reducible refine Kd.C_alloc ?_ _) | (with_reducible refine Kd.C_drewN ?_ _) | (with_reducible refine Kd.C_drew ?_))); (case side2 => exact HC0_1.out); rintro e w22 ⟨v232, rfl, ho0, hb⟩; refine ⟨_, rfl, ?_⟩; have n0_ := Aside0.mk (Kd.V_elder' (by (with_reducible repeat (first | apply Kd.V_alloc | apply Kd.V_drewN | apply Kd.V_drew)); exact HO_230002.out) (Kd.N_base ho0) hb); have n1_ := Aside0.mk (Kd.N_lower (Kd.N_mono (ok' := fun k_ => (P2_2_ k_ ∨ w.heap.size ≤ k_) ∧ k_ ≠ gb228 ∧ k_ ≠ gb229) ho0 (fun k_ hk_ => ⟨(.inr (Nat.le_trans (below_size (by repeat (first | (with_reducible first | exact HB.out | apply bA | apply bN | apply bD | refine bS ?_ GE228.out | refine bS ?_ GE229.out) | exact HB.out))) hk_)), (Kd.freshB (g := gb228) (o := .cells #[.int .i64 a0_0, .slice A0_1 l0_1.length c0_1, .int .i64 a0_2, .int .i64 a0_3] 27 (0, 0)) (by (with_reducible repeat (first | refine kN ?_ _ | refine kD ?_ | refine kA ?_ _)); exact BK228.out) k_ hk_), (Kd.freshB (g := gb229) (o := .cells #[.int .i64 a2_0, .int .i64 a2_1, .slice A2_2 l2_2.length c2_2] 24 (0, 0)) (by (with_reducible repeat (first | refine kN ?_ _ | refine kD ?_ | refine kA ?_ _)); exact BK229.out) k_ hk_)⟩)) (below_size (by repeat (first | (with_reducible first | exact HB.out | apply bA | apply bN | apply bD | refine bS ?_ GE228.out | refine bS ?_ GE229.out) | exact HB.out)))); have n2_ := Aside0.mk (blk_below (g := gb228) (o := .cells #[.int .i64 a0_0, .slice A0_1 l0_1.length c0_1, .int .i64 a0_2, .int .i64 a0_3] 27 (0, 0)) (by (with_reducible repeat (first | refine kN ?_ _ | refine kD ?_ | refine kA ?_ _)); exact BK228.out) hb); have n3_ := Aside0.mk (blk_below (g := gb229) (o := .cells #[.int .i64 a2_0, .int .i64 a2_1, .slice A2_2 l2_2.length c2_2] 24 (0, 0)) (by (with_reducible repeat (first | refine kN ?_ _ | refine kD ?_ | refine kA ?_ _)); exact BK229.out) hb); have n4_ := Aside0.mk (below_step (by repeat (first | (with_reducible first | exact HB.out | apply bA | apply bN | apply bD | refine bS ?_ GE228.out | refine bS ?_ GE229.out) | exact HB.out)) hb); clear HO_230002; clear BK228; clear BK229; clear HB; have HO_230002 := n0_; have HO233 := n1_; have BK228 := n2_; have BK229 := n3_; have HB := n4_; clear n0_ n1_ n2_ n3_ n4_; (try clear hb); (try clear hb2); (try clear hk); (try clear hi); (try clear ho0); have hcz23_0 : w22.cell? ⟨gb228, 0, none⟩ = some (.int .i64 a0_0) := (blk_cell BK228.out 0).trans rfl; have hcz23_1 : w22.cell? ⟨gb228, 1, none⟩ = some (.slice A0_1 l0_1.length c0_1) := (blk_cell BK228.out 1).trans rfl; have hcz23_2 : w22.cell? ⟨gb228, 2, none⟩ = some (.int .i64 a0_2) := (blk_cell BK228.out 2).trans rfl; have hcz23_3 : w22.cell? ⟨gb228, 3, none⟩ = some (.int .i64 a0_3) := (blk_cell BK228.out 3).trans rfl; have hfz23_0 := blk_frozen BK228.out 0; have hfz23_1 := blk_frozen BK228.out 1; have hfz23_2 := blk_frozen BK228.out 2; have hfz23_3 := blk_frozen BK228.out 3) | ((with_reducible refine gate_callee (f := 18) rfl ?_); refine goesL_ (some 30) rfl rfl Try.func18 (by kernel_rfl) rfl #[.agg #[.int .i64 a0_0, .slice A0_1 l0_1.length c0_1, .int .i64 a0_2, .int .i64 a0_3]] rfl (by (try simp only [List.map_toArray, List.map_cons, List.map_nil]); first | done | rfl | (simp only [List.length_drop, List.length_take]; rfl)) ?_; (with_reducible refine (attr_Sane.calls a0_0 _ _ l0_1 a0_2 a0_3 true _ ?side1 ?side2 A17.out).mono ?_); (case side1 => repeat (first | exact (Kd.C_below HR0_1.out HB.out) | (with_reducible refine Kd.C_alloc ?_ _) | (with_reducible refine Kd.C_drewN ?_ _) | (with_reducible refine Kd.C_drew ?_))); (case side2 => exact HC0_1.out); rintro e w24 ⟨rfl, hb⟩; refine ⟨_, rfl, ?_⟩; have n0_ := Aside0.mk (Kd.V_below (by (with_reducible repeat (first | apply Kd.V_alloc | apply Kd.V_drewN | apply Kd.V_drew)); exact HO_230002.out) hb); have n1_ := Aside0.mk (Kd.N_below (by (with_reducible repeat (first | apply Kd.N_alloc | apply Kd.N_drewN | apply Kd.N_drew)); exact HO233.out) hb); have n2_ := Aside0.mk (blk_below (g := gb228) (o := .cells #[.int .i64 a0_0, .slice A0_1 l0_1.length c0_1, .int .i64 a0_2, .int .i64 a0_3] 27 (0, 0)) (by (with_reducible repeat (first | refine kN ?_ _ | refine kD ?_ | refine kA ?_ _)); exact BK228.out) hb); have n3_ := Aside0.mk (blk_below (g := gb229) (o := .cells #[.int .i64 a2_0, .int .i64 a2_1, .slice A2_2 l2_2.length c2_2] 24 (0, 0)) (by (with_reducible repeat (first | refine kN ?_ _ | refine kD ?_ | refine kA ?_ _)); exact BK229.out) hb); have n4_ := Aside0.mk (below_step (by repeat (first | (with_reducible first | exact HB.out | apply bA | apply bN | apply bD | refine bS ?_ GE228.out | refine bS ?_ GE229.out) | exact HB.out)) hb); clear HO_230002; clear HO233; clear BK228; clear BK229; clear HB; have HO_230002 := n0_; have HO233 := n1_; have BK228 := n2_; have BK229 := n3_; have HB := n4_; clear n0_ n1_ n2_ n3_ n4_; (try clear hb); (try clear hb2); (try clear hk); (try clear hi); obtain ⟨Ao25, co25, eo25⟩ := Kd.N_slice HO233.out; subst eo25))
     (try simp only [Act.put, sA, sB, sC])
     go_cut [45] (fun v45 wc => ∃ (kq : Nat) (x45_18 : Bool), v45 = .bool x45_18 ∧ Aside0 (ridgewaylaw07_AttrSays.j1 kq a1 t230 t231 (t231.length : Int) x45_18 a0_0 l0_1 a0_2 a0_3 a2_0 a2_1 l2_2 = some true) ∧ Aside0 (kq ≤ kj4) ∧ Aside0 (Kd.N k24 24 wc w.heap.size (fun k_ => (P2_2_ k_ ∨ w.heap.size ≤ k_) ∧ k_ ≠ gb228 ∧ k_ ≠ gb229) (.slice Ao25 t231.length co25) t231) ∧ Aside0 (Kd.V (Kd.int .u8) 5 wc w.heap.size (fun k_ => (P2_2_ k_ ∨ w.heap.size ≤ k_) ∧ some k_ ≠ ((.slice Ao25 t231.length co25) : Value).ownBlock ∧ k_ ≠ gb228 ∧ k_ ≠ gb229) (.slice A2_2 l2_2.length c2_2) l2_2) ∧ Aside0 (wc.heap[gb228]? = some (.cells #[.int .i64 a0_0, (.slice A0_1 l0_1.length c0_1), .int .i64 a0_2, .int .i64 a0_3] 27 (0, 0))) ∧ Aside0 (wc.heap[gb229]? = some (.cells #[.int .i64 a2_0, .int .i64 a2_1, (.slice A2_2 l2_2.length c2_2)] 24 (0, 0))) ∧ Aside0 (Below w.heap.size w wc))
     case first =>
      have H := HC19.out
      clear HC19
      by_cases c26 : (t231.length : Int) < 3
      ·
       rw [if_pos c26] at H
       have c26b0 : decide ((t231.length : Int) < 3) = true := decide_eq_true c26
       have c26b1 : decide (t231.length < 3) = true := decide_eq_true (by omega)
       clear c26
       (first | rw [c26b0] | (simp only [i64_w, i32_w]; rw [c26b0]) | rw [c26b1] | skip)
       have H' := Aside0.mk H
       clear H
       go_wp2
       go_meet
       case rel => exact ⟨_, (true), (by first | rfl | (simp; done) | (simp [*]; done)), H', ⟨by have := HJ4.out; first | omega | exact Nat.le_refl _⟩, ⟨by (with_reducible repeat (first | apply Kd.N_alloc | apply Kd.N_drewN | apply Kd.N_drew)); exact HO233.out⟩, ⟨by (with_reducible repeat (first | apply Kd.V_alloc | apply Kd.V_drewN | apply Kd.V_drew)); exact Kd.V_mono HO_230002.out (fun _ hk => ⟨hk.1.1, ⟨hk.2, ⟨hk.1.2.1, hk.1.2.2⟩⟩⟩)⟩, ⟨by (with_reducible repeat (first | refine kN ?_ _ | refine kD ?_ | refine kA ?_ _)); exact BK228.out⟩, ⟨by (with_reducible repeat (first | refine kN ?_ _ | refine kD ?_ | refine kA ?_ _)); exact BK229.out⟩, ⟨by repeat (first | (with_reducible first | exact HB.out | apply bA | apply bN | apply bD | refine bS ?_ GE228.out | refine bS ?_ GE229.out) | exact HB.out)⟩⟩
      ·
       rw [if_neg c26] at H
       have c26b0 : decide ((t231.length : Int) < 3) = false := decide_eq_false c26
       have c26b1 : decide (t231.length < 3) = false := decide_eq_false (by omega)
       clear c26
       (first | rw [c26b0] | (simp only [i64_w, i32_w]; rw [c26b0]) | rw [c26b1] | skip)
       have H' := Aside0.mk H
       clear H
       go_wp2
       go_meet
       case rel => exact ⟨_, (decide ((t231.length : Int) > 4)), (by first | rfl | (simp; done) | (simp [*]; done)), H', ⟨by have := HJ4.out; first | omega | exact Nat.le_refl _⟩, ⟨by (with_reducible repeat (first | apply Kd.N_alloc | apply Kd.N_drewN | apply Kd.N_drew)); exact HO233.out⟩, ⟨by (with_reducible repeat (first | apply Kd.V_alloc | apply Kd.V_drewN | apply Kd.V_drew)); exact Kd.V_mono HO_230002.out (fun _ hk => ⟨hk.1.1, ⟨hk.2, ⟨hk.1.2.1, hk.1.2.2⟩⟩⟩)⟩, ⟨by (with_reducible repeat (first | refine kN ?_ _ | refine kD ?_ | refine kA ?_ _)); exact BK228.out⟩, ⟨by (with_reducible repeat (first | refine kN ?_ _ | refine kD ?_ | refine kA ?_ _)); exact BK229.out⟩, ⟨by repeat (first | (with_reducible first | exact HB.out | apply bA | apply bN | apply bD | refine bS ?_ GE228.out | refine bS ?_ GE229.out) | exact HB.out)⟩⟩
     case rest =>
      clear HC19
      try clear c1
      try clear c2
      try clear p2
      try clear c6
      try clear c9
      try clear c9b0
      try clear c9b1
      try clear c10
      try clear c12
      try clear c15
      try clear c18
      try clear c20
      try clear c26
      try clear c26b0
      try clear c26b1
      try clear hcz11_0
      try clear hcz11_1
      try clear hcz11_2
      try clear hcz11_3
      try clear hcz13_0
      try clear hcz13_1
      try clear hcz13_2
      try clear hcz13_3
      try clear hcz14_0
      try clear hcz14_1
      try clear hcz14_2
      try clear hcz21_0
      try clear hcz21_1
      try clear hcz21_2
      try clear hcz21_3
      try clear hcz23_0
      try clear hcz23_1
      try clear hcz23_2
      try clear hcz23_3
      try clear hfz11_0
      try clear hfz11_1
      try clear hfz11_2
      try clear hfz11_3
      try clear hfz13_0
      try clear hfz13_1
      try clear hfz13_2
      try clear hfz13_3
      try clear hfz14_0
      try clear hfz14_1
      try clear hfz14_2
      try clear hfz21_0
      try clear hfz21_1
      try clear hfz21_2
      try clear hfz21_3
      try clear hfz23_0
      try clear hfz23_1
      try clear hfz23_2
      try clear hfz23_3
      try clear p2
      obtain ⟨kq, x45_18, rfl, HA, HJ18, HO_8, HO_230002, BK228, BK229, HB⟩ := hcut
      cases kq with
      | zero => exact absurd HA.out (by simp [ridgewaylaw07_AttrSays.j1])
      | succ kj18 =>
       have H := HA.out
       clear HA
       simp only [ridgewaylaw07_AttrSays.j1] at H
       by_cases c27 : x45_18 = true
       ·
        subst c27
        have H1 : (some false) = some true := by rw [if_pos rfl] at H; first | done | exact H
        clear H
        have H := H1
        clear H1
        exact absurd H (by simp)
       ·
        replace c27 := Bool.eq_false_iff.mpr c27
        subst c27
        have H1 : (if (t231.length : Int) = 0 then (none) else ((some (([] : List (S24)) : List (S24))).bind fun y235 => (if 0 ≤ (Int.tmod (Go.bits .and .i64 a1 65535) (t231.length : Int)) then (if (Int.tmod (Go.bits .and .i64 a1 65535) (t231.length : Int)) ≤ (t231.length : Int) then ((some (t231.drop ((Int.tmod (Go.bits .and .i64 a1 65535) (t231.length : Int)) : Int).toNat : List (S24))).bind fun y238 => (if y235.length + y238.length < 3518437208883 then ((some (y235 ++ y238 : List (S24))).bind fun y243 => ((some (t231.take ((Int.tmod (Go.bits .and .i64 a1 65535) (t231.length : Int)) : Int).toNat : List (S24))).bind fun y246 => (if y243.length + y246.length < 3518437208883 then ((some (y243 ++ y246 : List (S24))).bind fun y251 => (if (Go.bits .and .i64 a2_0 128) = 0 then (if a2_1 ≥ 5 then (ridgewaylaw07_AttrSays.j2 kj18 t230 t231 (Int.tmod (Go.bits .and .i64 a1 65535) (t231.length : Int)) y251 (decide (a2_1 ≤ 7)) a0_0 l0_1 a0_2 a0_3 a2_0 a2_1 l2_2) else (ridgewaylaw07_AttrSays.j2 kj18 t230 t231 (Int.tmod (Go.bits .and .i64 a1 65535) (t231.length : Int)) y251 false a0_0 l0_1 a0_2 a0_3 a2_0 a2_1 l2_2)) else (if a2_1 = 4 then (if a2_1 ≥ 5 then (ridgewaylaw07_AttrSays.j2 kj18 t230 t231 (Int.tmod (Go.bits .and .i64 a1 65535) (t231.length : Int)) y251 (decide (a2_1 ≤ 7)) a0_0 l0_1 a0_2 a0_3 a2_0 a2_1 l2_2) else (ridgewaylaw07_AttrSays.j2 kj18 t230 t231 (Int.tmod (Go.bits .and .i64 a1 65535) (t231.length : Int)) y251 false a0_0 l0_1 a0_2 a0_3 a2_0 a2_1 l2_2)) else (if a2_1 = 35 then (if a2_1 ≥ 5 then (ridgewaylaw07_AttrSays.j2 kj18 t230 t231 (Int.tmod (Go.bits .and .i64 a1 65535) (t231.length : Int)) y251 (decide (a2_1 ≤ 7)) a0_0 l0_1 a0_2 a0_3 a2_0 a2_1 l2_2) else (ridgewaylaw07_AttrSays.j2 kj18 t230 t231 (Int.tmod (Go.bits .and .i64 a1 65535) (t231.length : Int)) y251 false a0_0 l0_1 a0_2 a0_3 a2_0 a2_1 l2_2)) else (if a2_1 < 1 then (ridgewaylaw07_AttrSays.j2 kj18 t230 t231 (Int.tmod (Go.bits .and .i64 a1 65535) (t231.length : Int)) y251 true a0_0 l0_1 a0_2 a0_3 a2_0 a2_1 l2_2) else (if a2_1 > 3 then (ridgewaylaw07_AttrSays.j2 kj18 t230 t231 (Int.tmod (Go.bits .and .i64 a1 65535) (t231.length : Int)) y251 true a0_0 l0_1 a0_2 a0_3 a2_0 a2_1 l2_2) else (if a2_1 ≥ 5 then (ridgewaylaw07_AttrSays.j2 kj18 t230 t231 (Int.tmod (Go.bits .and .i64 a1 65535) (t231.length : Int)) y251 (decide (a2_1 ≤ 7)) a0_0 l0_1 a0_2 a0_3 a2_0 a2_1 l2_2) else (ridgewaylaw07_AttrSays.j2 kj18 t230 t231 (Int.tmod (Go.bits .and .i64 a1 65535) (t231.length : Int)) y251 false a0_0 l0_1 a0_2 a0_3 a2_0 a2_1 l2_2)))))))) else (none)))) else (none))) else (none)) else (none)))) = some true := by rw [if_neg (show ¬ (false = true) by decide)] at H; first | done | exact H
        clear H
        have H := H1
        clear H1
        by_cases c28 : (t231.length : Int) = 0
        ·
         rw [if_pos c28] at H
         exact absurd H (by simp)
        ·
         rw [if_neg c28] at H
         have c28b0 : ((t231.length : Int) == 0) = false := beq_eq_false_iff_ne.mpr c28
         have c28b1 : ((t231.length : Int) != 0) = true := bne_iff_ne.mpr c28
         have c28b2 : ¬ (t231 = []) := fun h_ => c28 (by rw [h_]; rfl)
         obtain ⟨y235, hy235⟩ : ∃ y_ : List (S24), y_ = (([] : List (S24))) := ⟨_, rfl⟩
         replace H : (if 0 ≤ (Int.tmod (Go.bits .and .i64 a1 65535) (t231.length : Int)) then (if (Int.tmod (Go.bits .and .i64 a1 65535) (t231.length : Int)) ≤ (t231.length : Int) then ((some (t231.drop ((Int.tmod (Go.bits .and .i64 a1 65535) (t231.length : Int)) : Int).toNat : List (S24))).bind fun y238 => (if y235.length + y238.length < 3518437208883 then ((some (y235 ++ y238 : List (S24))).bind fun y243 => ((some (t231.take ((Int.tmod (Go.bits .and .i64 a1 65535) (t231.length : Int)) : Int).toNat : List (S24))).bind fun y246 => (if y243.length + y246.length < 3518437208883 then ((some (y243 ++ y246 : List (S24))).bind fun y251 => (if (Go.bits .and .i64 a2_0 128) = 0 then (if a2_1 ≥ 5 then (ridgewaylaw07_AttrSays.j2 kj18 t230 t231 (Int.tmod (Go.bits .and .i64 a1 65535) (t231.length : Int)) y251 (decide (a2_1 ≤ 7)) a0_0 l0_1 a0_2 a0_3 a2_0 a2_1 l2_2) else (ridgewaylaw07_AttrSays.j2 kj18 t230 t231 (Int.tmod (Go.bits .and .i64 a1 65535) (t231.length : Int)) y251 false a0_0 l0_1 a0_2 a0_3 a2_0 a2_1 l2_2)) else (if a2_1 = 4 then (if a2_1 ≥ 5 then (ridgewaylaw07_AttrSays.j2 kj18 t230 t231 (Int.tmod (Go.bits .and .i64 a1 65535) (t231.length : Int)) y251 (decide (a2_1 ≤ 7)) a0_0 l0_1 a0_2 a0_3 a2_0 a2_1 l2_2) else (ridgewaylaw07_AttrSays.j2 kj18 t230 t231 (Int.tmod (Go.bits .and .i64 a1 65535) (t231.length : Int)) y251 false a0_0 l0_1 a0_2 a0_3 a2_0 a2_1 l2_2)) else (if a2_1 = 35 then (if a2_1 ≥ 5 then (ridgewaylaw07_AttrSays.j2 kj18 t230 t231 (Int.tmod (Go.bits .and .i64 a1 65535) (t231.length : Int)) y251 (decide (a2_1 ≤ 7)) a0_0 l0_1 a0_2 a0_3 a2_0 a2_1 l2_2) else (ridgewaylaw07_AttrSays.j2 kj18 t230 t231 (Int.tmod (Go.bits .and .i64 a1 65535) (t231.length : Int)) y251 false a0_0 l0_1 a0_2 a0_3 a2_0 a2_1 l2_2)) else (if a2_1 < 1 then (ridgewaylaw07_AttrSays.j2 kj18 t230 t231 (Int.tmod (Go.bits .and .i64 a1 65535) (t231.length : Int)) y251 true a0_0 l0_1 a0_2 a0_3 a2_0 a2_1 l2_2) else (if a2_1 > 3 then (ridgewaylaw07_AttrSays.j2 kj18 t230 t231 (Int.tmod (Go.bits .and .i64 a1 65535) (t231.length : Int)) y251 true a0_0 l0_1 a0_2 a0_3 a2_0 a2_1 l2_2) else (if a2_1 ≥ 5 then (ridgewaylaw07_AttrSays.j2 kj18 t230 t231 (Int.tmod (Go.bits .and .i64 a1 65535) (t231.length : Int)) y251 (decide (a2_1 ≤ 7)) a0_0 l0_1 a0_2 a0_3 a2_0 a2_1 l2_2) else (ridgewaylaw07_AttrSays.j2 kj18 t230 t231 (Int.tmod (Go.bits .and .i64 a1 65535) (t231.length : Int)) y251 false a0_0 l0_1 a0_2 a0_3 a2_0 a2_1 l2_2)))))))) else (none)))) else (none))) else (none)) else (none)) = some true := by first | (rw [hy235]; with_reducible exact H) | (have H2_ := (Option.bind_some _ _).symm.trans H; rw [hy235]; with_reducible exact H2_) | (have H2_ := (Option.bind_some _ _).symm.trans H; with_reducible exact H2_) | with_reducible exact H | (rw [hy235]; exact H) | exact H
         have Ny235 := Aside0.mk hy235
         clear hy235
         obtain ⟨ji29, hji29⟩ : ∃ j_ : Int, (Int.tmod (Go.bits .and .i64 a1 65535) (t231.length : Int)) = j_ := ⟨_, rfl⟩
         replace H : (if 0 ≤ (ji29) then (if (ji29) ≤ (t231.length : Int) then ((some (t231.drop ((ji29) : Int).toNat : List (S24))).bind fun y238 => (if y235.length + y238.length < 3518437208883 then ((some (y235 ++ y238 : List (S24))).bind fun y243 => ((some (t231.take ((ji29) : Int).toNat : List (S24))).bind fun y246 => (if y243.length + y246.length < 3518437208883 then ((some (y243 ++ y246 : List (S24))).bind fun y251 => (if (Go.bits .and .i64 a2_0 128) = 0 then (if a2_1 ≥ 5 then (ridgewaylaw07_AttrSays.j2 kj18 t230 t231 ji29 y251 (decide (a2_1 ≤ 7)) a0_0 l0_1 a0_2 a0_3 a2_0 a2_1 l2_2) else (ridgewaylaw07_AttrSays.j2 kj18 t230 t231 ji29 y251 false a0_0 l0_1 a0_2 a0_3 a2_0 a2_1 l2_2)) else (if a2_1 = 4 then (if a2_1 ≥ 5 then (ridgewaylaw07_AttrSays.j2 kj18 t230 t231 ji29 y251 (decide (a2_1 ≤ 7)) a0_0 l0_1 a0_2 a0_3 a2_0 a2_1 l2_2) else (ridgewaylaw07_AttrSays.j2 kj18 t230 t231 ji29 y251 false a0_0 l0_1 a0_2 a0_3 a2_0 a2_1 l2_2)) else (if a2_1 = 35 then (if a2_1 ≥ 5 then (ridgewaylaw07_AttrSays.j2 kj18 t230 t231 ji29 y251 (decide (a2_1 ≤ 7)) a0_0 l0_1 a0_2 a0_3 a2_0 a2_1 l2_2) else (ridgewaylaw07_AttrSays.j2 kj18 t230 t231 ji29 y251 false a0_0 l0_1 a0_2 a0_3 a2_0 a2_1 l2_2)) else (if a2_1 < 1 then (ridgewaylaw07_AttrSays.j2 kj18 t230 t231 ji29 y251 true a0_0 l0_1 a0_2 a0_3 a2_0 a2_1 l2_2) else (if a2_1 > 3 then (ridgewaylaw07_AttrSays.j2 kj18 t230 t231 ji29 y251 true a0_0 l0_1 a0_2 a0_3 a2_0 a2_1 l2_2) else (if a2_1 ≥ 5 then (ridgewaylaw07_AttrSays.j2 kj18 t230 t231 ji29 y251 (decide (a2_1 ≤ 7)) a0_0 l0_1 a0_2 a0_3 a2_0 a2_1 l2_2) else (ridgewaylaw07_AttrSays.j2 kj18 t230 t231 ji29 y251 false a0_0 l0_1 a0_2 a0_3 a2_0 a2_1 l2_2)))))))) else (none)))) else (none))) else (none)) else (none)) = some true := by first | (rw [hji29] at H; exact H) | (simp only [hji29] at H ⊢; exact H)
         by_cases c30 : 0 ≤ (ji29)
         ·
          rw [if_pos c30] at H
          have c30b0 := eq_true c30
          have c30b1 : decide (0 ≤ (ji29)) = true := decide_eq_true c30
          clear c30
          by_cases c31 : (ji29) ≤ (t231.length : Int)
          ·
           rw [if_pos c31] at H
           have c31b0 := eq_true c31
           have c31b1 : decide ((ji29) ≤ (t231.length : Int)) = true := decide_eq_true c31
           clear c31
           obtain ⟨y238, hy238⟩ : ∃ y_ : List (S24), y_ = (t231.drop ((ji29) : Int).toNat) := ⟨_, rfl⟩
           replace H : (if y235.length + y238.length < 3518437208883 then ((some (y235 ++ y238 : List (S24))).bind fun y243 => ((some (t231.take ((ji29) : Int).toNat : List (S24))).bind fun y246 => (if y243.length + y246.length < 3518437208883 then ((some (y243 ++ y246 : List (S24))).bind fun y251 => (if (Go.bits .and .i64 a2_0 128) = 0 then (if a2_1 ≥ 5 then (ridgewaylaw07_AttrSays.j2 kj18 t230 t231 ji29 y251 (decide (a2_1 ≤ 7)) a0_0 l0_1 a0_2 a0_3 a2_0 a2_1 l2_2) else (ridgewaylaw07_AttrSays.j2 kj18 t230 t231 ji29 y251 false a0_0 l0_1 a0_2 a0_3 a2_0 a2_1 l2_2)) else (if a2_1 = 4 then (if a2_1 ≥ 5 then (ridgewaylaw07_AttrSays.j2 kj18 t230 t231 ji29 y251 (decide (a2_1 ≤ 7)) a0_0 l0_1 a0_2 a0_3 a2_0 a2_1 l2_2) else (ridgewaylaw07_AttrSays.j2 kj18 t230 t231 ji29 y251 false a0_0 l0_1 a0_2 a0_3 a2_0 a2_1 l2_2)) else (if a2_1 = 35 then (if a2_1 ≥ 5 then (ridgewaylaw07_AttrSays.j2 kj18 t230 t231 ji29 y251 (decide (a2_1 ≤ 7)) a0_0 l0_1 a0_2 a0_3 a2_0 a2_1 l2_2) else (ridgewaylaw07_AttrSays.j2 kj18 t230 t231 ji29 y251 false a0_0 l0_1 a0_2 a0_3 a2_0 a2_1 l2_2)) else (if a2_1 < 1 then (ridgewaylaw07_AttrSays.j2 kj18 t230 t231 ji29 y251 true a0_0 l0_1 a0_2 a0_3 a2_0 a2_1 l2_2) else (if a2_1 > 3 then (ridgewaylaw07_AttrSays.j2 kj18 t230 t231 ji29 y251 true a0_0 l0_1 a0_2 a0_3 a2_0 a2_1 l2_2) else (if a2_1 ≥ 5 then (ridgewaylaw07_AttrSays.j2 kj18 t230 t231 ji29 y251 (decide (a2_1 ≤ 7)) a0_0 l0_1 a0_2 a0_3 a2_0 a2_1 l2_2) else (ridgewaylaw07_AttrSays.j2 kj18 t230 t231 ji29 y251 false a0_0 l0_1 a0_2 a0_3 a2_0 a2_1 l2_2)))))))) else (none)))) else (none)) = some true := by first | (rw [hy238]; with_reducible exact H) | (have H2_ := (Option.bind_some _ _).symm.trans H; rw [hy238]; with_reducible exact H2_) | (have H2_ := (Option.bind_some _ _).symm.trans H; with_reducible exact H2_) | with_reducible exact H | (rw [hy238]; exact H) | exact H
           have Ny238 := Aside0.mk hy238
           clear hy238
           by_cases c32 : y235.length + y238.length < 3518437208883
           ·
            rw [if_pos c32] at H
            have LMc32 := Aside0.mk c32
            clear c32
            obtain ⟨y243, hy243⟩ : ∃ y_ : List (S24), y_ = (y235 ++ y238) := ⟨_, rfl⟩
            replace H : ((some (t231.take ((ji29) : Int).toNat : List (S24))).bind fun y246 => (if y243.length + y246.length < 3518437208883 then ((some (y243 ++ y246 : List (S24))).bind fun y251 => (if (Go.bits .and .i64 a2_0 128) = 0 then (if a2_1 ≥ 5 then (ridgewaylaw07_AttrSays.j2 kj18 t230 t231 ji29 y251 (decide (a2_1 ≤ 7)) a0_0 l0_1 a0_2 a0_3 a2_0 a2_1 l2_2) else (ridgewaylaw07_AttrSays.j2 kj18 t230 t231 ji29 y251 false a0_0 l0_1 a0_2 a0_3 a2_0 a2_1 l2_2)) else (if a2_1 = 4 then (if a2_1 ≥ 5 then (ridgewaylaw07_AttrSays.j2 kj18 t230 t231 ji29 y251 (decide (a2_1 ≤ 7)) a0_0 l0_1 a0_2 a0_3 a2_0 a2_1 l2_2) else (ridgewaylaw07_AttrSays.j2 kj18 t230 t231 ji29 y251 false a0_0 l0_1 a0_2 a0_3 a2_0 a2_1 l2_2)) else (if a2_1 = 35 then (if a2_1 ≥ 5 then (ridgewaylaw07_AttrSays.j2 kj18 t230 t231 ji29 y251 (decide (a2_1 ≤ 7)) a0_0 l0_1 a0_2 a0_3 a2_0 a2_1 l2_2) else (ridgewaylaw07_AttrSays.j2 kj18 t230 t231 ji29 y251 false a0_0 l0_1 a0_2 a0_3 a2_0 a2_1 l2_2)) else (if a2_1 < 1 then (ridgewaylaw07_AttrSays.j2 kj18 t230 t231 ji29 y251 true a0_0 l0_1 a0_2 a0_3 a2_0 a2_1 l2_2) else (if a2_1 > 3 then (ridgewaylaw07_AttrSays.j2 kj18 t230 t231 ji29 y251 true a0_0 l0_1 a0_2 a0_3 a2_0 a2_1 l2_2) else (if a2_1 ≥ 5 then (ridgewaylaw07_AttrSays.j2 kj18 t230 t231 ji29 y251 (decide (a2_1 ≤ 7)) a0_0 l0_1 a0_2 a0_3 a2_0 a2_1 l2_2) else (ridgewaylaw07_AttrSays.j2 kj18 t230 t231 ji29 y251 false a0_0 l0_1 a0_2 a0_3 a2_0 a2_1 l2_2)))))))) else (none))) = some true := by first | (rw [hy243]; with_reducible exact H) | (have H2_ := (Option.bind_some _ _).symm.trans H; rw [hy243]; with_reducible exact H2_) | (have H2_ := (Option.bind_some _ _).symm.trans H; with_reducible exact H2_) | with_reducible exact H | (rw [hy243]; exact H) | exact H
            have Ny243 := Aside0.mk hy243
            clear hy243
            have c33b0 := eq_true (of_decide_eq_true (by first | (with_reducible assumption) | assumption) : 0 ≤ (ji29))
            have c34b0 := eq_true (of_decide_eq_true (by first | (with_reducible assumption) | assumption) : (ji29) ≤ (t231.length : Int))
            obtain ⟨y246, hy246⟩ : ∃ y_ : List (S24), y_ = (t231.take ((ji29) : Int).toNat) := ⟨_, rfl⟩
            replace H : (if y243.length + y246.length < 3518437208883 then ((some (y243 ++ y246 : List (S24))).bind fun y251 => (if (Go.bits .and .i64 a2_0 128) = 0 then (if a2_1 ≥ 5 then (ridgewaylaw07_AttrSays.j2 kj18 t230 t231 ji29 y251 (decide (a2_1 ≤ 7)) a0_0 l0_1 a0_2 a0_3 a2_0 a2_1 l2_2) else (ridgewaylaw07_AttrSays.j2 kj18 t230 t231 ji29 y251 false a0_0 l0_1 a0_2 a0_3 a2_0 a2_1 l2_2)) else (if a2_1 = 4 then (if a2_1 ≥ 5 then (ridgewaylaw07_AttrSays.j2 kj18 t230 t231 ji29 y251 (decide (a2_1 ≤ 7)) a0_0 l0_1 a0_2 a0_3 a2_0 a2_1 l2_2) else (ridgewaylaw07_AttrSays.j2 kj18 t230 t231 ji29 y251 false a0_0 l0_1 a0_2 a0_3 a2_0 a2_1 l2_2)) else (if a2_1 = 35 then (if a2_1 ≥ 5 then (ridgewaylaw07_AttrSays.j2 kj18 t230 t231 ji29 y251 (decide (a2_1 ≤ 7)) a0_0 l0_1 a0_2 a0_3 a2_0 a2_1 l2_2) else (ridgewaylaw07_AttrSays.j2 kj18 t230 t231 ji29 y251 false a0_0 l0_1 a0_2 a0_3 a2_0 a2_1 l2_2)) else (if a2_1 < 1 then (ridgewaylaw07_AttrSays.j2 kj18 t230 t231 ji29 y251 true a0_0 l0_1 a0_2 a0_3 a2_0 a2_1 l2_2) else (if a2_1 > 3 then (ridgewaylaw07_AttrSays.j2 kj18 t230 t231 ji29 y251 true a0_0 l0_1 a0_2 a0_3 a2_0 a2_1 l2_2) else (if a2_1 ≥ 5 then (ridgewaylaw07_AttrSays.j2 kj18 t230 t231 ji29 y251 (decide (a2_1 ≤ 7)) a0_0 l0_1 a0_2 a0_3 a2_0 a2_1 l2_2) else (ridgewaylaw07_AttrSays.j2 kj18 t230 t231 ji29 y251 false a0_0 l0_1 a0_2 a0_3 a2_0 a2_1 l2_2)))))))) else (none)) = some true := by first | (rw [hy246]; with_reducible exact H) | (have H2_ := (Option.bind_some _ _).symm.trans H; rw [hy246]; with_reducible exact H2_) | (have H2_ := (Option.bind_some _ _).symm.trans H; with_reducible exact H2_) | with_reducible exact H | (rw [hy246]; exact H) | exact H
            have Ny246 := Aside0.mk hy246
            clear hy246
            by_cases c35 : y243.length + y246.length < 3518437208883
            ·
             rw [if_pos c35] at H
             have LMc35 := Aside0.mk c35
             clear c35
             obtain ⟨y251, hy251⟩ : ∃ y_ : List (S24), y_ = (y243 ++ y246) := ⟨_, rfl⟩
             replace H : (if (Go.bits .and .i64 a2_0 128) = 0 then (if a2_1 ≥ 5 then (ridgewaylaw07_AttrSays.j2 kj18 t230 t231 ji29 y251 (decide (a2_1 ≤ 7)) a0_0 l0_1 a0_2 a0_3 a2_0 a2_1 l2_2) else (ridgewaylaw07_AttrSays.j2 kj18 t230 t231 ji29 y251 false a0_0 l0_1 a0_2 a0_3 a2_0 a2_1 l2_2)) else (if a2_1 = 4 then (if a2_1 ≥ 5 then (ridgewaylaw07_AttrSays.j2 kj18 t230 t231 ji29 y251 (decide (a2_1 ≤ 7)) a0_0 l0_1 a0_2 a0_3 a2_0 a2_1 l2_2) else (ridgewaylaw07_AttrSays.j2 kj18 t230 t231 ji29 y251 false a0_0 l0_1 a0_2 a0_3 a2_0 a2_1 l2_2)) else (if a2_1 = 35 then (if a2_1 ≥ 5 then (ridgewaylaw07_AttrSays.j2 kj18 t230 t231 ji29 y251 (decide (a2_1 ≤ 7)) a0_0 l0_1 a0_2 a0_3 a2_0 a2_1 l2_2) else (ridgewaylaw07_AttrSays.j2 kj18 t230 t231 ji29 y251 false a0_0 l0_1 a0_2 a0_3 a2_0 a2_1 l2_2)) else (if a2_1 < 1 then (ridgewaylaw07_AttrSays.j2 kj18 t230 t231 ji29 y251 true a0_0 l0_1 a0_2 a0_3 a2_0 a2_1 l2_2) else (if a2_1 > 3 then (ridgewaylaw07_AttrSays.j2 kj18 t230 t231 ji29 y251 true a0_0 l0_1 a0_2 a0_3 a2_0 a2_1 l2_2) else (if a2_1 ≥ 5 then (ridgewaylaw07_AttrSays.j2 kj18 t230 t231 ji29 y251 (decide (a2_1 ≤ 7)) a0_0 l0_1 a0_2 a0_3 a2_0 a2_1 l2_2) else (ridgewaylaw07_AttrSays.j2 kj18 t230 t231 ji29 y251 false a0_0 l0_1 a0_2 a0_3 a2_0 a2_1 l2_2))))))) = some true := by first | (rw [hy251]; with_reducible exact H) | (have H2_ := (Option.bind_some _ _).symm.trans H; rw [hy251]; with_reducible exact H2_) | (have H2_ := (Option.bind_some _ _).symm.trans H; with_reducible exact H2_) | with_reducible exact H | (rw [hy251]; exact H) | exact H
             have Ny251 := Aside0.mk hy251
             clear hy251
             have HC36 := Aside0.mk H
             clear H
             go_upto_region 13 with (first | ((with_reducible refine gate_dst (N := 50) rfl ?_); (try (refine gate_guard (by rfl) ?_; dsimp only)); refine Kd.N_lit k24 _ 24 ?hg (N' := 50) ?hd (xs := ([] : List (S24))) (inner := []) (ok := (fun k_ => (P2_2_ k_ ∨ w.heap.size ≤ k_) ∧ some k_ ≠ (.slice Ao25 t231.length co25 : Value).ownBlock ∧ k_ ≠ gb228 ∧ k_ ≠ gb229)) (okp := (fun k_ => (P2_2_ k_ ∨ w.heap.size ≤ k_) ∧ some k_ ≠ (.slice Ao25 t231.length co25 : Value).ownBlock ∧ k_ ≠ gb228 ∧ k_ ≠ gb229)) ?hr ?hp (fun _ hk => hk) ((show ∀ k_, wc.heap.size ≤ k_ → (fun k_ => (P2_2_ k_ ∨ w.heap.size ≤ k_) ∧ some k_ ≠ (.slice Ao25 t231.length co25 : Value).ownBlock ∧ k_ ≠ gb228 ∧ k_ ≠ gb229) k_ from fun k_ hk => ⟨(.inr (Nat.le_trans (below_size (by repeat (first | (with_reducible first | exact HB.out | apply bA | apply bN | apply bD | refine bS ?_ GE228.out | refine bS ?_ GE229.out) | exact HB.out))) hk)), Kd.fresh' (Kd.N_lt (by (with_reducible repeat (first | apply Kd.N_alloc | apply Kd.N_drewN | apply Kd.N_drew)); exact HO_8.out)) k_ hk, Kd.freshB (g := gb228) (o := .cells #[.int .i64 a0_0, .slice A0_1 l0_1.length c0_1, .int .i64 a0_2, .int .i64 a0_3] 27 (0, 0)) (by (with_reducible repeat (first | refine kN ?_ _ | refine kD ?_ | refine kA ?_ _)); exact BK228.out) k_ hk, Kd.freshB (g := gb229) (o := .cells #[.int .i64 a2_0, .int .i64 a2_1, .slice A2_2 l2_2.length c2_2] 24 (0, 0)) (by (with_reducible repeat (first | refine kN ?_ _ | refine kD ?_ | refine kA ?_ _)); exact BK229.out) k_ hk⟩) _ (Nat.le_refl _)) (Below.refl _ _) (Nat.le_refl _) (by simp) ?_; (case hd => rfl); (case hg => rfl); (case hr => first | (go_simp; done) | (go_simp; rfl)); (case hp => exact (Reps.none _ _)); intro v236 w37 ho38 hb hg_ hnew_; clear hg_ hnew_; (first | rw [← Ny235.out] at ho38 | (simp only [Int.reduceToNat] at ho38; rw [← Ny235.out] at ho38)); have n0_ := Aside0.mk (Kd.N_elder' (by (with_reducible repeat (first | apply Kd.N_alloc | apply Kd.N_drewN | apply Kd.N_drew)); exact HO_8.out) (Kd.N_base ho38) hb); have n1_ := Aside0.mk (Kd.V_elder' (by (with_reducible repeat (first | apply Kd.V_alloc | apply Kd.V_drewN | apply Kd.V_drew)); exact HO_230002.out) (Kd.N_base ho38) hb); have n2_ := Aside0.mk (Kd.N_lower ho38 (below_size (by repeat (first | (with_reducible first | exact HB.out | apply bA | apply bN | apply bD | refine bS ?_ GE228.out | refine bS ?_ GE229.out) | exact HB.out)))); have n3_ := Aside0.mk (blk_below (g := gb228) (o := .cells #[.int .i64 a0_0, .slice A0_1 l0_1.length c0_1, .int .i64 a0_2, .int .i64 a0_3] 27 (0, 0)) (by (with_reducible repeat (first | refine kN ?_ _ | refine kD ?_ | refine kA ?_ _)); exact BK228.out) hb); have n4_ := Aside0.mk (blk_below (g := gb229) (o := .cells #[.int .i64 a2_0, .int .i64 a2_1, .slice A2_2 l2_2.length c2_2] 24 (0, 0)) (by (with_reducible repeat (first | refine kN ?_ _ | refine kD ?_ | refine kA ?_ _)); exact BK229.out) hb); have n5_ := Aside0.mk (below_step (by repeat (first | (with_reducible first | exact HB.out | apply bA | apply bN | apply bD | refine bS ?_ GE228.out | refine bS ?_ GE229.out) | exact HB.out)) hb); clear HO_8; clear HO_230002; clear BK228; clear BK229; clear HB; have HO_8 := n0_; have HO_230002 := n1_; have HO237 := n2_; have BK228 := n3_; have BK229 := n4_; have HB := n5_; clear n0_ n1_ n2_ n3_ n4_ n5_; clear hb ho38; have q39 : ((ji29) : Int) ≤ ((t231.length : Int) : Int) := of_decide_eq_true (by first | (with_reducible assumption) | assumption); obtain ⟨i039, hi039, _, hsz39, _⟩ := info_parts info24; have hroom39 : t231.length ≤ co25 := (Kd.N_reads' HO_8.out).2.1; have hC39 : Kd.F k24 _ _ Ao25 t231.length t231 := (Kd.V_at (base := w.heap.size) (Kd.N_V HO_8.out)).2.2; have q039 : (0 : Int) ≤ ((ji29) : Int) := of_decide_eq_true (by first | (with_reducible assumption) | assumption); have hcut39 := cut_from (P := Try.prog) 31 24 .i64 Try.underlying31 hi039 3 hsz39 Ao25 t231.length co25 (ji29) q039 q39; have hr39 := Kd.F_cut (m := ((ji29) : Int).toNat) (c := co25) hC39 (by omega) hroom39; obtain ⟨A39, hA39⟩ : ∃ A1, A1 = (if co25 = ((ji29) : Int).toNat then Ao25 else (Ao25 : Option Addr).map (·.add (((ji29) : Int).toNat * 3))) := ⟨_, rfl⟩; obtain ⟨c39, hc39⟩ : ∃ c1, c1 = co25 - ((ji29) : Int).toNat := ⟨_, rfl⟩; have hy39 : y238.length = t231.length - ((ji29) : Int).toNat := (by rw [Ny238.out, List.length_drop] <;> omega); rw [show (t231).drop ((ji29) : Int).toNat = y238 from Ny238.out.symm] at hr39; replace hr39 : Kd.F k24 _ _ A39 y238.length y238 := (by rw [hA39]; exact hr39); rw [← hy39, ← hA39, ← hc39] at hcut39; have HO242 := Aside0.mk (show Kd.V k24 24 _ w.heap.size _ (.slice A39 y238.length c39) y238 from Kd.V_mk (by rw [hy39, hc39]; exact Nat.sub_le_sub_right hroom39 _) hr39); have HC242 := Aside0.mk (show y238.length ≤ c39 from by rw [hy39, hc39]; exact Nat.sub_le_sub_right hroom39 _); clear hr39 hC39 hroom39 hi039 hsz39 hc39; have KY39 := Aside0.mk hy39; have KA39 := Aside0.mk hA39; clear hy39 hA39; replace q39 := eq_true q39) | ((with_reducible refine gate_builtin (b := .append) (xs := #[.tmp 50, .tmp 53]) rfl ?_); (try (refine gate_guard (by rfl) ?_; dsimp only)); at_builtin; refine Kd.N_append_rows k24 (w0 := w) w.heap.size rfl (.tmp 50) (.tmp 53) 31 24 (.agg #[(.int .i64 0), (.int .i64 0), (.slice none 0 0)]) 40 rfl Try.underlying31 info24 rfl (by decide) (by omega) v236 y235 y238 _ _ _ (fun k_ => (P2_2_ k_ ∨ w.heap.size ≤ k_) ∧ k_ ≠ gb228 ∧ k_ ≠ gb229) (fun k_ => ((fun k_ => (P2_2_ k_ ∨ w.heap.size ≤ k_) ∧ k_ ≠ gb228 ∧ k_ ≠ gb229)) k_ ∧ some k_ ≠ (v236 : Value).ownBlock) rfl rfl ?aO ?aR (fun _ hk => hk) ?aF ?aB ?aS ?aL ?_; (case aR => exact (by skip; exact Kd.V_F (Kd.V_mono (ok' := (fun k_ => ((fun k_ => (P2_2_ k_ ∨ w.heap.size ≤ k_) ∧ k_ ≠ gb228 ∧ k_ ≠ gb229)) k_ ∧ some k_ ≠ (v236 : Value).ownBlock)) (HO242.out) (fun k_ hk => ⟨⟨hk.1.1, ⟨hk.1.2.1, hk.1.2.2⟩⟩, hk.2⟩)))); (case aB => exact (by repeat (first | (with_reducible first | exact HB.out | apply bA | apply bN | apply bD | refine bS ?_ GE228.out | refine bS ?_ GE229.out) | exact HB.out))); (case aF => exact (fun k_ hk => ⟨(.inr (Nat.le_trans (below_size (by repeat (first | (with_reducible first | exact HB.out | apply bA | apply bN | apply bD | refine bS ?_ GE228.out | refine bS ?_ GE229.out) | exact HB.out))) hk)), Kd.freshB (g := gb228) (o := .cells #[.int .i64 a0_0, .slice A0_1 l0_1.length c0_1, .int .i64 a0_2, .int .i64 a0_3] 27 (0, 0)) (by (with_reducible repeat (first | refine kN ?_ _ | refine kD ?_ | refine kA ?_ _)); exact BK228.out) k_ hk, Kd.freshB (g := gb229) (o := .cells #[.int .i64 a2_0, .int .i64 a2_1, .slice A2_2 l2_2.length c2_2] 24 (0, 0)) (by (with_reducible repeat (first | refine kN ?_ _ | refine kD ?_ | refine kA ?_ _)); exact BK229.out) k_ hk⟩)); (case aO => exact (by (with_reducible repeat (first | apply Kd.N_alloc | apply Kd.N_drewN | apply Kd.N_drew)); exact Kd.N_mono HO237.out (fun _ hk => ⟨hk.1, ⟨hk.2.2.1, hk.2.2.2⟩⟩))); (case aS => exact (below_size (by repeat (first | (with_reducible first | exact HB.out | apply bA | apply bN | apply bD | refine bS ?_ GE228.out | refine bS ?_ GE229.out) | exact HB.out)))); (case aL => have := LMc32.out; omega); intro v244 w40 ho hb hg hat; rw [← Ny243.out] at ho; have n0_ := Aside0.mk (Kd.N_afterv (ok := (fun k_ => (P2_2_ k_ ∨ w.heap.size ≤ k_) ∧ k_ ≠ gb228 ∧ k_ ≠ gb229)) (by (with_reducible repeat (first | apply Kd.N_alloc | apply Kd.N_drewN | apply Kd.N_drew)); exact HO_8.out) hg hat); have n1_ := Aside0.mk (Kd.V_afterv (ok := (fun k_ => (P2_2_ k_ ∨ w.heap.size ≤ k_) ∧ some k_ ≠ (.slice Ao25 t231.length co25 : Value).ownBlock ∧ k_ ≠ gb228 ∧ k_ ≠ gb229)) (by (with_reducible repeat (first | apply Kd.V_alloc | apply Kd.V_drewN | apply Kd.V_drew)); exact HO_230002.out) hg hat); have n2_ := Aside0.mk (blk_grown (g := gb228) (o := .cells #[.int .i64 a0_0, .slice A0_1 l0_1.length c0_1, .int .i64 a0_2, .int .i64 a0_3] 27 (0, 0)) (by (with_reducible repeat (first | refine kN ?_ _ | refine kD ?_ | refine kA ?_ _)); exact BK228.out) hg (Kd.N_ne HO237.out BK228.out (by decide))); have n3_ := Aside0.mk (blk_grown (g := gb229) (o := .cells #[.int .i64 a2_0, .int .i64 a2_1, .slice A2_2 l2_2.length c2_2] 24 (0, 0)) (by (with_reducible repeat (first | refine kN ?_ _ | refine kD ?_ | refine kA ?_ _)); exact BK229.out) hg (Kd.N_away HO237.out (fun _ hk => hk.2.2.2))); have n4_ := Aside0.mk (Kd.V_afterv (ok := (fun k_ => (P2_2_ k_ ∨ w.heap.size ≤ k_) ∧ k_ ≠ gb228 ∧ k_ ≠ gb229)) (by (with_reducible repeat (first | apply Kd.V_alloc | apply Kd.V_drewN | apply Kd.V_drew)); exact HO242.out) hg hat); have n5_ := Aside0.mk (hb); have n6_ := Aside0.mk (ho); clear HO_8; clear HO_230002; clear BK228; clear BK229; clear HO242; clear HB; clear HO237; have HO_8 := n0_; have HO_230002 := n1_; have BK228 := n2_; have BK229 := n3_; have HO242 := n4_; have HB := n5_; have HO245 := n6_; clear n0_ n1_ n2_ n3_ n4_ n5_ n6_; clear ho hb hg hat; have q41 : ((ji29) : Int) ≤ ((t231.length : Int) : Int) := of_decide_eq_true (by first | (with_reducible assumption) | assumption); obtain ⟨i041, hi041, _, hsz41, _⟩ := info_parts info24; have hroom41 : t231.length ≤ co25 := (Kd.N_reads' HO_8.out).2.1; have hC41 : Kd.F k24 _ _ Ao25 t231.length t231 := (Kd.V_at (base := w.heap.size) (Kd.N_V HO_8.out)).2.2; have hcut41 := cut_to (P := Try.prog) 31 24 .i64 Try.underlying31 hi041 Ao25 t231.length co25 (ji29) (of_decide_eq_true (by first | (with_reducible assumption) | assumption)) q41 hroom41; have hr41 := Kd.F_take (m := ((ji29) : Int).toNat) hC41 (by omega); have hy41 : y246.length = ((ji29) : Int).toNat := (by rw [Ny246.out, List.length_take]; omega); rw [← Ny246.out] at hr41; rw [← hy41] at hcut41; have HO250 := Aside0.mk (show Kd.V k24 24 _ w.heap.size _ (.slice Ao25 y246.length co25) y246 from Kd.V_mk (by omega) hr41); have HC250 := Aside0.mk (show y246.length ≤ co25 from by omega); clear hr41 hC41 hroom41 hi041 hsz41; have KY41 := Aside0.mk hy41; clear hy41; replace q41 := eq_true q41) | ((with_reducible refine gate_builtin (b := .append) (xs := #[.tmp 55, .tmp 58]) rfl ?_); (try (refine gate_guard (by rfl) ?_; dsimp only)); at_builtin; refine Kd.N_append_rows k24 (w0 := w) w.heap.size rfl (.tmp 55) (.tmp 58) 31 24 (.agg #[(.int .i64 0), (.int .i64 0), (.slice none 0 0)]) 40 rfl Try.underlying31 info24 rfl (by decide) (by omega) v244 y243 y246 _ _ _ (fun k_ => (P2_2_ k_ ∨ w.heap.size ≤ k_) ∧ k_ ≠ gb228 ∧ k_ ≠ gb229) (fun k_ => ((fun k_ => (P2_2_ k_ ∨ w.heap.size ≤ k_) ∧ k_ ≠ gb228 ∧ k_ ≠ gb229)) k_ ∧ some k_ ≠ (v244 : Value).ownBlock) rfl rfl ?aO ?aR (fun _ hk => hk) ?aF ?aB ?aS ?aL ?_; (case aR => exact (by skip; exact Kd.V_F (Kd.V_mono (ok' := (fun k_ => ((fun k_ => (P2_2_ k_ ∨ w.heap.size ≤ k_) ∧ k_ ≠ gb228 ∧ k_ ≠ gb229)) k_ ∧ some k_ ≠ (v244 : Value).ownBlock)) (HO250.out) (fun k_ hk => ⟨⟨hk.1.1, ⟨hk.1.2.1, hk.1.2.2⟩⟩, hk.2⟩)))); (case aB => exact (by repeat (first | (with_reducible first | exact HB.out | apply bA | apply bN | apply bD | refine bS ?_ GE228.out | refine bS ?_ GE229.out) | exact HB.out))); (case aF => exact (fun k_ hk => ⟨(.inr (Nat.le_trans (below_size (by repeat (first | (with_reducible first | exact HB.out | apply bA | apply bN | apply bD | refine bS ?_ GE228.out | refine bS ?_ GE229.out) | exact HB.out))) hk)), Kd.freshB (g := gb228) (o := .cells #[.int .i64 a0_0, .slice A0_1 l0_1.length c0_1, .int .i64 a0_2, .int .i64 a0_3] 27 (0, 0)) (by (with_reducible repeat (first | refine kN ?_ _ | refine kD ?_ | refine kA ?_ _)); exact BK228.out) k_ hk, Kd.freshB (g := gb229) (o := .cells #[.int .i64 a2_0, .int .i64 a2_1, .slice A2_2 l2_2.length c2_2] 24 (0, 0)) (by (with_reducible repeat (first | refine kN ?_ _ | refine kD ?_ | refine kA ?_ _)); exact BK229.out) k_ hk⟩)); (case aO => exact (by (with_reducible repeat (first | apply Kd.N_alloc | apply Kd.N_drewN | apply Kd.N_drew)); exact HO245.out)); (case aS => exact (below_size (by repeat (first | (with_reducible first | exact HB.out | apply bA | apply bN | apply bD | refine bS ?_ GE228.out | refine bS ?_ GE229.out) | exact HB.out)))); (case aL => have := LMc35.out; omega); intro v252 w42 ho hb hg hat; rw [← Ny251.out] at ho; have n0_ := Aside0.mk (Kd.N_afterv (ok := (fun k_ => (P2_2_ k_ ∨ w.heap.size ≤ k_) ∧ k_ ≠ gb228 ∧ k_ ≠ gb229)) (by (with_reducible repeat (first | apply Kd.N_alloc | apply Kd.N_drewN | apply Kd.N_drew)); exact HO_8.out) hg hat); have n1_ := Aside0.mk (Kd.V_afterv (ok := (fun k_ => (P2_2_ k_ ∨ w.heap.size ≤ k_) ∧ some k_ ≠ (.slice Ao25 t231.length co25 : Value).ownBlock ∧ k_ ≠ gb228 ∧ k_ ≠ gb229)) (by (with_reducible repeat (first | apply Kd.V_alloc | apply Kd.V_drewN | apply Kd.V_drew)); exact HO_230002.out) hg hat); have n2_ := Aside0.mk (blk_grown (g := gb228) (o := .cells #[.int .i64 a0_0, .slice A0_1 l0_1.length c0_1, .int .i64 a0_2, .int .i64 a0_3] 27 (0, 0)) (by (with_reducible repeat (first | refine kN ?_ _ | refine kD ?_ | refine kA ?_ _)); exact BK228.out) hg (Kd.N_ne HO245.out BK228.out (by decide))); have n3_ := Aside0.mk (blk_grown (g := gb229) (o := .cells #[.int .i64 a2_0, .int .i64 a2_1, .slice A2_2 l2_2.length c2_2] 24 (0, 0)) (by (with_reducible repeat (first | refine kN ?_ _ | refine kD ?_ | refine kA ?_ _)); exact BK229.out) hg (Kd.N_away HO245.out (fun _ hk => hk.2.2))); have n4_ := Aside0.mk (Kd.V_afterv (ok := (fun k_ => (P2_2_ k_ ∨ w.heap.size ≤ k_) ∧ k_ ≠ gb228 ∧ k_ ≠ gb229)) (by (with_reducible repeat (first | apply Kd.V_alloc | apply Kd.V_drewN | apply Kd.V_drew)); exact HO242.out) hg hat); have n5_ := Aside0.mk (Kd.V_afterv (ok := (fun k_ => (P2_2_ k_ ∨ w.heap.size ≤ k_) ∧ k_ ≠ gb228 ∧ k_ ≠ gb229)) (by (with_reducible repeat (first | apply Kd.V_alloc | apply Kd.V_drewN | apply Kd.V_drew)); exact HO250.out) hg hat); have n6_ := Aside0.mk (hb); have n7_ := Aside0.mk (ho); clear HO_8; clear HO_230002; clear BK228; clear BK229; clear HO242; clear HO250; clear HB; clear HO245; have HO_8 := n0_; have HO_230002 := n1_; have BK228 := n2_; have BK229 := n3_; have HO242 := n4_; have HO250 := n5_; have HB := n6_; have HO253 := n7_; clear n0_ n1_ n2_ n3_ n4_ n5_ n6_ n7_; clear ho hb hg hat))
             (try simp only [Act.put, sA, sB, sC])
             go_cut [93] (fun v93 wc => ∃ (kq : Nat) (x93_35 : Bool), v93 = .bool x93_35 ∧ Aside0 (ridgewaylaw07_AttrSays.j2 kq t230 t231 ji29 y251 x93_35 a0_0 l0_1 a0_2 a0_3 a2_0 a2_1 l2_2 = some true) ∧ Aside0 (kq ≤ kj18) ∧ Aside0 (Kd.N k24 24 wc w.heap.size (fun k_ => (P2_2_ k_ ∨ w.heap.size ≤ k_) ∧ some k_ ≠ (v252 : Value).ownBlock ∧ k_ ≠ gb228 ∧ k_ ≠ gb229) (.slice Ao25 t231.length co25) t231) ∧ Aside0 (Kd.N k24 24 wc w.heap.size (fun k_ => (P2_2_ k_ ∨ w.heap.size ≤ k_) ∧ k_ ≠ gb228 ∧ k_ ≠ gb229) v252 y251) ∧ Aside0 (Kd.V (Kd.int .u8) 5 wc w.heap.size (fun k_ => (P2_2_ k_ ∨ w.heap.size ≤ k_) ∧ some k_ ≠ ((.slice Ao25 t231.length co25) : Value).ownBlock ∧ some k_ ≠ (v252 : Value).ownBlock ∧ k_ ≠ gb228 ∧ k_ ≠ gb229) (.slice A2_2 l2_2.length c2_2) l2_2) ∧ Aside0 (wc.heap[gb228]? = some (.cells #[.int .i64 a0_0, (.slice A0_1 l0_1.length c0_1), .int .i64 a0_2, .int .i64 a0_3] 27 (0, 0))) ∧ Aside0 (wc.heap[gb229]? = some (.cells #[.int .i64 a2_0, .int .i64 a2_1, (.slice A2_2 l2_2.length c2_2)] 24 (0, 0))) ∧ Aside0 (Below w.heap.size w wc))
             case first =>
              have H := HC36.out
              clear HC36
              by_cases c43 : (Go.bits .and .i64 a2_0 128) = 0
              ·
               rw [if_pos c43] at H
               have c43b0 : ((Go.bits .and .i64 a2_0 128) == 0) = true := beq_iff_eq.mpr c43
               have c43b1 : ((Go.bits .and .i64 a2_0 128) != 0) = false := bne_eq_false_iff_eq.mpr c43
               clear c43
               (first | rw [c43b0] | (simp only [i64_w, i32_w]; rw [c43b0]) | rw [c43b1] | skip)
               by_cases c44 : a2_1 ≥ 5
               ·
                rw [if_pos c44] at H
                have c44b0 : decide (5 ≤ a2_1) = true := decide_eq_true c44
                clear c44
                have H' := Aside0.mk H
                clear H
                have hnb45 := NB229_228.out
                have hnc45 := NB228_229.out
                have hcz46_0 : w42.cell? ⟨gb229, 0, none⟩ = some (.int .i64 a2_0) := (blk_cell BK229.out 0).trans rfl
                have hcz46_1 : w42.cell? ⟨gb229, 1, none⟩ = some (.int .i64 a2_1) := (blk_cell BK229.out 1).trans rfl
                have hcz46_2 : w42.cell? ⟨gb229, 2, none⟩ = some (.slice A2_2 l2_2.length c2_2) := (blk_cell BK229.out 2).trans rfl
                have hfz46_0 := blk_frozen BK229.out 0
                have hfz46_1 := blk_frozen BK229.out 1
                have hfz46_2 := blk_frozen BK229.out 2
                go_wp2
                go_meet
                case rel => exact ⟨_, (decide (a2_1 ≤ 7)), (by first | rfl | (simp; done) | (simp [*]; done)), H', ⟨by have := HJ4.out; have := HJ18.out; first | omega | exact Nat.le_refl _⟩, ⟨by (with_reducible repeat (first | apply Kd.N_alloc | apply Kd.N_drewN | apply Kd.N_drew)); exact Kd.N_mono HO_8.out (fun _ hk => ⟨hk.1.1, ⟨hk.2, ⟨hk.1.2.1, hk.1.2.2⟩⟩⟩)⟩, ⟨by (with_reducible repeat (first | apply Kd.N_alloc | apply Kd.N_drewN | apply Kd.N_drew)); exact HO253.out⟩, ⟨by (with_reducible repeat (first | apply Kd.V_alloc | apply Kd.V_drewN | apply Kd.V_drew)); exact Kd.V_mono HO_230002.out (fun _ hk => ⟨hk.1.1, ⟨hk.1.2.1, ⟨hk.2, ⟨hk.1.2.2.1, hk.1.2.2.2⟩⟩⟩⟩)⟩, ⟨by (with_reducible repeat (first | refine kN ?_ _ | refine kD ?_ | refine kA ?_ _)); exact BK228.out⟩, ⟨by (with_reducible repeat (first | refine kN ?_ _ | refine kD ?_ | refine kA ?_ _)); exact BK229.out⟩, ⟨by repeat (first | (with_reducible first | exact HB.out | apply bA | apply bN | apply bD | refine bS ?_ GE228.out | refine bS ?_ GE229.out) | exact HB.out)⟩⟩
               ·
                rw [if_neg c44] at H
                have c44b0 : decide (5 ≤ a2_1) = false := decide_eq_false c44
                clear c44
                have H' := Aside0.mk H
                clear H
                have hnb47 := NB229_228.out
                have hnc47 := NB228_229.out
                have hcz48_0 : w42.cell? ⟨gb229, 0, none⟩ = some (.int .i64 a2_0) := (blk_cell BK229.out 0).trans rfl
                have hcz48_1 : w42.cell? ⟨gb229, 1, none⟩ = some (.int .i64 a2_1) := (blk_cell BK229.out 1).trans rfl
                have hcz48_2 : w42.cell? ⟨gb229, 2, none⟩ = some (.slice A2_2 l2_2.length c2_2) := (blk_cell BK229.out 2).trans rfl
                have hfz48_0 := blk_frozen BK229.out 0
                have hfz48_1 := blk_frozen BK229.out 1
                have hfz48_2 := blk_frozen BK229.out 2
                go_wp2
                go_meet
                case rel => exact ⟨_, (false), (by first | rfl | (simp; done) | (simp [*]; done)), H', ⟨by have := HJ4.out; have := HJ18.out; first | omega | exact Nat.le_refl _⟩, ⟨by (with_reducible repeat (first | apply Kd.N_alloc | apply Kd.N_drewN | apply Kd.N_drew)); exact Kd.N_mono HO_8.out (fun _ hk => ⟨hk.1.1, ⟨hk.2, ⟨hk.1.2.1, hk.1.2.2⟩⟩⟩)⟩, ⟨by (with_reducible repeat (first | apply Kd.N_alloc | apply Kd.N_drewN | apply Kd.N_drew)); exact HO253.out⟩, ⟨by (with_reducible repeat (first | apply Kd.V_alloc | apply Kd.V_drewN | apply Kd.V_drew)); exact Kd.V_mono HO_230002.out (fun _ hk => ⟨hk.1.1, ⟨hk.1.2.1, ⟨hk.2, ⟨hk.1.2.2.1, hk.1.2.2.2⟩⟩⟩⟩)⟩, ⟨by (with_reducible repeat (first | refine kN ?_ _ | refine kD ?_ | refine kA ?_ _)); exact BK228.out⟩, ⟨by (with_reducible repeat (first | refine kN ?_ _ | refine kD ?_ | refine kA ?_ _)); exact BK229.out⟩, ⟨by repeat (first | (with_reducible first | exact HB.out | apply bA | apply bN | apply bD | refine bS ?_ GE228.out | refine bS ?_ GE229.out) | exact HB.out)⟩⟩
              ·
               rw [if_neg c43] at H
               have c43b0 : ((Go.bits .and .i64 a2_0 128) == 0) = false := beq_eq_false_iff_ne.mpr c43
               have c43b1 : ((Go.bits .and .i64 a2_0 128) != 0) = true := bne_iff_ne.mpr c43
               (first | rw [c43b0] | (simp only [i64_w, i32_w]; rw [c43b0]) | rw [c43b1] | skip)
               by_cases c49 : a2_1 = 4
               ·
                rw [if_pos c49] at H
                have c49b0 : (a2_1 == 4) = true := beq_iff_eq.mpr c49
                have c49b1 : (a2_1 != 4) = false := bne_eq_false_iff_eq.mpr c49
                clear c49
                by_cases c50 : a2_1 ≥ 5
                ·
                 rw [if_pos c50] at H
                 have c50b0 : decide (5 ≤ a2_1) = true := decide_eq_true c50
                 clear c50
                 have H' := Aside0.mk H
                 clear H
                 have hnb51 := NB229_228.out
                 have hnc51 := NB228_229.out
                 have hcz52_0 : w42.cell? ⟨gb229, 0, none⟩ = some (.int .i64 a2_0) := (blk_cell BK229.out 0).trans rfl
                 have hcz52_1 : w42.cell? ⟨gb229, 1, none⟩ = some (.int .i64 a2_1) := (blk_cell BK229.out 1).trans rfl
                 have hcz52_2 : w42.cell? ⟨gb229, 2, none⟩ = some (.slice A2_2 l2_2.length c2_2) := (blk_cell BK229.out 2).trans rfl
                 have hfz52_0 := blk_frozen BK229.out 0
                 have hfz52_1 := blk_frozen BK229.out 1
                 have hfz52_2 := blk_frozen BK229.out 2
                 go_wp2
                 go_meet
                 case rel => exact ⟨_, (decide (a2_1 ≤ 7)), (by first | rfl | (simp; done) | (simp [*]; done)), H', ⟨by have := HJ4.out; have := HJ18.out; first | omega | exact Nat.le_refl _⟩, ⟨by (with_reducible repeat (first | apply Kd.N_alloc | apply Kd.N_drewN | apply Kd.N_drew)); exact Kd.N_mono HO_8.out (fun _ hk => ⟨hk.1.1, ⟨hk.2, ⟨hk.1.2.1, hk.1.2.2⟩⟩⟩)⟩, ⟨by (with_reducible repeat (first | apply Kd.N_alloc | apply Kd.N_drewN | apply Kd.N_drew)); exact HO253.out⟩, ⟨by (with_reducible repeat (first | apply Kd.V_alloc | apply Kd.V_drewN | apply Kd.V_drew)); exact Kd.V_mono HO_230002.out (fun _ hk => ⟨hk.1.1, ⟨hk.1.2.1, ⟨hk.2, ⟨hk.1.2.2.1, hk.1.2.2.2⟩⟩⟩⟩)⟩, ⟨by (with_reducible repeat (first | refine kN ?_ _ | refine kD ?_ | refine kA ?_ _)); exact BK228.out⟩, ⟨by (with_reducible repeat (first | refine kN ?_ _ | refine kD ?_ | refine kA ?_ _)); exact BK229.out⟩, ⟨by repeat (first | (with_reducible first | exact HB.out | apply bA | apply bN | apply bD | refine bS ?_ GE228.out | refine bS ?_ GE229.out) | exact HB.out)⟩⟩
                ·
                 rw [if_neg c50] at H
                 have c50b0 : decide (5 ≤ a2_1) = false := decide_eq_false c50
                 clear c50
                 have H' := Aside0.mk H
                 clear H
                 have hnb53 := NB229_228.out
                 have hnc53 := NB228_229.out
                 have hcz54_0 : w42.cell? ⟨gb229, 0, none⟩ = some (.int .i64 a2_0) := (blk_cell BK229.out 0).trans rfl
                 have hcz54_1 : w42.cell? ⟨gb229, 1, none⟩ = some (.int .i64 a2_1) := (blk_cell BK229.out 1).trans rfl
                 have hcz54_2 : w42.cell? ⟨gb229, 2, none⟩ = some (.slice A2_2 l2_2.length c2_2) := (blk_cell BK229.out 2).trans rfl
                 have hfz54_0 := blk_frozen BK229.out 0
                 have hfz54_1 := blk_frozen BK229.out 1
                 have hfz54_2 := blk_frozen BK229.out 2
                 go_wp2
                 go_meet
                 case rel => exact ⟨_, (false), (by first | rfl | (simp; done) | (simp [*]; done)), H', ⟨by have := HJ4.out; have := HJ18.out; first | omega | exact Nat.le_refl _⟩, ⟨by (with_reducible repeat (first | apply Kd.N_alloc | apply Kd.N_drewN | apply Kd.N_drew)); exact Kd.N_mono HO_8.out (fun _ hk => ⟨hk.1.1, ⟨hk.2, ⟨hk.1.2.1, hk.1.2.2⟩⟩⟩)⟩, ⟨by (with_reducible repeat (first | apply Kd.N_alloc | apply Kd.N_drewN | apply Kd.N_drew)); exact HO253.out⟩, ⟨by (with_reducible repeat (first | apply Kd.V_alloc | apply Kd.V_drewN | apply Kd.V_drew)); exact Kd.V_mono HO_230002.out (fun _ hk => ⟨hk.1.1, ⟨hk.1.2.1, ⟨hk.2, ⟨hk.1.2.2.1, hk.1.2.2.2⟩⟩⟩⟩)⟩, ⟨by (with_reducible repeat (first | refine kN ?_ _ | refine kD ?_ | refine kA ?_ _)); exact BK228.out⟩, ⟨by (with_reducible repeat (first | refine kN ?_ _ | refine kD ?_ | refine kA ?_ _)); exact BK229.out⟩, ⟨by repeat (first | (with_reducible first | exact HB.out | apply bA | apply bN | apply bD | refine bS ?_ GE228.out | refine bS ?_ GE229.out) | exact HB.out)⟩⟩
               ·
                rw [if_neg c49] at H
                have c49b0 : (a2_1 == 4) = false := beq_eq_false_iff_ne.mpr c49
                have c49b1 : (a2_1 != 4) = true := bne_iff_ne.mpr c49
                by_cases c55 : a2_1 = 35
                ·
                 rw [if_pos c55] at H
                 have c55b0 : (a2_1 == 35) = true := beq_iff_eq.mpr c55
                 have c55b1 : (a2_1 != 35) = false := bne_eq_false_iff_eq.mpr c55
                 clear c55
                 by_cases c56 : a2_1 ≥ 5
                 ·
                  rw [if_pos c56] at H
                  have c56b0 : decide (5 ≤ a2_1) = true := decide_eq_true c56
                  clear c56
                  have H' := Aside0.mk H
                  clear H
                  have hnb57 := NB229_228.out
                  have hnc57 := NB228_229.out
                  have hcz58_0 : w42.cell? ⟨gb229, 0, none⟩ = some (.int .i64 a2_0) := (blk_cell BK229.out 0).trans rfl
                  have hcz58_1 : w42.cell? ⟨gb229, 1, none⟩ = some (.int .i64 a2_1) := (blk_cell BK229.out 1).trans rfl
                  have hcz58_2 : w42.cell? ⟨gb229, 2, none⟩ = some (.slice A2_2 l2_2.length c2_2) := (blk_cell BK229.out 2).trans rfl
                  have hfz58_0 := blk_frozen BK229.out 0
                  have hfz58_1 := blk_frozen BK229.out 1
                  have hfz58_2 := blk_frozen BK229.out 2
                  go_wp2
                  go_meet
                  case rel => exact ⟨_, (decide (a2_1 ≤ 7)), (by first | rfl | (simp; done) | (simp [*]; done)), H', ⟨by have := HJ4.out; have := HJ18.out; first | omega | exact Nat.le_refl _⟩, ⟨by (with_reducible repeat (first | apply Kd.N_alloc | apply Kd.N_drewN | apply Kd.N_drew)); exact Kd.N_mono HO_8.out (fun _ hk => ⟨hk.1.1, ⟨hk.2, ⟨hk.1.2.1, hk.1.2.2⟩⟩⟩)⟩, ⟨by (with_reducible repeat (first | apply Kd.N_alloc | apply Kd.N_drewN | apply Kd.N_drew)); exact HO253.out⟩, ⟨by (with_reducible repeat (first | apply Kd.V_alloc | apply Kd.V_drewN | apply Kd.V_drew)); exact Kd.V_mono HO_230002.out (fun _ hk => ⟨hk.1.1, ⟨hk.1.2.1, ⟨hk.2, ⟨hk.1.2.2.1, hk.1.2.2.2⟩⟩⟩⟩)⟩, ⟨by (with_reducible repeat (first | refine kN ?_ _ | refine kD ?_ | refine kA ?_ _)); exact BK228.out⟩, ⟨by (with_reducible repeat (first | refine kN ?_ _ | refine kD ?_ | refine kA ?_ _)); exact BK229.out⟩, ⟨by repeat (first | (with_reducible first | exact HB.out | apply bA | apply bN | apply bD | refine bS ?_ GE228.out | refine bS ?_ GE229.out) | exact HB.out)⟩⟩
                 ·
                  rw [if_neg c56] at H
                  have c56b0 : decide (5 ≤ a2_1) = false := decide_eq_false c56
                  clear c56
                  have H' := Aside0.mk H
                  clear H
                  have hnb59 := NB229_228.out
                  have hnc59 := NB228_229.out
                  have hcz60_0 : w42.cell? ⟨gb229, 0, none⟩ = some (.int .i64 a2_0) := (blk_cell BK229.out 0).trans rfl
                  have hcz60_1 : w42.cell? ⟨gb229, 1, none⟩ = some (.int .i64 a2_1) := (blk_cell BK229.out 1).trans rfl
                  have hcz60_2 : w42.cell? ⟨gb229, 2, none⟩ = some (.slice A2_2 l2_2.length c2_2) := (blk_cell BK229.out 2).trans rfl
                  have hfz60_0 := blk_frozen BK229.out 0
                  have hfz60_1 := blk_frozen BK229.out 1
                  have hfz60_2 := blk_frozen BK229.out 2
                  go_wp2
                  go_meet
                  case rel => exact ⟨_, (false), (by first | rfl | (simp; done) | (simp [*]; done)), H', ⟨by have := HJ4.out; have := HJ18.out; first | omega | exact Nat.le_refl _⟩, ⟨by (with_reducible repeat (first | apply Kd.N_alloc | apply Kd.N_drewN | apply Kd.N_drew)); exact Kd.N_mono HO_8.out (fun _ hk => ⟨hk.1.1, ⟨hk.2, ⟨hk.1.2.1, hk.1.2.2⟩⟩⟩)⟩, ⟨by (with_reducible repeat (first | apply Kd.N_alloc | apply Kd.N_drewN | apply Kd.N_drew)); exact HO253.out⟩, ⟨by (with_reducible repeat (first | apply Kd.V_alloc | apply Kd.V_drewN | apply Kd.V_drew)); exact Kd.V_mono HO_230002.out (fun _ hk => ⟨hk.1.1, ⟨hk.1.2.1, ⟨hk.2, ⟨hk.1.2.2.1, hk.1.2.2.2⟩⟩⟩⟩)⟩, ⟨by (with_reducible repeat (first | refine kN ?_ _ | refine kD ?_ | refine kA ?_ _)); exact BK228.out⟩, ⟨by (with_reducible repeat (first | refine kN ?_ _ | refine kD ?_ | refine kA ?_ _)); exact BK229.out⟩, ⟨by repeat (first | (with_reducible first | exact HB.out | apply bA | apply bN | apply bD | refine bS ?_ GE228.out | refine bS ?_ GE229.out) | exact HB.out)⟩⟩
                ·
                 rw [if_neg c55] at H
                 have c55b0 : (a2_1 == 35) = false := beq_eq_false_iff_ne.mpr c55
                 have c55b1 : (a2_1 != 35) = true := bne_iff_ne.mpr c55
                 by_cases c61 : a2_1 < 1
                 ·
                  rw [if_pos c61] at H
                  have c61b0 : decide (a2_1 < 1) = true := decide_eq_true c61
                  clear c61
                  have H' := Aside0.mk H
                  clear H
                  have hnb62 := NB229_228.out
                  have hnc62 := NB228_229.out
                  have hcz63_0 : w42.cell? ⟨gb229, 0, none⟩ = some (.int .i64 a2_0) := (blk_cell BK229.out 0).trans rfl
                  have hcz63_1 : w42.cell? ⟨gb229, 1, none⟩ = some (.int .i64 a2_1) := (blk_cell BK229.out 1).trans rfl
                  have hcz63_2 : w42.cell? ⟨gb229, 2, none⟩ = some (.slice A2_2 l2_2.length c2_2) := (blk_cell BK229.out 2).trans rfl
                  have hfz63_0 := blk_frozen BK229.out 0
                  have hfz63_1 := blk_frozen BK229.out 1
                  have hfz63_2 := blk_frozen BK229.out 2
                  go_wp2
                  go_meet
                  case rel => exact ⟨_, (true), (by first | rfl | (simp; done) | (simp [*]; done)), H', ⟨by have := HJ4.out; have := HJ18.out; first | omega | exact Nat.le_refl _⟩, ⟨by (with_reducible repeat (first | apply Kd.N_alloc | apply Kd.N_drewN | apply Kd.N_drew)); exact Kd.N_mono HO_8.out (fun _ hk => ⟨hk.1.1, ⟨hk.2, ⟨hk.1.2.1, hk.1.2.2⟩⟩⟩)⟩, ⟨by (with_reducible repeat (first | apply Kd.N_alloc | apply Kd.N_drewN | apply Kd.N_drew)); exact HO253.out⟩, ⟨by (with_reducible repeat (first | apply Kd.V_alloc | apply Kd.V_drewN | apply Kd.V_drew)); exact Kd.V_mono HO_230002.out (fun _ hk => ⟨hk.1.1, ⟨hk.1.2.1, ⟨hk.2, ⟨hk.1.2.2.1, hk.1.2.2.2⟩⟩⟩⟩)⟩, ⟨by (with_reducible repeat (first | refine kN ?_ _ | refine kD ?_ | refine kA ?_ _)); exact BK228.out⟩, ⟨by (with_reducible repeat (first | refine kN ?_ _ | refine kD ?_ | refine kA ?_ _)); exact BK229.out⟩, ⟨by repeat (first | (with_reducible first | exact HB.out | apply bA | apply bN | apply bD | refine bS ?_ GE228.out | refine bS ?_ GE229.out) | exact HB.out)⟩⟩
                 ·
                  rw [if_neg c61] at H
                  have c61b0 : decide (a2_1 < 1) = false := decide_eq_false c61
                  clear c61
                  by_cases c64 : a2_1 > 3
                  ·
                   rw [if_pos c64] at H
                   have c64b0 : decide (3 < a2_1) = true := decide_eq_true c64
                   clear c64
                   have H' := Aside0.mk H
                   clear H
                   have hnb65 := NB229_228.out
                   have hnc65 := NB228_229.out
                   have hcz66_0 : w42.cell? ⟨gb229, 0, none⟩ = some (.int .i64 a2_0) := (blk_cell BK229.out 0).trans rfl
                   have hcz66_1 : w42.cell? ⟨gb229, 1, none⟩ = some (.int .i64 a2_1) := (blk_cell BK229.out 1).trans rfl
                   have hcz66_2 : w42.cell? ⟨gb229, 2, none⟩ = some (.slice A2_2 l2_2.length c2_2) := (blk_cell BK229.out 2).trans rfl
                   have hfz66_0 := blk_frozen BK229.out 0
                   have hfz66_1 := blk_frozen BK229.out 1
                   have hfz66_2 := blk_frozen BK229.out 2
                   go_wp2
                   go_meet
                   case rel => exact ⟨_, (true), (by first | rfl | (simp; done) | (simp [*]; done)), H', ⟨by have := HJ4.out; have := HJ18.out; first | omega | exact Nat.le_refl _⟩, ⟨by (with_reducible repeat (first | apply Kd.N_alloc | apply Kd.N_drewN | apply Kd.N_drew)); exact Kd.N_mono HO_8.out (fun _ hk => ⟨hk.1.1, ⟨hk.2, ⟨hk.1.2.1, hk.1.2.2⟩⟩⟩)⟩, ⟨by (with_reducible repeat (first | apply Kd.N_alloc | apply Kd.N_drewN | apply Kd.N_drew)); exact HO253.out⟩, ⟨by (with_reducible repeat (first | apply Kd.V_alloc | apply Kd.V_drewN | apply Kd.V_drew)); exact Kd.V_mono HO_230002.out (fun _ hk => ⟨hk.1.1, ⟨hk.1.2.1, ⟨hk.2, ⟨hk.1.2.2.1, hk.1.2.2.2⟩⟩⟩⟩)⟩, ⟨by (with_reducible repeat (first | refine kN ?_ _ | refine kD ?_ | refine kA ?_ _)); exact BK228.out⟩, ⟨by (with_reducible repeat (first | refine kN ?_ _ | refine kD ?_ | refine kA ?_ _)); exact BK229.out⟩, ⟨by repeat (first | (with_reducible first | exact HB.out | apply bA | apply bN | apply bD | refine bS ?_ GE228.out | refine bS ?_ GE229.out) | exact HB.out)⟩⟩
                  ·
                   rw [if_neg c64] at H
                   have c64b0 : decide (3 < a2_1) = false := decide_eq_false c64
                   clear c64
                   by_cases c67 : a2_1 ≥ 5
                   ·
                    rw [if_pos c67] at H
                    have c67b0 : decide (5 ≤ a2_1) = true := decide_eq_true c67
                    clear c67
                    have H' := Aside0.mk H
                    clear H
                    have hnb68 := NB229_228.out
                    have hnc68 := NB228_229.out
                    have hcz69_0 : w42.cell? ⟨gb229, 0, none⟩ = some (.int .i64 a2_0) := (blk_cell BK229.out 0).trans rfl
                    have hcz69_1 : w42.cell? ⟨gb229, 1, none⟩ = some (.int .i64 a2_1) := (blk_cell BK229.out 1).trans rfl
                    have hcz69_2 : w42.cell? ⟨gb229, 2, none⟩ = some (.slice A2_2 l2_2.length c2_2) := (blk_cell BK229.out 2).trans rfl
                    have hfz69_0 := blk_frozen BK229.out 0
                    have hfz69_1 := blk_frozen BK229.out 1
                    have hfz69_2 := blk_frozen BK229.out 2
                    go_wp2
                    go_meet
                    case rel => exact ⟨_, (decide (a2_1 ≤ 7)), (by first | rfl | (simp; done) | (simp [*]; done)), H', ⟨by have := HJ4.out; have := HJ18.out; first | omega | exact Nat.le_refl _⟩, ⟨by (with_reducible repeat (first | apply Kd.N_alloc | apply Kd.N_drewN | apply Kd.N_drew)); exact Kd.N_mono HO_8.out (fun _ hk => ⟨hk.1.1, ⟨hk.2, ⟨hk.1.2.1, hk.1.2.2⟩⟩⟩)⟩, ⟨by (with_reducible repeat (first | apply Kd.N_alloc | apply Kd.N_drewN | apply Kd.N_drew)); exact HO253.out⟩, ⟨by (with_reducible repeat (first | apply Kd.V_alloc | apply Kd.V_drewN | apply Kd.V_drew)); exact Kd.V_mono HO_230002.out (fun _ hk => ⟨hk.1.1, ⟨hk.1.2.1, ⟨hk.2, ⟨hk.1.2.2.1, hk.1.2.2.2⟩⟩⟩⟩)⟩, ⟨by (with_reducible repeat (first | refine kN ?_ _ | refine kD ?_ | refine kA ?_ _)); exact BK228.out⟩, ⟨by (with_reducible repeat (first | refine kN ?_ _ | refine kD ?_ | refine kA ?_ _)); exact BK229.out⟩, ⟨by repeat (first | (with_reducible first | exact HB.out | apply bA | apply bN | apply bD | refine bS ?_ GE228.out | refine bS ?_ GE229.out) | exact HB.out)⟩⟩
                   ·
                    rw [if_neg c67] at H
                    have c67b0 : decide (5 ≤ a2_1) = false := decide_eq_false c67
                    clear c67
                    have H' := Aside0.mk H
                    clear H
                    have hnb70 := NB229_228.out
                    have hnc70 := NB228_229.out
                    have hcz71_0 : w42.cell? ⟨gb229, 0, none⟩ = some (.int .i64 a2_0) := (blk_cell BK229.out 0).trans rfl
                    have hcz71_1 : w42.cell? ⟨gb229, 1, none⟩ = some (.int .i64 a2_1) := (blk_cell BK229.out 1).trans rfl
                    have hcz71_2 : w42.cell? ⟨gb229, 2, none⟩ = some (.slice A2_2 l2_2.length c2_2) := (blk_cell BK229.out 2).trans rfl
                    have hfz71_0 := blk_frozen BK229.out 0
                    have hfz71_1 := blk_frozen BK229.out 1
                    have hfz71_2 := blk_frozen BK229.out 2
                    go_wp2
                    go_meet
                    case rel => exact ⟨_, (false), (by first | rfl | (simp; done) | (simp [*]; done)), H', ⟨by have := HJ4.out; have := HJ18.out; first | omega | exact Nat.le_refl _⟩, ⟨by (with_reducible repeat (first | apply Kd.N_alloc | apply Kd.N_drewN | apply Kd.N_drew)); exact Kd.N_mono HO_8.out (fun _ hk => ⟨hk.1.1, ⟨hk.2, ⟨hk.1.2.1, hk.1.2.2⟩⟩⟩)⟩, ⟨by (with_reducible repeat (first | apply Kd.N_alloc | apply Kd.N_drewN | apply Kd.N_drew)); exact HO253.out⟩, ⟨by (with_reducible repeat (first | apply Kd.V_alloc | apply Kd.V_drewN | apply Kd.V_drew)); exact Kd.V_mono HO_230002.out (fun _ hk => ⟨hk.1.1, ⟨hk.1.2.1, ⟨hk.2, ⟨hk.1.2.2.1, hk.1.2.2.2⟩⟩⟩⟩)⟩, ⟨by (with_reducible repeat (first | refine kN ?_ _ | refine kD ?_ | refine kA ?_ _)); exact BK228.out⟩, ⟨by (with_reducible repeat (first | refine kN ?_ _ | refine kD ?_ | refine kA ?_ _)); exact BK229.out⟩, ⟨by repeat (first | (with_reducible first | exact HB.out | apply bA | apply bN | apply bD | refine bS ?_ GE228.out | refine bS ?_ GE229.out) | exact HB.out)⟩⟩
             case rest =>
              clear HC36
              try clear c1
              try clear c2
              try clear p2
              try clear c3
              try clear q3
              try clear c4
              try clear q4
              try clear c5
              try clear c6
              try clear c7
              try clear c9
              try clear c9b0
              try clear c9b1
              try clear c10
              try clear c12
              try clear c15
              try clear c18
              try clear c20
              try clear c26
              try clear c26b0
              try clear c26b1
              try clear c27
              try clear c28
              try clear c28b0
              try clear c28b1
              try clear c28b2
              try clear c30
              try clear c30b0
              try clear c30b1
              try clear c31
              try clear c31b0
              try clear c31b1
              try clear c32
              try clear c33
              try clear c33b0
              try clear c34
              try clear c34b0
              try clear c35
              try clear c39
              try clear q39
              try clear q41
              try clear c43
              try clear c43b0
              try clear c43b1
              try clear c44
              try clear c44b0
              try clear c45
              try clear c47
              try clear c49
              try clear c49b0
              try clear c49b1
              try clear c50
              try clear c50b0
              try clear c51
              try clear c53
              try clear c55
              try clear c55b0
              try clear c55b1
              try clear c56
              try clear c56b0
              try clear c57
              try clear c59
              try clear c61
              try clear c61b0
              try clear c62
              try clear c64
              try clear c64b0
              try clear c65
              try clear c67
              try clear c67b0
              try clear c68
              try clear c70
              try clear hcz11_0
              try clear hcz11_1
              try clear hcz11_2
              try clear hcz11_3
              try clear hcz13_0
              try clear hcz13_1
              try clear hcz13_2
              try clear hcz13_3
              try clear hcz14_0
              try clear hcz14_1
              try clear hcz14_2
              try clear hcz21_0
              try clear hcz21_1
              try clear hcz21_2
              try clear hcz21_3
              try clear hcz23_0
              try clear hcz23_1
              try clear hcz23_2
              try clear hcz23_3
              try clear hcz46_0
              try clear hcz46_1
              try clear hcz46_2
              try clear hcz48_0
              try clear hcz48_1
              try clear hcz48_2
              try clear hcz52_0
              try clear hcz52_1
              try clear hcz52_2
              try clear hcz54_0
              try clear hcz54_1
              try clear hcz54_2
              try clear hcz58_0
              try clear hcz58_1
              try clear hcz58_2
              try clear hcz60_0
              try clear hcz60_1
              try clear hcz60_2
              try clear hcz63_0
              try clear hcz63_1
              try clear hcz63_2
              try clear hcz66_0
              try clear hcz66_1
              try clear hcz66_2
              try clear hcz69_0
              try clear hcz69_1
              try clear hcz69_2
              try clear hcz71_0
              try clear hcz71_1
              try clear hcz71_2
              try clear hfz11_0
              try clear hfz11_1
              try clear hfz11_2
              try clear hfz11_3
              try clear hfz13_0
              try clear hfz13_1
              try clear hfz13_2
              try clear hfz13_3
              try clear hfz14_0
              try clear hfz14_1
              try clear hfz14_2
              try clear hfz21_0
              try clear hfz21_1
              try clear hfz21_2
              try clear hfz21_3
              try clear hfz23_0
              try clear hfz23_1
              try clear hfz23_2
              try clear hfz23_3
              try clear hfz46_0
              try clear hfz46_1
              try clear hfz46_2
              try clear hfz48_0
              try clear hfz48_1
              try clear hfz48_2
              try clear hfz52_0
              try clear hfz52_1
              try clear hfz52_2
              try clear hfz54_0
              try clear hfz54_1
              try clear hfz54_2
              try clear hfz58_0
              try clear hfz58_1
              try clear hfz58_2
              try clear hfz60_0
              try clear hfz60_1
              try clear hfz60_2
              try clear hfz63_0
              try clear hfz63_1
              try clear hfz63_2
              try clear hfz66_0
              try clear hfz66_1
              try clear hfz66_2
              try clear hfz69_0
              try clear hfz69_1
              try clear hfz69_2
              try clear hfz71_0
              try clear hfz71_1
              try clear hfz71_2
              try clear p2
              try clear q039
              try clear q39
              try clear q41
              obtain ⟨kq, x93_35, rfl, HA, HJ35, HO_8, HO_11, HO_230002, BK228, BK229, HB⟩ := hcut
              cases kq with
              | zero => exact absurd HA.out (by simp [ridgewaylaw07_AttrSays.j2])
              | succ kj35 =>
               have H := HA.out
               clear HA
               simp only [ridgewaylaw07_AttrSays.j2] at H
               by_cases c72 : x93_35 = true
               ·
                subst c72
                have H1 : ((some (([(⟨a2_0, a2_1, l2_2⟩ : S24)] : List (S24)) : List (S24))).bind fun y254 => (if y254.length + y251.length < 3518437208883 then ((some (y254 ++ y251 : List (S24))).bind fun y257 => (if 0 ≤ ji29 then (if ji29 < (t231.length : Int) then (if y257.length < 3518437208883 then ((attr_Judge.f (y257 ++ [(⟨0, (rd_T24 t231 ji29).f1, l2_2⟩ : S24)])).bind fun bt264 => (if t230 = true then (if bt264.2.2.2.2.1 = 0 then (if bt264.2.2.2.2.2.1 = 0 then ((ridgewayref07_SamePath.f kj35 bt264.1 bt264.2.1 bt264.2.2.1 bt264.2.2.2.1 a0_0 l0_1 a0_2 a0_3).bind fun t278 => (some t278)) else (some false)) else (some false)) else (some false))) else (none)) else (none)) else (none))) else (none))) = some true := by rw [if_pos rfl] at H; first | done | exact H
                clear H
                have H := H1
                clear H1
                obtain ⟨y254, hy254⟩ : ∃ y_ : List (S24), y_ = (([(⟨a2_0, a2_1, l2_2⟩ : S24)] : List (S24))) := ⟨_, rfl⟩
                replace H : (if y254.length + y251.length < 3518437208883 then ((some (y254 ++ y251 : List (S24))).bind fun y257 => (if 0 ≤ ji29 then (if ji29 < (t231.length : Int) then (if y257.length < 3518437208883 then ((attr_Judge.f (y257 ++ [(⟨0, (rd_T24 t231 ji29).f1, l2_2⟩ : S24)])).bind fun bt264 => (if t230 = true then (if bt264.2.2.2.2.1 = 0 then (if bt264.2.2.2.2.2.1 = 0 then ((ridgewayref07_SamePath.f kj35 bt264.1 bt264.2.1 bt264.2.2.1 bt264.2.2.2.1 a0_0 l0_1 a0_2 a0_3).bind fun t278 => (some t278)) else (some false)) else (some false)) else (some false))) else (none)) else (none)) else (none))) else (none)) = some true := by first | (rw [hy254]; with_reducible exact H) | (have H2_ := (Option.bind_some _ _).symm.trans H; rw [hy254]; with_reducible exact H2_) | (have H2_ := (Option.bind_some _ _).symm.trans H; with_reducible exact H2_) | with_reducible exact H | (rw [hy254]; exact H) | exact H
                have Ny254 := Aside0.mk hy254
                clear hy254
                by_cases c73 : y254.length + y251.length < 3518437208883
                ·
                 rw [if_pos c73] at H
                 have LMc73 := Aside0.mk c73
                 clear c73
                 obtain ⟨y257, hy257⟩ : ∃ y_ : List (S24), y_ = (y254 ++ y251) := ⟨_, rfl⟩
                 replace H : (if 0 ≤ ji29 then (if ji29 < (t231.length : Int) then (if y257.length < 3518437208883 then ((attr_Judge.f (y257 ++ [(⟨0, (rd_T24 t231 ji29).f1, l2_2⟩ : S24)])).bind fun bt264 => (if t230 = true then (if bt264.2.2.2.2.1 = 0 then (if bt264.2.2.2.2.2.1 = 0 then ((ridgewayref07_SamePath.f kj35 bt264.1 bt264.2.1 bt264.2.2.1 bt264.2.2.2.1 a0_0 l0_1 a0_2 a0_3).bind fun t278 => (some t278)) else (some false)) else (some false)) else (some false))) else (none)) else (none)) else (none)) = some true := by first | (rw [hy257]; with_reducible exact H) | (have H2_ := (Option.bind_some _ _).symm.trans H; rw [hy257]; with_reducible exact H2_) | (have H2_ := (Option.bind_some _ _).symm.trans H; with_reducible exact H2_) | with_reducible exact H | (rw [hy257]; exact H) | exact H
                 have Ny257 := Aside0.mk hy257
                 clear hy257
                 by_cases c74 : 0 ≤ ji29
                 ·
                  rw [if_pos c74] at H
                  have c74b0 : decide (0 ≤ ji29) = true := decide_eq_true c74
                  clear c74
                  by_cases c75 : ji29 < (t231.length : Int)
                  ·
                   rw [if_pos c75] at H
                   have c75b0 : decide (ji29 < (t231.length : Int)) = true := decide_eq_true c75
                   clear c75
                   by_cases c76 : y257.length < 3518437208883
                   ·
                    rw [if_pos c76] at H
                    have LMc76 := Aside0.mk c76
                    clear c76
                    obtain ⟨y261, hy261⟩ : ∃ y_ : List (S24), y_ = (y257 ++ [(⟨0, (rd_T24 t231 ji29).f1, l2_2⟩ : S24)]) := ⟨_, rfl⟩
                    replace H : ((attr_Judge.f y261).bind fun bt264 => (if t230 = true then (if bt264.2.2.2.2.1 = 0 then (if bt264.2.2.2.2.2.1 = 0 then ((ridgewayref07_SamePath.f kj35 bt264.1 bt264.2.1 bt264.2.2.1 bt264.2.2.2.1 a0_0 l0_1 a0_2 a0_3).bind fun t278 => (some t278)) else (some false)) else (some false)) else (some false))) = some true := by first | (rw [hy261]; with_reducible exact H) | (have H2_ := (Option.bind_some _ _).symm.trans H; rw [hy261]; with_reducible exact H2_) | (have H2_ := (Option.bind_some _ _).symm.trans H; with_reducible exact H2_) | with_reducible exact H | (rw [hy261]; exact H) | exact H
                    have Ny261 := Aside0.mk hy261
                    clear hy261
                    replace H := Option.bind_eq_some_iff.mp H
                    obtain ⟨⟨t264, t265, t268, t269, t270, t271, t272, t273⟩, A770, H⟩ := H
                    replace H : (if t230 = true then (if t270 = 0 then (if t271 = 0 then ((ridgewayref07_SamePath.f kj35 t264 t265 t268 t269 a0_0 l0_1 a0_2 a0_3).bind fun t278 => (some t278)) else (some false)) else (some false)) else (some false)) = some true := H
                    have A77 := Aside0.mk A770
                    clear A770
                    by_cases c78 : t230 = true
                    ·
                     subst c78
                     have H1 : (if t270 = 0 then (if t271 = 0 then ((ridgewayref07_SamePath.f kj35 t264 t265 t268 t269 a0_0 l0_1 a0_2 a0_3).bind fun t278 => (some t278)) else (some false)) else (some false)) = some true := by rw [if_pos rfl] at H; first | done | exact H
                     clear H
                     have H := H1
                     clear H1
                     by_cases c79 : t270 = 0
                     ·
                      rw [if_pos c79] at H
                      have c79b0 : (t270 == 0) = true := beq_iff_eq.mpr c79
                      have c79b1 : (t270 != 0) = false := bne_eq_false_iff_eq.mpr c79
                      clear c79
                      by_cases c80 : t271 = 0
                      ·
                       rw [if_pos c80] at H
                       have c80b0 : (t271 == 0) = true := beq_iff_eq.mpr c80
                       have c80b1 : (t271 != 0) = false := bne_eq_false_iff_eq.mpr c80
                       clear c80
                       replace H := Option.bind_eq_some_iff.mp H
                       obtain ⟨t278, A810, H⟩ := H
                       replace H : (some t278) = some true := H
                       have A81 := Aside0.mk A810
                       clear A810
                       have HRL_ := Aside0.mk (Option.some.inj H)
                       clear H
                       have hnb82 := NB229_228.out
                       have hnc82 := NB228_229.out
                       have hcz83_0 : wc.cell? ⟨gb229, 0, none⟩ = some (.int .i64 a2_0) := (blk_cell BK229.out 0).trans rfl
                       have hcz83_1 : wc.cell? ⟨gb229, 1, none⟩ = some (.int .i64 a2_1) := (blk_cell BK229.out 1).trans rfl
                       have hcz83_2 : wc.cell? ⟨gb229, 2, none⟩ = some (.slice A2_2 l2_2.length c2_2) := (blk_cell BK229.out 2).trans rfl
                       have hfz83_0 := blk_frozen BK229.out 0
                       have hfz83_1 := blk_frozen BK229.out 1
                       have hfz83_2 := blk_frozen BK229.out 2
                       try go_wp2_with (first | ((with_reducible refine gate_dst (N := 95) rfl ?_); (try (refine gate_guard (by rfl) ?_; dsimp only)); refine Kd.N_lit k24 _ 24 ?hg (N' := 95) ?hd (xs := ([(⟨a2_0, a2_1, l2_2⟩ : S24)] : List (S24))) (inner := [.int .i64 a2_0, .int .i64 a2_1, .slice A2_2 l2_2.length c2_2]) (ok := (fun k_ => (P2_2_ k_ ∨ w.heap.size ≤ k_) ∧ some k_ ≠ (.slice Ao25 t231.length co25 : Value).ownBlock ∧ some k_ ≠ (v252 : Value).ownBlock ∧ k_ ≠ gb228 ∧ k_ ≠ gb229)) (okp := (fun k_ => (P2_2_ k_ ∨ w.heap.size ≤ k_) ∧ some k_ ≠ (.slice Ao25 t231.length co25 : Value).ownBlock ∧ some k_ ≠ (v252 : Value).ownBlock ∧ k_ ≠ gb228 ∧ k_ ≠ gb229)) ?hr ?hp (fun _ hk => hk) ((show ∀ k_, wc.heap.size ≤ k_ → (fun k_ => (P2_2_ k_ ∨ w.heap.size ≤ k_) ∧ some k_ ≠ (.slice Ao25 t231.length co25 : Value).ownBlock ∧ some k_ ≠ (v252 : Value).ownBlock ∧ k_ ≠ gb228 ∧ k_ ≠ gb229) k_ from fun k_ hk => ⟨(.inr (Nat.le_trans (below_size (by repeat (first | (with_reducible first | exact HB.out | apply bA | apply bN | apply bD | refine bS ?_ GE228.out | refine bS ?_ GE229.out) | exact HB.out))) hk)), Kd.fresh' (Kd.N_lt (by (with_reducible repeat (first | apply Kd.N_alloc | apply Kd.N_drewN | apply Kd.N_drew)); exact HO_8.out)) k_ hk, Kd.fresh' (Kd.N_lt (by (with_reducible repeat (first | apply Kd.N_alloc | apply Kd.N_drewN | apply Kd.N_drew)); exact HO_11.out)) k_ hk, Kd.freshB (g := gb228) (o := .cells #[.int .i64 a0_0, .slice A0_1 l0_1.length c0_1, .int .i64 a0_2, .int .i64 a0_3] 27 (0, 0)) (by (with_reducible repeat (first | refine kN ?_ _ | refine kD ?_ | refine kA ?_ _)); exact BK228.out) k_ hk, Kd.freshB (g := gb229) (o := .cells #[.int .i64 a2_0, .int .i64 a2_1, .slice A2_2 l2_2.length c2_2] 24 (0, 0)) (by (with_reducible repeat (first | refine kN ?_ _ | refine kD ?_ | refine kA ?_ _)); exact BK229.out) k_ hk⟩) _ (Nat.le_refl _)) (Below.refl _ _) (Nat.le_refl _) (by simp) ?_; (case hd => rfl); (case hg => rfl); (case hr => first | (go_simp; done) | (go_simp; rfl)); (case hp => exact (Reps.c3 (show Kd.FK k24 _ _ (⟨a2_0, a2_1, l2_2⟩ : S24) [.int .i64 a2_0, .int .i64 a2_1, .slice A2_2 l2_2.length c2_2] from (k24_mkF _ _ (⟨a2_0, a2_1, l2_2⟩ : S24) (Kd.V_reads' (Kd.V_mono (ok' := (fun k_ => (P2_2_ k_ ∨ w.heap.size ≤ k_) ∧ some k_ ≠ (.slice Ao25 t231.length co25 : Value).ownBlock ∧ some k_ ≠ (v252 : Value).ownBlock ∧ k_ ≠ gb228 ∧ k_ ≠ gb229)) (HO_230002.out) (fun k_ hk => ⟨hk.1, ⟨hk.2.1, ⟨hk.2.2.1, ⟨hk.2.2.2.1, hk.2.2.2.2⟩⟩⟩⟩))).2.1 (Kd.V_F (Kd.V_mono (ok' := (fun k_ => (P2_2_ k_ ∨ w.heap.size ≤ k_) ∧ some k_ ≠ (.slice Ao25 t231.length co25 : Value).ownBlock ∧ some k_ ≠ (v252 : Value).ownBlock ∧ k_ ≠ gb228 ∧ k_ ≠ gb229)) (HO_230002.out) (fun k_ hk => ⟨hk.1, ⟨hk.2.1, ⟨hk.2.2.1, ⟨hk.2.2.2.1, hk.2.2.2.2⟩⟩⟩⟩))))) (Reps.none _ _))); intro v255 w84 ho85 hb hg_ hnew_; clear hg_ hnew_; (first | rw [← Ny254.out] at ho85 | (simp only [Int.reduceToNat] at ho85; rw [← Ny254.out] at ho85)); have n0_ := Aside0.mk (Kd.N_elder' (by (with_reducible repeat (first | apply Kd.N_alloc | apply Kd.N_drewN | apply Kd.N_drew)); exact HO_8.out) (Kd.N_base ho85) hb); have n1_ := Aside0.mk (Kd.N_elder' (by (with_reducible repeat (first | apply Kd.N_alloc | apply Kd.N_drewN | apply Kd.N_drew)); exact HO_11.out) (Kd.N_base ho85) hb); have n2_ := Aside0.mk (Kd.V_elder' (by (with_reducible repeat (first | apply Kd.V_alloc | apply Kd.V_drewN | apply Kd.V_drew)); exact HO_230002.out) (Kd.N_base ho85) hb); have n3_ := Aside0.mk (Kd.N_lower ho85 (below_size (by repeat (first | (with_reducible first | exact HB.out | apply bA | apply bN | apply bD | refine bS ?_ GE228.out | refine bS ?_ GE229.out) | exact HB.out)))); have n4_ := Aside0.mk (blk_below (g := gb228) (o := .cells #[.int .i64 a0_0, .slice A0_1 l0_1.length c0_1, .int .i64 a0_2, .int .i64 a0_3] 27 (0, 0)) (by (with_reducible repeat (first | refine kN ?_ _ | refine kD ?_ | refine kA ?_ _)); exact BK228.out) hb); have n5_ := Aside0.mk (blk_below (g := gb229) (o := .cells #[.int .i64 a2_0, .int .i64 a2_1, .slice A2_2 l2_2.length c2_2] 24 (0, 0)) (by (with_reducible repeat (first | refine kN ?_ _ | refine kD ?_ | refine kA ?_ _)); exact BK229.out) hb); have n6_ := Aside0.mk (below_step (by repeat (first | (with_reducible first | exact HB.out | apply bA | apply bN | apply bD | refine bS ?_ GE228.out | refine bS ?_ GE229.out) | exact HB.out)) hb); clear HO_8; clear HO_11; clear HO_230002; clear BK228; clear BK229; clear HB; have HO_8 := n0_; have HO_11 := n1_; have HO_230002 := n2_; have HO256 := n3_; have BK228 := n4_; have BK229 := n5_; have HB := n6_; clear n0_ n1_ n2_ n3_ n4_ n5_ n6_; clear hb ho85; obtain ⟨Ao87, co87, eo87⟩ := Kd.N_slice HO_11.out; subst eo87) | ((with_reducible refine gate_builtin (b := .append) (xs := #[.tmp 95, .tmp 96]) rfl ?_); (try (refine gate_guard (by rfl) ?_; dsimp only)); at_builtin; refine Kd.N_append_rows k24 (w0 := w) w.heap.size rfl (.tmp 95) (.tmp 96) 31 24 (.agg #[(.int .i64 0), (.int .i64 0), (.slice none 0 0)]) 40 rfl Try.underlying31 info24 rfl (by decide) (by omega) v255 y254 y251 _ _ _ (fun k_ => (P2_2_ k_ ∨ w.heap.size ≤ k_) ∧ k_ ≠ gb228 ∧ k_ ≠ gb229) (fun k_ => ((fun k_ => (P2_2_ k_ ∨ w.heap.size ≤ k_) ∧ k_ ≠ gb228 ∧ k_ ≠ gb229)) k_ ∧ some k_ ≠ (v255 : Value).ownBlock) rfl rfl ?aO ?aR (fun _ hk => hk) ?aF ?aB ?aS ?aL ?_; (case aR => exact (by skip; exact Kd.N_F (Kd.N_mono (ok' := (fun k_ => ((fun k_ => (P2_2_ k_ ∨ w.heap.size ≤ k_) ∧ k_ ≠ gb228 ∧ k_ ≠ gb229)) k_ ∧ some k_ ≠ (v255 : Value).ownBlock)) (HO_11.out) (fun k_ hk => ⟨⟨hk.1.1, ⟨hk.1.2.1, hk.1.2.2⟩⟩, hk.2⟩)))); (case aB => exact (by repeat (first | (with_reducible first | exact HB.out | apply bA | apply bN | apply bD | refine bS ?_ GE228.out | refine bS ?_ GE229.out) | exact HB.out))); (case aF => exact (fun k_ hk => ⟨(.inr (Nat.le_trans (below_size (by repeat (first | (with_reducible first | exact HB.out | apply bA | apply bN | apply bD | refine bS ?_ GE228.out | refine bS ?_ GE229.out) | exact HB.out))) hk)), Kd.freshB (g := gb228) (o := .cells #[.int .i64 a0_0, .slice A0_1 l0_1.length c0_1, .int .i64 a0_2, .int .i64 a0_3] 27 (0, 0)) (by (with_reducible repeat (first | refine kN ?_ _ | refine kD ?_ | refine kA ?_ _)); exact BK228.out) k_ hk, Kd.freshB (g := gb229) (o := .cells #[.int .i64 a2_0, .int .i64 a2_1, .slice A2_2 l2_2.length c2_2] 24 (0, 0)) (by (with_reducible repeat (first | refine kN ?_ _ | refine kD ?_ | refine kA ?_ _)); exact BK229.out) k_ hk⟩)); (case aO => exact (by (with_reducible repeat (first | apply Kd.N_alloc | apply Kd.N_drewN | apply Kd.N_drew)); exact Kd.N_mono HO256.out (fun _ hk => ⟨hk.1, ⟨hk.2.2.2.1, hk.2.2.2.2⟩⟩))); (case aS => exact (below_size (by repeat (first | (with_reducible first | exact HB.out | apply bA | apply bN | apply bD | refine bS ?_ GE228.out | refine bS ?_ GE229.out) | exact HB.out)))); (case aL => have := LMc73.out; omega); intro v258 w86 ho hb hg hat; rw [← Ny257.out] at ho; have n0_ := Aside0.mk (Kd.N_afterv (ok := (fun k_ => (P2_2_ k_ ∨ w.heap.size ≤ k_) ∧ some k_ ≠ (.slice Ao87 y251.length co87 : Value).ownBlock ∧ k_ ≠ gb228 ∧ k_ ≠ gb229)) (by (with_reducible repeat (first | apply Kd.N_alloc | apply Kd.N_drewN | apply Kd.N_drew)); exact HO_8.out) hg hat); have n1_ := Aside0.mk (Kd.N_afterv (ok := (fun k_ => (P2_2_ k_ ∨ w.heap.size ≤ k_) ∧ k_ ≠ gb228 ∧ k_ ≠ gb229)) (by (with_reducible repeat (first | apply Kd.N_alloc | apply Kd.N_drewN | apply Kd.N_drew)); exact HO_11.out) hg hat); have n2_ := Aside0.mk (Kd.V_afterv (ok := (fun k_ => (P2_2_ k_ ∨ w.heap.size ≤ k_) ∧ some k_ ≠ (.slice Ao25 t231.length co25 : Value).ownBlock ∧ some k_ ≠ (.slice Ao87 y251.length co87 : Value).ownBlock ∧ k_ ≠ gb228 ∧ k_ ≠ gb229)) (by (with_reducible repeat (first | apply Kd.V_alloc | apply Kd.V_drewN | apply Kd.V_drew)); exact HO_230002.out) hg hat); have n3_ := Aside0.mk (blk_grown (g := gb228) (o := .cells #[.int .i64 a0_0, .slice A0_1 l0_1.length c0_1, .int .i64 a0_2, .int .i64 a0_3] 27 (0, 0)) (by (with_reducible repeat (first | refine kN ?_ _ | refine kD ?_ | refine kA ?_ _)); exact BK228.out) hg (Kd.N_ne HO256.out BK228.out (by decide))); have n4_ := Aside0.mk (blk_grown (g := gb229) (o := .cells #[.int .i64 a2_0, .int .i64 a2_1, .slice A2_2 l2_2.length c2_2] 24 (0, 0)) (by (with_reducible repeat (first | refine kN ?_ _ | refine kD ?_ | refine kA ?_ _)); exact BK229.out) hg (Kd.N_away HO256.out (fun _ hk => hk.2.2.2.2))); have n5_ := Aside0.mk (hb); have n6_ := Aside0.mk (ho); clear HO_8; clear HO_11; clear HO_230002; clear BK228; clear BK229; clear HB; clear HO256; have HO_8 := n0_; have HO_11 := n1_; have HO_230002 := n2_; have BK228 := n3_; have BK229 := n4_; have HB := n5_; have HO259 := n6_; clear n0_ n1_ n2_ n3_ n4_ n5_ n6_; clear ho hb hg hat))
                       have n0_ := Aside0.mk (Kd.N_drew HO_8.out)
                       have n1_ := Aside0.mk (Kd.N_drew HO_11.out)
                       have n2_ := Aside0.mk (Kd.V_drew HO_230002.out)
                       have n3_ := Aside0.mk (Kd.N_drew HO259.out)
                       have n4_ := Aside0.mk (blk_drew BK228.out)
                       have n5_ := Aside0.mk (blk_drew BK229.out)
                       have n6_ := Aside0.mk (below_drew1 HB.out)
                       clear HO_8
                       clear HO_11
                       clear HO_230002
                       clear HO259
                       clear BK228
                       clear BK229
                       clear HB
                       have HO_8 := n0_
                       have HO_11 := n1_
                       have HO_230002 := n2_
                       have HO259 := n3_
                       have BK228 := n4_
                       have BK229 := n5_
                       have HB := n6_
                       clear n0_ n1_ n2_ n3_ n4_ n5_ n6_
                       have p260 : 0 ≤ (ji29 : Int) := of_decide_eq_true (by first | (with_reducible assumption) | assumption)
                       have q260 : ji29 < (t231.length : Int) := of_decide_eq_true (by first | (with_reducible assumption) | assumption)
                       obtain ⟨ad260, A260_2, c260_2, e260, hx260_0, hx260_1, hx260_2, hl260_2, hi260_2⟩ := at_T24 (Kd.N_reads' HO_8.out).2.2 ji29 p260 q260
                       cases e260
                       obtain ⟨ce260, hce260, hMe260, hcc260⟩ := Kd.N_get HO_8.out z24 ji29 p260 (by first | exact q260 | exact of_decide_eq_true (by first | (with_reducible assumption) | assumption) | (have e_ := (Kd.N_reads' HO_8.out).1; omega))
                       obtain ⟨ua260_2, uc260_2, rfl, ul260_2, ge260_2⟩ := k24_openF hMe260
                       have hv260_2 := hcc260 2 _ rfl
                       rw [add_field _ _ 2 (by omega)] at hv260_2
                       replace hv260_2 := Option.some.inj (hv260_2.symm.trans hx260_2)
                       injection hv260_2 with hva_ hvn_ hvc_
                       rw [hva_] at ge260_2
                       rw [hvc_] at ul260_2
                       have HL260_2 := Aside0.mk (show Kd.V (Kd.int .u8) 5 _ w.heap.size _ _ ((rd_T24 t231 ji29).f2) from Kd.V_mk ul260_2 ge260_2)
                       clear hva_ hvn_ hvc_ ge260_2 ul260_2
                       clear hcc260 hce260
                       have HR260_2 := Aside0.mk hi260_2
                       have HC260_2 := Aside0.mk hl260_2
                       clear hi260_2 hl260_2
                       replace p260 := eq_true p260
                       replace q260 := eq_true q260
                       refine start_ (n := 12) (S := fun w' => w'.cell? ⟨gb229, 0, none⟩ = some (.int .i64 a2_0) ∧ w'.cell? ⟨gb229, 1, none⟩ = some (.int .i64 a2_1) ∧ w'.cell? ⟨gb229, 2, none⟩ = some (.slice A2_2 l2_2.length c2_2) ∧ w'.cell? (ad260.add ((ji29).toNat * 3)) = some (.int .i64 ((rd_T24 t231 ji29).f0)) ∧ w'.cell? ⟨(ad260.add ((ji29).toNat * 3)).block, (ad260.add ((ji29).toNat * 3)).off + 1, none⟩ = some (.int .i64 ((rd_T24 t231 ji29).f1)) ∧ w'.cell? ⟨(ad260.add ((ji29).toNat * 3)).block, (ad260.add ((ji29).toNat * 3)).off + 2, none⟩ = some (.slice A260_2 ((rd_T24 t231 ji29).f2).length c260_2)) (ds := [9, 10]) #[false, false, false, false, false, false, false, false, false, false, false, false] (by kernel_rfl) rfl rfl ⟨(blk_cell BK229.out 0).trans rfl, (blk_cell BK229.out 1).trans rfl, (blk_cell BK229.out 2).trans rfl, hx260_0, hx260_1, hx260_2⟩ (fun hHeld => ?_); refine with_tabW ridgewaylaw07_AttrSays.tab15 ridgewaylaw07_AttrSays.bits15 (fun HT_ HW_ => ?_)
                       generalize w86.drew = w88 at HO_8 HO_11 HO_230002 HO259 BK228 BK229 HB HL260_2 HR260_2 hx260_0 hx260_1 hx260_2 hHeld ⊢
                       refine pure_ (i := 0) (N := some 98) (v := ?_) (a' := ?_) #[true, false, false, false, false, false, false, false, false, false, false, false] rfl rfl (any_of HT_.out (by kernel_rfl)) (fun _ _ _ h => h) (Or.inl ⟨by rfl, ?_⟩) ?_ ?_
                       rotate_left
                       ·
                        intro w'
                        go_simp
                        with_reducible rfl
                       rotate_left
                       ·
                        simp only [Act.put, sA, sB, sC, i64_w, i32_w]
                        rfl
                       refine pure_ (i := 1) (N := some 99) (v := ?_) (a' := ?_) #[true, true, false, false, false, false, false, false, false, false, false, false] rfl rfl (any_of HT_.out (by kernel_rfl)) (fun _ _ _ h => h) (Or.inl ⟨by rfl, ?_⟩) ?_ ?_
                       rotate_left
                       ·
                        intro w'
                        go_simp
                        with_reducible rfl
                       rotate_left
                       ·
                        simp only [Act.put, sA, sB, sC, i64_w, i32_w]
                        rfl
                       refine pure_ (i := 2) (N := some 100) (v := ?_) (a' := ?_) #[true, true, true, false, false, false, false, false, false, false, false, false] rfl rfl (any_of HT_.out (by kernel_rfl)) (fun _ _ _ h => h) (Or.inl ⟨by rfl, ?_⟩) ?_ ?_
                       rotate_left
                       ·
                        intro w'
                        go_simp
                        with_reducible rfl
                       rotate_left
                       ·
                        simp only [Act.put, sA, sB, sC, i64_w, i32_w]
                        rfl
                       refine pure_ (i := 3) (N := some 101) (v := ?_) (a' := ?_) #[true, true, true, true, false, false, false, false, false, false, false, false] rfl rfl (any_of HT_.out (by kernel_rfl)) (fun _ _ _ h => h) (Or.inl ⟨by rfl, ?_⟩) ?_ ?_
                       rotate_left
                       ·
                        intro w'
                        go_simp
                        with_reducible rfl
                       rotate_left
                       ·
                        simp only [Act.put, sA, sB, sC, i64_w, i32_w]
                        rfl
                       refine pure_ (i := 4) (N := some 102) (v := ?_) (a' := ?_) #[true, true, true, true, true, false, false, false, false, false, false, false] rfl rfl (any_of HT_.out (by kernel_rfl)) (fun _ _ _ h => h) (Or.inl ⟨by rfl, ?_⟩) ?_ ?_
                       rotate_left
                       ·
                        intro w'
                        go_simp
                        with_reducible rfl
                       rotate_left
                       ·
                        simp only [Act.put, sA, sB, sC, i64_w, i32_w]
                        rfl
                       refine pure_ (i := 6) (N := some 104) (v := ?_) (a' := ?_) #[true, true, true, true, true, false, true, false, false, false, false, false] rfl rfl (any_of HT_.out (by kernel_rfl)) (fun _ _ _ h => h) (Or.inl ⟨by rfl, ?_⟩) ?_ ?_
                       rotate_left
                       ·
                        intro w'
                        go_simp
                        with_reducible rfl
                       rotate_left
                       ·
                        simp only [Act.put, sA, sB, sC, i64_w, i32_w]
                        rfl
                       refine take_ (i := 5) (N := some 103) (v := ?_) (a' := ?_) #[true, true, true, true, true, true, true, false, false, false, false, false] rfl rfl (take_ofW HT_.out HW_.out (by kernel_rfl)) (fun _ _ _ h => h) (Or.inl ⟨by rfl, ?_⟩) hHeld ?_ ?_
                       rotate_left
                       ·
                        rintro w' ⟨s0, s1, s2, s3, s4, s5⟩
                        go_simp
                        with_reducible rfl
                       rotate_left
                       ·
                        simp only [Act.put, sA, sB, sC, i64_w, i32_w]
                        rfl
                       refine take_ (i := 7) (N := some 105) (v := ?_) (a' := ?_) #[true, true, true, true, true, true, true, true, false, false, false, false] rfl rfl (take_ofW HT_.out HW_.out (by kernel_rfl)) (fun _ _ _ h => h) (Or.inl ⟨by rfl, ?_⟩) hHeld ?_ ?_
                       rotate_left
                       ·
                        rintro w' ⟨s0, s1, s2, s3, s4, s5⟩
                        go_simp
                        with_reducible rfl
                       rotate_left
                       ·
                        simp only [Act.put, sA, sB, sC, i64_w, i32_w]
                        rfl
                       refine pure_ (i := 8) (N := some 106) (v := ?_) (a' := ?_) #[true, true, true, true, true, true, true, true, true, false, false, false] rfl rfl (any_of HT_.out (by kernel_rfl)) (fun _ _ _ h => h) (Or.inl ⟨by rfl, ?_⟩) ?_ ?_
                       rotate_left
                       ·
                        intro w'
                        go_simp
                        with_reducible rfl
                       rotate_left
                       ·
                        simp only [Act.put, sA, sB, sC, i64_w, i32_w]
                        rfl
                       refine last_ (i := 9) (N := some 107) #[true, true, true, true, true, true, true, true, true, true, false, false] rfl rfl (one_of HT_.out (by kernel_rfl)) (by decide) (fun K hK => ?_)
                       refine value_ (w1 := ?_) (v := ?_) (by rfl) rfl ?_ ?_
                       rotate_left 2
                       ·
                        go_simp
                        constructor
                        ·
                         rfl
                        ·
                         rfl
                       refine hK.out _ _ ?_
                       clear hK K
                       refine norm_ (a' := ?_) ?_ ?_
                       rotate_left
                       ·
                        show Act.put _ (some 107) _ = _
                        simp only [Act.put, sA, sB, sC, i64_w, i32_w]
                        rfl
                       refine last_ (i := 10) (N := some 108) #[true, true, true, true, true, true, true, true, true, true, true, false] rfl rfl (one_of HT_.out (by kernel_rfl)) (by decide) (fun K hK => ?_)
                       refine Kd.N_append_step k24 (w0 := w) w.heap.size (by rfl) (.tmp 98) (.tmp 107) 31 24 (.agg #[(.int .i64 0), (.int .i64 0), (.slice none 0 0)]) 40 rfl Try.underlying31 info24 rfl (by decide) (by omega) v258 y257 (⟨0, (rd_T24 t231 ji29).f1, l2_2⟩ : S24) [.int .i64 0, .int .i64 ((rd_T24 t231 ji29).f1), .slice A2_2 l2_2.length c2_2] (fun k_ => (P2_2_ k_ ∨ w.heap.size ≤ k_) ∧ k_ ≠ gb228 ∧ k_ ≠ gb229) (fun k_ => ((fun k_ => (P2_2_ k_ ∨ w.heap.size ≤ k_) ∧ k_ ≠ gb228 ∧ k_ ≠ gb229)) k_ ∧ some k_ ≠ (v258 : Value).ownBlock) rfl rfl ?aP (fun _ hk => hk) ?aF ?aO ?aB ?aS ?aL ?_
                       (case aP => exact (k24_mkF _ _ (⟨0, (rd_T24 t231 ji29).f1, l2_2⟩ : S24) (Kd.V_reads' (Kd.V_mono (ok' := (fun k_ => ((fun k_ => (P2_2_ k_ ∨ w.heap.size ≤ k_) ∧ k_ ≠ gb228 ∧ k_ ≠ gb229)) k_ ∧ some k_ ≠ (v258 : Value).ownBlock)) (HO_230002.out) (fun k_ hk => ⟨⟨hk.1.1, ⟨hk.1.2.2.2.1, hk.1.2.2.2.2⟩⟩, hk.2⟩))).2.1 (Kd.V_F (Kd.V_mono (ok' := (fun k_ => ((fun k_ => (P2_2_ k_ ∨ w.heap.size ≤ k_) ∧ k_ ≠ gb228 ∧ k_ ≠ gb229)) k_ ∧ some k_ ≠ (v258 : Value).ownBlock)) (HO_230002.out) (fun k_ hk => ⟨⟨hk.1.1, ⟨hk.1.2.2.2.1, hk.1.2.2.2.2⟩⟩, hk.2⟩)))))
                       (case aB => exact (by repeat (first | (with_reducible first | exact HB.out | apply bA | apply bN | apply bD | refine bS ?_ GE228.out | refine bS ?_ GE229.out) | exact HB.out)))
                       (case aF => exact (fun k_ hk => ⟨(.inr (Nat.le_trans (below_size (by repeat (first | (with_reducible first | exact HB.out | apply bA | apply bN | apply bD | refine bS ?_ GE228.out | refine bS ?_ GE229.out) | exact HB.out))) hk)), Kd.freshB (g := gb228) (o := .cells #[.int .i64 a0_0, .slice A0_1 l0_1.length c0_1, .int .i64 a0_2, .int .i64 a0_3] 27 (0, 0)) (by (with_reducible repeat (first | refine kN ?_ _ | refine kD ?_ | refine kA ?_ _)); exact BK228.out) k_ hk, Kd.freshB (g := gb229) (o := .cells #[.int .i64 a2_0, .int .i64 a2_1, .slice A2_2 l2_2.length c2_2] 24 (0, 0)) (by (with_reducible repeat (first | refine kN ?_ _ | refine kD ?_ | refine kA ?_ _)); exact BK229.out) k_ hk⟩))
                       (case aO => exact (by (with_reducible repeat (first | apply Kd.N_alloc | apply Kd.N_drewN | apply Kd.N_drew)); exact HO259.out))
                       (case aS => exact (below_size (by repeat (first | (with_reducible first | exact HB.out | apply bA | apply bN | apply bD | refine bS ?_ GE228.out | refine bS ?_ GE229.out) | exact HB.out))))
                       (case aL => have := LMc76.out; omega)
                       intro v262 w89 ho hb hg hat
                       rw [← Ny261.out] at ho
                       have n0_ := Aside0.mk (Kd.N_afterv (ok := (fun k_ => (P2_2_ k_ ∨ w.heap.size ≤ k_) ∧ some k_ ≠ (.slice Ao87 y251.length co87 : Value).ownBlock ∧ k_ ≠ gb228 ∧ k_ ≠ gb229)) (by (with_reducible repeat (first | apply Kd.N_alloc | apply Kd.N_drewN | apply Kd.N_drew)); exact HO_8.out) hg hat)
                       have n1_ := Aside0.mk (Kd.N_afterv (ok := (fun k_ => (P2_2_ k_ ∨ w.heap.size ≤ k_) ∧ k_ ≠ gb228 ∧ k_ ≠ gb229)) (by (with_reducible repeat (first | apply Kd.N_alloc | apply Kd.N_drewN | apply Kd.N_drew)); exact HO_11.out) hg hat)
                       have n2_ := Aside0.mk (Kd.V_afterv (ok := (fun k_ => (P2_2_ k_ ∨ w.heap.size ≤ k_) ∧ some k_ ≠ (.slice (some ad260) t231.length co25 : Value).ownBlock ∧ some k_ ≠ (.slice Ao87 y251.length co87 : Value).ownBlock ∧ k_ ≠ gb228 ∧ k_ ≠ gb229)) (by (with_reducible repeat (first | apply Kd.V_alloc | apply Kd.V_drewN | apply Kd.V_drew)); exact HO_230002.out) hg hat)
                       have n3_ := Aside0.mk (blk_grown (g := gb228) (o := .cells #[.int .i64 a0_0, .slice A0_1 l0_1.length c0_1, .int .i64 a0_2, .int .i64 a0_3] 27 (0, 0)) (by (with_reducible repeat (first | refine kN ?_ _ | refine kD ?_ | refine kA ?_ _)); exact BK228.out) hg (Kd.N_ne HO259.out BK228.out (by decide)))
                       have n4_ := Aside0.mk (blk_grown (g := gb229) (o := .cells #[.int .i64 a2_0, .int .i64 a2_1, .slice A2_2 l2_2.length c2_2] 24 (0, 0)) (by (with_reducible repeat (first | refine kN ?_ _ | refine kD ?_ | refine kA ?_ _)); exact BK229.out) hg (Kd.N_away HO259.out (fun _ hk => hk.2.2)))
                       have n5_ := Aside0.mk (Kd.V_afterv (ok := (fun k_ => (P2_2_ k_ ∨ w.heap.size ≤ k_) ∧ some k_ ≠ (.slice (some ad260) t231.length co25 : Value).ownBlock ∧ some k_ ≠ (.slice Ao87 y251.length co87 : Value).ownBlock ∧ k_ ≠ gb228 ∧ k_ ≠ gb229)) (by (with_reducible repeat (first | apply Kd.V_alloc | apply Kd.V_drewN | apply Kd.V_drew)); exact Kd.V_mono HL260_2.out (fun _ hk => ⟨⟨hk.1.1.1, ⟨hk.2, ⟨hk.1.1.2.1, ⟨hk.1.1.2.2.1, hk.1.1.2.2.2⟩⟩⟩⟩, hk.1.2⟩)) hg hat)
                       have n6_ := Aside0.mk (hb)
                       have n7_ := Aside0.mk (ho)
                       clear HO_8
                       clear HO_11
                       clear HO_230002
                       clear BK228
                       clear BK229
                       clear HL260_2
                       clear HB
                       clear HO259
                       have HO_8 := n0_
                       have HO_11 := n1_
                       have HO_230002 := n2_
                       have BK228 := n3_
                       have BK229 := n4_
                       have HL260_2 := n5_
                       have HB := n6_
                       have HO263 := n7_
                       clear n0_ n1_ n2_ n3_ n4_ n5_ n6_ n7_
                       clear ho hb hg hat
                       refine hK.out _ _ ?_
                       clear hK K
                       refine norm_ (a' := ?_) ?_ ?_
                       rotate_left
                       ·
                        show Act.put _ (some 108) _ = _
                        simp only [Act.put, sA, sB, sC, i64_w, i32_w]
                        rfl
                       refine pure_ (i := 11) (N := some 11) (v := ?_) (a' := ?_) #[true, true, true, true, true, true, true, true, true, true, true, true] rfl rfl (any_of HT_.out (by kernel_rfl)) (fun _ _ _ h => h) (Or.inl ⟨by rfl, ?_⟩) ?_ ?_
                       rotate_left
                       ·
                        intro w'
                        go_simp
                        with_reducible rfl
                       rotate_left
                       ·
                        simp only [Act.put, sA, sB, sC, i64_w, i32_w]
                        rfl
                       refine done_ (done_of HT_.out (by kernel_rfl)) ?_
                       obtain ⟨Ao90, co90, eo90⟩ := Kd.N_slice HO263.out
                       subst eo90
                       try go_wp2_with (first | ((with_reducible refine gate_callee (f := 23) rfl ?_); refine goesL_ (some 111) rfl rfl Try.func23 (by kernel_rfl) rfl #[.slice Ao90 y261.length co90] rfl (by (try simp only [List.map_toArray, List.map_cons, List.map_nil]); first | done | rfl | (simp only [List.length_drop, List.length_take]; rfl) | (simp only [Ny261.out, List.length_set]; first | done | rfl)) ?_; (with_reducible refine (attr_Judge.calls _ _ y261 t264 t265 t268 t269 t270 t271 t272 t273 _ ?side1 ?side2 A77.out).mono ?_); (case side1 => repeat (first | exact (Kd.N_reads' HO263.out).2.2 | (with_reducible refine Kd.C_alloc ?_ _) | (with_reducible refine Kd.C_drewN ?_ _) | (with_reducible refine Kd.C_drew ?_))); (case side2 => exact (Kd.N_reads' HO263.out).2.1); rintro e w91 ⟨v266, v274, rfl, ho0, ho1, hb⟩; refine ⟨_, rfl, ?_⟩; have n0_ := Aside0.mk (Kd.N_below (by (with_reducible repeat (first | apply Kd.N_alloc | apply Kd.N_drewN | apply Kd.N_drew)); exact HO_8.out) hb); have n1_ := Aside0.mk (Kd.N_below (by (with_reducible repeat (first | apply Kd.N_alloc | apply Kd.N_drewN | apply Kd.N_drew)); exact HO_11.out) hb); have n2_ := Aside0.mk (Kd.V_below (by (with_reducible repeat (first | apply Kd.V_alloc | apply Kd.V_drewN | apply Kd.V_drew)); exact HO_230002.out) hb); have n3_ := Aside0.mk (Kd.V_below (by (with_reducible repeat (first | apply Kd.V_alloc | apply Kd.V_drewN | apply Kd.V_drew)); exact HL260_2.out) hb); have n4_ := Aside0.mk (Kd.N_below (by (with_reducible repeat (first | apply Kd.N_alloc | apply Kd.N_drewN | apply Kd.N_drew)); exact HO263.out) hb); have n5_ := Aside0.mk (Kd.V_lower (Kd.V_mono (ok' := fun k_ => (P2_2_ k_ ∨ w.heap.size ≤ k_) ∧ some k_ ≠ (.slice (some ad260) t231.length co25 : Value).ownBlock ∧ some k_ ≠ (.slice Ao87 y251.length co87 : Value).ownBlock ∧ some k_ ≠ (.slice Ao90 y261.length co90 : Value).ownBlock ∧ k_ ≠ gb228 ∧ k_ ≠ gb229) ho0 (fun k_ hk_ => ⟨(.inr (Nat.le_trans (below_size (by repeat (first | (with_reducible first | exact HB.out | apply bA | apply bN | apply bD | refine bS ?_ GE228.out | refine bS ?_ GE229.out) | exact HB.out))) hk_)), (Kd.fresh' (Kd.N_lt (by (with_reducible repeat (first | apply Kd.N_alloc | apply Kd.N_drewN | apply Kd.N_drew)); exact HO_8.out)) k_ hk_), (Kd.fresh' (Kd.N_lt (by (with_reducible repeat (first | apply Kd.N_alloc | apply Kd.N_drewN | apply Kd.N_drew)); exact HO_11.out)) k_ hk_), (Kd.fresh' (Kd.N_lt (by (with_reducible repeat (first | apply Kd.N_alloc | apply Kd.N_drewN | apply Kd.N_drew)); exact HO263.out)) k_ hk_), (Kd.freshB (g := gb228) (o := .cells #[.int .i64 a0_0, .slice A0_1 l0_1.length c0_1, .int .i64 a0_2, .int .i64 a0_3] 27 (0, 0)) (by (with_reducible repeat (first | refine kN ?_ _ | refine kD ?_ | refine kA ?_ _)); exact BK228.out) k_ hk_), (Kd.freshB (g := gb229) (o := .cells #[.int .i64 a2_0, .int .i64 a2_1, .slice A2_2 l2_2.length c2_2] 24 (0, 0)) (by (with_reducible repeat (first | refine kN ?_ _ | refine kD ?_ | refine kA ?_ _)); exact BK229.out) k_ hk_)⟩)) (below_size (by repeat (first | (with_reducible first | exact HB.out | apply bA | apply bN | apply bD | refine bS ?_ GE228.out | refine bS ?_ GE229.out) | exact HB.out)))); have n6_ := Aside0.mk (Kd.V_lower (Kd.V_mono (ok' := fun k_ => (P2_2_ k_ ∨ w.heap.size ≤ k_) ∧ some k_ ≠ (.slice (some ad260) t231.length co25 : Value).ownBlock ∧ some k_ ≠ (.slice Ao87 y251.length co87 : Value).ownBlock ∧ some k_ ≠ (.slice Ao90 y261.length co90 : Value).ownBlock ∧ k_ ≠ gb228 ∧ k_ ≠ gb229) ho1 (fun k_ hk_ => ⟨(.inr (Nat.le_trans (below_size (by repeat (first | (with_reducible first | exact HB.out | apply bA | apply bN | apply bD | refine bS ?_ GE228.out | refine bS ?_ GE229.out) | exact HB.out))) hk_)), (Kd.fresh' (Kd.N_lt (by (with_reducible repeat (first | apply Kd.N_alloc | apply Kd.N_drewN | apply Kd.N_drew)); exact HO_8.out)) k_ hk_), (Kd.fresh' (Kd.N_lt (by (with_reducible repeat (first | apply Kd.N_alloc | apply Kd.N_drewN | apply Kd.N_drew)); exact HO_11.out)) k_ hk_), (Kd.fresh' (Kd.N_lt (by (with_reducible repeat (first | apply Kd.N_alloc | apply Kd.N_drewN | apply Kd.N_drew)); exact HO263.out)) k_ hk_), (Kd.freshB (g := gb228) (o := .cells #[.int .i64 a0_0, .slice A0_1 l0_1.length c0_1, .int .i64 a0_2, .int .i64 a0_3] 27 (0, 0)) (by (with_reducible repeat (first | refine kN ?_ _ | refine kD ?_ | refine kA ?_ _)); exact BK228.out) k_ hk_), (Kd.freshB (g := gb229) (o := .cells #[.int .i64 a2_0, .int .i64 a2_1, .slice A2_2 l2_2.length c2_2] 24 (0, 0)) (by (with_reducible repeat (first | refine kN ?_ _ | refine kD ?_ | refine kA ?_ _)); exact BK229.out) k_ hk_)⟩)) (below_size (by repeat (first | (with_reducible first | exact HB.out | apply bA | apply bN | apply bD | refine bS ?_ GE228.out | refine bS ?_ GE229.out) | exact HB.out)))); have n7_ := Aside0.mk (blk_below (g := gb228) (o := .cells #[.int .i64 a0_0, .slice A0_1 l0_1.length c0_1, .int .i64 a0_2, .int .i64 a0_3] 27 (0, 0)) (by (with_reducible repeat (first | refine kN ?_ _ | refine kD ?_ | refine kA ?_ _)); exact BK228.out) hb); have n8_ := Aside0.mk (blk_below (g := gb229) (o := .cells #[.int .i64 a2_0, .int .i64 a2_1, .slice A2_2 l2_2.length c2_2] 24 (0, 0)) (by (with_reducible repeat (first | refine kN ?_ _ | refine kD ?_ | refine kA ?_ _)); exact BK229.out) hb); have n9_ := Aside0.mk (below_step (by repeat (first | (with_reducible first | exact HB.out | apply bA | apply bN | apply bD | refine bS ?_ GE228.out | refine bS ?_ GE229.out) | exact HB.out)) hb); clear HO_8; clear HO_11; clear HO_230002; clear HL260_2; clear HO263; clear BK228; clear BK229; clear HB; have HO_8 := n0_; have HO_11 := n1_; have HO_230002 := n2_; have HL260_2 := n3_; have HO263 := n4_; have HO267 := n5_; have HO275 := n6_; have BK228 := n7_; have BK229 := n8_; have HB := n9_; clear n0_ n1_ n2_ n3_ n4_ n5_ n6_ n7_ n8_ n9_; (try clear hb); (try clear hb2); (try clear hk); (try clear hi); (try clear ho0); (try clear ho1)) | ((with_reducible refine gate_dst (N := 12) rfl ?_); (try (refine gate_guard (by rfl) ?_; dsimp only)); refine box_event ?hg (N := 12) ?hd (cs := #[.int .i64 0, .slice none 0 0, .int .i64 0, .int .i64 0]) (t := 27) ?hr ?_; (case hd => rfl); (case hg => rfl); (case hr => first | (go_simp; done) | (go_simp; rfl)); intro gb276 hg w92 hbox hb; have n0_ := Aside0.mk (Kd.N_below (Kd.N_elderB (by (with_reducible repeat (first | apply Kd.N_alloc | apply Kd.N_drewN | apply Kd.N_drew)); exact HO_8.out) gb276 (Nat.le_of_eq hg.symm)) hb); have n1_ := Aside0.mk (Kd.N_below (Kd.N_elderB (by (with_reducible repeat (first | apply Kd.N_alloc | apply Kd.N_drewN | apply Kd.N_drew)); exact HO_11.out) gb276 (Nat.le_of_eq hg.symm)) hb); have n2_ := Aside0.mk (Kd.V_below (Kd.V_elderB (by (with_reducible repeat (first | apply Kd.V_alloc | apply Kd.V_drewN | apply Kd.V_drew)); exact HO_230002.out) gb276 (Nat.le_of_eq hg.symm)) hb); have n3_ := Aside0.mk (Kd.V_below (Kd.V_elderB (by (with_reducible repeat (first | apply Kd.V_alloc | apply Kd.V_drewN | apply Kd.V_drew)); exact HL260_2.out) gb276 (Nat.le_of_eq hg.symm)) hb); have n4_ := Aside0.mk (Kd.N_below (Kd.N_elderB (by (with_reducible repeat (first | apply Kd.N_alloc | apply Kd.N_drewN | apply Kd.N_drew)); exact HO263.out) gb276 (Nat.le_of_eq hg.symm)) hb); have n5_ := Aside0.mk (Kd.V_below (Kd.V_elderB (by (with_reducible repeat (first | apply Kd.V_alloc | apply Kd.V_drewN | apply Kd.V_drew)); exact HO267.out) gb276 (Nat.le_of_eq hg.symm)) hb); have n6_ := Aside0.mk (Kd.V_below (Kd.V_elderB (by (with_reducible repeat (first | apply Kd.V_alloc | apply Kd.V_drewN | apply Kd.V_drew)); exact HO275.out) gb276 (Nat.le_of_eq hg.symm)) hb); have n7_ := Aside0.mk (blk_below (g := gb228) (o := .cells #[.int .i64 a0_0, .slice A0_1 l0_1.length c0_1, .int .i64 a0_2, .int .i64 a0_3] 27 (0, 0)) (by (with_reducible repeat (first | refine kN ?_ _ | refine kD ?_ | refine kA ?_ _)); exact BK228.out) hb); have n8_ := Aside0.mk (blk_below (g := gb229) (o := .cells #[.int .i64 a2_0, .int .i64 a2_1, .slice A2_2 l2_2.length c2_2] 24 (0, 0)) (by (with_reducible repeat (first | refine kN ?_ _ | refine kD ?_ | refine kA ?_ _)); exact BK229.out) hb); have n9_ := Aside0.mk (below_step (by repeat (first | (with_reducible first | exact HB.out | apply bA | apply bN | apply bD | refine bS ?_ GE228.out | refine bS ?_ GE229.out) | exact HB.out)) hb); have n10_ := Aside0.mk (hbox); have n11_ := Aside0.mk ((by rw [hg]; exact (below_size (by repeat (first | (with_reducible first | exact HB.out | apply bA | apply bN | apply bD | refine bS ?_ GE228.out | refine bS ?_ GE229.out) | exact HB.out))) : w.heap.size ≤ gb276)); have n12_ := Aside0.mk ((by rw [hg]; exact (below_size (by repeat (first | (with_reducible first | exact HB.out | apply bA | apply bN | apply bD | refine bS ?_ GE228.out | refine bS ?_ GE229.out) | exact HB.out))) : w.heap.size ≤ gb276)); have n13_ := Aside0.mk ((by rw [hg]; exact Nat.ne_of_lt (blk_lt (g := gb228) (o := .cells #[.int .i64 a0_0, .slice A0_1 l0_1.length c0_1, .int .i64 a0_2, .int .i64 a0_3] 27 (0, 0)) (by (with_reducible repeat (first | refine kN ?_ _ | refine kD ?_ | refine kA ?_ _)); exact BK228.out)) : gb228 ≠ gb276)); have n14_ := Aside0.mk ((by rw [hg]; exact Nat.ne_of_gt (blk_lt (g := gb228) (o := .cells #[.int .i64 a0_0, .slice A0_1 l0_1.length c0_1, .int .i64 a0_2, .int .i64 a0_3] 27 (0, 0)) (by (with_reducible repeat (first | refine kN ?_ _ | refine kD ?_ | refine kA ?_ _)); exact BK228.out)) : gb276 ≠ gb228)); have n15_ := Aside0.mk ((by rw [hg]; exact Nat.ne_of_lt (blk_lt (g := gb229) (o := .cells #[.int .i64 a2_0, .int .i64 a2_1, .slice A2_2 l2_2.length c2_2] 24 (0, 0)) (by (with_reducible repeat (first | refine kN ?_ _ | refine kD ?_ | refine kA ?_ _)); exact BK229.out)) : gb229 ≠ gb276)); have n16_ := Aside0.mk ((by rw [hg]; exact Nat.ne_of_gt (blk_lt (g := gb229) (o := .cells #[.int .i64 a2_0, .int .i64 a2_1, .slice A2_2 l2_2.length c2_2] 24 (0, 0)) (by (with_reducible repeat (first | refine kN ?_ _ | refine kD ?_ | refine kA ?_ _)); exact BK229.out)) : gb276 ≠ gb229)); clear HO_8; clear HO_11; clear HO_230002; clear HL260_2; clear HO263; clear HO267; clear HO275; clear BK228; clear BK229; clear HB; have HO_8 := n0_; have HO_11 := n1_; have HO_230002 := n2_; have HL260_2 := n3_; have HO263 := n4_; have HO267 := n5_; have HO275 := n6_; have BK228 := n7_; have BK229 := n8_; have HB := n9_; have BK276 := n10_; have GW276 := n11_; have GE276 := n12_; have NB228_276 := n13_; have NB276_228 := n14_; have NB229_276 := n15_; have NB276_229 := n16_; clear n0_ n1_ n2_ n3_ n4_ n5_ n6_ n7_ n8_ n9_ n10_ n11_ n12_ n13_ n14_ n15_ n16_; clear hb hbox hg) | ((with_reducible refine gate_dst (N := 14) rfl ?_); (try (refine gate_guard (by rfl) ?_; dsimp only)); refine box_event ?hg (N := 14) ?hd (cs := #[.int .i64 0, .int .i64 0, .slice none 0 0]) (t := 41) ?hr ?_; (case hd => rfl); (case hg => rfl); (case hr => first | (go_simp; done) | (go_simp; rfl)); intro gb277 hg w93 hbox hb; have n0_ := Aside0.mk (Kd.N_below (Kd.N_elderB (by (with_reducible repeat (first | apply Kd.N_alloc | apply Kd.N_drewN | apply Kd.N_drew)); exact HO_8.out) gb277 (Nat.le_of_eq hg.symm)) hb); have n1_ := Aside0.mk (Kd.N_below (Kd.N_elderB (by (with_reducible repeat (first | apply Kd.N_alloc | apply Kd.N_drewN | apply Kd.N_drew)); exact HO_11.out) gb277 (Nat.le_of_eq hg.symm)) hb); have n2_ := Aside0.mk (Kd.V_below (Kd.V_elderB (by (with_reducible repeat (first | apply Kd.V_alloc | apply Kd.V_drewN | apply Kd.V_drew)); exact HO_230002.out) gb277 (Nat.le_of_eq hg.symm)) hb); have n3_ := Aside0.mk (Kd.V_below (Kd.V_elderB (by (with_reducible repeat (first | apply Kd.V_alloc | apply Kd.V_drewN | apply Kd.V_drew)); exact HL260_2.out) gb277 (Nat.le_of_eq hg.symm)) hb); have n4_ := Aside0.mk (Kd.N_below (Kd.N_elderB (by (with_reducible repeat (first | apply Kd.N_alloc | apply Kd.N_drewN | apply Kd.N_drew)); exact HO263.out) gb277 (Nat.le_of_eq hg.symm)) hb); have n5_ := Aside0.mk (Kd.V_below (Kd.V_elderB (by (with_reducible repeat (first | apply Kd.V_alloc | apply Kd.V_drewN | apply Kd.V_drew)); exact HO267.out) gb277 (Nat.le_of_eq hg.symm)) hb); have n6_ := Aside0.mk (Kd.V_below (Kd.V_elderB (by (with_reducible repeat (first | apply Kd.V_alloc | apply Kd.V_drewN | apply Kd.V_drew)); exact HO275.out) gb277 (Nat.le_of_eq hg.symm)) hb); have n7_ := Aside0.mk (blk_below (g := gb228) (o := .cells #[.int .i64 a0_0, .slice A0_1 l0_1.length c0_1, .int .i64 a0_2, .int .i64 a0_3] 27 (0, 0)) (by (with_reducible repeat (first | refine kN ?_ _ | refine kD ?_ | refine kA ?_ _)); exact BK228.out) hb); have n8_ := Aside0.mk (blk_below (g := gb229) (o := .cells #[.int .i64 a2_0, .int .i64 a2_1, .slice A2_2 l2_2.length c2_2] 24 (0, 0)) (by (with_reducible repeat (first | refine kN ?_ _ | refine kD ?_ | refine kA ?_ _)); exact BK229.out) hb); have n9_ := Aside0.mk (blk_below (g := gb276) (o := .cells #[.int .i64 0, .slice none 0 0, .int .i64 0, .int .i64 0] 27 (0, 0)) (by (with_reducible repeat (first | refine kN ?_ _ | refine kD ?_ | refine kA ?_ _)); exact BK276.out) hb); have n10_ := Aside0.mk (below_step (by repeat (first | (with_reducible first | exact HB.out | apply bA | apply bN | apply bD | refine bS ?_ GE228.out | refine bS ?_ GE229.out | refine bS ?_ GE276.out) | exact HB.out)) hb); have n11_ := Aside0.mk (hbox); have n12_ := Aside0.mk ((by rw [hg]; exact (below_size (by repeat (first | (with_reducible first | exact HB.out | apply bA | apply bN | apply bD | refine bS ?_ GE228.out | refine bS ?_ GE229.out | refine bS ?_ GE276.out) | exact HB.out))) : w.heap.size ≤ gb277)); have n13_ := Aside0.mk ((by rw [hg]; exact (below_size (by repeat (first | (with_reducible first | exact HB.out | apply bA | apply bN | apply bD | refine bS ?_ GE228.out | refine bS ?_ GE229.out | refine bS ?_ GE276.out) | exact HB.out))) : w.heap.size ≤ gb277)); have n14_ := Aside0.mk ((by rw [hg]; exact Nat.ne_of_lt (blk_lt (g := gb228) (o := .cells #[.int .i64 a0_0, .slice A0_1 l0_1.length c0_1, .int .i64 a0_2, .int .i64 a0_3] 27 (0, 0)) (by (with_reducible repeat (first | refine kN ?_ _ | refine kD ?_ | refine kA ?_ _)); exact BK228.out)) : gb228 ≠ gb277)); have n15_ := Aside0.mk ((by rw [hg]; exact Nat.ne_of_gt (blk_lt (g := gb228) (o := .cells #[.int .i64 a0_0, .slice A0_1 l0_1.length c0_1, .int .i64 a0_2, .int .i64 a0_3] 27 (0, 0)) (by (with_reducible repeat (first | refine kN ?_ _ | refine kD ?_ | refine kA ?_ _)); exact BK228.out)) : gb277 ≠ gb228)); have n16_ := Aside0.mk ((by rw [hg]; exact Nat.ne_of_lt (blk_lt (g := gb229) (o := .cells #[.int .i64 a2_0, .int .i64 a2_1, .slice A2_2 l2_2.length c2_2] 24 (0, 0)) (by (with_reducible repeat (first | refine kN ?_ _ | refine kD ?_ | refine kA ?_ _)); exact BK229.out)) : gb229 ≠ gb277)); have n17_ := Aside0.mk ((by rw [hg]; exact Nat.ne_of_gt (blk_lt (g := gb229) (o := .cells #[.int .i64 a2_0, .int .i64 a2_1, .slice A2_2 l2_2.length c2_2] 24 (0, 0)) (by (with_reducible repeat (first | refine kN ?_ _ | refine kD ?_ | refine kA ?_ _)); exact BK229.out)) : gb277 ≠ gb229)); have n18_ := Aside0.mk ((by rw [hg]; exact Nat.ne_of_lt (blk_lt (g := gb276) (o := .cells #[.int .i64 0, .slice none 0 0, .int .i64 0, .int .i64 0] 27 (0, 0)) (by (with_reducible repeat (first | refine kN ?_ _ | refine kD ?_ | refine kA ?_ _)); exact BK276.out)) : gb276 ≠ gb277)); have n19_ := Aside0.mk ((by rw [hg]; exact Nat.ne_of_gt (blk_lt (g := gb276) (o := .cells #[.int .i64 0, .slice none 0 0, .int .i64 0, .int .i64 0] 27 (0, 0)) (by (with_reducible repeat (first | refine kN ?_ _ | refine kD ?_ | refine kA ?_ _)); exact BK276.out)) : gb277 ≠ gb276)); clear HO_8; clear HO_11; clear HO_230002; clear HL260_2; clear HO263; clear HO267; clear HO275; clear BK228; clear BK229; clear BK276; clear HB; have HO_8 := n0_; have HO_11 := n1_; have HO_230002 := n2_; have HL260_2 := n3_; have HO263 := n4_; have HO267 := n5_; have HO275 := n6_; have BK228 := n7_; have BK229 := n8_; have BK276 := n9_; have HB := n10_; have BK277 := n11_; have GW277 := n12_; have GE277 := n13_; have NB228_277 := n14_; have NB277_228 := n15_; have NB229_277 := n16_; have NB277_229 := n17_; have NB276_277 := n18_; have NB277_276 := n19_; clear n0_ n1_ n2_ n3_ n4_ n5_ n6_ n7_ n8_ n9_ n10_ n11_ n12_ n13_ n14_ n15_ n16_ n17_ n18_ n19_; clear hb hbox hg; have hnb94 := NB276_228.out; have hnc94 := NB228_276.out; have hnb95 := NB276_229.out; have hnc95 := NB229_276.out; have hnb96 := NB276_277.out; have hnc96 := NB277_276.out; have hcz97_0 : w93.cell? ⟨gb276, 0, none⟩ = some (.int .i64 0) := (blk_cell BK276.out 0).trans rfl; have hcz97_1 : w93.cell? ⟨gb276, 1, none⟩ = some (.slice none 0 0) := (blk_cell BK276.out 1).trans rfl; have hcz97_2 : w93.cell? ⟨gb276, 2, none⟩ = some (.int .i64 0) := (blk_cell BK276.out 2).trans rfl; have hcz97_3 : w93.cell? ⟨gb276, 3, none⟩ = some (.int .i64 0) := (blk_cell BK276.out 3).trans rfl; have hfz97_0 := blk_frozen BK276.out 0; have hfz97_1 := blk_frozen BK276.out 1; have hfz97_2 := blk_frozen BK276.out 2; have hfz97_3 := blk_frozen BK276.out 3; obtain ⟨Ao98, co98, eo98⟩ := Kd.V_slice HO267.out; subst eo98; have hnb99 := NB277_228.out; have hnc99 := NB228_277.out; have hnb100 := NB277_229.out; have hnc100 := NB229_277.out; have hcz101_0 : w93.cell? ⟨gb277, 0, none⟩ = some (.int .i64 0) := (blk_cell BK277.out 0).trans rfl; have hcz101_1 : w93.cell? ⟨gb277, 1, none⟩ = some (.int .i64 0) := (blk_cell BK277.out 1).trans rfl; have hcz101_2 : w93.cell? ⟨gb277, 2, none⟩ = some (.slice none 0 0) := (blk_cell BK277.out 2).trans rfl; have hfz101_0 := blk_frozen BK277.out 0; have hfz101_1 := blk_frozen BK277.out 1; have hfz101_2 := blk_frozen BK277.out 2; obtain ⟨Ao102, co102, eo102⟩ := Kd.V_slice HO275.out; subst eo102; have hcz103_0 : w93.cell? ⟨gb228, 0, none⟩ = some (.int .i64 a0_0) := (blk_cell BK228.out 0).trans rfl; have hcz103_1 : w93.cell? ⟨gb228, 1, none⟩ = some (.slice A0_1 l0_1.length c0_1) := (blk_cell BK228.out 1).trans rfl; have hcz103_2 : w93.cell? ⟨gb228, 2, none⟩ = some (.int .i64 a0_2) := (blk_cell BK228.out 2).trans rfl; have hcz103_3 : w93.cell? ⟨gb228, 3, none⟩ = some (.int .i64 a0_3) := (blk_cell BK228.out 3).trans rfl; have hfz103_0 := blk_frozen BK228.out 0; have hfz103_1 := blk_frozen BK228.out 1; have hfz103_2 := blk_frozen BK228.out 2; have hfz103_3 := blk_frozen BK228.out 3) | (go_at_call 25; (with_reducible refine (ridgewayref07_SamePath.calls kj35 t264 _ _ t265 t268 t269 a0_0 _ _ l0_1 a0_2 a0_3 t278 _ ?side1 ?side2 ?side3 ?side4 A81.out).mono ?_); (case side1 => have hx_ := (Kd.V_far (p := ⟨gb277, 2, none⟩) (Kd.V_far (p := ⟨gb277, 1, none⟩) (Kd.V_far (p := ⟨gb277, 0, none⟩) (Kd.V_far (p := ⟨gb276, 3, none⟩) (Kd.V_far (p := ⟨gb276, 2, none⟩) (Kd.V_far (p := ⟨gb276, 1, none⟩) (Kd.V_far (p := ⟨gb276, 0, none⟩) (Kd.V_mono (Kd.V_mono HO267.out (fun k_ hk => (⟨hk, hk.1.2⟩ : _ ∧ k_ ≠ gb276))) (fun k_ hk => (⟨hk, hk.1.2⟩ : _ ∧ k_ ≠ gb277))) (fun _ hk => hk.1.2) (.int .i64 t264)) (fun _ hk => hk.1.2) (.slice Ao98 t265.length co98)) (fun _ hk => hk.1.2) (.int .i64 t268)) (fun _ hk => hk.1.2) (.int .i64 t269)) (fun _ hk => hk.2) (.int .i64 t271)) (fun _ hk => hk.2) (.int .i64 t272)) (fun _ hk => hk.2) (.slice Ao102 t273.length co102)); (with_reducible repeat (first | apply Kd.C_alloc | apply Kd.C_drewN | apply Kd.C_drew)); exact (Kd.V_reads' hx_).2.2); (case side2 => exact (Kd.V_reads' HO267.out).2.1); (case side3 => exact Kd.C_below HR0_1.out (by repeat (first | (with_reducible first | exact HB.out | apply bA | apply bN | apply bD | refine bS ?_ GE228.out | refine bS ?_ GE229.out | refine bS ?_ GE276.out | refine bS ?_ GE277.out) | exact HB.out))); (case side4 => exact HC0_1.out); rintro e w104 ⟨rfl, hb⟩; have n0_ := Aside0.mk (Kd.N_below (by (with_reducible repeat (first | apply Kd.N_alloc | apply Kd.N_drewN | apply Kd.N_drew)); exact (Kd.N_mono (Kd.N_mono (Kd.N_far (p := ⟨gb277, 2, none⟩) (Kd.N_far (p := ⟨gb277, 1, none⟩) (Kd.N_far (p := ⟨gb277, 0, none⟩) (Kd.N_far (p := ⟨gb276, 3, none⟩) (Kd.N_far (p := ⟨gb276, 2, none⟩) (Kd.N_far (p := ⟨gb276, 1, none⟩) (Kd.N_far (p := ⟨gb276, 0, none⟩) (Kd.N_mono (Kd.N_mono HO_8.out (fun k_ hk => (⟨hk, hk.1.2⟩ : _ ∧ k_ ≠ gb276))) (fun k_ hk => (⟨hk, hk.1.2⟩ : _ ∧ k_ ≠ gb277))) (fun _ hk => hk.1.2) (.int .i64 t264)) (fun _ hk => hk.1.2) (.slice Ao98 t265.length co98)) (fun _ hk => hk.1.2) (.int .i64 t268)) (fun _ hk => hk.1.2) (.int .i64 t269)) (fun _ hk => hk.2) (.int .i64 t271)) (fun _ hk => hk.2) (.int .i64 t272)) (fun _ hk => hk.2) (.slice Ao102 t273.length co102)) (fun _ h_ => h_.1)) (fun _ h_ => h_.1))) hb); have n1_ := Aside0.mk (Kd.N_below (by (with_reducible repeat (first | apply Kd.N_alloc | apply Kd.N_drewN | apply Kd.N_drew)); exact (Kd.N_mono (Kd.N_mono (Kd.N_far (p := ⟨gb277, 2, none⟩) (Kd.N_far (p := ⟨gb277, 1, none⟩) (Kd.N_far (p := ⟨gb277, 0, none⟩) (Kd.N_far (p := ⟨gb276, 3, none⟩) (Kd.N_far (p := ⟨gb276, 2, none⟩) (Kd.N_far (p := ⟨gb276, 1, none⟩) (Kd.N_far (p := ⟨gb276, 0, none⟩) (Kd.N_mono (Kd.N_mono HO_11.out (fun k_ hk => (⟨hk, hk.1.2⟩ : _ ∧ k_ ≠ gb276))) (fun k_ hk => (⟨hk, hk.1.2⟩ : _ ∧ k_ ≠ gb277))) (fun _ hk => hk.1.2) (.int .i64 t264)) (fun _ hk => hk.1.2) (.slice Ao98 t265.length co98)) (fun _ hk => hk.1.2) (.int .i64 t268)) (fun _ hk => hk.1.2) (.int .i64 t269)) (fun _ hk => hk.2) (.int .i64 t271)) (fun _ hk => hk.2) (.int .i64 t272)) (fun _ hk => hk.2) (.slice Ao102 t273.length co102)) (fun _ h_ => h_.1)) (fun _ h_ => h_.1))) hb); have n2_ := Aside0.mk (Kd.V_below (by (with_reducible repeat (first | apply Kd.V_alloc | apply Kd.V_drewN | apply Kd.V_drew)); exact (Kd.V_mono (Kd.V_mono (Kd.V_far (p := ⟨gb277, 2, none⟩) (Kd.V_far (p := ⟨gb277, 1, none⟩) (Kd.V_far (p := ⟨gb277, 0, none⟩) (Kd.V_far (p := ⟨gb276, 3, none⟩) (Kd.V_far (p := ⟨gb276, 2, none⟩) (Kd.V_far (p := ⟨gb276, 1, none⟩) (Kd.V_far (p := ⟨gb276, 0, none⟩) (Kd.V_mono (Kd.V_mono HO_230002.out (fun k_ hk => (⟨hk, hk.1.2⟩ : _ ∧ k_ ≠ gb276))) (fun k_ hk => (⟨hk, hk.1.2⟩ : _ ∧ k_ ≠ gb277))) (fun _ hk => hk.1.2) (.int .i64 t264)) (fun _ hk => hk.1.2) (.slice Ao98 t265.length co98)) (fun _ hk => hk.1.2) (.int .i64 t268)) (fun _ hk => hk.1.2) (.int .i64 t269)) (fun _ hk => hk.2) (.int .i64 t271)) (fun _ hk => hk.2) (.int .i64 t272)) (fun _ hk => hk.2) (.slice Ao102 t273.length co102)) (fun _ h_ => h_.1)) (fun _ h_ => h_.1))) hb); have n3_ := Aside0.mk (Kd.V_below (by (with_reducible repeat (first | apply Kd.V_alloc | apply Kd.V_drewN | apply Kd.V_drew)); exact (Kd.V_mono (Kd.V_mono (Kd.V_far (p := ⟨gb277, 2, none⟩) (Kd.V_far (p := ⟨gb277, 1, none⟩) (Kd.V_far (p := ⟨gb277, 0, none⟩) (Kd.V_far (p := ⟨gb276, 3, none⟩) (Kd.V_far (p := ⟨gb276, 2, none⟩) (Kd.V_far (p := ⟨gb276, 1, none⟩) (Kd.V_far (p := ⟨gb276, 0, none⟩) (Kd.V_mono (Kd.V_mono HL260_2.out (fun k_ hk => (⟨hk, hk.1.2⟩ : _ ∧ k_ ≠ gb276))) (fun k_ hk => (⟨hk, hk.1.2⟩ : _ ∧ k_ ≠ gb277))) (fun _ hk => hk.1.2) (.int .i64 t264)) (fun _ hk => hk.1.2) (.slice Ao98 t265.length co98)) (fun _ hk => hk.1.2) (.int .i64 t268)) (fun _ hk => hk.1.2) (.int .i64 t269)) (fun _ hk => hk.2) (.int .i64 t271)) (fun _ hk => hk.2) (.int .i64 t272)) (fun _ hk => hk.2) (.slice Ao102 t273.length co102)) (fun _ h_ => h_.1)) (fun _ h_ => h_.1))) hb); have n4_ := Aside0.mk (Kd.N_below (by (with_reducible repeat (first | apply Kd.N_alloc | apply Kd.N_drewN | apply Kd.N_drew)); exact (Kd.N_mono (Kd.N_mono (Kd.N_far (p := ⟨gb277, 2, none⟩) (Kd.N_far (p := ⟨gb277, 1, none⟩) (Kd.N_far (p := ⟨gb277, 0, none⟩) (Kd.N_far (p := ⟨gb276, 3, none⟩) (Kd.N_far (p := ⟨gb276, 2, none⟩) (Kd.N_far (p := ⟨gb276, 1, none⟩) (Kd.N_far (p := ⟨gb276, 0, none⟩) (Kd.N_mono (Kd.N_mono HO263.out (fun k_ hk => (⟨hk, hk.1.2⟩ : _ ∧ k_ ≠ gb276))) (fun k_ hk => (⟨hk, hk.1.2⟩ : _ ∧ k_ ≠ gb277))) (fun _ hk => hk.1.2) (.int .i64 t264)) (fun _ hk => hk.1.2) (.slice Ao98 t265.length co98)) (fun _ hk => hk.1.2) (.int .i64 t268)) (fun _ hk => hk.1.2) (.int .i64 t269)) (fun _ hk => hk.2) (.int .i64 t271)) (fun _ hk => hk.2) (.int .i64 t272)) (fun _ hk => hk.2) (.slice Ao102 t273.length co102)) (fun _ h_ => h_.1)) (fun _ h_ => h_.1))) hb); have n5_ := Aside0.mk (Kd.V_below (by (with_reducible repeat (first | apply Kd.V_alloc | apply Kd.V_drewN | apply Kd.V_drew)); exact (Kd.V_mono (Kd.V_mono (Kd.V_far (p := ⟨gb277, 2, none⟩) (Kd.V_far (p := ⟨gb277, 1, none⟩) (Kd.V_far (p := ⟨gb277, 0, none⟩) (Kd.V_far (p := ⟨gb276, 3, none⟩) (Kd.V_far (p := ⟨gb276, 2, none⟩) (Kd.V_far (p := ⟨gb276, 1, none⟩) (Kd.V_far (p := ⟨gb276, 0, none⟩) (Kd.V_mono (Kd.V_mono HO267.out (fun k_ hk => (⟨hk, hk.1.2⟩ : _ ∧ k_ ≠ gb276))) (fun k_ hk => (⟨hk, hk.1.2⟩ : _ ∧ k_ ≠ gb277))) (fun _ hk => hk.1.2) (.int .i64 t264)) (fun _ hk => hk.1.2) (.slice Ao98 t265.length co98)) (fun _ hk => hk.1.2) (.int .i64 t268)) (fun _ hk => hk.1.2) (.int .i64 t269)) (fun _ hk => hk.2) (.int .i64 t271)) (fun _ hk => hk.2) (.int .i64 t272)) (fun _ hk => hk.2) (.slice Ao102 t273.length co102)) (fun _ h_ => h_.1)) (fun _ h_ => h_.1))) hb); have n6_ := Aside0.mk (Kd.V_below (by (with_reducible repeat (first | apply Kd.V_alloc | apply Kd.V_drewN | apply Kd.V_drew)); exact (Kd.V_mono (Kd.V_mono (Kd.V_far (p := ⟨gb277, 2, none⟩) (Kd.V_far (p := ⟨gb277, 1, none⟩) (Kd.V_far (p := ⟨gb277, 0, none⟩) (Kd.V_far (p := ⟨gb276, 3, none⟩) (Kd.V_far (p := ⟨gb276, 2, none⟩) (Kd.V_far (p := ⟨gb276, 1, none⟩) (Kd.V_far (p := ⟨gb276, 0, none⟩) (Kd.V_mono (Kd.V_mono HO275.out (fun k_ hk => (⟨hk, hk.1.2⟩ : _ ∧ k_ ≠ gb276))) (fun k_ hk => (⟨hk, hk.1.2⟩ : _ ∧ k_ ≠ gb277))) (fun _ hk => hk.1.2) (.int .i64 t264)) (fun _ hk => hk.1.2) (.slice Ao98 t265.length co98)) (fun _ hk => hk.1.2) (.int .i64 t268)) (fun _ hk => hk.1.2) (.int .i64 t269)) (fun _ hk => hk.2) (.int .i64 t271)) (fun _ hk => hk.2) (.int .i64 t272)) (fun _ hk => hk.2) (.slice Ao102 t273.length co102)) (fun _ h_ => h_.1)) (fun _ h_ => h_.1))) hb); have n7_ := Aside0.mk (blk_below (g := gb228) (o := .cells #[.int .i64 a0_0, .slice A0_1 l0_1.length c0_1, .int .i64 a0_2, .int .i64 a0_3] 27 (0, 0)) (by (with_reducible repeat (first | refine kN ?_ _ | refine kD ?_ | refine kA ?_ _)); refine blk_far ?_ NB228_277.out _; (with_reducible repeat (first | refine kN ?_ _ | refine kD ?_ | refine kA ?_ _)); refine blk_far ?_ NB228_277.out _; (with_reducible repeat (first | refine kN ?_ _ | refine kD ?_ | refine kA ?_ _)); refine blk_far ?_ NB228_277.out _; (with_reducible repeat (first | refine kN ?_ _ | refine kD ?_ | refine kA ?_ _)); refine blk_far ?_ NB228_276.out _; (with_reducible repeat (first | refine kN ?_ _ | refine kD ?_ | refine kA ?_ _)); refine blk_far ?_ NB228_276.out _; (with_reducible repeat (first | refine kN ?_ _ | refine kD ?_ | refine kA ?_ _)); refine blk_far ?_ NB228_276.out _; (with_reducible repeat (first | refine kN ?_ _ | refine kD ?_ | refine kA ?_ _)); refine blk_far ?_ NB228_276.out _; (with_reducible repeat (first | refine kN ?_ _ | refine kD ?_ | refine kA ?_ _)); exact BK228.out) hb); have n8_ := Aside0.mk (blk_below (g := gb229) (o := .cells #[.int .i64 a2_0, .int .i64 a2_1, .slice A2_2 l2_2.length c2_2] 24 (0, 0)) (by (with_reducible repeat (first | refine kN ?_ _ | refine kD ?_ | refine kA ?_ _)); refine blk_far ?_ NB229_277.out _; (with_reducible repeat (first | refine kN ?_ _ | refine kD ?_ | refine kA ?_ _)); refine blk_far ?_ NB229_277.out _; (with_reducible repeat (first | refine kN ?_ _ | refine kD ?_ | refine kA ?_ _)); refine blk_far ?_ NB229_277.out _; (with_reducible repeat (first | refine kN ?_ _ | refine kD ?_ | refine kA ?_ _)); refine blk_far ?_ NB229_276.out _; (with_reducible repeat (first | refine kN ?_ _ | refine kD ?_ | refine kA ?_ _)); refine blk_far ?_ NB229_276.out _; (with_reducible repeat (first | refine kN ?_ _ | refine kD ?_ | refine kA ?_ _)); refine blk_far ?_ NB229_276.out _; (with_reducible repeat (first | refine kN ?_ _ | refine kD ?_ | refine kA ?_ _)); refine blk_far ?_ NB229_276.out _; (with_reducible repeat (first | refine kN ?_ _ | refine kD ?_ | refine kA ?_ _)); exact BK229.out) hb); have n9_ := Aside0.mk (blk_below (g := gb276) (o := .cells #[.int .i64 t264, .slice Ao98 t265.length co98, .int .i64 t268, .int .i64 t269] 27 (0, 0)) (by (with_reducible repeat (first | refine kN ?_ _ | refine kD ?_ | refine kA ?_ _)); refine blk_far ?_ NB276_277.out _; (with_reducible repeat (first | refine kN ?_ _ | refine kD ?_ | refine kA ?_ _)); refine blk_far ?_ NB276_277.out _; (with_reducible repeat (first | refine kN ?_ _ | refine kD ?_ | refine kA ?_ _)); refine blk_far ?_ NB276_277.out _; (with_reducible repeat (first | refine kN ?_ _ | refine kD ?_ | refine kA ?_ _)); refine blk_put (cs := #[.int .i64 t264, .slice Ao98 t265.length co98, .int .i64 t268, .int .i64 0]) ?_ 3 _ rfl; (with_reducible repeat (first | refine kN ?_ _ | refine kD ?_ | refine kA ?_ _)); refine blk_put (cs := #[.int .i64 t264, .slice Ao98 t265.length co98, .int .i64 0, .int .i64 0]) ?_ 2 _ rfl; (with_reducible repeat (first | refine kN ?_ _ | refine kD ?_ | refine kA ?_ _)); refine blk_put (cs := #[.int .i64 t264, .slice none 0 0, .int .i64 0, .int .i64 0]) ?_ 1 _ rfl; (with_reducible repeat (first | refine kN ?_ _ | refine kD ?_ | refine kA ?_ _)); refine blk_put (cs := #[.int .i64 0, .slice none 0 0, .int .i64 0, .int .i64 0]) ?_ 0 _ rfl; (with_reducible repeat (first | refine kN ?_ _ | refine kD ?_ | refine kA ?_ _)); exact BK276.out) hb); have n10_ := Aside0.mk (blk_below (g := gb277) (o := .cells #[.int .i64 t271, .int .i64 t272, .slice Ao102 t273.length co102] 41 (0, 0)) (by (with_reducible repeat (first | refine kN ?_ _ | refine kD ?_ | refine kA ?_ _)); refine blk_put (cs := #[.int .i64 t271, .int .i64 t272, .slice none 0 0]) ?_ 2 _ rfl; (with_reducible repeat (first | refine kN ?_ _ | refine kD ?_ | refine kA ?_ _)); refine blk_put (cs := #[.int .i64 t271, .int .i64 0, .slice none 0 0]) ?_ 1 _ rfl; (with_reducible repeat (first | refine kN ?_ _ | refine kD ?_ | refine kA ?_ _)); refine blk_put (cs := #[.int .i64 0, .int .i64 0, .slice none 0 0]) ?_ 0 _ rfl; (with_reducible repeat (first | refine kN ?_ _ | refine kD ?_ | refine kA ?_ _)); refine blk_far ?_ NB277_276.out _; (with_reducible repeat (first | refine kN ?_ _ | refine kD ?_ | refine kA ?_ _)); refine blk_far ?_ NB277_276.out _; (with_reducible repeat (first | refine kN ?_ _ | refine kD ?_ | refine kA ?_ _)); refine blk_far ?_ NB277_276.out _; (with_reducible repeat (first | refine kN ?_ _ | refine kD ?_ | refine kA ?_ _)); refine blk_far ?_ NB277_276.out _; (with_reducible repeat (first | refine kN ?_ _ | refine kD ?_ | refine kA ?_ _)); exact BK277.out) hb); have n11_ := Aside0.mk (below_step (by repeat (first | (with_reducible first | exact HB.out | apply bA | apply bN | apply bD | refine bS ?_ GE228.out | refine bS ?_ GE229.out | refine bS ?_ GE276.out | refine bS ?_ GE277.out) | exact HB.out)) hb); clear HO_8; clear HO_11; clear HO_230002; clear HL260_2; clear HO263; clear HO267; clear HO275; clear BK228; clear BK229; clear BK276; clear BK277; clear HB; have HO_8 := n0_; have HO_11 := n1_; have HO_230002 := n2_; have HL260_2 := n3_; have HO263 := n4_; have HO267 := n5_; have HO275 := n6_; have BK228 := n7_; have BK229 := n8_; have BK276 := n9_; have BK277 := n10_; have HB := n11_; clear n0_ n1_ n2_ n3_ n4_ n5_ n6_ n7_ n8_ n9_ n10_ n11_; (try clear hb); (try clear hb2); (try clear hk); (try clear hi)))
                       all_goals first | (go_ret; refine ⟨?_, ?_⟩; (focus (first | rfl | (simp [errW_none, errW_some] <;> rfl) | (rw [HRL_.out] <;> rfl) | (simp only [HRL_.out] <;> rfl) | (have h_ := HRL_.out; simp at h_; simp [h_]; done) | (have h_ := HRL_.out; simp [*] at h_ ⊢; done) | (simp only [← hji29]; first | rfl | (simp [errW_none, errW_some] <;> rfl)) | (simp [*, errW_none, errW_some] <;> rfl))); (focus (repeat (first | (with_reducible first | exact HB.out | apply bA | apply bN | apply bD | refine bS ?_ GE228.out | refine bS ?_ GE229.out | refine bS ?_ GE276.out | refine bS ?_ GE277.out) | exact HB.out)))) | (exfalso; simp_all; done)
                      ·
                       rw [if_neg c80] at H
                       have c80b0 : (t271 == 0) = false := beq_eq_false_iff_ne.mpr c80
                       have c80b1 : (t271 != 0) = true := bne_iff_ne.mpr c80
                       exact absurd H (by simp)
                     ·
                      rw [if_neg c79] at H
                      have c79b0 : (t270 == 0) = false := beq_eq_false_iff_ne.mpr c79
                      have c79b1 : (t270 != 0) = true := bne_iff_ne.mpr c79
                      exact absurd H (by simp)
                    ·
                     replace c78 := Bool.eq_false_iff.mpr c78
                     subst c78
                     have H1 : (some false) = some true := by rw [if_neg (show ¬ (false = true) by decide)] at H; first | done | exact H
                     clear H
                     have H := H1
                     clear H1
                     exact absurd H (by simp)
                   ·
                    rw [if_neg c76] at H
                    exact absurd H (by simp)
                  ·
                   rw [if_neg c75] at H
                   exact absurd H (by simp)
                 ·
                  rw [if_neg c74] at H
                  exact absurd H (by simp)
                ·
                 rw [if_neg c73] at H
                 exact absurd H (by simp)
               ·
                replace c72 := Bool.eq_false_iff.mpr c72
                subst c72
                have H1 : (if 0 ≤ ji29 then (if ji29 < (t231.length : Int) then (if y251.length < 3518437208883 then ((attr_Judge.f (y251 ++ [(⟨0, (rd_T24 t231 ji29).f1, l2_2⟩ : S24)])).bind fun bt283 => (if t230 = true then (if bt283.2.2.2.2.1 = 0 then (if bt283.2.2.2.2.2.1 = 0 then ((ridgewayref07_SamePath.f kj35 bt283.1 bt283.2.1 bt283.2.2.1 bt283.2.2.2.1 a0_0 l0_1 a0_2 a0_3).bind fun t297 => (some t297)) else (some false)) else (some false)) else (some false))) else (none)) else (none)) else (none)) = some true := by rw [if_neg (show ¬ (false = true) by decide)] at H; first | done | exact H
                clear H
                have H := H1
                clear H1
                by_cases c105 : 0 ≤ ji29
                ·
                 rw [if_pos c105] at H
                 have c105b0 : decide (0 ≤ ji29) = true := decide_eq_true c105
                 clear c105
                 by_cases c106 : ji29 < (t231.length : Int)
                 ·
                  rw [if_pos c106] at H
                  have c106b0 : decide (ji29 < (t231.length : Int)) = true := decide_eq_true c106
                  clear c106
                  by_cases c107 : y251.length < 3518437208883
                  ·
                   rw [if_pos c107] at H
                   have LMc107 := Aside0.mk c107
                   clear c107
                   obtain ⟨y280, hy280⟩ : ∃ y_ : List (S24), y_ = (y251 ++ [(⟨0, (rd_T24 t231 ji29).f1, l2_2⟩ : S24)]) := ⟨_, rfl⟩
                   replace H : ((attr_Judge.f y280).bind fun bt283 => (if t230 = true then (if bt283.2.2.2.2.1 = 0 then (if bt283.2.2.2.2.2.1 = 0 then ((ridgewayref07_SamePath.f kj35 bt283.1 bt283.2.1 bt283.2.2.1 bt283.2.2.2.1 a0_0 l0_1 a0_2 a0_3).bind fun t297 => (some t297)) else (some false)) else (some false)) else (some false))) = some true := by first | (rw [hy280]; with_reducible exact H) | (have H2_ := (Option.bind_some _ _).symm.trans H; rw [hy280]; with_reducible exact H2_) | (have H2_ := (Option.bind_some _ _).symm.trans H; with_reducible exact H2_) | with_reducible exact H | (rw [hy280]; exact H) | exact H
                   have Ny280 := Aside0.mk hy280
                   clear hy280
                   replace H := Option.bind_eq_some_iff.mp H
                   obtain ⟨⟨t283, t284, t287, t288, t289, t290, t291, t292⟩, A1080, H⟩ := H
                   replace H : (if t230 = true then (if t289 = 0 then (if t290 = 0 then ((ridgewayref07_SamePath.f kj35 t283 t284 t287 t288 a0_0 l0_1 a0_2 a0_3).bind fun t297 => (some t297)) else (some false)) else (some false)) else (some false)) = some true := H
                   have A108 := Aside0.mk A1080
                   clear A1080
                   by_cases c109 : t230 = true
                   ·
                    subst c109
                    have H1 : (if t289 = 0 then (if t290 = 0 then ((ridgewayref07_SamePath.f kj35 t283 t284 t287 t288 a0_0 l0_1 a0_2 a0_3).bind fun t297 => (some t297)) else (some false)) else (some false)) = some true := by rw [if_pos rfl] at H; first | done | exact H
                    clear H
                    have H := H1
                    clear H1
                    by_cases c110 : t289 = 0
                    ·
                     rw [if_pos c110] at H
                     have c110b0 : (t289 == 0) = true := beq_iff_eq.mpr c110
                     have c110b1 : (t289 != 0) = false := bne_eq_false_iff_eq.mpr c110
                     clear c110
                     by_cases c111 : t290 = 0
                     ·
                      rw [if_pos c111] at H
                      have c111b0 : (t290 == 0) = true := beq_iff_eq.mpr c111
                      have c111b1 : (t290 != 0) = false := bne_eq_false_iff_eq.mpr c111
                      clear c111
                      replace H := Option.bind_eq_some_iff.mp H
                      obtain ⟨t297, A1120, H⟩ := H
                      replace H : (some t297) = some true := H
                      have A112 := Aside0.mk A1120
                      clear A1120
                      have HRL_ := Aside0.mk (Option.some.inj H)
                      clear H
                      try go_wp2
                      have n0_ := Aside0.mk (Kd.N_drew HO_8.out)
                      have n1_ := Aside0.mk (Kd.N_drew HO_11.out)
                      have n2_ := Aside0.mk (Kd.V_drew HO_230002.out)
                      have n3_ := Aside0.mk (blk_drew BK228.out)
                      have n4_ := Aside0.mk (blk_drew BK229.out)
                      have n5_ := Aside0.mk (below_drew1 HB.out)
                      clear HO_8
                      clear HO_11
                      clear HO_230002
                      clear BK228
                      clear BK229
                      clear HB
                      have HO_8 := n0_
                      have HO_11 := n1_
                      have HO_230002 := n2_
                      have BK228 := n3_
                      have BK229 := n4_
                      have HB := n5_
                      clear n0_ n1_ n2_ n3_ n4_ n5_
                      have p279 : 0 ≤ (ji29 : Int) := of_decide_eq_true (by first | (with_reducible assumption) | assumption)
                      have q279 : ji29 < (t231.length : Int) := of_decide_eq_true (by first | (with_reducible assumption) | assumption)
                      obtain ⟨ad279, A279_2, c279_2, e279, hx279_0, hx279_1, hx279_2, hl279_2, hi279_2⟩ := at_T24 (Kd.N_reads' HO_8.out).2.2 ji29 p279 q279
                      cases e279
                      obtain ⟨ce279, hce279, hMe279, hcc279⟩ := Kd.N_get HO_8.out z24 ji29 p279 (by first | exact q279 | exact of_decide_eq_true (by first | (with_reducible assumption) | assumption) | (have e_ := (Kd.N_reads' HO_8.out).1; omega))
                      obtain ⟨ua279_2, uc279_2, rfl, ul279_2, ge279_2⟩ := k24_openF hMe279
                      have hv279_2 := hcc279 2 _ rfl
                      rw [add_field _ _ 2 (by omega)] at hv279_2
                      replace hv279_2 := Option.some.inj (hv279_2.symm.trans hx279_2)
                      injection hv279_2 with hva_ hvn_ hvc_
                      rw [hva_] at ge279_2
                      rw [hvc_] at ul279_2
                      have HL279_2 := Aside0.mk (show Kd.V (Kd.int .u8) 5 _ w.heap.size _ _ ((rd_T24 t231 ji29).f2) from Kd.V_mk ul279_2 ge279_2)
                      clear hva_ hvn_ hvc_ ge279_2 ul279_2
                      clear hcc279 hce279
                      have HR279_2 := Aside0.mk hi279_2
                      have HC279_2 := Aside0.mk hl279_2
                      clear hi279_2 hl279_2
                      replace p279 := eq_true p279
                      replace q279 := eq_true q279
                      refine start_ (n := 12) (S := fun w' => w'.cell? ⟨gb229, 0, none⟩ = some (.int .i64 a2_0) ∧ w'.cell? ⟨gb229, 1, none⟩ = some (.int .i64 a2_1) ∧ w'.cell? ⟨gb229, 2, none⟩ = some (.slice A2_2 l2_2.length c2_2) ∧ w'.cell? (ad279.add ((ji29).toNat * 3)) = some (.int .i64 ((rd_T24 t231 ji29).f0)) ∧ w'.cell? ⟨(ad279.add ((ji29).toNat * 3)).block, (ad279.add ((ji29).toNat * 3)).off + 1, none⟩ = some (.int .i64 ((rd_T24 t231 ji29).f1)) ∧ w'.cell? ⟨(ad279.add ((ji29).toNat * 3)).block, (ad279.add ((ji29).toNat * 3)).off + 2, none⟩ = some (.slice A279_2 ((rd_T24 t231 ji29).f2).length c279_2)) (ds := [9, 10]) #[false, false, false, false, false, false, false, false, false, false, false, false] (by kernel_rfl) rfl rfl ⟨(blk_cell BK229.out 0).trans rfl, (blk_cell BK229.out 1).trans rfl, (blk_cell BK229.out 2).trans rfl, hx279_0, hx279_1, hx279_2⟩ (fun hHeld => ?_); refine with_tabW ridgewaylaw07_AttrSays.tab15 ridgewaylaw07_AttrSays.bits15 (fun HT_ HW_ => ?_)
                      generalize wc.drew = w113 at HO_8 HO_11 HO_230002 BK228 BK229 HB HL279_2 HR279_2 hx279_0 hx279_1 hx279_2 hHeld ⊢
                      refine pure_ (i := 0) (N := some 98) (v := ?_) (a' := ?_) #[true, false, false, false, false, false, false, false, false, false, false, false] rfl rfl (any_of HT_.out (by kernel_rfl)) (fun _ _ _ h => h) (Or.inl ⟨by rfl, ?_⟩) ?_ ?_
                      rotate_left
                      ·
                       intro w'
                       go_simp
                       with_reducible rfl
                      rotate_left
                      ·
                       simp only [Act.put, sA, sB, sC, i64_w, i32_w]
                       rfl
                      refine pure_ (i := 1) (N := some 99) (v := ?_) (a' := ?_) #[true, true, false, false, false, false, false, false, false, false, false, false] rfl rfl (any_of HT_.out (by kernel_rfl)) (fun _ _ _ h => h) (Or.inl ⟨by rfl, ?_⟩) ?_ ?_
                      rotate_left
                      ·
                       intro w'
                       go_simp
                       with_reducible rfl
                      rotate_left
                      ·
                       simp only [Act.put, sA, sB, sC, i64_w, i32_w]
                       rfl
                      refine pure_ (i := 2) (N := some 100) (v := ?_) (a' := ?_) #[true, true, true, false, false, false, false, false, false, false, false, false] rfl rfl (any_of HT_.out (by kernel_rfl)) (fun _ _ _ h => h) (Or.inl ⟨by rfl, ?_⟩) ?_ ?_
                      rotate_left
                      ·
                       intro w'
                       go_simp
                       with_reducible rfl
                      rotate_left
                      ·
                       simp only [Act.put, sA, sB, sC, i64_w, i32_w]
                       rfl
                      refine pure_ (i := 3) (N := some 101) (v := ?_) (a' := ?_) #[true, true, true, true, false, false, false, false, false, false, false, false] rfl rfl (any_of HT_.out (by kernel_rfl)) (fun _ _ _ h => h) (Or.inl ⟨by rfl, ?_⟩) ?_ ?_
                      rotate_left
                      ·
                       intro w'
                       go_simp
                       with_reducible rfl
                      rotate_left
                      ·
                       simp only [Act.put, sA, sB, sC, i64_w, i32_w]
                       rfl
                      refine pure_ (i := 4) (N := some 102) (v := ?_) (a' := ?_) #[true, true, true, true, true, false, false, false, false, false, false, false] rfl rfl (any_of HT_.out (by kernel_rfl)) (fun _ _ _ h => h) (Or.inl ⟨by rfl, ?_⟩) ?_ ?_
                      rotate_left
                      ·
                       intro w'
                       go_simp
                       with_reducible rfl
                      rotate_left
                      ·
                       simp only [Act.put, sA, sB, sC, i64_w, i32_w]
                       rfl
                      refine pure_ (i := 6) (N := some 104) (v := ?_) (a' := ?_) #[true, true, true, true, true, false, true, false, false, false, false, false] rfl rfl (any_of HT_.out (by kernel_rfl)) (fun _ _ _ h => h) (Or.inl ⟨by rfl, ?_⟩) ?_ ?_
                      rotate_left
                      ·
                       intro w'
                       go_simp
                       with_reducible rfl
                      rotate_left
                      ·
                       simp only [Act.put, sA, sB, sC, i64_w, i32_w]
                       rfl
                      refine take_ (i := 5) (N := some 103) (v := ?_) (a' := ?_) #[true, true, true, true, true, true, true, false, false, false, false, false] rfl rfl (take_ofW HT_.out HW_.out (by kernel_rfl)) (fun _ _ _ h => h) (Or.inl ⟨by rfl, ?_⟩) hHeld ?_ ?_
                      rotate_left
                      ·
                       rintro w' ⟨s0, s1, s2, s3, s4, s5⟩
                       go_simp
                       with_reducible rfl
                      rotate_left
                      ·
                       simp only [Act.put, sA, sB, sC, i64_w, i32_w]
                       rfl
                      refine take_ (i := 7) (N := some 105) (v := ?_) (a' := ?_) #[true, true, true, true, true, true, true, true, false, false, false, false] rfl rfl (take_ofW HT_.out HW_.out (by kernel_rfl)) (fun _ _ _ h => h) (Or.inl ⟨by rfl, ?_⟩) hHeld ?_ ?_
                      rotate_left
                      ·
                       rintro w' ⟨s0, s1, s2, s3, s4, s5⟩
                       go_simp
                       with_reducible rfl
                      rotate_left
                      ·
                       simp only [Act.put, sA, sB, sC, i64_w, i32_w]
                       rfl
                      refine pure_ (i := 8) (N := some 106) (v := ?_) (a' := ?_) #[true, true, true, true, true, true, true, true, true, false, false, false] rfl rfl (any_of HT_.out (by kernel_rfl)) (fun _ _ _ h => h) (Or.inl ⟨by rfl, ?_⟩) ?_ ?_
                      rotate_left
                      ·
                       intro w'
                       go_simp
                       with_reducible rfl
                      rotate_left
                      ·
                       simp only [Act.put, sA, sB, sC, i64_w, i32_w]
                       rfl
                      refine last_ (i := 9) (N := some 107) #[true, true, true, true, true, true, true, true, true, true, false, false] rfl rfl (one_of HT_.out (by kernel_rfl)) (by decide) (fun K hK => ?_)
                      refine value_ (w1 := ?_) (v := ?_) (by rfl) rfl ?_ ?_
                      rotate_left 2
                      ·
                       go_simp
                       constructor
                       ·
                        rfl
                       ·
                        rfl
                      refine hK.out _ _ ?_
                      clear hK K
                      refine norm_ (a' := ?_) ?_ ?_
                      rotate_left
                      ·
                       show Act.put _ (some 107) _ = _
                       simp only [Act.put, sA, sB, sC, i64_w, i32_w]
                       rfl
                      refine last_ (i := 10) (N := some 108) #[true, true, true, true, true, true, true, true, true, true, true, false] rfl rfl (one_of HT_.out (by kernel_rfl)) (by decide) (fun K hK => ?_)
                      refine Kd.N_append_step k24 (w0 := w) w.heap.size (by rfl) (.tmp 98) (.tmp 107) 31 24 (.agg #[(.int .i64 0), (.int .i64 0), (.slice none 0 0)]) 40 rfl Try.underlying31 info24 rfl (by decide) (by omega) v252 y251 (⟨0, (rd_T24 t231 ji29).f1, l2_2⟩ : S24) [.int .i64 0, .int .i64 ((rd_T24 t231 ji29).f1), .slice A2_2 l2_2.length c2_2] (fun k_ => (P2_2_ k_ ∨ w.heap.size ≤ k_) ∧ k_ ≠ gb228 ∧ k_ ≠ gb229) (fun k_ => ((fun k_ => (P2_2_ k_ ∨ w.heap.size ≤ k_) ∧ k_ ≠ gb228 ∧ k_ ≠ gb229)) k_ ∧ some k_ ≠ (v252 : Value).ownBlock) rfl rfl ?aP (fun _ hk => hk) ?aF ?aO ?aB ?aS ?aL ?_
                      (case aP => exact (k24_mkF _ _ (⟨0, (rd_T24 t231 ji29).f1, l2_2⟩ : S24) (Kd.V_reads' (Kd.V_mono (ok' := (fun k_ => ((fun k_ => (P2_2_ k_ ∨ w.heap.size ≤ k_) ∧ k_ ≠ gb228 ∧ k_ ≠ gb229)) k_ ∧ some k_ ≠ (v252 : Value).ownBlock)) (HO_230002.out) (fun k_ hk => ⟨⟨hk.1, ⟨hk.2.2.2.1, hk.2.2.2.2⟩⟩, hk.2.2.1⟩))).2.1 (Kd.V_F (Kd.V_mono (ok' := (fun k_ => ((fun k_ => (P2_2_ k_ ∨ w.heap.size ≤ k_) ∧ k_ ≠ gb228 ∧ k_ ≠ gb229)) k_ ∧ some k_ ≠ (v252 : Value).ownBlock)) (HO_230002.out) (fun k_ hk => ⟨⟨hk.1, ⟨hk.2.2.2.1, hk.2.2.2.2⟩⟩, hk.2.2.1⟩)))))
                      (case aB => exact (by repeat (first | (with_reducible first | exact HB.out | apply bA | apply bN | apply bD | refine bS ?_ GE228.out | refine bS ?_ GE229.out) | exact HB.out)))
                      (case aF => exact (fun k_ hk => ⟨(.inr (Nat.le_trans (below_size (by repeat (first | (with_reducible first | exact HB.out | apply bA | apply bN | apply bD | refine bS ?_ GE228.out | refine bS ?_ GE229.out) | exact HB.out))) hk)), Kd.freshB (g := gb228) (o := .cells #[.int .i64 a0_0, .slice A0_1 l0_1.length c0_1, .int .i64 a0_2, .int .i64 a0_3] 27 (0, 0)) (by (with_reducible repeat (first | refine kN ?_ _ | refine kD ?_ | refine kA ?_ _)); exact BK228.out) k_ hk, Kd.freshB (g := gb229) (o := .cells #[.int .i64 a2_0, .int .i64 a2_1, .slice A2_2 l2_2.length c2_2] 24 (0, 0)) (by (with_reducible repeat (first | refine kN ?_ _ | refine kD ?_ | refine kA ?_ _)); exact BK229.out) k_ hk⟩))
                      (case aO => exact (by (with_reducible repeat (first | apply Kd.N_alloc | apply Kd.N_drewN | apply Kd.N_drew)); exact HO_11.out))
                      (case aS => exact (below_size (by repeat (first | (with_reducible first | exact HB.out | apply bA | apply bN | apply bD | refine bS ?_ GE228.out | refine bS ?_ GE229.out) | exact HB.out))))
                      (case aL => have := LMc107.out; omega)
                      intro v281 w114 ho hb hg hat
                      rw [← Ny280.out] at ho
                      have n0_ := Aside0.mk (Kd.N_afterv (ok := (fun k_ => (P2_2_ k_ ∨ w.heap.size ≤ k_) ∧ k_ ≠ gb228 ∧ k_ ≠ gb229)) (by (with_reducible repeat (first | apply Kd.N_alloc | apply Kd.N_drewN | apply Kd.N_drew)); exact Kd.N_mono HO_8.out (fun _ hk => ⟨⟨hk.1, ⟨hk.2.2.1, hk.2.2.2⟩⟩, hk.2.1⟩)) hg hat)
                      have n1_ := Aside0.mk (Kd.V_afterv (ok := (fun k_ => (P2_2_ k_ ∨ w.heap.size ≤ k_) ∧ some k_ ≠ (.slice (some ad279) t231.length co25 : Value).ownBlock ∧ k_ ≠ gb228 ∧ k_ ≠ gb229)) (by (with_reducible repeat (first | apply Kd.V_alloc | apply Kd.V_drewN | apply Kd.V_drew)); exact Kd.V_mono HO_230002.out (fun _ hk => ⟨⟨hk.1, ⟨hk.2.1, ⟨hk.2.2.2.1, hk.2.2.2.2⟩⟩⟩, hk.2.2.1⟩)) hg hat)
                      have n2_ := Aside0.mk (blk_grown (g := gb228) (o := .cells #[.int .i64 a0_0, .slice A0_1 l0_1.length c0_1, .int .i64 a0_2, .int .i64 a0_3] 27 (0, 0)) (by (with_reducible repeat (first | refine kN ?_ _ | refine kD ?_ | refine kA ?_ _)); exact BK228.out) hg (Kd.N_ne HO_11.out BK228.out (by decide)))
                      have n3_ := Aside0.mk (blk_grown (g := gb229) (o := .cells #[.int .i64 a2_0, .int .i64 a2_1, .slice A2_2 l2_2.length c2_2] 24 (0, 0)) (by (with_reducible repeat (first | refine kN ?_ _ | refine kD ?_ | refine kA ?_ _)); exact BK229.out) hg (Kd.N_away HO_11.out (fun _ hk => hk.2.2)))
                      have n4_ := Aside0.mk (Kd.V_afterv (ok := (fun k_ => (P2_2_ k_ ∨ w.heap.size ≤ k_) ∧ some k_ ≠ (.slice (some ad279) t231.length co25 : Value).ownBlock ∧ k_ ≠ gb228 ∧ k_ ≠ gb229)) (by (with_reducible repeat (first | apply Kd.V_alloc | apply Kd.V_drewN | apply Kd.V_drew)); exact Kd.V_mono HL279_2.out (fun _ hk => ⟨⟨hk.1.1, ⟨hk.2, ⟨hk.1.2.2.1, hk.1.2.2.2⟩⟩⟩, hk.1.2.1⟩)) hg hat)
                      have n5_ := Aside0.mk (hb)
                      have n6_ := Aside0.mk (ho)
                      clear HO_8
                      clear HO_230002
                      clear BK228
                      clear BK229
                      clear HL279_2
                      clear HB
                      clear HO_11
                      have HO_8 := n0_
                      have HO_230002 := n1_
                      have BK228 := n2_
                      have BK229 := n3_
                      have HL279_2 := n4_
                      have HB := n5_
                      have HO282 := n6_
                      clear n0_ n1_ n2_ n3_ n4_ n5_ n6_
                      clear ho hb hg hat
                      refine hK.out _ _ ?_
                      clear hK K
                      refine norm_ (a' := ?_) ?_ ?_
                      rotate_left
                      ·
                       show Act.put _ (some 108) _ = _
                       simp only [Act.put, sA, sB, sC, i64_w, i32_w]
                       rfl
                      refine pure_ (i := 11) (N := some 11) (v := ?_) (a' := ?_) #[true, true, true, true, true, true, true, true, true, true, true, true] rfl rfl (any_of HT_.out (by kernel_rfl)) (fun _ _ _ h => h) (Or.inl ⟨by rfl, ?_⟩) ?_ ?_
                      rotate_left
                      ·
                       intro w'
                       go_simp
                       with_reducible rfl
                      rotate_left
                      ·
                       simp only [Act.put, sA, sB, sC, i64_w, i32_w]
                       rfl
                      refine done_ (done_of HT_.out (by kernel_rfl)) ?_
                      obtain ⟨Ao115, co115, eo115⟩ := Kd.N_slice HO282.out
                      subst eo115
                      try go_wp2_with (first | ((with_reducible refine gate_callee (f := 23) rfl ?_); refine goesL_ (some 111) rfl rfl Try.func23 (by kernel_rfl) rfl #[.slice Ao115 y280.length co115] rfl (by (try simp only [List.map_toArray, List.map_cons, List.map_nil]); first | done | rfl | (simp only [List.length_drop, List.length_take]; rfl) | (simp only [Ny280.out, List.length_set]; first | done | rfl)) ?_; (with_reducible refine (attr_Judge.calls _ _ y280 t283 t284 t287 t288 t289 t290 t291 t292 _ ?side1 ?side2 A108.out).mono ?_); (case side1 => repeat (first | exact (Kd.N_reads' HO282.out).2.2 | (with_reducible refine Kd.C_alloc ?_ _) | (with_reducible refine Kd.C_drewN ?_ _) | (with_reducible refine Kd.C_drew ?_))); (case side2 => exact (Kd.N_reads' HO282.out).2.1); rintro e w116 ⟨v285, v293, rfl, ho0, ho1, hb⟩; refine ⟨_, rfl, ?_⟩; have n0_ := Aside0.mk (Kd.N_below (by (with_reducible repeat (first | apply Kd.N_alloc | apply Kd.N_drewN | apply Kd.N_drew)); exact HO_8.out) hb); have n1_ := Aside0.mk (Kd.V_below (by (with_reducible repeat (first | apply Kd.V_alloc | apply Kd.V_drewN | apply Kd.V_drew)); exact HO_230002.out) hb); have n2_ := Aside0.mk (Kd.V_below (by (with_reducible repeat (first | apply Kd.V_alloc | apply Kd.V_drewN | apply Kd.V_drew)); exact HL279_2.out) hb); have n3_ := Aside0.mk (Kd.N_below (by (with_reducible repeat (first | apply Kd.N_alloc | apply Kd.N_drewN | apply Kd.N_drew)); exact HO282.out) hb); have n4_ := Aside0.mk (Kd.V_lower (Kd.V_mono (ok' := fun k_ => (P2_2_ k_ ∨ w.heap.size ≤ k_) ∧ some k_ ≠ (.slice (some ad279) t231.length co25 : Value).ownBlock ∧ some k_ ≠ (.slice Ao115 y280.length co115 : Value).ownBlock ∧ k_ ≠ gb228 ∧ k_ ≠ gb229) ho0 (fun k_ hk_ => ⟨(.inr (Nat.le_trans (below_size (by repeat (first | (with_reducible first | exact HB.out | apply bA | apply bN | apply bD | refine bS ?_ GE228.out | refine bS ?_ GE229.out) | exact HB.out))) hk_)), (Kd.fresh' (Kd.N_lt (by (with_reducible repeat (first | apply Kd.N_alloc | apply Kd.N_drewN | apply Kd.N_drew)); exact HO_8.out)) k_ hk_), (Kd.fresh' (Kd.N_lt (by (with_reducible repeat (first | apply Kd.N_alloc | apply Kd.N_drewN | apply Kd.N_drew)); exact HO282.out)) k_ hk_), (Kd.freshB (g := gb228) (o := .cells #[.int .i64 a0_0, .slice A0_1 l0_1.length c0_1, .int .i64 a0_2, .int .i64 a0_3] 27 (0, 0)) (by (with_reducible repeat (first | refine kN ?_ _ | refine kD ?_ | refine kA ?_ _)); exact BK228.out) k_ hk_), (Kd.freshB (g := gb229) (o := .cells #[.int .i64 a2_0, .int .i64 a2_1, .slice A2_2 l2_2.length c2_2] 24 (0, 0)) (by (with_reducible repeat (first | refine kN ?_ _ | refine kD ?_ | refine kA ?_ _)); exact BK229.out) k_ hk_)⟩)) (below_size (by repeat (first | (with_reducible first | exact HB.out | apply bA | apply bN | apply bD | refine bS ?_ GE228.out | refine bS ?_ GE229.out) | exact HB.out)))); have n5_ := Aside0.mk (Kd.V_lower (Kd.V_mono (ok' := fun k_ => (P2_2_ k_ ∨ w.heap.size ≤ k_) ∧ some k_ ≠ (.slice (some ad279) t231.length co25 : Value).ownBlock ∧ some k_ ≠ (.slice Ao115 y280.length co115 : Value).ownBlock ∧ k_ ≠ gb228 ∧ k_ ≠ gb229) ho1 (fun k_ hk_ => ⟨(.inr (Nat.le_trans (below_size (by repeat (first | (with_reducible first | exact HB.out | apply bA | apply bN | apply bD | refine bS ?_ GE228.out | refine bS ?_ GE229.out) | exact HB.out))) hk_)), (Kd.fresh' (Kd.N_lt (by (with_reducible repeat (first | apply Kd.N_alloc | apply Kd.N_drewN | apply Kd.N_drew)); exact HO_8.out)) k_ hk_), (Kd.fresh' (Kd.N_lt (by (with_reducible repeat (first | apply Kd.N_alloc | apply Kd.N_drewN | apply Kd.N_drew)); exact HO282.out)) k_ hk_), (Kd.freshB (g := gb228) (o := .cells #[.int .i64 a0_0, .slice A0_1 l0_1.length c0_1, .int .i64 a0_2, .int .i64 a0_3] 27 (0, 0)) (by (with_reducible repeat (first | refine kN ?_ _ | refine kD ?_ | refine kA ?_ _)); exact BK228.out) k_ hk_), (Kd.freshB (g := gb229) (o := .cells #[.int .i64 a2_0, .int .i64 a2_1, .slice A2_2 l2_2.length c2_2] 24 (0, 0)) (by (with_reducible repeat (first | refine kN ?_ _ | refine kD ?_ | refine kA ?_ _)); exact BK229.out) k_ hk_)⟩)) (below_size (by repeat (first | (with_reducible first | exact HB.out | apply bA | apply bN | apply bD | refine bS ?_ GE228.out | refine bS ?_ GE229.out) | exact HB.out)))); have n6_ := Aside0.mk (blk_below (g := gb228) (o := .cells #[.int .i64 a0_0, .slice A0_1 l0_1.length c0_1, .int .i64 a0_2, .int .i64 a0_3] 27 (0, 0)) (by (with_reducible repeat (first | refine kN ?_ _ | refine kD ?_ | refine kA ?_ _)); exact BK228.out) hb); have n7_ := Aside0.mk (blk_below (g := gb229) (o := .cells #[.int .i64 a2_0, .int .i64 a2_1, .slice A2_2 l2_2.length c2_2] 24 (0, 0)) (by (with_reducible repeat (first | refine kN ?_ _ | refine kD ?_ | refine kA ?_ _)); exact BK229.out) hb); have n8_ := Aside0.mk (below_step (by repeat (first | (with_reducible first | exact HB.out | apply bA | apply bN | apply bD | refine bS ?_ GE228.out | refine bS ?_ GE229.out) | exact HB.out)) hb); clear HO_8; clear HO_230002; clear HL279_2; clear HO282; clear BK228; clear BK229; clear HB; have HO_8 := n0_; have HO_230002 := n1_; have HL279_2 := n2_; have HO282 := n3_; have HO286 := n4_; have HO294 := n5_; have BK228 := n6_; have BK229 := n7_; have HB := n8_; clear n0_ n1_ n2_ n3_ n4_ n5_ n6_ n7_ n8_; (try clear hb); (try clear hb2); (try clear hk); (try clear hi); (try clear ho0); (try clear ho1)) | ((with_reducible refine gate_dst (N := 12) rfl ?_); (try (refine gate_guard (by rfl) ?_; dsimp only)); refine box_event ?hg (N := 12) ?hd (cs := #[.int .i64 0, .slice none 0 0, .int .i64 0, .int .i64 0]) (t := 27) ?hr ?_; (case hd => rfl); (case hg => rfl); (case hr => first | (go_simp; done) | (go_simp; rfl)); intro gb295 hg w117 hbox hb; have n0_ := Aside0.mk (Kd.N_below (Kd.N_elderB (by (with_reducible repeat (first | apply Kd.N_alloc | apply Kd.N_drewN | apply Kd.N_drew)); exact HO_8.out) gb295 (Nat.le_of_eq hg.symm)) hb); have n1_ := Aside0.mk (Kd.V_below (Kd.V_elderB (by (with_reducible repeat (first | apply Kd.V_alloc | apply Kd.V_drewN | apply Kd.V_drew)); exact HO_230002.out) gb295 (Nat.le_of_eq hg.symm)) hb); have n2_ := Aside0.mk (Kd.V_below (Kd.V_elderB (by (with_reducible repeat (first | apply Kd.V_alloc | apply Kd.V_drewN | apply Kd.V_drew)); exact HL279_2.out) gb295 (Nat.le_of_eq hg.symm)) hb); have n3_ := Aside0.mk (Kd.N_below (Kd.N_elderB (by (with_reducible repeat (first | apply Kd.N_alloc | apply Kd.N_drewN | apply Kd.N_drew)); exact HO282.out) gb295 (Nat.le_of_eq hg.symm)) hb); have n4_ := Aside0.mk (Kd.V_below (Kd.V_elderB (by (with_reducible repeat (first | apply Kd.V_alloc | apply Kd.V_drewN | apply Kd.V_drew)); exact HO286.out) gb295 (Nat.le_of_eq hg.symm)) hb); have n5_ := Aside0.mk (Kd.V_below (Kd.V_elderB (by (with_reducible repeat (first | apply Kd.V_alloc | apply Kd.V_drewN | apply Kd.V_drew)); exact HO294.out) gb295 (Nat.le_of_eq hg.symm)) hb); have n6_ := Aside0.mk (blk_below (g := gb228) (o := .cells #[.int .i64 a0_0, .slice A0_1 l0_1.length c0_1, .int .i64 a0_2, .int .i64 a0_3] 27 (0, 0)) (by (with_reducible repeat (first | refine kN ?_ _ | refine kD ?_ | refine kA ?_ _)); exact BK228.out) hb); have n7_ := Aside0.mk (blk_below (g := gb229) (o := .cells #[.int .i64 a2_0, .int .i64 a2_1, .slice A2_2 l2_2.length c2_2] 24 (0, 0)) (by (with_reducible repeat (first | refine kN ?_ _ | refine kD ?_ | refine kA ?_ _)); exact BK229.out) hb); have n8_ := Aside0.mk (below_step (by repeat (first | (with_reducible first | exact HB.out | apply bA | apply bN | apply bD | refine bS ?_ GE228.out | refine bS ?_ GE229.out) | exact HB.out)) hb); have n9_ := Aside0.mk (hbox); have n10_ := Aside0.mk ((by rw [hg]; exact (below_size (by repeat (first | (with_reducible first | exact HB.out | apply bA | apply bN | apply bD | refine bS ?_ GE228.out | refine bS ?_ GE229.out) | exact HB.out))) : w.heap.size ≤ gb295)); have n11_ := Aside0.mk ((by rw [hg]; exact (below_size (by repeat (first | (with_reducible first | exact HB.out | apply bA | apply bN | apply bD | refine bS ?_ GE228.out | refine bS ?_ GE229.out) | exact HB.out))) : w.heap.size ≤ gb295)); have n12_ := Aside0.mk ((by rw [hg]; exact Nat.ne_of_lt (blk_lt (g := gb228) (o := .cells #[.int .i64 a0_0, .slice A0_1 l0_1.length c0_1, .int .i64 a0_2, .int .i64 a0_3] 27 (0, 0)) (by (with_reducible repeat (first | refine kN ?_ _ | refine kD ?_ | refine kA ?_ _)); exact BK228.out)) : gb228 ≠ gb295)); have n13_ := Aside0.mk ((by rw [hg]; exact Nat.ne_of_gt (blk_lt (g := gb228) (o := .cells #[.int .i64 a0_0, .slice A0_1 l0_1.length c0_1, .int .i64 a0_2, .int .i64 a0_3] 27 (0, 0)) (by (with_reducible repeat (first | refine kN ?_ _ | refine kD ?_ | refine kA ?_ _)); exact BK228.out)) : gb295 ≠ gb228)); have n14_ := Aside0.mk ((by rw [hg]; exact Nat.ne_of_lt (blk_lt (g := gb229) (o := .cells #[.int .i64 a2_0, .int .i64 a2_1, .slice A2_2 l2_2.length c2_2] 24 (0, 0)) (by (with_reducible repeat (first | refine kN ?_ _ | refine kD ?_ | refine kA ?_ _)); exact BK229.out)) : gb229 ≠ gb295)); have n15_ := Aside0.mk ((by rw [hg]; exact Nat.ne_of_gt (blk_lt (g := gb229) (o := .cells #[.int .i64 a2_0, .int .i64 a2_1, .slice A2_2 l2_2.length c2_2] 24 (0, 0)) (by (with_reducible repeat (first | refine kN ?_ _ | refine kD ?_ | refine kA ?_ _)); exact BK229.out)) : gb295 ≠ gb229)); clear HO_8; clear HO_230002; clear HL279_2; clear HO282; clear HO286; clear HO294; clear BK228; clear BK229; clear HB; have HO_8 := n0_; have HO_230002 := n1_; have HL279_2 := n2_; have HO282 := n3_; have HO286 := n4_; have HO294 := n5_; have BK228 := n6_; have BK229 := n7_; have HB := n8_; have BK295 := n9_; have GW295 := n10_; have GE295 := n11_; have NB228_295 := n12_; have NB295_228 := n13_; have NB229_295 := n14_; have NB295_229 := n15_; clear n0_ n1_ n2_ n3_ n4_ n5_ n6_ n7_ n8_ n9_ n10_ n11_ n12_ n13_ n14_ n15_; clear hb hbox hg) | ((with_reducible refine gate_dst (N := 14) rfl ?_); (try (refine gate_guard (by rfl) ?_; dsimp only)); refine box_event ?hg (N := 14) ?hd (cs := #[.int .i64 0, .int .i64 0, .slice none 0 0]) (t := 41) ?hr ?_; (case hd => rfl); (case hg => rfl); (case hr => first | (go_simp; done) | (go_simp; rfl)); intro gb296 hg w118 hbox hb; have n0_ := Aside0.mk (Kd.N_below (Kd.N_elderB (by (with_reducible repeat (first | apply Kd.N_alloc | apply Kd.N_drewN | apply Kd.N_drew)); exact HO_8.out) gb296 (Nat.le_of_eq hg.symm)) hb); have n1_ := Aside0.mk (Kd.V_below (Kd.V_elderB (by (with_reducible repeat (first | apply Kd.V_alloc | apply Kd.V_drewN | apply Kd.V_drew)); exact HO_230002.out) gb296 (Nat.le_of_eq hg.symm)) hb); have n2_ := Aside0.mk (Kd.V_below (Kd.V_elderB (by (with_reducible repeat (first | apply Kd.V_alloc | apply Kd.V_drewN | apply Kd.V_drew)); exact HL279_2.out) gb296 (Nat.le_of_eq hg.symm)) hb); have n3_ := Aside0.mk (Kd.N_below (Kd.N_elderB (by (with_reducible repeat (first | apply Kd.N_alloc | apply Kd.N_drewN | apply Kd.N_drew)); exact HO282.out) gb296 (Nat.le_of_eq hg.symm)) hb); have n4_ := Aside0.mk (Kd.V_below (Kd.V_elderB (by (with_reducible repeat (first | apply Kd.V_alloc | apply Kd.V_drewN | apply Kd.V_drew)); exact HO286.out) gb296 (Nat.le_of_eq hg.symm)) hb); have n5_ := Aside0.mk (Kd.V_below (Kd.V_elderB (by (with_reducible repeat (first | apply Kd.V_alloc | apply Kd.V_drewN | apply Kd.V_drew)); exact HO294.out) gb296 (Nat.le_of_eq hg.symm)) hb); have n6_ := Aside0.mk (blk_below (g := gb228) (o := .cells #[.int .i64 a0_0, .slice A0_1 l0_1.length c0_1, .int .i64 a0_2, .int .i64 a0_3] 27 (0, 0)) (by (with_reducible repeat (first | refine kN ?_ _ | refine kD ?_ | refine kA ?_ _)); exact BK228.out) hb); have n7_ := Aside0.mk (blk_below (g := gb229) (o := .cells #[.int .i64 a2_0, .int .i64 a2_1, .slice A2_2 l2_2.length c2_2] 24 (0, 0)) (by (with_reducible repeat (first | refine kN ?_ _ | refine kD ?_ | refine kA ?_ _)); exact BK229.out) hb); have n8_ := Aside0.mk (blk_below (g := gb295) (o := .cells #[.int .i64 0, .slice none 0 0, .int .i64 0, .int .i64 0] 27 (0, 0)) (by (with_reducible repeat (first | refine kN ?_ _ | refine kD ?_ | refine kA ?_ _)); exact BK295.out) hb); have n9_ := Aside0.mk (below_step (by repeat (first | (with_reducible first | exact HB.out | apply bA | apply bN | apply bD | refine bS ?_ GE228.out | refine bS ?_ GE229.out | refine bS ?_ GE295.out) | exact HB.out)) hb); have n10_ := Aside0.mk (hbox); have n11_ := Aside0.mk ((by rw [hg]; exact (below_size (by repeat (first | (with_reducible first | exact HB.out | apply bA | apply bN | apply bD | refine bS ?_ GE228.out | refine bS ?_ GE229.out | refine bS ?_ GE295.out) | exact HB.out))) : w.heap.size ≤ gb296)); have n12_ := Aside0.mk ((by rw [hg]; exact (below_size (by repeat (first | (with_reducible first | exact HB.out | apply bA | apply bN | apply bD | refine bS ?_ GE228.out | refine bS ?_ GE229.out | refine bS ?_ GE295.out) | exact HB.out))) : w.heap.size ≤ gb296)); have n13_ := Aside0.mk ((by rw [hg]; exact Nat.ne_of_lt (blk_lt (g := gb228) (o := .cells #[.int .i64 a0_0, .slice A0_1 l0_1.length c0_1, .int .i64 a0_2, .int .i64 a0_3] 27 (0, 0)) (by (with_reducible repeat (first | refine kN ?_ _ | refine kD ?_ | refine kA ?_ _)); exact BK228.out)) : gb228 ≠ gb296)); have n14_ := Aside0.mk ((by rw [hg]; exact Nat.ne_of_gt (blk_lt (g := gb228) (o := .cells #[.int .i64 a0_0, .slice A0_1 l0_1.length c0_1, .int .i64 a0_2, .int .i64 a0_3] 27 (0, 0)) (by (with_reducible repeat (first | refine kN ?_ _ | refine kD ?_ | refine kA ?_ _)); exact BK228.out)) : gb296 ≠ gb228)); have n15_ := Aside0.mk ((by rw [hg]; exact Nat.ne_of_lt (blk_lt (g := gb229) (o := .cells #[.int .i64 a2_0, .int .i64 a2_1, .slice A2_2 l2_2.length c2_2] 24 (0, 0)) (by (with_reducible repeat (first | refine kN ?_ _ | refine kD ?_ | refine kA ?_ _)); exact BK229.out)) : gb229 ≠ gb296)); have n16_ := Aside0.mk ((by rw [hg]; exact Nat.ne_of_gt (blk_lt (g := gb229) (o := .cells #[.int .i64 a2_0, .int .i64 a2_1, .slice A2_2 l2_2.length c2_2] 24 (0, 0)) (by (with_reducible repeat (first | refine kN ?_ _ | refine kD ?_ | refine kA ?_ _)); exact BK229.out)) : gb296 ≠ gb229)); have n17_ := Aside0.mk ((by rw [hg]; exact Nat.ne_of_lt (blk_lt (g := gb295) (o := .cells #[.int .i64 0, .slice none 0 0, .int .i64 0, .int .i64 0] 27 (0, 0)) (by (with_reducible repeat (first | refine kN ?_ _ | refine kD ?_ | refine kA ?_ _)); exact BK295.out)) : gb295 ≠ gb296)); have n18_ := Aside0.mk ((by rw [hg]; exact Nat.ne_of_gt (blk_lt (g := gb295) (o := .cells #[.int .i64 0, .slice none 0 0, .int .i64 0, .int .i64 0] 27 (0, 0)) (by (with_reducible repeat (first | refine kN ?_ _ | refine kD ?_ | refine kA ?_ _)); exact BK295.out)) : gb296 ≠ gb295)); clear HO_8; clear HO_230002; clear HL279_2; clear HO282; clear HO286; clear HO294; clear BK228; clear BK229; clear BK295; clear HB; have HO_8 := n0_; have HO_230002 := n1_; have HL279_2 := n2_; have HO282 := n3_; have HO286 := n4_; have HO294 := n5_; have BK228 := n6_; have BK229 := n7_; have BK295 := n8_; have HB := n9_; have BK296 := n10_; have GW296 := n11_; have GE296 := n12_; have NB228_296 := n13_; have NB296_228 := n14_; have NB229_296 := n15_; have NB296_229 := n16_; have NB295_296 := n17_; have NB296_295 := n18_; clear n0_ n1_ n2_ n3_ n4_ n5_ n6_ n7_ n8_ n9_ n10_ n11_ n12_ n13_ n14_ n15_ n16_ n17_ n18_; clear hb hbox hg; have hnb119 := NB295_228.out; have hnc119 := NB228_295.out; have hnb120 := NB295_229.out; have hnc120 := NB229_295.out; have hnb121 := NB295_296.out; have hnc121 := NB296_295.out; have hcz122_0 : w118.cell? ⟨gb295, 0, none⟩ = some (.int .i64 0) := (blk_cell BK295.out 0).trans rfl; have hcz122_1 : w118.cell? ⟨gb295, 1, none⟩ = some (.slice none 0 0) := (blk_cell BK295.out 1).trans rfl; have hcz122_2 : w118.cell? ⟨gb295, 2, none⟩ = some (.int .i64 0) := (blk_cell BK295.out 2).trans rfl; have hcz122_3 : w118.cell? ⟨gb295, 3, none⟩ = some (.int .i64 0) := (blk_cell BK295.out 3).trans rfl; have hfz122_0 := blk_frozen BK295.out 0; have hfz122_1 := blk_frozen BK295.out 1; have hfz122_2 := blk_frozen BK295.out 2; have hfz122_3 := blk_frozen BK295.out 3; obtain ⟨Ao123, co123, eo123⟩ := Kd.V_slice HO286.out; subst eo123; have hnb124 := NB296_228.out; have hnc124 := NB228_296.out; have hnb125 := NB296_229.out; have hnc125 := NB229_296.out; have hcz126_0 : w118.cell? ⟨gb296, 0, none⟩ = some (.int .i64 0) := (blk_cell BK296.out 0).trans rfl; have hcz126_1 : w118.cell? ⟨gb296, 1, none⟩ = some (.int .i64 0) := (blk_cell BK296.out 1).trans rfl; have hcz126_2 : w118.cell? ⟨gb296, 2, none⟩ = some (.slice none 0 0) := (blk_cell BK296.out 2).trans rfl; have hfz126_0 := blk_frozen BK296.out 0; have hfz126_1 := blk_frozen BK296.out 1; have hfz126_2 := blk_frozen BK296.out 2; obtain ⟨Ao127, co127, eo127⟩ := Kd.V_slice HO294.out; subst eo127; have hnb128 := NB228_229.out; have hnc128 := NB229_228.out; have hcz129_0 : w118.cell? ⟨gb228, 0, none⟩ = some (.int .i64 a0_0) := (blk_cell BK228.out 0).trans rfl; have hcz129_1 : w118.cell? ⟨gb228, 1, none⟩ = some (.slice A0_1 l0_1.length c0_1) := (blk_cell BK228.out 1).trans rfl; have hcz129_2 : w118.cell? ⟨gb228, 2, none⟩ = some (.int .i64 a0_2) := (blk_cell BK228.out 2).trans rfl; have hcz129_3 : w118.cell? ⟨gb228, 3, none⟩ = some (.int .i64 a0_3) := (blk_cell BK228.out 3).trans rfl; have hfz129_0 := blk_frozen BK228.out 0; have hfz129_1 := blk_frozen BK228.out 1; have hfz129_2 := blk_frozen BK228.out 2; have hfz129_3 := blk_frozen BK228.out 3) | (go_at_call 25; (with_reducible refine (ridgewayref07_SamePath.calls kj35 t283 _ _ t284 t287 t288 a0_0 _ _ l0_1 a0_2 a0_3 t297 _ ?side1 ?side2 ?side3 ?side4 A112.out).mono ?_); (case side1 => have hx_ := (Kd.V_far (p := ⟨gb296, 2, none⟩) (Kd.V_far (p := ⟨gb296, 1, none⟩) (Kd.V_far (p := ⟨gb296, 0, none⟩) (Kd.V_far (p := ⟨gb295, 3, none⟩) (Kd.V_far (p := ⟨gb295, 2, none⟩) (Kd.V_far (p := ⟨gb295, 1, none⟩) (Kd.V_far (p := ⟨gb295, 0, none⟩) (Kd.V_mono (Kd.V_mono HO286.out (fun k_ hk => (⟨hk, hk.1.2⟩ : _ ∧ k_ ≠ gb295))) (fun k_ hk => (⟨hk, hk.1.2⟩ : _ ∧ k_ ≠ gb296))) (fun _ hk => hk.1.2) (.int .i64 t283)) (fun _ hk => hk.1.2) (.slice Ao123 t284.length co123)) (fun _ hk => hk.1.2) (.int .i64 t287)) (fun _ hk => hk.1.2) (.int .i64 t288)) (fun _ hk => hk.2) (.int .i64 t290)) (fun _ hk => hk.2) (.int .i64 t291)) (fun _ hk => hk.2) (.slice Ao127 t292.length co127)); (with_reducible repeat (first | apply Kd.C_alloc | apply Kd.C_drewN | apply Kd.C_drew)); exact (Kd.V_reads' hx_).2.2); (case side2 => exact (Kd.V_reads' HO286.out).2.1); (case side3 => exact Kd.C_below HR0_1.out (by repeat (first | (with_reducible first | exact HB.out | apply bA | apply bN | apply bD | refine bS ?_ GE228.out | refine bS ?_ GE229.out | refine bS ?_ GE295.out | refine bS ?_ GE296.out) | exact HB.out))); (case side4 => exact HC0_1.out); rintro e w130 ⟨rfl, hb⟩; have n0_ := Aside0.mk (Kd.N_below (by (with_reducible repeat (first | apply Kd.N_alloc | apply Kd.N_drewN | apply Kd.N_drew)); exact (Kd.N_mono (Kd.N_mono (Kd.N_far (p := ⟨gb296, 2, none⟩) (Kd.N_far (p := ⟨gb296, 1, none⟩) (Kd.N_far (p := ⟨gb296, 0, none⟩) (Kd.N_far (p := ⟨gb295, 3, none⟩) (Kd.N_far (p := ⟨gb295, 2, none⟩) (Kd.N_far (p := ⟨gb295, 1, none⟩) (Kd.N_far (p := ⟨gb295, 0, none⟩) (Kd.N_mono (Kd.N_mono HO_8.out (fun k_ hk => (⟨hk, hk.1.2⟩ : _ ∧ k_ ≠ gb295))) (fun k_ hk => (⟨hk, hk.1.2⟩ : _ ∧ k_ ≠ gb296))) (fun _ hk => hk.1.2) (.int .i64 t283)) (fun _ hk => hk.1.2) (.slice Ao123 t284.length co123)) (fun _ hk => hk.1.2) (.int .i64 t287)) (fun _ hk => hk.1.2) (.int .i64 t288)) (fun _ hk => hk.2) (.int .i64 t290)) (fun _ hk => hk.2) (.int .i64 t291)) (fun _ hk => hk.2) (.slice Ao127 t292.length co127)) (fun _ h_ => h_.1)) (fun _ h_ => h_.1))) hb); have n1_ := Aside0.mk (Kd.V_below (by (with_reducible repeat (first | apply Kd.V_alloc | apply Kd.V_drewN | apply Kd.V_drew)); exact (Kd.V_mono (Kd.V_mono (Kd.V_far (p := ⟨gb296, 2, none⟩) (Kd.V_far (p := ⟨gb296, 1, none⟩) (Kd.V_far (p := ⟨gb296, 0, none⟩) (Kd.V_far (p := ⟨gb295, 3, none⟩) (Kd.V_far (p := ⟨gb295, 2, none⟩) (Kd.V_far (p := ⟨gb295, 1, none⟩) (Kd.V_far (p := ⟨gb295, 0, none⟩) (Kd.V_mono (Kd.V_mono HO_230002.out (fun k_ hk => (⟨hk, hk.1.2⟩ : _ ∧ k_ ≠ gb295))) (fun k_ hk => (⟨hk, hk.1.2⟩ : _ ∧ k_ ≠ gb296))) (fun _ hk => hk.1.2) (.int .i64 t283)) (fun _ hk => hk.1.2) (.slice Ao123 t284.length co123)) (fun _ hk => hk.1.2) (.int .i64 t287)) (fun _ hk => hk.1.2) (.int .i64 t288)) (fun _ hk => hk.2) (.int .i64 t290)) (fun _ hk => hk.2) (.int .i64 t291)) (fun _ hk => hk.2) (.slice Ao127 t292.length co127)) (fun _ h_ => h_.1)) (fun _ h_ => h_.1))) hb); have n2_ := Aside0.mk (Kd.V_below (by (with_reducible repeat (first | apply Kd.V_alloc | apply Kd.V_drewN | apply Kd.V_drew)); exact (Kd.V_mono (Kd.V_mono (Kd.V_far (p := ⟨gb296, 2, none⟩) (Kd.V_far (p := ⟨gb296, 1, none⟩) (Kd.V_far (p := ⟨gb296, 0, none⟩) (Kd.V_far (p := ⟨gb295, 3, none⟩) (Kd.V_far (p := ⟨gb295, 2, none⟩) (Kd.V_far (p := ⟨gb295, 1, none⟩) (Kd.V_far (p := ⟨gb295, 0, none⟩) (Kd.V_mono (Kd.V_mono HL279_2.out (fun k_ hk => (⟨hk, hk.1.2⟩ : _ ∧ k_ ≠ gb295))) (fun k_ hk => (⟨hk, hk.1.2⟩ : _ ∧ k_ ≠ gb296))) (fun _ hk => hk.1.2) (.int .i64 t283)) (fun _ hk => hk.1.2) (.slice Ao123 t284.length co123)) (fun _ hk => hk.1.2) (.int .i64 t287)) (fun _ hk => hk.1.2) (.int .i64 t288)) (fun _ hk => hk.2) (.int .i64 t290)) (fun _ hk => hk.2) (.int .i64 t291)) (fun _ hk => hk.2) (.slice Ao127 t292.length co127)) (fun _ h_ => h_.1)) (fun _ h_ => h_.1))) hb); have n3_ := Aside0.mk (Kd.N_below (by (with_reducible repeat (first | apply Kd.N_alloc | apply Kd.N_drewN | apply Kd.N_drew)); exact (Kd.N_mono (Kd.N_mono (Kd.N_far (p := ⟨gb296, 2, none⟩) (Kd.N_far (p := ⟨gb296, 1, none⟩) (Kd.N_far (p := ⟨gb296, 0, none⟩) (Kd.N_far (p := ⟨gb295, 3, none⟩) (Kd.N_far (p := ⟨gb295, 2, none⟩) (Kd.N_far (p := ⟨gb295, 1, none⟩) (Kd.N_far (p := ⟨gb295, 0, none⟩) (Kd.N_mono (Kd.N_mono HO282.out (fun k_ hk => (⟨hk, hk.1.2⟩ : _ ∧ k_ ≠ gb295))) (fun k_ hk => (⟨hk, hk.1.2⟩ : _ ∧ k_ ≠ gb296))) (fun _ hk => hk.1.2) (.int .i64 t283)) (fun _ hk => hk.1.2) (.slice Ao123 t284.length co123)) (fun _ hk => hk.1.2) (.int .i64 t287)) (fun _ hk => hk.1.2) (.int .i64 t288)) (fun _ hk => hk.2) (.int .i64 t290)) (fun _ hk => hk.2) (.int .i64 t291)) (fun _ hk => hk.2) (.slice Ao127 t292.length co127)) (fun _ h_ => h_.1)) (fun _ h_ => h_.1))) hb); have n4_ := Aside0.mk (Kd.V_below (by (with_reducible repeat (first | apply Kd.V_alloc | apply Kd.V_drewN | apply Kd.V_drew)); exact (Kd.V_mono (Kd.V_mono (Kd.V_far (p := ⟨gb296, 2, none⟩) (Kd.V_far (p := ⟨gb296, 1, none⟩) (Kd.V_far (p := ⟨gb296, 0, none⟩) (Kd.V_far (p := ⟨gb295, 3, none⟩) (Kd.V_far (p := ⟨gb295, 2, none⟩) (Kd.V_far (p := ⟨gb295, 1, none⟩) (Kd.V_far (p := ⟨gb295, 0, none⟩) (Kd.V_mono (Kd.V_mono HO286.out (fun k_ hk => (⟨hk, hk.1.2⟩ : _ ∧ k_ ≠ gb295))) (fun k_ hk => (⟨hk, hk.1.2⟩ : _ ∧ k_ ≠ gb296))) (fun _ hk => hk.1.2) (.int .i64 t283)) (fun _ hk => hk.1.2) (.slice Ao123 t284.length co123)) (fun _ hk => hk.1.2) (.int .i64 t287)) (fun _ hk => hk.1.2) (.int .i64 t288)) (fun _ hk => hk.2) (.int .i64 t290)) (fun _ hk => hk.2) (.int .i64 t291)) (fun _ hk => hk.2) (.slice Ao127 t292.length co127)) (fun _ h_ => h_.1)) (fun _ h_ => h_.1))) hb); have n5_ := Aside0.mk (Kd.V_below (by (with_reducible repeat (first | apply Kd.V_alloc | apply Kd.V_drewN | apply Kd.V_drew)); exact (Kd.V_mono (Kd.V_mono (Kd.V_far (p := ⟨gb296, 2, none⟩) (Kd.V_far (p := ⟨gb296, 1, none⟩) (Kd.V_far (p := ⟨gb296, 0, none⟩) (Kd.V_far (p := ⟨gb295, 3, none⟩) (Kd.V_far (p := ⟨gb295, 2, none⟩) (Kd.V_far (p := ⟨gb295, 1, none⟩) (Kd.V_far (p := ⟨gb295, 0, none⟩) (Kd.V_mono (Kd.V_mono HO294.out (fun k_ hk => (⟨hk, hk.1.2⟩ : _ ∧ k_ ≠ gb295))) (fun k_ hk => (⟨hk, hk.1.2⟩ : _ ∧ k_ ≠ gb296))) (fun _ hk => hk.1.2) (.int .i64 t283)) (fun _ hk => hk.1.2) (.slice Ao123 t284.length co123)) (fun _ hk => hk.1.2) (.int .i64 t287)) (fun _ hk => hk.1.2) (.int .i64 t288)) (fun _ hk => hk.2) (.int .i64 t290)) (fun _ hk => hk.2) (.int .i64 t291)) (fun _ hk => hk.2) (.slice Ao127 t292.length co127)) (fun _ h_ => h_.1)) (fun _ h_ => h_.1))) hb); have n6_ := Aside0.mk (blk_below (g := gb228) (o := .cells #[.int .i64 a0_0, .slice A0_1 l0_1.length c0_1, .int .i64 a0_2, .int .i64 a0_3] 27 (0, 0)) (by (with_reducible repeat (first | refine kN ?_ _ | refine kD ?_ | refine kA ?_ _)); refine blk_far ?_ NB228_296.out _; (with_reducible repeat (first | refine kN ?_ _ | refine kD ?_ | refine kA ?_ _)); refine blk_far ?_ NB228_296.out _; (with_reducible repeat (first | refine kN ?_ _ | refine kD ?_ | refine kA ?_ _)); refine blk_far ?_ NB228_296.out _; (with_reducible repeat (first | refine kN ?_ _ | refine kD ?_ | refine kA ?_ _)); refine blk_far ?_ NB228_295.out _; (with_reducible repeat (first | refine kN ?_ _ | refine kD ?_ | refine kA ?_ _)); refine blk_far ?_ NB228_295.out _; (with_reducible repeat (first | refine kN ?_ _ | refine kD ?_ | refine kA ?_ _)); refine blk_far ?_ NB228_295.out _; (with_reducible repeat (first | refine kN ?_ _ | refine kD ?_ | refine kA ?_ _)); refine blk_far ?_ NB228_295.out _; (with_reducible repeat (first | refine kN ?_ _ | refine kD ?_ | refine kA ?_ _)); exact BK228.out) hb); have n7_ := Aside0.mk (blk_below (g := gb229) (o := .cells #[.int .i64 a2_0, .int .i64 a2_1, .slice A2_2 l2_2.length c2_2] 24 (0, 0)) (by (with_reducible repeat (first | refine kN ?_ _ | refine kD ?_ | refine kA ?_ _)); refine blk_far ?_ NB229_296.out _; (with_reducible repeat (first | refine kN ?_ _ | refine kD ?_ | refine kA ?_ _)); refine blk_far ?_ NB229_296.out _; (with_reducible repeat (first | refine kN ?_ _ | refine kD ?_ | refine kA ?_ _)); refine blk_far ?_ NB229_296.out _; (with_reducible repeat (first | refine kN ?_ _ | refine kD ?_ | refine kA ?_ _)); refine blk_far ?_ NB229_295.out _; (with_reducible repeat (first | refine kN ?_ _ | refine kD ?_ | refine kA ?_ _)); refine blk_far ?_ NB229_295.out _; (with_reducible repeat (first | refine kN ?_ _ | refine kD ?_ | refine kA ?_ _)); refine blk_far ?_ NB229_295.out _; (with_reducible repeat (first | refine kN ?_ _ | refine kD ?_ | refine kA ?_ _)); refine blk_far ?_ NB229_295.out _; (with_reducible repeat (first | refine kN ?_ _ | refine kD ?_ | refine kA ?_ _)); exact BK229.out) hb); have n8_ := Aside0.mk (blk_below (g := gb295) (o := .cells #[.int .i64 t283, .slice Ao123 t284.length co123, .int .i64 t287, .int .i64 t288] 27 (0, 0)) (by (with_reducible repeat (first | refine kN ?_ _ | refine kD ?_ | refine kA ?_ _)); refine blk_far ?_ NB295_296.out _; (with_reducible repeat (first | refine kN ?_ _ | refine kD ?_ | refine kA ?_ _)); refine blk_far ?_ NB295_296.out _; (with_reducible repeat (first | refine kN ?_ _ | refine kD ?_ | refine kA ?_ _)); refine blk_far ?_ NB295_296.out _; (with_reducible repeat (first | refine kN ?_ _ | refine kD ?_ | refine kA ?_ _)); refine blk_put (cs := #[.int .i64 t283, .slice Ao123 t284.length co123, .int .i64 t287, .int .i64 0]) ?_ 3 _ rfl; (with_reducible repeat (first | refine kN ?_ _ | refine kD ?_ | refine kA ?_ _)); refine blk_put (cs := #[.int .i64 t283, .slice Ao123 t284.length co123, .int .i64 0, .int .i64 0]) ?_ 2 _ rfl; (with_reducible repeat (first | refine kN ?_ _ | refine kD ?_ | refine kA ?_ _)); refine blk_put (cs := #[.int .i64 t283, .slice none 0 0, .int .i64 0, .int .i64 0]) ?_ 1 _ rfl; (with_reducible repeat (first | refine kN ?_ _ | refine kD ?_ | refine kA ?_ _)); refine blk_put (cs := #[.int .i64 0, .slice none 0 0, .int .i64 0, .int .i64 0]) ?_ 0 _ rfl; (with_reducible repeat (first | refine kN ?_ _ | refine kD ?_ | refine kA ?_ _)); exact BK295.out) hb); have n9_ := Aside0.mk (blk_below (g := gb296) (o := .cells #[.int .i64 t290, .int .i64 t291, .slice Ao127 t292.length co127] 41 (0, 0)) (by (with_reducible repeat (first | refine kN ?_ _ | refine kD ?_ | refine kA ?_ _)); refine blk_put (cs := #[.int .i64 t290, .int .i64 t291, .slice none 0 0]) ?_ 2 _ rfl; (with_reducible repeat (first | refine kN ?_ _ | refine kD ?_ | refine kA ?_ _)); refine blk_put (cs := #[.int .i64 t290, .int .i64 0, .slice none 0 0]) ?_ 1 _ rfl; (with_reducible repeat (first | refine kN ?_ _ | refine kD ?_ | refine kA ?_ _)); refine blk_put (cs := #[.int .i64 0, .int .i64 0, .slice none 0 0]) ?_ 0 _ rfl; (with_reducible repeat (first | refine kN ?_ _ | refine kD ?_ | refine kA ?_ _)); refine blk_far ?_ NB296_295.out _; (with_reducible repeat (first | refine kN ?_ _ | refine kD ?_ | refine kA ?_ _)); refine blk_far ?_ NB296_295.out _; (with_reducible repeat (first | refine kN ?_ _ | refine kD ?_ | refine kA ?_ _)); refine blk_far ?_ NB296_295.out _; (with_reducible repeat (first | refine kN ?_ _ | refine kD ?_ | refine kA ?_ _)); refine blk_far ?_ NB296_295.out _; (with_reducible repeat (first | refine kN ?_ _ | refine kD ?_ | refine kA ?_ _)); exact BK296.out) hb); have n10_ := Aside0.mk (below_step (by repeat (first | (with_reducible first | exact HB.out | apply bA | apply bN | apply bD | refine bS ?_ GE228.out | refine bS ?_ GE229.out | refine bS ?_ GE295.out | refine bS ?_ GE296.out) | exact HB.out)) hb); clear HO_8; clear HO_230002; clear HL279_2; clear HO282; clear HO286; clear HO294; clear BK228; clear BK229; clear BK295; clear BK296; clear HB; have HO_8 := n0_; have HO_230002 := n1_; have HL279_2 := n2_; have HO282 := n3_; have HO286 := n4_; have HO294 := n5_; have BK228 := n6_; have BK229 := n7_; have BK295 := n8_; have BK296 := n9_; have HB := n10_; clear n0_ n1_ n2_ n3_ n4_ n5_ n6_ n7_ n8_ n9_ n10_; (try clear hb); (try clear hb2); (try clear hk); (try clear hi)))
                      all_goals first | (go_ret; refine ⟨?_, ?_⟩; (focus (first | rfl | (simp [errW_none, errW_some] <;> rfl) | (rw [HRL_.out] <;> rfl) | (simp only [HRL_.out] <;> rfl) | (have h_ := HRL_.out; simp at h_; simp [h_]; done) | (have h_ := HRL_.out; simp [*] at h_ ⊢; done) | (simp only [← hji29]; first | rfl | (simp [errW_none, errW_some] <;> rfl)) | (simp [*, errW_none, errW_some] <;> rfl))); (focus (repeat (first | (with_reducible first | exact HB.out | apply bA | apply bN | apply bD | refine bS ?_ GE228.out | refine bS ?_ GE229.out | refine bS ?_ GE295.out | refine bS ?_ GE296.out) | exact HB.out)))) | (exfalso; simp_all; done)
                     ·
                      rw [if_neg c111] at H
                      have c111b0 : (t290 == 0) = false := beq_eq_false_iff_ne.mpr c111
                      have c111b1 : (t290 != 0) = true := bne_iff_ne.mpr c111
                      exact absurd H (by simp)
                    ·
                     rw [if_neg c110] at H
                     have c110b0 : (t289 == 0) = false := beq_eq_false_iff_ne.mpr c110
                     have c110b1 : (t289 != 0) = true := bne_iff_ne.mpr c110
                     exact absurd H (by simp)
                   ·
                    replace c109 := Bool.eq_false_iff.mpr c109
                    subst c109
                    have H1 : (some false) = some true := by rw [if_neg (show ¬ (false = true) by decide)] at H; first | done | exact H
                    clear H
                    have H := H1
                    clear H1
                    exact absurd H (by simp)
                  ·
                   rw [if_neg c107] at H
                   exact absurd H (by simp)
                 ·
                  rw [if_neg c106] at H
                  exact absurd H (by simp)
                ·
                 rw [if_neg c105] at H
                 exact absurd H (by simp)
            ·
             rw [if_neg c35] at H
             exact absurd H (by simp)
           ·
            rw [if_neg c32] at H
            exact absurd H (by simp)
          ·
           rw [if_neg c31] at H
           exact absurd H (by simp)
         ·
          rw [if_neg c30] at H
          exact absurd H (by simp)
    ·
     replace c18 := Bool.eq_false_iff.mpr c18
     subst c18
     have H1 : (if t230 = true then (some ((t231.length : Int) == 0)) else (some false)) = some true := by rw [if_neg (show ¬ (false = true) by decide)] at H; first | done | exact H
     clear H
     have H := H1
     clear H1
     by_cases c131 : t230 = true
     ·
      subst c131
      have H1 : (some ((t231.length : Int) == 0)) = some true := by rw [if_pos rfl] at H; first | done | exact H
      clear H
      have H := H1
      clear H1
      have HRL_ := Aside0.mk (Option.some.inj H)
      clear H
      have hnb132 := NB228_229.out
      have hnc132 := NB229_228.out
      have hcz133_0 : wc.cell? ⟨gb228, 0, none⟩ = some (.int .i64 a0_0) := (blk_cell BK228.out 0).trans rfl
      have hcz133_1 : wc.cell? ⟨gb228, 1, none⟩ = some (.slice A0_1 l0_1.length c0_1) := (blk_cell BK228.out 1).trans rfl
      have hcz133_2 : wc.cell? ⟨gb228, 2, none⟩ = some (.int .i64 a0_2) := (blk_cell BK228.out 2).trans rfl
      have hcz133_3 : wc.cell? ⟨gb228, 3, none⟩ = some (.int .i64 a0_3) := (blk_cell BK228.out 3).trans rfl
      have hfz133_0 := blk_frozen BK228.out 0
      have hfz133_1 := blk_frozen BK228.out 1
      have hfz133_2 := blk_frozen BK228.out 2
      have hfz133_3 := blk_frozen BK228.out 3
      go_wp2_with (first | ((with_reducible refine gate_callee (f := 20) rfl ?_); refine goesL_ (some 28) rfl rfl Try.func20 (by kernel_rfl) rfl #[.agg #[.int .i64 a0_0, .slice A0_1 l0_1.length c0_1, .int .i64 a0_2, .int .i64 a0_3]] rfl (by (try simp only [List.map_toArray, List.map_cons, List.map_nil]); first | done | rfl | (simp only [List.length_drop, List.length_take]; rfl)) ?_; (with_reducible refine (attr_Of.calls kj4 a0_0 _ _ l0_1 a0_2 a0_3 t231 _ ?side1 ?side2 A16.out).mono ?_); (case side1 => repeat (first | exact (Kd.C_below HR0_1.out HB.out) | (with_reducible refine Kd.C_alloc ?_ _) | (with_reducible refine Kd.C_drewN ?_ _) | (with_reducible refine Kd.C_drew ?_))); (case side2 => exact HC0_1.out); rintro e w134 ⟨v232, rfl, ho0, hb⟩; refine ⟨_, rfl, ?_⟩; have n0_ := Aside0.mk (Kd.V_elder' (by (with_reducible repeat (first | apply Kd.V_alloc | apply Kd.V_drewN | apply Kd.V_drew)); exact HO_230002.out) (Kd.N_base ho0) hb); have n1_ := Aside0.mk (Kd.N_lower (Kd.N_mono (ok' := fun k_ => (P2_2_ k_ ∨ w.heap.size ≤ k_) ∧ k_ ≠ gb228 ∧ k_ ≠ gb229) ho0 (fun k_ hk_ => ⟨(.inr (Nat.le_trans (below_size (by repeat (first | (with_reducible first | exact HB.out | apply bA | apply bN | apply bD | refine bS ?_ GE228.out | refine bS ?_ GE229.out) | exact HB.out))) hk_)), (Kd.freshB (g := gb228) (o := .cells #[.int .i64 a0_0, .slice A0_1 l0_1.length c0_1, .int .i64 a0_2, .int .i64 a0_3] 27 (0, 0)) (by (with_reducible repeat (first | refine kN ?_ _ | refine kD ?_ | refine kA ?_ _)); exact BK228.out) k_ hk_), (Kd.freshB (g := gb229) (o := .cells #[.int .i64 a2_0, .int .i64 a2_1, .slice A2_2 l2_2.length c2_2] 24 (0, 0)) (by (with_reducible repeat (first | refine kN ?_ _ | refine kD ?_ | refine kA ?_ _)); exact BK229.out) k_ hk_)⟩)) (below_size (by repeat (first | (with_reducible first | exact HB.out | apply bA | apply bN | apply bD | refine bS ?_ GE228.out | refine bS ?_ GE229.out) | exact HB.out)))); have n2_ := Aside0.mk (blk_below (g := gb228) (o := .cells #[.int .i64 a0_0, .slice A0_1 l0_1.length c0_1, .int .i64 a0_2, .int .i64 a0_3] 27 (0, 0)) (by (with_reducible repeat (first | refine kN ?_ _ | refine kD ?_ | refine kA ?_ _)); exact BK228.out) hb); have n3_ := Aside0.mk (blk_below (g := gb229) (o := .cells #[.int .i64 a2_0, .int .i64 a2_1, .slice A2_2 l2_2.length c2_2] 24 (0, 0)) (by (with_reducible repeat (first | refine kN ?_ _ | refine kD ?_ | refine kA ?_ _)); exact BK229.out) hb); have n4_ := Aside0.mk (below_step (by repeat (first | (with_reducible first | exact HB.out | apply bA | apply bN | apply bD | refine bS ?_ GE228.out | refine bS ?_ GE229.out) | exact HB.out)) hb); clear HO_230002; clear BK228; clear BK229; clear HB; have HO_230002 := n0_; have HO233 := n1_; have BK228 := n2_; have BK229 := n3_; have HB := n4_; clear n0_ n1_ n2_ n3_ n4_; (try clear hb); (try clear hb2); (try clear hk); (try clear hi); (try clear ho0); have hcz135_0 : w134.cell? ⟨gb228, 0, none⟩ = some (.int .i64 a0_0) := (blk_cell BK228.out 0).trans rfl; have hcz135_1 : w134.cell? ⟨gb228, 1, none⟩ = some (.slice A0_1 l0_1.length c0_1) := (blk_cell BK228.out 1).trans rfl; have hcz135_2 : w134.cell? ⟨gb228, 2, none⟩ = some (.int .i64 a0_2) := (blk_cell BK228.out 2).trans rfl; have hcz135_3 : w134.cell? ⟨gb228, 3, none⟩ = some (.int .i64 a0_3) := (blk_cell BK228.out 3).trans rfl; have hfz135_0 := blk_frozen BK228.out 0; have hfz135_1 := blk_frozen BK228.out 1; have hfz135_2 := blk_frozen BK228.out 2; have hfz135_3 := blk_frozen BK228.out 3) | ((with_reducible refine gate_callee (f := 18) rfl ?_); refine goesL_ (some 30) rfl rfl Try.func18 (by kernel_rfl) rfl #[.agg #[.int .i64 a0_0, .slice A0_1 l0_1.length c0_1, .int .i64 a0_2, .int .i64 a0_3]] rfl (by (try simp only [List.map_toArray, List.map_cons, List.map_nil]); first | done | rfl | (simp only [List.length_drop, List.length_take]; rfl)) ?_; (with_reducible refine (attr_Sane.calls a0_0 _ _ l0_1 a0_2 a0_3 false _ ?side1 ?side2 A17.out).mono ?_); (case side1 => repeat (first | exact (Kd.C_below HR0_1.out HB.out) | (with_reducible refine Kd.C_alloc ?_ _) | (with_reducible refine Kd.C_drewN ?_ _) | (with_reducible refine Kd.C_drew ?_))); (case side2 => exact HC0_1.out); rintro e w136 ⟨rfl, hb⟩; refine ⟨_, rfl, ?_⟩; have n0_ := Aside0.mk (Kd.V_below (by (with_reducible repeat (first | apply Kd.V_alloc | apply Kd.V_drewN | apply Kd.V_drew)); exact HO_230002.out) hb); have n1_ := Aside0.mk (Kd.N_below (by (with_reducible repeat (first | apply Kd.N_alloc | apply Kd.N_drewN | apply Kd.N_drew)); exact HO233.out) hb); have n2_ := Aside0.mk (blk_below (g := gb228) (o := .cells #[.int .i64 a0_0, .slice A0_1 l0_1.length c0_1, .int .i64 a0_2, .int .i64 a0_3] 27 (0, 0)) (by (with_reducible repeat (first | refine kN ?_ _ | refine kD ?_ | refine kA ?_ _)); exact BK228.out) hb); have n3_ := Aside0.mk (blk_below (g := gb229) (o := .cells #[.int .i64 a2_0, .int .i64 a2_1, .slice A2_2 l2_2.length c2_2] 24 (0, 0)) (by (with_reducible repeat (first | refine kN ?_ _ | refine kD ?_ | refine kA ?_ _)); exact BK229.out) hb); have n4_ := Aside0.mk (below_step (by repeat (first | (with_reducible first | exact HB.out | apply bA | apply bN | apply bD | refine bS ?_ GE228.out | refine bS ?_ GE229.out) | exact HB.out)) hb); clear HO_230002; clear HO233; clear BK228; clear BK229; clear HB; have HO_230002 := n0_; have HO233 := n1_; have BK228 := n2_; have BK229 := n3_; have HB := n4_; clear n0_ n1_ n2_ n3_ n4_; (try clear hb); (try clear hb2); (try clear hk); (try clear hi); obtain ⟨Ao137, co137, eo137⟩ := Kd.N_slice HO233.out; subst eo137))
      all_goals first | (go_ret; refine ⟨?_, ?_⟩; (focus (first | rfl | (simp [errW_none, errW_some] <;> rfl) | (rw [HRL_.out] <;> rfl) | (simp only [HRL_.out] <;> rfl) | (have h_ := HRL_.out; simp at h_; simp [h_]; done) | (have h_ := HRL_.out; simp [*] at h_ ⊢; done) | (simp [*, errW_none, errW_some] <;> rfl))); (focus (repeat (first | (with_reducible first | exact HB.out | apply bA | apply bN | apply bD | refine bS ?_ GE228.out | refine bS ?_ GE229.out) | exact HB.out)))) | (exfalso; simp_all; done)
     ·
      replace c131 := Bool.eq_false_iff.mpr c131
      subst c131
      have H1 : (some false) = some true := by rw [if_neg (show ¬ (false = true) by decide)] at H; first | done | exact H
      clear H
      have H := H1
      clear H1
      exact absurd H (by simp)

/-- THE ONE PURE STATEMENT of ridgewaylaw07_AttrSays. -/
def ridgewaylaw07_AttrSays.Pure : Prop := ∀ (x0 : S27) (a1 : Int) (x2 : S24), (wf27 x0) → ((Lit.int .i64 a1).wf = true) → (wf24 x2) → ∃ k, ridgewaylaw07_AttrSays.f k (x0.f0) (x0.f1) (x0.f2) (x0.f3) a1 (x2.f0) (x2.f1) (x2.f2) = some true

end Go.Proofs.Ytfmhclbcoladpaa.Q
