/- Each call of a Go function comes to what the Lean function of its name answers (written out by wip/tools/xprint.py, checked by Lean); conditions: those in each statement. -/
import Derived.Test.YthkbpiagggeicaaQx0
import Derived.Test.YthkbpiagggeicaaQx2
import Derived.Test.YthkbpiagggeicaaQx4
import Derived.Test.YthkbpiagggeicaaQx5
import Derived.Test.YthkbpiagggeicaaQx6
namespace Go.Proofs.Ythkbpiagggeicaa.Q
open Go.RowKit Go.Proofs.YthkbpiagggeicaaW.PrintWords Go.Proofs.YthkbpiagggeicaaW.PrintLast Go.Proofs.YthkbpiagggeicaaW.PrintMore Go.Proofs.YthkbpiagggeicaaW.PrintX
attribute [local go_sem] max2_int min2_int max_two min_two max_three min_three max_four min_four   -- for this text's walks alone
set_option linter.unusedVariables false
set_option linter.unusedSimpArgs false

/-! ### ridgewaylaw04_StreamBad: function 6 -/
mutual
def ridgewaylaw04_StreamBad.j0 : Nat → List Int → List Int → Bool → Bool → Option (Bool)
 | 0, _, _, _, _ => none
 | k + 1, x0, x1, x5, x21 => if x21 = true then (some x5) else ((stream_Feed.f ([] : List Int) false x0).bind fun bt352 => (ridgewaylaw04_StreamBad.l0 k x1 x5 bt352.2.2.1 0 bt352.1 bt352.2.1 bt352.2.2.2.1 bt352.2.2.2.2.1 bt352.2.2.2.2.2))
def ridgewaylaw04_StreamBad.l0 : Nat → List Int → Bool → List (S43) → Int → List Int → Bool → Int → Int → List Int → Option (Bool)
 | 0, _, _, _, _, _, _, _, _, _ => none
 | k + 1, x1, x5, x7, x9, x365000, x365001, x366000, x366001, x366002 => if x9 < (x7.length : Int) then (if 0 ≤ x9 then ((msg_Sane.f ((rd_T43 x7 x9).f0) ((rd_T43 x7 x9).f1)).bind fun t367 => (if t367 = true then (ridgewaylaw04_StreamBad.l0 k x1 x5 x7 (wrap64 (x9 + 1)) x365000 x365001 x366000 x366001 x366002) else (some false))) else (none)) else (if (x365001 != (x366000 != 0)) = true then (ridgewaylaw04_StreamBad.j2 k x1 x5 true x365000 x365001) else ((stream_Sane.f k x365000 x365001).bind fun t368 => (if t368 = true then (ridgewaylaw04_StreamBad.j2 k x1 x5 (decide ((x365000.length : Int) ≥ 4096)) x365000 x365001) else (ridgewaylaw04_StreamBad.j2 k x1 x5 true x365000 x365001))))
def ridgewaylaw04_StreamBad.j2 : Nat → List Int → Bool → Bool → List Int → Bool → Option (Bool)
 | 0, _, _, _, _, _ => none
 | k + 1, x1, x5, x58, x365000, x365001 => if x58 = true then (some false) else (if x365001 = true then ((stream_Feed.f x365000 x365001 x1).bind fun bt369 => (if x5 = true then (if (x365000.length : Int) = 0 then (if bt369.2.1 = true then (if (bt369.1.length : Int) = 0 then (if (bt369.2.2.1.length : Int) = 0 then (some (bt369.2.2.2.1 == 0)) else (some false)) else (some false)) else (some false)) else (some false)) else (some false))) else (some x5))
end
def ridgewaylaw04_StreamBad.f (k : Nat) (l0 : List Int) (l1 : List Int) : Option (Bool) := (ridgewaylaw04_awake.f).bind fun t351 => (if (l0.length : Int) > 5000 then (ridgewaylaw04_StreamBad.j0 k l0 l1 t351 true) else (ridgewaylaw04_StreamBad.j0 k l0 l1 t351 (decide ((l1.length : Int) > 5000))))
theorem ridgewaylaw04_StreamBad.mono_l : ∀ k, (∀ y0 y1 y2 y3, LeO (ridgewaylaw04_StreamBad.j0 k y0 y1 y2 y3) (ridgewaylaw04_StreamBad.j0 (k + 1) y0 y1 y2 y3)) ∧ (∀ y0 y1 y2 y3 y4 y5 y6 y7 y8, LeO (ridgewaylaw04_StreamBad.l0 k y0 y1 y2 y3 y4 y5 y6 y7 y8) (ridgewaylaw04_StreamBad.l0 (k + 1) y0 y1 y2 y3 y4 y5 y6 y7 y8)) ∧ (∀ y0 y1 y2 y3 y4, LeO (ridgewaylaw04_StreamBad.j2 k y0 y1 y2 y3 y4) (ridgewaylaw04_StreamBad.j2 (k + 1) y0 y1 y2 y3 y4))
 | 0 => ⟨fun _ _ _ _ r h => by simp [ridgewaylaw04_StreamBad.j0] at h, fun _ _ _ _ _ _ _ _ _ r h => by simp [ridgewaylaw04_StreamBad.l0] at h, fun _ _ _ _ _ r h => by simp [ridgewaylaw04_StreamBad.j2] at h⟩
 | k + 1 => by
  obtain ⟨ih0, ih1, ih2⟩ := ridgewaylaw04_StreamBad.mono_l k
  refine ⟨?_, ?_, ?_⟩
  ·
   intro y0 y1 y2 y3
   unfold ridgewaylaw04_StreamBad.j0
   repeat' first
   | (with_reducible exact ih0 _ _ _ _)
   | (with_reducible exact ih1 _ _ _ _ _ _ _ _ _)
   | (with_reducible exact ih2 _ _ _ _ _)
   | (with_reducible exact stream_Sane.mono _ _ _)
   | (with_reducible exact LeO.refl _)
   | (with_reducible exact LeO.none _)
   | (with_reducible refine LeO.ite ?_ ?_)
   | (with_reducible refine LeO.bind ?_ (fun _ => ?_))
   | exact ih0 _ _ _ _
   | exact ih1 _ _ _ _ _ _ _ _ _
   | exact ih2 _ _ _ _ _
   | exact stream_Sane.mono _ _ _
   | exact LeO.none _
   | refine LeO.ite ?_ ?_
   | refine LeO.bind ?_ (fun _ => ?_)
  ·
   intro y0 y1 y2 y3 y4 y5 y6 y7 y8
   unfold ridgewaylaw04_StreamBad.l0
   repeat' first
   | (with_reducible exact ih0 _ _ _ _)
   | (with_reducible exact ih1 _ _ _ _ _ _ _ _ _)
   | (with_reducible exact ih2 _ _ _ _ _)
   | (with_reducible exact stream_Sane.mono _ _ _)
   | (with_reducible exact LeO.refl _)
   | (with_reducible exact LeO.none _)
   | (with_reducible refine LeO.ite ?_ ?_)
   | (with_reducible refine LeO.bind ?_ (fun _ => ?_))
   | exact ih0 _ _ _ _
   | exact ih1 _ _ _ _ _ _ _ _ _
   | exact ih2 _ _ _ _ _
   | exact stream_Sane.mono _ _ _
   | exact LeO.none _
   | refine LeO.ite ?_ ?_
   | refine LeO.bind ?_ (fun _ => ?_)
  ·
   intro y0 y1 y2 y3 y4
   unfold ridgewaylaw04_StreamBad.j2
   repeat' first
   | (with_reducible exact ih0 _ _ _ _)
   | (with_reducible exact ih1 _ _ _ _ _ _ _ _ _)
   | (with_reducible exact ih2 _ _ _ _ _)
   | (with_reducible exact stream_Sane.mono _ _ _)
   | (with_reducible exact LeO.refl _)
   | (with_reducible exact LeO.none _)
   | (with_reducible refine LeO.ite ?_ ?_)
   | (with_reducible refine LeO.bind ?_ (fun _ => ?_))
   | exact ih0 _ _ _ _
   | exact ih1 _ _ _ _ _ _ _ _ _
   | exact ih2 _ _ _ _ _
   | exact stream_Sane.mono _ _ _
   | exact LeO.none _
   | refine LeO.ite ?_ ?_
   | refine LeO.bind ?_ (fun _ => ?_)
theorem ridgewaylaw04_StreamBad.mono : ∀ a0 a1 k, LeO (ridgewaylaw04_StreamBad.f k a0 a1) (ridgewaylaw04_StreamBad.f (k + 1) a0 a1) := by
 intro a0 a1 k
 obtain ⟨ih0, ih1, ih2⟩ := ridgewaylaw04_StreamBad.mono_l k
 unfold ridgewaylaw04_StreamBad.f
 repeat' first
   | (with_reducible exact ih0 _ _ _ _)
   | (with_reducible exact ih1 _ _ _ _ _ _ _ _ _)
   | (with_reducible exact ih2 _ _ _ _ _)
   | (with_reducible exact stream_Sane.mono _ _ _)
   | (with_reducible exact LeO.refl _)
   | (with_reducible exact LeO.none _)
   | (with_reducible refine LeO.ite ?_ ?_)
   | (with_reducible refine LeO.bind ?_ (fun _ => ?_))
   | exact ih0 _ _ _ _
   | exact ih1 _ _ _ _ _ _ _ _ _
   | exact ih2 _ _ _ _ _
   | exact stream_Sane.mono _ _ _
   | exact LeO.none _
   | refine LeO.ite ?_ ?_
   | refine LeO.bind ?_ (fun _ => ?_)
set_option maxHeartbeats 8000000 in
set_option maxRecDepth 100000 in
theorem ridgewaylaw04_StreamBad.calls (k : Nat) (A0 : Option Addr) (c0 : Nat) (l0 : List Int) (A1 : Option Addr) (c1 : Nat) (l1 : List Int) (w : World) (hr0 : Kd.C (Kd.int .u8) w A0 l0.length l0) (hc0 : l0.length ≤ c0) (hr1 : Kd.C (Kd.int .u8) w A1 l1.length l1) (hc1 : l1.length ≤ c1) (h : ridgewaylaw04_StreamBad.f k l0 l1 = some true) :
  Calls Try.prog 6 #[.slice A0 l0.length c0, .slice A1 l1.length c1] w fun e w' => e = .returned (.bool true) ∧ Below w.heap.size w w' := by
 have hu26 := Try.underlying26
 have hu29 := Try.underlying29
 have hu43 := Try.underlying43
 have HR0 := Aside0.mk hr0
 have HC0 := Aside0.mk hc0
 clear hr0 hc0
 have HR1 := Aside0.mk hr1
 have HC1 := Aside0.mk hc1
 clear hr1 hc1
 have HB := Aside0.mk (Below.refl w.heap.size w)
 have H : ((ridgewaylaw04_awake.f).bind fun t351 => (if (l0.length : Int) > 5000 then (ridgewaylaw04_StreamBad.j0 k l0 l1 t351 true) else (ridgewaylaw04_StreamBad.j0 k l0 l1 t351 (decide ((l1.length : Int) > 5000))))) = some true := h
 clear h
 replace H := Option.bind_eq_some_iff.mp H
 obtain ⟨t351, A30, H⟩ := H
 replace H : (if (l0.length : Int) > 5000 then (ridgewaylaw04_StreamBad.j0 k l0 l1 t351 true) else (ridgewaylaw04_StreamBad.j0 k l0 l1 t351 (decide ((l1.length : Int) > 5000)))) = some true := H
 have A3 := Aside0.mk A30
 clear A30
 have HC4 := Aside0.mk H
 clear H
 go_enter Try.func6, Try.ntmps6
 go_upto_region 2 with (first | ((with_reducible refine gate_callee (f := 7) rfl ?_); refine goesL_ (some 13) rfl rfl Try.func7 (by kernel_rfl) rfl #[] rfl (by (try simp only [List.map_toArray, List.map_cons, List.map_nil]); first | done | rfl | (simp only [List.length_drop, List.length_take]; rfl)) ?_; (with_reducible refine (ridgewaylaw04_awake.calls  t351 _ A3.out).mono ?_); rintro e w5 ⟨rfl, hb⟩; refine ⟨_, rfl, ?_⟩; have n0_ := Aside0.mk (below_step (by repeat (first | (with_reducible first | exact HB.out | apply bA | apply bN | apply bD) | exact HB.out)) hb); clear HB; have HB := n0_; clear n0_; (try clear hb); (try clear hb2); (try clear hk); (try clear hi)))
 (try simp only [Act.put, sA, sB, sC])
 go_cut [21] (fun v21 wc => ∃ (kq : Nat) (x21_3 : Bool), v21 = .bool x21_3 ∧ Aside0 (ridgewaylaw04_StreamBad.j0 kq l0 l1 t351 x21_3 = some true) ∧ Aside0 (kq ≤ k) ∧ Aside0 (Below w.heap.size w wc))
 case first =>
  have H := HC4.out
  clear HC4
  by_cases c6 : (l0.length : Int) > 5000
  ·
   rw [if_pos c6] at H
   have c6b0 : decide (5000 < (l0.length : Int)) = true := decide_eq_true c6
   have c6b1 : decide (5000 < l0.length) = true := decide_eq_true (by omega)
   clear c6
   (first | rw [c6b0] | (simp only [i64_w, i32_w]; rw [c6b0]) | skip)
   have H' := Aside0.mk H
   clear H
   go_wp2
   go_meet
   case rel => exact ⟨_, (true), (by first | rfl | (simp; done) | (simp [*]; done)), H', ⟨by first | omega | exact Nat.le_refl _⟩, ⟨by repeat (first | (with_reducible first | exact HB.out | apply bA | apply bN | apply bD) | exact HB.out)⟩⟩
  ·
   rw [if_neg c6] at H
   have c6b0 : decide (5000 < (l0.length : Int)) = false := decide_eq_false c6
   have c6b1 : decide (5000 < l0.length) = false := decide_eq_false (by omega)
   clear c6
   (first | rw [c6b0] | (simp only [i64_w, i32_w]; rw [c6b0]) | skip)
   have H' := Aside0.mk H
   clear H
   go_wp2
   go_meet
   case rel => exact ⟨_, (decide ((l1.length : Int) > 5000)), (by first | rfl | (simp; done) | (simp [*]; done)), H', ⟨by first | omega | exact Nat.le_refl _⟩, ⟨by repeat (first | (with_reducible first | exact HB.out | apply bA | apply bN | apply bD) | exact HB.out)⟩⟩
 case rest =>
  clear HC4
  try clear c1
  try clear p2
  try clear c6
  try clear c6b0
  try clear c6b1
  obtain ⟨kq, x21_3, rfl, HA, HJ3, HB⟩ := hcut
  cases kq with
  | zero => exact absurd HA.out (by simp [ridgewaylaw04_StreamBad.j0])
  | succ kj3 =>
   have H := HA.out
   clear HA
   simp only [ridgewaylaw04_StreamBad.j0] at H
   by_cases c7 : x21_3 = true
   ·
    subst c7
    have H1 : (some t351) = some true := by rw [if_pos rfl] at H; first | done | exact H
    clear H
    have H := H1
    clear H1
    have HRL_ := Aside0.mk (Option.some.inj H)
    clear H
    go_wp2
    all_goals first | (go_ret; refine ⟨?_, ?_⟩; (focus (first | rfl | (simp [errW_none, errW_some] <;> rfl) | (rw [HRL_.out] <;> rfl) | (simp only [HRL_.out] <;> rfl) | (have h_ := HRL_.out; simp at h_; simp [h_]; done) | (have h_ := HRL_.out; simp [*] at h_ ⊢; done) | (simp [*, errW_none, errW_some] <;> rfl))); (focus (repeat (first | (with_reducible first | exact HB.out | apply bA | apply bN | apply bD) | exact HB.out)))) | (exfalso; simp_all; done)
   ·
    replace c7 := Bool.eq_false_iff.mpr c7
    subst c7
    have H1 : ((stream_Feed.f ([] : List Int) false l0).bind fun bt352 => (ridgewaylaw04_StreamBad.l0 kj3 l1 t351 bt352.2.2.1 0 bt352.1 bt352.2.1 bt352.2.2.2.1 bt352.2.2.2.2.1 bt352.2.2.2.2.2)) = some true := by rw [if_neg (show ¬ (false = true) by decide)] at H; first | done | exact H
    clear H
    have H := H1
    clear H1
    replace H := Option.bind_eq_some_iff.mp H
    obtain ⟨⟨t352, t355, t356, t359, t360, t361⟩, A80, H⟩ := H
    replace H : (ridgewaylaw04_StreamBad.l0 kj3 l1 t351 t356 0 t352 t355 t359 t360 t361) = some true := H
    have A8 := Aside0.mk A80
    clear A80
    have H' := Aside0.mk H
    clear H
    go_wp2_with (first | ((with_reducible refine gate_callee (f := 8) rfl ?_); refine goesL_ (some 26) rfl rfl Try.func8 (by kernel_rfl) rfl #[.agg #[.slice none 0 0, .bool false], .slice A0 l0.length c0] rfl (by (try simp only [List.map_toArray, List.map_cons, List.map_nil]); first | done | rfl | (simp only [List.length_drop, List.length_take]; rfl)) ?_; (refine (stream_Feed.calls _ _ ([] : List Int) false _ _ l0 t352 t355 t356 t359 t360 t361 _ ?side1 ?side2 ?side3 ?side4 A8.out).mono ?_); (case side1 => exact Kd.C_nil _ _); (case side2 => exact Nat.le_refl _); (case side3 => repeat (first | exact (Kd.C_below HR0.out HB.out) | (with_reducible refine Kd.C_alloc ?_ _) | (with_reducible refine Kd.C_drewN ?_ _) | (with_reducible refine Kd.C_drew ?_))); (case side4 => exact HC0.out); rintro e w9 ⟨v353, v357, v362, rfl, ho0, ho1, ho2, hb⟩; refine ⟨_, rfl, ?_⟩; have n0_ := Aside0.mk (Kd.V_lower (Kd.V_mono (ok' := fun k_ => some k_ ≠ (v357 : Value).ownBlock) ho0 (fun k_ hk_ => hk_.2)) (below_size (by repeat (first | (with_reducible first | exact HB.out | apply bA | apply bN | apply bD) | exact HB.out)))); have n1_ := Aside0.mk (Kd.N_lower (Kd.N_mono (ok' := fun k_ => True) ho1 (fun k_ hk_ => trivial)) (below_size (by repeat (first | (with_reducible first | exact HB.out | apply bA | apply bN | apply bD) | exact HB.out)))); have n2_ := Aside0.mk (Kd.V_lower (Kd.V_mono (ok' := fun k_ => some k_ ≠ (v357 : Value).ownBlock) ho2 (fun k_ hk_ => hk_.2)) (below_size (by repeat (first | (with_reducible first | exact HB.out | apply bA | apply bN | apply bD) | exact HB.out)))); have n3_ := Aside0.mk (below_step (by repeat (first | (with_reducible first | exact HB.out | apply bA | apply bN | apply bD) | exact HB.out)) hb); clear HB; have HO354 := n0_; have HO358 := n1_; have HO363 := n2_; have HB := n3_; clear n0_ n1_ n2_ n3_; (try clear hb); (try clear hb2); (try clear hk); (try clear hi); (try clear ho0); (try clear ho1); (try clear ho2)) | ((with_reducible refine gate_dst (N := 6) rfl ?_); (try (refine gate_guard (by rfl) ?_; dsimp only)); refine box_event ?hg (N := 6) ?hd (cs := #[.slice none 0 0, .bool false]) (t := 26) ?hr ?_; (case hd => rfl); (case hg => rfl); (case hr => first | (go_simp; done) | (go_simp; rfl)); intro gb364 hg w10 hbox hb; have n0_ := Aside0.mk (Kd.V_below (Kd.V_elderB (by (with_reducible repeat (first | apply Kd.V_alloc | apply Kd.V_drewN | apply Kd.V_drew)); exact HO354.out) gb364 (Nat.le_of_eq hg.symm)) hb); have n1_ := Aside0.mk (Kd.N_below (Kd.N_elderB (by (with_reducible repeat (first | apply Kd.N_alloc | apply Kd.N_drewN | apply Kd.N_drew)); exact HO358.out) gb364 (Nat.le_of_eq hg.symm)) hb); have n2_ := Aside0.mk (Kd.V_below (Kd.V_elderB (by (with_reducible repeat (first | apply Kd.V_alloc | apply Kd.V_drewN | apply Kd.V_drew)); exact HO363.out) gb364 (Nat.le_of_eq hg.symm)) hb); have n3_ := Aside0.mk (below_step (by repeat (first | (with_reducible first | exact HB.out | apply bA | apply bN | apply bD) | exact HB.out)) hb); have n4_ := Aside0.mk (hbox); have n5_ := Aside0.mk ((by rw [hg]; exact (below_size (by repeat (first | (with_reducible first | exact HB.out | apply bA | apply bN | apply bD) | exact HB.out))) : w.heap.size ≤ gb364)); have n6_ := Aside0.mk ((by rw [hg]; exact (below_size (by repeat (first | (with_reducible first | exact HB.out | apply bA | apply bN | apply bD) | exact HB.out))) : w.heap.size ≤ gb364)); clear HO354; clear HO358; clear HO363; clear HB; have HO354 := n0_; have HO358 := n1_; have HO363 := n2_; have HB := n3_; have BK364 := n4_; have GW364 := n5_; have GE364 := n6_; clear n0_ n1_ n2_ n3_ n4_ n5_ n6_; clear hb hbox hg) | ((with_reducible refine gate_dst (N := 8) rfl ?_); (try (refine gate_guard (by rfl) ?_; dsimp only)); refine box_event ?hg (N := 8) ?hd (cs := #[.int .i64 0, .int .i64 0, .slice none 0 0]) (t := 29) ?hr ?_; (case hd => rfl); (case hg => rfl); (case hr => first | (go_simp; done) | (go_simp; rfl)); intro gb365 hg w11 hbox hb; have n0_ := Aside0.mk (Kd.V_below (Kd.V_elderB (by (with_reducible repeat (first | apply Kd.V_alloc | apply Kd.V_drewN | apply Kd.V_drew)); exact HO354.out) gb365 (Nat.le_of_eq hg.symm)) hb); have n1_ := Aside0.mk (Kd.N_below (Kd.N_elderB (by (with_reducible repeat (first | apply Kd.N_alloc | apply Kd.N_drewN | apply Kd.N_drew)); exact HO358.out) gb365 (Nat.le_of_eq hg.symm)) hb); have n2_ := Aside0.mk (Kd.V_below (Kd.V_elderB (by (with_reducible repeat (first | apply Kd.V_alloc | apply Kd.V_drewN | apply Kd.V_drew)); exact HO363.out) gb365 (Nat.le_of_eq hg.symm)) hb); have n3_ := Aside0.mk (blk_below (g := gb364) (o := .cells #[.slice none 0 0, .bool false] 26 (0, 0)) (by (with_reducible repeat (first | refine kN ?_ _ | refine kD ?_ | refine kA ?_ _)); exact BK364.out) hb); have n4_ := Aside0.mk (below_step (by repeat (first | (with_reducible first | exact HB.out | apply bA | apply bN | apply bD | refine bS ?_ GE364.out) | exact HB.out)) hb); have n5_ := Aside0.mk (hbox); have n6_ := Aside0.mk ((by rw [hg]; exact (below_size (by repeat (first | (with_reducible first | exact HB.out | apply bA | apply bN | apply bD | refine bS ?_ GE364.out) | exact HB.out))) : w.heap.size ≤ gb365)); have n7_ := Aside0.mk ((by rw [hg]; exact (below_size (by repeat (first | (with_reducible first | exact HB.out | apply bA | apply bN | apply bD | refine bS ?_ GE364.out) | exact HB.out))) : w.heap.size ≤ gb365)); have n8_ := Aside0.mk ((by rw [hg]; exact Nat.ne_of_lt (blk_lt (g := gb364) (o := .cells #[.slice none 0 0, .bool false] 26 (0, 0)) (by (with_reducible repeat (first | refine kN ?_ _ | refine kD ?_ | refine kA ?_ _)); exact BK364.out)) : gb364 ≠ gb365)); have n9_ := Aside0.mk ((by rw [hg]; exact Nat.ne_of_gt (blk_lt (g := gb364) (o := .cells #[.slice none 0 0, .bool false] 26 (0, 0)) (by (with_reducible repeat (first | refine kN ?_ _ | refine kD ?_ | refine kA ?_ _)); exact BK364.out)) : gb365 ≠ gb364)); clear HO354; clear HO358; clear HO363; clear BK364; clear HB; have HO354 := n0_; have HO358 := n1_; have HO363 := n2_; have BK364 := n3_; have HB := n4_; have BK365 := n5_; have GW365 := n6_; have GE365 := n7_; have NB364_365 := n8_; have NB365_364 := n9_; clear n0_ n1_ n2_ n3_ n4_ n5_ n6_ n7_ n8_ n9_; clear hb hbox hg; obtain ⟨Ao12, co12, eo12⟩ := Kd.V_slice HO354.out; subst eo12; have hnb13 := NB364_365.out; have hnc13 := NB365_364.out; have hcz14_0 : w11.cell? ⟨gb364, 0, none⟩ = some (.slice none 0 0) := (blk_cell BK364.out 0).trans rfl; have hcz14_1 : w11.cell? ⟨gb364, 1, none⟩ = some (.bool false) := (blk_cell BK364.out 1).trans rfl; have hfz14_0 := blk_frozen BK364.out 0; have hfz14_1 := blk_frozen BK364.out 1; have hcz15_0 : w11.cell? ⟨gb365, 0, none⟩ = some (.int .i64 0) := (blk_cell BK365.out 0).trans rfl; have hcz15_1 : w11.cell? ⟨gb365, 1, none⟩ = some (.int .i64 0) := (blk_cell BK365.out 1).trans rfl; have hcz15_2 : w11.cell? ⟨gb365, 2, none⟩ = some (.slice none 0 0) := (blk_cell BK365.out 2).trans rfl; have hfz15_0 := blk_frozen BK365.out 0; have hfz15_1 := blk_frozen BK365.out 1; have hfz15_2 := blk_frozen BK365.out 2; obtain ⟨Ao16, co16, eo16⟩ := Kd.V_slice HO363.out; subst eo16))
    go_loopg [9] kj3 (fun kq v9 w' => ∃ (x9_2 : Int), v9 = .int .i64 x9_2 ∧ Aside0 (ridgewaylaw04_StreamBad.l0 kq l1 t351 t356 x9_2 t352 t355 t359 t360 t361 = some true) ∧ Aside0 (kq ≤ kj3) ∧ Aside0 (Kd.N k43 43 w' w.heap.size (fun k_ => k_ ≠ gb364 ∧ k_ ≠ gb365) v357 t356) ∧ Aside0 (Kd.V (Kd.int .u8) 5 w' w.heap.size (fun k_ => some k_ ≠ (v357 : Value).ownBlock ∧ k_ ≠ gb364 ∧ k_ ≠ gb365) (.slice Ao12 t352.length co12) t352) ∧ Aside0 (Kd.V (Kd.int .u8) 5 w' w.heap.size (fun k_ => some k_ ≠ (v357 : Value).ownBlock ∧ k_ ≠ gb364 ∧ k_ ≠ gb365) (.slice Ao16 t361.length co16) t361) ∧ Aside0 (w'.heap[gb364]? = some (.cells #[(.slice Ao12 t352.length co12), .bool t355] 26 (0, 0))) ∧ Aside0 (w'.heap[gb365]? = some (.cells #[.int .i64 t359, .int .i64 t360, (.slice Ao16 t361.length co16)] 29 (0, 0))) ∧ Aside0 (Below w.heap.size w w'))
    case atStart => exact ⟨(0), (by first | rfl | (simp; done) | (simp [*]; done)), H', ⟨Nat.le_refl _⟩, ⟨by (with_reducible repeat (first | apply Kd.N_alloc | apply Kd.N_drewN | apply Kd.N_drew)); exact Kd.N_mono (Kd.N_far (p := ⟨gb365, 2, none⟩) (Kd.N_far (p := ⟨gb365, 1, none⟩) (Kd.N_far (p := ⟨gb365, 0, none⟩) (Kd.N_far (p := ⟨gb364, 1, none⟩) (Kd.N_far (p := ⟨gb364, 0, none⟩) (Kd.N_mono (Kd.N_mono HO358.out (fun k_ hk => (⟨hk, hk.1.2⟩ : _ ∧ k_ ≠ gb364))) (fun k_ hk => (⟨hk, hk.1.2⟩ : _ ∧ k_ ≠ gb365))) (fun _ hk => hk.1.2) (.slice Ao12 t352.length co12)) (fun _ hk => hk.1.2) (.bool t355)) (fun _ hk => hk.2) (.int .i64 t359)) (fun _ hk => hk.2) (.int .i64 t360)) (fun _ hk => hk.2) (.slice Ao16 t361.length co16)) (fun _ hk => ⟨hk.1.1.1.2, hk.1.1.2⟩)⟩, ⟨by (with_reducible repeat (first | apply Kd.V_alloc | apply Kd.V_drewN | apply Kd.V_drew)); exact Kd.V_mono (Kd.V_far (p := ⟨gb365, 2, none⟩) (Kd.V_far (p := ⟨gb365, 1, none⟩) (Kd.V_far (p := ⟨gb365, 0, none⟩) (Kd.V_far (p := ⟨gb364, 1, none⟩) (Kd.V_far (p := ⟨gb364, 0, none⟩) (Kd.V_mono (Kd.V_mono HO354.out (fun k_ hk => (⟨hk, hk.1.2⟩ : _ ∧ k_ ≠ gb364))) (fun k_ hk => (⟨hk, hk.1.2⟩ : _ ∧ k_ ≠ gb365))) (fun _ hk => hk.1.2) (.slice Ao12 t352.length co12)) (fun _ hk => hk.1.2) (.bool t355)) (fun _ hk => hk.2) (.int .i64 t359)) (fun _ hk => hk.2) (.int .i64 t360)) (fun _ hk => hk.2) (.slice Ao16 t361.length co16)) (fun _ hk => ⟨hk.1.1.1.1, ⟨hk.1.1.1.2, hk.1.1.2⟩⟩)⟩, ⟨by (with_reducible repeat (first | apply Kd.V_alloc | apply Kd.V_drewN | apply Kd.V_drew)); exact Kd.V_mono (Kd.V_far (p := ⟨gb365, 2, none⟩) (Kd.V_far (p := ⟨gb365, 1, none⟩) (Kd.V_far (p := ⟨gb365, 0, none⟩) (Kd.V_far (p := ⟨gb364, 1, none⟩) (Kd.V_far (p := ⟨gb364, 0, none⟩) (Kd.V_mono (Kd.V_mono HO363.out (fun k_ hk => (⟨hk, hk.1.2⟩ : _ ∧ k_ ≠ gb364))) (fun k_ hk => (⟨hk, hk.1.2⟩ : _ ∧ k_ ≠ gb365))) (fun _ hk => hk.1.2) (.slice Ao12 t352.length co12)) (fun _ hk => hk.1.2) (.bool t355)) (fun _ hk => hk.2) (.int .i64 t359)) (fun _ hk => hk.2) (.int .i64 t360)) (fun _ hk => hk.2) (.slice Ao16 t361.length co16)) (fun _ hk => ⟨hk.1.1.1.1, ⟨hk.1.1.1.2, hk.1.1.2⟩⟩)⟩, ⟨by (with_reducible repeat (first | refine kN ?_ _ | refine kD ?_ | refine kA ?_ _)); refine blk_far ?_ NB364_365.out _; (with_reducible repeat (first | refine kN ?_ _ | refine kD ?_ | refine kA ?_ _)); refine blk_far ?_ NB364_365.out _; (with_reducible repeat (first | refine kN ?_ _ | refine kD ?_ | refine kA ?_ _)); refine blk_far ?_ NB364_365.out _; (with_reducible repeat (first | refine kN ?_ _ | refine kD ?_ | refine kA ?_ _)); refine blk_put (cs := #[.slice Ao12 t352.length co12, .bool false]) ?_ 1 _ rfl; (with_reducible repeat (first | refine kN ?_ _ | refine kD ?_ | refine kA ?_ _)); refine blk_put (cs := #[.slice none 0 0, .bool false]) ?_ 0 _ rfl; (with_reducible repeat (first | refine kN ?_ _ | refine kD ?_ | refine kA ?_ _)); exact BK364.out⟩, ⟨by (with_reducible repeat (first | refine kN ?_ _ | refine kD ?_ | refine kA ?_ _)); refine blk_put (cs := #[.int .i64 t359, .int .i64 t360, .slice none 0 0]) ?_ 2 _ rfl; (with_reducible repeat (first | refine kN ?_ _ | refine kD ?_ | refine kA ?_ _)); refine blk_put (cs := #[.int .i64 t359, .int .i64 0, .slice none 0 0]) ?_ 1 _ rfl; (with_reducible repeat (first | refine kN ?_ _ | refine kD ?_ | refine kA ?_ _)); refine blk_put (cs := #[.int .i64 0, .int .i64 0, .slice none 0 0]) ?_ 0 _ rfl; (with_reducible repeat (first | refine kN ?_ _ | refine kD ?_ | refine kA ?_ _)); refine blk_far ?_ NB365_364.out _; (with_reducible repeat (first | refine kN ?_ _ | refine kD ?_ | refine kA ?_ _)); refine blk_far ?_ NB365_364.out _; (with_reducible repeat (first | refine kN ?_ _ | refine kD ?_ | refine kA ?_ _)); exact BK365.out⟩, ⟨by repeat (first | (with_reducible first | exact HB.out | apply bA | apply bN | apply bD | refine bS ?_ GE364.out | refine bS ?_ GE365.out) | exact HB.out)⟩⟩
    case round =>
     clear H'
     try clear c1
     try clear p2
     try clear c6
     try clear c6b0
     try clear c6b1
     try clear c7
     try clear c8
     try clear c13
     try clear hcz14_0
     try clear hcz14_1
     try clear hcz15_0
     try clear hcz15_1
     try clear hcz15_2
     try clear hfz14_0
     try clear hfz14_1
     try clear hfz15_0
     try clear hfz15_1
     try clear hfz15_2
     try clear p2
     obtain ⟨x9_2, rfl, HA, HK2, HO_7, HO_365000, HO_366002, BK364, BK365, HB⟩ := hrel
     cases gk with
     | zero => exact absurd HA.out (by simp [ridgewaylaw04_StreamBad.l0])
     | succ k2 =>
      have H := HA.out
      clear HA
      simp only [ridgewaylaw04_StreamBad.l0] at H
      by_cases c17 : x9_2 < (t356.length : Int)
      ·
       rw [if_pos c17] at H
       have c17b0 : decide (x9_2 < (t356.length : Int)) = true := decide_eq_true c17
       clear c17
       by_cases c18 : 0 ≤ x9_2
       ·
        rw [if_pos c18] at H
        have c18b0 : decide (0 ≤ x9_2) = true := decide_eq_true c18
        clear c18
        replace H := Option.bind_eq_some_iff.mp H
        obtain ⟨t367, A190, H⟩ := H
        replace H : (if t367 = true then (ridgewaylaw04_StreamBad.l0 k2 l1 t351 t356 (wrap64 (x9_2 + 1)) t352 t355 t359 t360 t361) else (some false)) = some true := H
        have A19 := Aside0.mk A190
        clear A190
        by_cases c20 : t367 = true
        ·
         subst c20
         have H1 : (ridgewaylaw04_StreamBad.l0 k2 l1 t351 t356 (wrap64 (x9_2 + 1)) t352 t355 t359 t360 t361) = some true := by rw [if_pos rfl] at H; first | done | exact H
         clear H
         have H := H1
         clear H1
         have H' := Aside0.mk H
         clear H
         obtain ⟨Ao21, co21, eo21⟩ := Kd.N_slice HO_7.out
         subst eo21
         have p366 : 0 ≤ (x9_2 : Int) := of_decide_eq_true (by first | (with_reducible assumption) | assumption)
         have q366 : x9_2 < (t356.length : Int) := of_decide_eq_true (by first | (with_reducible assumption) | assumption)
         obtain ⟨ad366, A366_1, c366_1, e366, hx366_0, hx366_1, hl366_1, hi366_1⟩ := at_T43 (Kd.N_reads' HO_7.out).2.2 x9_2 p366 q366
         cases e366
         obtain ⟨ce366, hce366, hMe366, hcc366⟩ := Kd.N_get HO_7.out z43 x9_2 p366 (by first | exact q366 | exact of_decide_eq_true (by first | (with_reducible assumption) | assumption) | (have e_ := (Kd.N_reads' HO_7.out).1; omega))
         obtain ⟨ua366_1, uc366_1, rfl, ul366_1, ge366_1⟩ := k43_openF hMe366
         have hv366_1 := hcc366 1 _ rfl
         rw [add_field _ _ 1 (by omega)] at hv366_1
         replace hv366_1 := Option.some.inj (hv366_1.symm.trans hx366_1)
         injection hv366_1 with hva_ hvn_ hvc_
         rw [hva_] at ge366_1
         rw [hvc_] at ul366_1
         have HL366_1 := Aside0.mk (show Kd.V (Kd.int .u8) 5 _ w.heap.size _ _ ((rd_T43 t356 x9_2).f1) from Kd.V_mk ul366_1 ge366_1)
         clear hva_ hvn_ hvc_ ge366_1 ul366_1
         clear hcc366 hce366
         have HR366_1 := Aside0.mk hi366_1
         have HC366_1 := Aside0.mk hl366_1
         clear hi366_1 hl366_1
         replace p366 := eq_true p366
         replace q366 := eq_true q366
         go_wp2_with (first | ((with_reducible refine gate_callee (f := 15) rfl ?_); refine goesL_ (some 40) rfl rfl Try.func15 (by kernel_rfl) rfl #[.agg #[.int .i64 ((rd_T43 t356 x9_2).f0), .slice A366_1 ((rd_T43 t356 x9_2).f1).length c366_1]] rfl (by (try simp only [List.map_toArray, List.map_cons, List.map_nil]); first | done | rfl | (simp only [List.length_drop, List.length_take]; rfl)) ?_; (with_reducible refine (msg_Sane.calls ((rd_T43 t356 x9_2).f0) _ _ ((rd_T43 t356 x9_2).f1) true _ ?side1 ?side2 A19.out).mono ?_); (case side1 => repeat (first | exact (by repeat (first | (with_reducible exact HR366_1.out) | (with_reducible refine Kd.C_alloc ?_ _) | (with_reducible refine Kd.C_drewN ?_ _) | (with_reducible refine Kd.C_drew ?_) | exact HR366_1.out)) | (with_reducible refine Kd.C_alloc ?_ _) | (with_reducible refine Kd.C_drewN ?_ _) | (with_reducible refine Kd.C_drew ?_))); (case side2 => exact HC366_1.out); rintro e w22 ⟨rfl, hb⟩; refine ⟨_, rfl, ?_⟩; have n0_ := Aside0.mk (Kd.N_below (by (with_reducible repeat (first | apply Kd.N_alloc | apply Kd.N_drewN | apply Kd.N_drew)); exact HO_7.out) hb); have n1_ := Aside0.mk (Kd.V_below (by (with_reducible repeat (first | apply Kd.V_alloc | apply Kd.V_drewN | apply Kd.V_drew)); exact HO_365000.out) hb); have n2_ := Aside0.mk (Kd.V_below (by (with_reducible repeat (first | apply Kd.V_alloc | apply Kd.V_drewN | apply Kd.V_drew)); exact HO_366002.out) hb); have n3_ := Aside0.mk (Kd.V_below (by (with_reducible repeat (first | apply Kd.V_alloc | apply Kd.V_drewN | apply Kd.V_drew)); exact HL366_1.out) hb); have n4_ := Aside0.mk (blk_below (g := gb364) (o := .cells #[.slice Ao12 t352.length co12, .bool t355] 26 (0, 0)) (by (with_reducible repeat (first | refine kN ?_ _ | refine kD ?_ | refine kA ?_ _)); exact BK364.out) hb); have n5_ := Aside0.mk (blk_below (g := gb365) (o := .cells #[.int .i64 t359, .int .i64 t360, .slice Ao16 t361.length co16] 29 (0, 0)) (by (with_reducible repeat (first | refine kN ?_ _ | refine kD ?_ | refine kA ?_ _)); exact BK365.out) hb); have n6_ := Aside0.mk (Kd.C_below (by repeat (first | (with_reducible exact HR366_1.out) | (with_reducible refine Kd.C_alloc ?_ _) | (with_reducible refine Kd.C_drewN ?_ _) | (with_reducible refine Kd.C_drew ?_) | exact HR366_1.out)) hb); have n7_ := Aside0.mk (below_step (by repeat (first | (with_reducible first | exact HB.out | apply bA | apply bN | apply bD | refine bS ?_ GE364.out | refine bS ?_ GE365.out) | exact HB.out)) hb); clear HO_7; clear HO_365000; clear HO_366002; clear HL366_1; clear BK364; clear BK365; clear HR366_1; clear HB; have HO_7 := n0_; have HO_365000 := n1_; have HO_366002 := n2_; have HL366_1 := n3_; have BK364 := n4_; have BK365 := n5_; have HR366_1 := n6_; have HB := n7_; clear n0_ n1_ n2_ n3_ n4_ n5_ n6_ n7_; (try clear hb); (try clear hb2); (try clear hk); (try clear hi)))
         go_roundg k2
         case measure => have := HJ3.out; have := HK2.out; omega
         case rel => exact ⟨(wrap64 (x9_2 + 1)), (by first | rfl | (simp; done) | (simp [*]; done)), H', ⟨by have := HJ3.out; have := HK2.out; omega⟩, ⟨by (with_reducible repeat (first | apply Kd.N_alloc | apply Kd.N_drewN | apply Kd.N_drew)); exact HO_7.out⟩, ⟨by (with_reducible repeat (first | apply Kd.V_alloc | apply Kd.V_drewN | apply Kd.V_drew)); exact HO_365000.out⟩, ⟨by (with_reducible repeat (first | apply Kd.V_alloc | apply Kd.V_drewN | apply Kd.V_drew)); exact HO_366002.out⟩, ⟨by (with_reducible repeat (first | refine kN ?_ _ | refine kD ?_ | refine kA ?_ _)); exact BK364.out⟩, ⟨by (with_reducible repeat (first | refine kN ?_ _ | refine kD ?_ | refine kA ?_ _)); exact BK365.out⟩, ⟨by repeat (first | (with_reducible first | exact HB.out | apply bA | apply bN | apply bD | refine bS ?_ GE364.out | refine bS ?_ GE365.out) | exact HB.out)⟩⟩
        ·
         replace c20 := Bool.eq_false_iff.mpr c20
         subst c20
         have H1 : (some false) = some true := by rw [if_neg (show ¬ (false = true) by decide)] at H; first | done | exact H
         clear H
         have H := H1
         clear H1
         exact absurd H (by simp)
       ·
        rw [if_neg c18] at H
        exact absurd H (by simp)
      ·
       rw [if_neg c17] at H
       have c17b0 : decide (x9_2 < (t356.length : Int)) = false := decide_eq_false c17
       clear c17
       have HC23 := Aside0.mk H
       clear H
       obtain ⟨Ao24, co24, eo24⟩ := Kd.N_slice HO_7.out
       subst eo24
       go_upto_region 10 with (fail)
       go_cut [58] (fun v58 wc => ∃ (kq : Nat) (x58_22 : Bool), v58 = .bool x58_22 ∧ Aside0 (ridgewaylaw04_StreamBad.j2 kq l1 t351 x58_22 t352 t355 = some true) ∧ Aside0 (kq ≤ k2) ∧ Aside0 (Kd.V (Kd.int .u8) 5 wc w.heap.size (fun k_ => k_ ≠ gb364 ∧ k_ ≠ gb365) (.slice Ao12 t352.length co12) t352) ∧ Aside0 (Kd.V (Kd.int .u8) 5 wc w.heap.size (fun k_ => k_ ≠ gb364 ∧ k_ ≠ gb365) (.slice Ao16 t361.length co16) t361) ∧ Aside0 (wc.heap[gb364]? = some (.cells #[(.slice Ao12 t352.length co12), .bool t355] 26 (0, 0))) ∧ Aside0 (wc.heap[gb365]? = some (.cells #[.int .i64 t359, .int .i64 t360, (.slice Ao16 t361.length co16)] 29 (0, 0))) ∧ Aside0 (Below w.heap.size w wc))
       case first =>
        have H := HC23.out
        clear HC23
        by_cases c25 : (t355 != (t359 != 0)) = true
        ·
         rw [if_pos c25] at H
         have c25b0 : (t355 != (t359 != 0)) = true := c25
         (try (have c25b1 : decide (t355 = (t359 != 0)) = false := by simpa using c25))
         (try (have c25b2 : (t355 == (t359 != 0)) = false := by simpa using c25))
         (try (have c25b3 : ¬ (t355 = (t359 != 0)) := by simpa using c25))
         clear c25
         (first | rw [c25b0] | (simp only [i64_w, i32_w]; rw [c25b0]) | skip)
         have H' := Aside0.mk H
         clear H
         have hnb26 := NB364_365.out
         have hnc26 := NB365_364.out
         have hcz27_0 : wr.cell? ⟨gb364, 0, none⟩ = some (.slice Ao12 t352.length co12) := (blk_cell BK364.out 0).trans rfl
         have hcz27_1 : wr.cell? ⟨gb364, 1, none⟩ = some (.bool t355) := (blk_cell BK364.out 1).trans rfl
         have hfz27_0 := blk_frozen BK364.out 0
         have hfz27_1 := blk_frozen BK364.out 1
         have hcz28_0 : wr.cell? ⟨gb365, 0, none⟩ = some (.int .i64 t359) := (blk_cell BK365.out 0).trans rfl
         have hcz28_1 : wr.cell? ⟨gb365, 1, none⟩ = some (.int .i64 t360) := (blk_cell BK365.out 1).trans rfl
         have hcz28_2 : wr.cell? ⟨gb365, 2, none⟩ = some (.slice Ao16 t361.length co16) := (blk_cell BK365.out 2).trans rfl
         have hfz28_0 := blk_frozen BK365.out 0
         have hfz28_1 := blk_frozen BK365.out 1
         have hfz28_2 := blk_frozen BK365.out 2
         go_wp2
         go_meet
         case rel => exact ⟨_, (true), (by first | rfl | (simp; done) | (simp [*]; done)), H', ⟨by have := HJ3.out; have := HK2.out; first | omega | exact Nat.le_refl _⟩, ⟨by (with_reducible repeat (first | apply Kd.V_alloc | apply Kd.V_drewN | apply Kd.V_drew)); exact Kd.V_mono HO_365000.out (fun _ hk => ⟨hk.2.1, hk.2.2⟩)⟩, ⟨by (with_reducible repeat (first | apply Kd.V_alloc | apply Kd.V_drewN | apply Kd.V_drew)); exact Kd.V_mono HO_366002.out (fun _ hk => ⟨hk.2.1, hk.2.2⟩)⟩, ⟨by (with_reducible repeat (first | refine kN ?_ _ | refine kD ?_ | refine kA ?_ _)); exact BK364.out⟩, ⟨by (with_reducible repeat (first | refine kN ?_ _ | refine kD ?_ | refine kA ?_ _)); exact BK365.out⟩, ⟨by repeat (first | (with_reducible first | exact HB.out | apply bA | apply bN | apply bD | refine bS ?_ GE364.out | refine bS ?_ GE365.out) | exact HB.out)⟩⟩
        ·
         rw [if_neg c25] at H
         have c25b0 : (t355 != (t359 != 0)) = false := by simpa using c25
         (try (have c25b1 : decide (t355 = (t359 != 0)) = true := by simpa using c25))
         (try (have c25b2 : (t355 == (t359 != 0)) = true := by simpa using c25))
         clear c25
         (first | rw [c25b0] | (simp only [i64_w, i32_w]; rw [c25b0]) | skip)
         replace H := Option.bind_eq_some_iff.mp H
         obtain ⟨t368, A290, H⟩ := H
         replace H : (if t368 = true then (ridgewaylaw04_StreamBad.j2 k2 l1 t351 (decide ((t352.length : Int) ≥ 4096)) t352 t355) else (ridgewaylaw04_StreamBad.j2 k2 l1 t351 true t352 t355)) = some true := H
         have A29 := Aside0.mk A290
         clear A290
         by_cases c30 : t368 = true
         ·
          subst c30
          have H1 : (ridgewaylaw04_StreamBad.j2 k2 l1 t351 (decide ((t352.length : Int) ≥ 4096)) t352 t355) = some true := by rw [if_pos rfl] at H; first | done | exact H
          clear H
          have H := H1
          clear H1
          have H' := Aside0.mk H
          clear H
          have hnb31 := NB364_365.out
          have hnc31 := NB365_364.out
          have hcz32_0 : wr.cell? ⟨gb364, 0, none⟩ = some (.slice Ao12 t352.length co12) := (blk_cell BK364.out 0).trans rfl
          have hcz32_1 : wr.cell? ⟨gb364, 1, none⟩ = some (.bool t355) := (blk_cell BK364.out 1).trans rfl
          have hfz32_0 := blk_frozen BK364.out 0
          have hfz32_1 := blk_frozen BK364.out 1
          have hcz33_0 : wr.cell? ⟨gb365, 0, none⟩ = some (.int .i64 t359) := (blk_cell BK365.out 0).trans rfl
          have hcz33_1 : wr.cell? ⟨gb365, 1, none⟩ = some (.int .i64 t360) := (blk_cell BK365.out 1).trans rfl
          have hcz33_2 : wr.cell? ⟨gb365, 2, none⟩ = some (.slice Ao16 t361.length co16) := (blk_cell BK365.out 2).trans rfl
          have hfz33_0 := blk_frozen BK365.out 0
          have hfz33_1 := blk_frozen BK365.out 1
          have hfz33_2 := blk_frozen BK365.out 2
          go_wp2_with (first | (go_at_call 10; (with_reducible refine (stream_Sane.calls k2 _ _ t352 t355 true _ ?side1 ?side2 A29.out).mono ?_); (case side1 => repeat (first | exact (Kd.V_reads' HO_365000.out).2.2 | (with_reducible refine Kd.C_alloc ?_ _) | (with_reducible refine Kd.C_drewN ?_ _) | (with_reducible refine Kd.C_drew ?_))); (case side2 => exact (Kd.V_reads' HO_365000.out).2.1); rintro e w34 ⟨rfl, hb⟩; have n0_ := Aside0.mk (Kd.N_below (by (with_reducible repeat (first | apply Kd.N_alloc | apply Kd.N_drewN | apply Kd.N_drew)); exact HO_7.out) hb); have n1_ := Aside0.mk (Kd.V_below (by (with_reducible repeat (first | apply Kd.V_alloc | apply Kd.V_drewN | apply Kd.V_drew)); exact HO_365000.out) hb); have n2_ := Aside0.mk (Kd.V_below (by (with_reducible repeat (first | apply Kd.V_alloc | apply Kd.V_drewN | apply Kd.V_drew)); exact HO_366002.out) hb); have n3_ := Aside0.mk (blk_below (g := gb364) (o := .cells #[.slice Ao12 t352.length co12, .bool t355] 26 (0, 0)) (by (with_reducible repeat (first | refine kN ?_ _ | refine kD ?_ | refine kA ?_ _)); exact BK364.out) hb); have n4_ := Aside0.mk (blk_below (g := gb365) (o := .cells #[.int .i64 t359, .int .i64 t360, .slice Ao16 t361.length co16] 29 (0, 0)) (by (with_reducible repeat (first | refine kN ?_ _ | refine kD ?_ | refine kA ?_ _)); exact BK365.out) hb); have n5_ := Aside0.mk (below_step (by repeat (first | (with_reducible first | exact HB.out | apply bA | apply bN | apply bD | refine bS ?_ GE364.out | refine bS ?_ GE365.out) | exact HB.out)) hb); clear HO_7; clear HO_365000; clear HO_366002; clear BK364; clear BK365; clear HB; have HO_7 := n0_; have HO_365000 := n1_; have HO_366002 := n2_; have BK364 := n3_; have BK365 := n4_; have HB := n5_; clear n0_ n1_ n2_ n3_ n4_ n5_; (try clear hb); (try clear hb2); (try clear hk); (try clear hi); have hcz35_0 : w34.cell? ⟨gb364, 0, none⟩ = some (.slice Ao12 t352.length co12) := (blk_cell BK364.out 0).trans rfl; have hcz35_1 : w34.cell? ⟨gb364, 1, none⟩ = some (.bool t355) := (blk_cell BK364.out 1).trans rfl; have hfz35_0 := blk_frozen BK364.out 0; have hfz35_1 := blk_frozen BK364.out 1))
          go_meet
          case rel => exact ⟨_, (decide ((t352.length : Int) ≥ 4096)), (by first | rfl | (simp; done) | (simp [*]; done)), H', ⟨by have := HJ3.out; have := HK2.out; first | omega | exact Nat.le_refl _⟩, ⟨by (with_reducible repeat (first | apply Kd.V_alloc | apply Kd.V_drewN | apply Kd.V_drew)); exact Kd.V_mono HO_365000.out (fun _ hk => ⟨hk.2.1, hk.2.2⟩)⟩, ⟨by (with_reducible repeat (first | apply Kd.V_alloc | apply Kd.V_drewN | apply Kd.V_drew)); exact Kd.V_mono HO_366002.out (fun _ hk => ⟨hk.2.1, hk.2.2⟩)⟩, ⟨by (with_reducible repeat (first | refine kN ?_ _ | refine kD ?_ | refine kA ?_ _)); exact BK364.out⟩, ⟨by (with_reducible repeat (first | refine kN ?_ _ | refine kD ?_ | refine kA ?_ _)); exact BK365.out⟩, ⟨by repeat (first | (with_reducible first | exact HB.out | apply bA | apply bN | apply bD | refine bS ?_ GE364.out | refine bS ?_ GE365.out) | exact HB.out)⟩⟩
         ·
          replace c30 := Bool.eq_false_iff.mpr c30
          subst c30
          have H1 : (ridgewaylaw04_StreamBad.j2 k2 l1 t351 true t352 t355) = some true := by rw [if_neg (show ¬ (false = true) by decide)] at H; first | done | exact H
          clear H
          have H := H1
          clear H1
          have H' := Aside0.mk H
          clear H
          have hnb36 := NB364_365.out
          have hnc36 := NB365_364.out
          have hcz37_0 : wr.cell? ⟨gb364, 0, none⟩ = some (.slice Ao12 t352.length co12) := (blk_cell BK364.out 0).trans rfl
          have hcz37_1 : wr.cell? ⟨gb364, 1, none⟩ = some (.bool t355) := (blk_cell BK364.out 1).trans rfl
          have hfz37_0 := blk_frozen BK364.out 0
          have hfz37_1 := blk_frozen BK364.out 1
          have hcz38_0 : wr.cell? ⟨gb365, 0, none⟩ = some (.int .i64 t359) := (blk_cell BK365.out 0).trans rfl
          have hcz38_1 : wr.cell? ⟨gb365, 1, none⟩ = some (.int .i64 t360) := (blk_cell BK365.out 1).trans rfl
          have hcz38_2 : wr.cell? ⟨gb365, 2, none⟩ = some (.slice Ao16 t361.length co16) := (blk_cell BK365.out 2).trans rfl
          have hfz38_0 := blk_frozen BK365.out 0
          have hfz38_1 := blk_frozen BK365.out 1
          have hfz38_2 := blk_frozen BK365.out 2
          go_wp2_with (first | (go_at_call 10; (with_reducible refine (stream_Sane.calls k2 _ _ t352 t355 false _ ?side1 ?side2 A29.out).mono ?_); (case side1 => repeat (first | exact (Kd.V_reads' HO_365000.out).2.2 | (with_reducible refine Kd.C_alloc ?_ _) | (with_reducible refine Kd.C_drewN ?_ _) | (with_reducible refine Kd.C_drew ?_))); (case side2 => exact (Kd.V_reads' HO_365000.out).2.1); rintro e w39 ⟨rfl, hb⟩; have n0_ := Aside0.mk (Kd.N_below (by (with_reducible repeat (first | apply Kd.N_alloc | apply Kd.N_drewN | apply Kd.N_drew)); exact HO_7.out) hb); have n1_ := Aside0.mk (Kd.V_below (by (with_reducible repeat (first | apply Kd.V_alloc | apply Kd.V_drewN | apply Kd.V_drew)); exact HO_365000.out) hb); have n2_ := Aside0.mk (Kd.V_below (by (with_reducible repeat (first | apply Kd.V_alloc | apply Kd.V_drewN | apply Kd.V_drew)); exact HO_366002.out) hb); have n3_ := Aside0.mk (blk_below (g := gb364) (o := .cells #[.slice Ao12 t352.length co12, .bool t355] 26 (0, 0)) (by (with_reducible repeat (first | refine kN ?_ _ | refine kD ?_ | refine kA ?_ _)); exact BK364.out) hb); have n4_ := Aside0.mk (blk_below (g := gb365) (o := .cells #[.int .i64 t359, .int .i64 t360, .slice Ao16 t361.length co16] 29 (0, 0)) (by (with_reducible repeat (first | refine kN ?_ _ | refine kD ?_ | refine kA ?_ _)); exact BK365.out) hb); have n5_ := Aside0.mk (below_step (by repeat (first | (with_reducible first | exact HB.out | apply bA | apply bN | apply bD | refine bS ?_ GE364.out | refine bS ?_ GE365.out) | exact HB.out)) hb); clear HO_7; clear HO_365000; clear HO_366002; clear BK364; clear BK365; clear HB; have HO_7 := n0_; have HO_365000 := n1_; have HO_366002 := n2_; have BK364 := n3_; have BK365 := n4_; have HB := n5_; clear n0_ n1_ n2_ n3_ n4_ n5_; (try clear hb); (try clear hb2); (try clear hk); (try clear hi)))
          go_meet
          case rel => exact ⟨_, (true), (by first | rfl | (simp; done) | (simp [*]; done)), H', ⟨by have := HJ3.out; have := HK2.out; first | omega | exact Nat.le_refl _⟩, ⟨by (with_reducible repeat (first | apply Kd.V_alloc | apply Kd.V_drewN | apply Kd.V_drew)); exact Kd.V_mono HO_365000.out (fun _ hk => ⟨hk.2.1, hk.2.2⟩)⟩, ⟨by (with_reducible repeat (first | apply Kd.V_alloc | apply Kd.V_drewN | apply Kd.V_drew)); exact Kd.V_mono HO_366002.out (fun _ hk => ⟨hk.2.1, hk.2.2⟩)⟩, ⟨by (with_reducible repeat (first | refine kN ?_ _ | refine kD ?_ | refine kA ?_ _)); exact BK364.out⟩, ⟨by (with_reducible repeat (first | refine kN ?_ _ | refine kD ?_ | refine kA ?_ _)); exact BK365.out⟩, ⟨by repeat (first | (with_reducible first | exact HB.out | apply bA | apply bN | apply bD | refine bS ?_ GE364.out | refine bS ?_ GE365.out) | exact HB.out)⟩⟩
       case rest =>
        clear HC23
        try clear c1
        try clear c2
        try clear p2
        try clear c3
        try clear p3
        try clear q3
        try clear hx3
        try clear c6
        try clear c6b0
        try clear c6b1
        try clear p6
        try clear c7
        try clear c8
        try clear c13
        try clear c15
        try clear c17
        try clear c17b0
        try clear c18
        try clear c18b0
        try clear c20
        try clear c25
        try clear c25b0
        try clear c25b1
        try clear c25b2
        try clear c26
        try clear c30
        try clear c31
        try clear c36
        try clear p36
        try clear q36
        try clear hx36
        try clear hcz14_0
        try clear hcz14_1
        try clear hcz15_0
        try clear hcz15_1
        try clear hcz15_2
        try clear hcz27_0
        try clear hcz27_1
        try clear hcz28_0
        try clear hcz28_1
        try clear hcz28_2
        try clear hcz32_0
        try clear hcz32_1
        try clear hcz33_0
        try clear hcz33_1
        try clear hcz33_2
        try clear hcz35_0
        try clear hcz35_1
        try clear hcz37_0
        try clear hcz37_1
        try clear hcz38_0
        try clear hcz38_1
        try clear hcz38_2
        try clear hfz14_0
        try clear hfz14_1
        try clear hfz15_0
        try clear hfz15_1
        try clear hfz15_2
        try clear hfz27_0
        try clear hfz27_1
        try clear hfz28_0
        try clear hfz28_1
        try clear hfz28_2
        try clear hfz32_0
        try clear hfz32_1
        try clear hfz33_0
        try clear hfz33_1
        try clear hfz33_2
        try clear hfz35_0
        try clear hfz35_1
        try clear hfz37_0
        try clear hfz37_1
        try clear hfz38_0
        try clear hfz38_1
        try clear hfz38_2
        try clear hx366_0
        try clear hx366_1
        try clear p2
        try clear p366
        try clear q366
        obtain ⟨kq, x58_22, rfl, HA, HJ22, HO_365000, HO_366002, BK364, BK365, HB⟩ := hcut
        cases kq with
        | zero => exact absurd HA.out (by simp [ridgewaylaw04_StreamBad.j2])
        | succ kj22 =>
         have H := HA.out
         clear HA
         simp only [ridgewaylaw04_StreamBad.j2] at H
         by_cases c40 : x58_22 = true
         ·
          subst c40
          have H1 : (some false) = some true := by rw [if_pos rfl] at H; first | done | exact H
          clear H
          have H := H1
          clear H1
          exact absurd H (by simp)
         ·
          replace c40 := Bool.eq_false_iff.mpr c40
          subst c40
          have H1 : (if t355 = true then ((stream_Feed.f t352 t355 l1).bind fun bt369 => (if t351 = true then (if (t352.length : Int) = 0 then (if bt369.2.1 = true then (if (bt369.1.length : Int) = 0 then (if (bt369.2.2.1.length : Int) = 0 then (some (bt369.2.2.2.1 == 0)) else (some false)) else (some false)) else (some false)) else (some false)) else (some false))) else (some t351)) = some true := by rw [if_neg (show ¬ (false = true) by decide)] at H; first | done | exact H
          clear H
          have H := H1
          clear H1
          by_cases c41 : t355 = true
          ·
           subst c41
           have H1 : ((stream_Feed.f t352 true l1).bind fun bt369 => (if t351 = true then (if (t352.length : Int) = 0 then (if bt369.2.1 = true then (if (bt369.1.length : Int) = 0 then (if (bt369.2.2.1.length : Int) = 0 then (some (bt369.2.2.2.1 == 0)) else (some false)) else (some false)) else (some false)) else (some false)) else (some false))) = some true := by rw [if_pos rfl] at H; first | done | exact H
           clear H
           have H := H1
           clear H1
           replace H := Option.bind_eq_some_iff.mp H
           obtain ⟨⟨t369, t372, t373, t376, t377, t378⟩, A420, H⟩ := H
           replace H : (if t351 = true then (if (t352.length : Int) = 0 then (if t372 = true then (if (t369.length : Int) = 0 then (if (t373.length : Int) = 0 then (some (t376 == 0)) else (some false)) else (some false)) else (some false)) else (some false)) else (some false)) = some true := H
           have A42 := Aside0.mk A420
           clear A420
           by_cases c43 : t351 = true
           ·
            subst c43
            have H1 : (if (t352.length : Int) = 0 then (if t372 = true then (if (t369.length : Int) = 0 then (if (t373.length : Int) = 0 then (some (t376 == 0)) else (some false)) else (some false)) else (some false)) else (some false)) = some true := by rw [if_pos rfl] at H; first | done | exact H
            clear H
            have H := H1
            clear H1
            by_cases c44 : (t352.length : Int) = 0
            ·
             rw [if_pos c44] at H
             have c44b0 : ((t352.length : Int) == 0) = true := beq_iff_eq.mpr c44
             have c44b1 : ((t352.length : Int) != 0) = false := bne_eq_false_iff_eq.mpr c44
             clear c44
             by_cases c45 : t372 = true
             ·
              subst c45
              have H1 : (if (t369.length : Int) = 0 then (if (t373.length : Int) = 0 then (some (t376 == 0)) else (some false)) else (some false)) = some true := by rw [if_pos rfl] at H; first | done | exact H
              clear H
              have H := H1
              clear H1
              by_cases c46 : (t369.length : Int) = 0
              ·
               rw [if_pos c46] at H
               have c46b0 : ((t369.length : Int) == 0) = true := beq_iff_eq.mpr c46
               have c46b1 : ((t369.length : Int) != 0) = false := bne_eq_false_iff_eq.mpr c46
               clear c46
               by_cases c47 : (t373.length : Int) = 0
               ·
                rw [if_pos c47] at H
                have c47b0 : ((t373.length : Int) == 0) = true := beq_iff_eq.mpr c47
                have c47b1 : ((t373.length : Int) != 0) = false := bne_eq_false_iff_eq.mpr c47
                clear c47
                have HRL_ := Aside0.mk (Option.some.inj H)
                clear H
                have hnb48 := NB364_365.out
                have hnc48 := NB365_364.out
                have hcz49_0 : wc.cell? ⟨gb364, 0, none⟩ = some (.slice Ao12 t352.length co12) := (blk_cell BK364.out 0).trans rfl
                have hcz49_1 : wc.cell? ⟨gb364, 1, none⟩ = some (.bool true) := (blk_cell BK364.out 1).trans rfl
                have hfz49_0 := blk_frozen BK364.out 0
                have hfz49_1 := blk_frozen BK364.out 1
                go_wp2_with (first | ((with_reducible refine gate_callee (f := 8) rfl ?_); refine goesL_ (some 66) rfl rfl Try.func8 (by kernel_rfl) rfl #[.agg #[.slice Ao12 t352.length co12, .bool true], .slice A1 l1.length c1] rfl (by (try simp only [List.map_toArray, List.map_cons, List.map_nil]); first | done | rfl | (simp only [List.length_drop, List.length_take]; rfl)) ?_; (with_reducible refine (stream_Feed.calls _ _ t352 true _ _ l1 t369 true t373 t376 t377 t378 _ ?side1 ?side2 ?side3 ?side4 A42.out).mono ?_); (case side1 => repeat (first | exact (Kd.V_reads' HO_365000.out).2.2 | (with_reducible refine Kd.C_alloc ?_ _) | (with_reducible refine Kd.C_drewN ?_ _) | (with_reducible refine Kd.C_drew ?_))); (case side2 => exact (Kd.V_reads' HO_365000.out).2.1); (case side3 => repeat (first | exact (Kd.C_below HR1.out HB.out) | (with_reducible refine Kd.C_alloc ?_ _) | (with_reducible refine Kd.C_drewN ?_ _) | (with_reducible refine Kd.C_drew ?_))); (case side4 => exact HC1.out); rintro e w50 ⟨v370, v374, v379, rfl, ho0, ho1, ho2, hb⟩; refine ⟨_, rfl, ?_⟩; have n0_ := Aside0.mk (Kd.V_elder' (by (with_reducible repeat (first | apply Kd.V_alloc | apply Kd.V_drewN | apply Kd.V_drew)); exact HO_365000.out) (Kd.N_base ho1) hb); have n1_ := Aside0.mk (Kd.V_elder' (by (with_reducible repeat (first | apply Kd.V_alloc | apply Kd.V_drewN | apply Kd.V_drew)); exact HO_366002.out) (Kd.N_base ho1) hb); have n2_ := Aside0.mk (Kd.V_lower (Kd.V_mono (ok' := fun k_ => some k_ ≠ (v374 : Value).ownBlock ∧ k_ ≠ gb364 ∧ k_ ≠ gb365) ho0 (fun k_ hk_ => ⟨hk_.2, (Kd.freshB (g := gb364) (o := .cells #[.slice Ao12 t352.length co12, .bool true] 26 (0, 0)) (by (with_reducible repeat (first | refine kN ?_ _ | refine kD ?_ | refine kA ?_ _)); exact BK364.out) k_ hk_.1), (Kd.freshB (g := gb365) (o := .cells #[.int .i64 t359, .int .i64 t360, .slice Ao16 t361.length co16] 29 (0, 0)) (by (with_reducible repeat (first | refine kN ?_ _ | refine kD ?_ | refine kA ?_ _)); exact BK365.out) k_ hk_.1)⟩)) (below_size (by repeat (first | (with_reducible first | exact HB.out | apply bA | apply bN | apply bD | refine bS ?_ GE364.out | refine bS ?_ GE365.out) | exact HB.out)))); have n3_ := Aside0.mk (Kd.N_lower (Kd.N_mono (ok' := fun k_ => k_ ≠ gb364 ∧ k_ ≠ gb365) ho1 (fun k_ hk_ => ⟨(Kd.freshB (g := gb364) (o := .cells #[.slice Ao12 t352.length co12, .bool true] 26 (0, 0)) (by (with_reducible repeat (first | refine kN ?_ _ | refine kD ?_ | refine kA ?_ _)); exact BK364.out) k_ hk_), (Kd.freshB (g := gb365) (o := .cells #[.int .i64 t359, .int .i64 t360, .slice Ao16 t361.length co16] 29 (0, 0)) (by (with_reducible repeat (first | refine kN ?_ _ | refine kD ?_ | refine kA ?_ _)); exact BK365.out) k_ hk_)⟩)) (below_size (by repeat (first | (with_reducible first | exact HB.out | apply bA | apply bN | apply bD | refine bS ?_ GE364.out | refine bS ?_ GE365.out) | exact HB.out)))); have n4_ := Aside0.mk (Kd.V_lower (Kd.V_mono (ok' := fun k_ => some k_ ≠ (v374 : Value).ownBlock ∧ k_ ≠ gb364 ∧ k_ ≠ gb365) ho2 (fun k_ hk_ => ⟨hk_.2, (Kd.freshB (g := gb364) (o := .cells #[.slice Ao12 t352.length co12, .bool true] 26 (0, 0)) (by (with_reducible repeat (first | refine kN ?_ _ | refine kD ?_ | refine kA ?_ _)); exact BK364.out) k_ hk_.1), (Kd.freshB (g := gb365) (o := .cells #[.int .i64 t359, .int .i64 t360, .slice Ao16 t361.length co16] 29 (0, 0)) (by (with_reducible repeat (first | refine kN ?_ _ | refine kD ?_ | refine kA ?_ _)); exact BK365.out) k_ hk_.1)⟩)) (below_size (by repeat (first | (with_reducible first | exact HB.out | apply bA | apply bN | apply bD | refine bS ?_ GE364.out | refine bS ?_ GE365.out) | exact HB.out)))); have n5_ := Aside0.mk (blk_below (g := gb364) (o := .cells #[.slice Ao12 t352.length co12, .bool true] 26 (0, 0)) (by (with_reducible repeat (first | refine kN ?_ _ | refine kD ?_ | refine kA ?_ _)); exact BK364.out) hb); have n6_ := Aside0.mk (blk_below (g := gb365) (o := .cells #[.int .i64 t359, .int .i64 t360, .slice Ao16 t361.length co16] 29 (0, 0)) (by (with_reducible repeat (first | refine kN ?_ _ | refine kD ?_ | refine kA ?_ _)); exact BK365.out) hb); have n7_ := Aside0.mk (below_step (by repeat (first | (with_reducible first | exact HB.out | apply bA | apply bN | apply bD | refine bS ?_ GE364.out | refine bS ?_ GE365.out) | exact HB.out)) hb); clear HO_365000; clear HO_366002; clear BK364; clear BK365; clear HB; have HO_365000 := n0_; have HO_366002 := n1_; have HO371 := n2_; have HO375 := n3_; have HO380 := n4_; have BK364 := n5_; have BK365 := n6_; have HB := n7_; clear n0_ n1_ n2_ n3_ n4_ n5_ n6_ n7_; (try clear hb); (try clear hb2); (try clear hk); (try clear hi); (try clear ho0); (try clear ho1); (try clear ho2)) | ((with_reducible refine gate_dst (N := 10) rfl ?_); (try (refine gate_guard (by rfl) ?_; dsimp only)); refine box_event ?hg (N := 10) ?hd (cs := #[.slice none 0 0, .bool false]) (t := 26) ?hr ?_; (case hd => rfl); (case hg => rfl); (case hr => first | (go_simp; done) | (go_simp; rfl)); intro gb381 hg w51 hbox hb; have n0_ := Aside0.mk (Kd.V_below (Kd.V_elderB (by (with_reducible repeat (first | apply Kd.V_alloc | apply Kd.V_drewN | apply Kd.V_drew)); exact HO_365000.out) gb381 (Nat.le_of_eq hg.symm)) hb); have n1_ := Aside0.mk (Kd.V_below (Kd.V_elderB (by (with_reducible repeat (first | apply Kd.V_alloc | apply Kd.V_drewN | apply Kd.V_drew)); exact HO_366002.out) gb381 (Nat.le_of_eq hg.symm)) hb); have n2_ := Aside0.mk (Kd.V_below (Kd.V_elderB (by (with_reducible repeat (first | apply Kd.V_alloc | apply Kd.V_drewN | apply Kd.V_drew)); exact HO371.out) gb381 (Nat.le_of_eq hg.symm)) hb); have n3_ := Aside0.mk (Kd.N_below (Kd.N_elderB (by (with_reducible repeat (first | apply Kd.N_alloc | apply Kd.N_drewN | apply Kd.N_drew)); exact HO375.out) gb381 (Nat.le_of_eq hg.symm)) hb); have n4_ := Aside0.mk (Kd.V_below (Kd.V_elderB (by (with_reducible repeat (first | apply Kd.V_alloc | apply Kd.V_drewN | apply Kd.V_drew)); exact HO380.out) gb381 (Nat.le_of_eq hg.symm)) hb); have n5_ := Aside0.mk (blk_below (g := gb364) (o := .cells #[.slice Ao12 t352.length co12, .bool true] 26 (0, 0)) (by (with_reducible repeat (first | refine kN ?_ _ | refine kD ?_ | refine kA ?_ _)); exact BK364.out) hb); have n6_ := Aside0.mk (blk_below (g := gb365) (o := .cells #[.int .i64 t359, .int .i64 t360, .slice Ao16 t361.length co16] 29 (0, 0)) (by (with_reducible repeat (first | refine kN ?_ _ | refine kD ?_ | refine kA ?_ _)); exact BK365.out) hb); have n7_ := Aside0.mk (below_step (by repeat (first | (with_reducible first | exact HB.out | apply bA | apply bN | apply bD | refine bS ?_ GE364.out | refine bS ?_ GE365.out) | exact HB.out)) hb); have n8_ := Aside0.mk (hbox); have n9_ := Aside0.mk ((by rw [hg]; exact (below_size (by repeat (first | (with_reducible first | exact HB.out | apply bA | apply bN | apply bD | refine bS ?_ GE364.out | refine bS ?_ GE365.out) | exact HB.out))) : w.heap.size ≤ gb381)); have n10_ := Aside0.mk ((by rw [hg]; exact (below_size (by repeat (first | (with_reducible first | exact HB.out | apply bA | apply bN | apply bD | refine bS ?_ GE364.out | refine bS ?_ GE365.out) | exact HB.out))) : w.heap.size ≤ gb381)); have n11_ := Aside0.mk ((by rw [hg]; exact Nat.ne_of_lt (blk_lt (g := gb364) (o := .cells #[.slice Ao12 t352.length co12, .bool true] 26 (0, 0)) (by (with_reducible repeat (first | refine kN ?_ _ | refine kD ?_ | refine kA ?_ _)); exact BK364.out)) : gb364 ≠ gb381)); have n12_ := Aside0.mk ((by rw [hg]; exact Nat.ne_of_gt (blk_lt (g := gb364) (o := .cells #[.slice Ao12 t352.length co12, .bool true] 26 (0, 0)) (by (with_reducible repeat (first | refine kN ?_ _ | refine kD ?_ | refine kA ?_ _)); exact BK364.out)) : gb381 ≠ gb364)); have n13_ := Aside0.mk ((by rw [hg]; exact Nat.ne_of_lt (blk_lt (g := gb365) (o := .cells #[.int .i64 t359, .int .i64 t360, .slice Ao16 t361.length co16] 29 (0, 0)) (by (with_reducible repeat (first | refine kN ?_ _ | refine kD ?_ | refine kA ?_ _)); exact BK365.out)) : gb365 ≠ gb381)); have n14_ := Aside0.mk ((by rw [hg]; exact Nat.ne_of_gt (blk_lt (g := gb365) (o := .cells #[.int .i64 t359, .int .i64 t360, .slice Ao16 t361.length co16] 29 (0, 0)) (by (with_reducible repeat (first | refine kN ?_ _ | refine kD ?_ | refine kA ?_ _)); exact BK365.out)) : gb381 ≠ gb365)); clear HO_365000; clear HO_366002; clear HO371; clear HO375; clear HO380; clear BK364; clear BK365; clear HB; have HO_365000 := n0_; have HO_366002 := n1_; have HO371 := n2_; have HO375 := n3_; have HO380 := n4_; have BK364 := n5_; have BK365 := n6_; have HB := n7_; have BK381 := n8_; have GW381 := n9_; have GE381 := n10_; have NB364_381 := n11_; have NB381_364 := n12_; have NB365_381 := n13_; have NB381_365 := n14_; clear n0_ n1_ n2_ n3_ n4_ n5_ n6_ n7_ n8_ n9_ n10_ n11_ n12_ n13_ n14_; clear hb hbox hg) | ((with_reducible refine gate_dst (N := 12) rfl ?_); (try (refine gate_guard (by rfl) ?_; dsimp only)); refine box_event ?hg (N := 12) ?hd (cs := #[.int .i64 0, .int .i64 0, .slice none 0 0]) (t := 29) ?hr ?_; (case hd => rfl); (case hg => rfl); (case hr => first | (go_simp; done) | (go_simp; rfl)); intro gb382 hg w52 hbox hb; have n0_ := Aside0.mk (Kd.V_below (Kd.V_elderB (by (with_reducible repeat (first | apply Kd.V_alloc | apply Kd.V_drewN | apply Kd.V_drew)); exact HO_365000.out) gb382 (Nat.le_of_eq hg.symm)) hb); have n1_ := Aside0.mk (Kd.V_below (Kd.V_elderB (by (with_reducible repeat (first | apply Kd.V_alloc | apply Kd.V_drewN | apply Kd.V_drew)); exact HO_366002.out) gb382 (Nat.le_of_eq hg.symm)) hb); have n2_ := Aside0.mk (Kd.V_below (Kd.V_elderB (by (with_reducible repeat (first | apply Kd.V_alloc | apply Kd.V_drewN | apply Kd.V_drew)); exact HO371.out) gb382 (Nat.le_of_eq hg.symm)) hb); have n3_ := Aside0.mk (Kd.N_below (Kd.N_elderB (by (with_reducible repeat (first | apply Kd.N_alloc | apply Kd.N_drewN | apply Kd.N_drew)); exact HO375.out) gb382 (Nat.le_of_eq hg.symm)) hb); have n4_ := Aside0.mk (Kd.V_below (Kd.V_elderB (by (with_reducible repeat (first | apply Kd.V_alloc | apply Kd.V_drewN | apply Kd.V_drew)); exact HO380.out) gb382 (Nat.le_of_eq hg.symm)) hb); have n5_ := Aside0.mk (blk_below (g := gb364) (o := .cells #[.slice Ao12 t352.length co12, .bool true] 26 (0, 0)) (by (with_reducible repeat (first | refine kN ?_ _ | refine kD ?_ | refine kA ?_ _)); exact BK364.out) hb); have n6_ := Aside0.mk (blk_below (g := gb365) (o := .cells #[.int .i64 t359, .int .i64 t360, .slice Ao16 t361.length co16] 29 (0, 0)) (by (with_reducible repeat (first | refine kN ?_ _ | refine kD ?_ | refine kA ?_ _)); exact BK365.out) hb); have n7_ := Aside0.mk (blk_below (g := gb381) (o := .cells #[.slice none 0 0, .bool false] 26 (0, 0)) (by (with_reducible repeat (first | refine kN ?_ _ | refine kD ?_ | refine kA ?_ _)); exact BK381.out) hb); have n8_ := Aside0.mk (below_step (by repeat (first | (with_reducible first | exact HB.out | apply bA | apply bN | apply bD | refine bS ?_ GE364.out | refine bS ?_ GE365.out | refine bS ?_ GE381.out) | exact HB.out)) hb); have n9_ := Aside0.mk (hbox); have n10_ := Aside0.mk ((by rw [hg]; exact (below_size (by repeat (first | (with_reducible first | exact HB.out | apply bA | apply bN | apply bD | refine bS ?_ GE364.out | refine bS ?_ GE365.out | refine bS ?_ GE381.out) | exact HB.out))) : w.heap.size ≤ gb382)); have n11_ := Aside0.mk ((by rw [hg]; exact (below_size (by repeat (first | (with_reducible first | exact HB.out | apply bA | apply bN | apply bD | refine bS ?_ GE364.out | refine bS ?_ GE365.out | refine bS ?_ GE381.out) | exact HB.out))) : w.heap.size ≤ gb382)); have n12_ := Aside0.mk ((by rw [hg]; exact Nat.ne_of_lt (blk_lt (g := gb364) (o := .cells #[.slice Ao12 t352.length co12, .bool true] 26 (0, 0)) (by (with_reducible repeat (first | refine kN ?_ _ | refine kD ?_ | refine kA ?_ _)); exact BK364.out)) : gb364 ≠ gb382)); have n13_ := Aside0.mk ((by rw [hg]; exact Nat.ne_of_gt (blk_lt (g := gb364) (o := .cells #[.slice Ao12 t352.length co12, .bool true] 26 (0, 0)) (by (with_reducible repeat (first | refine kN ?_ _ | refine kD ?_ | refine kA ?_ _)); exact BK364.out)) : gb382 ≠ gb364)); have n14_ := Aside0.mk ((by rw [hg]; exact Nat.ne_of_lt (blk_lt (g := gb365) (o := .cells #[.int .i64 t359, .int .i64 t360, .slice Ao16 t361.length co16] 29 (0, 0)) (by (with_reducible repeat (first | refine kN ?_ _ | refine kD ?_ | refine kA ?_ _)); exact BK365.out)) : gb365 ≠ gb382)); have n15_ := Aside0.mk ((by rw [hg]; exact Nat.ne_of_gt (blk_lt (g := gb365) (o := .cells #[.int .i64 t359, .int .i64 t360, .slice Ao16 t361.length co16] 29 (0, 0)) (by (with_reducible repeat (first | refine kN ?_ _ | refine kD ?_ | refine kA ?_ _)); exact BK365.out)) : gb382 ≠ gb365)); have n16_ := Aside0.mk ((by rw [hg]; exact Nat.ne_of_lt (blk_lt (g := gb381) (o := .cells #[.slice none 0 0, .bool false] 26 (0, 0)) (by (with_reducible repeat (first | refine kN ?_ _ | refine kD ?_ | refine kA ?_ _)); exact BK381.out)) : gb381 ≠ gb382)); have n17_ := Aside0.mk ((by rw [hg]; exact Nat.ne_of_gt (blk_lt (g := gb381) (o := .cells #[.slice none 0 0, .bool false] 26 (0, 0)) (by (with_reducible repeat (first | refine kN ?_ _ | refine kD ?_ | refine kA ?_ _)); exact BK381.out)) : gb382 ≠ gb381)); clear HO_365000; clear HO_366002; clear HO371; clear HO375; clear HO380; clear BK364; clear BK365; clear BK381; clear HB; have HO_365000 := n0_; have HO_366002 := n1_; have HO371 := n2_; have HO375 := n3_; have HO380 := n4_; have BK364 := n5_; have BK365 := n6_; have BK381 := n7_; have HB := n8_; have BK382 := n9_; have GW382 := n10_; have GE382 := n11_; have NB364_382 := n12_; have NB382_364 := n13_; have NB365_382 := n14_; have NB382_365 := n15_; have NB381_382 := n16_; have NB382_381 := n17_; clear n0_ n1_ n2_ n3_ n4_ n5_ n6_ n7_ n8_ n9_ n10_ n11_ n12_ n13_ n14_ n15_ n16_ n17_; clear hb hbox hg; obtain ⟨Ao53, co53, eo53⟩ := Kd.V_slice HO371.out; subst eo53; have hnb54 := NB381_364.out; have hnc54 := NB364_381.out; have hnb55 := NB381_365.out; have hnc55 := NB365_381.out; have hnb56 := NB381_382.out; have hnc56 := NB382_381.out; have hcz57_0 : w52.cell? ⟨gb381, 0, none⟩ = some (.slice none 0 0) := (blk_cell BK381.out 0).trans rfl; have hcz57_1 : w52.cell? ⟨gb381, 1, none⟩ = some (.bool false) := (blk_cell BK381.out 1).trans rfl; have hfz57_0 := blk_frozen BK381.out 0; have hfz57_1 := blk_frozen BK381.out 1; have hnb58 := NB382_364.out; have hnc58 := NB364_382.out; have hnb59 := NB382_365.out; have hnc59 := NB365_382.out; have hcz60_0 : w52.cell? ⟨gb382, 0, none⟩ = some (.int .i64 0) := (blk_cell BK382.out 0).trans rfl; have hcz60_1 : w52.cell? ⟨gb382, 1, none⟩ = some (.int .i64 0) := (blk_cell BK382.out 1).trans rfl; have hcz60_2 : w52.cell? ⟨gb382, 2, none⟩ = some (.slice none 0 0) := (blk_cell BK382.out 2).trans rfl; have hfz60_0 := blk_frozen BK382.out 0; have hfz60_1 := blk_frozen BK382.out 1; have hfz60_2 := blk_frozen BK382.out 2; obtain ⟨Ao61, co61, eo61⟩ := Kd.V_slice HO380.out; subst eo61; have hcz62_0 : w52.cell? ⟨gb364, 0, none⟩ = some (.slice Ao12 t352.length co12) := (blk_cell BK364.out 0).trans rfl; have hcz62_1 : w52.cell? ⟨gb364, 1, none⟩ = some (.bool true) := (blk_cell BK364.out 1).trans rfl; have hfz62_0 := blk_frozen BK364.out 0; have hfz62_1 := blk_frozen BK364.out 1; obtain ⟨Ao63, co63, eo63⟩ := Kd.N_slice HO375.out; subst eo63))
                all_goals first | (go_ret; refine ⟨?_, ?_⟩; (focus (first | rfl | (simp [errW_none, errW_some] <;> rfl) | (rw [HRL_.out] <;> rfl) | (simp only [HRL_.out] <;> rfl) | (have h_ := HRL_.out; simp at h_; simp [h_]; done) | (have h_ := HRL_.out; simp [*] at h_ ⊢; done) | (simp [*, errW_none, errW_some] <;> rfl))); (focus (repeat (first | (with_reducible first | exact HB.out | apply bA | apply bN | apply bD | refine bS ?_ GE364.out | refine bS ?_ GE365.out | refine bS ?_ GE381.out | refine bS ?_ GE382.out) | exact HB.out)))) | (exfalso; simp_all; done)
               ·
                rw [if_neg c47] at H
                have c47b0 : ((t373.length : Int) == 0) = false := beq_eq_false_iff_ne.mpr c47
                have c47b1 : ((t373.length : Int) != 0) = true := bne_iff_ne.mpr c47
                have c47b2 : ¬ (t373 = []) := fun h_ => c47 (by rw [h_]; rfl)
                exact absurd H (by simp)
              ·
               rw [if_neg c46] at H
               have c46b0 : ((t369.length : Int) == 0) = false := beq_eq_false_iff_ne.mpr c46
               have c46b1 : ((t369.length : Int) != 0) = true := bne_iff_ne.mpr c46
               have c46b2 : ¬ (t369 = []) := fun h_ => c46 (by rw [h_]; rfl)
               exact absurd H (by simp)
             ·
              replace c45 := Bool.eq_false_iff.mpr c45
              subst c45
              have H1 : (some false) = some true := by rw [if_neg (show ¬ (false = true) by decide)] at H; first | done | exact H
              clear H
              have H := H1
              clear H1
              exact absurd H (by simp)
            ·
             rw [if_neg c44] at H
             have c44b0 : ((t352.length : Int) == 0) = false := beq_eq_false_iff_ne.mpr c44
             have c44b1 : ((t352.length : Int) != 0) = true := bne_iff_ne.mpr c44
             have c44b2 : ¬ (t352 = []) := fun h_ => c44 (by rw [h_]; rfl)
             exact absurd H (by simp)
           ·
            replace c43 := Bool.eq_false_iff.mpr c43
            subst c43
            have H1 : (some false) = some true := by rw [if_neg (show ¬ (false = true) by decide)] at H; first | done | exact H
            clear H
            have H := H1
            clear H1
            exact absurd H (by simp)
          ·
           replace c41 := Bool.eq_false_iff.mpr c41
           subst c41
           have H1 : (some t351) = some true := by rw [if_neg (show ¬ (false = true) by decide)] at H; first | done | exact H
           clear H
           have H := H1
           clear H1
           have HRL_ := Aside0.mk (Option.some.inj H)
           clear H
           have hnb64 := NB364_365.out
           have hnc64 := NB365_364.out
           have hcz65_0 : wc.cell? ⟨gb364, 0, none⟩ = some (.slice Ao12 t352.length co12) := (blk_cell BK364.out 0).trans rfl
           have hcz65_1 : wc.cell? ⟨gb364, 1, none⟩ = some (.bool false) := (blk_cell BK364.out 1).trans rfl
           have hfz65_0 := blk_frozen BK364.out 0
           have hfz65_1 := blk_frozen BK364.out 1
           go_wp2
           all_goals first | (go_ret; refine ⟨?_, ?_⟩; (focus (first | rfl | (simp [errW_none, errW_some] <;> rfl) | (rw [HRL_.out] <;> rfl) | (simp only [HRL_.out] <;> rfl) | (have h_ := HRL_.out; simp at h_; simp [h_]; done) | (have h_ := HRL_.out; simp [*] at h_ ⊢; done) | (simp [*, errW_none, errW_some] <;> rfl))); (focus (repeat (first | (with_reducible first | exact HB.out | apply bA | apply bN | apply bD | refine bS ?_ GE364.out | refine bS ?_ GE365.out) | exact HB.out)))) | (exfalso; simp_all; done)

/-- THE ONE PURE STATEMENT of ridgewaylaw04_StreamBad. -/
def ridgewaylaw04_StreamBad.Pure : Prop := ∀ (l0 : List Int) (l1 : List Int), (l0.length ≤ maxLen ∧ ∀ y ∈ l0, (Lit.int .u8 y).wf = true) → (l1.length ≤ maxLen ∧ ∀ y ∈ l1, (Lit.int .u8 y).wf = true) → ∃ k, ridgewaylaw04_StreamBad.f k l0 l1 = some true

end Go.Proofs.Ythkbpiagggeicaa.Q
