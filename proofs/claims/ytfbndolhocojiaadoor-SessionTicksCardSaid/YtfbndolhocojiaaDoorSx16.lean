/- Each call of a Go function comes to what the Lean function of its name answers (written out by wip/tools/xprint.py, checked by Lean); conditions: those in each statement. -/
import Derived.Test.YtfbndolhocojiaaDoorSx0
import Derived.Test.YtfbndolhocojiaaDoorSx1
import Derived.Test.YtfbndolhocojiaaDoorSx3
import Derived.Test.YtfbndolhocojiaaDoorSx14
import Derived.Test.YtfbndolhocojiaaDoorSx15
namespace Go.Proofs.YtfbndolhocojiaaDoor.S
open Go.RowKit Go.Proofs.YtfbndolhocojiaaDoorW.PrintWords Go.Proofs.YtfbndolhocojiaaDoorW.PrintLast Go.Proofs.YtfbndolhocojiaaDoorW.PrintMore Go.Proofs.YtfbndolhocojiaaDoorW.PrintX
attribute [local go_sem] max2_int min2_int max_two min_two max_three min_three max_four min_four   -- for this text's walks alone
set_option linter.unusedVariables false
set_option linter.unusedSimpArgs false

attribute [local go_sem high] eqA34
/-! ### ridgewaylaw17_SessionTicks: function 6 -/
mutual
def ridgewaylaw17_SessionTicks.j0 : Nat → Int → Int → Bool → Bool → Int → Int → Int → Int → Option (Bool)
 | 0, _, _, _, _, _, _, _, _ => none
 | k + 1, x1, x2, x7, x30, x384000, x384001, x384002, x384003 => if x30 = true then (some x7) else ((session_Tick.f k x384000 x384001 x384002 x384003 x1).bind fun bt385 => ((session_Tick.f k bt385.1 bt385.2.1 bt385.2.2.1 bt385.2.2.2.1 x2).bind fun bt393 => ((session_Tick.f k x384000 x384001 x384002 x384003 (wrap64 (x1 + x2))).bind fun bt401 => ((some (([] : List (S45)) : List (S45))).bind fun y409 => (if y409.length + bt385.2.2.2.2.length < 4398046511104 then ((some (y409 ++ bt385.2.2.2.2 : List (S45))).bind fun y412 => (if y412.length + bt393.2.2.2.2.length < 4398046511104 then (if (!(bt393.1 == bt401.1) || (!(bt393.2.1 == bt401.2.1) || (!(bt393.2.2.1 == bt401.2.2.1) || (!(bt393.2.2.2.1 == bt401.2.2.2.1))))) = true then (ridgewaylaw17_SessionTicks.j1 k x1 x2 x7 bt401.2.2.2.2 true x384000 x384001 x384002 x384003 bt401.1 bt401.2.1 bt401.2.2.1 bt401.2.2.2.1) else ((ridgewayref03_SameAll.f k (y412 ++ bt393.2.2.2.2) bt401.2.2.2.2).bind fun t418 => (ridgewaylaw17_SessionTicks.j1 k x1 x2 x7 bt401.2.2.2.2 (!t418) x384000 x384001 x384002 x384003 bt401.1 bt401.2.1 bt401.2.2.1 bt401.2.2.2.1))) else (none))) else (none))))))
def ridgewaylaw17_SessionTicks.j1 : Nat → Int → Int → Bool → List (S45) → Bool → Int → Int → Int → Int → Int → Int → Int → Int → Option (Bool)
 | 0, _, _, _, _, _, _, _, _, _, _, _, _, _ => none
 | k + 1, x1, x2, x7, x13, x66, x384000, x384001, x384002, x384003, x409000, x409001, x409002, x409003 => if x66 = true then (some false) else ((session_Sane.f x384000 x384001 x384002 x384003).bind fun t419 => (if t419 = true then (if x384000 = 0 then (ridgewaylaw17_SessionTicks.j2 k x1 x2 x7 x13 true x384000 x384001 x384002 x384003 x409000 x409001 x409002 x409003) else (ridgewaylaw17_SessionTicks.j2 k x1 x2 x7 x13 (x384002 == 0) x384000 x384001 x384002 x384003 x409000 x409001 x409002 x409003)) else (ridgewaylaw17_SessionTicks.j2 k x1 x2 x7 x13 true x384000 x384001 x384002 x384003 x409000 x409001 x409002 x409003)))
def ridgewaylaw17_SessionTicks.j2 : Nat → Int → Int → Bool → List (S45) → Bool → Int → Int → Int → Int → Int → Int → Int → Int → Option (Bool)
 | 0, _, _, _, _, _, _, _, _, _, _, _, _, _ => none
 | k + 1, x1, x2, x7, x13, x79, x384000, x384001, x384002, x384003, x409000, x409001, x409002, x409003 => if x79 = true then (if x7 = true then (if (x13.length : Int) = 0 then ((session_Sane.f x384000 x384001 x384002 x384003).bind fun t420 => (if t420 = true then (if (x409000 == x384000 && (x409001 == x384001 && (x409002 == x384002 && (x409003 == x384003)))) = true then (some true) else ((session_Sane.f x384000 x384001 x384002 x384003).bind fun t421 => (if t421 = true then (some false) else (some (x409000 == 0 && (x409001 == 0 && (x409002 == 0 && (x409003 == 0)))))))) else ((session_Sane.f x384000 x384001 x384002 x384003).bind fun t422 => (if t422 = true then (some false) else (some (x409000 == 0 && (x409001 == 0 && (x409002 == 0 && (x409003 == 0))))))))) else (some false)) else (some false)) else (if (wrap64 (x1 + x2)) ≥ x384002 then (if x7 = true then (if x409000 = 0 then (if (x13.length : Int) > 0 then (if 0 ≤ (wrap64 ((x13.length : Int) - 1)) then (if (wrap64 ((x13.length : Int) - 1)) < (x13.length : Int) then (some (((rd_T45 x13 (wrap64 ((x13.length : Int) - 1))).f0) == 3)) else (none)) else (none)) else (some false)) else (some false)) else (some false)) else (if x384003 > 0 then (if (wrap64 (x1 + x2)) ≥ x384003 then (if (wrap64 (Int.tdiv x384001 3)) = 0 then (none) else (if x7 = true then (if x409000 = x384000 then (if x409002 = (wrap64 ((wrap64 (x384002 - x1)) - x2)) then (some ((x13.length : Int) == (wrap64 (1 + (wrap64 (Int.tdiv (wrap64 ((wrap64 (x1 + x2)) - x384003)) (wrap64 (Int.tdiv x384001 3)))))))) else (some false)) else (some false)) else (some false))) else (if x7 = true then (if x409000 = x384000 then (if x409002 = (wrap64 ((wrap64 (x384002 - x1)) - x2)) then (some ((x13.length : Int) == 0)) else (some false)) else (some false)) else (some false))) else (if x7 = true then (if x409000 = x384000 then (if x409002 = (wrap64 ((wrap64 (x384002 - x1)) - x2)) then (some ((x13.length : Int) == 0)) else (some false)) else (some false)) else (some false))))
end
def ridgewaylaw17_SessionTicks.f (k : Nat) (a0_0 : Int) (a0_1 : Int) (a0_2 : Int) (a0_3 : Int) (a1 : Int) (a2 : Int) : Option (Bool) := (ridgewaylaw17_awake.f).bind fun t384 => (if a1 < 0 then (ridgewaylaw17_SessionTicks.j0 k a1 a2 t384 true a0_0 a0_1 a0_2 a0_3) else (if a1 > 400 then (ridgewaylaw17_SessionTicks.j0 k a1 a2 t384 true a0_0 a0_1 a0_2 a0_3) else (if a2 < 0 then (ridgewaylaw17_SessionTicks.j0 k a1 a2 t384 true a0_0 a0_1 a0_2 a0_3) else (ridgewaylaw17_SessionTicks.j0 k a1 a2 t384 (decide (a2 > 400)) a0_0 a0_1 a0_2 a0_3))))
theorem ridgewaylaw17_SessionTicks.mono_l : ∀ k, (∀ y0 y1 y2 y3 y4 y5 y6 y7, LeO (ridgewaylaw17_SessionTicks.j0 k y0 y1 y2 y3 y4 y5 y6 y7) (ridgewaylaw17_SessionTicks.j0 (k + 1) y0 y1 y2 y3 y4 y5 y6 y7)) ∧ (∀ y0 y1 y2 y3 y4 y5 y6 y7 y8 y9 y10 y11 y12, LeO (ridgewaylaw17_SessionTicks.j1 k y0 y1 y2 y3 y4 y5 y6 y7 y8 y9 y10 y11 y12) (ridgewaylaw17_SessionTicks.j1 (k + 1) y0 y1 y2 y3 y4 y5 y6 y7 y8 y9 y10 y11 y12)) ∧ (∀ y0 y1 y2 y3 y4 y5 y6 y7 y8 y9 y10 y11 y12, LeO (ridgewaylaw17_SessionTicks.j2 k y0 y1 y2 y3 y4 y5 y6 y7 y8 y9 y10 y11 y12) (ridgewaylaw17_SessionTicks.j2 (k + 1) y0 y1 y2 y3 y4 y5 y6 y7 y8 y9 y10 y11 y12))
 | 0 => ⟨fun _ _ _ _ _ _ _ _ r h => by simp [ridgewaylaw17_SessionTicks.j0] at h, fun _ _ _ _ _ _ _ _ _ _ _ _ _ r h => by simp [ridgewaylaw17_SessionTicks.j1] at h, fun _ _ _ _ _ _ _ _ _ _ _ _ _ r h => by simp [ridgewaylaw17_SessionTicks.j2] at h⟩
 | k + 1 => by
  obtain ⟨ih0, ih1, ih2⟩ := ridgewaylaw17_SessionTicks.mono_l k
  refine ⟨?_, ?_, ?_⟩
  ·
   intro y0 y1 y2 y3 y4 y5 y6 y7
   unfold ridgewaylaw17_SessionTicks.j0
   repeat' first
   | (with_reducible exact ih0 _ _ _ _ _ _ _ _)
   | (with_reducible exact ih1 _ _ _ _ _ _ _ _ _ _ _ _ _)
   | (with_reducible exact ih2 _ _ _ _ _ _ _ _ _ _ _ _ _)
   | (with_reducible exact ridgewayref03_SameAll.mono _ _ _)
   | (with_reducible exact session_Tick.mono _ _ _ _ _ _)
   | (with_reducible exact LeO.refl _)
   | (with_reducible exact LeO.none _)
   | (with_reducible refine LeO.ite ?_ ?_)
   | (with_reducible refine LeO.bind ?_ (fun _ => ?_))
   | exact ih0 _ _ _ _ _ _ _ _
   | exact ih1 _ _ _ _ _ _ _ _ _ _ _ _ _
   | exact ih2 _ _ _ _ _ _ _ _ _ _ _ _ _
   | exact ridgewayref03_SameAll.mono _ _ _
   | exact session_Tick.mono _ _ _ _ _ _
   | exact LeO.none _
   | refine LeO.ite ?_ ?_
   | refine LeO.bind ?_ (fun _ => ?_)
  ·
   intro y0 y1 y2 y3 y4 y5 y6 y7 y8 y9 y10 y11 y12
   unfold ridgewaylaw17_SessionTicks.j1
   repeat' first
   | (with_reducible exact ih0 _ _ _ _ _ _ _ _)
   | (with_reducible exact ih1 _ _ _ _ _ _ _ _ _ _ _ _ _)
   | (with_reducible exact ih2 _ _ _ _ _ _ _ _ _ _ _ _ _)
   | (with_reducible exact ridgewayref03_SameAll.mono _ _ _)
   | (with_reducible exact session_Tick.mono _ _ _ _ _ _)
   | (with_reducible exact LeO.refl _)
   | (with_reducible exact LeO.none _)
   | (with_reducible refine LeO.ite ?_ ?_)
   | (with_reducible refine LeO.bind ?_ (fun _ => ?_))
   | exact ih0 _ _ _ _ _ _ _ _
   | exact ih1 _ _ _ _ _ _ _ _ _ _ _ _ _
   | exact ih2 _ _ _ _ _ _ _ _ _ _ _ _ _
   | exact ridgewayref03_SameAll.mono _ _ _
   | exact session_Tick.mono _ _ _ _ _ _
   | exact LeO.none _
   | refine LeO.ite ?_ ?_
   | refine LeO.bind ?_ (fun _ => ?_)
  ·
   intro y0 y1 y2 y3 y4 y5 y6 y7 y8 y9 y10 y11 y12
   unfold ridgewaylaw17_SessionTicks.j2
   repeat' first
   | (with_reducible exact ih0 _ _ _ _ _ _ _ _)
   | (with_reducible exact ih1 _ _ _ _ _ _ _ _ _ _ _ _ _)
   | (with_reducible exact ih2 _ _ _ _ _ _ _ _ _ _ _ _ _)
   | (with_reducible exact ridgewayref03_SameAll.mono _ _ _)
   | (with_reducible exact session_Tick.mono _ _ _ _ _ _)
   | (with_reducible exact LeO.refl _)
   | (with_reducible exact LeO.none _)
   | (with_reducible refine LeO.ite ?_ ?_)
   | (with_reducible refine LeO.bind ?_ (fun _ => ?_))
   | exact ih0 _ _ _ _ _ _ _ _
   | exact ih1 _ _ _ _ _ _ _ _ _ _ _ _ _
   | exact ih2 _ _ _ _ _ _ _ _ _ _ _ _ _
   | exact ridgewayref03_SameAll.mono _ _ _
   | exact session_Tick.mono _ _ _ _ _ _
   | exact LeO.none _
   | refine LeO.ite ?_ ?_
   | refine LeO.bind ?_ (fun _ => ?_)
theorem ridgewaylaw17_SessionTicks.mono : ∀ a0 a1 a2 a3 a4 a5 k, LeO (ridgewaylaw17_SessionTicks.f k a0 a1 a2 a3 a4 a5) (ridgewaylaw17_SessionTicks.f (k + 1) a0 a1 a2 a3 a4 a5) := by
 intro a0 a1 a2 a3 a4 a5 k
 obtain ⟨ih0, ih1, ih2⟩ := ridgewaylaw17_SessionTicks.mono_l k
 unfold ridgewaylaw17_SessionTicks.f
 repeat' first
   | (with_reducible exact ih0 _ _ _ _ _ _ _ _)
   | (with_reducible exact ih1 _ _ _ _ _ _ _ _ _ _ _ _ _)
   | (with_reducible exact ih2 _ _ _ _ _ _ _ _ _ _ _ _ _)
   | (with_reducible exact ridgewayref03_SameAll.mono _ _ _)
   | (with_reducible exact session_Tick.mono _ _ _ _ _ _)
   | (with_reducible exact LeO.refl _)
   | (with_reducible exact LeO.none _)
   | (with_reducible refine LeO.ite ?_ ?_)
   | (with_reducible refine LeO.bind ?_ (fun _ => ?_))
   | exact ih0 _ _ _ _ _ _ _ _
   | exact ih1 _ _ _ _ _ _ _ _ _ _ _ _ _
   | exact ih2 _ _ _ _ _ _ _ _ _ _ _ _ _
   | exact ridgewayref03_SameAll.mono _ _ _
   | exact session_Tick.mono _ _ _ _ _ _
   | exact LeO.none _
   | refine LeO.ite ?_ ?_
   | refine LeO.bind ?_ (fun _ => ?_)
set_option maxHeartbeats 8000000 in
set_option maxRecDepth 100000 in
theorem ridgewaylaw17_SessionTicks.calls (k : Nat) (a0_0 : Int) (a0_1 : Int) (a0_2 : Int) (a0_3 : Int) (a1 : Int) (a2 : Int) (w : World) (hG : GOK w) (h : ridgewaylaw17_SessionTicks.f k a0_0 a0_1 a0_2 a0_3 a1 a2 = some true) :
  Calls Tryd.prog 6 #[.agg #[.int .i64 a0_0, .int .i64 a0_1, .int .i64 a0_2, .int .i64 a0_3], .int .i64 a1, .int .i64 a2] w fun e w' => e = .returned (.bool true) ∧ Below w.heap.size w w' := by
 have hu34 := Tryd.underlying34
 have HB := Aside0.mk (Below.refl w.heap.size w)
 have HG := Aside0.mk hG
 clear hG
 have H : ((ridgewaylaw17_awake.f).bind fun t384 => (if a1 < 0 then (ridgewaylaw17_SessionTicks.j0 k a1 a2 t384 true a0_0 a0_1 a0_2 a0_3) else (if a1 > 400 then (ridgewaylaw17_SessionTicks.j0 k a1 a2 t384 true a0_0 a0_1 a0_2 a0_3) else (if a2 < 0 then (ridgewaylaw17_SessionTicks.j0 k a1 a2 t384 true a0_0 a0_1 a0_2 a0_3) else (ridgewaylaw17_SessionTicks.j0 k a1 a2 t384 (decide (a2 > 400)) a0_0 a0_1 a0_2 a0_3))))) = some true := h
 clear h
 replace H := Option.bind_eq_some_iff.mp H
 obtain ⟨t384, A40, H⟩ := H
 replace H : (if a1 < 0 then (ridgewaylaw17_SessionTicks.j0 k a1 a2 t384 true a0_0 a0_1 a0_2 a0_3) else (if a1 > 400 then (ridgewaylaw17_SessionTicks.j0 k a1 a2 t384 true a0_0 a0_1 a0_2 a0_3) else (if a2 < 0 then (ridgewaylaw17_SessionTicks.j0 k a1 a2 t384 true a0_0 a0_1 a0_2 a0_3) else (ridgewaylaw17_SessionTicks.j0 k a1 a2 t384 (decide (a2 > 400)) a0_0 a0_1 a0_2 a0_3)))) = some true := H
 have A4 := Aside0.mk A40
 clear A40
 have HC5 := Aside0.mk H
 clear H
 go_enter Tryd.func6, Tryd.ntmps6
 go_upto_region 2 with (first | ((with_reducible refine gate_dst (N := 3) rfl ?_); (try (refine gate_guard (by rfl) ?_; dsimp only)); refine box_event ?hg (N := 3) ?hd (cs := #[.int .i64 a0_0, .int .i64 a0_1, .int .i64 a0_2, .int .i64 a0_3]) (t := 34) ?hr ?_; (case hd | hg => rfl); (case hr => first | (go_simp; done) | (go_simp; rfl)); intro gb383 hg w6 hbox hb; obtain ⟨hy, hz⟩ := bfst (by with_reducible repeat first | exact HB.out | apply bA | apply bN | apply bD) hb hg; replace HB := hy; have BK383 := Aside0.mk (hbox); have GE383 := hz; have GW383 := GE383; clear hy hz hb hbox hg) | ((with_reducible refine gate_callee (f := 8) rfl ?_); refine goesL_ (some 16) rfl rfl Tryd.func8 (by kernel_rfl) rfl #[] rfl (by (try simp only [List.map_toArray, List.map_cons, List.map_nil]); first | done | rfl | (simp only [List.length_drop, List.length_take]; rfl)) ?_; (with_reducible refine (ridgewaylaw17_awake.calls  t384 _ ?side1 A4.out).mono ?_); (case side1 => exact GOK.below HG.out (by with_reducible repeat first | exact HB.out | apply bA | apply bN | apply bD | refine bS ?_ GE383.out)); rintro e w7 ⟨rfl, hb⟩; refine ⟨_, rfl, ?_⟩; have hy := bQ BK383.out (by with_reducible repeat first | apply bA | apply bN | apply bD | exact Below.refl _ _) hb; replace BK383 := Aside0.mk (blk_below BK383.out hy); replace HB := Aside0.mk (below_step HB.out hy); clear hy; (try clear hb); (try clear hb2); (try clear hk); (try clear hi)))
 (try simp only [Act.put, sA, sB, sC])
 go_cut [30] (fun v30 wc => ∃ (kq : Nat) (x30_4 : Bool), v30 = .bool x30_4 ∧ Aside0 (ridgewaylaw17_SessionTicks.j0 kq a1 a2 t384 x30_4 a0_0 a0_1 a0_2 a0_3 = some true) ∧ Aside0 (kq ≤ k) ∧ Aside0 (wc.heap[gb383]? = some (.cells #[.int .i64 a0_0, .int .i64 a0_1, .int .i64 a0_2, .int .i64 a0_3] 34 (0, 0))) ∧ Aside0 (Below w.heap.size w wc))
 case first => as_aux_lemma =>
  have H := HC5.out
  clear HC5
  by_cases c8 : a1 < 0
  ·
   rw [if_pos c8] at H
   have c8b0 : decide (a1 < 0) = true := decide_eq_true c8
   clear c8
   (first | rw [c8b0] | (simp only [i64_w, i32_w]; rw [c8b0]) | rw [c8b1] | skip)
   have H' := Aside0.mk H
   clear H
   go_wp2
   go_meet
   case rel => exact ⟨_, (true), (by first | rfl | (simp; done) | (simp [*]; done)), H', ⟨by first | omega | exact Nat.le_refl _⟩, ⟨by (with_reducible repeat first | apply kN | apply kD | apply kA); exact BK383.out⟩, ⟨by with_reducible repeat first | exact HB.out | apply bA | apply bN | apply bD | refine bS ?_ GE383.out⟩⟩
  ·
   rw [if_neg c8] at H
   have c8b0 : decide (a1 < 0) = false := decide_eq_false c8
   clear c8
   (first | rw [c8b0] | (simp only [i64_w, i32_w]; rw [c8b0]) | rw [c8b1] | skip)
   by_cases c9 : a1 > 400
   ·
    rw [if_pos c9] at H
    have c9b0 : decide (400 < a1) = true := decide_eq_true c9
    clear c9
    have H' := Aside0.mk H
    clear H
    go_wp2
    go_meet
    case rel => exact ⟨_, (true), (by first | rfl | (simp; done) | (simp [*]; done)), H', ⟨by first | omega | exact Nat.le_refl _⟩, ⟨by (with_reducible repeat first | apply kN | apply kD | apply kA); exact BK383.out⟩, ⟨by with_reducible repeat first | exact HB.out | apply bA | apply bN | apply bD | refine bS ?_ GE383.out⟩⟩
   ·
    rw [if_neg c9] at H
    have c9b0 : decide (400 < a1) = false := decide_eq_false c9
    clear c9
    by_cases c10 : a2 < 0
    ·
     rw [if_pos c10] at H
     have c10b0 : decide (a2 < 0) = true := decide_eq_true c10
     clear c10
     have H' := Aside0.mk H
     clear H
     go_wp2
     go_meet
     case rel => exact ⟨_, (true), (by first | rfl | (simp; done) | (simp [*]; done)), H', ⟨by first | omega | exact Nat.le_refl _⟩, ⟨by (with_reducible repeat first | apply kN | apply kD | apply kA); exact BK383.out⟩, ⟨by with_reducible repeat first | exact HB.out | apply bA | apply bN | apply bD | refine bS ?_ GE383.out⟩⟩
    ·
     rw [if_neg c10] at H
     have c10b0 : decide (a2 < 0) = false := decide_eq_false c10
     clear c10
     have H' := Aside0.mk H
     clear H
     go_wp2
     go_meet
     case rel => exact ⟨_, (decide (a2 > 400)), (by first | rfl | (simp; done) | (simp [*]; done)), H', ⟨by first | omega | exact Nat.le_refl _⟩, ⟨by (with_reducible repeat first | apply kN | apply kD | apply kA); exact BK383.out⟩, ⟨by with_reducible repeat first | exact HB.out | apply bA | apply bN | apply bD | refine bS ?_ GE383.out⟩⟩
 case rest => as_aux_lemma =>
  clear HC5
  try clear c1
  try clear p2
  try clear c6
  try clear c8
  try clear c8b0
  try clear c8b1
  try clear c9
  try clear c9b0
  try clear c10
  try clear c10b0
  obtain ⟨kq, x30_4, rfl, HA, HJ4, BK383, HB⟩ := hcut
  cases kq with
  | zero => exact absurd HA.out (by simp [ridgewaylaw17_SessionTicks.j0])
  | succ kj4 =>
   have H := HA.out
   clear HA
   simp only [ridgewaylaw17_SessionTicks.j0] at H
   by_cases c11 : x30_4 = true
   ·
    subst c11
    have H1 : (some t384) = some true := by rw [if_pos rfl] at H; first | done | exact H
    clear H
    have H := H1
    clear H1
    have HRL_ := Aside0.mk (Option.some.inj H)
    clear H
    go_wp2
    all_goals first | (go_ret; refine ⟨?_, ?_⟩; (focus (first | rfl | (simp [errW_none, errW_some] <;> rfl) | (rw [HRL_.out] <;> rfl) | (simp only [HRL_.out] <;> rfl) | (have h_ := HRL_.out; simp at h_; simp [h_]; done) | (have h_ := HRL_.out; simp [*] at h_ ⊢; done) | (simp [*, errW_none, errW_some] <;> rfl))); (focus (repeat (first | (with_reducible first | exact HB.out | apply bA | apply bN | apply bD | refine bS ?_ GE383.out) | exact HB.out)))) | (exfalso; simp_all; done)
   ·
    replace c11 := Bool.eq_false_iff.mpr c11
    subst c11
    have H1 : ((session_Tick.f kj4 a0_0 a0_1 a0_2 a0_3 a1).bind fun bt385 => ((session_Tick.f kj4 bt385.1 bt385.2.1 bt385.2.2.1 bt385.2.2.2.1 a2).bind fun bt393 => ((session_Tick.f kj4 a0_0 a0_1 a0_2 a0_3 (wrap64 (a1 + a2))).bind fun bt401 => ((some (([] : List (S45)) : List (S45))).bind fun y409 => (if y409.length + bt385.2.2.2.2.length < 4398046511104 then ((some (y409 ++ bt385.2.2.2.2 : List (S45))).bind fun y412 => (if y412.length + bt393.2.2.2.2.length < 4398046511104 then (if (!(bt393.1 == bt401.1) || (!(bt393.2.1 == bt401.2.1) || (!(bt393.2.2.1 == bt401.2.2.1) || (!(bt393.2.2.2.1 == bt401.2.2.2.1))))) = true then (ridgewaylaw17_SessionTicks.j1 kj4 a1 a2 t384 bt401.2.2.2.2 true a0_0 a0_1 a0_2 a0_3 bt401.1 bt401.2.1 bt401.2.2.1 bt401.2.2.2.1) else ((ridgewayref03_SameAll.f kj4 (y412 ++ bt393.2.2.2.2) bt401.2.2.2.2).bind fun t418 => (ridgewaylaw17_SessionTicks.j1 kj4 a1 a2 t384 bt401.2.2.2.2 (!t418) a0_0 a0_1 a0_2 a0_3 bt401.1 bt401.2.1 bt401.2.2.1 bt401.2.2.2.1))) else (none))) else (none)))))) = some true := by rw [if_neg (show ¬ (false = true) by decide)] at H; first | done | exact H
    clear H
    have H := H1
    clear H1
    replace H := Option.bind_eq_some_iff.mp H
    obtain ⟨⟨t385, t386, t387, t388, t389⟩, A120, H⟩ := H
    replace H : ((session_Tick.f kj4 t385 t386 t387 t388 a2).bind fun bt393 => ((session_Tick.f kj4 a0_0 a0_1 a0_2 a0_3 (wrap64 (a1 + a2))).bind fun bt401 => ((some (([] : List (S45)) : List (S45))).bind fun y409 => (if y409.length + t389.length < 4398046511104 then ((some (y409 ++ t389 : List (S45))).bind fun y412 => (if y412.length + bt393.2.2.2.2.length < 4398046511104 then (if (!(bt393.1 == bt401.1) || (!(bt393.2.1 == bt401.2.1) || (!(bt393.2.2.1 == bt401.2.2.1) || (!(bt393.2.2.2.1 == bt401.2.2.2.1))))) = true then (ridgewaylaw17_SessionTicks.j1 kj4 a1 a2 t384 bt401.2.2.2.2 true a0_0 a0_1 a0_2 a0_3 bt401.1 bt401.2.1 bt401.2.2.1 bt401.2.2.2.1) else ((ridgewayref03_SameAll.f kj4 (y412 ++ bt393.2.2.2.2) bt401.2.2.2.2).bind fun t418 => (ridgewaylaw17_SessionTicks.j1 kj4 a1 a2 t384 bt401.2.2.2.2 (!t418) a0_0 a0_1 a0_2 a0_3 bt401.1 bt401.2.1 bt401.2.2.1 bt401.2.2.2.1))) else (none))) else (none))))) = some true := H
    have A12 := Aside0.mk A120
    clear A120
    replace H := Option.bind_eq_some_iff.mp H
    obtain ⟨⟨t393, t394, t395, t396, t397⟩, A130, H⟩ := H
    replace H : ((session_Tick.f kj4 a0_0 a0_1 a0_2 a0_3 (wrap64 (a1 + a2))).bind fun bt401 => ((some (([] : List (S45)) : List (S45))).bind fun y409 => (if y409.length + t389.length < 4398046511104 then ((some (y409 ++ t389 : List (S45))).bind fun y412 => (if y412.length + t397.length < 4398046511104 then (if (!(t393 == bt401.1) || (!(t394 == bt401.2.1) || (!(t395 == bt401.2.2.1) || (!(t396 == bt401.2.2.2.1))))) = true then (ridgewaylaw17_SessionTicks.j1 kj4 a1 a2 t384 bt401.2.2.2.2 true a0_0 a0_1 a0_2 a0_3 bt401.1 bt401.2.1 bt401.2.2.1 bt401.2.2.2.1) else ((ridgewayref03_SameAll.f kj4 (y412 ++ t397) bt401.2.2.2.2).bind fun t418 => (ridgewaylaw17_SessionTicks.j1 kj4 a1 a2 t384 bt401.2.2.2.2 (!t418) a0_0 a0_1 a0_2 a0_3 bt401.1 bt401.2.1 bt401.2.2.1 bt401.2.2.2.1))) else (none))) else (none)))) = some true := H
    have A13 := Aside0.mk A130
    clear A130
    replace H := Option.bind_eq_some_iff.mp H
    obtain ⟨⟨t401, t402, t403, t404, t405⟩, A140, H⟩ := H
    replace H : ((some (([] : List (S45)) : List (S45))).bind fun y409 => (if y409.length + t389.length < 4398046511104 then ((some (y409 ++ t389 : List (S45))).bind fun y412 => (if y412.length + t397.length < 4398046511104 then (if (!(t393 == t401) || (!(t394 == t402) || (!(t395 == t403) || (!(t396 == t404))))) = true then (ridgewaylaw17_SessionTicks.j1 kj4 a1 a2 t384 t405 true a0_0 a0_1 a0_2 a0_3 t401 t402 t403 t404) else ((ridgewayref03_SameAll.f kj4 (y412 ++ t397) t405).bind fun t418 => (ridgewaylaw17_SessionTicks.j1 kj4 a1 a2 t384 t405 (!t418) a0_0 a0_1 a0_2 a0_3 t401 t402 t403 t404))) else (none))) else (none))) = some true := H
    have A14 := Aside0.mk A140
    clear A140
    obtain ⟨y409, hy409⟩ : ∃ y_ : List (S45), y_ = (([] : List (S45))) := ⟨_, rfl⟩
    replace H : (if y409.length + t389.length < 4398046511104 then ((some (y409 ++ t389 : List (S45))).bind fun y412 => (if y412.length + t397.length < 4398046511104 then (if (!(t393 == t401) || (!(t394 == t402) || (!(t395 == t403) || (!(t396 == t404))))) = true then (ridgewaylaw17_SessionTicks.j1 kj4 a1 a2 t384 t405 true a0_0 a0_1 a0_2 a0_3 t401 t402 t403 t404) else ((ridgewayref03_SameAll.f kj4 (y412 ++ t397) t405).bind fun t418 => (ridgewaylaw17_SessionTicks.j1 kj4 a1 a2 t384 t405 (!t418) a0_0 a0_1 a0_2 a0_3 t401 t402 t403 t404))) else (none))) else (none)) = some true := by first | (rw [hy409]; with_reducible exact H) | (have H2_ := (Option.bind_some _ _).symm.trans H; rw [hy409]; with_reducible exact H2_) | (have H2_ := (Option.bind_some _ _).symm.trans H; with_reducible exact H2_) | with_reducible exact H | (rw [hy409]; exact H) | exact H
    have Ny409 := Aside0.mk hy409
    clear hy409
    by_cases c15 : y409.length + t389.length < 4398046511104
    ·
     rw [if_pos c15] at H
     have LMc15 := Aside0.mk c15
     clear c15
     obtain ⟨y412, hy412⟩ : ∃ y_ : List (S45), y_ = (y409 ++ t389) := ⟨_, rfl⟩
     replace H : (if y412.length + t397.length < 4398046511104 then (if (!(t393 == t401) || (!(t394 == t402) || (!(t395 == t403) || (!(t396 == t404))))) = true then (ridgewaylaw17_SessionTicks.j1 kj4 a1 a2 t384 t405 true a0_0 a0_1 a0_2 a0_3 t401 t402 t403 t404) else ((ridgewayref03_SameAll.f kj4 (y412 ++ t397) t405).bind fun t418 => (ridgewaylaw17_SessionTicks.j1 kj4 a1 a2 t384 t405 (!t418) a0_0 a0_1 a0_2 a0_3 t401 t402 t403 t404))) else (none)) = some true := by first | (rw [hy412]; with_reducible exact H) | (have H2_ := (Option.bind_some _ _).symm.trans H; rw [hy412]; with_reducible exact H2_) | (have H2_ := (Option.bind_some _ _).symm.trans H; with_reducible exact H2_) | with_reducible exact H | (rw [hy412]; exact H) | exact H
     have Ny412 := Aside0.mk hy412
     clear hy412
     by_cases c16 : y412.length + t397.length < 4398046511104
     ·
      rw [if_pos c16] at H
      have LMc16 := Aside0.mk c16
      clear c16
      obtain ⟨y415, hy415⟩ : ∃ y_ : List (S45), y_ = (y412 ++ t397) := ⟨_, rfl⟩
      replace H : (if (!(t393 == t401) || (!(t394 == t402) || (!(t395 == t403) || (!(t396 == t404))))) = true then (ridgewaylaw17_SessionTicks.j1 kj4 a1 a2 t384 t405 true a0_0 a0_1 a0_2 a0_3 t401 t402 t403 t404) else ((ridgewayref03_SameAll.f kj4 y415 t405).bind fun t418 => (ridgewaylaw17_SessionTicks.j1 kj4 a1 a2 t384 t405 (!t418) a0_0 a0_1 a0_2 a0_3 t401 t402 t403 t404))) = some true := by first | (rw [hy415]; with_reducible exact H) | (have H2_ := (Option.bind_some _ _).symm.trans H; rw [hy415]; with_reducible exact H2_) | (have H2_ := (Option.bind_some _ _).symm.trans H; with_reducible exact H2_) | with_reducible exact H | (rw [hy415]; exact H) | exact H
      have Ny415 := Aside0.mk hy415
      clear hy415
      have HC17 := Aside0.mk H
      clear H
      obtain ⟨hcz18_0, hcz18_1, hcz18_2, hcz18_3, hfz18_0, hfz18_1, hfz18_2, hfz18_3⟩ := bc4 BK383.out
      go_upto_region 9 with (first | ((with_reducible refine gate_callee (f := 18) rfl ?_); refine goesL_ (some 35) rfl rfl Tryd.func18 (by kernel_rfl) rfl #[.agg #[.int .i64 a0_0, .int .i64 a0_1, .int .i64 a0_2, .int .i64 a0_3], .int .i64 a1] rfl (by (try simp only [List.map_toArray, List.map_cons, List.map_nil]); first | done | rfl | (simp only [List.length_drop, List.length_take]; rfl)) ?_; (with_reducible refine (session_Tick.calls kj4 a0_0 a0_1 a0_2 a0_3 a1 t385 t386 t387 t388 t389 _ A12.out).mono ?_); rintro e w19 ⟨v390, rfl, ho0, hb⟩; refine ⟨_, rfl, ?_⟩; have HO391 := Aside0.mk (Kd.N_lower (Kd.N_mono (ok' := fun k_ => k_ ≠ gb383) ho0 (fun k_ hk_ => (Kd.freshB (g := gb383) (o := .cells #[.int .i64 a0_0, .int .i64 a0_1, .int .i64 a0_2, .int .i64 a0_3] 34 (0, 0)) (by (with_reducible repeat first | apply kN | apply kD | apply kA); exact BK383.out) k_ hk_))) (below_size (by with_reducible repeat first | exact HB.out | apply bA | apply bN | apply bD | refine bS ?_ GE383.out))); have hy := bQ BK383.out (by with_reducible repeat first | apply bA | apply bN | apply bD | exact Below.refl _ _) hb; replace BK383 := Aside0.mk (blk_below BK383.out hy); replace HB := Aside0.mk (below_step HB.out hy); clear hy; (try clear hb); (try clear hb2); (try clear hk); (try clear hi); (try clear ho0)) | ((with_reducible refine gate_dst (N := 8) rfl ?_); (try (refine gate_guard (by rfl) ?_; dsimp only)); refine box_event ?hg (N := 8) ?hd (cs := #[.int .i64 0, .int .i64 0, .int .i64 0, .int .i64 0]) (t := 34) ?hr ?_; (case hd | hg => rfl); (case hr => first | (go_simp; done) | (go_simp; rfl)); intro gb392 hg w20 hbox hb; have hz := bZ BK383.out (by with_reducible repeat first | apply bA | apply bN | apply bD | exact Below.refl _ _) hb; have hy := below_step hz hb; have n0_ := Aside0.mk (Kd.N_below (Kd.N_elderB (by (with_reducible repeat (first | apply Kd.N_alloc | apply Kd.N_drewN | apply Kd.N_drew)); exact HO391.out) gb392 (Nat.le_of_eq hg.symm)) hb); have n1_ := Aside0.mk (blk_below BK383.out hy); have n2_ := Aside0.mk (below_step HB.out hy); have BK392 := Aside0.mk (hbox); have n4_ := Aside0.mk (bge HB.out hz hg); have GE392 := n4_; obtain ⟨NB383_392, NB392_383⟩ := bne2 BK383.out hz hg; clear HO391; clear BK383; clear HB; have HO391 := n0_; have BK383 := n1_; have HB := n2_; have GW392 := n4_; clear n0_ n1_ n2_ n4_; clear hy hz hb hbox hg; have hnb21 := NB392_383.out; have hnc21 := NB383_392.out; obtain ⟨hcz22_0, hcz22_1, hcz22_2, hcz22_3, hfz22_0, hfz22_1, hfz22_2, hfz22_3⟩ := bc4 BK392.out) | ((with_reducible refine gate_callee (f := 18) rfl ?_); refine goesL_ (some 41) rfl rfl Tryd.func18 (by kernel_rfl) rfl #[.agg #[.int .i64 t385, .int .i64 t386, .int .i64 t387, .int .i64 t388], .int .i64 a2] rfl (by (try simp only [List.map_toArray, List.map_cons, List.map_nil]); first | done | rfl | (simp only [List.length_drop, List.length_take]; rfl)) ?_; (with_reducible refine (session_Tick.calls kj4 t385 t386 t387 t388 a2 t393 t394 t395 t396 t397 _ A13.out).mono ?_); rintro e w23 ⟨v398, rfl, ho0, hb⟩; refine ⟨_, rfl, ?_⟩; have HO399 := Aside0.mk (Kd.N_lower (Kd.N_mono (ok' := fun k_ => some k_ ≠ (v390 : Value).ownBlock ∧ k_ ≠ gb383 ∧ k_ ≠ gb392) ho0 (fun k_ hk_ => ⟨(Kd.fresh' (Kd.N_lt (by (with_reducible repeat (first | apply Kd.N_alloc | apply Kd.N_drewN | apply Kd.N_drew)); exact (Kd.N_mono (Kd.N_far (p := ⟨gb392, 3, none⟩) (Kd.N_far (p := ⟨gb392, 2, none⟩) (Kd.N_far (p := ⟨gb392, 1, none⟩) (Kd.N_far (p := ⟨gb392, 0, none⟩) (Kd.N_mono HO391.out (fun k_ hk => (⟨hk, hk.2⟩ : _ ∧ k_ ≠ gb392))) (fun _ hk => hk.2) (.int .i64 t385)) (fun _ hk => hk.2) (.int .i64 t386)) (fun _ hk => hk.2) (.int .i64 t387)) (fun _ hk => hk.2) (.int .i64 t388)) (fun _ h_ => h_.1)))) k_ hk_), (Kd.freshB (g := gb383) (o := .cells #[.int .i64 a0_0, .int .i64 a0_1, .int .i64 a0_2, .int .i64 a0_3] 34 (0, 0)) (by (with_reducible repeat first | apply kN | apply kD | apply kA); refine blk_far ?_ NB383_392.out _; (with_reducible repeat first | apply kN | apply kD | apply kA); refine blk_far ?_ NB383_392.out _; (with_reducible repeat first | apply kN | apply kD | apply kA); refine blk_far ?_ NB383_392.out _; (with_reducible repeat first | apply kN | apply kD | apply kA); refine blk_far ?_ NB383_392.out _; (with_reducible repeat first | apply kN | apply kD | apply kA); exact BK383.out) k_ hk_), (Kd.freshB (g := gb392) (o := .cells #[.int .i64 t385, .int .i64 t386, .int .i64 t387, .int .i64 t388] 34 (0, 0)) (by (with_reducible repeat first | apply kN | apply kD | apply kA); refine blk_put (cs := #[.int .i64 t385, .int .i64 t386, .int .i64 t387, .int .i64 0]) ?_ 3 _ rfl; (with_reducible repeat first | apply kN | apply kD | apply kA); refine blk_put (cs := #[.int .i64 t385, .int .i64 t386, .int .i64 0, .int .i64 0]) ?_ 2 _ rfl; (with_reducible repeat first | apply kN | apply kD | apply kA); refine blk_put (cs := #[.int .i64 t385, .int .i64 0, .int .i64 0, .int .i64 0]) ?_ 1 _ rfl; (with_reducible repeat first | apply kN | apply kD | apply kA); refine blk_put (cs := #[.int .i64 0, .int .i64 0, .int .i64 0, .int .i64 0]) ?_ 0 _ rfl; (with_reducible repeat first | apply kN | apply kD | apply kA); exact BK392.out) k_ hk_)⟩)) (below_size (by with_reducible repeat first | exact HB.out | apply bA | apply bN | apply bD | refine bS ?_ GE383.out | refine bS ?_ GE392.out))); replace HO391 := Aside0.mk (Kd.N_elder' (by (with_reducible repeat (first | apply Kd.N_alloc | apply Kd.N_drewN | apply Kd.N_drew)); exact (Kd.N_mono (Kd.N_far (p := ⟨gb392, 3, none⟩) (Kd.N_far (p := ⟨gb392, 2, none⟩) (Kd.N_far (p := ⟨gb392, 1, none⟩) (Kd.N_far (p := ⟨gb392, 0, none⟩) (Kd.N_mono HO391.out (fun k_ hk => (⟨hk, hk.2⟩ : _ ∧ k_ ≠ gb392))) (fun _ hk => hk.2) (.int .i64 t385)) (fun _ hk => hk.2) (.int .i64 t386)) (fun _ hk => hk.2) (.int .i64 t387)) (fun _ hk => hk.2) (.int .i64 t388)) (fun _ h_ => h_.1))) (Kd.N_base ho0) hb); replace BK383 := Aside0.mk (blk_below (g := gb383) (o := .cells #[.int .i64 a0_0, .int .i64 a0_1, .int .i64 a0_2, .int .i64 a0_3] 34 (0, 0)) (by (with_reducible repeat first | apply kN | apply kD | apply kA); refine blk_far ?_ NB383_392.out _; (with_reducible repeat first | apply kN | apply kD | apply kA); refine blk_far ?_ NB383_392.out _; (with_reducible repeat first | apply kN | apply kD | apply kA); refine blk_far ?_ NB383_392.out _; (with_reducible repeat first | apply kN | apply kD | apply kA); refine blk_far ?_ NB383_392.out _; (with_reducible repeat first | apply kN | apply kD | apply kA); exact BK383.out) hb); replace BK392 := Aside0.mk (blk_below (g := gb392) (o := .cells #[.int .i64 t385, .int .i64 t386, .int .i64 t387, .int .i64 t388] 34 (0, 0)) (by (with_reducible repeat first | apply kN | apply kD | apply kA); refine blk_put (cs := #[.int .i64 t385, .int .i64 t386, .int .i64 t387, .int .i64 0]) ?_ 3 _ rfl; (with_reducible repeat first | apply kN | apply kD | apply kA); refine blk_put (cs := #[.int .i64 t385, .int .i64 t386, .int .i64 0, .int .i64 0]) ?_ 2 _ rfl; (with_reducible repeat first | apply kN | apply kD | apply kA); refine blk_put (cs := #[.int .i64 t385, .int .i64 0, .int .i64 0, .int .i64 0]) ?_ 1 _ rfl; (with_reducible repeat first | apply kN | apply kD | apply kA); refine blk_put (cs := #[.int .i64 0, .int .i64 0, .int .i64 0, .int .i64 0]) ?_ 0 _ rfl; (with_reducible repeat first | apply kN | apply kD | apply kA); exact BK392.out) hb); replace HB := Aside0.mk (below_step (by with_reducible repeat first | exact HB.out | apply bA | apply bN | apply bD | refine bS ?_ GE383.out | refine bS ?_ GE392.out) hb); (try clear hb); (try clear hb2); (try clear hk); (try clear hi); (try clear ho0)) | ((with_reducible refine gate_dst (N := 10) rfl ?_); (try (refine gate_guard (by rfl) ?_; dsimp only)); refine box_event ?hg (N := 10) ?hd (cs := #[.int .i64 0, .int .i64 0, .int .i64 0, .int .i64 0]) (t := 34) ?hr ?_; (case hd | hg => rfl); (case hr => first | (go_simp; done) | (go_simp; rfl)); intro gb400 hg w24 hbox hb; have hz := bZ BK383.out (by with_reducible repeat first | apply bA | apply bN | apply bD | exact Below.refl _ _) hb; have hy := below_step hz hb; have n0_ := Aside0.mk (Kd.N_below (Kd.N_elderB (by (with_reducible repeat (first | apply Kd.N_alloc | apply Kd.N_drewN | apply Kd.N_drew)); exact HO391.out) gb400 (Nat.le_of_eq hg.symm)) hb); have n1_ := Aside0.mk (Kd.N_below (Kd.N_elderB (by (with_reducible repeat (first | apply Kd.N_alloc | apply Kd.N_drewN | apply Kd.N_drew)); exact HO399.out) gb400 (Nat.le_of_eq hg.symm)) hb); have n2_ := Aside0.mk (blk_below BK383.out hy); have n3_ := Aside0.mk (blk_below BK392.out hy); have n4_ := Aside0.mk (below_step HB.out hy); have BK400 := Aside0.mk (hbox); have n6_ := Aside0.mk (bge HB.out hz hg); have GE400 := n6_; obtain ⟨NB383_400, NB400_383⟩ := bne2 BK383.out hz hg; obtain ⟨NB392_400, NB400_392⟩ := bne2 BK392.out hz hg; clear HO391; clear HO399; clear BK383; clear BK392; clear HB; have HO391 := n0_; have HO399 := n1_; have BK383 := n2_; have BK392 := n3_; have HB := n4_; have GW400 := n6_; clear n0_ n1_ n2_ n3_ n4_ n6_; clear hy hz hb hbox hg; have hnb25 := NB400_383.out; have hnc25 := NB383_400.out; have hnb26 := NB400_392.out; have hnc26 := NB392_400.out; obtain ⟨hcz27_0, hcz27_1, hcz27_2, hcz27_3, hfz27_0, hfz27_1, hfz27_2, hfz27_3⟩ := bc4 BK400.out; obtain ⟨hcz28_0, hcz28_1, hcz28_2, hcz28_3, hfz28_0, hfz28_1, hfz28_2, hfz28_3⟩ := bc4 BK383.out) | ((with_reducible refine gate_callee (f := 18) rfl ?_); refine goesL_ (some 49) rfl rfl Tryd.func18 (by kernel_rfl) rfl #[.agg #[.int .i64 a0_0, .int .i64 a0_1, .int .i64 a0_2, .int .i64 a0_3], .int .i64 (wrap64 (a1 + a2))] rfl (by (try simp only [List.map_toArray, List.map_cons, List.map_nil]); first | done | rfl | (simp only [List.length_drop, List.length_take]; rfl)) ?_; (with_reducible refine (session_Tick.calls kj4 a0_0 a0_1 a0_2 a0_3 (wrap64 (a1 + a2)) t401 t402 t403 t404 t405 _ A14.out).mono ?_); rintro e w29 ⟨v406, rfl, ho0, hb⟩; refine ⟨_, rfl, ?_⟩; have HO407 := Aside0.mk (Kd.N_lower (Kd.N_mono (ok' := fun k_ => some k_ ≠ (v390 : Value).ownBlock ∧ some k_ ≠ (v398 : Value).ownBlock ∧ k_ ≠ gb383 ∧ k_ ≠ gb392 ∧ k_ ≠ gb400) ho0 (fun k_ hk_ => ⟨(Kd.fresh' (Kd.N_lt (by (with_reducible repeat (first | apply Kd.N_alloc | apply Kd.N_drewN | apply Kd.N_drew)); exact (Kd.N_mono (Kd.N_far (p := ⟨gb400, 3, none⟩) (Kd.N_far (p := ⟨gb400, 2, none⟩) (Kd.N_far (p := ⟨gb400, 1, none⟩) (Kd.N_far (p := ⟨gb400, 0, none⟩) (Kd.N_mono HO391.out (fun k_ hk => (⟨hk, hk.2⟩ : _ ∧ k_ ≠ gb400))) (fun _ hk => hk.2) (.int .i64 t393)) (fun _ hk => hk.2) (.int .i64 t394)) (fun _ hk => hk.2) (.int .i64 t395)) (fun _ hk => hk.2) (.int .i64 t396)) (fun _ h_ => h_.1)))) k_ hk_), (Kd.fresh' (Kd.N_lt (by (with_reducible repeat (first | apply Kd.N_alloc | apply Kd.N_drewN | apply Kd.N_drew)); exact (Kd.N_mono (Kd.N_far (p := ⟨gb400, 3, none⟩) (Kd.N_far (p := ⟨gb400, 2, none⟩) (Kd.N_far (p := ⟨gb400, 1, none⟩) (Kd.N_far (p := ⟨gb400, 0, none⟩) (Kd.N_mono HO399.out (fun k_ hk => (⟨hk, hk.2⟩ : _ ∧ k_ ≠ gb400))) (fun _ hk => hk.2) (.int .i64 t393)) (fun _ hk => hk.2) (.int .i64 t394)) (fun _ hk => hk.2) (.int .i64 t395)) (fun _ hk => hk.2) (.int .i64 t396)) (fun _ h_ => h_.1)))) k_ hk_), (Kd.freshB (g := gb383) (o := .cells #[.int .i64 a0_0, .int .i64 a0_1, .int .i64 a0_2, .int .i64 a0_3] 34 (0, 0)) (by (with_reducible repeat first | apply kN | apply kD | apply kA); refine blk_far ?_ NB383_400.out _; (with_reducible repeat first | apply kN | apply kD | apply kA); refine blk_far ?_ NB383_400.out _; (with_reducible repeat first | apply kN | apply kD | apply kA); refine blk_far ?_ NB383_400.out _; (with_reducible repeat first | apply kN | apply kD | apply kA); refine blk_far ?_ NB383_400.out _; (with_reducible repeat first | apply kN | apply kD | apply kA); exact BK383.out) k_ hk_), (Kd.freshB (g := gb392) (o := .cells #[.int .i64 t385, .int .i64 t386, .int .i64 t387, .int .i64 t388] 34 (0, 0)) (by (with_reducible repeat first | apply kN | apply kD | apply kA); refine blk_far ?_ NB392_400.out _; (with_reducible repeat first | apply kN | apply kD | apply kA); refine blk_far ?_ NB392_400.out _; (with_reducible repeat first | apply kN | apply kD | apply kA); refine blk_far ?_ NB392_400.out _; (with_reducible repeat first | apply kN | apply kD | apply kA); refine blk_far ?_ NB392_400.out _; (with_reducible repeat first | apply kN | apply kD | apply kA); exact BK392.out) k_ hk_), (Kd.freshB (g := gb400) (o := .cells #[.int .i64 t393, .int .i64 t394, .int .i64 t395, .int .i64 t396] 34 (0, 0)) (by (with_reducible repeat first | apply kN | apply kD | apply kA); refine blk_put (cs := #[.int .i64 t393, .int .i64 t394, .int .i64 t395, .int .i64 0]) ?_ 3 _ rfl; (with_reducible repeat first | apply kN | apply kD | apply kA); refine blk_put (cs := #[.int .i64 t393, .int .i64 t394, .int .i64 0, .int .i64 0]) ?_ 2 _ rfl; (with_reducible repeat first | apply kN | apply kD | apply kA); refine blk_put (cs := #[.int .i64 t393, .int .i64 0, .int .i64 0, .int .i64 0]) ?_ 1 _ rfl; (with_reducible repeat first | apply kN | apply kD | apply kA); refine blk_put (cs := #[.int .i64 0, .int .i64 0, .int .i64 0, .int .i64 0]) ?_ 0 _ rfl; (with_reducible repeat first | apply kN | apply kD | apply kA); exact BK400.out) k_ hk_)⟩)) (below_size (by with_reducible repeat first | exact HB.out | apply bA | apply bN | apply bD | refine bS ?_ GE383.out | refine bS ?_ GE392.out | refine bS ?_ GE400.out))); replace HO391 := Aside0.mk (Kd.N_elder' (by (with_reducible repeat (first | apply Kd.N_alloc | apply Kd.N_drewN | apply Kd.N_drew)); exact (Kd.N_mono (Kd.N_far (p := ⟨gb400, 3, none⟩) (Kd.N_far (p := ⟨gb400, 2, none⟩) (Kd.N_far (p := ⟨gb400, 1, none⟩) (Kd.N_far (p := ⟨gb400, 0, none⟩) (Kd.N_mono HO391.out (fun k_ hk => (⟨hk, hk.2⟩ : _ ∧ k_ ≠ gb400))) (fun _ hk => hk.2) (.int .i64 t393)) (fun _ hk => hk.2) (.int .i64 t394)) (fun _ hk => hk.2) (.int .i64 t395)) (fun _ hk => hk.2) (.int .i64 t396)) (fun _ h_ => h_.1))) (Kd.N_base ho0) hb); replace HO399 := Aside0.mk (Kd.N_elder' (by (with_reducible repeat (first | apply Kd.N_alloc | apply Kd.N_drewN | apply Kd.N_drew)); exact (Kd.N_mono (Kd.N_far (p := ⟨gb400, 3, none⟩) (Kd.N_far (p := ⟨gb400, 2, none⟩) (Kd.N_far (p := ⟨gb400, 1, none⟩) (Kd.N_far (p := ⟨gb400, 0, none⟩) (Kd.N_mono HO399.out (fun k_ hk => (⟨hk, hk.2⟩ : _ ∧ k_ ≠ gb400))) (fun _ hk => hk.2) (.int .i64 t393)) (fun _ hk => hk.2) (.int .i64 t394)) (fun _ hk => hk.2) (.int .i64 t395)) (fun _ hk => hk.2) (.int .i64 t396)) (fun _ h_ => h_.1))) (Kd.N_base ho0) hb); replace BK383 := Aside0.mk (blk_below (g := gb383) (o := .cells #[.int .i64 a0_0, .int .i64 a0_1, .int .i64 a0_2, .int .i64 a0_3] 34 (0, 0)) (by (with_reducible repeat first | apply kN | apply kD | apply kA); refine blk_far ?_ NB383_400.out _; (with_reducible repeat first | apply kN | apply kD | apply kA); refine blk_far ?_ NB383_400.out _; (with_reducible repeat first | apply kN | apply kD | apply kA); refine blk_far ?_ NB383_400.out _; (with_reducible repeat first | apply kN | apply kD | apply kA); refine blk_far ?_ NB383_400.out _; (with_reducible repeat first | apply kN | apply kD | apply kA); exact BK383.out) hb); replace BK392 := Aside0.mk (blk_below (g := gb392) (o := .cells #[.int .i64 t385, .int .i64 t386, .int .i64 t387, .int .i64 t388] 34 (0, 0)) (by (with_reducible repeat first | apply kN | apply kD | apply kA); refine blk_far ?_ NB392_400.out _; (with_reducible repeat first | apply kN | apply kD | apply kA); refine blk_far ?_ NB392_400.out _; (with_reducible repeat first | apply kN | apply kD | apply kA); refine blk_far ?_ NB392_400.out _; (with_reducible repeat first | apply kN | apply kD | apply kA); refine blk_far ?_ NB392_400.out _; (with_reducible repeat first | apply kN | apply kD | apply kA); exact BK392.out) hb); replace BK400 := Aside0.mk (blk_below (g := gb400) (o := .cells #[.int .i64 t393, .int .i64 t394, .int .i64 t395, .int .i64 t396] 34 (0, 0)) (by (with_reducible repeat first | apply kN | apply kD | apply kA); refine blk_put (cs := #[.int .i64 t393, .int .i64 t394, .int .i64 t395, .int .i64 0]) ?_ 3 _ rfl; (with_reducible repeat first | apply kN | apply kD | apply kA); refine blk_put (cs := #[.int .i64 t393, .int .i64 t394, .int .i64 0, .int .i64 0]) ?_ 2 _ rfl; (with_reducible repeat first | apply kN | apply kD | apply kA); refine blk_put (cs := #[.int .i64 t393, .int .i64 0, .int .i64 0, .int .i64 0]) ?_ 1 _ rfl; (with_reducible repeat first | apply kN | apply kD | apply kA); refine blk_put (cs := #[.int .i64 0, .int .i64 0, .int .i64 0, .int .i64 0]) ?_ 0 _ rfl; (with_reducible repeat first | apply kN | apply kD | apply kA); exact BK400.out) hb); replace HB := Aside0.mk (below_step (by with_reducible repeat first | exact HB.out | apply bA | apply bN | apply bD | refine bS ?_ GE383.out | refine bS ?_ GE392.out | refine bS ?_ GE400.out) hb); (try clear hb); (try clear hb2); (try clear hk); (try clear hi); (try clear ho0)) | ((with_reducible refine gate_dst (N := 12) rfl ?_); (try (refine gate_guard (by rfl) ?_; dsimp only)); refine box_event ?hg (N := 12) ?hd (cs := #[.int .i64 0, .int .i64 0, .int .i64 0, .int .i64 0]) (t := 34) ?hr ?_; (case hd | hg => rfl); (case hr => first | (go_simp; done) | (go_simp; rfl)); intro gb408 hg w30 hbox hb; have hz := bZ BK383.out (by with_reducible repeat first | apply bA | apply bN | apply bD | exact Below.refl _ _) hb; have hy := below_step hz hb; have n0_ := Aside0.mk (Kd.N_below (Kd.N_elderB (by (with_reducible repeat (first | apply Kd.N_alloc | apply Kd.N_drewN | apply Kd.N_drew)); exact HO391.out) gb408 (Nat.le_of_eq hg.symm)) hb); have n1_ := Aside0.mk (Kd.N_below (Kd.N_elderB (by (with_reducible repeat (first | apply Kd.N_alloc | apply Kd.N_drewN | apply Kd.N_drew)); exact HO399.out) gb408 (Nat.le_of_eq hg.symm)) hb); have n2_ := Aside0.mk (Kd.N_below (Kd.N_elderB (by (with_reducible repeat (first | apply Kd.N_alloc | apply Kd.N_drewN | apply Kd.N_drew)); exact HO407.out) gb408 (Nat.le_of_eq hg.symm)) hb); have n3_ := Aside0.mk (blk_below BK383.out hy); have n4_ := Aside0.mk (blk_below BK392.out hy); have n5_ := Aside0.mk (blk_below BK400.out hy); have n6_ := Aside0.mk (below_step HB.out hy); have BK408 := Aside0.mk (hbox); have n8_ := Aside0.mk (bge HB.out hz hg); have GE408 := n8_; obtain ⟨NB383_408, NB408_383⟩ := bne2 BK383.out hz hg; obtain ⟨NB392_408, NB408_392⟩ := bne2 BK392.out hz hg; obtain ⟨NB400_408, NB408_400⟩ := bne2 BK400.out hz hg; clear HO391; clear HO399; clear HO407; clear BK383; clear BK392; clear BK400; clear HB; have HO391 := n0_; have HO399 := n1_; have HO407 := n2_; have BK383 := n3_; have BK392 := n4_; have BK400 := n5_; have HB := n6_; have GW408 := n8_; clear n0_ n1_ n2_ n3_ n4_ n5_ n6_ n8_; clear hy hz hb hbox hg; have hnb31 := NB408_383.out; have hnc31 := NB383_408.out; have hnb32 := NB408_392.out; have hnc32 := NB392_408.out; have hnb33 := NB408_400.out; have hnc33 := NB400_408.out; obtain ⟨hcz34_0, hcz34_1, hcz34_2, hcz34_3, hfz34_0, hfz34_1, hfz34_2, hfz34_3⟩ := bc4 BK408.out) | ((with_reducible refine gate_dst (N := 52) rfl ?_); (try (refine gate_guard (by rfl) ?_; dsimp only)); refine Kd.N_lit k45 _ 45 ?hg (N' := 52) ?hd (xs := ([] : List (S45))) (inner := []) (ok := (fun k_ => some k_ ≠ (v390 : Value).ownBlock ∧ some k_ ≠ (v398 : Value).ownBlock ∧ some k_ ≠ (v406 : Value).ownBlock ∧ k_ ≠ gb383 ∧ k_ ≠ gb392 ∧ k_ ≠ gb400 ∧ k_ ≠ gb408)) (okp := (fun k_ => some k_ ≠ (v390 : Value).ownBlock ∧ some k_ ≠ (v398 : Value).ownBlock ∧ some k_ ≠ (v406 : Value).ownBlock ∧ k_ ≠ gb383 ∧ k_ ≠ gb392 ∧ k_ ≠ gb400 ∧ k_ ≠ gb408)) ?hr ?hp (fun _ hk => hk) ((show ∀ k_, w30.heap.size ≤ k_ → (fun k_ => some k_ ≠ (v390 : Value).ownBlock ∧ some k_ ≠ (v398 : Value).ownBlock ∧ some k_ ≠ (v406 : Value).ownBlock ∧ k_ ≠ gb383 ∧ k_ ≠ gb392 ∧ k_ ≠ gb400 ∧ k_ ≠ gb408) k_ from fun k_ hk => ⟨Kd.fresh' (Kd.N_lt HO391.out) k_ hk, Kd.fresh' (Kd.N_lt HO399.out) k_ hk, Kd.fresh' (Kd.N_lt HO407.out) k_ hk, Kd.freshB BK383.out k_ hk, Kd.freshB BK392.out k_ hk, Kd.freshB BK400.out k_ hk, Kd.freshB BK408.out k_ hk⟩) _ (by simp [World.setCell])) (Below.refl _ _) (Nat.le_refl _) (by simp) ?_; (case hd | hg => rfl); (case hr => first | (go_simp; done) | (go_simp; rfl)); (case hp => exact (Reps.none _ _)); intro v410 w35 ho36 hb hg_ hnew_; clear hg_ hnew_; (first | rw [← Ny409.out] at ho36 | (simp only [Int.reduceToNat] at ho36; rw [← Ny409.out] at ho36)); replace HO391 := Aside0.mk (Kd.N_elder' (by (with_reducible repeat (first | apply Kd.N_alloc | apply Kd.N_drewN | apply Kd.N_drew)); exact (Kd.N_mono (Kd.N_far (p := ⟨gb408, 3, none⟩) (Kd.N_far (p := ⟨gb408, 2, none⟩) (Kd.N_far (p := ⟨gb408, 1, none⟩) (Kd.N_far (p := ⟨gb408, 0, none⟩) (Kd.N_mono HO391.out (fun k_ hk => (⟨hk, hk.2⟩ : _ ∧ k_ ≠ gb408))) (fun _ hk => hk.2) (.int .i64 t401)) (fun _ hk => hk.2) (.int .i64 t402)) (fun _ hk => hk.2) (.int .i64 t403)) (fun _ hk => hk.2) (.int .i64 t404)) (fun _ h_ => h_.1))) (Kd.N_base ho36) hb); replace HO399 := Aside0.mk (Kd.N_elder' (by (with_reducible repeat (first | apply Kd.N_alloc | apply Kd.N_drewN | apply Kd.N_drew)); exact (Kd.N_mono (Kd.N_far (p := ⟨gb408, 3, none⟩) (Kd.N_far (p := ⟨gb408, 2, none⟩) (Kd.N_far (p := ⟨gb408, 1, none⟩) (Kd.N_far (p := ⟨gb408, 0, none⟩) (Kd.N_mono HO399.out (fun k_ hk => (⟨hk, hk.2⟩ : _ ∧ k_ ≠ gb408))) (fun _ hk => hk.2) (.int .i64 t401)) (fun _ hk => hk.2) (.int .i64 t402)) (fun _ hk => hk.2) (.int .i64 t403)) (fun _ hk => hk.2) (.int .i64 t404)) (fun _ h_ => h_.1))) (Kd.N_base ho36) hb); replace HO407 := Aside0.mk (Kd.N_elder' (by (with_reducible repeat (first | apply Kd.N_alloc | apply Kd.N_drewN | apply Kd.N_drew)); exact (Kd.N_mono (Kd.N_far (p := ⟨gb408, 3, none⟩) (Kd.N_far (p := ⟨gb408, 2, none⟩) (Kd.N_far (p := ⟨gb408, 1, none⟩) (Kd.N_far (p := ⟨gb408, 0, none⟩) (Kd.N_mono HO407.out (fun k_ hk => (⟨hk, hk.2⟩ : _ ∧ k_ ≠ gb408))) (fun _ hk => hk.2) (.int .i64 t401)) (fun _ hk => hk.2) (.int .i64 t402)) (fun _ hk => hk.2) (.int .i64 t403)) (fun _ hk => hk.2) (.int .i64 t404)) (fun _ h_ => h_.1))) (Kd.N_base ho36) hb); have HO411 := Aside0.mk (Kd.N_lower ho36 (below_size (by with_reducible repeat first | exact HB.out | apply bA | apply bN | apply bD | refine bS ?_ GE383.out | refine bS ?_ GE392.out | refine bS ?_ GE400.out | refine bS ?_ GE408.out))); replace BK383 := Aside0.mk (blk_below (g := gb383) (o := .cells #[.int .i64 a0_0, .int .i64 a0_1, .int .i64 a0_2, .int .i64 a0_3] 34 (0, 0)) (by (with_reducible repeat first | apply kN | apply kD | apply kA); refine blk_far ?_ NB383_408.out _; (with_reducible repeat first | apply kN | apply kD | apply kA); refine blk_far ?_ NB383_408.out _; (with_reducible repeat first | apply kN | apply kD | apply kA); refine blk_far ?_ NB383_408.out _; (with_reducible repeat first | apply kN | apply kD | apply kA); refine blk_far ?_ NB383_408.out _; (with_reducible repeat first | apply kN | apply kD | apply kA); exact BK383.out) hb); replace BK392 := Aside0.mk (blk_below (g := gb392) (o := .cells #[.int .i64 t385, .int .i64 t386, .int .i64 t387, .int .i64 t388] 34 (0, 0)) (by (with_reducible repeat first | apply kN | apply kD | apply kA); refine blk_far ?_ NB392_408.out _; (with_reducible repeat first | apply kN | apply kD | apply kA); refine blk_far ?_ NB392_408.out _; (with_reducible repeat first | apply kN | apply kD | apply kA); refine blk_far ?_ NB392_408.out _; (with_reducible repeat first | apply kN | apply kD | apply kA); refine blk_far ?_ NB392_408.out _; (with_reducible repeat first | apply kN | apply kD | apply kA); exact BK392.out) hb); replace BK400 := Aside0.mk (blk_below (g := gb400) (o := .cells #[.int .i64 t393, .int .i64 t394, .int .i64 t395, .int .i64 t396] 34 (0, 0)) (by (with_reducible repeat first | apply kN | apply kD | apply kA); refine blk_far ?_ NB400_408.out _; (with_reducible repeat first | apply kN | apply kD | apply kA); refine blk_far ?_ NB400_408.out _; (with_reducible repeat first | apply kN | apply kD | apply kA); refine blk_far ?_ NB400_408.out _; (with_reducible repeat first | apply kN | apply kD | apply kA); refine blk_far ?_ NB400_408.out _; (with_reducible repeat first | apply kN | apply kD | apply kA); exact BK400.out) hb); replace BK408 := Aside0.mk (blk_below (g := gb408) (o := .cells #[.int .i64 t401, .int .i64 t402, .int .i64 t403, .int .i64 t404] 34 (0, 0)) (by (with_reducible repeat first | apply kN | apply kD | apply kA); refine blk_put (cs := #[.int .i64 t401, .int .i64 t402, .int .i64 t403, .int .i64 0]) ?_ 3 _ rfl; (with_reducible repeat first | apply kN | apply kD | apply kA); refine blk_put (cs := #[.int .i64 t401, .int .i64 t402, .int .i64 0, .int .i64 0]) ?_ 2 _ rfl; (with_reducible repeat first | apply kN | apply kD | apply kA); refine blk_put (cs := #[.int .i64 t401, .int .i64 0, .int .i64 0, .int .i64 0]) ?_ 1 _ rfl; (with_reducible repeat first | apply kN | apply kD | apply kA); refine blk_put (cs := #[.int .i64 0, .int .i64 0, .int .i64 0, .int .i64 0]) ?_ 0 _ rfl; (with_reducible repeat first | apply kN | apply kD | apply kA); exact BK408.out) hb); replace HB := Aside0.mk (below_step (by with_reducible repeat first | exact HB.out | apply bA | apply bN | apply bD | refine bS ?_ GE383.out | refine bS ?_ GE392.out | refine bS ?_ GE400.out | refine bS ?_ GE408.out) hb); clear hb ho36; obtain ⟨Ao38, co38, eo38⟩ := Kd.N_slice HO391.out; subst eo38) | ((with_reducible refine gate_builtin (b := .append) (xs := #[.tmp 52, .tmp 53]) rfl ?_); (try (refine gate_guard (by rfl) ?_; dsimp only)); at_builtin; refine Kd.N_append_rows k45 (w0 := w) w.heap.size rfl (.tmp 52) (.tmp 53) 35 45 (.agg #[(.int .i64 0), (.slice none 0 0)]) 32 rfl Tryd.underlying35 info45 rfl (by decide) (by omega) v410 y409 t389 _ _ _ (fun k_ => some k_ ≠ (v398 : Value).ownBlock ∧ some k_ ≠ (v406 : Value).ownBlock ∧ k_ ≠ gb383 ∧ k_ ≠ gb392 ∧ k_ ≠ gb400 ∧ k_ ≠ gb408) (fun k_ => ((fun k_ => some k_ ≠ (v398 : Value).ownBlock ∧ some k_ ≠ (v406 : Value).ownBlock ∧ k_ ≠ gb383 ∧ k_ ≠ gb392 ∧ k_ ≠ gb400 ∧ k_ ≠ gb408)) k_ ∧ some k_ ≠ (v410 : Value).ownBlock) rfl rfl ?aO ?aR (fun _ hk => hk) ?aF ?aB ?aS ?aL ?_; (case aR => exact (by skip; exact Kd.N_F (Kd.N_mono (ok' := (fun k_ => ((fun k_ => some k_ ≠ (v398 : Value).ownBlock ∧ some k_ ≠ (v406 : Value).ownBlock ∧ k_ ≠ gb383 ∧ k_ ≠ gb392 ∧ k_ ≠ gb400 ∧ k_ ≠ gb408)) k_ ∧ some k_ ≠ (v410 : Value).ownBlock)) (HO391.out) (fun k_ hk => ⟨⟨hk.1.1.1.1.2, ⟨hk.1.1.2, ⟨hk.1.1.1.1.1.1, ⟨hk.1.1.1.1.1.2, ⟨hk.1.1.1.2, hk.1.2⟩⟩⟩⟩⟩, hk.2⟩)))); (case aB => exact (by with_reducible repeat first | exact HB.out | apply bA | apply bN | apply bD | refine bS ?_ GE383.out | refine bS ?_ GE392.out | refine bS ?_ GE400.out | refine bS ?_ GE408.out)); (case aF => exact (fun k_ hk => ⟨Kd.fresh' (Kd.N_lt (by (with_reducible repeat (first | apply Kd.N_alloc | apply Kd.N_drewN | apply Kd.N_drew)); exact HO399.out)) k_ hk, Kd.fresh' (Kd.N_lt (by (with_reducible repeat (first | apply Kd.N_alloc | apply Kd.N_drewN | apply Kd.N_drew)); exact HO407.out)) k_ hk, Kd.freshB (g := gb383) (o := .cells #[.int .i64 a0_0, .int .i64 a0_1, .int .i64 a0_2, .int .i64 a0_3] 34 (0, 0)) (by (with_reducible repeat first | apply kN | apply kD | apply kA); exact BK383.out) k_ hk, Kd.freshB (g := gb392) (o := .cells #[.int .i64 t385, .int .i64 t386, .int .i64 t387, .int .i64 t388] 34 (0, 0)) (by (with_reducible repeat first | apply kN | apply kD | apply kA); exact BK392.out) k_ hk, Kd.freshB (g := gb400) (o := .cells #[.int .i64 t393, .int .i64 t394, .int .i64 t395, .int .i64 t396] 34 (0, 0)) (by (with_reducible repeat first | apply kN | apply kD | apply kA); exact BK400.out) k_ hk, Kd.freshB (g := gb408) (o := .cells #[.int .i64 t401, .int .i64 t402, .int .i64 t403, .int .i64 t404] 34 (0, 0)) (by (with_reducible repeat first | apply kN | apply kD | apply kA); exact BK408.out) k_ hk⟩)); (case aO => exact (by (with_reducible repeat (first | apply Kd.N_alloc | apply Kd.N_drewN | apply Kd.N_drew)); exact Kd.N_mono HO411.out (fun _ hk => ⟨hk.2.1, ⟨hk.2.2.1, ⟨hk.2.2.2.1, ⟨hk.2.2.2.2.1, ⟨hk.2.2.2.2.2.1, hk.2.2.2.2.2.2⟩⟩⟩⟩⟩))); (case aS => exact (below_size (by with_reducible repeat first | exact HB.out | apply bA | apply bN | apply bD | refine bS ?_ GE383.out | refine bS ?_ GE392.out | refine bS ?_ GE400.out | refine bS ?_ GE408.out))); (case aL => have := LMc15.out; omega); intro v413 w37 ho hb hg hat; rw [← Ny412.out] at ho; replace BK383 := Aside0.mk (blk_grown (g := gb383) (o := .cells #[.int .i64 a0_0, .int .i64 a0_1, .int .i64 a0_2, .int .i64 a0_3] 34 (0, 0)) (by (with_reducible repeat first | apply kN | apply kD | apply kA); exact BK383.out) hg (Kd.N_ne HO411.out BK383.out (by decide))); replace HO391 := Aside0.mk (Kd.N_afterv (ok := (fun k_ => some k_ ≠ (v398 : Value).ownBlock ∧ some k_ ≠ (v406 : Value).ownBlock ∧ k_ ≠ gb383 ∧ k_ ≠ gb392 ∧ k_ ≠ gb400 ∧ k_ ≠ gb408)) (by (with_reducible repeat (first | apply Kd.N_alloc | apply Kd.N_drewN | apply Kd.N_drew)); exact Kd.N_mono HO391.out (fun _ hk => ⟨⟨hk.1.1.1.1.2, ⟨hk.1.1.2, ⟨hk.1.1.1.1.1.1, ⟨hk.1.1.1.1.1.2, ⟨hk.1.1.1.2, hk.1.2⟩⟩⟩⟩⟩, hk.2⟩)) hg hat); replace BK392 := Aside0.mk (blk_grown (g := gb392) (o := .cells #[.int .i64 t385, .int .i64 t386, .int .i64 t387, .int .i64 t388] 34 (0, 0)) (by (with_reducible repeat first | apply kN | apply kD | apply kA); exact BK392.out) hg (Kd.N_ne HO411.out BK392.out (by decide))); replace HO399 := Aside0.mk (Kd.N_afterv (ok := (fun k_ => some k_ ≠ (.slice Ao38 t389.length co38 : Value).ownBlock ∧ some k_ ≠ (v406 : Value).ownBlock ∧ k_ ≠ gb383 ∧ k_ ≠ gb392 ∧ k_ ≠ gb400 ∧ k_ ≠ gb408)) (by (with_reducible repeat (first | apply Kd.N_alloc | apply Kd.N_drewN | apply Kd.N_drew)); exact Kd.N_mono HO399.out (fun _ hk => ⟨⟨hk.1.1.1.1.1, ⟨hk.1.1.2, ⟨hk.1.1.1.1.2.1, ⟨hk.1.1.1.1.2.2, ⟨hk.1.1.1.2, hk.1.2⟩⟩⟩⟩⟩, hk.2⟩)) hg hat); replace BK400 := Aside0.mk (blk_grown (g := gb400) (o := .cells #[.int .i64 t393, .int .i64 t394, .int .i64 t395, .int .i64 t396] 34 (0, 0)) (by (with_reducible repeat first | apply kN | apply kD | apply kA); exact BK400.out) hg (Kd.N_ne HO411.out BK400.out (by decide))); replace HO407 := Aside0.mk (Kd.N_afterv (ok := (fun k_ => some k_ ≠ (.slice Ao38 t389.length co38 : Value).ownBlock ∧ some k_ ≠ (v398 : Value).ownBlock ∧ k_ ≠ gb383 ∧ k_ ≠ gb392 ∧ k_ ≠ gb400 ∧ k_ ≠ gb408)) (by (with_reducible repeat (first | apply Kd.N_alloc | apply Kd.N_drewN | apply Kd.N_drew)); exact Kd.N_mono HO407.out (fun _ hk => ⟨⟨hk.1.1.1, ⟨hk.1.1.2.1, ⟨hk.1.1.2.2.1, ⟨hk.1.1.2.2.2.1, ⟨hk.1.1.2.2.2.2, hk.1.2⟩⟩⟩⟩⟩, hk.2⟩)) hg hat); replace BK408 := Aside0.mk (blk_grown (g := gb408) (o := .cells #[.int .i64 t401, .int .i64 t402, .int .i64 t403, .int .i64 t404] 34 (0, 0)) (by (with_reducible repeat first | apply kN | apply kD | apply kA); exact BK408.out) hg (Kd.N_ne HO411.out BK408.out (by decide))); replace HB := Aside0.mk (hb); have HO414 := Aside0.mk (ho); clear HO411 ho hb hg hat; obtain ⟨Ao40, co40, eo40⟩ := Kd.N_slice HO399.out; subst eo40) | ((with_reducible refine gate_builtin (b := .append) (xs := #[.tmp 55, .tmp 56]) rfl ?_); (try (refine gate_guard (by rfl) ?_; dsimp only)); at_builtin; refine Kd.N_append_rows k45 (w0 := w) w.heap.size rfl (.tmp 55) (.tmp 56) 35 45 (.agg #[(.int .i64 0), (.slice none 0 0)]) 32 rfl Tryd.underlying35 info45 rfl (by decide) (by omega) v413 y412 t397 _ _ _ (fun k_ => some k_ ≠ (v406 : Value).ownBlock ∧ k_ ≠ gb383 ∧ k_ ≠ gb392 ∧ k_ ≠ gb400 ∧ k_ ≠ gb408) (fun k_ => ((fun k_ => some k_ ≠ (v406 : Value).ownBlock ∧ k_ ≠ gb383 ∧ k_ ≠ gb392 ∧ k_ ≠ gb400 ∧ k_ ≠ gb408)) k_ ∧ some k_ ≠ (v413 : Value).ownBlock) rfl rfl ?aO ?aR (fun _ hk => hk) ?aF ?aB ?aS ?aL ?_; (case aR => exact (by skip; exact Kd.N_F (Kd.N_mono (ok' := (fun k_ => ((fun k_ => some k_ ≠ (v406 : Value).ownBlock ∧ k_ ≠ gb383 ∧ k_ ≠ gb392 ∧ k_ ≠ gb400 ∧ k_ ≠ gb408)) k_ ∧ some k_ ≠ (v413 : Value).ownBlock)) (HO399.out) (fun k_ hk => ⟨⟨hk.1.2.1, ⟨hk.1.2.2.1, ⟨hk.1.2.2.2.1, ⟨hk.1.2.2.2.2.1, hk.1.2.2.2.2.2⟩⟩⟩⟩, hk.2⟩)))); (case aB => exact (by with_reducible repeat first | exact HB.out | apply bA | apply bN | apply bD | refine bS ?_ GE383.out | refine bS ?_ GE392.out | refine bS ?_ GE400.out | refine bS ?_ GE408.out)); (case aF => exact (fun k_ hk => ⟨Kd.fresh' (Kd.N_lt (by (with_reducible repeat (first | apply Kd.N_alloc | apply Kd.N_drewN | apply Kd.N_drew)); exact HO407.out)) k_ hk, Kd.freshB (g := gb383) (o := .cells #[.int .i64 a0_0, .int .i64 a0_1, .int .i64 a0_2, .int .i64 a0_3] 34 (0, 0)) (by (with_reducible repeat first | apply kN | apply kD | apply kA); exact BK383.out) k_ hk, Kd.freshB (g := gb392) (o := .cells #[.int .i64 t385, .int .i64 t386, .int .i64 t387, .int .i64 t388] 34 (0, 0)) (by (with_reducible repeat first | apply kN | apply kD | apply kA); exact BK392.out) k_ hk, Kd.freshB (g := gb400) (o := .cells #[.int .i64 t393, .int .i64 t394, .int .i64 t395, .int .i64 t396] 34 (0, 0)) (by (with_reducible repeat first | apply kN | apply kD | apply kA); exact BK400.out) k_ hk, Kd.freshB (g := gb408) (o := .cells #[.int .i64 t401, .int .i64 t402, .int .i64 t403, .int .i64 t404] 34 (0, 0)) (by (with_reducible repeat first | apply kN | apply kD | apply kA); exact BK408.out) k_ hk⟩)); (case aO => exact (by (with_reducible repeat (first | apply Kd.N_alloc | apply Kd.N_drewN | apply Kd.N_drew)); exact Kd.N_mono HO414.out (fun _ hk => ⟨hk.2.1, ⟨hk.2.2.1, ⟨hk.2.2.2.1, ⟨hk.2.2.2.2.1, hk.2.2.2.2.2⟩⟩⟩⟩))); (case aS => exact (below_size (by with_reducible repeat first | exact HB.out | apply bA | apply bN | apply bD | refine bS ?_ GE383.out | refine bS ?_ GE392.out | refine bS ?_ GE400.out | refine bS ?_ GE408.out))); (case aL => have := LMc16.out; omega); intro v416 w39 ho hb hg hat; rw [← Ny415.out] at ho; replace BK383 := Aside0.mk (blk_grown (g := gb383) (o := .cells #[.int .i64 a0_0, .int .i64 a0_1, .int .i64 a0_2, .int .i64 a0_3] 34 (0, 0)) (by (with_reducible repeat first | apply kN | apply kD | apply kA); exact BK383.out) hg (Kd.N_ne HO414.out BK383.out (by decide))); replace HO391 := Aside0.mk (Kd.N_afterv (ok := (fun k_ => some k_ ≠ (.slice Ao40 t397.length co40 : Value).ownBlock ∧ some k_ ≠ (v406 : Value).ownBlock ∧ k_ ≠ gb383 ∧ k_ ≠ gb392 ∧ k_ ≠ gb400 ∧ k_ ≠ gb408)) (by (with_reducible repeat (first | apply Kd.N_alloc | apply Kd.N_drewN | apply Kd.N_drew)); exact HO391.out) hg hat); replace BK392 := Aside0.mk (blk_grown (g := gb392) (o := .cells #[.int .i64 t385, .int .i64 t386, .int .i64 t387, .int .i64 t388] 34 (0, 0)) (by (with_reducible repeat first | apply kN | apply kD | apply kA); exact BK392.out) hg (Kd.N_ne HO414.out BK392.out (by decide))); replace HO399 := Aside0.mk (Kd.N_afterv (ok := (fun k_ => some k_ ≠ (.slice Ao38 t389.length co38 : Value).ownBlock ∧ some k_ ≠ (v406 : Value).ownBlock ∧ k_ ≠ gb383 ∧ k_ ≠ gb392 ∧ k_ ≠ gb400 ∧ k_ ≠ gb408)) (by (with_reducible repeat (first | apply Kd.N_alloc | apply Kd.N_drewN | apply Kd.N_drew)); exact HO399.out) hg hat); replace BK400 := Aside0.mk (blk_grown (g := gb400) (o := .cells #[.int .i64 t393, .int .i64 t394, .int .i64 t395, .int .i64 t396] 34 (0, 0)) (by (with_reducible repeat first | apply kN | apply kD | apply kA); exact BK400.out) hg (Kd.N_ne HO414.out BK400.out (by decide))); replace HO407 := Aside0.mk (Kd.N_afterv (ok := (fun k_ => some k_ ≠ (.slice Ao38 t389.length co38 : Value).ownBlock ∧ some k_ ≠ (.slice Ao40 t397.length co40 : Value).ownBlock ∧ k_ ≠ gb383 ∧ k_ ≠ gb392 ∧ k_ ≠ gb400 ∧ k_ ≠ gb408)) (by (with_reducible repeat (first | apply Kd.N_alloc | apply Kd.N_drewN | apply Kd.N_drew)); exact HO407.out) hg hat); replace BK408 := Aside0.mk (blk_grown (g := gb408) (o := .cells #[.int .i64 t401, .int .i64 t402, .int .i64 t403, .int .i64 t404] 34 (0, 0)) (by (with_reducible repeat first | apply kN | apply kD | apply kA); exact BK408.out) hg (Kd.N_ne HO414.out BK408.out (by decide))); replace HB := Aside0.mk (hb); have HO417 := Aside0.mk (ho); clear HO414 ho hb hg hat))
      (try simp only [Act.put, sA, sB, sC])
      go_cut [66] (fun v66 wc => ∃ (kq : Nat) (x66_16 : Bool), v66 = .bool x66_16 ∧ Aside0 (ridgewaylaw17_SessionTicks.j1 kq a1 a2 t384 t405 x66_16 a0_0 a0_1 a0_2 a0_3 t401 t402 t403 t404 = some true) ∧ Aside0 (kq ≤ kj4) ∧ Aside0 (Kd.N k45 45 wc w.heap.size (fun k_ => k_ ≠ gb383 ∧ k_ ≠ gb392 ∧ k_ ≠ gb400 ∧ k_ ≠ gb408) v406 t405) ∧ Aside0 (wc.heap[gb383]? = some (.cells #[.int .i64 a0_0, .int .i64 a0_1, .int .i64 a0_2, .int .i64 a0_3] 34 (0, 0))) ∧ Aside0 (wc.heap[gb392]? = some (.cells #[.int .i64 t385, .int .i64 t386, .int .i64 t387, .int .i64 t388] 34 (0, 0))) ∧ Aside0 (wc.heap[gb400]? = some (.cells #[.int .i64 t393, .int .i64 t394, .int .i64 t395, .int .i64 t396] 34 (0, 0))) ∧ Aside0 (wc.heap[gb408]? = some (.cells #[.int .i64 t401, .int .i64 t402, .int .i64 t403, .int .i64 t404] 34 (0, 0))) ∧ Aside0 (Below w.heap.size w wc))
      case first => as_aux_lemma =>
       have H := HC17.out
       clear HC17
       by_cases c41 : (!(t393 == t401) || (!(t394 == t402) || (!(t395 == t403) || (!(t396 == t404))))) = true
       ·
        rw [if_pos c41] at H
        have c41b0 : (!(t393 == t401) || (!(t394 == t402) || (!(t395 == t403) || (!(t396 == t404))))) = true := c41
        clear c41
        (first | rw [c41b0] | (simp only [i64_w, i32_w]; rw [c41b0]) | rw [c41b1] | skip)
        have H' := Aside0.mk H
        clear H
        have hnb42 := NB400_383.out
        have hnc42 := NB383_400.out
        have hnb43 := NB400_392.out
        have hnc43 := NB392_400.out
        have hnb44 := NB400_408.out
        have hnc44 := NB408_400.out
        obtain ⟨hcz45_0, hcz45_1, hcz45_2, hcz45_3, hfz45_0, hfz45_1, hfz45_2, hfz45_3⟩ := bc4 BK400.out
        have hnb46 := NB408_383.out
        have hnc46 := NB383_408.out
        have hnb47 := NB408_392.out
        have hnc47 := NB392_408.out
        obtain ⟨hcz48_0, hcz48_1, hcz48_2, hcz48_3, hfz48_0, hfz48_1, hfz48_2, hfz48_3⟩ := bc4 BK408.out
        go_wp2
        go_meet
        case rel => exact ⟨_, (true), (by first | rfl | (simp; done) | (simp [*]; done)), H', ⟨by have := HJ4.out; first | omega | exact Nat.le_refl _⟩, ⟨by (with_reducible repeat (first | apply Kd.N_alloc | apply Kd.N_drewN | apply Kd.N_drew)); exact Kd.N_mono HO407.out (fun _ hk => ⟨hk.1.2.2.1, ⟨hk.1.2.2.2.1, ⟨hk.1.2.2.2.2.1, hk.1.2.2.2.2.2⟩⟩⟩)⟩, ⟨by (with_reducible repeat first | apply kN | apply kD | apply kA); exact BK383.out⟩, ⟨by (with_reducible repeat first | apply kN | apply kD | apply kA); exact BK392.out⟩, ⟨by (with_reducible repeat first | apply kN | apply kD | apply kA); exact BK400.out⟩, ⟨by (with_reducible repeat first | apply kN | apply kD | apply kA); exact BK408.out⟩, ⟨by with_reducible repeat first | exact HB.out | apply bA | apply bN | apply bD | refine bS ?_ GE383.out | refine bS ?_ GE392.out | refine bS ?_ GE400.out | refine bS ?_ GE408.out⟩⟩
       ·
        rw [if_neg c41] at H
        have c41b0 : (!(t393 == t401) || (!(t394 == t402) || (!(t395 == t403) || (!(t396 == t404))))) = false := by simpa using c41
        clear c41
        (first | rw [c41b0] | (simp only [i64_w, i32_w]; rw [c41b0]) | rw [c41b1] | skip)
        replace H := Option.bind_eq_some_iff.mp H
        obtain ⟨t418, A490, H⟩ := H
        replace H : (ridgewaylaw17_SessionTicks.j1 kj4 a1 a2 t384 t405 (!t418) a0_0 a0_1 a0_2 a0_3 t401 t402 t403 t404) = some true := H
        have A49 := Aside0.mk A490
        clear A490
        have H' := Aside0.mk H
        clear H
        have hnb50 := NB400_383.out
        have hnc50 := NB383_400.out
        have hnb51 := NB400_392.out
        have hnc51 := NB392_400.out
        have hnb52 := NB400_408.out
        have hnc52 := NB408_400.out
        obtain ⟨hcz53_0, hcz53_1, hcz53_2, hcz53_3, hfz53_0, hfz53_1, hfz53_2, hfz53_3⟩ := bc4 BK400.out
        have hnb54 := NB408_383.out
        have hnc54 := NB383_408.out
        have hnb55 := NB408_392.out
        have hnc55 := NB392_408.out
        obtain ⟨hcz56_0, hcz56_1, hcz56_2, hcz56_3, hfz56_0, hfz56_1, hfz56_2, hfz56_3⟩ := bc4 BK408.out
        obtain ⟨Ao57, co57, eo57⟩ := Kd.N_slice HO417.out
        subst eo57
        obtain ⟨Ao58, co58, eo58⟩ := Kd.N_slice HO407.out
        subst eo58
        go_wp2_with (first | (go_at_call 19; (with_reducible refine (ridgewayref03_SameAll.calls kj4 _ _ y415 _ _ t405 t418 _ ?side1 ?side2 ?side3 ?side4 A49.out).mono ?_); (case side1 => repeat (first | exact (Kd.N_reads' HO417.out).2.2 | (with_reducible refine Kd.C_alloc ?_ _) | (with_reducible refine Kd.C_drewN ?_ _) | (with_reducible refine Kd.C_drew ?_))); (case side2 => exact (Kd.N_reads' HO417.out).2.1); (case side3 => repeat (first | exact (Kd.N_reads' HO407.out).2.2 | (with_reducible refine Kd.C_alloc ?_ _) | (with_reducible refine Kd.C_drewN ?_ _) | (with_reducible refine Kd.C_drew ?_))); (case side4 => exact (Kd.N_reads' HO407.out).2.1); rintro e w59 ⟨rfl, hb⟩; replace HO391 := Aside0.mk (Kd.N_below (by (with_reducible repeat (first | apply Kd.N_alloc | apply Kd.N_drewN | apply Kd.N_drew)); exact HO391.out) hb); replace HO399 := Aside0.mk (Kd.N_below (by (with_reducible repeat (first | apply Kd.N_alloc | apply Kd.N_drewN | apply Kd.N_drew)); exact HO399.out) hb); replace HO407 := Aside0.mk (Kd.N_below (by (with_reducible repeat (first | apply Kd.N_alloc | apply Kd.N_drewN | apply Kd.N_drew)); exact HO407.out) hb); replace HO417 := Aside0.mk (Kd.N_below (by (with_reducible repeat (first | apply Kd.N_alloc | apply Kd.N_drewN | apply Kd.N_drew)); exact HO417.out) hb); have hy := bQ BK383.out (by with_reducible repeat first | apply bA | apply bN | apply bD | exact Below.refl _ _) hb; replace BK383 := Aside0.mk (blk_below BK383.out hy); replace BK392 := Aside0.mk (blk_below BK392.out hy); replace BK400 := Aside0.mk (blk_below BK400.out hy); replace BK408 := Aside0.mk (blk_below BK408.out hy); replace HB := Aside0.mk (below_step HB.out hy); clear hy; (try clear hb); (try clear hb2); (try clear hk); (try clear hi)))
        go_meet
        case rel => exact ⟨_, (!t418), (by first | rfl | (simp; done) | (simp [*]; done)), H', ⟨by have := HJ4.out; first | omega | exact Nat.le_refl _⟩, ⟨by (with_reducible repeat (first | apply Kd.N_alloc | apply Kd.N_drewN | apply Kd.N_drew)); exact Kd.N_mono HO407.out (fun _ hk => ⟨hk.1.2.2.1, ⟨hk.1.2.2.2.1, ⟨hk.1.2.2.2.2.1, hk.1.2.2.2.2.2⟩⟩⟩)⟩, ⟨by (with_reducible repeat first | apply kN | apply kD | apply kA); exact BK383.out⟩, ⟨by (with_reducible repeat first | apply kN | apply kD | apply kA); exact BK392.out⟩, ⟨by (with_reducible repeat first | apply kN | apply kD | apply kA); exact BK400.out⟩, ⟨by (with_reducible repeat first | apply kN | apply kD | apply kA); exact BK408.out⟩, ⟨by with_reducible repeat first | exact HB.out | apply bA | apply bN | apply bD | refine bS ?_ GE383.out | refine bS ?_ GE392.out | refine bS ?_ GE400.out | refine bS ?_ GE408.out⟩⟩
      case rest => as_aux_lemma =>
       clear HC17
       try clear c1
       try clear c2
       try clear p2
       try clear c3
       try clear c4
       try clear c5
       try clear c6
       try clear p6
       try clear c8
       try clear c8b0
       try clear c8b1
       try clear c9
       try clear c9b0
       try clear c10
       try clear c10b0
       try clear c11
       try clear c15
       try clear c16
       try clear c18
       try clear c21
       try clear c25
       try clear c26
       try clear c31
       try clear c32
       try clear c33
       try clear c41
       try clear c41b0
       try clear c41b1
       try clear c42
       try clear c43
       try clear c44
       try clear c46
       try clear c47
       try clear c50
       try clear c51
       try clear c52
       try clear c54
       try clear c55
       try clear hcz18_0 hcz18_1 hcz18_2 hcz18_3
       try clear hcz22_0 hcz22_1 hcz22_2 hcz22_3
       try clear hcz27_0 hcz27_1 hcz27_2 hcz27_3
       try clear hcz28_0 hcz28_1 hcz28_2 hcz28_3
       try clear hcz34_0 hcz34_1 hcz34_2 hcz34_3
       try clear hcz45_0 hcz45_1 hcz45_2 hcz45_3
       try clear hcz48_0 hcz48_1 hcz48_2 hcz48_3
       try clear hcz53_0 hcz53_1 hcz53_2 hcz53_3
       try clear hcz56_0 hcz56_1 hcz56_2 hcz56_3
       try clear hfz18_0 hfz18_1 hfz18_2 hfz18_3
       try clear hfz22_0 hfz22_1 hfz22_2 hfz22_3
       try clear hfz27_0 hfz27_1 hfz27_2 hfz27_3
       try clear hfz28_0 hfz28_1 hfz28_2 hfz28_3
       try clear hfz34_0 hfz34_1 hfz34_2 hfz34_3
       try clear hfz45_0 hfz45_1 hfz45_2 hfz45_3
       try clear hfz48_0 hfz48_1 hfz48_2 hfz48_3
       try clear hfz53_0 hfz53_1 hfz53_2 hfz53_3
       try clear hfz56_0 hfz56_1 hfz56_2 hfz56_3
       try clear p2
       obtain ⟨kq, x66_16, rfl, HA, HJ16, HO_13, BK383, BK392, BK400, BK408, HB⟩ := hcut
       cases kq with
       | zero => exact absurd HA.out (by simp [ridgewaylaw17_SessionTicks.j1])
       | succ kj16 =>
        have H := HA.out
        clear HA
        simp only [ridgewaylaw17_SessionTicks.j1] at H
        by_cases c60 : x66_16 = true
        ·
         subst c60
         have H1 : (some false) = some true := by rw [if_pos rfl] at H; first | done | exact H
         clear H
         have H := H1
         clear H1
         exact absurd H (by simp)
        ·
         replace c60 := Bool.eq_false_iff.mpr c60
         subst c60
         have H1 : ((session_Sane.f a0_0 a0_1 a0_2 a0_3).bind fun t419 => (if t419 = true then (if a0_0 = 0 then (ridgewaylaw17_SessionTicks.j2 kj16 a1 a2 t384 t405 true a0_0 a0_1 a0_2 a0_3 t401 t402 t403 t404) else (ridgewaylaw17_SessionTicks.j2 kj16 a1 a2 t384 t405 (a0_2 == 0) a0_0 a0_1 a0_2 a0_3 t401 t402 t403 t404)) else (ridgewaylaw17_SessionTicks.j2 kj16 a1 a2 t384 t405 true a0_0 a0_1 a0_2 a0_3 t401 t402 t403 t404))) = some true := by rw [if_neg (show ¬ (false = true) by decide)] at H; first | done | exact H
         clear H
         have H := H1
         clear H1
         have HC61 := Aside0.mk H
         clear H
         go_upto_region 11 with (fail)
         go_cut [79] (fun v79 wc => ∃ (kq : Nat) (x79_60 : Bool), v79 = .bool x79_60 ∧ Aside0 (ridgewaylaw17_SessionTicks.j2 kq a1 a2 t384 t405 x79_60 a0_0 a0_1 a0_2 a0_3 t401 t402 t403 t404 = some true) ∧ Aside0 (kq ≤ kj16) ∧ Aside0 (Kd.N k45 45 wc w.heap.size (fun k_ => k_ ≠ gb383 ∧ k_ ≠ gb392 ∧ k_ ≠ gb400 ∧ k_ ≠ gb408) v406 t405) ∧ Aside0 (wc.heap[gb383]? = some (.cells #[.int .i64 a0_0, .int .i64 a0_1, .int .i64 a0_2, .int .i64 a0_3] 34 (0, 0))) ∧ Aside0 (wc.heap[gb392]? = some (.cells #[.int .i64 t385, .int .i64 t386, .int .i64 t387, .int .i64 t388] 34 (0, 0))) ∧ Aside0 (wc.heap[gb400]? = some (.cells #[.int .i64 t393, .int .i64 t394, .int .i64 t395, .int .i64 t396] 34 (0, 0))) ∧ Aside0 (wc.heap[gb408]? = some (.cells #[.int .i64 t401, .int .i64 t402, .int .i64 t403, .int .i64 t404] 34 (0, 0))) ∧ Aside0 (Below w.heap.size w wc))
         case first => as_aux_lemma =>
          have H := HC61.out
          clear HC61
          replace H := Option.bind_eq_some_iff.mp H
          obtain ⟨t419, A620, H⟩ := H
          replace H : (if t419 = true then (if a0_0 = 0 then (ridgewaylaw17_SessionTicks.j2 kj16 a1 a2 t384 t405 true a0_0 a0_1 a0_2 a0_3 t401 t402 t403 t404) else (ridgewaylaw17_SessionTicks.j2 kj16 a1 a2 t384 t405 (a0_2 == 0) a0_0 a0_1 a0_2 a0_3 t401 t402 t403 t404)) else (ridgewaylaw17_SessionTicks.j2 kj16 a1 a2 t384 t405 true a0_0 a0_1 a0_2 a0_3 t401 t402 t403 t404)) = some true := H
          have A62 := Aside0.mk A620
          clear A620
          by_cases c63 : t419 = true
          ·
           subst c63
           have H1 : (if a0_0 = 0 then (ridgewaylaw17_SessionTicks.j2 kj16 a1 a2 t384 t405 true a0_0 a0_1 a0_2 a0_3 t401 t402 t403 t404) else (ridgewaylaw17_SessionTicks.j2 kj16 a1 a2 t384 t405 (a0_2 == 0) a0_0 a0_1 a0_2 a0_3 t401 t402 t403 t404)) = some true := by rw [if_pos rfl] at H; first | done | exact H
           clear H
           have H := H1
           clear H1
           by_cases c64 : a0_0 = 0
           ·
            rw [if_pos c64] at H
            have c64b0 : (a0_0 == 0) = true := beq_iff_eq.mpr c64
            have c64b1 : (a0_0 != 0) = false := bne_eq_false_iff_eq.mpr c64
            clear c64
            (first | rw [c64b0] | (simp only [i64_w, i32_w]; rw [c64b0]) | rw [c64b1] | skip)
            have H' := Aside0.mk H
            clear H
            have hnb65 := NB383_392.out
            have hnc65 := NB392_383.out
            have hnb66 := NB383_400.out
            have hnc66 := NB400_383.out
            have hnb67 := NB383_408.out
            have hnc67 := NB408_383.out
            obtain ⟨hcz68_0, hcz68_1, hcz68_2, hcz68_3, hfz68_0, hfz68_1, hfz68_2, hfz68_3⟩ := bc4 BK383.out
            go_wp2_with (first | ((with_reducible refine gate_callee (f := 17) rfl ?_); refine goesL_ (some 68) rfl rfl Tryd.func17 (by kernel_rfl) rfl #[.agg #[.int .i64 a0_0, .int .i64 a0_1, .int .i64 a0_2, .int .i64 a0_3]] rfl (by (try simp only [List.map_toArray, List.map_cons, List.map_nil]); first | done | rfl | (simp only [List.length_drop, List.length_take]; rfl)) ?_; (with_reducible refine (session_Sane.calls a0_0 a0_1 a0_2 a0_3 true _ A62.out).mono ?_); rintro e w69 ⟨rfl, hb⟩; refine ⟨_, rfl, ?_⟩; replace HO_13 := Aside0.mk (Kd.N_below (by (with_reducible repeat (first | apply Kd.N_alloc | apply Kd.N_drewN | apply Kd.N_drew)); exact HO_13.out) hb); have hy := bQ BK383.out (by with_reducible repeat first | apply bA | apply bN | apply bD | exact Below.refl _ _) hb; replace BK383 := Aside0.mk (blk_below BK383.out hy); replace BK392 := Aside0.mk (blk_below BK392.out hy); replace BK400 := Aside0.mk (blk_below BK400.out hy); replace BK408 := Aside0.mk (blk_below BK408.out hy); replace HB := Aside0.mk (below_step HB.out hy); clear hy; (try clear hb); (try clear hb2); (try clear hk); (try clear hi); obtain ⟨hcz70_0, hcz70_1, hcz70_2, hcz70_3, hfz70_0, hfz70_1, hfz70_2, hfz70_3⟩ := bc4 BK383.out))
            go_meet
            case rel => exact ⟨_, (true), (by first | rfl | (simp; done) | (simp [*]; done)), H', ⟨by have := HJ4.out; have := HJ16.out; first | omega | exact Nat.le_refl _⟩, ⟨by (with_reducible repeat (first | apply Kd.N_alloc | apply Kd.N_drewN | apply Kd.N_drew)); exact HO_13.out⟩, ⟨by (with_reducible repeat first | apply kN | apply kD | apply kA); exact BK383.out⟩, ⟨by (with_reducible repeat first | apply kN | apply kD | apply kA); exact BK392.out⟩, ⟨by (with_reducible repeat first | apply kN | apply kD | apply kA); exact BK400.out⟩, ⟨by (with_reducible repeat first | apply kN | apply kD | apply kA); exact BK408.out⟩, ⟨by with_reducible repeat first | exact HB.out | apply bA | apply bN | apply bD | refine bS ?_ GE383.out | refine bS ?_ GE392.out | refine bS ?_ GE400.out | refine bS ?_ GE408.out⟩⟩
           ·
            rw [if_neg c64] at H
            have c64b0 : (a0_0 == 0) = false := beq_eq_false_iff_ne.mpr c64
            have c64b1 : (a0_0 != 0) = true := bne_iff_ne.mpr c64
            (first | rw [c64b0] | (simp only [i64_w, i32_w]; rw [c64b0]) | rw [c64b1] | skip)
            have H' := Aside0.mk H
            clear H
            have hnb71 := NB383_392.out
            have hnc71 := NB392_383.out
            have hnb72 := NB383_400.out
            have hnc72 := NB400_383.out
            have hnb73 := NB383_408.out
            have hnc73 := NB408_383.out
            obtain ⟨hcz74_0, hcz74_1, hcz74_2, hcz74_3, hfz74_0, hfz74_1, hfz74_2, hfz74_3⟩ := bc4 BK383.out
            go_wp2_with (first | ((with_reducible refine gate_callee (f := 17) rfl ?_); refine goesL_ (some 68) rfl rfl Tryd.func17 (by kernel_rfl) rfl #[.agg #[.int .i64 a0_0, .int .i64 a0_1, .int .i64 a0_2, .int .i64 a0_3]] rfl (by (try simp only [List.map_toArray, List.map_cons, List.map_nil]); first | done | rfl | (simp only [List.length_drop, List.length_take]; rfl)) ?_; (with_reducible refine (session_Sane.calls a0_0 a0_1 a0_2 a0_3 true _ A62.out).mono ?_); rintro e w75 ⟨rfl, hb⟩; refine ⟨_, rfl, ?_⟩; replace HO_13 := Aside0.mk (Kd.N_below (by (with_reducible repeat (first | apply Kd.N_alloc | apply Kd.N_drewN | apply Kd.N_drew)); exact HO_13.out) hb); have hy := bQ BK383.out (by with_reducible repeat first | apply bA | apply bN | apply bD | exact Below.refl _ _) hb; replace BK383 := Aside0.mk (blk_below BK383.out hy); replace BK392 := Aside0.mk (blk_below BK392.out hy); replace BK400 := Aside0.mk (blk_below BK400.out hy); replace BK408 := Aside0.mk (blk_below BK408.out hy); replace HB := Aside0.mk (below_step HB.out hy); clear hy; (try clear hb); (try clear hb2); (try clear hk); (try clear hi); obtain ⟨hcz76_0, hcz76_1, hcz76_2, hcz76_3, hfz76_0, hfz76_1, hfz76_2, hfz76_3⟩ := bc4 BK383.out))
            go_meet
            case rel => exact ⟨_, ((a0_2 == 0)), (by first | rfl | (simp; done) | (simp [*]; done)), H', ⟨by have := HJ4.out; have := HJ16.out; first | omega | exact Nat.le_refl _⟩, ⟨by (with_reducible repeat (first | apply Kd.N_alloc | apply Kd.N_drewN | apply Kd.N_drew)); exact HO_13.out⟩, ⟨by (with_reducible repeat first | apply kN | apply kD | apply kA); exact BK383.out⟩, ⟨by (with_reducible repeat first | apply kN | apply kD | apply kA); exact BK392.out⟩, ⟨by (with_reducible repeat first | apply kN | apply kD | apply kA); exact BK400.out⟩, ⟨by (with_reducible repeat first | apply kN | apply kD | apply kA); exact BK408.out⟩, ⟨by with_reducible repeat first | exact HB.out | apply bA | apply bN | apply bD | refine bS ?_ GE383.out | refine bS ?_ GE392.out | refine bS ?_ GE400.out | refine bS ?_ GE408.out⟩⟩
          ·
           replace c63 := Bool.eq_false_iff.mpr c63
           subst c63
           have H1 : (ridgewaylaw17_SessionTicks.j2 kj16 a1 a2 t384 t405 true a0_0 a0_1 a0_2 a0_3 t401 t402 t403 t404) = some true := by rw [if_neg (show ¬ (false = true) by decide)] at H; first | done | exact H
           clear H
           have H := H1
           clear H1
           have H' := Aside0.mk H
           clear H
           have hnb77 := NB383_392.out
           have hnc77 := NB392_383.out
           have hnb78 := NB383_400.out
           have hnc78 := NB400_383.out
           have hnb79 := NB383_408.out
           have hnc79 := NB408_383.out
           obtain ⟨hcz80_0, hcz80_1, hcz80_2, hcz80_3, hfz80_0, hfz80_1, hfz80_2, hfz80_3⟩ := bc4 BK383.out
           go_wp2_with (first | ((with_reducible refine gate_callee (f := 17) rfl ?_); refine goesL_ (some 68) rfl rfl Tryd.func17 (by kernel_rfl) rfl #[.agg #[.int .i64 a0_0, .int .i64 a0_1, .int .i64 a0_2, .int .i64 a0_3]] rfl (by (try simp only [List.map_toArray, List.map_cons, List.map_nil]); first | done | rfl | (simp only [List.length_drop, List.length_take]; rfl)) ?_; (with_reducible refine (session_Sane.calls a0_0 a0_1 a0_2 a0_3 false _ A62.out).mono ?_); rintro e w81 ⟨rfl, hb⟩; refine ⟨_, rfl, ?_⟩; replace HO_13 := Aside0.mk (Kd.N_below (by (with_reducible repeat (first | apply Kd.N_alloc | apply Kd.N_drewN | apply Kd.N_drew)); exact HO_13.out) hb); have hy := bQ BK383.out (by with_reducible repeat first | apply bA | apply bN | apply bD | exact Below.refl _ _) hb; replace BK383 := Aside0.mk (blk_below BK383.out hy); replace BK392 := Aside0.mk (blk_below BK392.out hy); replace BK400 := Aside0.mk (blk_below BK400.out hy); replace BK408 := Aside0.mk (blk_below BK408.out hy); replace HB := Aside0.mk (below_step HB.out hy); clear hy; (try clear hb); (try clear hb2); (try clear hk); (try clear hi)))
           go_meet
           case rel => exact ⟨_, (true), (by first | rfl | (simp; done) | (simp [*]; done)), H', ⟨by have := HJ4.out; have := HJ16.out; first | omega | exact Nat.le_refl _⟩, ⟨by (with_reducible repeat (first | apply Kd.N_alloc | apply Kd.N_drewN | apply Kd.N_drew)); exact HO_13.out⟩, ⟨by (with_reducible repeat first | apply kN | apply kD | apply kA); exact BK383.out⟩, ⟨by (with_reducible repeat first | apply kN | apply kD | apply kA); exact BK392.out⟩, ⟨by (with_reducible repeat first | apply kN | apply kD | apply kA); exact BK400.out⟩, ⟨by (with_reducible repeat first | apply kN | apply kD | apply kA); exact BK408.out⟩, ⟨by with_reducible repeat first | exact HB.out | apply bA | apply bN | apply bD | refine bS ?_ GE383.out | refine bS ?_ GE392.out | refine bS ?_ GE400.out | refine bS ?_ GE408.out⟩⟩
         case rest => as_aux_lemma =>
          clear HC61
          try clear c1
          try clear c2
          try clear p2
          try clear c3
          try clear c4
          try clear c5
          try clear c6
          try clear p6
          try clear c7
          try clear c8
          try clear c8b0
          try clear c8b1
          try clear c9
          try clear c9b0
          try clear c10
          try clear c10b0
          try clear c11
          try clear c15
          try clear c16
          try clear c17
          try clear c18
          try clear c21
          try clear c25
          try clear c26
          try clear c31
          try clear c32
          try clear c33
          try clear c41
          try clear c41b0
          try clear c41b1
          try clear c42
          try clear c43
          try clear c44
          try clear c46
          try clear c47
          try clear c50
          try clear c51
          try clear c52
          try clear c54
          try clear c55
          try clear c60
          try clear c63
          try clear c64
          try clear c64b0
          try clear c64b1
          try clear p64
          try clear c65
          try clear c66
          try clear c67
          try clear c71
          try clear c72
          try clear c73
          try clear c77
          try clear c78
          try clear c79
          try clear hcz18_0 hcz18_1 hcz18_2 hcz18_3
          try clear hcz22_0 hcz22_1 hcz22_2 hcz22_3
          try clear hcz27_0 hcz27_1 hcz27_2 hcz27_3
          try clear hcz28_0 hcz28_1 hcz28_2 hcz28_3
          try clear hcz34_0 hcz34_1 hcz34_2 hcz34_3
          try clear hcz45_0 hcz45_1 hcz45_2 hcz45_3
          try clear hcz48_0 hcz48_1 hcz48_2 hcz48_3
          try clear hcz53_0 hcz53_1 hcz53_2 hcz53_3
          try clear hcz56_0 hcz56_1 hcz56_2 hcz56_3
          try clear hcz68_0 hcz68_1 hcz68_2 hcz68_3
          try clear hcz70_0 hcz70_1 hcz70_2 hcz70_3
          try clear hcz74_0 hcz74_1 hcz74_2 hcz74_3
          try clear hcz76_0 hcz76_1 hcz76_2 hcz76_3
          try clear hcz80_0 hcz80_1 hcz80_2 hcz80_3
          try clear hfz18_0 hfz18_1 hfz18_2 hfz18_3
          try clear hfz22_0 hfz22_1 hfz22_2 hfz22_3
          try clear hfz27_0 hfz27_1 hfz27_2 hfz27_3
          try clear hfz28_0 hfz28_1 hfz28_2 hfz28_3
          try clear hfz34_0 hfz34_1 hfz34_2 hfz34_3
          try clear hfz45_0 hfz45_1 hfz45_2 hfz45_3
          try clear hfz48_0 hfz48_1 hfz48_2 hfz48_3
          try clear hfz53_0 hfz53_1 hfz53_2 hfz53_3
          try clear hfz56_0 hfz56_1 hfz56_2 hfz56_3
          try clear hfz68_0 hfz68_1 hfz68_2 hfz68_3
          try clear hfz70_0 hfz70_1 hfz70_2 hfz70_3
          try clear hfz74_0 hfz74_1 hfz74_2 hfz74_3
          try clear hfz76_0 hfz76_1 hfz76_2 hfz76_3
          try clear hfz80_0 hfz80_1 hfz80_2 hfz80_3
          try clear p2
          try clear p6
          obtain ⟨kq, x79_60, rfl, HA, HJ60, HO_13, BK383, BK392, BK400, BK408, HB⟩ := hcut
          cases kq with
          | zero => exact absurd HA.out (by simp [ridgewaylaw17_SessionTicks.j2])
          | succ kj60 =>
           have H := HA.out
           clear HA
           simp only [ridgewaylaw17_SessionTicks.j2] at H
           by_cases c82 : x79_60 = true
           ·
            subst c82
            have H1 : (if t384 = true then (if (t405.length : Int) = 0 then ((session_Sane.f a0_0 a0_1 a0_2 a0_3).bind fun t420 => (if t420 = true then (if (t401 == a0_0 && (t402 == a0_1 && (t403 == a0_2 && (t404 == a0_3)))) = true then (some true) else ((session_Sane.f a0_0 a0_1 a0_2 a0_3).bind fun t421 => (if t421 = true then (some false) else (some (t401 == 0 && (t402 == 0 && (t403 == 0 && (t404 == 0)))))))) else ((session_Sane.f a0_0 a0_1 a0_2 a0_3).bind fun t422 => (if t422 = true then (some false) else (some (t401 == 0 && (t402 == 0 && (t403 == 0 && (t404 == 0))))))))) else (some false)) else (some false)) = some true := by rw [if_pos rfl] at H; first | done | exact H
            clear H
            have H := H1
            clear H1
            by_cases c83 : t384 = true
            ·
             subst c83
             have H1 : (if (t405.length : Int) = 0 then ((session_Sane.f a0_0 a0_1 a0_2 a0_3).bind fun t420 => (if t420 = true then (if (t401 == a0_0 && (t402 == a0_1 && (t403 == a0_2 && (t404 == a0_3)))) = true then (some true) else ((session_Sane.f a0_0 a0_1 a0_2 a0_3).bind fun t421 => (if t421 = true then (some false) else (some (t401 == 0 && (t402 == 0 && (t403 == 0 && (t404 == 0)))))))) else ((session_Sane.f a0_0 a0_1 a0_2 a0_3).bind fun t422 => (if t422 = true then (some false) else (some (t401 == 0 && (t402 == 0 && (t403 == 0 && (t404 == 0))))))))) else (some false)) = some true := by rw [if_pos rfl] at H; first | done | exact H
             clear H
             have H := H1
             clear H1
             by_cases c84 : (t405.length : Int) = 0
             ·
              rw [if_pos c84] at H
              have c84b0 : ((t405.length : Int) == 0) = true := beq_iff_eq.mpr c84
              have c84b1 : ((t405.length : Int) != 0) = false := bne_eq_false_iff_eq.mpr c84
              clear c84
              replace H := Option.bind_eq_some_iff.mp H
              obtain ⟨t420, A850, H⟩ := H
              replace H : (if t420 = true then (if (t401 == a0_0 && (t402 == a0_1 && (t403 == a0_2 && (t404 == a0_3)))) = true then (some true) else ((session_Sane.f a0_0 a0_1 a0_2 a0_3).bind fun t421 => (if t421 = true then (some false) else (some (t401 == 0 && (t402 == 0 && (t403 == 0 && (t404 == 0)))))))) else ((session_Sane.f a0_0 a0_1 a0_2 a0_3).bind fun t422 => (if t422 = true then (some false) else (some (t401 == 0 && (t402 == 0 && (t403 == 0 && (t404 == 0)))))))) = some true := H
              have A85 := Aside0.mk A850
              clear A850
              by_cases c86 : t420 = true
              ·
               subst c86
               have H1 : (if (t401 == a0_0 && (t402 == a0_1 && (t403 == a0_2 && (t404 == a0_3)))) = true then (some true) else ((session_Sane.f a0_0 a0_1 a0_2 a0_3).bind fun t421 => (if t421 = true then (some false) else (some (t401 == 0 && (t402 == 0 && (t403 == 0 && (t404 == 0)))))))) = some true := by rw [if_pos rfl] at H; first | done | exact H
               clear H
               have H := H1
               clear H1
               by_cases c87 : (t401 == a0_0 && (t402 == a0_1 && (t403 == a0_2 && (t404 == a0_3)))) = true
               ·
                rw [if_pos c87] at H
                have c87b0 : (t401 == a0_0 && (t402 == a0_1 && (t403 == a0_2 && (t404 == a0_3)))) = true := c87
                (try (have c87b1 : decide (t401 = a0_0 && (t402 == a0_1 && (t403 == a0_2 && (t404 == a0_3)))) = true := by simpa using c87))
                (try (have c87b2 : (t401 == a0_0 && (t402 == a0_1 && (t403 == a0_2 && (t404 == a0_3)))) = true := by simpa using c87))
                clear c87
                clear H
                obtain ⟨Ao88, co88, eo88⟩ := Kd.N_slice HO_13.out
                subst eo88
                have hnb89 := NB383_392.out
                have hnc89 := NB392_383.out
                have hnb90 := NB383_400.out
                have hnc90 := NB400_383.out
                have hnb91 := NB383_408.out
                have hnc91 := NB408_383.out
                obtain ⟨hcz92_0, hcz92_1, hcz92_2, hcz92_3, hfz92_0, hfz92_1, hfz92_2, hfz92_3⟩ := bc4 BK383.out
                go_wp2_with (first | (go_at_call 17; (with_reducible refine (session_Sane.calls a0_0 a0_1 a0_2 a0_3 true _ A85.out).mono ?_); rintro e w93 ⟨rfl, hb⟩; replace HO_13 := Aside0.mk (Kd.N_below (by (with_reducible repeat (first | apply Kd.N_alloc | apply Kd.N_drewN | apply Kd.N_drew)); exact HO_13.out) hb); have hy := bQ BK383.out (by with_reducible repeat first | apply bA | apply bN | apply bD | exact Below.refl _ _) hb; replace BK383 := Aside0.mk (blk_below BK383.out hy); replace BK392 := Aside0.mk (blk_below BK392.out hy); replace BK400 := Aside0.mk (blk_below BK400.out hy); replace BK408 := Aside0.mk (blk_below BK408.out hy); replace HB := Aside0.mk (below_step HB.out hy); clear hy; (try clear hb); (try clear hb2); (try clear hk); (try clear hi); have hnb94 := NB408_392.out; have hnc94 := NB392_408.out; have hnb95 := NB408_400.out; have hnc95 := NB400_408.out; obtain ⟨hcz96_0, hcz96_1, hcz96_2, hcz96_3, hfz96_0, hfz96_1, hfz96_2, hfz96_3⟩ := bc4 BK408.out; obtain ⟨hcz97_0, hcz97_1, hcz97_2, hcz97_3, hfz97_0, hfz97_1, hfz97_2, hfz97_3⟩ := bc4 BK383.out))
                all_goals first | (go_ret; refine ⟨?_, ?_⟩; (focus (first | rfl | (simp [errW_none, errW_some] <;> rfl) | (simp [*, errW_none, errW_some] <;> rfl))); (focus (repeat (first | (with_reducible first | exact HB.out | apply bA | apply bN | apply bD | refine bS ?_ GE383.out | refine bS ?_ GE392.out | refine bS ?_ GE400.out | refine bS ?_ GE408.out) | exact HB.out)))) | (exfalso; simp_all; done)
               ·
                rw [if_neg c87] at H
                have c87b0 : (t401 == a0_0 && (t402 == a0_1 && (t403 == a0_2 && (t404 == a0_3)))) = false := by simpa using c87
                (try (have c87b1 : decide (t401 = a0_0 && (t402 == a0_1 && (t403 == a0_2 && (t404 == a0_3)))) = false := by simpa using c87))
                (try (have c87b2 : (t401 == a0_0 && (t402 == a0_1 && (t403 == a0_2 && (t404 == a0_3)))) = false := by simpa using c87))
                (try (have c87b3 : ¬ (t401 = a0_0 && (t402 == a0_1 && (t403 == a0_2 && (t404 == a0_3)))) := by simpa using c87))
                clear c87
                replace H := Option.bind_eq_some_iff.mp H
                obtain ⟨t421, A980, H⟩ := H
                replace H : (if t421 = true then (some false) else (some (t401 == 0 && (t402 == 0 && (t403 == 0 && (t404 == 0)))))) = some true := H
                have A98 := Aside0.mk A980
                clear A980
                by_cases c99 : t421 = true
                ·
                 subst c99
                 have H1 : (some false) = some true := by rw [if_pos rfl] at H; first | done | exact H
                 clear H
                 have H := H1
                 clear H1
                 exact absurd H (by simp)
                ·
                 replace c99 := Bool.eq_false_iff.mpr c99
                 subst c99
                 have H1 : (some (t401 == 0 && (t402 == 0 && (t403 == 0 && (t404 == 0))))) = some true := by rw [if_neg (show ¬ (false = true) by decide)] at H; first | done | exact H
                 clear H
                 have H := H1
                 clear H1
                 have HRL_ := Aside0.mk (Option.some.inj H)
                 clear H
                 obtain ⟨Ao100, co100, eo100⟩ := Kd.N_slice HO_13.out
                 subst eo100
                 have hnb101 := NB383_392.out
                 have hnc101 := NB392_383.out
                 have hnb102 := NB383_400.out
                 have hnc102 := NB400_383.out
                 have hnb103 := NB383_408.out
                 have hnc103 := NB408_383.out
                 obtain ⟨hcz104_0, hcz104_1, hcz104_2, hcz104_3, hfz104_0, hfz104_1, hfz104_2, hfz104_3⟩ := bc4 BK383.out
                 exact absurd (Option.some.inj (A85.out.symm.trans A98.out)) (by decide)
              ·
               replace c86 := Bool.eq_false_iff.mpr c86
               subst c86
               have H1 : ((session_Sane.f a0_0 a0_1 a0_2 a0_3).bind fun t422 => (if t422 = true then (some false) else (some (t401 == 0 && (t402 == 0 && (t403 == 0 && (t404 == 0))))))) = some true := by rw [if_neg (show ¬ (false = true) by decide)] at H; first | done | exact H
               clear H
               have H := H1
               clear H1
               replace H := Option.bind_eq_some_iff.mp H
               obtain ⟨t422, A1120, H⟩ := H
               replace H : (if t422 = true then (some false) else (some (t401 == 0 && (t402 == 0 && (t403 == 0 && (t404 == 0)))))) = some true := H
               have A112 := Aside0.mk A1120
               clear A1120
               by_cases c113 : t422 = true
               ·
                subst c113
                have H1 : (some false) = some true := by rw [if_pos rfl] at H; first | done | exact H
                clear H
                have H := H1
                clear H1
                exact absurd H (by simp)
               ·
                replace c113 := Bool.eq_false_iff.mpr c113
                subst c113
                have H1 : (some (t401 == 0 && (t402 == 0 && (t403 == 0 && (t404 == 0))))) = some true := by rw [if_neg (show ¬ (false = true) by decide)] at H; first | done | exact H
                clear H
                have H := H1
                clear H1
                have HRL_ := Aside0.mk (Option.some.inj H)
                clear H
                obtain ⟨Ao114, co114, eo114⟩ := Kd.N_slice HO_13.out
                subst eo114
                have hnb115 := NB383_392.out
                have hnc115 := NB392_383.out
                have hnb116 := NB383_400.out
                have hnc116 := NB400_383.out
                have hnb117 := NB383_408.out
                have hnc117 := NB408_383.out
                obtain ⟨hcz118_0, hcz118_1, hcz118_2, hcz118_3, hfz118_0, hfz118_1, hfz118_2, hfz118_3⟩ := bc4 BK383.out
                go_wp2_with (first | (go_at_call 17; (with_reducible refine (session_Sane.calls a0_0 a0_1 a0_2 a0_3 false _ A85.out).mono ?_); rintro e w119 ⟨rfl, hb⟩; replace HO_13 := Aside0.mk (Kd.N_below (by (with_reducible repeat (first | apply Kd.N_alloc | apply Kd.N_drewN | apply Kd.N_drew)); exact HO_13.out) hb); have hy := bQ BK383.out (by with_reducible repeat first | apply bA | apply bN | apply bD | exact Below.refl _ _) hb; replace BK383 := Aside0.mk (blk_below BK383.out hy); replace BK392 := Aside0.mk (blk_below BK392.out hy); replace BK400 := Aside0.mk (blk_below BK400.out hy); replace BK408 := Aside0.mk (blk_below BK408.out hy); replace HB := Aside0.mk (below_step HB.out hy); clear hy; (try clear hb); (try clear hb2); (try clear hk); (try clear hi); obtain ⟨hcz120_0, hcz120_1, hcz120_2, hcz120_3, hfz120_0, hfz120_1, hfz120_2, hfz120_3⟩ := bc4 BK383.out; obtain ⟨hx408_0, hx408_1, hx408_2, hx408_3, hx408_4, hx408_5, hx408_6, hx408_7⟩ := bc4 BK408.out) | (go_at_call 17; (with_reducible refine (session_Sane.calls a0_0 a0_1 a0_2 a0_3 false _ A112.out).mono ?_); rintro e w121 ⟨rfl, hb⟩; replace HO_13 := Aside0.mk (Kd.N_below (by (with_reducible repeat (first | apply Kd.N_alloc | apply Kd.N_drewN | apply Kd.N_drew)); exact HO_13.out) hb); have hy := bQ BK383.out (by with_reducible repeat first | apply bA | apply bN | apply bD | exact Below.refl _ _) hb; replace BK383 := Aside0.mk (blk_below BK383.out hy); replace BK392 := Aside0.mk (blk_below BK392.out hy); replace BK400 := Aside0.mk (blk_below BK400.out hy); replace BK408 := Aside0.mk (blk_below BK408.out hy); replace HB := Aside0.mk (below_step HB.out hy); clear hy; (try clear hb); (try clear hb2); (try clear hk); (try clear hi); have hnb122 := NB408_392.out; have hnc122 := NB392_408.out; have hnb123 := NB408_400.out; have hnc123 := NB400_408.out; obtain ⟨hcz124_0, hcz124_1, hcz124_2, hcz124_3, hfz124_0, hfz124_1, hfz124_2, hfz124_3⟩ := bc4 BK408.out))
                all_goals first | (go_ret; refine ⟨?_, ?_⟩; (focus (first | rfl | (simp [errW_none, errW_some] <;> rfl) | (rw [HRL_.out] <;> rfl) | (simp only [HRL_.out] <;> rfl) | (have h_ := HRL_.out; simp at h_; simp [h_]; done) | (have h_ := HRL_.out; simp [*] at h_ ⊢; done) | (simp [*, errW_none, errW_some] <;> rfl))); (focus (repeat (first | (with_reducible first | exact HB.out | apply bA | apply bN | apply bD | refine bS ?_ GE383.out | refine bS ?_ GE392.out | refine bS ?_ GE400.out | refine bS ?_ GE408.out) | exact HB.out)))) | (exfalso; simp_all; done)
             ·
              rw [if_neg c84] at H
              have c84b0 : ((t405.length : Int) == 0) = false := beq_eq_false_iff_ne.mpr c84
              have c84b1 : ((t405.length : Int) != 0) = true := bne_iff_ne.mpr c84
              have c84b2 : ¬ (t405 = []) := fun h_ => c84 (by rw [h_]; rfl)
              exact absurd H (by simp)
            ·
             replace c83 := Bool.eq_false_iff.mpr c83
             subst c83
             have H1 : (some false) = some true := by rw [if_neg (show ¬ (false = true) by decide)] at H; first | done | exact H
             clear H
             have H := H1
             clear H1
             exact absurd H (by simp)
           ·
            replace c82 := Bool.eq_false_iff.mpr c82
            subst c82
            have H1 : (if (wrap64 (a1 + a2)) ≥ a0_2 then (if t384 = true then (if t401 = 0 then (if (t405.length : Int) > 0 then (if 0 ≤ (wrap64 ((t405.length : Int) - 1)) then (if (wrap64 ((t405.length : Int) - 1)) < (t405.length : Int) then (some (((rd_T45 t405 (wrap64 ((t405.length : Int) - 1))).f0) == 3)) else (none)) else (none)) else (some false)) else (some false)) else (some false)) else (if a0_3 > 0 then (if (wrap64 (a1 + a2)) ≥ a0_3 then (if (wrap64 (Int.tdiv a0_1 3)) = 0 then (none) else (if t384 = true then (if t401 = a0_0 then (if t403 = (wrap64 ((wrap64 (a0_2 - a1)) - a2)) then (some ((t405.length : Int) == (wrap64 (1 + (wrap64 (Int.tdiv (wrap64 ((wrap64 (a1 + a2)) - a0_3)) (wrap64 (Int.tdiv a0_1 3)))))))) else (some false)) else (some false)) else (some false))) else (if t384 = true then (if t401 = a0_0 then (if t403 = (wrap64 ((wrap64 (a0_2 - a1)) - a2)) then (some ((t405.length : Int) == 0)) else (some false)) else (some false)) else (some false))) else (if t384 = true then (if t401 = a0_0 then (if t403 = (wrap64 ((wrap64 (a0_2 - a1)) - a2)) then (some ((t405.length : Int) == 0)) else (some false)) else (some false)) else (some false)))) = some true := by rw [if_neg (show ¬ (false = true) by decide)] at H; first | done | exact H
            clear H
            have H := H1
            clear H1
            by_cases c125 : (wrap64 (a1 + a2)) ≥ a0_2
            ·
             rw [if_pos c125] at H
             have c125b0 : decide (a0_2 ≤ (wrap64 (a1 + a2))) = true := decide_eq_true c125
             clear c125
             by_cases c126 : t384 = true
             ·
              subst c126
              have H1 : (if t401 = 0 then (if (t405.length : Int) > 0 then (if 0 ≤ (wrap64 ((t405.length : Int) - 1)) then (if (wrap64 ((t405.length : Int) - 1)) < (t405.length : Int) then (some (((rd_T45 t405 (wrap64 ((t405.length : Int) - 1))).f0) == 3)) else (none)) else (none)) else (some false)) else (some false)) = some true := by rw [if_pos rfl] at H; first | done | exact H
              clear H
              have H := H1
              clear H1
              by_cases c127 : t401 = 0
              ·
               rw [if_pos c127] at H
               have c127b0 : (t401 == 0) = true := beq_iff_eq.mpr c127
               have c127b1 : (t401 != 0) = false := bne_eq_false_iff_eq.mpr c127
               clear c127
               by_cases c128 : (t405.length : Int) > 0
               ·
                rw [if_pos c128] at H
                have c128b0 : decide (0 < (t405.length : Int)) = true := decide_eq_true c128
                have c128b1 : decide (0 < t405.length) = true := decide_eq_true (by omega)
                clear c128
                obtain ⟨ji129, hji129⟩ : ∃ j_ : Int, (wrap64 ((t405.length : Int) - 1)) = j_ := ⟨_, rfl⟩
                replace H : (if 0 ≤ (ji129) then (if (ji129) < (t405.length : Int) then (some (((rd_T45 t405 (ji129)).f0) == 3)) else (none)) else (none)) = some true := by first | (rw [hji129] at H; exact H) | (simp only [hji129] at H ⊢; exact H)
                have hji129w : (IntKind.i64.wrap ((t405.length : Int) - 1)) = ji129 := (i64_w _).trans hji129
                by_cases c130 : 0 ≤ (ji129)
                ·
                 rw [if_pos c130] at H
                 have c130b0 : decide (0 ≤ (ji129)) = true := decide_eq_true c130
                 clear c130
                 by_cases c131 : (ji129) < (t405.length : Int)
                 ·
                  rw [if_pos c131] at H
                  have c131b0 : decide ((ji129) < (t405.length : Int)) = true := decide_eq_true c131
                  clear c131
                  have HRL_ := Aside0.mk (Option.some.inj H)
                  clear H
                  have hnb132 := NB383_392.out
                  have hnc132 := NB392_383.out
                  have hnb133 := NB383_400.out
                  have hnc133 := NB400_383.out
                  have hnb134 := NB383_408.out
                  have hnc134 := NB408_383.out
                  obtain ⟨hcz135_0, hcz135_1, hcz135_2, hcz135_3, hfz135_0, hfz135_1, hfz135_2, hfz135_3⟩ := bc4 BK383.out
                  have hnb136 := NB408_392.out
                  have hnc136 := NB392_408.out
                  have hnb137 := NB408_400.out
                  have hnc137 := NB400_408.out
                  obtain ⟨hcz138_0, hcz138_1, hcz138_2, hcz138_3, hfz138_0, hfz138_1, hfz138_2, hfz138_3⟩ := bc4 BK408.out
                  obtain ⟨Ao139, co139, eo139⟩ := Kd.N_slice HO_13.out
                  subst eo139
                  have p423 : 0 ≤ ((ji129) : Int) := of_decide_eq_true (by first | (with_reducible assumption) | assumption)
                  have q423 : (ji129) < (t405.length : Int) := of_decide_eq_true (by first | (with_reducible assumption) | assumption)
                  obtain ⟨ad423, A423_1, c423_1, e423, hx423_0, hx423_1, hl423_1, hi423_1⟩ := at_T45 (Kd.N_reads' HO_13.out).2.2 (ji129) p423 q423
                  cases e423
                  obtain ⟨ce423, hce423, hMe423, hcc423⟩ := Kd.N_get HO_13.out z45 (ji129) p423 (by first | exact q423 | exact of_decide_eq_true (by first | (with_reducible assumption) | assumption) | (have e_ := (Kd.N_reads' HO_13.out).1; omega))
                  obtain ⟨ua423_1, uc423_1, rfl, ul423_1, ge423_1⟩ := k45_openF hMe423
                  have hv423_1 := hcc423 1 _ rfl
                  rw [add_field _ _ 1 (by omega)] at hv423_1
                  replace hv423_1 := Option.some.inj (hv423_1.symm.trans hx423_1)
                  injection hv423_1 with hva_ hvn_ hvc_
                  rw [hva_] at ge423_1
                  rw [hvc_] at ul423_1
                  have HL423_1 := Aside0.mk (show Kd.V (Kd.int .u8) 5 _ w.heap.size _ _ ((rd_T45 t405 (ji129)).f1) from Kd.V_mk ul423_1 ge423_1)
                  clear hva_ hvn_ hvc_ ge423_1 ul423_1
                  clear hcc423 hce423
                  have HR423_1 := Aside0.mk hi423_1
                  have HC423_1 := Aside0.mk hl423_1
                  clear hi423_1 hl423_1
                  replace p423 := eq_true p423
                  replace q423 := eq_true q423
                  go_wp2
                  all_goals first | (go_ret; refine ⟨?_, ?_⟩; (focus (first | rfl | (simp [errW_none, errW_some] <;> rfl) | (rw [HRL_.out] <;> rfl) | (simp only [HRL_.out] <;> rfl) | (have h_ := HRL_.out; simp at h_; simp [h_]; done) | (have h_ := HRL_.out; simp [*] at h_ ⊢; done) | (simp only [← hji129]; first | rfl | (simp [errW_none, errW_some] <;> rfl)) | (simp [*, errW_none, errW_some] <;> rfl))); (focus (repeat (first | (with_reducible first | exact HB.out | apply bA | apply bN | apply bD | refine bS ?_ GE383.out | refine bS ?_ GE392.out | refine bS ?_ GE400.out | refine bS ?_ GE408.out) | exact HB.out)))) | (exfalso; simp_all; done)
                 ·
                  rw [if_neg c131] at H
                  exact absurd H (by simp)
                ·
                 rw [if_neg c130] at H
                 exact absurd H (by simp)
               ·
                rw [if_neg c128] at H
                have c128b0 : decide (0 < (t405.length : Int)) = false := decide_eq_false c128
                have c128b1 : decide (0 < t405.length) = false := decide_eq_false (by omega)
                clear c128
                exact absurd H (by simp)
              ·
               rw [if_neg c127] at H
               have c127b0 : (t401 == 0) = false := beq_eq_false_iff_ne.mpr c127
               have c127b1 : (t401 != 0) = true := bne_iff_ne.mpr c127
               exact absurd H (by simp)
             ·
              replace c126 := Bool.eq_false_iff.mpr c126
              subst c126
              have H1 : (some false) = some true := by rw [if_neg (show ¬ (false = true) by decide)] at H; first | done | exact H
              clear H
              have H := H1
              clear H1
              exact absurd H (by simp)
            ·
             rw [if_neg c125] at H
             have c125b0 : decide (a0_2 ≤ (wrap64 (a1 + a2))) = false := decide_eq_false c125
             clear c125
             by_cases c140 : a0_3 > 0
             ·
              rw [if_pos c140] at H
              have c140b0 : decide (0 < a0_3) = true := decide_eq_true c140
              clear c140
              by_cases c141 : (wrap64 (a1 + a2)) ≥ a0_3
              ·
               rw [if_pos c141] at H
               have c141b0 : decide (a0_3 ≤ (wrap64 (a1 + a2))) = true := decide_eq_true c141
               clear c141
               by_cases c142 : (wrap64 (Int.tdiv a0_1 3)) = 0
               ·
                rw [if_pos c142] at H
                exact absurd H (by simp)
               ·
                rw [if_neg c142] at H
                have c142b0 : ((wrap64 (Int.tdiv a0_1 3)) == 0) = false := beq_eq_false_iff_ne.mpr c142
                have c142b1 : ((wrap64 (Int.tdiv a0_1 3)) != 0) = true := bne_iff_ne.mpr c142
                by_cases c143 : t384 = true
                ·
                 subst c143
                 have H1 : (if t401 = a0_0 then (if t403 = (wrap64 ((wrap64 (a0_2 - a1)) - a2)) then (some ((t405.length : Int) == (wrap64 (1 + (wrap64 (Int.tdiv (wrap64 ((wrap64 (a1 + a2)) - a0_3)) (wrap64 (Int.tdiv a0_1 3)))))))) else (some false)) else (some false)) = some true := by rw [if_pos rfl] at H; first | done | exact H
                 clear H
                 have H := H1
                 clear H1
                 by_cases c144 : t401 = a0_0
                 ·
                  rw [if_pos c144] at H
                  have c144b0 : (t401 == a0_0) = true := beq_iff_eq.mpr c144
                  have c144b1 : (t401 != a0_0) = false := bne_eq_false_iff_eq.mpr c144
                  clear c144
                  by_cases c145 : t403 = (wrap64 ((wrap64 (a0_2 - a1)) - a2))
                  ·
                   rw [if_pos c145] at H
                   have c145b0 : (t403 == (wrap64 ((wrap64 (a0_2 - a1)) - a2))) = true := beq_iff_eq.mpr c145
                   have c145b1 : (t403 != (wrap64 ((wrap64 (a0_2 - a1)) - a2))) = false := bne_eq_false_iff_eq.mpr c145
                   clear c145
                   have HRL_ := Aside0.mk (Option.some.inj H)
                   clear H
                   have hnb146 := NB383_392.out
                   have hnc146 := NB392_383.out
                   have hnb147 := NB383_400.out
                   have hnc147 := NB400_383.out
                   have hnb148 := NB383_408.out
                   have hnc148 := NB408_383.out
                   obtain ⟨hcz149_0, hcz149_1, hcz149_2, hcz149_3, hfz149_0, hfz149_1, hfz149_2, hfz149_3⟩ := bc4 BK383.out
                   have hnb150 := NB408_392.out
                   have hnc150 := NB392_408.out
                   have hnb151 := NB408_400.out
                   have hnc151 := NB400_408.out
                   obtain ⟨hcz152_0, hcz152_1, hcz152_2, hcz152_3, hfz152_0, hfz152_1, hfz152_2, hfz152_3⟩ := bc4 BK408.out
                   obtain ⟨Ao153, co153, eo153⟩ := Kd.N_slice HO_13.out
                   subst eo153
                   go_wp2
                   all_goals first | (go_ret; refine ⟨?_, ?_⟩; (focus (first | rfl | (simp [errW_none, errW_some] <;> rfl) | (rw [HRL_.out] <;> rfl) | (simp only [HRL_.out] <;> rfl) | (have h_ := HRL_.out; simp at h_; simp [h_]; done) | (have h_ := HRL_.out; simp [*] at h_ ⊢; done) | (simp [*, errW_none, errW_some] <;> rfl))); (focus (repeat (first | (with_reducible first | exact HB.out | apply bA | apply bN | apply bD | refine bS ?_ GE383.out | refine bS ?_ GE392.out | refine bS ?_ GE400.out | refine bS ?_ GE408.out) | exact HB.out)))) | (exfalso; simp_all; done)
                  ·
                   rw [if_neg c145] at H
                   have c145b0 : (t403 == (wrap64 ((wrap64 (a0_2 - a1)) - a2))) = false := beq_eq_false_iff_ne.mpr c145
                   have c145b1 : (t403 != (wrap64 ((wrap64 (a0_2 - a1)) - a2))) = true := bne_iff_ne.mpr c145
                   exact absurd H (by simp)
                 ·
                  rw [if_neg c144] at H
                  have c144b0 : (t401 == a0_0) = false := beq_eq_false_iff_ne.mpr c144
                  have c144b1 : (t401 != a0_0) = true := bne_iff_ne.mpr c144
                  exact absurd H (by simp)
                ·
                 replace c143 := Bool.eq_false_iff.mpr c143
                 subst c143
                 have H1 : (some false) = some true := by rw [if_neg (show ¬ (false = true) by decide)] at H; first | done | exact H
                 clear H
                 have H := H1
                 clear H1
                 exact absurd H (by simp)
              ·
               rw [if_neg c141] at H
               have c141b0 : decide (a0_3 ≤ (wrap64 (a1 + a2))) = false := decide_eq_false c141
               clear c141
               by_cases c154 : t384 = true
               ·
                subst c154
                have H1 : (if t401 = a0_0 then (if t403 = (wrap64 ((wrap64 (a0_2 - a1)) - a2)) then (some ((t405.length : Int) == 0)) else (some false)) else (some false)) = some true := by rw [if_pos rfl] at H; first | done | exact H
                clear H
                have H := H1
                clear H1
                by_cases c155 : t401 = a0_0
                ·
                 rw [if_pos c155] at H
                 have c155b0 : (t401 == a0_0) = true := beq_iff_eq.mpr c155
                 have c155b1 : (t401 != a0_0) = false := bne_eq_false_iff_eq.mpr c155
                 clear c155
                 by_cases c156 : t403 = (wrap64 ((wrap64 (a0_2 - a1)) - a2))
                 ·
                  rw [if_pos c156] at H
                  have c156b0 : (t403 == (wrap64 ((wrap64 (a0_2 - a1)) - a2))) = true := beq_iff_eq.mpr c156
                  have c156b1 : (t403 != (wrap64 ((wrap64 (a0_2 - a1)) - a2))) = false := bne_eq_false_iff_eq.mpr c156
                  clear c156
                  have HRL_ := Aside0.mk (Option.some.inj H)
                  clear H
                  have hnb157 := NB383_392.out
                  have hnc157 := NB392_383.out
                  have hnb158 := NB383_400.out
                  have hnc158 := NB400_383.out
                  have hnb159 := NB383_408.out
                  have hnc159 := NB408_383.out
                  obtain ⟨hcz160_0, hcz160_1, hcz160_2, hcz160_3, hfz160_0, hfz160_1, hfz160_2, hfz160_3⟩ := bc4 BK383.out
                  have hnb161 := NB408_392.out
                  have hnc161 := NB392_408.out
                  have hnb162 := NB408_400.out
                  have hnc162 := NB400_408.out
                  obtain ⟨hcz163_0, hcz163_1, hcz163_2, hcz163_3, hfz163_0, hfz163_1, hfz163_2, hfz163_3⟩ := bc4 BK408.out
                  obtain ⟨Ao164, co164, eo164⟩ := Kd.N_slice HO_13.out
                  subst eo164
                  go_wp2
                  all_goals first | (go_ret; refine ⟨?_, ?_⟩; (focus (first | rfl | (simp [errW_none, errW_some] <;> rfl) | (rw [HRL_.out] <;> rfl) | (simp only [HRL_.out] <;> rfl) | (have h_ := HRL_.out; simp at h_; simp [h_]; done) | (have h_ := HRL_.out; simp [*] at h_ ⊢; done) | (simp [*, errW_none, errW_some] <;> rfl))); (focus (repeat (first | (with_reducible first | exact HB.out | apply bA | apply bN | apply bD | refine bS ?_ GE383.out | refine bS ?_ GE392.out | refine bS ?_ GE400.out | refine bS ?_ GE408.out) | exact HB.out)))) | (exfalso; simp_all; done)
                 ·
                  rw [if_neg c156] at H
                  have c156b0 : (t403 == (wrap64 ((wrap64 (a0_2 - a1)) - a2))) = false := beq_eq_false_iff_ne.mpr c156
                  have c156b1 : (t403 != (wrap64 ((wrap64 (a0_2 - a1)) - a2))) = true := bne_iff_ne.mpr c156
                  exact absurd H (by simp)
                ·
                 rw [if_neg c155] at H
                 have c155b0 : (t401 == a0_0) = false := beq_eq_false_iff_ne.mpr c155
                 have c155b1 : (t401 != a0_0) = true := bne_iff_ne.mpr c155
                 exact absurd H (by simp)
               ·
                replace c154 := Bool.eq_false_iff.mpr c154
                subst c154
                have H1 : (some false) = some true := by rw [if_neg (show ¬ (false = true) by decide)] at H; first | done | exact H
                clear H
                have H := H1
                clear H1
                exact absurd H (by simp)
             ·
              rw [if_neg c140] at H
              have c140b0 : decide (0 < a0_3) = false := decide_eq_false c140
              clear c140
              by_cases c165 : t384 = true
              ·
               subst c165
               have H1 : (if t401 = a0_0 then (if t403 = (wrap64 ((wrap64 (a0_2 - a1)) - a2)) then (some ((t405.length : Int) == 0)) else (some false)) else (some false)) = some true := by rw [if_pos rfl] at H; first | done | exact H
               clear H
               have H := H1
               clear H1
               by_cases c166 : t401 = a0_0
               ·
                rw [if_pos c166] at H
                have c166b0 : (t401 == a0_0) = true := beq_iff_eq.mpr c166
                have c166b1 : (t401 != a0_0) = false := bne_eq_false_iff_eq.mpr c166
                clear c166
                by_cases c167 : t403 = (wrap64 ((wrap64 (a0_2 - a1)) - a2))
                ·
                 rw [if_pos c167] at H
                 have c167b0 : (t403 == (wrap64 ((wrap64 (a0_2 - a1)) - a2))) = true := beq_iff_eq.mpr c167
                 have c167b1 : (t403 != (wrap64 ((wrap64 (a0_2 - a1)) - a2))) = false := bne_eq_false_iff_eq.mpr c167
                 clear c167
                 have HRL_ := Aside0.mk (Option.some.inj H)
                 clear H
                 have hnb168 := NB383_392.out
                 have hnc168 := NB392_383.out
                 have hnb169 := NB383_400.out
                 have hnc169 := NB400_383.out
                 have hnb170 := NB383_408.out
                 have hnc170 := NB408_383.out
                 obtain ⟨hcz171_0, hcz171_1, hcz171_2, hcz171_3, hfz171_0, hfz171_1, hfz171_2, hfz171_3⟩ := bc4 BK383.out
                 have hnb172 := NB408_392.out
                 have hnc172 := NB392_408.out
                 have hnb173 := NB408_400.out
                 have hnc173 := NB400_408.out
                 obtain ⟨hcz174_0, hcz174_1, hcz174_2, hcz174_3, hfz174_0, hfz174_1, hfz174_2, hfz174_3⟩ := bc4 BK408.out
                 obtain ⟨Ao175, co175, eo175⟩ := Kd.N_slice HO_13.out
                 subst eo175
                 go_wp2
                 all_goals first | (go_ret; refine ⟨?_, ?_⟩; (focus (first | rfl | (simp [errW_none, errW_some] <;> rfl) | (rw [HRL_.out] <;> rfl) | (simp only [HRL_.out] <;> rfl) | (have h_ := HRL_.out; simp at h_; simp [h_]; done) | (have h_ := HRL_.out; simp [*] at h_ ⊢; done) | (simp [*, errW_none, errW_some] <;> rfl))); (focus (repeat (first | (with_reducible first | exact HB.out | apply bA | apply bN | apply bD | refine bS ?_ GE383.out | refine bS ?_ GE392.out | refine bS ?_ GE400.out | refine bS ?_ GE408.out) | exact HB.out)))) | (exfalso; simp_all; done)
                ·
                 rw [if_neg c167] at H
                 have c167b0 : (t403 == (wrap64 ((wrap64 (a0_2 - a1)) - a2))) = false := beq_eq_false_iff_ne.mpr c167
                 have c167b1 : (t403 != (wrap64 ((wrap64 (a0_2 - a1)) - a2))) = true := bne_iff_ne.mpr c167
                 exact absurd H (by simp)
               ·
                rw [if_neg c166] at H
                have c166b0 : (t401 == a0_0) = false := beq_eq_false_iff_ne.mpr c166
                have c166b1 : (t401 != a0_0) = true := bne_iff_ne.mpr c166
                exact absurd H (by simp)
              ·
               replace c165 := Bool.eq_false_iff.mpr c165
               subst c165
               have H1 : (some false) = some true := by rw [if_neg (show ¬ (false = true) by decide)] at H; first | done | exact H
               clear H
               have H := H1
               clear H1
               exact absurd H (by simp)
     ·
      rw [if_neg c16] at H
      exact absurd H (by simp)
    ·
     rw [if_neg c15] at H
     exact absurd H (by simp)

/-- THE ONE PURE STATEMENT of ridgewaylaw17_SessionTicks. -/
def ridgewaylaw17_SessionTicks.Pure : Prop := ∀ (x0 : S34) (a1 : Int) (a2 : Int), (wf34 x0) → ((Lit.int .i64 a1).wf = true) → ((Lit.int .i64 a2).wf = true) → ∃ k, ridgewaylaw17_SessionTicks.f k (x0.f0) (x0.f1) (x0.f2) (x0.f3) a1 a2 = some true

end Go.Proofs.YtfbndolhocojiaaDoor.S
