/- Each call of a Go function comes to what the Lean function of its name answers (written out by wip/tools/xprint.py, checked by Lean); conditions: those in each statement. -/
import Derived.Test.YtfbndolhocojiaaDoorLx0
import Derived.Test.YtfbndolhocojiaaDoorLx3
import Derived.Test.YtfbndolhocojiaaDoorLx9
namespace Go.Proofs.YtfbndolhocojiaaDoor.L
open Go.RowKit Go.Proofs.YtfbndolhocojiaaDoorW.PrintWords Go.Proofs.YtfbndolhocojiaaDoorW.PrintLast Go.Proofs.YtfbndolhocojiaaDoorW.PrintMore Go.Proofs.YtfbndolhocojiaaDoorW.PrintX
attribute [local go_sem] max2_int min2_int max_two min_two max_three min_three max_four min_four   -- for this text's walks alone
set_option linter.unusedVariables false
set_option linter.unusedSimpArgs false

/-! ### session_Tick: function 18 -/
def session_Tick.l0 : Nat → List (S45) → Int → Int → Int → Int → Int → Int → Option (Int × Int × Int × Int × (List (S45)))
 | 0, _, _, _, _, _, _, _ => none
 | k + 1, x6, x13, x14, x359000, x359001, x359002, x359003 => if x14 < x13 then (if x359002 = 0 then (some (x359000, x359001, x359002, x359003, x6)) else (if x359002 = 1 then ((session_Stop.f x359000 x359001 x359002 x359003 4 0 ([] : List Int)).bind fun bt364 => (if x6.length + bt364.2.2.2.2.length < 4398046511104 then (some (bt364.1, bt364.2.1, bt364.2.2.1, bt364.2.2.2.1, (x6 ++ bt364.2.2.2.2))) else (none))) else (if x359003 = 1 then (if x6.length < 4398046511104 then ((some (x6 ++ [(⟨4, ([] : List Int)⟩ : S45)] : List (S45))).bind fun y375 => (if (wrap64 (x359003 + (wrap64 (Int.tdiv x359001 3)))) > 0 then (session_Tick.l0 k y375 x13 (wrap64 (x14 + 1)) x359000 x359001 (wrap64 (x359002 - 1)) (wrap64 ((wrap64 (x359003 + (wrap64 (Int.tdiv x359001 3)))) - 1))) else (session_Tick.l0 k y375 x13 (wrap64 (x14 + 1)) x359000 x359001 (wrap64 (x359002 - 1)) (wrap64 (x359003 + (wrap64 (Int.tdiv x359001 3))))))) else (none)) else (if x359003 > 0 then (session_Tick.l0 k x6 x13 (wrap64 (x14 + 1)) x359000 x359001 (wrap64 (x359002 - 1)) (wrap64 (x359003 - 1))) else (session_Tick.l0 k x6 x13 (wrap64 (x14 + 1)) x359000 x359001 (wrap64 (x359002 - 1)) x359003))))) else (some (x359000, x359001, x359002, x359003, x6))
def session_Tick.f (k : Nat) (a0_0 : Int) (a0_1 : Int) (a0_2 : Int) (a0_3 : Int) (a1 : Int) : Option (Int × Int × Int × Int × (List (S45))) := (session_known.f a0_0 a0_1 a0_2 a0_3).bind fun bt360 => (session_Tick.l0 k ([] : List (S45)) (mx 0 (mn a1 1000)) 0 bt360.1 bt360.2.1 bt360.2.2.1 bt360.2.2.2)
theorem session_Tick.mono_l : ∀ k, (∀ y0 y1 y2 y3 y4 y5 y6, LeO (session_Tick.l0 k y0 y1 y2 y3 y4 y5 y6) (session_Tick.l0 (k + 1) y0 y1 y2 y3 y4 y5 y6))
 | 0 => fun _ _ _ _ _ _ _ r h => by simp [session_Tick.l0] at h
 | k + 1 => by
  have ih0 := session_Tick.mono_l k
  ·
   intro y0 y1 y2 y3 y4 y5 y6
   unfold session_Tick.l0
   repeat' first
   | (with_reducible exact ih0 _ _ _ _ _ _ _)
   | (with_reducible exact LeO.refl _)
   | (with_reducible exact LeO.none _)
   | (with_reducible refine LeO.ite ?_ ?_)
   | (with_reducible refine LeO.bind ?_ (fun _ => ?_))
   | exact ih0 _ _ _ _ _ _ _
   | exact LeO.none _
   | refine LeO.ite ?_ ?_
   | refine LeO.bind ?_ (fun _ => ?_)
theorem session_Tick.mono : ∀ a0 a1 a2 a3 a4 k, LeO (session_Tick.f k a0 a1 a2 a3 a4) (session_Tick.f (k + 1) a0 a1 a2 a3 a4) := by
 intro a0 a1 a2 a3 a4 k
 have ih0 := session_Tick.mono_l k
 unfold session_Tick.f
 repeat' first
   | (with_reducible exact ih0 _ _ _ _ _ _ _)
   | (with_reducible exact LeO.refl _)
   | (with_reducible exact LeO.none _)
   | (with_reducible refine LeO.ite ?_ ?_)
   | (with_reducible refine LeO.bind ?_ (fun _ => ?_))
   | exact ih0 _ _ _ _ _ _ _
   | exact LeO.none _
   | refine LeO.ite ?_ ?_
   | refine LeO.bind ?_ (fun _ => ?_)
set_option maxHeartbeats 8000000 in
set_option maxRecDepth 100000 in
theorem session_Tick.calls (k : Nat) (a0_0 : Int) (a0_1 : Int) (a0_2 : Int) (a0_3 : Int) (a1 : Int) (r1 : Int) (r2 : Int) (r3 : Int) (r4 : Int) (r5 : List (S45)) (w : World) (h : session_Tick.f k a0_0 a0_1 a0_2 a0_3 a1 = some (r1, r2, r3, r4, r5)) :
  Calls Tryd.prog 18 #[.agg #[.int .i64 a0_0, .int .i64 a0_1, .int .i64 a0_2, .int .i64 a0_3], .int .i64 a1] w fun e w' => ∃ v4_ : Value, e = .returned (.tuple #[.agg #[.int .i64 r1, .int .i64 r2, .int .i64 r3, .int .i64 r4], v4_]) ∧ Kd.N k45 45 w' w.heap.size (fun k_ => (w.heap.size ≤ k_)) v4_ r5 ∧ Below w.heap.size w w' := by
 have hu34 := Tryd.underlying34
 have hu41 := Tryd.underlying41
 have hu45 := Tryd.underlying45
 have HB := Aside0.mk (Below.refl w.heap.size w)
 have H : ((session_known.f a0_0 a0_1 a0_2 a0_3).bind fun bt360 => (session_Tick.l0 k ([] : List (S45)) (mx 0 (mn a1 1000)) 0 bt360.1 bt360.2.1 bt360.2.2.1 bt360.2.2.2)) = some (r1, r2, r3, r4, r5) := h
 clear h
 replace H := Option.bind_eq_some_iff.mp H
 obtain ⟨⟨t360, t361, t362, t363⟩, A30, H⟩ := H
 replace H : (session_Tick.l0 k ([] : List (S45)) (mx 0 (mn a1 1000)) 0 t360 t361 t362 t363) = some (r1, r2, r3, r4, r5) := H
 have A3 := Aside0.mk A30
 clear A30
 obtain ⟨ji4, hji4⟩ : ∃ j_ : Int, (mn a1 1000) = j_ := ⟨_, rfl⟩
 replace H : (session_Tick.l0 k ([] : List (S45)) (mx 0 (ji4)) 0 t360 t361 t362 t363) = some (r1, r2, r3, r4, r5) := by first | (rw [hji4] at H; exact H) | (simp only [hji4] at H ⊢; exact H)
 (try rw [hji4] at A3)
 (try (have hji4h : ji4 ≤ 1000 := by (rw [← hji4]; unfold mn; (repeat' split) <;> omega)))
 (try (have hji4g : ji4 ≤ 64 := by omega))
 have hji4_ : (if 1000 < a1 then 1000 else a1) = ji4 := hji4
 obtain ⟨ji5, hji5⟩ : ∃ j_ : Int, (mx 0 (ji4)) = j_ := ⟨_, rfl⟩
 replace H : (session_Tick.l0 k ([] : List (S45)) ji5 0 t360 t361 t362 t363) = some (r1, r2, r3, r4, r5) := by first | (rw [hji5] at H; exact H) | (simp only [hji5] at H ⊢; exact H)
 (try rw [hji5] at A3)
 have hji5_ : (if 0 < (ji4) then (ji4) else 0) = ji5 := hji5
 have H' := Aside0.mk H
 clear H
 go_enter Tryd.func18, Tryd.ntmps18
 go_wp2_with (first | ((with_reducible refine gate_dst (N := 2) rfl ?_); refine box_event ?hg (N := 2) ?hd (cs := #[.int .i64 a0_0, .int .i64 a0_1, .int .i64 a0_2, .int .i64 a0_3]) (t := 34) ?hr ?_; (case hd | hg => rfl); (case hr => first | (go_simp; done) | (go_simp; rfl)); intro gb358 hg w6 hbox hb; have n0_ := Aside0.mk (below_step (by with_reducible repeat first | exact HB.out | apply bA | apply bN | apply bD) hb); have BK358 := Aside0.mk (hbox); have n2_ := Aside0.mk ((by rw [hg]; exact (below_size (by with_reducible repeat first | exact HB.out | apply bA | apply bN | apply bD)) : w.heap.size ≤ gb358)); have GE358 := n2_; clear HB; have HB := n0_; have GW358 := n2_; clear n0_ n2_; clear hb hbox hg) | ((with_reducible refine gate_dst (N := 4) rfl ?_); refine box_event ?hg (N := 4) ?hd (cs := #[.int .i64 0, .int .i64 0, .int .i64 0, .int .i64 0]) (t := 34) ?hr ?_; (case hd | hg => rfl); (case hr => first | (go_simp; done) | (go_simp; rfl)); intro gb359 hg w7 hbox hb; have n0_ := Aside0.mk (blk_below (g := gb358) (by (with_reducible repeat first | apply kN | apply kD | apply kA); exact BK358.out) hb); have n1_ := Aside0.mk (below_step (by with_reducible repeat first | exact HB.out | apply bA | apply bN | apply bD | refine bS ?_ GE358.out) hb); have BK359 := Aside0.mk (hbox); have n3_ := Aside0.mk ((by rw [hg]; exact (below_size (by with_reducible repeat first | exact HB.out | apply bA | apply bN | apply bD | refine bS ?_ GE358.out)) : w.heap.size ≤ gb359)); have GE359 := n3_; have NB358_359 := Aside0.mk ((by rw [hg]; exact Nat.ne_of_lt (blk_lt (g := gb358) (by (with_reducible repeat first | apply kN | apply kD | apply kA); exact BK358.out)) : gb358 ≠ gb359)); have NB359_358 := Aside0.mk ((by rw [hg]; exact Nat.ne_of_gt (blk_lt (g := gb358) (by (with_reducible repeat first | apply kN | apply kD | apply kA); exact BK358.out)) : gb359 ≠ gb358)); clear BK358; clear HB; have BK358 := n0_; have HB := n1_; have GW359 := n3_; clear n0_ n1_ n3_; clear hb hbox hg; have hnb8 := NB358_359.out; have hnc8 := NB359_358.out; obtain ⟨hcz9_0, hcz9_1, hcz9_2, hcz9_3, hfz9_0, hfz9_1, hfz9_2, hfz9_3⟩ := bc4 BK358.out) | ((with_reducible refine gate_callee (f := 25) rfl ?_); refine goesL_ (some 10) rfl rfl Tryd.func25 (by kernel_rfl) rfl #[.agg #[.int .i64 a0_0, .int .i64 a0_1, .int .i64 a0_2, .int .i64 a0_3]] rfl (by (try simp only [List.map_toArray, List.map_cons, List.map_nil]); first | done | rfl | (simp only [List.length_drop, List.length_take]; rfl)) ?_; (with_reducible refine (session_known.calls a0_0 a0_1 a0_2 a0_3 t360 t361 t362 t363 _ A3.out).mono ?_); rintro e w10 ⟨rfl, hb⟩; refine ⟨_, rfl, ?_⟩; have n0_ := Aside0.mk (blk_below (g := gb358) (by (with_reducible repeat first | apply kN | apply kD | apply kA); exact BK358.out) hb); have n1_ := Aside0.mk (blk_below (g := gb359) (by (with_reducible repeat first | apply kN | apply kD | apply kA); exact BK359.out) hb); have n2_ := Aside0.mk (below_step (by with_reducible repeat first | exact HB.out | apply bA | apply bN | apply bD | refine bS ?_ GE358.out | refine bS ?_ GE359.out) hb); clear BK358; clear BK359; clear HB; have BK358 := n0_; have BK359 := n1_; have HB := n2_; clear n0_ n1_ n2_; (try clear hb); (try clear hb2); (try clear hk); (try clear hi); obtain ⟨hcz11_0, hcz11_1, hcz11_2, hcz11_3, hfz11_0, hfz11_1, hfz11_2, hfz11_3⟩ := bc4 BK358.out))
 go_loopg [6, 14] k (fun kq v6 v14 w' => ∃ (x6_1 : List (S45)) (x14_1 : Int) (x359002_1 : Int) (x359003_1 : Int) (x360000_1 : Int) (x360001_1 : Int) (x360002_1 : Int) (x360003_1 : Int), v14 = .int .i64 x14_1 ∧ Aside0 (session_Tick.l0 kq x6_1 ji5 x14_1 t360 t361 x359002_1 x359003_1 = some (r1, r2, r3, r4, r5)) ∧ Aside0 (kq ≤ k) ∧ Aside0 (Kd.N k45 45 w' w.heap.size (fun k_ => (w.heap.size ≤ k_) ∧ k_ ≠ gb358 ∧ k_ ≠ gb359) v6 x6_1) ∧ Aside0 (w'.heap[gb358]? = some (.cells #[.int .i64 t360, .int .i64 t361, .int .i64 x359002_1, .int .i64 x359003_1] 34 (0, 0))) ∧ Aside0 (w'.heap[gb359]? = some (.cells #[.int .i64 x360000_1, .int .i64 x360001_1, .int .i64 x360002_1, .int .i64 x360003_1] 34 (0, 0))) ∧ Aside0 (Below w.heap.size w w'))
 case atStart => exact ⟨(([] : List (S45))), (0), (t362), (t363), (0), (0), (0), (0), (by first | rfl | (simp; done) | (simp [*]; done)), H', ⟨Nat.le_refl _⟩, ⟨by first | exact Kd.S_nil _ _ _ _ _ | exact Kd.N_nil _ _ _ _ _ | exact Kd.V_nil _ _ _ _ _ | exact Kd.Q_nil _ _ _ _ _ | exact Kd.R_nil _ _ _ _ _⟩, ⟨by (with_reducible repeat first | apply kN | apply kD | apply kA); refine blk_put (cs := #[.int .i64 t360, .int .i64 t361, .int .i64 t362, .int .i64 a0_3]) ?_ 3 _ rfl; (with_reducible repeat first | apply kN | apply kD | apply kA); refine blk_put (cs := #[.int .i64 t360, .int .i64 t361, .int .i64 a0_2, .int .i64 a0_3]) ?_ 2 _ rfl; (with_reducible repeat first | apply kN | apply kD | apply kA); refine blk_put (cs := #[.int .i64 t360, .int .i64 a0_1, .int .i64 a0_2, .int .i64 a0_3]) ?_ 1 _ rfl; (with_reducible repeat first | apply kN | apply kD | apply kA); refine blk_put (cs := #[.int .i64 a0_0, .int .i64 a0_1, .int .i64 a0_2, .int .i64 a0_3]) ?_ 0 _ rfl; (with_reducible repeat first | apply kN | apply kD | apply kA); exact BK358.out⟩, ⟨by (with_reducible repeat first | apply kN | apply kD | apply kA); refine blk_far ?_ NB359_358.out _; (with_reducible repeat first | apply kN | apply kD | apply kA); refine blk_far ?_ NB359_358.out _; (with_reducible repeat first | apply kN | apply kD | apply kA); refine blk_far ?_ NB359_358.out _; (with_reducible repeat first | apply kN | apply kD | apply kA); refine blk_far ?_ NB359_358.out _; (with_reducible repeat first | apply kN | apply kD | apply kA); exact BK359.out⟩, ⟨by with_reducible repeat first | exact HB.out | apply bA | apply bN | apply bD | refine bS ?_ GE358.out | refine bS ?_ GE359.out⟩⟩
 case round =>
  clear H'
  try clear c1
  try clear c2
  try clear p2
  try clear c8
  try clear hcz11_0
  try clear hcz11_1
  try clear hcz11_2
  try clear hcz11_3
  try clear hcz9_0
  try clear hcz9_1
  try clear hcz9_2
  try clear hcz9_3
  try clear hfz11_0
  try clear hfz11_1
  try clear hfz11_2
  try clear hfz11_3
  try clear hfz9_0
  try clear hfz9_1
  try clear hfz9_2
  try clear hfz9_3
  obtain ⟨x6_1, x14_1, x359002_1, x359003_1, x360000_1, x360001_1, x360002_1, x360003_1, rfl, HA, HK1, HO_6, BK358, BK359, HB⟩ := hrel
  cases gk with
  | zero => exact absurd HA.out (by simp [session_Tick.l0])
  | succ k1 =>
   have H := HA.out
   clear HA
   simp only [session_Tick.l0] at H
   by_cases c12 : x14_1 < ji5
   ·
    rw [if_pos c12] at H
    have c12b0 : decide (x14_1 < ji5) = true := decide_eq_true c12
    clear c12
    by_cases c13 : x359002_1 = 0
    ·
     rw [if_pos c13] at H
     have c13b0 : (x359002_1 == 0) = true := beq_iff_eq.mpr c13
     have c13b1 : (x359002_1 != 0) = false := bne_eq_false_iff_eq.mpr c13
     clear c13
     simp only [Option.some.injEq, Prod.mk.injEq] at H
     obtain ⟨rfl, rfl, rfl, rfl, rfl⟩ := H
     have hnb14 := NB358_359.out
     have hnc14 := NB359_358.out
     obtain ⟨hcz15_0, hcz15_1, hcz15_2, hcz15_3, hfz15_0, hfz15_1, hfz15_2, hfz15_3⟩ := bc4 BK358.out
     obtain ⟨hcz16_0, hcz16_1, hcz16_2, hcz16_3, hfz16_0, hfz16_1, hfz16_2, hfz16_3⟩ := bc4 BK359.out
     go_wp2
     refine bodyPost_ret (results_ct rfl _ _ gb359 34 #[.int .i64 t360, .int .i64 t361, .int .i64 x359002_1, .int .i64 x359003_1] (0, 0) _ rfl (by (with_reducible repeat first | apply kN | apply kD | apply kA); refine blk_put (cs := #[.int .i64 t360, .int .i64 t361, .int .i64 x359002_1, .int .i64 x360003_1]) ?_ 3 _ rfl; (with_reducible repeat first | apply kN | apply kD | apply kA); refine blk_put (cs := #[.int .i64 t360, .int .i64 t361, .int .i64 x360002_1, .int .i64 x360003_1]) ?_ 2 _ rfl; (with_reducible repeat first | apply kN | apply kD | apply kA); refine blk_put (cs := #[.int .i64 t360, .int .i64 x360001_1, .int .i64 x360002_1, .int .i64 x360003_1]) ?_ 1 _ rfl; (with_reducible repeat first | apply kN | apply kD | apply kA); refine blk_put (cs := #[.int .i64 x360000_1, .int .i64 x360001_1, .int .i64 x360002_1, .int .i64 x360003_1]) ?_ 0 _ rfl; (with_reducible repeat first | apply kN | apply kD | apply kA); exact BK359.out) Tryd.underlying34 rfl (by kernel_rfl)) rfl ?_
     exact ⟨_, by first | rfl | (simp [errW_none, errW_some] <;> rfl) | (simp only [← hji4, ← hji5]; first | rfl | (simp [errW_none, errW_some] <;> rfl)) | (simp [*, errW_none, errW_some] <;> rfl), by (with_reducible repeat (first | apply Kd.N_alloc | apply Kd.N_drewN | apply Kd.N_drew)); exact Kd.N_mono (Kd.N_far (p := ⟨gb359, 3, none⟩) (Kd.N_far (p := ⟨gb359, 2, none⟩) (Kd.N_far (p := ⟨gb359, 1, none⟩) (Kd.N_far (p := ⟨gb359, 0, none⟩) (Kd.N_mono HO_6.out (fun k_ hk => (⟨hk, hk.2.2⟩ : _ ∧ k_ ≠ gb359))) (fun _ hk => hk.2) (.int .i64 t360)) (fun _ hk => hk.2) (.int .i64 t361)) (fun _ hk => hk.2) (.int .i64 x359002_1)) (fun _ hk => hk.2) (.int .i64 x359003_1)) (fun _ hk => hk.1.1), by with_reducible repeat first | exact HB.out | apply bA | apply bN | apply bD | refine bS ?_ GE358.out | refine bS ?_ GE359.out⟩
    ·
     rw [if_neg c13] at H
     have c13b0 : (x359002_1 == 0) = false := beq_eq_false_iff_ne.mpr c13
     have c13b1 : (x359002_1 != 0) = true := bne_iff_ne.mpr c13
     by_cases c17 : x359002_1 = 1
     ·
      rw [if_pos c17] at H
      have c17b0 : (x359002_1 == 1) = true := beq_iff_eq.mpr c17
      have c17b1 : (x359002_1 != 1) = false := bne_eq_false_iff_eq.mpr c17
      clear c17
      replace H := Option.bind_eq_some_iff.mp H
      obtain ⟨⟨t364, t365, t366, t367, t368⟩, A180, H⟩ := H
      replace H : (if x6_1.length + t368.length < 4398046511104 then (some (t364, t365, t366, t367, (x6_1 ++ t368))) else (none)) = some (r1, r2, r3, r4, r5) := H
      have A18 := Aside0.mk A180
      clear A180
      by_cases c19 : x6_1.length + t368.length < 4398046511104
      ·
       rw [if_pos c19] at H
       have LMc19 := Aside0.mk c19
       clear c19
       obtain ⟨y372, hy372⟩ : ∃ y_ : List (S45), y_ = (x6_1 ++ t368) := ⟨_, rfl⟩
       replace H : (some (t364, t365, t366, t367, y372)) = some (r1, r2, r3, r4, r5) := by first | (rw [hy372]; with_reducible exact H) | (have H2_ := (Option.bind_some _ _).symm.trans H; rw [hy372]; with_reducible exact H2_) | (have H2_ := (Option.bind_some _ _).symm.trans H; with_reducible exact H2_) | with_reducible exact H | (rw [hy372]; exact H) | exact H
       have Ny372 := Aside0.mk hy372
       clear hy372
       simp only [Option.some.injEq, Prod.mk.injEq] at H
       obtain ⟨rfl, rfl, rfl, rfl, rfl⟩ := H
       have hnb20 := NB358_359.out
       have hnc20 := NB359_358.out
       obtain ⟨hcz21_0, hcz21_1, hcz21_2, hcz21_3, hfz21_0, hfz21_1, hfz21_2, hfz21_3⟩ := bc4 BK358.out
       try go_wp2_with (first | ((with_reducible refine gate_callee (f := 39) rfl ?_); refine goesL_ (some 29) rfl rfl Tryd.func39 (by kernel_rfl) rfl #[.agg #[.int .i64 t360, .int .i64 t361, .int .i64 x359002_1, .int .i64 x359003_1], .agg #[.int .i64 4, .int .i64 0, .slice none 0 0]] rfl (by (try simp only [List.map_toArray, List.map_cons, List.map_nil]); first | done | rfl | (simp only [List.length_drop, List.length_take]; rfl)) ?_; (refine (session_Stop.calls t360 t361 x359002_1 x359003_1 4 0 _ _ ([] : List Int) t364 t365 t366 t367 t368 _ ?side1 ?side2 A18.out).mono ?_); (case side1 => exact Kd.C_nil _ _); (case side2 => exact Nat.le_refl _); rintro e w22 ⟨v369, rfl, ho0, hb⟩; refine ⟨_, rfl, ?_⟩; have n0_ := Aside0.mk (Kd.N_elder' (by (with_reducible repeat (first | apply Kd.N_alloc | apply Kd.N_drewN | apply Kd.N_drew)); exact HO_6.out) (Kd.N_base ho0) hb); have HO370 := Aside0.mk (Kd.N_lower (Kd.N_mono (ok' := fun k_ => (w.heap.size ≤ k_) ∧ some k_ ≠ (u6 : Value).ownBlock ∧ k_ ≠ gb358 ∧ k_ ≠ gb359) ho0 (fun k_ hk_ => ⟨(Nat.le_trans (below_size (by with_reducible repeat first | exact HB.out | apply bA | apply bN | apply bD | refine bS ?_ GE358.out | refine bS ?_ GE359.out)) hk_), (Kd.fresh' (Kd.N_lt (by (with_reducible repeat (first | apply Kd.N_alloc | apply Kd.N_drewN | apply Kd.N_drew)); exact HO_6.out)) k_ hk_), (Kd.freshB (g := gb358) (o := .cells #[.int .i64 t360, .int .i64 t361, .int .i64 x359002_1, .int .i64 x359003_1] 34 (0, 0)) (by (with_reducible repeat first | apply kN | apply kD | apply kA); exact BK358.out) k_ hk_), (Kd.freshB (g := gb359) (o := .cells #[.int .i64 x360000_1, .int .i64 x360001_1, .int .i64 x360002_1, .int .i64 x360003_1] 34 (0, 0)) (by (with_reducible repeat first | apply kN | apply kD | apply kA); exact BK359.out) k_ hk_)⟩)) (below_size (by with_reducible repeat first | exact HB.out | apply bA | apply bN | apply bD | refine bS ?_ GE358.out | refine bS ?_ GE359.out))); have n2_ := Aside0.mk (blk_below (g := gb358) (by (with_reducible repeat first | apply kN | apply kD | apply kA); exact BK358.out) hb); have n3_ := Aside0.mk (blk_below (g := gb359) (by (with_reducible repeat first | apply kN | apply kD | apply kA); exact BK359.out) hb); have n4_ := Aside0.mk (below_step (by with_reducible repeat first | exact HB.out | apply bA | apply bN | apply bD | refine bS ?_ GE358.out | refine bS ?_ GE359.out) hb); clear HO_6; clear BK358; clear BK359; clear HB; have HO_6 := n0_; have BK358 := n2_; have BK359 := n3_; have HB := n4_; clear n0_ n2_ n3_ n4_; (try clear hb); (try clear hb2); (try clear hk); (try clear hi); (try clear ho0)) | ((with_reducible refine gate_dst (N := 7) rfl ?_); refine box_event ?hg (N := 7) ?hd (cs := #[.int .i64 0, .int .i64 0, .int .i64 0, .int .i64 0]) (t := 34) ?hr ?_; (case hd | hg => rfl); (case hr => first | (go_simp; done) | (go_simp; rfl)); intro gb371 hg w23 hbox hb; have n0_ := Aside0.mk (Kd.N_below (Kd.N_elderB (by (with_reducible repeat (first | apply Kd.N_alloc | apply Kd.N_drewN | apply Kd.N_drew)); exact HO_6.out) gb371 (Nat.le_of_eq hg.symm)) hb); have n1_ := Aside0.mk (Kd.N_below (Kd.N_elderB (by (with_reducible repeat (first | apply Kd.N_alloc | apply Kd.N_drewN | apply Kd.N_drew)); exact HO370.out) gb371 (Nat.le_of_eq hg.symm)) hb); have n2_ := Aside0.mk (blk_below (g := gb358) (by (with_reducible repeat first | apply kN | apply kD | apply kA); exact BK358.out) hb); have n3_ := Aside0.mk (blk_below (g := gb359) (by (with_reducible repeat first | apply kN | apply kD | apply kA); exact BK359.out) hb); have n4_ := Aside0.mk (below_step (by with_reducible repeat first | exact HB.out | apply bA | apply bN | apply bD | refine bS ?_ GE358.out | refine bS ?_ GE359.out) hb); have BK371 := Aside0.mk (hbox); have n6_ := Aside0.mk ((by rw [hg]; exact (below_size (by with_reducible repeat first | exact HB.out | apply bA | apply bN | apply bD | refine bS ?_ GE358.out | refine bS ?_ GE359.out)) : w.heap.size ≤ gb371)); have GE371 := n6_; have NB358_371 := Aside0.mk ((by rw [hg]; exact Nat.ne_of_lt (blk_lt (g := gb358) (by (with_reducible repeat first | apply kN | apply kD | apply kA); exact BK358.out)) : gb358 ≠ gb371)); have NB371_358 := Aside0.mk ((by rw [hg]; exact Nat.ne_of_gt (blk_lt (g := gb358) (by (with_reducible repeat first | apply kN | apply kD | apply kA); exact BK358.out)) : gb371 ≠ gb358)); have NB359_371 := Aside0.mk ((by rw [hg]; exact Nat.ne_of_lt (blk_lt (g := gb359) (by (with_reducible repeat first | apply kN | apply kD | apply kA); exact BK359.out)) : gb359 ≠ gb371)); have NB371_359 := Aside0.mk ((by rw [hg]; exact Nat.ne_of_gt (blk_lt (g := gb359) (by (with_reducible repeat first | apply kN | apply kD | apply kA); exact BK359.out)) : gb371 ≠ gb359)); clear HO_6; clear HO370; clear BK358; clear BK359; clear HB; have HO_6 := n0_; have HO370 := n1_; have BK358 := n2_; have BK359 := n3_; have HB := n4_; have GW371 := n6_; clear n0_ n1_ n2_ n3_ n4_ n6_; clear hb hbox hg; have hnb24 := NB371_358.out; have hnc24 := NB358_371.out; have hnb25 := NB371_359.out; have hnc25 := NB359_371.out; obtain ⟨hcz26_0, hcz26_1, hcz26_2, hcz26_3, hfz26_0, hfz26_1, hfz26_2, hfz26_3⟩ := bc4 BK371.out))
       have n0_ : Aside0 (Kd.N k45 45 ((((w23.setCell ⟨gb371, 0, none⟩ (.int .i64 t364)).setCell ⟨gb371, 1, none⟩ (.int .i64 t365)).setCell ⟨gb371, 2, none⟩ (.int .i64 t366)).setCell ⟨gb371, 3, none⟩ (.int .i64 t367)) w.heap.size (fun k_ => (w.heap.size ≤ k_) ∧ some k_ ≠ (v369 : Value).ownBlock ∧ k_ ≠ gb358 ∧ k_ ≠ gb359 ∧ k_ ≠ gb371) u6 x6_1) := ⟨by (with_reducible repeat (first | apply Kd.N_alloc | apply Kd.N_drewN | apply Kd.N_drew)); exact Kd.N_mono (Kd.N_far (p := ⟨gb371, 3, none⟩) (Kd.N_far (p := ⟨gb371, 2, none⟩) (Kd.N_far (p := ⟨gb371, 1, none⟩) (Kd.N_far (p := ⟨gb371, 0, none⟩) (Kd.N_mono HO_6.out (fun k_ hk => (⟨hk, hk.2⟩ : _ ∧ k_ ≠ gb371))) (fun _ hk => hk.2) (.int .i64 t364)) (fun _ hk => hk.2) (.int .i64 t365)) (fun _ hk => hk.2) (.int .i64 t366)) (fun _ hk => hk.2) (.int .i64 t367)) (fun _ hk => ⟨hk.1.1.1.1, ⟨hk.1.1.2, ⟨hk.1.1.1.2.1, ⟨hk.1.1.1.2.2, hk.1.2⟩⟩⟩⟩)⟩
       have n1_ : Aside0 (Kd.N k45 45 ((((w23.setCell ⟨gb371, 0, none⟩ (.int .i64 t364)).setCell ⟨gb371, 1, none⟩ (.int .i64 t365)).setCell ⟨gb371, 2, none⟩ (.int .i64 t366)).setCell ⟨gb371, 3, none⟩ (.int .i64 t367)) w.heap.size (fun k_ => (w.heap.size ≤ k_) ∧ some k_ ≠ (u6 : Value).ownBlock ∧ k_ ≠ gb358 ∧ k_ ≠ gb359 ∧ k_ ≠ gb371) v369 t368) := ⟨by (with_reducible repeat (first | apply Kd.N_alloc | apply Kd.N_drewN | apply Kd.N_drew)); exact Kd.N_mono (Kd.N_far (p := ⟨gb371, 3, none⟩) (Kd.N_far (p := ⟨gb371, 2, none⟩) (Kd.N_far (p := ⟨gb371, 1, none⟩) (Kd.N_far (p := ⟨gb371, 0, none⟩) (Kd.N_mono HO370.out (fun k_ hk => (⟨hk, hk.2⟩ : _ ∧ k_ ≠ gb371))) (fun _ hk => hk.2) (.int .i64 t364)) (fun _ hk => hk.2) (.int .i64 t365)) (fun _ hk => hk.2) (.int .i64 t366)) (fun _ hk => hk.2) (.int .i64 t367)) (fun _ hk => ⟨hk.1.1.1, ⟨hk.1.1.2.1, ⟨hk.1.1.2.2.1, ⟨hk.1.1.2.2.2, hk.1.2⟩⟩⟩⟩)⟩
       have n2_ : Aside0 (((((w23.setCell ⟨gb371, 0, none⟩ (.int .i64 t364)).setCell ⟨gb371, 1, none⟩ (.int .i64 t365)).setCell ⟨gb371, 2, none⟩ (.int .i64 t366)).setCell ⟨gb371, 3, none⟩ (.int .i64 t367)).heap[gb358]? = some (.cells #[.int .i64 t360, .int .i64 t361, .int .i64 x359002_1, .int .i64 x359003_1] 34 (0, 0))) := ⟨by (with_reducible repeat first | apply kN | apply kD | apply kA); refine blk_far ?_ NB358_371.out _; (with_reducible repeat first | apply kN | apply kD | apply kA); refine blk_far ?_ NB358_371.out _; (with_reducible repeat first | apply kN | apply kD | apply kA); refine blk_far ?_ NB358_371.out _; (with_reducible repeat first | apply kN | apply kD | apply kA); refine blk_far ?_ NB358_371.out _; (with_reducible repeat first | apply kN | apply kD | apply kA); exact BK358.out⟩
       have n3_ : Aside0 (((((w23.setCell ⟨gb371, 0, none⟩ (.int .i64 t364)).setCell ⟨gb371, 1, none⟩ (.int .i64 t365)).setCell ⟨gb371, 2, none⟩ (.int .i64 t366)).setCell ⟨gb371, 3, none⟩ (.int .i64 t367)).heap[gb359]? = some (.cells #[.int .i64 x360000_1, .int .i64 x360001_1, .int .i64 x360002_1, .int .i64 x360003_1] 34 (0, 0))) := ⟨by (with_reducible repeat first | apply kN | apply kD | apply kA); refine blk_far ?_ NB359_371.out _; (with_reducible repeat first | apply kN | apply kD | apply kA); refine blk_far ?_ NB359_371.out _; (with_reducible repeat first | apply kN | apply kD | apply kA); refine blk_far ?_ NB359_371.out _; (with_reducible repeat first | apply kN | apply kD | apply kA); refine blk_far ?_ NB359_371.out _; (with_reducible repeat first | apply kN | apply kD | apply kA); exact BK359.out⟩
       have n4_ : Aside0 (((((w23.setCell ⟨gb371, 0, none⟩ (.int .i64 t364)).setCell ⟨gb371, 1, none⟩ (.int .i64 t365)).setCell ⟨gb371, 2, none⟩ (.int .i64 t366)).setCell ⟨gb371, 3, none⟩ (.int .i64 t367)).heap[gb371]? = some (.cells #[.int .i64 t364, .int .i64 t365, .int .i64 t366, .int .i64 t367] 34 (0, 0))) := ⟨by (with_reducible repeat first | apply kN | apply kD | apply kA); refine blk_put (cs := #[.int .i64 t364, .int .i64 t365, .int .i64 t366, .int .i64 0]) ?_ 3 _ rfl; (with_reducible repeat first | apply kN | apply kD | apply kA); refine blk_put (cs := #[.int .i64 t364, .int .i64 t365, .int .i64 0, .int .i64 0]) ?_ 2 _ rfl; (with_reducible repeat first | apply kN | apply kD | apply kA); refine blk_put (cs := #[.int .i64 t364, .int .i64 0, .int .i64 0, .int .i64 0]) ?_ 1 _ rfl; (with_reducible repeat first | apply kN | apply kD | apply kA); refine blk_put (cs := #[.int .i64 0, .int .i64 0, .int .i64 0, .int .i64 0]) ?_ 0 _ rfl; (with_reducible repeat first | apply kN | apply kD | apply kA); exact BK371.out⟩
       have n5_ : Aside0 (Below w.heap.size w ((((w23.setCell ⟨gb371, 0, none⟩ (.int .i64 t364)).setCell ⟨gb371, 1, none⟩ (.int .i64 t365)).setCell ⟨gb371, 2, none⟩ (.int .i64 t366)).setCell ⟨gb371, 3, none⟩ (.int .i64 t367))) := ⟨by with_reducible repeat first | exact HB.out | apply bA | apply bN | apply bD | refine bS ?_ GE358.out | refine bS ?_ GE359.out | refine bS ?_ GE371.out⟩
       (try clear HO_6)
       (try clear HO370)
       (try clear BK358)
       (try clear BK359)
       (try clear BK371)
       (try clear HB)
       generalize ((((w23.setCell ⟨gb371, 0, none⟩ (.int .i64 t364)).setCell ⟨gb371, 1, none⟩ (.int .i64 t365)).setCell ⟨gb371, 2, none⟩ (.int .i64 t366)).setCell ⟨gb371, 3, none⟩ (.int .i64 t367)) = w27 at n0_ n1_ n2_ n3_ n4_ n5_ ⊢
       have HO_6 := n0_
       have HO370 := n1_
       have BK358 := n2_
       have BK359 := n3_
       have BK371 := n4_
       have HB := n5_
       clear n0_ n1_ n2_ n3_ n4_ n5_
       have n0_ := Aside0.mk (Kd.N_drew HO_6.out)
       have n1_ := Aside0.mk (Kd.N_drew HO370.out)
       have n2_ := Aside0.mk (blk_drew BK358.out)
       have n3_ := Aside0.mk (blk_drew BK359.out)
       have n4_ := Aside0.mk (blk_drew BK371.out)
       have n5_ := Aside0.mk (below_drew1 HB.out)
       clear HO_6
       clear HO370
       clear BK358
       clear BK359
       clear BK371
       clear HB
       have HO_6 := n0_
       have HO370 := n1_
       have BK358 := n2_
       have BK359 := n3_
       have BK371 := n4_
       have HB := n5_
       clear n0_ n1_ n2_ n3_ n4_ n5_
       obtain ⟨Ao30, co30, eo30⟩ := Kd.N_slice HO370.out
       (first | subst eo30 | (injection eo30 with f1_ f2_ f3_; have f4_ := f1_.symm; have f5_ := f3_.symm; clear f1_ f2_ f3_; subst f4_; subst f5_))
       refine start_ (n := 6) (S := fun w' => w'.cell? ⟨gb371, 0, none⟩ = some (.int .i64 t364) ∧ w'.cell? ⟨gb371, 1, none⟩ = some (.int .i64 t365) ∧ w'.cell? ⟨gb371, 2, none⟩ = some (.int .i64 t366) ∧ w'.cell? ⟨gb371, 3, none⟩ = some (.int .i64 t367)) (ds := []) #[false, false, false, false, false, false] (by kernel_rfl) rfl rfl ⟨(blk_cell BK371.out 0).trans rfl, (blk_cell BK371.out 1).trans rfl, (blk_cell BK371.out 2).trans rfl, (blk_cell BK371.out 3).trans rfl⟩ (fun hHeld => ?_)
       generalize w27.drew = w28 at HO_6 HO370 BK358 BK359 BK371 HB hHeld ⊢
       refine pure_ (i := 1) (N := some 33) (v := ?_) (a' := ?_) #[false, true, false, false, false, false] rfl rfl (by kernel_rfl) (fun _ _ _ h => h) (Or.inl ⟨by rfl, ?_⟩) ?_ ?_
       rotate_left
       ·
        intro w'
        go_simp
        with_reducible rfl
       rotate_left
       ·
        simp only [Act.put, sA, sB, sC, i64_w, i32_w]
        rfl
       refine pure_ (i := 2) (N := some 34) (v := ?_) (a' := ?_) #[false, true, true, false, false, false] rfl rfl (by kernel_rfl) (fun _ _ _ h => h) (Or.inl ⟨by rfl, ?_⟩) ?_ ?_
       rotate_left
       ·
        intro w'
        go_simp
        with_reducible rfl
       rotate_left
       ·
        simp only [Act.put, sA, sB, sC, i64_w, i32_w]
        rfl
       refine take_ (i := 0) (N := some 32) (v := ?_) (a' := ?_) #[true, true, true, false, false, false] rfl rfl (by kernel_rfl) (fun _ _ _ h => h) (Or.inl ⟨by rfl, ?_⟩) hHeld ?_ ?_
       rotate_left
       ·
        rintro w' ⟨s0, s1, s2, s3⟩
        go_simp
        with_reducible rfl
       rotate_left
       ·
        simp only [Act.put, sA, sB, sC, i64_w, i32_w]
        rfl
       refine one_ (i := 3) (N := some 35) #[true, true, true, true, false, false] rfl rfl (by kernel_rfl) (by decide) (fun K hK => ?_)
       refine Kd.N_append_rows_step k45 (w0 := w) w.heap.size (by rfl) (.tmp 33) (.tmp 34) 35 45 (.agg #[(.int .i64 0), (.slice none 0 0)]) 32 rfl Tryd.underlying35 info45 rfl (by decide) (by omega) u6 x6_1 t368 _ _ _ (fun k_ => (w.heap.size ≤ k_) ∧ k_ ≠ gb358 ∧ k_ ≠ gb359 ∧ k_ ≠ gb371) (fun k_ => ((fun k_ => (w.heap.size ≤ k_) ∧ k_ ≠ gb358 ∧ k_ ≠ gb359 ∧ k_ ≠ gb371)) k_ ∧ some k_ ≠ (u6 : Value).ownBlock) rfl rfl ?aO ?aR (fun _ hk => hk) ?aF ?aB ?aS ?aL ?_
       (case aR => exact (by skip; exact Kd.N_F (Kd.N_mono (ok' := (fun k_ => ((fun k_ => (w.heap.size ≤ k_) ∧ k_ ≠ gb358 ∧ k_ ≠ gb359 ∧ k_ ≠ gb371)) k_ ∧ some k_ ≠ (u6 : Value).ownBlock)) (HO370.out) (fun k_ hk => ⟨⟨hk.1, ⟨hk.2.2.1, ⟨hk.2.2.2.1, hk.2.2.2.2⟩⟩⟩, hk.2.1⟩))))
       (case aB => exact (by with_reducible repeat first | exact HB.out | apply bA | apply bN | apply bD | refine bS ?_ GE358.out | refine bS ?_ GE359.out | refine bS ?_ GE371.out))
       (case aF => exact (fun k_ hk => ⟨(Nat.le_trans (below_size (by with_reducible repeat first | exact HB.out | apply bA | apply bN | apply bD | refine bS ?_ GE358.out | refine bS ?_ GE359.out | refine bS ?_ GE371.out)) hk), Kd.freshB (g := gb358) (o := .cells #[.int .i64 t360, .int .i64 t361, .int .i64 x359002_1, .int .i64 x359003_1] 34 (0, 0)) (by (with_reducible repeat first | apply kN | apply kD | apply kA); exact BK358.out) k_ hk, Kd.freshB (g := gb359) (o := .cells #[.int .i64 x360000_1, .int .i64 x360001_1, .int .i64 x360002_1, .int .i64 x360003_1] 34 (0, 0)) (by (with_reducible repeat first | apply kN | apply kD | apply kA); exact BK359.out) k_ hk, Kd.freshB (g := gb371) (o := .cells #[.int .i64 t364, .int .i64 t365, .int .i64 t366, .int .i64 t367] 34 (0, 0)) (by (with_reducible repeat first | apply kN | apply kD | apply kA); exact BK371.out) k_ hk⟩))
       (case aO => exact (by (with_reducible repeat (first | apply Kd.N_alloc | apply Kd.N_drewN | apply Kd.N_drew)); exact Kd.N_mono HO_6.out (fun _ hk => ⟨hk.1, ⟨hk.2.2.1, ⟨hk.2.2.2.1, hk.2.2.2.2⟩⟩⟩)))
       (case aS => exact (below_size (by with_reducible repeat first | exact HB.out | apply bA | apply bN | apply bD | refine bS ?_ GE358.out | refine bS ?_ GE359.out | refine bS ?_ GE371.out)))
       (case aL => have := LMc19.out; omega)
       intro v373 w29 ho hb hg hat
       rw [← Ny372.out] at ho
       have n0_ := Aside0.mk (blk_grown (g := gb358) (o := .cells #[.int .i64 t360, .int .i64 t361, .int .i64 x359002_1, .int .i64 x359003_1] 34 (0, 0)) (by (with_reducible repeat first | apply kN | apply kD | apply kA); exact BK358.out) hg (Kd.N_ne HO_6.out BK358.out (by decide)))
       have n1_ := Aside0.mk (blk_grown (g := gb359) (o := .cells #[.int .i64 x360000_1, .int .i64 x360001_1, .int .i64 x360002_1, .int .i64 x360003_1] 34 (0, 0)) (by (with_reducible repeat first | apply kN | apply kD | apply kA); exact BK359.out) hg (Kd.N_ne HO_6.out BK359.out (by decide)))
       have n2_ := Aside0.mk (Kd.N_afterv (ok := (fun k_ => (w.heap.size ≤ k_) ∧ k_ ≠ gb358 ∧ k_ ≠ gb359 ∧ k_ ≠ gb371)) (by (with_reducible repeat (first | apply Kd.N_alloc | apply Kd.N_drewN | apply Kd.N_drew)); exact Kd.N_mono HO370.out (fun _ hk => ⟨⟨hk.1, ⟨hk.2.2.1, ⟨hk.2.2.2.1, hk.2.2.2.2⟩⟩⟩, hk.2.1⟩)) hg hat)
       have n3_ := Aside0.mk (blk_grown (g := gb371) (o := .cells #[.int .i64 t364, .int .i64 t365, .int .i64 t366, .int .i64 t367] 34 (0, 0)) (by (with_reducible repeat first | apply kN | apply kD | apply kA); exact BK371.out) hg (Kd.N_ne HO_6.out BK371.out (by decide)))
       have n4_ := Aside0.mk (hb)
       have n5_ := Aside0.mk (ho)
       clear BK358
       clear BK359
       clear HO370
       clear BK371
       clear HB
       clear HO_6
       have BK358 := n0_
       have BK359 := n1_
       have HO370 := n2_
       have BK371 := n3_
       have HB := n4_
       have HO374 := n5_
       clear n0_ n1_ n2_ n3_ n4_ n5_
       clear ho hb hg hat
       refine hK.out _ _ ⟨(blk_cell BK371.out 0).trans rfl, (blk_cell BK371.out 1).trans rfl, (blk_cell BK371.out 2).trans rfl, (blk_cell BK371.out 3).trans rfl⟩ (fun hHeld => ?_)
       clear hK K
       refine norm_ (a' := ?_) ?_ ?_
       rotate_left
       ·
        show Act.put _ (some 35) _ = _
        simp only [Act.put, sA, sB, sC, i64_w, i32_w]
        rfl
       refine one_ (i := 4) (N := none) #[true, true, true, true, true, false] rfl rfl (by kernel_rfl) (by decide) (fun K hK => ?_)
       have hs31 : w29.cell? ⟨gb359, 0, none⟩ = some (.int .i64 x360000_1) := (blk_cell BK359.out 0).trans rfl
       have hfs31 := blk_frozen BK359.out 0
       have hns31_0 := NB358_359.out
       have hns31_2 := NB371_359.out
       have hms31_0 := NB359_358.out
       have hms31_2 := NB359_371.out
       have hs32 : w29.cell? ⟨gb359, 1, none⟩ = some (.int .i64 x360001_1) := (blk_cell BK359.out 1).trans rfl
       have hfs32 := blk_frozen BK359.out 1
       have hns32_0 := NB358_359.out
       have hns32_2 := NB371_359.out
       have hms32_0 := NB359_358.out
       have hms32_2 := NB359_371.out
       have hs33 : w29.cell? ⟨gb359, 2, none⟩ = some (.int .i64 x360002_1) := (blk_cell BK359.out 2).trans rfl
       have hfs33 := blk_frozen BK359.out 2
       have hns33_0 := NB358_359.out
       have hns33_2 := NB371_359.out
       have hms33_0 := NB359_358.out
       have hms33_2 := NB359_371.out
       have hs34 : w29.cell? ⟨gb359, 3, none⟩ = some (.int .i64 x360003_1) := (blk_cell BK359.out 3).trans rfl
       have hfs34 := blk_frozen BK359.out 3
       have hns34_0 := NB358_359.out
       have hns34_2 := NB371_359.out
       have hms34_0 := NB359_358.out
       have hms34_2 := NB359_371.out
       refine skip_ (w1 := ?_) (by rfl) rfl ?_ ?_
       rotate_left
       ·
        go_simp
        rfl
       refine hK.out _ _ ⟨((cell_far (p := ⟨gb359, _, none⟩) NB371_359.out _).trans (((cell_far (p := ⟨gb359, _, none⟩) NB371_359.out _).trans (((cell_far (p := ⟨gb359, _, none⟩) NB371_359.out _).trans (((cell_far (p := ⟨gb359, _, none⟩) NB371_359.out _).trans (hHeld.1)))))))), ((cell_far (p := ⟨gb359, _, none⟩) NB371_359.out _).trans (((cell_far (p := ⟨gb359, _, none⟩) NB371_359.out _).trans (((cell_far (p := ⟨gb359, _, none⟩) NB371_359.out _).trans (((cell_far (p := ⟨gb359, _, none⟩) NB371_359.out _).trans (hHeld.2.1)))))))), ((cell_far (p := ⟨gb359, _, none⟩) NB371_359.out _).trans (((cell_far (p := ⟨gb359, _, none⟩) NB371_359.out _).trans (((cell_far (p := ⟨gb359, _, none⟩) NB371_359.out _).trans (((cell_far (p := ⟨gb359, _, none⟩) NB371_359.out _).trans (hHeld.2.2.1)))))))), ((cell_far (p := ⟨gb359, _, none⟩) NB371_359.out _).trans (((cell_far (p := ⟨gb359, _, none⟩) NB371_359.out _).trans (((cell_far (p := ⟨gb359, _, none⟩) NB371_359.out _).trans (((cell_far (p := ⟨gb359, _, none⟩) NB371_359.out _).trans (hHeld.2.2.2))))))))⟩ (fun hHeld => ?_)
       clear hK K
       refine pure_ (i := 5) (N := some 5) (v := ?_) (a' := ?_) #[true, true, true, true, true, true] rfl rfl (by kernel_rfl) (fun _ _ _ h => h) (Or.inl ⟨by rfl, ?_⟩) ?_ ?_
       rotate_left
       ·
        intro w'
        go_simp
        with_reducible rfl
       rotate_left
       ·
        simp only [Act.put, sA, sB, sC, i64_w, i32_w]
        rfl
       refine done_ (by kernel_rfl) ?_
       try go_wp2
       refine bodyPost_ret (results_ct rfl _ _ gb359 34 #[.int .i64 t364, .int .i64 t365, .int .i64 t366, .int .i64 t367] (0, 0) _ rfl (by (with_reducible repeat first | apply kN | apply kD | apply kA); refine blk_put (cs := #[.int .i64 t364, .int .i64 t365, .int .i64 t366, .int .i64 x360003_1]) ?_ 3 _ rfl; (with_reducible repeat first | apply kN | apply kD | apply kA); refine blk_put (cs := #[.int .i64 t364, .int .i64 t365, .int .i64 x360002_1, .int .i64 x360003_1]) ?_ 2 _ rfl; (with_reducible repeat first | apply kN | apply kD | apply kA); refine blk_put (cs := #[.int .i64 t364, .int .i64 x360001_1, .int .i64 x360002_1, .int .i64 x360003_1]) ?_ 1 _ rfl; (with_reducible repeat first | apply kN | apply kD | apply kA); refine blk_put (cs := #[.int .i64 x360000_1, .int .i64 x360001_1, .int .i64 x360002_1, .int .i64 x360003_1]) ?_ 0 _ rfl; (with_reducible repeat first | apply kN | apply kD | apply kA); exact BK359.out) Tryd.underlying34 rfl (by kernel_rfl)) rfl ?_
       exact ⟨_, by first | rfl | (simp [errW_none, errW_some] <;> rfl) | (simp only [← hji4, ← hji5]; first | rfl | (simp [errW_none, errW_some] <;> rfl)) | (simp [*, errW_none, errW_some] <;> rfl), by (with_reducible repeat (first | apply Kd.N_alloc | apply Kd.N_drewN | apply Kd.N_drew)); exact Kd.N_mono (Kd.N_far (p := ⟨gb359, 3, none⟩) (Kd.N_far (p := ⟨gb359, 2, none⟩) (Kd.N_far (p := ⟨gb359, 1, none⟩) (Kd.N_far (p := ⟨gb359, 0, none⟩) (Kd.N_mono HO374.out (fun k_ hk => (⟨hk, hk.2.2.1⟩ : _ ∧ k_ ≠ gb359))) (fun _ hk => hk.2) (.int .i64 t364)) (fun _ hk => hk.2) (.int .i64 t365)) (fun _ hk => hk.2) (.int .i64 t366)) (fun _ hk => hk.2) (.int .i64 t367)) (fun _ hk => hk.1.1), by with_reducible repeat first | exact HB.out | apply bA | apply bN | apply bD | refine bS ?_ GE358.out | refine bS ?_ GE359.out | refine bS ?_ GE371.out⟩
      ·
       rw [if_neg c19] at H
       exact absurd H (by simp)
     ·
      rw [if_neg c17] at H
      have c17b0 : (x359002_1 == 1) = false := beq_eq_false_iff_ne.mpr c17
      have c17b1 : (x359002_1 != 1) = true := bne_iff_ne.mpr c17
      by_cases c35 : x359003_1 = 1
      ·
       rw [if_pos c35] at H
       have c35b0 : (x359003_1 == 1) = true := beq_iff_eq.mpr c35
       have c35b1 : (x359003_1 != 1) = false := bne_eq_false_iff_eq.mpr c35
       clear c35
       by_cases c36 : x6_1.length < 4398046511104
       ·
        rw [if_pos c36] at H
        have LMc36 := Aside0.mk c36
        clear c36
        obtain ⟨y375, hy375⟩ : ∃ y_ : List (S45), y_ = (x6_1 ++ [(⟨4, ([] : List Int)⟩ : S45)]) := ⟨_, rfl⟩
        replace H : (if (wrap64 (x359003_1 + (wrap64 (Int.tdiv t361 3)))) > 0 then (session_Tick.l0 k1 y375 ji5 (wrap64 (x14_1 + 1)) t360 t361 (wrap64 (x359002_1 - 1)) (wrap64 ((wrap64 (x359003_1 + (wrap64 (Int.tdiv t361 3)))) - 1))) else (session_Tick.l0 k1 y375 ji5 (wrap64 (x14_1 + 1)) t360 t361 (wrap64 (x359002_1 - 1)) (wrap64 (x359003_1 + (wrap64 (Int.tdiv t361 3)))))) = some (r1, r2, r3, r4, r5) := by first | (rw [hy375]; with_reducible exact H) | (have H2_ := (Option.bind_some _ _).symm.trans H; rw [hy375]; with_reducible exact H2_) | (have H2_ := (Option.bind_some _ _).symm.trans H; with_reducible exact H2_) | with_reducible exact H | (rw [hy375]; exact H) | exact H
        have Ny375 := Aside0.mk hy375
        clear hy375
        by_cases c37 : (wrap64 (x359003_1 + (wrap64 (Int.tdiv t361 3)))) > 0
        ·
         rw [if_pos c37] at H
         have c37b0 : decide (0 < (wrap64 (x359003_1 + (wrap64 (Int.tdiv t361 3))))) = true := decide_eq_true c37
         clear c37
         have H' := Aside0.mk H
         clear H
         have hnb38 := NB358_359.out
         have hnc38 := NB359_358.out
         obtain ⟨hcz39_0, hcz39_1, hcz39_2, hcz39_3, hfz39_0, hfz39_1, hfz39_2, hfz39_3⟩ := bc4 BK358.out
         go_wp2_with (first | ((with_reducible refine gate_builtin (b := .append) (xs := #[.tmp 43, .tmp 45]) rfl ?_); at_builtin; refine Kd.N_append k45 (w0 := w) w.heap.size rfl (.tmp 43) (.tmp 45) 35 45 (.agg #[(.int .i64 0), (.slice none 0 0)]) 32 rfl Tryd.underlying35 info45 rfl (by decide) (by omega) u6 x6_1 (⟨4, ([] : List Int)⟩ : S45) [.int .i64 4, .slice none 0 0] (fun k_ => (w.heap.size ≤ k_) ∧ k_ ≠ gb358 ∧ k_ ≠ gb359) (fun k_ => ((fun k_ => (w.heap.size ≤ k_) ∧ k_ ≠ gb358 ∧ k_ ≠ gb359)) k_ ∧ some k_ ≠ (u6 : Value).ownBlock) rfl (by first | (go_simp; done) | (go_simp; rfl)) ?aP (fun _ hk => hk) ?aF ?aO ?aB ?aS ?aL ?_; (case aP => exact (k45_mkF _ _ (⟨4, ([] : List Int)⟩ : S45) (Nat.le_refl _) (Kd.F_nil _ _ _))); (case aB => exact (by with_reducible repeat first | exact HB.out | apply bA | apply bN | apply bD | refine bS ?_ GE358.out | refine bS ?_ GE359.out)); (case aF => exact (fun k_ hk => ⟨(Nat.le_trans (below_size (by with_reducible repeat first | exact HB.out | apply bA | apply bN | apply bD | refine bS ?_ GE358.out | refine bS ?_ GE359.out)) hk), Kd.freshB (g := gb358) (o := .cells #[.int .i64 t360, .int .i64 t361, .int .i64 (wrap64 (x359002_1 - 1)), .int .i64 x359003_1] 34 (0, 0)) (by (with_reducible repeat first | apply kN | apply kD | apply kA); refine blk_put (cs := #[.int .i64 t360, .int .i64 t361, .int .i64 x359002_1, .int .i64 x359003_1]) ?_ 2 _ rfl; (with_reducible repeat first | apply kN | apply kD | apply kA); exact BK358.out) k_ hk, Kd.freshB (g := gb359) (o := .cells #[.int .i64 x360000_1, .int .i64 x360001_1, .int .i64 x360002_1, .int .i64 x360003_1] 34 (0, 0)) (by (with_reducible repeat first | apply kN | apply kD | apply kA); refine blk_far ?_ NB359_358.out _; (with_reducible repeat first | apply kN | apply kD | apply kA); exact BK359.out) k_ hk⟩)); (case aO => exact (by (with_reducible repeat (first | apply Kd.N_alloc | apply Kd.N_drewN | apply Kd.N_drew)); exact Kd.N_mono (Kd.N_far (p := ⟨gb358, 2, none⟩) (Kd.N_mono HO_6.out (fun k_ hk => (⟨hk, hk.2.1⟩ : _ ∧ k_ ≠ gb358))) (fun _ hk => hk.2) (.int .i64 (wrap64 (x359002_1 - 1)))) (fun _ hk => ⟨hk.1.1, ⟨hk.1.2.1, hk.1.2.2⟩⟩))); (case aS => exact (below_size (by with_reducible repeat first | exact HB.out | apply bA | apply bN | apply bD | refine bS ?_ GE358.out | refine bS ?_ GE359.out))); (case aL => have := LMc36.out; omega); intro v376 w40 ho hb hg hat; rw [← Ny375.out] at ho; have n0_ := Aside0.mk (blk_grown (g := gb358) (o := .cells #[.int .i64 t360, .int .i64 t361, .int .i64 (wrap64 (x359002_1 - 1)), .int .i64 x359003_1] 34 (0, 0)) (by (with_reducible repeat first | apply kN | apply kD | apply kA); refine blk_put (cs := #[.int .i64 t360, .int .i64 t361, .int .i64 x359002_1, .int .i64 x359003_1]) ?_ 2 _ rfl; (with_reducible repeat first | apply kN | apply kD | apply kA); exact BK358.out) hg (Kd.N_ne HO_6.out BK358.out (by decide))); have n1_ := Aside0.mk (blk_grown (g := gb359) (o := .cells #[.int .i64 x360000_1, .int .i64 x360001_1, .int .i64 x360002_1, .int .i64 x360003_1] 34 (0, 0)) (by (with_reducible repeat first | apply kN | apply kD | apply kA); refine blk_far ?_ NB359_358.out _; (with_reducible repeat first | apply kN | apply kD | apply kA); exact BK359.out) hg (Kd.N_ne HO_6.out BK359.out (by decide))); have n2_ := Aside0.mk (hb); have HO377 := Aside0.mk (ho); clear BK358; clear BK359; clear HB; clear HO_6; have BK358 := n0_; have BK359 := n1_; have HB := n2_; clear n0_ n1_ n2_; clear ho hb hg hat; obtain ⟨hcz41_0, hcz41_1, hcz41_2, hcz41_3, hfz41_0, hfz41_1, hfz41_2, hfz41_3⟩ := bc4 BK358.out))
         go_roundg k1
         case measure => have := HK1.out; omega
         case rel => exact ⟨(y375), (wrap64 (x14_1 + 1)), (wrap64 (x359002_1 - 1)), (wrap64 ((wrap64 (x359003_1 + (wrap64 (Int.tdiv t361 3)))) - 1)), (x360000_1), (x360001_1), (x360002_1), (x360003_1), (by first | rfl | (simp; done) | (simp [*]; done)), H', ⟨by have := HK1.out; omega⟩, ⟨by (with_reducible repeat (first | apply Kd.N_alloc | apply Kd.N_drewN | apply Kd.N_drew)); exact Kd.N_mono (Kd.N_far (p := ⟨gb358, 3, none⟩) (Kd.N_far (p := ⟨gb358, 3, none⟩) (Kd.N_mono HO377.out (fun k_ hk => (⟨hk, hk.2.1⟩ : _ ∧ k_ ≠ gb358))) (fun _ hk => hk.2) (.int .i64 (wrap64 (x359003_1 + (wrap64 (Int.tdiv t361 3)))))) (fun _ hk => hk.2) (.int .i64 (wrap64 ((wrap64 (x359003_1 + (wrap64 (Int.tdiv t361 3)))) - 1)))) (fun _ hk => ⟨hk.1.1, ⟨hk.1.2.1, hk.1.2.2⟩⟩)⟩, ⟨by (with_reducible repeat first | apply kN | apply kD | apply kA); refine blk_put (cs := #[.int .i64 t360, .int .i64 t361, .int .i64 (wrap64 (x359002_1 - 1)), .int .i64 (wrap64 (x359003_1 + (wrap64 (Int.tdiv t361 3))))]) ?_ 3 _ rfl; (with_reducible repeat first | apply kN | apply kD | apply kA); refine blk_put (cs := #[.int .i64 t360, .int .i64 t361, .int .i64 (wrap64 (x359002_1 - 1)), .int .i64 x359003_1]) ?_ 3 _ rfl; (with_reducible repeat first | apply kN | apply kD | apply kA); exact BK358.out⟩, ⟨by (with_reducible repeat first | apply kN | apply kD | apply kA); refine blk_far ?_ NB359_358.out _; (with_reducible repeat first | apply kN | apply kD | apply kA); refine blk_far ?_ NB359_358.out _; (with_reducible repeat first | apply kN | apply kD | apply kA); exact BK359.out⟩, ⟨by with_reducible repeat first | exact HB.out | apply bA | apply bN | apply bD | refine bS ?_ GE358.out | refine bS ?_ GE359.out⟩⟩
        ·
         rw [if_neg c37] at H
         have c37b0 : decide (0 < (wrap64 (x359003_1 + (wrap64 (Int.tdiv t361 3))))) = false := decide_eq_false c37
         clear c37
         have H' := Aside0.mk H
         clear H
         have hnb42 := NB358_359.out
         have hnc42 := NB359_358.out
         obtain ⟨hcz43_0, hcz43_1, hcz43_2, hcz43_3, hfz43_0, hfz43_1, hfz43_2, hfz43_3⟩ := bc4 BK358.out
         go_wp2_with (first | ((with_reducible refine gate_builtin (b := .append) (xs := #[.tmp 43, .tmp 45]) rfl ?_); at_builtin; refine Kd.N_append k45 (w0 := w) w.heap.size rfl (.tmp 43) (.tmp 45) 35 45 (.agg #[(.int .i64 0), (.slice none 0 0)]) 32 rfl Tryd.underlying35 info45 rfl (by decide) (by omega) u6 x6_1 (⟨4, ([] : List Int)⟩ : S45) [.int .i64 4, .slice none 0 0] (fun k_ => (w.heap.size ≤ k_) ∧ k_ ≠ gb358 ∧ k_ ≠ gb359) (fun k_ => ((fun k_ => (w.heap.size ≤ k_) ∧ k_ ≠ gb358 ∧ k_ ≠ gb359)) k_ ∧ some k_ ≠ (u6 : Value).ownBlock) rfl (by first | (go_simp; done) | (go_simp; rfl)) ?aP (fun _ hk => hk) ?aF ?aO ?aB ?aS ?aL ?_; (case aP => exact (k45_mkF _ _ (⟨4, ([] : List Int)⟩ : S45) (Nat.le_refl _) (Kd.F_nil _ _ _))); (case aB => exact (by with_reducible repeat first | exact HB.out | apply bA | apply bN | apply bD | refine bS ?_ GE358.out | refine bS ?_ GE359.out)); (case aF => exact (fun k_ hk => ⟨(Nat.le_trans (below_size (by with_reducible repeat first | exact HB.out | apply bA | apply bN | apply bD | refine bS ?_ GE358.out | refine bS ?_ GE359.out)) hk), Kd.freshB (g := gb358) (o := .cells #[.int .i64 t360, .int .i64 t361, .int .i64 (wrap64 (x359002_1 - 1)), .int .i64 x359003_1] 34 (0, 0)) (by (with_reducible repeat first | apply kN | apply kD | apply kA); refine blk_put (cs := #[.int .i64 t360, .int .i64 t361, .int .i64 x359002_1, .int .i64 x359003_1]) ?_ 2 _ rfl; (with_reducible repeat first | apply kN | apply kD | apply kA); exact BK358.out) k_ hk, Kd.freshB (g := gb359) (o := .cells #[.int .i64 x360000_1, .int .i64 x360001_1, .int .i64 x360002_1, .int .i64 x360003_1] 34 (0, 0)) (by (with_reducible repeat first | apply kN | apply kD | apply kA); refine blk_far ?_ NB359_358.out _; (with_reducible repeat first | apply kN | apply kD | apply kA); exact BK359.out) k_ hk⟩)); (case aO => exact (by (with_reducible repeat (first | apply Kd.N_alloc | apply Kd.N_drewN | apply Kd.N_drew)); exact Kd.N_mono (Kd.N_far (p := ⟨gb358, 2, none⟩) (Kd.N_mono HO_6.out (fun k_ hk => (⟨hk, hk.2.1⟩ : _ ∧ k_ ≠ gb358))) (fun _ hk => hk.2) (.int .i64 (wrap64 (x359002_1 - 1)))) (fun _ hk => ⟨hk.1.1, ⟨hk.1.2.1, hk.1.2.2⟩⟩))); (case aS => exact (below_size (by with_reducible repeat first | exact HB.out | apply bA | apply bN | apply bD | refine bS ?_ GE358.out | refine bS ?_ GE359.out))); (case aL => have := LMc36.out; omega); intro v376 w44 ho hb hg hat; rw [← Ny375.out] at ho; have n0_ := Aside0.mk (blk_grown (g := gb358) (o := .cells #[.int .i64 t360, .int .i64 t361, .int .i64 (wrap64 (x359002_1 - 1)), .int .i64 x359003_1] 34 (0, 0)) (by (with_reducible repeat first | apply kN | apply kD | apply kA); refine blk_put (cs := #[.int .i64 t360, .int .i64 t361, .int .i64 x359002_1, .int .i64 x359003_1]) ?_ 2 _ rfl; (with_reducible repeat first | apply kN | apply kD | apply kA); exact BK358.out) hg (Kd.N_ne HO_6.out BK358.out (by decide))); have n1_ := Aside0.mk (blk_grown (g := gb359) (o := .cells #[.int .i64 x360000_1, .int .i64 x360001_1, .int .i64 x360002_1, .int .i64 x360003_1] 34 (0, 0)) (by (with_reducible repeat first | apply kN | apply kD | apply kA); refine blk_far ?_ NB359_358.out _; (with_reducible repeat first | apply kN | apply kD | apply kA); exact BK359.out) hg (Kd.N_ne HO_6.out BK359.out (by decide))); have n2_ := Aside0.mk (hb); have HO377 := Aside0.mk (ho); clear BK358; clear BK359; clear HB; clear HO_6; have BK358 := n0_; have BK359 := n1_; have HB := n2_; clear n0_ n1_ n2_; clear ho hb hg hat; obtain ⟨hcz45_0, hcz45_1, hcz45_2, hcz45_3, hfz45_0, hfz45_1, hfz45_2, hfz45_3⟩ := bc4 BK358.out))
         go_roundg k1
         case measure => have := HK1.out; omega
         case rel => exact ⟨(y375), (wrap64 (x14_1 + 1)), (wrap64 (x359002_1 - 1)), (wrap64 (x359003_1 + (wrap64 (Int.tdiv t361 3)))), (x360000_1), (x360001_1), (x360002_1), (x360003_1), (by first | rfl | (simp; done) | (simp [*]; done)), H', ⟨by have := HK1.out; omega⟩, ⟨by (with_reducible repeat (first | apply Kd.N_alloc | apply Kd.N_drewN | apply Kd.N_drew)); exact Kd.N_mono (Kd.N_far (p := ⟨gb358, 3, none⟩) (Kd.N_mono HO377.out (fun k_ hk => (⟨hk, hk.2.1⟩ : _ ∧ k_ ≠ gb358))) (fun _ hk => hk.2) (.int .i64 (wrap64 (x359003_1 + (wrap64 (Int.tdiv t361 3)))))) (fun _ hk => ⟨hk.1.1, ⟨hk.1.2.1, hk.1.2.2⟩⟩)⟩, ⟨by (with_reducible repeat first | apply kN | apply kD | apply kA); refine blk_put (cs := #[.int .i64 t360, .int .i64 t361, .int .i64 (wrap64 (x359002_1 - 1)), .int .i64 x359003_1]) ?_ 3 _ rfl; (with_reducible repeat first | apply kN | apply kD | apply kA); exact BK358.out⟩, ⟨by (with_reducible repeat first | apply kN | apply kD | apply kA); refine blk_far ?_ NB359_358.out _; (with_reducible repeat first | apply kN | apply kD | apply kA); exact BK359.out⟩, ⟨by with_reducible repeat first | exact HB.out | apply bA | apply bN | apply bD | refine bS ?_ GE358.out | refine bS ?_ GE359.out⟩⟩
       ·
        rw [if_neg c36] at H
        exact absurd H (by simp)
      ·
       rw [if_neg c35] at H
       have c35b0 : (x359003_1 == 1) = false := beq_eq_false_iff_ne.mpr c35
       have c35b1 : (x359003_1 != 1) = true := bne_iff_ne.mpr c35
       by_cases c46 : x359003_1 > 0
       ·
        rw [if_pos c46] at H
        have c46b0 : decide (0 < x359003_1) = true := decide_eq_true c46
        clear c46
        have H' := Aside0.mk H
        clear H
        have hnb47 := NB358_359.out
        have hnc47 := NB359_358.out
        obtain ⟨hcz48_0, hcz48_1, hcz48_2, hcz48_3, hfz48_0, hfz48_1, hfz48_2, hfz48_3⟩ := bc4 BK358.out
        go_wp2
        go_roundg k1
        case measure => have := HK1.out; omega
        case rel => exact ⟨(x6_1), (wrap64 (x14_1 + 1)), (wrap64 (x359002_1 - 1)), (wrap64 (x359003_1 - 1)), (x360000_1), (x360001_1), (x360002_1), (x360003_1), (by first | rfl | (simp; done) | (simp [*]; done)), H', ⟨by have := HK1.out; omega⟩, ⟨by (with_reducible repeat (first | apply Kd.N_alloc | apply Kd.N_drewN | apply Kd.N_drew)); exact Kd.N_mono (Kd.N_far (p := ⟨gb358, 3, none⟩) (Kd.N_far (p := ⟨gb358, 2, none⟩) (Kd.N_mono HO_6.out (fun k_ hk => (⟨hk, hk.2.1⟩ : _ ∧ k_ ≠ gb358))) (fun _ hk => hk.2) (.int .i64 (wrap64 (x359002_1 - 1)))) (fun _ hk => hk.2) (.int .i64 (wrap64 (x359003_1 - 1)))) (fun _ hk => ⟨hk.1.1, ⟨hk.1.2.1, hk.1.2.2⟩⟩)⟩, ⟨by (with_reducible repeat first | apply kN | apply kD | apply kA); refine blk_put (cs := #[.int .i64 t360, .int .i64 t361, .int .i64 (wrap64 (x359002_1 - 1)), .int .i64 x359003_1]) ?_ 3 _ rfl; (with_reducible repeat first | apply kN | apply kD | apply kA); refine blk_put (cs := #[.int .i64 t360, .int .i64 t361, .int .i64 x359002_1, .int .i64 x359003_1]) ?_ 2 _ rfl; (with_reducible repeat first | apply kN | apply kD | apply kA); exact BK358.out⟩, ⟨by (with_reducible repeat first | apply kN | apply kD | apply kA); refine blk_far ?_ NB359_358.out _; (with_reducible repeat first | apply kN | apply kD | apply kA); refine blk_far ?_ NB359_358.out _; (with_reducible repeat first | apply kN | apply kD | apply kA); exact BK359.out⟩, ⟨by with_reducible repeat first | exact HB.out | apply bA | apply bN | apply bD | refine bS ?_ GE358.out | refine bS ?_ GE359.out⟩⟩
       ·
        rw [if_neg c46] at H
        have c46b0 : decide (0 < x359003_1) = false := decide_eq_false c46
        clear c46
        have H' := Aside0.mk H
        clear H
        have hnb49 := NB358_359.out
        have hnc49 := NB359_358.out
        obtain ⟨hcz50_0, hcz50_1, hcz50_2, hcz50_3, hfz50_0, hfz50_1, hfz50_2, hfz50_3⟩ := bc4 BK358.out
        go_wp2
        go_roundg k1
        case measure => have := HK1.out; omega
        case rel => exact ⟨(x6_1), (wrap64 (x14_1 + 1)), (wrap64 (x359002_1 - 1)), (x359003_1), (x360000_1), (x360001_1), (x360002_1), (x360003_1), (by first | rfl | (simp; done) | (simp [*]; done)), H', ⟨by have := HK1.out; omega⟩, ⟨by (with_reducible repeat (first | apply Kd.N_alloc | apply Kd.N_drewN | apply Kd.N_drew)); exact Kd.N_mono (Kd.N_far (p := ⟨gb358, 2, none⟩) (Kd.N_mono HO_6.out (fun k_ hk => (⟨hk, hk.2.1⟩ : _ ∧ k_ ≠ gb358))) (fun _ hk => hk.2) (.int .i64 (wrap64 (x359002_1 - 1)))) (fun _ hk => ⟨hk.1.1, ⟨hk.1.2.1, hk.1.2.2⟩⟩)⟩, ⟨by (with_reducible repeat first | apply kN | apply kD | apply kA); refine blk_put (cs := #[.int .i64 t360, .int .i64 t361, .int .i64 x359002_1, .int .i64 x359003_1]) ?_ 2 _ rfl; (with_reducible repeat first | apply kN | apply kD | apply kA); exact BK358.out⟩, ⟨by (with_reducible repeat first | apply kN | apply kD | apply kA); refine blk_far ?_ NB359_358.out _; (with_reducible repeat first | apply kN | apply kD | apply kA); exact BK359.out⟩, ⟨by with_reducible repeat first | exact HB.out | apply bA | apply bN | apply bD | refine bS ?_ GE358.out | refine bS ?_ GE359.out⟩⟩
   ·
    rw [if_neg c12] at H
    have c12b0 : decide (x14_1 < ji5) = false := decide_eq_false c12
    clear c12
    simp only [Option.some.injEq, Prod.mk.injEq] at H
    obtain ⟨rfl, rfl, rfl, rfl, rfl⟩ := H
    have hnb51 := NB358_359.out
    have hnc51 := NB359_358.out
    obtain ⟨hcz52_0, hcz52_1, hcz52_2, hcz52_3, hfz52_0, hfz52_1, hfz52_2, hfz52_3⟩ := bc4 BK358.out
    obtain ⟨hcz53_0, hcz53_1, hcz53_2, hcz53_3, hfz53_0, hfz53_1, hfz53_2, hfz53_3⟩ := bc4 BK359.out
    go_wp2
    refine bodyPost_ret (results_ct rfl _ _ gb359 34 #[.int .i64 t360, .int .i64 t361, .int .i64 x359002_1, .int .i64 x359003_1] (0, 0) _ rfl (by (with_reducible repeat first | apply kN | apply kD | apply kA); refine blk_put (cs := #[.int .i64 t360, .int .i64 t361, .int .i64 x359002_1, .int .i64 x360003_1]) ?_ 3 _ rfl; (with_reducible repeat first | apply kN | apply kD | apply kA); refine blk_put (cs := #[.int .i64 t360, .int .i64 t361, .int .i64 x360002_1, .int .i64 x360003_1]) ?_ 2 _ rfl; (with_reducible repeat first | apply kN | apply kD | apply kA); refine blk_put (cs := #[.int .i64 t360, .int .i64 x360001_1, .int .i64 x360002_1, .int .i64 x360003_1]) ?_ 1 _ rfl; (with_reducible repeat first | apply kN | apply kD | apply kA); refine blk_put (cs := #[.int .i64 x360000_1, .int .i64 x360001_1, .int .i64 x360002_1, .int .i64 x360003_1]) ?_ 0 _ rfl; (with_reducible repeat first | apply kN | apply kD | apply kA); exact BK359.out) Tryd.underlying34 rfl (by kernel_rfl)) rfl ?_
    exact ⟨_, by first | rfl | (simp [errW_none, errW_some] <;> rfl) | (simp only [← hji4, ← hji5]; first | rfl | (simp [errW_none, errW_some] <;> rfl)) | (simp [*, errW_none, errW_some] <;> rfl), by (with_reducible repeat (first | apply Kd.N_alloc | apply Kd.N_drewN | apply Kd.N_drew)); exact Kd.N_mono (Kd.N_far (p := ⟨gb359, 3, none⟩) (Kd.N_far (p := ⟨gb359, 2, none⟩) (Kd.N_far (p := ⟨gb359, 1, none⟩) (Kd.N_far (p := ⟨gb359, 0, none⟩) (Kd.N_mono HO_6.out (fun k_ hk => (⟨hk, hk.2.2⟩ : _ ∧ k_ ≠ gb359))) (fun _ hk => hk.2) (.int .i64 t360)) (fun _ hk => hk.2) (.int .i64 t361)) (fun _ hk => hk.2) (.int .i64 x359002_1)) (fun _ hk => hk.2) (.int .i64 x359003_1)) (fun _ hk => hk.1.1), by with_reducible repeat first | exact HB.out | apply bA | apply bN | apply bD | refine bS ?_ GE358.out | refine bS ?_ GE359.out⟩

/-! ### ridgewayref12_Few: function 20 -/
def ridgewayref12_Few.l0 : Nat → Int → Int → Int → Int → Int → List (S62) → List (S31) → Option (Bool)
 | 0, _, _, _, _, _, _, _ => none
 | k + 1, x3, x379000, x379001, x379002, x379003, x379004, x379005 => if x3 < (x379005.length : Int) then (if 0 ≤ x3 then (if (((rd_T31 x379005 x3).f2).length : Int) > 20 then (some false) else (if (((rd_T31 x379005 x3).f3).length : Int) > 20 then (some false) else (ridgewayref12_Few.l0 k (wrap64 (x3 + 1)) x379000 x379001 x379002 x379003 x379004 x379005))) else (none)) else (if (x379004.length : Int) ≤ 20 then (some (decide ((x379005.length : Int) ≤ 20))) else (some false))
def ridgewayref12_Few.f (k : Nat) (a0_0 : Int) (a0_1 : Int) (a0_2 : Int) (a0_3 : Int) (l0_4 : List (S62)) (l0_5 : List (S31)) : Option (Bool) := ridgewayref12_Few.l0 k 0 a0_0 a0_1 a0_2 a0_3 l0_4 l0_5
theorem ridgewayref12_Few.mono_l : ∀ k, (∀ y0 y1 y2 y3 y4 y5 y6, LeO (ridgewayref12_Few.l0 k y0 y1 y2 y3 y4 y5 y6) (ridgewayref12_Few.l0 (k + 1) y0 y1 y2 y3 y4 y5 y6))
 | 0 => fun _ _ _ _ _ _ _ r h => by simp [ridgewayref12_Few.l0] at h
 | k + 1 => by
  have ih0 := ridgewayref12_Few.mono_l k
  ·
   intro y0 y1 y2 y3 y4 y5 y6
   unfold ridgewayref12_Few.l0
   repeat' first
   | (with_reducible exact ih0 _ _ _ _ _ _ _)
   | (with_reducible exact LeO.refl _)
   | (with_reducible exact LeO.none _)
   | (with_reducible refine LeO.ite ?_ ?_)
   | (with_reducible refine LeO.bind ?_ (fun _ => ?_))
   | exact ih0 _ _ _ _ _ _ _
   | exact LeO.none _
   | refine LeO.ite ?_ ?_
   | refine LeO.bind ?_ (fun _ => ?_)
theorem ridgewayref12_Few.mono : ∀ a0 a1 a2 a3 a4 a5 k, LeO (ridgewayref12_Few.f k a0 a1 a2 a3 a4 a5) (ridgewayref12_Few.f (k + 1) a0 a1 a2 a3 a4 a5) := by
 intro a0 a1 a2 a3 a4 a5 k
 have ih0 := ridgewayref12_Few.mono_l k
 unfold ridgewayref12_Few.f
 repeat' first
   | (with_reducible exact ih0 _ _ _ _ _ _ _)
   | (with_reducible exact LeO.refl _)
   | (with_reducible exact LeO.none _)
   | (with_reducible refine LeO.ite ?_ ?_)
   | (with_reducible refine LeO.bind ?_ (fun _ => ?_))
   | exact ih0 _ _ _ _ _ _ _
   | exact LeO.none _
   | refine LeO.ite ?_ ?_
   | refine LeO.bind ?_ (fun _ => ?_)
set_option maxHeartbeats 8000000 in
set_option maxRecDepth 100000 in
theorem ridgewayref12_Few.calls (k : Nat) (a0_0 : Int) (a0_1 : Int) (a0_2 : Int) (a0_3 : Int) (A0_4 : Option Addr) (c0_4 : Nat) (l0_4 : List (S62)) (A0_5 : Option Addr) (c0_5 : Nat) (l0_5 : List (S31)) (r : Bool) (w : World) (hr0_4 : Kd.C k62 w A0_4 l0_4.length l0_4) (hc0_4 : l0_4.length ≤ c0_4) (hr0_5 : Kd.C k31 w A0_5 l0_5.length l0_5) (hc0_5 : l0_5.length ≤ c0_5) (h : ridgewayref12_Few.f k a0_0 a0_1 a0_2 a0_3 l0_4 l0_5 = some r) :
  Calls Tryd.prog 20 #[.agg #[.int .i64 a0_0, .int .i64 a0_1, .int .i64 a0_2, .int .i64 a0_3, .slice A0_4 l0_4.length c0_4, .slice A0_5 l0_5.length c0_5]] w fun e w' => e = .returned (.bool r) ∧ Below w.heap.size w w' := by
 have hu26 := Tryd.underlying26
 have HR0_4 := Aside0.mk hr0_4
 have HC0_4 := Aside0.mk hc0_4
 clear hr0_4 hc0_4
 have HR0_5 := Aside0.mk hr0_5
 have HC0_5 := Aside0.mk hc0_5
 clear hr0_5 hc0_5
 have HB := Aside0.mk (Below.refl w.heap.size w)
 have H : (ridgewayref12_Few.l0 k 0 a0_0 a0_1 a0_2 a0_3 l0_4 l0_5) = some r := h
 clear h
 have H' := Aside0.mk H
 clear H
 go_enter Tryd.func20, Tryd.ntmps20
 go_wp2_with (first | ((with_reducible refine gate_dst (N := 1) rfl ?_); (try (refine gate_guard (by rfl) ?_; dsimp only)); refine box_event ?hg (N := 1) ?hd (cs := #[.int .i64 a0_0, .int .i64 a0_1, .int .i64 a0_2, .int .i64 a0_3, .slice A0_4 l0_4.length c0_4, .slice A0_5 l0_5.length c0_5]) (t := 26) ?hr ?_; (case hd | hg => rfl); (case hr => first | (go_simp; done) | (go_simp; rfl)); intro gb378 hg w2 hbox hb; have n0_ := Aside0.mk (below_step (by with_reducible repeat first | exact HB.out | apply bA | apply bN | apply bD) hb); have BK378 := Aside0.mk (hbox); have n2_ := Aside0.mk ((by rw [hg]; exact (below_size (by with_reducible repeat first | exact HB.out | apply bA | apply bN | apply bD)) : w.heap.size ≤ gb378)); have GE378 := n2_; clear HB; have HB := n0_; have GW378 := n2_; clear n0_ n2_; clear hb hbox hg))
 go_loopg [3] k (fun kq v3 w' => ∃ (x3_1 : Int), v3 = .int .i64 x3_1 ∧ Aside0 (ridgewayref12_Few.l0 kq x3_1 a0_0 a0_1 a0_2 a0_3 l0_4 l0_5 = some r) ∧ Aside0 (kq ≤ k) ∧ Aside0 (w'.heap[gb378]? = some (.cells #[.int .i64 a0_0, .int .i64 a0_1, .int .i64 a0_2, .int .i64 a0_3, (.slice A0_4 l0_4.length c0_4), (.slice A0_5 l0_5.length c0_5)] 26 (0, 0))) ∧ Aside0 (Below w.heap.size w w'))
 case atStart => exact ⟨(0), (by first | rfl | (simp; done) | (simp [*]; done)), H', ⟨Nat.le_refl _⟩, ⟨by (with_reducible repeat first | apply kN | apply kD | apply kA); exact BK378.out⟩, ⟨by with_reducible repeat first | exact HB.out | apply bA | apply bN | apply bD | refine bS ?_ GE378.out⟩⟩
 case round =>
  clear H'
  try clear c2
  try clear p2
  obtain ⟨x3_1, rfl, HA, HK1, BK378, HB⟩ := hrel
  cases gk with
  | zero => exact absurd HA.out (by simp [ridgewayref12_Few.l0])
  | succ k1 =>
   have H := HA.out
   clear HA
   simp only [ridgewayref12_Few.l0] at H
   by_cases c3 : x3_1 < (l0_5.length : Int)
   ·
    rw [if_pos c3] at H
    have c3b0 : decide (x3_1 < (l0_5.length : Int)) = true := decide_eq_true c3
    clear c3
    by_cases c4 : 0 ≤ x3_1
    ·
     rw [if_pos c4] at H
     have c4b0 : decide (0 ≤ x3_1) = true := decide_eq_true c4
     clear c4
     by_cases c5 : (((rd_T31 l0_5 x3_1).f2).length : Int) > 20
     ·
      rw [if_pos c5] at H
      have c5b0 : decide (20 < (((rd_T31 l0_5 x3_1).f2).length : Int)) = true := decide_eq_true c5
      have c5b1 : decide (20 < ((rd_T31 l0_5 x3_1).f2).length) = true := decide_eq_true (by omega)
      clear c5
      obtain rfl := Option.some.inj H
      obtain ⟨hcz6_0, hcz6_1, hcz6_2, hcz6_3, hcz6_4, hcz6_5, hfz6_0, hfz6_1, hfz6_2, hfz6_3, hfz6_4, hfz6_5⟩ := bc6 BK378.out
      have p379 : 0 ≤ (x3_1 : Int) := of_decide_eq_true (by first | (with_reducible assumption) | assumption)
      have q379 : x3_1 < (l0_5.length : Int) := of_decide_eq_true (by first | (with_reducible assumption) | assumption)
      obtain ⟨ad379, A379_2, c379_2, A379_3, c379_3, e379, hx379_0, hx379_1, hx379_2, hx379_3, hl379_2, hi379_2, hl379_3, hi379_3⟩ := at_T31 HR0_5.out x3_1 p379 q379
      cases e379
      replace hx379_0 := cB HB.out hx379_0
      replace hx379_1 := cB HB.out hx379_1
      replace hx379_2 := cB HB.out hx379_2
      replace hx379_3 := cB HB.out hx379_3
      have HR379_2 := Aside0.mk hi379_2
      have HC379_2 := Aside0.mk hl379_2
      clear hi379_2 hl379_2
      have HR379_3 := Aside0.mk hi379_3
      have HC379_3 := Aside0.mk hl379_3
      clear hi379_3 hl379_3
      replace p379 := eq_true p379
      replace q379 := eq_true q379
      go_wp2
      go_ret
      exact ⟨by first | rfl | (simp <;> rfl) | (simp [*] <;> rfl), by with_reducible repeat first | exact HB.out | apply bA | apply bN | apply bD | refine bS ?_ GE378.out⟩
     ·
      rw [if_neg c5] at H
      have c5b0 : decide (20 < (((rd_T31 l0_5 x3_1).f2).length : Int)) = false := decide_eq_false c5
      have c5b1 : decide (20 < ((rd_T31 l0_5 x3_1).f2).length) = false := decide_eq_false (by omega)
      clear c5
      by_cases c7 : (((rd_T31 l0_5 x3_1).f3).length : Int) > 20
      ·
       rw [if_pos c7] at H
       have c7b0 : decide (20 < (((rd_T31 l0_5 x3_1).f3).length : Int)) = true := decide_eq_true c7
       have c7b1 : decide (20 < ((rd_T31 l0_5 x3_1).f3).length) = true := decide_eq_true (by omega)
       clear c7
       obtain rfl := Option.some.inj H
       obtain ⟨hcz8_0, hcz8_1, hcz8_2, hcz8_3, hcz8_4, hcz8_5, hfz8_0, hfz8_1, hfz8_2, hfz8_3, hfz8_4, hfz8_5⟩ := bc6 BK378.out
       have p379 : 0 ≤ (x3_1 : Int) := of_decide_eq_true (by first | (with_reducible assumption) | assumption)
       have q379 : x3_1 < (l0_5.length : Int) := of_decide_eq_true (by first | (with_reducible assumption) | assumption)
       obtain ⟨ad379, A379_2, c379_2, A379_3, c379_3, e379, hx379_0, hx379_1, hx379_2, hx379_3, hl379_2, hi379_2, hl379_3, hi379_3⟩ := at_T31 HR0_5.out x3_1 p379 q379
       cases e379
       replace hx379_0 := cB HB.out hx379_0
       replace hx379_1 := cB HB.out hx379_1
       replace hx379_2 := cB HB.out hx379_2
       replace hx379_3 := cB HB.out hx379_3
       have HR379_2 := Aside0.mk hi379_2
       have HC379_2 := Aside0.mk hl379_2
       clear hi379_2 hl379_2
       have HR379_3 := Aside0.mk hi379_3
       have HC379_3 := Aside0.mk hl379_3
       clear hi379_3 hl379_3
       replace p379 := eq_true p379
       replace q379 := eq_true q379
       have p380 : 0 ≤ (x3_1 : Int) := of_decide_eq_true (by first | (with_reducible assumption) | assumption)
       have q380 : x3_1 < (l0_5.length : Int) := of_decide_eq_true (by first | (with_reducible assumption) | assumption)
       obtain ⟨ad380, A380_2, c380_2, A380_3, c380_3, e380, hx380_0, hx380_1, hx380_2, hx380_3, hl380_2, hi380_2, hl380_3, hi380_3⟩ := at_T31 HR0_5.out x3_1 p380 q380
       obtain rfl : ad379 = ad380 := (by injection e380)
       replace hx380_0 := cB HB.out hx380_0
       replace hx380_1 := cB HB.out hx380_1
       replace hx380_2 := cB HB.out hx380_2
       replace hx380_3 := cB HB.out hx380_3
       have HR380_2 := Aside0.mk hi380_2
       have HC380_2 := Aside0.mk hl380_2
       clear hi380_2 hl380_2
       have HR380_3 := Aside0.mk hi380_3
       have HC380_3 := Aside0.mk hl380_3
       clear hi380_3 hl380_3
       replace p380 := eq_true p380
       replace q380 := eq_true q380
       have ea_ := Option.some.inj (hx379_2.symm.trans hx380_2)
       injection ea_ with ea_ en_ ec_
       subst ea_
       subst ec_
       clear en_
       have ea_ := Option.some.inj (hx379_3.symm.trans hx380_3)
       injection ea_ with ea_ en_ ec_
       subst ea_
       subst ec_
       clear en_
       go_wp2
       go_ret
       exact ⟨by first | rfl | (simp <;> rfl) | (simp [*] <;> rfl), by with_reducible repeat first | exact HB.out | apply bA | apply bN | apply bD | refine bS ?_ GE378.out⟩
      ·
       rw [if_neg c7] at H
       have c7b0 : decide (20 < (((rd_T31 l0_5 x3_1).f3).length : Int)) = false := decide_eq_false c7
       have c7b1 : decide (20 < ((rd_T31 l0_5 x3_1).f3).length) = false := decide_eq_false (by omega)
       clear c7
       have H' := Aside0.mk H
       clear H
       obtain ⟨hcz9_0, hcz9_1, hcz9_2, hcz9_3, hcz9_4, hcz9_5, hfz9_0, hfz9_1, hfz9_2, hfz9_3, hfz9_4, hfz9_5⟩ := bc6 BK378.out
       have p379 : 0 ≤ (x3_1 : Int) := of_decide_eq_true (by first | (with_reducible assumption) | assumption)
       have q379 : x3_1 < (l0_5.length : Int) := of_decide_eq_true (by first | (with_reducible assumption) | assumption)
       obtain ⟨ad379, A379_2, c379_2, A379_3, c379_3, e379, hx379_0, hx379_1, hx379_2, hx379_3, hl379_2, hi379_2, hl379_3, hi379_3⟩ := at_T31 HR0_5.out x3_1 p379 q379
       cases e379
       replace hx379_0 := cB HB.out hx379_0
       replace hx379_1 := cB HB.out hx379_1
       replace hx379_2 := cB HB.out hx379_2
       replace hx379_3 := cB HB.out hx379_3
       have HR379_2 := Aside0.mk hi379_2
       have HC379_2 := Aside0.mk hl379_2
       clear hi379_2 hl379_2
       have HR379_3 := Aside0.mk hi379_3
       have HC379_3 := Aside0.mk hl379_3
       clear hi379_3 hl379_3
       replace p379 := eq_true p379
       replace q379 := eq_true q379
       have p380 : 0 ≤ (x3_1 : Int) := of_decide_eq_true (by first | (with_reducible assumption) | assumption)
       have q380 : x3_1 < (l0_5.length : Int) := of_decide_eq_true (by first | (with_reducible assumption) | assumption)
       obtain ⟨ad380, A380_2, c380_2, A380_3, c380_3, e380, hx380_0, hx380_1, hx380_2, hx380_3, hl380_2, hi380_2, hl380_3, hi380_3⟩ := at_T31 HR0_5.out x3_1 p380 q380
       obtain rfl : ad379 = ad380 := (by injection e380)
       replace hx380_0 := cB HB.out hx380_0
       replace hx380_1 := cB HB.out hx380_1
       replace hx380_2 := cB HB.out hx380_2
       replace hx380_3 := cB HB.out hx380_3
       have HR380_2 := Aside0.mk hi380_2
       have HC380_2 := Aside0.mk hl380_2
       clear hi380_2 hl380_2
       have HR380_3 := Aside0.mk hi380_3
       have HC380_3 := Aside0.mk hl380_3
       clear hi380_3 hl380_3
       replace p380 := eq_true p380
       replace q380 := eq_true q380
       have ea_ := Option.some.inj (hx379_2.symm.trans hx380_2)
       injection ea_ with ea_ en_ ec_
       subst ea_
       subst ec_
       clear en_
       have ea_ := Option.some.inj (hx379_3.symm.trans hx380_3)
       injection ea_ with ea_ en_ ec_
       subst ea_
       subst ec_
       clear en_
       go_wp2
       go_roundg k1
       case measure => have := HK1.out; omega
       case rel => exact ⟨(wrap64 (x3_1 + 1)), (by first | rfl | (simp; done) | (simp [*]; done)), H', ⟨by have := HK1.out; omega⟩, ⟨by (with_reducible repeat first | apply kN | apply kD | apply kA); exact BK378.out⟩, ⟨by with_reducible repeat first | exact HB.out | apply bA | apply bN | apply bD | refine bS ?_ GE378.out⟩⟩
    ·
     rw [if_neg c4] at H
     exact absurd H (by simp)
   ·
    rw [if_neg c3] at H
    have c3b0 : decide (x3_1 < (l0_5.length : Int)) = false := decide_eq_false c3
    clear c3
    by_cases c10 : (l0_4.length : Int) ≤ 20
    ·
     rw [if_pos c10] at H
     have c10b0 : decide ((l0_4.length : Int) ≤ 20) = true := decide_eq_true c10
     have c10b1 : decide (l0_4.length ≤ 20) = true := decide_eq_true (by omega)
     clear c10
     obtain rfl := Option.some.inj H
     obtain ⟨hcz11_0, hcz11_1, hcz11_2, hcz11_3, hcz11_4, hcz11_5, hfz11_0, hfz11_1, hfz11_2, hfz11_3, hfz11_4, hfz11_5⟩ := bc6 BK378.out
     go_wp2
     go_ret
     exact ⟨by first | rfl | (simp <;> rfl) | (simp [*] <;> rfl), by with_reducible repeat first | exact HB.out | apply bA | apply bN | apply bD | refine bS ?_ GE378.out⟩
    ·
     rw [if_neg c10] at H
     have c10b0 : decide ((l0_4.length : Int) ≤ 20) = false := decide_eq_false c10
     have c10b1 : decide (l0_4.length ≤ 20) = false := decide_eq_false (by omega)
     clear c10
     obtain rfl := Option.some.inj H
     obtain ⟨hcz12_0, hcz12_1, hcz12_2, hcz12_3, hcz12_4, hcz12_5, hfz12_0, hfz12_1, hfz12_2, hfz12_3, hfz12_4, hfz12_5⟩ := bc6 BK378.out
     go_wp2
     go_ret
     exact ⟨by first | rfl | (simp <;> rfl) | (simp [*] <;> rfl), by with_reducible repeat first | exact HB.out | apply bA | apply bN | apply bD | refine bS ?_ GE378.out⟩

end Go.Proofs.YtfbndolhocojiaaDoor.L
