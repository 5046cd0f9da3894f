/- Each call of a Go function comes to what the Lean function of its name answers (written out by wip/tools/xprint.py, checked by Lean); conditions: those in each statement. -/
import Derived.Test.YtfbndolhocojiaaDoorSx0
import Derived.Test.YtfbndolhocojiaaDoorSx3
import Derived.Test.YtfbndolhocojiaaDoorSx9
namespace Go.Proofs.YtfbndolhocojiaaDoor.S
open Go.RowKit Go.Proofs.YtfbndolhocojiaaDoorW.PrintWords Go.Proofs.YtfbndolhocojiaaDoorW.PrintLast Go.Proofs.YtfbndolhocojiaaDoorW.PrintMore Go.Proofs.YtfbndolhocojiaaDoorW.PrintX
attribute [local go_sem] max2_int min2_int max_two min_two max_three min_three max_four min_four   -- for this text's walks alone
set_option linter.unusedVariables false
set_option linter.unusedSimpArgs false

/-! ### session_Tick: function 18 -/
def session_Tick.l0 : Nat → List (S45) → Int → Int → Int → Int → Int → Int → Option (Int × Int × Int × Int × (List (S45)))
 | 0, _, _, _, _, _, _, _ => none
 | k + 1, x6, x13, x14, x359000, x359001, x359002, x359003 => if x14 < x13 then (if x359002 = 0 then (some (x359000, x359001, x359002, x359003, x6)) else (if x359002 = 1 then ((session_Stop.f x359000 x359001 x359002 x359003 4 0 ([] : List Int)).bind fun bt364 => (if x6.length + bt364.2.2.2.2.length < 4398046511104 then (some (bt364.1, bt364.2.1, bt364.2.2.1, bt364.2.2.2.1, (x6 ++ bt364.2.2.2.2))) else (none))) else (if x359003 = 1 then (if x6.length < 4398046511104 then ((some (x6 ++ [(⟨4, ([] : List Int)⟩ : S45)] : List (S45))).bind fun y375 => (if (wrap64 (x359003 + (wrap64 (Int.tdiv x359001 3)))) > 0 then (session_Tick.l0 k y375 x13 (wrap64 (x14 + 1)) x359000 x359001 (wrap64 (x359002 - 1)) (wrap64 ((wrap64 (x359003 + (wrap64 (Int.tdiv x359001 3)))) - 1))) else (session_Tick.l0 k y375 x13 (wrap64 (x14 + 1)) x359000 x359001 (wrap64 (x359002 - 1)) (wrap64 (x359003 + (wrap64 (Int.tdiv x359001 3))))))) else (none)) else (if x359003 > 0 then (session_Tick.l0 k x6 x13 (wrap64 (x14 + 1)) x359000 x359001 (wrap64 (x359002 - 1)) (wrap64 (x359003 - 1))) else (session_Tick.l0 k x6 x13 (wrap64 (x14 + 1)) x359000 x359001 (wrap64 (x359002 - 1)) x359003))))) else (some (x359000, x359001, x359002, x359003, x6))
def session_Tick.f (k : Nat) (a0_0 : Int) (a0_1 : Int) (a0_2 : Int) (a0_3 : Int) (a1 : Int) : Option (Int × Int × Int × Int × (List (S45))) := (session_known.f a0_0 a0_1 a0_2 a0_3).bind fun bt360 => (session_Tick.l0 k ([] : List (S45)) (mx 0 (mn a1 1000)) 0 bt360.1 bt360.2.1 bt360.2.2.1 bt360.2.2.2)
theorem session_Tick.mono_l : ∀ k, (∀ y0 y1 y2 y3 y4 y5 y6, LeO (session_Tick.l0 k y0 y1 y2 y3 y4 y5 y6) (session_Tick.l0 (k + 1) y0 y1 y2 y3 y4 y5 y6))
 | 0 => fun _ _ _ _ _ _ _ r h => by simp [session_Tick.l0] at h
 | k + 1 => by
  have ih0 := session_Tick.mono_l k
  ·
   intro y0 y1 y2 y3 y4 y5 y6
   unfold session_Tick.l0
   repeat' first
   | (with_reducible exact ih0 _ _ _ _ _ _ _)
   | (with_reducible exact LeO.refl _)
   | (with_reducible exact LeO.none _)
   | (with_reducible refine LeO.ite ?_ ?_)
   | (with_reducible refine LeO.bind ?_ (fun _ => ?_))
   | exact ih0 _ _ _ _ _ _ _
   | exact LeO.none _
   | refine LeO.ite ?_ ?_
   | refine LeO.bind ?_ (fun _ => ?_)
theorem session_Tick.mono : ∀ a0 a1 a2 a3 a4 k, LeO (session_Tick.f k a0 a1 a2 a3 a4) (session_Tick.f (k + 1) a0 a1 a2 a3 a4) := by
 intro a0 a1 a2 a3 a4 k
 have ih0 := session_Tick.mono_l k
 unfold session_Tick.f
 repeat' first
   | (with_reducible exact ih0 _ _ _ _ _ _ _)
   | (with_reducible exact LeO.refl _)
   | (with_reducible exact LeO.none _)
   | (with_reducible refine LeO.ite ?_ ?_)
   | (with_reducible refine LeO.bind ?_ (fun _ => ?_))
   | exact ih0 _ _ _ _ _ _ _
   | exact LeO.none _
   | refine LeO.ite ?_ ?_
   | refine LeO.bind ?_ (fun _ => ?_)
set_option maxHeartbeats 8000000 in
set_option maxRecDepth 100000 in
theorem session_Tick.calls (k : Nat) (a0_0 : Int) (a0_1 : Int) (a0_2 : Int) (a0_3 : Int) (a1 : Int) (r1 : Int) (r2 : Int) (r3 : Int) (r4 : Int) (r5 : List (S45)) (w : World) (h : session_Tick.f k a0_0 a0_1 a0_2 a0_3 a1 = some (r1, r2, r3, r4, r5)) :
  Calls Tryd.prog 18 #[.agg #[.int .i64 a0_0, .int .i64 a0_1, .int .i64 a0_2, .int .i64 a0_3], .int .i64 a1] w fun e w' => ∃ v4_ : Value, e = .returned (.tuple #[.agg #[.int .i64 r1, .int .i64 r2, .int .i64 r3, .int .i64 r4], v4_]) ∧ Kd.N k45 45 w' w.heap.size (fun k_ => (w.heap.size ≤ k_)) v4_ r5 ∧ Below w.heap.size w w' := by
 have hu34 := Tryd.underlying34
 have hu41 := Tryd.underlying41
 have hu45 := Tryd.underlying45
 have HB := Aside0.mk (Below.refl w.heap.size w)
 have H : ((session_known.f a0_0 a0_1 a0_2 a0_3).bind fun bt360 => (session_Tick.l0 k ([] : List (S45)) (mx 0 (mn a1 1000)) 0 bt360.1 bt360.2.1 bt360.2.2.1 bt360.2.2.2)) = some (r1, r2, r3, r4, r5) := h
 clear h
 replace H := Option.bind_eq_some_iff.mp H
 obtain ⟨⟨t360, t361, t362, t363⟩, A30, H⟩ := H
 replace H : (session_Tick.l0 k ([] : List (S45)) (mx 0 (mn a1 1000)) 0 t360 t361 t362 t363) = some (r1, r2, r3, r4, r5) := H
 have A3 := Aside0.mk A30
 clear A30
 obtain ⟨ji4, hji4⟩ : ∃ j_ : Int, (mn a1 1000) = j_ := ⟨_, rfl⟩
 replace H : (session_Tick.l0 k ([] : List (S45)) (mx 0 (ji4)) 0 t360 t361 t362 t363) = some (r1, r2, r3, r4, r5) := by first | (rw [hji4] at H; exact H) | (simp only [hji4] at H ⊢; exact H)
 (try rw [hji4] at A3)
 (try (have hji4h : ji4 ≤ 1000 := by (rw [← hji4]; unfold mn; (repeat' split) <;> omega)))
 (try (have hji4g : ji4 ≤ 64 := by omega))
 have hji4_ : (if 1000 < a1 then 1000 else a1) = ji4 := hji4
 obtain ⟨ji5, hji5⟩ : ∃ j_ : Int, (mx 0 (ji4)) = j_ := ⟨_, rfl⟩
 replace H : (session_Tick.l0 k ([] : List (S45)) ji5 0 t360 t361 t362 t363) = some (r1, r2, r3, r4, r5) := by first | (rw [hji5] at H; exact H) | (simp only [hji5] at H ⊢; exact H)
 (try rw [hji5] at A3)
 have hji5_ : (if 0 < (ji4) then (ji4) else 0) = ji5 := hji5
 have H' := Aside0.mk H
 clear H
 go_enter Tryd.func18, Tryd.ntmps18
 go_wp2_with (first | ((with_reducible refine gate_dst (N := 2) rfl ?_); refine box_event ?hg (N := 2) ?hd (cs := #[.int .i64 a0_0, .int .i64 a0_1, .int .i64 a0_2, .int .i64 a0_3]) (t := 34) ?hr ?_; (case hd | hg => rfl); (case hr => first | (go_simp; done) | (go_simp; rfl)); intro gb358 hg w6 hbox hb; obtain ⟨hy, hz⟩ := bfst (by with_reducible repeat first | exact HB.out | apply bA | apply bN | apply bD) hb hg; replace HB := hy; have BK358 := Aside0.mk (hbox); have GE358 := hz; have GW358 := GE358; clear hy hz hb hbox hg) | ((with_reducible refine gate_dst (N := 4) rfl ?_); refine box_event ?hg (N := 4) ?hd (cs := #[.int .i64 0, .int .i64 0, .int .i64 0, .int .i64 0]) (t := 34) ?hr ?_; (case hd | hg => rfl); (case hr => first | (go_simp; done) | (go_simp; rfl)); intro gb359 hg w7 hbox hb; have hz := bZ BK358.out (by with_reducible repeat first | apply bA | apply bN | apply bD | exact Below.refl _ _) hb; have hy := below_step hz hb; have n0_ := Aside0.mk (blk_below BK358.out hy); have n1_ := Aside0.mk (below_step HB.out hy); have BK359 := Aside0.mk (hbox); have n3_ := Aside0.mk (bge HB.out hz hg); have GE359 := n3_; obtain ⟨NB358_359, NB359_358⟩ := bne2 BK358.out hz hg; clear BK358; clear HB; have BK358 := n0_; have HB := n1_; have GW359 := n3_; clear n0_ n1_ n3_; clear hy hz hb hbox hg; have hnb8 := NB358_359.out; have hnc8 := NB359_358.out; obtain ⟨hcz9_0, hcz9_1, hcz9_2, hcz9_3, hfz9_0, hfz9_1, hfz9_2, hfz9_3⟩ := bc4 BK358.out) | ((with_reducible refine gate_callee (f := 25) rfl ?_); refine goesL_ (some 10) rfl rfl Tryd.func25 (by kernel_rfl) rfl #[.agg #[.int .i64 a0_0, .int .i64 a0_1, .int .i64 a0_2, .int .i64 a0_3]] rfl (by (try simp only [List.map_toArray, List.map_cons, List.map_nil]); first | done | rfl | (simp only [List.length_drop, List.length_take]; rfl)) ?_; (with_reducible refine (session_known.calls a0_0 a0_1 a0_2 a0_3 t360 t361 t362 t363 _ A3.out).mono ?_); rintro e w10 ⟨rfl, hb⟩; refine ⟨_, rfl, ?_⟩; have hy := bQ BK358.out (by with_reducible repeat first | apply bA | apply bN | apply bD | exact Below.refl _ _) hb; replace BK358 := Aside0.mk (blk_below BK358.out hy); replace BK359 := Aside0.mk (blk_below BK359.out hy); replace HB := Aside0.mk (below_step HB.out hy); clear hy; (try clear hb); (try clear hb2); (try clear hk); (try clear hi); obtain ⟨hcz11_0, hcz11_1, hcz11_2, hcz11_3, hfz11_0, hfz11_1, hfz11_2, hfz11_3⟩ := bc4 BK358.out))
 go_loopg [6, 14] k (fun kq v6 v14 w' => ∃ (x6_1 : List (S45)) (x14_1 : Int) (x359002_1 : Int) (x359003_1 : Int) (x360000_1 : Int) (x360001_1 : Int) (x360002_1 : Int) (x360003_1 : Int), v14 = .int .i64 x14_1 ∧ Aside0 (session_Tick.l0 kq x6_1 ji5 x14_1 t360 t361 x359002_1 x359003_1 = some (r1, r2, r3, r4, r5)) ∧ Aside0 (kq ≤ k) ∧ Aside0 (Kd.N k45 45 w' w.heap.size (fun k_ => (w.heap.size ≤ k_) ∧ k_ ≠ gb358 ∧ k_ ≠ gb359) v6 x6_1) ∧ Aside0 (w'.heap[gb358]? = some (.cells #[.int .i64 t360, .int .i64 t361, .int .i64 x359002_1, .int .i64 x359003_1] 34 (0, 0))) ∧ Aside0 (w'.heap[gb359]? = some (.cells #[.int .i64 x360000_1, .int .i64 x360001_1, .int .i64 x360002_1, .int .i64 x360003_1] 34 (0, 0))) ∧ Aside0 (Below w.heap.size w w'))
 case atStart => exact ⟨(([] : List (S45))), (0), (t362), (t363), (0), (0), (0), (0), (by first | rfl | (simp; done) | (simp [*]; done)), H', ⟨Nat.le_refl _⟩, ⟨by first | exact Kd.S_nil _ _ _ _ _ | exact Kd.N_nil _ _ _ _ _ | exact Kd.V_nil _ _ _ _ _ | exact Kd.Q_nil _ _ _ _ _ | exact Kd.R_nil _ _ _ _ _⟩, ⟨by (with_reducible repeat first | apply kN | apply kD | apply kA); refine blk_put (cs := #[.int .i64 t360, .int .i64 t361, .int .i64 t362, .int .i64 a0_3]) ?_ 3 _ rfl; (with_reducible repeat first | apply kN | apply kD | apply kA); refine blk_put (cs := #[.int .i64 t360, .int .i64 t361, .int .i64 a0_2, .int .i64 a0_3]) ?_ 2 _ rfl; (with_reducible repeat first | apply kN | apply kD | apply kA); refine blk_put (cs := #[.int .i64 t360, .int .i64 a0_1, .int .i64 a0_2, .int .i64 a0_3]) ?_ 1 _ rfl; (with_reducible repeat first | apply kN | apply kD | apply kA); refine blk_put (cs := #[.int .i64 a0_0, .int .i64 a0_1, .int .i64 a0_2, .int .i64 a0_3]) ?_ 0 _ rfl; (with_reducible repeat first | apply kN | apply kD | apply kA); exact BK358.out⟩, ⟨by (with_reducible repeat first | apply kN | apply kD | apply kA); refine blk_far ?_ NB359_358.out _; (with_reducible repeat first | apply kN | apply kD | apply kA); refine blk_far ?_ NB359_358.out _; (with_reducible repeat first | apply kN | apply kD | apply kA); refine blk_far ?_ NB359_358.out _; (with_reducible repeat first | apply kN | apply kD | apply kA); refine blk_far ?_ NB359_358.out _; (with_reducible repeat first | apply kN | apply kD | apply kA); exact BK359.out⟩, ⟨by with_reducible repeat first | exact HB.out | apply bA | apply bN | apply bD | refine bS ?_ GE358.out | refine bS ?_ GE359.out⟩⟩
 case round =>
  clear H'
  try clear c1
  try clear c2
  try clear p2
  try clear c8
  try clear hcz11_0 hcz11_1 hcz11_2 hcz11_3
  try clear hcz9_0 hcz9_1 hcz9_2 hcz9_3
  try clear hfz11_0 hfz11_1 hfz11_2 hfz11_3
  try clear hfz9_0 hfz9_1 hfz9_2 hfz9_3
  obtain ⟨x6_1, x14_1, x359002_1, x359003_1, x360000_1, x360001_1, x360002_1, x360003_1, rfl, HA, HK1, HO_6, BK358, BK359, HB⟩ := hrel
  cases gk with
  | zero => exact absurd HA.out (by simp [session_Tick.l0])
  | succ k1 =>
   have H := HA.out
   clear HA
   simp only [session_Tick.l0] at H
   by_cases c12 : x14_1 < ji5
   ·
    rw [if_pos c12] at H
    have c12b0 : decide (x14_1 < ji5) = true := decide_eq_true c12
    clear c12
    by_cases c13 : x359002_1 = 0
    ·
     rw [if_pos c13] at H
     have c13b0 : (x359002_1 == 0) = true := beq_iff_eq.mpr c13
     have c13b1 : (x359002_1 != 0) = false := bne_eq_false_iff_eq.mpr c13
     clear c13
     simp only [Option.some.injEq, Prod.mk.injEq] at H
     obtain ⟨rfl, rfl, rfl, rfl, rfl⟩ := H
     have hnb14 := NB358_359.out
     have hnc14 := NB359_358.out
     obtain ⟨hcz15_0, hcz15_1, hcz15_2, hcz15_3, hfz15_0, hfz15_1, hfz15_2, hfz15_3⟩ := bc4 BK358.out
     obtain ⟨hcz16_0, hcz16_1, hcz16_2, hcz16_3, hfz16_0, hfz16_1, hfz16_2, hfz16_3⟩ := bc4 BK359.out
     go_wp2
     refine bodyPost_ret (results_ct rfl _ _ gb359 34 #[.int .i64 t360, .int .i64 t361, .int .i64 x359002_1, .int .i64 x359003_1] (0, 0) _ rfl (by (with_reducible repeat first | apply kN | apply kD | apply kA); refine blk_put (cs := #[.int .i64 t360, .int .i64 t361, .int .i64 x359002_1, .int .i64 x360003_1]) ?_ 3 _ rfl; (with_reducible repeat first | apply kN | apply kD | apply kA); refine blk_put (cs := #[.int .i64 t360, .int .i64 t361, .int .i64 x360002_1, .int .i64 x360003_1]) ?_ 2 _ rfl; (with_reducible repeat first | apply kN | apply kD | apply kA); refine blk_put (cs := #[.int .i64 t360, .int .i64 x360001_1, .int .i64 x360002_1, .int .i64 x360003_1]) ?_ 1 _ rfl; (with_reducible repeat first | apply kN | apply kD | apply kA); refine blk_put (cs := #[.int .i64 x360000_1, .int .i64 x360001_1, .int .i64 x360002_1, .int .i64 x360003_1]) ?_ 0 _ rfl; (with_reducible repeat first | apply kN | apply kD | apply kA); exact BK359.out) Tryd.underlying34 rfl (by kernel_rfl)) rfl ?_
     exact ⟨_, by first | rfl | (simp [errW_none, errW_some] <;> rfl) | (simp only [← hji4, ← hji5]; first | rfl | (simp [errW_none, errW_some] <;> rfl)) | (simp [*, errW_none, errW_some] <;> rfl), by (with_reducible repeat (first | apply Kd.N_alloc | apply Kd.N_drewN | apply Kd.N_drew)); exact Kd.N_mono (Kd.N_far (p := ⟨gb359, 3, none⟩) (Kd.N_far (p := ⟨gb359, 2, none⟩) (Kd.N_far (p := ⟨gb359, 1, none⟩) (Kd.N_far (p := ⟨gb359, 0, none⟩) (Kd.N_mono HO_6.out (fun k_ hk => (⟨hk, hk.2.2⟩ : _ ∧ k_ ≠ gb359))) (fun _ hk => hk.2) (.int .i64 t360)) (fun _ hk => hk.2) (.int .i64 t361)) (fun _ hk => hk.2) (.int .i64 x359002_1)) (fun _ hk => hk.2) (.int .i64 x359003_1)) (fun _ hk => hk.1.1), by with_reducible repeat first | exact HB.out | apply bA | apply bN | apply bD | refine bS ?_ GE358.out | refine bS ?_ GE359.out⟩
    ·
     rw [if_neg c13] at H
     have c13b0 : (x359002_1 == 0) = false := beq_eq_false_iff_ne.mpr c13
     have c13b1 : (x359002_1 != 0) = true := bne_iff_ne.mpr c13
     by_cases c17 : x359002_1 = 1
     ·
      rw [if_pos c17] at H
      have c17b0 : (x359002_1 == 1) = true := beq_iff_eq.mpr c17
      have c17b1 : (x359002_1 != 1) = false := bne_eq_false_iff_eq.mpr c17
      clear c17
      replace H := Option.bind_eq_some_iff.mp H
      obtain ⟨⟨t364, t365, t366, t367, t368⟩, A180, H⟩ := H
      replace H : (if x6_1.length + t368.length < 4398046511104 then (some (t364, t365, t366, t367, (x6_1 ++ t368))) else (none)) = some (r1, r2, r3, r4, r5) := H
      have A18 := Aside0.mk A180
      clear A180
      by_cases c19 : x6_1.length + t368.length < 4398046511104
      ·
       rw [if_pos c19] at H
       have LMc19 := Aside0.mk c19
       clear c19
       obtain ⟨y372, hy372⟩ : ∃ y_ : List (S45), y_ = (x6_1 ++ t368) := ⟨_, rfl⟩
       replace H : (some (t364, t365, t366, t367, y372)) = some (r1, r2, r3, r4, r5) := by first | (rw [hy372]; with_reducible exact H) | (have H2_ := (Option.bind_some _ _).symm.trans H; rw [hy372]; with_reducible exact H2_) | (have H2_ := (Option.bind_some _ _).symm.trans H; with_reducible exact H2_) | with_reducible exact H | (rw [hy372]; exact H) | exact H
       have Ny372 := Aside0.mk hy372
       clear hy372
       simp only [Option.some.injEq, Prod.mk.injEq] at H
       obtain ⟨rfl, rfl, rfl, rfl, rfl⟩ := H
       have hnb20 := NB358_359.out
       have hnc20 := NB359_358.out
       obtain ⟨hcz21_0, hcz21_1, hcz21_2, hcz21_3, hfz21_0, hfz21_1, hfz21_2, hfz21_3⟩ := bc4 BK358.out
       try go_wp2_with (first | ((with_reducible refine gate_callee (f := 39) rfl ?_); refine goesL_ (some 29) rfl rfl Tryd.func39 (by kernel_rfl) rfl #[.agg #[.int .i64 t360, .int .i64 t361, .int .i64 x359002_1, .int .i64 x359003_1], .agg #[.int .i64 4, .int .i64 0, .slice none 0 0]] rfl (by (try simp only [List.map_toArray, List.map_cons, List.map_nil]); first | done | rfl | (simp only [List.length_drop, List.length_take]; rfl)) ?_; (refine (session_Stop.calls t360 t361 x359002_1 x359003_1 4 0 _ _ ([] : List Int) t364 t365 t366 t367 t368 _ ?side1 ?side2 A18.out).mono ?_); (case side1 => exact Kd.C_nil _ _); (case side2 => exact Nat.le_refl _); rintro e w22 ⟨v369, rfl, ho0, hb⟩; refine ⟨_, rfl, ?_⟩; have HO370 := Aside0.mk (Kd.N_lower (Kd.N_mono (ok' := fun k_ => (w.heap.size ≤ k_) ∧ some k_ ≠ (u6 : Value).ownBlock ∧ k_ ≠ gb358 ∧ k_ ≠ gb359) ho0 (fun k_ hk_ => ⟨(Nat.le_trans (below_size (by with_reducible repeat first | exact HB.out | apply bA | apply bN | apply bD | refine bS ?_ GE358.out | refine bS ?_ GE359.out)) hk_), (Kd.fresh' (Kd.N_lt (by (with_reducible repeat (first | apply Kd.N_alloc | apply Kd.N_drewN | apply Kd.N_drew)); exact HO_6.out)) k_ hk_), (Kd.freshB (g := gb358) (o := .cells #[.int .i64 t360, .int .i64 t361, .int .i64 x359002_1, .int .i64 x359003_1] 34 (0, 0)) (by (with_reducible repeat first | apply kN | apply kD | apply kA); exact BK358.out) k_ hk_), (Kd.freshB (g := gb359) (o := .cells #[.int .i64 x360000_1, .int .i64 x360001_1, .int .i64 x360002_1, .int .i64 x360003_1] 34 (0, 0)) (by (with_reducible repeat first | apply kN | apply kD | apply kA); exact BK359.out) k_ hk_)⟩)) (below_size (by with_reducible repeat first | exact HB.out | apply bA | apply bN | apply bD | refine bS ?_ GE358.out | refine bS ?_ GE359.out))); replace HO_6 := Aside0.mk (Kd.N_elder' (by (with_reducible repeat (first | apply Kd.N_alloc | apply Kd.N_drewN | apply Kd.N_drew)); exact HO_6.out) (Kd.N_base ho0) hb); have hy := bQ BK358.out (by with_reducible repeat first | apply bA | apply bN | apply bD | exact Below.refl _ _) hb; replace BK358 := Aside0.mk (blk_below BK358.out hy); replace BK359 := Aside0.mk (blk_below BK359.out hy); replace HB := Aside0.mk (below_step HB.out hy); clear hy; (try clear hb); (try clear hb2); (try clear hk); (try clear hi); (try clear ho0)) | ((with_reducible refine gate_dst (N := 7) rfl ?_); refine box_event ?hg (N := 7) ?hd (cs := #[.int .i64 0, .int .i64 0, .int .i64 0, .int .i64 0]) (t := 34) ?hr ?_; (case hd | hg => rfl); (case hr => first | (go_simp; done) | (go_simp; rfl)); intro gb371 hg w23 hbox hb; have hz := bZ BK358.out (by with_reducible repeat first | apply bA | apply bN | apply bD | exact Below.refl _ _) hb; have hy := below_step hz hb; have n0_ := Aside0.mk (Kd.N_below (Kd.N_elderB (by (with_reducible repeat (first | apply Kd.N_alloc | apply Kd.N_drewN | apply Kd.N_drew)); exact HO_6.out) gb371 (Nat.le_of_eq hg.symm)) hb); have n1_ := Aside0.mk (Kd.N_below (Kd.N_elderB (by (with_reducible repeat (first | apply Kd.N_alloc | apply Kd.N_drewN | apply Kd.N_drew)); exact HO370.out) gb371 (Nat.le_of_eq hg.symm)) hb); have n2_ := Aside0.mk (blk_below BK358.out hy); have n3_ := Aside0.mk (blk_below BK359.out hy); have n4_ := Aside0.mk (below_step HB.out hy); have BK371 := Aside0.mk (hbox); have n6_ := Aside0.mk (bge HB.out hz hg); have GE371 := n6_; obtain ⟨NB358_371, NB371_358⟩ := bne2 BK358.out hz hg; obtain ⟨NB359_371, NB371_359⟩ := bne2 BK359.out hz hg; clear HO_6; clear HO370; clear BK358; clear BK359; clear HB; have HO_6 := n0_; have HO370 := n1_; have BK358 := n2_; have BK359 := n3_; have HB := n4_; have GW371 := n6_; clear n0_ n1_ n2_ n3_ n4_ n6_; clear hy hz hb hbox hg; have hnb24 := NB371_358.out; have hnc24 := NB358_371.out; have hnb25 := NB371_359.out; have hnc25 := NB359_371.out; obtain ⟨hcz26_0, hcz26_1, hcz26_2, hcz26_3, hfz26_0, hfz26_1, hfz26_2, hfz26_3⟩ := bc4 BK371.out))
       have n0_ : Aside0 (Kd.N k45 45 ((((w23.setCell ⟨gb371, 0, none⟩ (.int .i64 t364)).setCell ⟨gb371, 1, none⟩ (.int .i64 t365)).setCell ⟨gb371, 2, none⟩ (.int .i64 t366)).setCell ⟨gb371, 3, none⟩ (.int .i64 t367)) w.heap.size (fun k_ => (w.heap.size ≤ k_) ∧ some k_ ≠ (v369 : Value).ownBlock ∧ k_ ≠ gb358 ∧ k_ ≠ gb359 ∧ k_ ≠ gb371) u6 x6_1) := ⟨by (with_reducible repeat (first | apply Kd.N_alloc | apply Kd.N_drewN | apply Kd.N_drew)); exact Kd.N_mono (Kd.N_far (p := ⟨gb371, 3, none⟩) (Kd.N_far (p := ⟨gb371, 2, none⟩) (Kd.N_far (p := ⟨gb371, 1, none⟩) (Kd.N_far (p := ⟨gb371, 0, none⟩) (Kd.N_mono HO_6.out (fun k_ hk => (⟨hk, hk.2⟩ : _ ∧ k_ ≠ gb371))) (fun _ hk => hk.2) (.int .i64 t364)) (fun _ hk => hk.2) (.int .i64 t365)) (fun _ hk => hk.2) (.int .i64 t366)) (fun _ hk => hk.2) (.int .i64 t367)) (fun _ hk => ⟨hk.1.1.1.1, ⟨hk.1.1.2, ⟨hk.1.1.1.2.1, ⟨hk.1.1.1.2.2, hk.1.2⟩⟩⟩⟩)⟩
       have n1_ : Aside0 (Kd.N k45 45 ((((w23.setCell ⟨gb371, 0, none⟩ (.int .i64 t364)).setCell ⟨gb371, 1, none⟩ (.int .i64 t365)).setCell ⟨gb371, 2, none⟩ (.int .i64 t366)).setCell ⟨gb371, 3, none⟩ (.int .i64 t367)) w.heap.size (fun k_ => (w.heap.size ≤ k_) ∧ some k_ ≠ (u6 : Value).ownBlock ∧ k_ ≠ gb358 ∧ k_ ≠ gb359 ∧ k_ ≠ gb371) v369 t368) := ⟨by (with_reducible repeat (first | apply Kd.N_alloc | apply Kd.N_drewN | apply Kd.N_drew)); exact Kd.N_mono (Kd.N_far (p := ⟨gb371, 3, none⟩) (Kd.N_far (p := ⟨gb371, 2, none⟩) (Kd.N_far (p := ⟨gb371, 1, none⟩) (Kd.N_far (p := ⟨gb371, 0, none⟩) (Kd.N_mono HO370.out (fun k_ hk => (⟨hk, hk.2⟩ : _ ∧ k_ ≠ gb371))) (fun _ hk => hk.2) (.int .i64 t364)) (fun _ hk => hk.2) (.int .i64 t365)) (fun _ hk => hk.2) (.int .i64 t366)) (fun _ hk => hk.2) (.int .i64 t367)) (fun _ hk => ⟨hk.1.1.1, ⟨hk.1.1.2.1, ⟨hk.1.1.2.2.1, ⟨hk.1.1.2.2.2, hk.1.2⟩⟩⟩⟩)⟩
       have n2_ : Aside0 (((((w23.setCell ⟨gb371, 0, none⟩ (.int .i64 t364)).setCell ⟨gb371, 1, none⟩ (.int .i64 t365)).setCell ⟨gb371, 2, none⟩ (.int .i64 t366)).setCell ⟨gb371, 3, none⟩ (.int .i64 t367)).heap[gb358]? = some (.cells #[.int .i64 t360, .int .i64 t361, .int .i64 x359002_1, .int .i64 x359003_1] 34 (0, 0))) := ⟨by (with_reducible repeat first | apply kN | apply kD | apply kA); refine blk_far ?_ NB358_371.out _; (with_reducible repeat first | apply kN | apply kD | apply kA); refine blk_far ?_ NB358_371.out _; (with_reducible repeat first | apply kN | apply kD | apply kA); refine blk_far ?_ NB358_371.out _; (with_reducible repeat first | apply kN | apply kD | apply kA); refine blk_far ?_ NB358_371.out _; (with_reducible repeat first | apply kN | apply kD | apply kA); exact BK358.out⟩
       have n3_ : Aside0 (((((w23.setCell ⟨gb371, 0, none⟩ (.int .i64 t364)).setCell ⟨gb371, 1, none⟩ (.int .i64 t365)).setCell ⟨gb371, 2, none⟩ (.int .i64 t366)).setCell ⟨gb371, 3, none⟩ (.int .i64 t367)).heap[gb359]? = some (.cells #[.int .i64 x360000_1, .int .i64 x360001_1, .int .i64 x360002_1, .int .i64 x360003_1] 34 (0, 0))) := ⟨by (with_reducible repeat first | apply kN | apply kD | apply kA); refine blk_far ?_ NB359_371.out _; (with_reducible repeat first | apply kN | apply kD | apply kA); refine blk_far ?_ NB359_371.out _; (with_reducible repeat first | apply kN | apply kD | apply kA); refine blk_far ?_ NB359_371.out _; (with_reducible repeat first | apply kN | apply kD | apply kA); refine blk_far ?_ NB359_371.out _; (with_reducible repeat first | apply kN | apply kD | apply kA); exact BK359.out⟩
       have n4_ : Aside0 (((((w23.setCell ⟨gb371, 0, none⟩ (.int .i64 t364)).setCell ⟨gb371, 1, none⟩ (.int .i64 t365)).setCell ⟨gb371, 2, none⟩ (.int .i64 t366)).setCell ⟨gb371, 3, none⟩ (.int .i64 t367)).heap[gb371]? = some (.cells #[.int .i64 t364, .int .i64 t365, .int .i64 t366, .int .i64 t367] 34 (0, 0))) := ⟨by (with_reducible repeat first | apply kN | apply kD | apply kA); refine blk_put (cs := #[.int .i64 t364, .int .i64 t365, .int .i64 t366, .int .i64 0]) ?_ 3 _ rfl; (with_reducible repeat first | apply kN | apply kD | apply kA); refine blk_put (cs := #[.int .i64 t364, .int .i64 t365, .int .i64 0, .int .i64 0]) ?_ 2 _ rfl; (with_reducible repeat first | apply kN | apply kD | apply kA); refine blk_put (cs := #[.int .i64 t364, .int .i64 0, .int .i64 0, .int .i64 0]) ?_ 1 _ rfl; (with_reducible repeat first | apply kN | apply kD | apply kA); refine blk_put (cs := #[.int .i64 0, .int .i64 0, .int .i64 0, .int .i64 0]) ?_ 0 _ rfl; (with_reducible repeat first | apply kN | apply kD | apply kA); exact BK371.out⟩
       have n5_ : Aside0 (Below w.heap.size w ((((w23.setCell ⟨gb371, 0, none⟩ (.int .i64 t364)).setCell ⟨gb371, 1, none⟩ (.int .i64 t365)).setCell ⟨gb371, 2, none⟩ (.int .i64 t366)).setCell ⟨gb371, 3, none⟩ (.int .i64 t367))) := ⟨by with_reducible repeat first | exact HB.out | apply bA | apply bN | apply bD | refine bS ?_ GE358.out | refine bS ?_ GE359.out | refine bS ?_ GE371.out⟩
       (try clear HO_6)
       (try clear HO370)
       (try clear BK358)
       (try clear BK359)
       (try clear BK371)
       (try clear HB)
       generalize ((((w23.setCell ⟨gb371, 0, none⟩ (.int .i64 t364)).setCell ⟨gb371, 1, none⟩ (.int .i64 t365)).setCell ⟨gb371, 2, none⟩ (.int .i64 t366)).setCell ⟨gb371, 3, none⟩ (.int .i64 t367)) = w27 at n0_ n1_ n2_ n3_ n4_ n5_ ⊢
       have HO_6 := n0_
       have HO370 := n1_
       have BK358 := n2_
       have BK359 := n3_
       have BK371 := n4_
       have HB := n5_
       clear n0_ n1_ n2_ n3_ n4_ n5_
       replace HO_6 := Aside0.mk (Kd.N_drew HO_6.out)
       replace HO370 := Aside0.mk (Kd.N_drew HO370.out)
       replace BK358 := Aside0.mk (blk_drew BK358.out)
       replace BK359 := Aside0.mk (blk_drew BK359.out)
       replace BK371 := Aside0.mk (blk_drew BK371.out)
       replace HB := Aside0.mk (below_drew1 HB.out)
       obtain ⟨Ao30, co30, eo30⟩ := Kd.N_slice HO370.out
       (first | subst eo30 | (injection eo30 with f1_ f2_ f3_; have f4_ := f1_.symm; have f5_ := f3_.symm; clear f1_ f2_ f3_; subst f4_; subst f5_))
       refine start_ (n := 6) (S := fun w' => w'.cell? ⟨gb371, 0, none⟩ = some (.int .i64 t364) ∧ w'.cell? ⟨gb371, 1, none⟩ = some (.int .i64 t365) ∧ w'.cell? ⟨gb371, 2, none⟩ = some (.int .i64 t366) ∧ w'.cell? ⟨gb371, 3, none⟩ = some (.int .i64 t367)) (ds := []) #[false, false, false, false, false, false] (by kernel_rfl) rfl rfl ⟨(blk_cell BK371.out 0).trans rfl, (blk_cell BK371.out 1).trans rfl, (blk_cell BK371.out 2).trans rfl, (blk_cell BK371.out 3).trans rfl⟩ (fun hHeld => ?_)
       generalize w27.drew = w28 at HO_6 HO370 BK358 BK359 BK371 HB hHeld ⊢
       refine pure_ (i := 1) (N := some 33) (v := ?_) (a' := ?_) #[false, true, false, false, false, false] rfl rfl (by kernel_rfl) (fun _ _ _ h => h) (Or.inl ⟨by rfl, ?_⟩) ?_ ?_
       rotate_left; · intro w'; go_simp; with_reducible rfl
       rotate_left; · simp only [Act.put, sA, sB, sC, i64_w, i32_w]; rfl
       refine pure_ (i := 2) (N := some 34) (v := ?_) (a' := ?_) #[false, true, true, false, false, false] rfl rfl (by kernel_rfl) (fun _ _ _ h => h) (Or.inl ⟨by rfl, ?_⟩) ?_ ?_
       rotate_left; · intro w'; go_simp; with_reducible rfl
       rotate_left; · simp only [Act.put, sA, sB, sC, i64_w, i32_w]; rfl
       refine take_ (i := 0) (N := some 32) (v := ?_) (a' := ?_) #[true, true, true, false, false, false] rfl rfl (by kernel_rfl) (fun _ _ _ h => h) (Or.inl ⟨by rfl, ?_⟩) hHeld ?_ ?_
       rotate_left; · rintro w' ⟨s0, s1, s2, s3⟩; go_simp; with_reducible rfl
       rotate_left; · simp only [Act.put, sA, sB, sC, i64_w, i32_w]; rfl
       refine one_ (i := 3) (N := some 35) #[true, true, true, true, false, false] rfl rfl (by kernel_rfl) (by decide) (fun K hK => ?_)
       refine Kd.N_append_rows_step k45 (w0 := w) w.heap.size (by rfl) (.tmp 33) (.tmp 34) 35 45 (.agg #[(.int .i64 0), (.slice none 0 0)]) 32 rfl Tryd.underlying35 info45 rfl (by decide) (by omega) u6 x6_1 t368 _ _ _ (fun k_ => (w.heap.size ≤ k_) ∧ k_ ≠ gb358 ∧ k_ ≠ gb359 ∧ k_ ≠ gb371) (fun k_ => ((fun k_ => (w.heap.size ≤ k_) ∧ k_ ≠ gb358 ∧ k_ ≠ gb359 ∧ k_ ≠ gb371)) k_ ∧ some k_ ≠ (u6 : Value).ownBlock) rfl rfl ?aO ?aR (fun _ hk => hk) ?aF ?aB ?aS ?aL ?_
       (case aR => exact (by skip; exact Kd.N_F (Kd.N_mono (ok' := (fun k_ => ((fun k_ => (w.heap.size ≤ k_) ∧ k_ ≠ gb358 ∧ k_ ≠ gb359 ∧ k_ ≠ gb371)) k_ ∧ some k_ ≠ (u6 : Value).ownBlock)) (HO370.out) (fun k_ hk => ⟨⟨hk.1, ⟨hk.2.2.1, ⟨hk.2.2.2.1, hk.2.2.2.2⟩⟩⟩, hk.2.1⟩))))
       (case aB => exact (by with_reducible repeat first | exact HB.out | apply bA | apply bN | apply bD | refine bS ?_ GE358.out | refine bS ?_ GE359.out | refine bS ?_ GE371.out))
       (case aF => exact (fun k_ hk => ⟨(Nat.le_trans (below_size (by with_reducible repeat first | exact HB.out | apply bA | apply bN | apply bD | refine bS ?_ GE358.out | refine bS ?_ GE359.out | refine bS ?_ GE371.out)) hk), Kd.freshB (g := gb358) (o := .cells #[.int .i64 t360, .int .i64 t361, .int .i64 x359002_1, .int .i64 x359003_1] 34 (0, 0)) (by (with_reducible repeat first | apply kN | apply kD | apply kA); exact BK358.out) k_ hk, Kd.freshB (g := gb359) (o := .cells #[.int .i64 x360000_1, .int .i64 x360001_1, .int .i64 x360002_1, .int .i64 x360003_1] 34 (0, 0)) (by (with_reducible repeat first | apply kN | apply kD | apply kA); exact BK359.out) k_ hk, Kd.freshB (g := gb371) (o := .cells #[.int .i64 t364, .int .i64 t365, .int .i64 t366, .int .i64 t367] 34 (0, 0)) (by (with_reducible repeat first | apply kN | apply kD | apply kA); exact BK371.out) k_ hk⟩))
       (case aO => exact (by (with_reducible repeat (first | apply Kd.N_alloc | apply Kd.N_drewN | apply Kd.N_drew)); exact Kd.N_mono HO_6.out (fun _ hk => ⟨hk.1, ⟨hk.2.2.1, ⟨hk.2.2.2.1, hk.2.2.2.2⟩⟩⟩)))
       (case aS => exact (below_size (by with_reducible repeat first | exact HB.out | apply bA | apply bN | apply bD | refine bS ?_ GE358.out | refine bS ?_ GE359.out | refine bS ?_ GE371.out)))
       (case aL => have := LMc19.out; omega)
       intro v373 w29 ho hb hg hat
       rw [← Ny372.out] at ho
       replace BK358 := Aside0.mk (blk_grown (g := gb358) (o := .cells #[.int .i64 t360, .int .i64 t361, .int .i64 x359002_1, .int .i64 x359003_1] 34 (0, 0)) (by (with_reducible repeat first | apply kN | apply kD | apply kA); exact BK358.out) hg (Kd.N_ne HO_6.out BK358.out (by decide)))
       replace BK359 := Aside0.mk (blk_grown (g := gb359) (o := .cells #[.int .i64 x360000_1, .int .i64 x360001_1, .int .i64 x360002_1, .int .i64 x360003_1] 34 (0, 0)) (by (with_reducible repeat first | apply kN | apply kD | apply kA); exact BK359.out) hg (Kd.N_ne HO_6.out BK359.out (by decide)))
       replace HO370 := Aside0.mk (Kd.N_afterv (ok := (fun k_ => (w.heap.size ≤ k_) ∧ k_ ≠ gb358 ∧ k_ ≠ gb359 ∧ k_ ≠ gb371)) (by (with_reducible repeat (first | apply Kd.N_alloc | apply Kd.N_drewN | apply Kd.N_drew)); exact Kd.N_mono HO370.out (fun _ hk => ⟨⟨hk.1, ⟨hk.2.2.1, ⟨hk.2.2.2.1, hk.2.2.2.2⟩⟩⟩, hk.2.1⟩)) hg hat)
       replace BK371 := Aside0.mk (blk_grown (g := gb371) (o := .cells #[.int .i64 t364, .int .i64 t365, .int .i64 t366, .int .i64 t367] 34 (0, 0)) (by (with_reducible repeat first | apply kN | apply kD | apply kA); exact BK371.out) hg (Kd.N_ne HO_6.out BK371.out (by decide)))
       replace HB := Aside0.mk (hb)
       have HO374 := Aside0.mk (ho)
       clear HO_6 ho hb hg hat
       refine hK.out _ _ ⟨(blk_cell BK371.out 0).trans rfl, (blk_cell BK371.out 1).trans rfl, (blk_cell BK371.out 2).trans rfl, (blk_cell BK371.out 3).trans rfl⟩ (fun hHeld => ?_)
       clear hK K
       refine norm_ (a' := ?_) ?_ ?_
       rotate_left
       ·
        show Act.put _ (some 35) _ = _
        simp only [Act.put, sA, sB, sC, i64_w, i32_w]
        rfl
       refine one_ (i := 4) (N := none) #[true, true, true, true, true, false] rfl rfl (by kernel_rfl) (by decide) (fun K hK => ?_)
       have hs31 : w29.cell? ⟨gb359, 0, none⟩ = some (.int .i64 x360000_1) := (blk_cell BK359.out 0).trans rfl
       have hfs31 := blk_frozen BK359.out 0
       have hns31_0 := NB358_359.out
       have hns31_2 := NB371_359.out
       have hms31_0 := NB359_358.out
       have hms31_2 := NB359_371.out
       have hs32 : w29.cell? ⟨gb359, 1, none⟩ = some (.int .i64 x360001_1) := (blk_cell BK359.out 1).trans rfl
       have hfs32 := blk_frozen BK359.out 1
       have hns32_0 := NB358_359.out
       have hns32_2 := NB371_359.out
       have hms32_0 := NB359_358.out
       have hms32_2 := NB359_371.out
       have hs33 : w29.cell? ⟨gb359, 2, none⟩ = some (.int .i64 x360002_1) := (blk_cell BK359.out 2).trans rfl
       have hfs33 := blk_frozen BK359.out 2
       have hns33_0 := NB358_359.out
       have hns33_2 := NB371_359.out
       have hms33_0 := NB359_358.out
       have hms33_2 := NB359_371.out
       have hs34 : w29.cell? ⟨gb359, 3, none⟩ = some (.int .i64 x360003_1) := (blk_cell BK359.out 3).trans rfl
       have hfs34 := blk_frozen BK359.out 3
       have hns34_0 := NB358_359.out
       have hns34_2 := NB371_359.out
       have hms34_0 := NB359_358.out
       have hms34_2 := NB359_371.out
       refine skip_ (w1 := ?_) (by rfl) rfl ?_ ?_
       rotate_left
       ·
        go_simp
        rfl
       refine hK.out _ _ ⟨((cell_far (p := ⟨gb359, _, none⟩) NB371_359.out _).trans (((cell_far (p := ⟨gb359, _, none⟩) NB371_359.out _).trans (((cell_far (p := ⟨gb359, _, none⟩) NB371_359.out _).trans (((cell_far (p := ⟨gb359, _, none⟩) NB371_359.out _).trans (hHeld.1)))))))), ((cell_far (p := ⟨gb359, _, none⟩) NB371_359.out _).trans (((cell_far (p := ⟨gb359, _, none⟩) NB371_359.out _).trans (((cell_far (p := ⟨gb359, _, none⟩) NB371_359.out _).trans (((cell_far (p := ⟨gb359, _, none⟩) NB371_359.out _).trans (hHeld.2.1)))))))), ((cell_far (p := ⟨gb359, _, none⟩) NB371_359.out _).trans (((cell_far (p := ⟨gb359, _, none⟩) NB371_359.out _).trans (((cell_far (p := ⟨gb359, _, none⟩) NB371_359.out _).trans (((cell_far (p := ⟨gb359, _, none⟩) NB371_359.out _).trans (hHeld.2.2.1)))))))), ((cell_far (p := ⟨gb359, _, none⟩) NB371_359.out _).trans (((cell_far (p := ⟨gb359, _, none⟩) NB371_359.out _).trans (((cell_far (p := ⟨gb359, _, none⟩) NB371_359.out _).trans (((cell_far (p := ⟨gb359, _, none⟩) NB371_359.out _).trans (hHeld.2.2.2))))))))⟩ (fun hHeld => ?_)
       clear hK K
       refine pure_ (i := 5) (N := some 5) (v := ?_) (a' := ?_) #[true, true, true, true, true, true] rfl rfl (by kernel_rfl) (fun _ _ _ h => h) (Or.inl ⟨by rfl, ?_⟩) ?_ ?_
       rotate_left; · intro w'; go_simp; with_reducible rfl
       rotate_left; · simp only [Act.put, sA, sB, sC, i64_w, i32_w]; rfl
       refine done_ (by kernel_rfl) ?_
       try go_wp2
       refine bodyPost_ret (results_ct rfl _ _ gb359 34 #[.int .i64 t364, .int .i64 t365, .int .i64 t366, .int .i64 t367] (0, 0) _ rfl (by (with_reducible repeat first | apply kN | apply kD | apply kA); refine blk_put (cs := #[.int .i64 t364, .int .i64 t365, .int .i64 t366, .int .i64 x360003_1]) ?_ 3 _ rfl; (with_reducible repeat first | apply kN | apply kD | apply kA); refine blk_put (cs := #[.int .i64 t364, .int .i64 t365, .int .i64 x360002_1, .int .i64 x360003_1]) ?_ 2 _ rfl; (with_reducible repeat first | apply kN | apply kD | apply kA); refine blk_put (cs := #[.int .i64 t364, .int .i64 x360001_1, .int .i64 x360002_1, .int .i64 x360003_1]) ?_ 1 _ rfl; (with_reducible repeat first | apply kN | apply kD | apply kA); refine blk_put (cs := #[.int .i64 x360000_1, .int .i64 x360001_1, .int .i64 x360002_1, .int .i64 x360003_1]) ?_ 0 _ rfl; (with_reducible repeat first | apply kN | apply kD | apply kA); exact BK359.out) Tryd.underlying34 rfl (by kernel_rfl)) rfl ?_
       exact ⟨_, by first | rfl | (simp [errW_none, errW_some] <;> rfl) | (simp only [← hji4, ← hji5]; first | rfl | (simp [errW_none, errW_some] <;> rfl)) | (simp [*, errW_none, errW_some] <;> rfl), by (with_reducible repeat (first | apply Kd.N_alloc | apply Kd.N_drewN | apply Kd.N_drew)); exact Kd.N_mono (Kd.N_far (p := ⟨gb359, 3, none⟩) (Kd.N_far (p := ⟨gb359, 2, none⟩) (Kd.N_far (p := ⟨gb359, 1, none⟩) (Kd.N_far (p := ⟨gb359, 0, none⟩) (Kd.N_mono HO374.out (fun k_ hk => (⟨hk, hk.2.2.1⟩ : _ ∧ k_ ≠ gb359))) (fun _ hk => hk.2) (.int .i64 t364)) (fun _ hk => hk.2) (.int .i64 t365)) (fun _ hk => hk.2) (.int .i64 t366)) (fun _ hk => hk.2) (.int .i64 t367)) (fun _ hk => hk.1.1), by with_reducible repeat first | exact HB.out | apply bA | apply bN | apply bD | refine bS ?_ GE358.out | refine bS ?_ GE359.out | refine bS ?_ GE371.out⟩
      ·
       rw [if_neg c19] at H
       exact absurd H (by simp)
     ·
      rw [if_neg c17] at H
      have c17b0 : (x359002_1 == 1) = false := beq_eq_false_iff_ne.mpr c17
      have c17b1 : (x359002_1 != 1) = true := bne_iff_ne.mpr c17
      by_cases c35 : x359003_1 = 1
      ·
       rw [if_pos c35] at H
       have c35b0 : (x359003_1 == 1) = true := beq_iff_eq.mpr c35
       have c35b1 : (x359003_1 != 1) = false := bne_eq_false_iff_eq.mpr c35
       clear c35
       by_cases c36 : x6_1.length < 4398046511104
       ·
        rw [if_pos c36] at H
        have LMc36 := Aside0.mk c36
        clear c36
        obtain ⟨y375, hy375⟩ : ∃ y_ : List (S45), y_ = (x6_1 ++ [(⟨4, ([] : List Int)⟩ : S45)]) := ⟨_, rfl⟩
        replace H : (if (wrap64 (x359003_1 + (wrap64 (Int.tdiv t361 3)))) > 0 then (session_Tick.l0 k1 y375 ji5 (wrap64 (x14_1 + 1)) t360 t361 (wrap64 (x359002_1 - 1)) (wrap64 ((wrap64 (x359003_1 + (wrap64 (Int.tdiv t361 3)))) - 1))) else (session_Tick.l0 k1 y375 ji5 (wrap64 (x14_1 + 1)) t360 t361 (wrap64 (x359002_1 - 1)) (wrap64 (x359003_1 + (wrap64 (Int.tdiv t361 3)))))) = some (r1, r2, r3, r4, r5) := by first | (rw [hy375]; with_reducible exact H) | (have H2_ := (Option.bind_some _ _).symm.trans H; rw [hy375]; with_reducible exact H2_) | (have H2_ := (Option.bind_some _ _).symm.trans H; with_reducible exact H2_) | with_reducible exact H | (rw [hy375]; exact H) | exact H
        have Ny375 := Aside0.mk hy375
        clear hy375
        by_cases c37 : (wrap64 (x359003_1 + (wrap64 (Int.tdiv t361 3)))) > 0
        ·
         rw [if_pos c37] at H
         have c37b0 : decide (0 < (wrap64 (x359003_1 + (wrap64 (Int.tdiv t361 3))))) = true := decide_eq_true c37
         clear c37
         have H' := Aside0.mk H
         clear H
         have hnb38 := NB358_359.out
         have hnc38 := NB359_358.out
         obtain ⟨hcz39_0, hcz39_1, hcz39_2, hcz39_3, hfz39_0, hfz39_1, hfz39_2, hfz39_3⟩ := bc4 BK358.out
         go_wp2_with (first | ((with_reducible refine gate_builtin (b := .append) (xs := #[.tmp 43, .tmp 45]) rfl ?_); at_builtin; refine Kd.N_append k45 (w0 := w) w.heap.size rfl (.tmp 43) (.tmp 45) 35 45 (.agg #[(.int .i64 0), (.slice none 0 0)]) 32 rfl Tryd.underlying35 info45 rfl (by decide) (by omega) u6 x6_1 (⟨4, ([] : List Int)⟩ : S45) [.int .i64 4, .slice none 0 0] (fun k_ => (w.heap.size ≤ k_) ∧ k_ ≠ gb358 ∧ k_ ≠ gb359) (fun k_ => ((fun k_ => (w.heap.size ≤ k_) ∧ k_ ≠ gb358 ∧ k_ ≠ gb359)) k_ ∧ some k_ ≠ (u6 : Value).ownBlock) rfl (by first | (go_simp; done) | (go_simp; rfl)) ?aP (fun _ hk => hk) ?aF ?aO ?aB ?aS ?aL ?_; (case aP => exact (k45_mkF _ _ (⟨4, ([] : List Int)⟩ : S45) (Nat.le_refl _) (Kd.F_nil _ _ _))); (case aB => exact (by with_reducible repeat first | exact HB.out | apply bA | apply bN | apply bD | refine bS ?_ GE358.out | refine bS ?_ GE359.out)); (case aF => exact (fun k_ hk => ⟨(Nat.le_trans (below_size (by with_reducible repeat first | exact HB.out | apply bA | apply bN | apply bD | refine bS ?_ GE358.out | refine bS ?_ GE359.out)) hk), Kd.freshB (g := gb358) (o := .cells #[.int .i64 t360, .int .i64 t361, .int .i64 (wrap64 (x359002_1 - 1)), .int .i64 x359003_1] 34 (0, 0)) (by (with_reducible repeat first | apply kN | apply kD | apply kA); refine blk_put (cs := #[.int .i64 t360, .int .i64 t361, .int .i64 x359002_1, .int .i64 x359003_1]) ?_ 2 _ rfl; (with_reducible repeat first | apply kN | apply kD | apply kA); exact BK358.out) k_ hk, Kd.freshB (g := gb359) (o := .cells #[.int .i64 x360000_1, .int .i64 x360001_1, .int .i64 x360002_1, .int .i64 x360003_1] 34 (0, 0)) (by (with_reducible repeat first | apply kN | apply kD | apply kA); refine blk_far ?_ NB359_358.out _; (with_reducible repeat first | apply kN | apply kD | apply kA); exact BK359.out) k_ hk⟩)); (case aO => exact (by (with_reducible repeat (first | apply Kd.N_alloc | apply Kd.N_drewN | apply Kd.N_drew)); exact Kd.N_mono (Kd.N_far (p := ⟨gb358, 2, none⟩) (Kd.N_mono HO_6.out (fun k_ hk => (⟨hk, hk.2.1⟩ : _ ∧ k_ ≠ gb358))) (fun _ hk => hk.2) (.int .i64 (wrap64 (x359002_1 - 1)))) (fun _ hk => ⟨hk.1.1, ⟨hk.1.2.1, hk.1.2.2⟩⟩))); (case aS => exact (below_size (by with_reducible repeat first | exact HB.out | apply bA | apply bN | apply bD | refine bS ?_ GE358.out | refine bS ?_ GE359.out))); (case aL => have := LMc36.out; omega); intro v376 w40 ho hb hg hat; rw [← Ny375.out] at ho; replace BK358 := Aside0.mk (blk_grown (g := gb358) (o := .cells #[.int .i64 t360, .int .i64 t361, .int .i64 (wrap64 (x359002_1 - 1)), .int .i64 x359003_1] 34 (0, 0)) (by (with_reducible repeat first | apply kN | apply kD | apply kA); refine blk_put (cs := #[.int .i64 t360, .int .i64 t361, .int .i64 x359002_1, .int .i64 x359003_1]) ?_ 2 _ rfl; (with_reducible repeat first | apply kN | apply kD | apply kA); exact BK358.out) hg (Kd.N_ne HO_6.out BK358.out (by decide))); replace BK359 := Aside0.mk (blk_grown (g := gb359) (o := .cells #[.int .i64 x360000_1, .int .i64 x360001_1, .int .i64 x360002_1, .int .i64 x360003_1] 34 (0, 0)) (by (with_reducible repeat first | apply kN | apply kD | apply kA); refine blk_far ?_ NB359_358.out _; (with_reducible repeat first | apply kN | apply kD | apply kA); exact BK359.out) hg (Kd.N_ne HO_6.out BK359.out (by decide))); replace HB := Aside0.mk (hb); have HO377 := Aside0.mk (ho); clear HO_6 ho hb hg hat; obtain ⟨hcz41_0, hcz41_1, hcz41_2, hcz41_3, hfz41_0, hfz41_1, hfz41_2, hfz41_3⟩ := bc4 BK358.out))
         go_roundg k1
         case measure => have := HK1.out; omega
         case rel => exact ⟨(y375), (wrap64 (x14_1 + 1)), (wrap64 (x359002_1 - 1)), (wrap64 ((wrap64 (x359003_1 + (wrap64 (Int.tdiv t361 3)))) - 1)), (x360000_1), (x360001_1), (x360002_1), (x360003_1), (by first | rfl | (simp; done) | (simp [*]; done)), H', ⟨by have := HK1.out; omega⟩, ⟨by (with_reducible repeat (first | apply Kd.N_alloc | apply Kd.N_drewN | apply Kd.N_drew)); exact Kd.N_mono (Kd.N_far (p := ⟨gb358, 3, none⟩) (Kd.N_far (p := ⟨gb358, 3, none⟩) (Kd.N_mono HO377.out (fun k_ hk => (⟨hk, hk.2.1⟩ : _ ∧ k_ ≠ gb358))) (fun _ hk => hk.2) (.int .i64 (wrap64 (x359003_1 + (wrap64 (Int.tdiv t361 3)))))) (fun _ hk => hk.2) (.int .i64 (wrap64 ((wrap64 (x359003_1 + (wrap64 (Int.tdiv t361 3)))) - 1)))) (fun _ hk => ⟨hk.1.1, ⟨hk.1.2.1, hk.1.2.2⟩⟩)⟩, ⟨by (with_reducible repeat first | apply kN | apply kD | apply kA); refine blk_put (cs := #[.int .i64 t360, .int .i64 t361, .int .i64 (wrap64 (x359002_1 - 1)), .int .i64 (wrap64 (x359003_1 + (wrap64 (Int.tdiv t361 3))))]) ?_ 3 _ rfl; (with_reducible repeat first | apply kN | apply kD | apply kA); refine blk_put (cs := #[.int .i64 t360, .int .i64 t361, .int .i64 (wrap64 (x359002_1 - 1)), .int .i64 x359003_1]) ?_ 3 _ rfl; (with_reducible repeat first | apply kN | apply kD | apply kA); exact BK358.out⟩, ⟨by (with_reducible repeat first | apply kN | apply kD | apply kA); refine blk_far ?_ NB359_358.out _; (with_reducible repeat first | apply kN | apply kD | apply kA); refine blk_far ?_ NB359_358.out _; (with_reducible repeat first | apply kN | apply kD | apply kA); exact BK359.out⟩, ⟨by with_reducible repeat first | exact HB.out | apply bA | apply bN | apply bD | refine bS ?_ GE358.out | refine bS ?_ GE359.out⟩⟩
        ·
         rw [if_neg c37] at H
         have c37b0 : decide (0 < (wrap64 (x359003_1 + (wrap64 (Int.tdiv t361 3))))) = false := decide_eq_false c37
         clear c37
         have H' := Aside0.mk H
         clear H
         have hnb42 := NB358_359.out
         have hnc42 := NB359_358.out
         obtain ⟨hcz43_0, hcz43_1, hcz43_2, hcz43_3, hfz43_0, hfz43_1, hfz43_2, hfz43_3⟩ := bc4 BK358.out
         go_wp2_with (first | ((with_reducible refine gate_builtin (b := .append) (xs := #[.tmp 43, .tmp 45]) rfl ?_); at_builtin; refine Kd.N_append k45 (w0 := w) w.heap.size rfl (.tmp 43) (.tmp 45) 35 45 (.agg #[(.int .i64 0), (.slice none 0 0)]) 32 rfl Tryd.underlying35 info45 rfl (by decide) (by omega) u6 x6_1 (⟨4, ([] : List Int)⟩ : S45) [.int .i64 4, .slice none 0 0] (fun k_ => (w.heap.size ≤ k_) ∧ k_ ≠ gb358 ∧ k_ ≠ gb359) (fun k_ => ((fun k_ => (w.heap.size ≤ k_) ∧ k_ ≠ gb358 ∧ k_ ≠ gb359)) k_ ∧ some k_ ≠ (u6 : Value).ownBlock) rfl (by first | (go_simp; done) | (go_simp; rfl)) ?aP (fun _ hk => hk) ?aF ?aO ?aB ?aS ?aL ?_; (case aP => exact (k45_mkF _ _ (⟨4, ([] : List Int)⟩ : S45) (Nat.le_refl _) (Kd.F_nil _ _ _))); (case aB => exact (by with_reducible repeat first | exact HB.out | apply bA | apply bN | apply bD | refine bS ?_ GE358.out | refine bS ?_ GE359.out)); (case aF => exact (fun k_ hk => ⟨(Nat.le_trans (below_size (by with_reducible repeat first | exact HB.out | apply bA | apply bN | apply bD | refine bS ?_ GE358.out | refine bS ?_ GE359.out)) hk), Kd.freshB (g := gb358) (o := .cells #[.int .i64 t360, .int .i64 t361, .int .i64 (wrap64 (x359002_1 - 1)), .int .i64 x359003_1] 34 (0, 0)) (by (with_reducible repeat first | apply kN | apply kD | apply kA); refine blk_put (cs := #[.int .i64 t360, .int .i64 t361, .int .i64 x359002_1, .int .i64 x359003_1]) ?_ 2 _ rfl; (with_reducible repeat first | apply kN | apply kD | apply kA); exact BK358.out) k_ hk, Kd.freshB (g := gb359) (o := .cells #[.int .i64 x360000_1, .int .i64 x360001_1, .int .i64 x360002_1, .int .i64 x360003_1] 34 (0, 0)) (by (with_reducible repeat first | apply kN | apply kD | apply kA); refine blk_far ?_ NB359_358.out _; (with_reducible repeat first | apply kN | apply kD | apply kA); exact BK359.out) k_ hk⟩)); (case aO => exact (by (with_reducible repeat (first | apply Kd.N_alloc | apply Kd.N_drewN | apply Kd.N_drew)); exact Kd.N_mono (Kd.N_far (p := ⟨gb358, 2, none⟩) (Kd.N_mono HO_6.out (fun k_ hk => (⟨hk, hk.2.1⟩ : _ ∧ k_ ≠ gb358))) (fun _ hk => hk.2) (.int .i64 (wrap64 (x359002_1 - 1)))) (fun _ hk => ⟨hk.1.1, ⟨hk.1.2.1, hk.1.2.2⟩⟩))); (case aS => exact (below_size (by with_reducible repeat first | exact HB.out | apply bA | apply bN | apply bD | refine bS ?_ GE358.out | refine bS ?_ GE359.out))); (case aL => have := LMc36.out; omega); intro v376 w44 ho hb hg hat; rw [← Ny375.out] at ho; replace BK358 := Aside0.mk (blk_grown (g := gb358) (o := .cells #[.int .i64 t360, .int .i64 t361, .int .i64 (wrap64 (x359002_1 - 1)), .int .i64 x359003_1] 34 (0, 0)) (by (with_reducible repeat first | apply kN | apply kD | apply kA); refine blk_put (cs := #[.int .i64 t360, .int .i64 t361, .int .i64 x359002_1, .int .i64 x359003_1]) ?_ 2 _ rfl; (with_reducible repeat first | apply kN | apply kD | apply kA); exact BK358.out) hg (Kd.N_ne HO_6.out BK358.out (by decide))); replace BK359 := Aside0.mk (blk_grown (g := gb359) (o := .cells #[.int .i64 x360000_1, .int .i64 x360001_1, .int .i64 x360002_1, .int .i64 x360003_1] 34 (0, 0)) (by (with_reducible repeat first | apply kN | apply kD | apply kA); refine blk_far ?_ NB359_358.out _; (with_reducible repeat first | apply kN | apply kD | apply kA); exact BK359.out) hg (Kd.N_ne HO_6.out BK359.out (by decide))); replace HB := Aside0.mk (hb); have HO377 := Aside0.mk (ho); clear HO_6 ho hb hg hat; obtain ⟨hcz45_0, hcz45_1, hcz45_2, hcz45_3, hfz45_0, hfz45_1, hfz45_2, hfz45_3⟩ := bc4 BK358.out))
         go_roundg k1
         case measure => have := HK1.out; omega
         case rel => exact ⟨(y375), (wrap64 (x14_1 + 1)), (wrap64 (x359002_1 - 1)), (wrap64 (x359003_1 + (wrap64 (Int.tdiv t361 3)))), (x360000_1), (x360001_1), (x360002_1), (x360003_1), (by first | rfl | (simp; done) | (simp [*]; done)), H', ⟨by have := HK1.out; omega⟩, ⟨by (with_reducible repeat (first | apply Kd.N_alloc | apply Kd.N_drewN | apply Kd.N_drew)); exact Kd.N_mono (Kd.N_far (p := ⟨gb358, 3, none⟩) (Kd.N_mono HO377.out (fun k_ hk => (⟨hk, hk.2.1⟩ : _ ∧ k_ ≠ gb358))) (fun _ hk => hk.2) (.int .i64 (wrap64 (x359003_1 + (wrap64 (Int.tdiv t361 3)))))) (fun _ hk => ⟨hk.1.1, ⟨hk.1.2.1, hk.1.2.2⟩⟩)⟩, ⟨by (with_reducible repeat first | apply kN | apply kD | apply kA); refine blk_put (cs := #[.int .i64 t360, .int .i64 t361, .int .i64 (wrap64 (x359002_1 - 1)), .int .i64 x359003_1]) ?_ 3 _ rfl; (with_reducible repeat first | apply kN | apply kD | apply kA); exact BK358.out⟩, ⟨by (with_reducible repeat first | apply kN | apply kD | apply kA); refine blk_far ?_ NB359_358.out _; (with_reducible repeat first | apply kN | apply kD | apply kA); exact BK359.out⟩, ⟨by with_reducible repeat first | exact HB.out | apply bA | apply bN | apply bD | refine bS ?_ GE358.out | refine bS ?_ GE359.out⟩⟩
       ·
        rw [if_neg c36] at H
        exact absurd H (by simp)
      ·
       rw [if_neg c35] at H
       have c35b0 : (x359003_1 == 1) = false := beq_eq_false_iff_ne.mpr c35
       have c35b1 : (x359003_1 != 1) = true := bne_iff_ne.mpr c35
       by_cases c46 : x359003_1 > 0
       ·
        rw [if_pos c46] at H
        have c46b0 : decide (0 < x359003_1) = true := decide_eq_true c46
        clear c46
        have H' := Aside0.mk H
        clear H
        have hnb47 := NB358_359.out
        have hnc47 := NB359_358.out
        obtain ⟨hcz48_0, hcz48_1, hcz48_2, hcz48_3, hfz48_0, hfz48_1, hfz48_2, hfz48_3⟩ := bc4 BK358.out
        go_wp2
        go_roundg k1
        case measure => have := HK1.out; omega
        case rel => exact ⟨(x6_1), (wrap64 (x14_1 + 1)), (wrap64 (x359002_1 - 1)), (wrap64 (x359003_1 - 1)), (x360000_1), (x360001_1), (x360002_1), (x360003_1), (by first | rfl | (simp; done) | (simp [*]; done)), H', ⟨by have := HK1.out; omega⟩, ⟨by (with_reducible repeat (first | apply Kd.N_alloc | apply Kd.N_drewN | apply Kd.N_drew)); exact Kd.N_mono (Kd.N_far (p := ⟨gb358, 3, none⟩) (Kd.N_far (p := ⟨gb358, 2, none⟩) (Kd.N_mono HO_6.out (fun k_ hk => (⟨hk, hk.2.1⟩ : _ ∧ k_ ≠ gb358))) (fun _ hk => hk.2) (.int .i64 (wrap64 (x359002_1 - 1)))) (fun _ hk => hk.2) (.int .i64 (wrap64 (x359003_1 - 1)))) (fun _ hk => ⟨hk.1.1, ⟨hk.1.2.1, hk.1.2.2⟩⟩)⟩, ⟨by (with_reducible repeat first | apply kN | apply kD | apply kA); refine blk_put (cs := #[.int .i64 t360, .int .i64 t361, .int .i64 (wrap64 (x359002_1 - 1)), .int .i64 x359003_1]) ?_ 3 _ rfl; (with_reducible repeat first | apply kN | apply kD | apply kA); refine blk_put (cs := #[.int .i64 t360, .int .i64 t361, .int .i64 x359002_1, .int .i64 x359003_1]) ?_ 2 _ rfl; (with_reducible repeat first | apply kN | apply kD | apply kA); exact BK358.out⟩, ⟨by (with_reducible repeat first | apply kN | apply kD | apply kA); refine blk_far ?_ NB359_358.out _; (with_reducible repeat first | apply kN | apply kD | apply kA); refine blk_far ?_ NB359_358.out _; (with_reducible repeat first | apply kN | apply kD | apply kA); exact BK359.out⟩, ⟨by with_reducible repeat first | exact HB.out | apply bA | apply bN | apply bD | refine bS ?_ GE358.out | refine bS ?_ GE359.out⟩⟩
       ·
        rw [if_neg c46] at H
        have c46b0 : decide (0 < x359003_1) = false := decide_eq_false c46
        clear c46
        have H' := Aside0.mk H
        clear H
        have hnb49 := NB358_359.out
        have hnc49 := NB359_358.out
        obtain ⟨hcz50_0, hcz50_1, hcz50_2, hcz50_3, hfz50_0, hfz50_1, hfz50_2, hfz50_3⟩ := bc4 BK358.out
        go_wp2
        go_roundg k1
        case measure => have := HK1.out; omega
        case rel => exact ⟨(x6_1), (wrap64 (x14_1 + 1)), (wrap64 (x359002_1 - 1)), (x359003_1), (x360000_1), (x360001_1), (x360002_1), (x360003_1), (by first | rfl | (simp; done) | (simp [*]; done)), H', ⟨by have := HK1.out; omega⟩, ⟨by (with_reducible repeat (first | apply Kd.N_alloc | apply Kd.N_drewN | apply Kd.N_drew)); exact Kd.N_mono (Kd.N_far (p := ⟨gb358, 2, none⟩) (Kd.N_mono HO_6.out (fun k_ hk => (⟨hk, hk.2.1⟩ : _ ∧ k_ ≠ gb358))) (fun _ hk => hk.2) (.int .i64 (wrap64 (x359002_1 - 1)))) (fun _ hk => ⟨hk.1.1, ⟨hk.1.2.1, hk.1.2.2⟩⟩)⟩, ⟨by (with_reducible repeat first | apply kN | apply kD | apply kA); refine blk_put (cs := #[.int .i64 t360, .int .i64 t361, .int .i64 x359002_1, .int .i64 x359003_1]) ?_ 2 _ rfl; (with_reducible repeat first | apply kN | apply kD | apply kA); exact BK358.out⟩, ⟨by (with_reducible repeat first | apply kN | apply kD | apply kA); refine blk_far ?_ NB359_358.out _; (with_reducible repeat first | apply kN | apply kD | apply kA); exact BK359.out⟩, ⟨by with_reducible repeat first | exact HB.out | apply bA | apply bN | apply bD | refine bS ?_ GE358.out | refine bS ?_ GE359.out⟩⟩
   ·
    rw [if_neg c12] at H
    have c12b0 : decide (x14_1 < ji5) = false := decide_eq_false c12
    clear c12
    simp only [Option.some.injEq, Prod.mk.injEq] at H
    obtain ⟨rfl, rfl, rfl, rfl, rfl⟩ := H
    have hnb51 := NB358_359.out
    have hnc51 := NB359_358.out
    obtain ⟨hcz52_0, hcz52_1, hcz52_2, hcz52_3, hfz52_0, hfz52_1, hfz52_2, hfz52_3⟩ := bc4 BK358.out
    obtain ⟨hcz53_0, hcz53_1, hcz53_2, hcz53_3, hfz53_0, hfz53_1, hfz53_2, hfz53_3⟩ := bc4 BK359.out
    go_wp2
    refine bodyPost_ret (results_ct rfl _ _ gb359 34 #[.int .i64 t360, .int .i64 t361, .int .i64 x359002_1, .int .i64 x359003_1] (0, 0) _ rfl (by (with_reducible repeat first | apply kN | apply kD | apply kA); refine blk_put (cs := #[.int .i64 t360, .int .i64 t361, .int .i64 x359002_1, .int .i64 x360003_1]) ?_ 3 _ rfl; (with_reducible repeat first | apply kN | apply kD | apply kA); refine blk_put (cs := #[.int .i64 t360, .int .i64 t361, .int .i64 x360002_1, .int .i64 x360003_1]) ?_ 2 _ rfl; (with_reducible repeat first | apply kN | apply kD | apply kA); refine blk_put (cs := #[.int .i64 t360, .int .i64 x360001_1, .int .i64 x360002_1, .int .i64 x360003_1]) ?_ 1 _ rfl; (with_reducible repeat first | apply kN | apply kD | apply kA); refine blk_put (cs := #[.int .i64 x360000_1, .int .i64 x360001_1, .int .i64 x360002_1, .int .i64 x360003_1]) ?_ 0 _ rfl; (with_reducible repeat first | apply kN | apply kD | apply kA); exact BK359.out) Tryd.underlying34 rfl (by kernel_rfl)) rfl ?_
    exact ⟨_, by first | rfl | (simp [errW_none, errW_some] <;> rfl) | (simp only [← hji4, ← hji5]; first | rfl | (simp [errW_none, errW_some] <;> rfl)) | (simp [*, errW_none, errW_some] <;> rfl), by (with_reducible repeat (first | apply Kd.N_alloc | apply Kd.N_drewN | apply Kd.N_drew)); exact Kd.N_mono (Kd.N_far (p := ⟨gb359, 3, none⟩) (Kd.N_far (p := ⟨gb359, 2, none⟩) (Kd.N_far (p := ⟨gb359, 1, none⟩) (Kd.N_far (p := ⟨gb359, 0, none⟩) (Kd.N_mono HO_6.out (fun k_ hk => (⟨hk, hk.2.2⟩ : _ ∧ k_ ≠ gb359))) (fun _ hk => hk.2) (.int .i64 t360)) (fun _ hk => hk.2) (.int .i64 t361)) (fun _ hk => hk.2) (.int .i64 x359002_1)) (fun _ hk => hk.2) (.int .i64 x359003_1)) (fun _ hk => hk.1.1), by with_reducible repeat first | exact HB.out | apply bA | apply bN | apply bD | refine bS ?_ GE358.out | refine bS ?_ GE359.out⟩

/-! ### ridgewayref03_Same: function 40 -/
def ridgewayref03_Same.f (a0_0 : Int) (l0_1 : List Int) (a1_0 : Int) (l1_1 : List Int) : Option (Bool) := if a0_0 = a1_0 then (some ((strOfNums l0_1).toList == (strOfNums l1_1).toList)) else (some false)
set_option maxHeartbeats 8000000 in
set_option maxRecDepth 100000 in
theorem ridgewayref03_Same.calls (a0_0 : Int) (A0_1 : Option Addr) (c0_1 : Nat) (l0_1 : List Int) (a1_0 : Int) (A1_1 : Option Addr) (c1_1 : Nat) (l1_1 : List Int) (r : Bool) (w : World) (hr0_1 : Kd.C (Kd.int .u8) w A0_1 l0_1.length l0_1) (hc0_1 : l0_1.length ≤ c0_1) (hr1_1 : Kd.C (Kd.int .u8) w A1_1 l1_1.length l1_1) (hc1_1 : l1_1.length ≤ c1_1) (h : ridgewayref03_Same.f a0_0 l0_1 a1_0 l1_1 = some r) :
  Calls Tryd.prog 40 #[.agg #[.int .i64 a0_0, .slice A0_1 l0_1.length c0_1], .agg #[.int .i64 a1_0, .slice A1_1 l1_1.length c1_1]] w fun e w' => e = .returned (.bool r) ∧ Below w.heap.size w w' := by
 have hu45 := Tryd.underlying45
 have HR0_1 := Aside0.mk hr0_1
 have HC0_1 := Aside0.mk hc0_1
 clear hr0_1 hc0_1
 have HR1_1 := Aside0.mk hr1_1
 have HC1_1 := Aside0.mk hc1_1
 clear hr1_1 hc1_1
 have HB := Aside0.mk (Below.refl w.heap.size w)
 have H : (if a0_0 = a1_0 then (some ((strOfNums l0_1).toList == (strOfNums l1_1).toList)) else (some false)) = some r := h
 clear h
 by_cases c3 : a0_0 = a1_0
 ·
  rw [if_pos c3] at H
  have c3b0 : (a0_0 == a1_0) = true := beq_iff_eq.mpr c3
  have c3b1 : (a0_0 != a1_0) = false := bne_eq_false_iff_eq.mpr c3
  clear c3
  obtain rfl := Option.some.inj H
  go_enter Tryd.func40, Tryd.ntmps40
  go_wp2_with (first | ((with_reducible refine gate_dst (N := 2) rfl ?_); refine box_event ?hg (N := 2) ?hd (cs := #[.int .i64 a0_0, .slice A0_1 l0_1.length c0_1]) (t := 45) ?hr ?_; (case hd | hg => rfl); (case hr => first | (go_simp; done) | (go_simp; rfl)); intro gb378 hg w4 hbox hb; obtain ⟨hy, hz⟩ := bfst (by with_reducible repeat first | exact HB.out | apply bA | apply bN | apply bD) hb hg; replace HB := hy; have BK378 := Aside0.mk (hbox); have GE378 := hz; have GW378 := GE378; clear hy hz hb hbox hg) | ((with_reducible refine gate_dst (N := 3) rfl ?_); refine box_event ?hg (N := 3) ?hd (cs := #[.int .i64 a1_0, .slice A1_1 l1_1.length c1_1]) (t := 45) ?hr ?_; (case hd | hg => rfl); (case hr => first | (go_simp; done) | (go_simp; rfl)); intro gb379 hg w5 hbox hb; have hz := bZ BK378.out (by with_reducible repeat first | apply bA | apply bN | apply bD | exact Below.refl _ _) hb; have hy := below_step hz hb; have n0_ := Aside0.mk (blk_below BK378.out hy); have n1_ := Aside0.mk (below_step HB.out hy); have BK379 := Aside0.mk (hbox); have n3_ := Aside0.mk (bge HB.out hz hg); have GE379 := n3_; obtain ⟨NB378_379, NB379_378⟩ := bne2 BK378.out hz hg; clear BK378; clear HB; have BK378 := n0_; have HB := n1_; have GW379 := n3_; clear n0_ n1_ n3_; clear hy hz hb hbox hg; have hnb6 := NB378_379.out; have hnc6 := NB379_378.out; obtain ⟨hcz7_0, hcz7_1, hfz7_0, hfz7_1⟩ := bc2 BK378.out; obtain ⟨hcz8_0, hcz8_1, hfz8_0, hfz8_1⟩ := bc2 BK379.out; have hcv9 := Kd.C_string (P := Tryd.prog) (A := A0_1) (c := c0_1) Tryd.underlying39 Tryd.underlying5 Tryd.underlying9 (Kd.C_below HR0_1.out HB.out); have hcv10 := Kd.C_string (P := Tryd.prog) (A := A1_1) (c := c1_1) Tryd.underlying39 Tryd.underlying5 Tryd.underlying9 (Kd.C_below HR1_1.out HB.out)))
  go_ret
  exact ⟨by first | rfl | (simp <;> rfl) | (simp [*] <;> rfl), by with_reducible repeat first | exact HB.out | apply bA | apply bN | apply bD | refine bS ?_ GE378.out | refine bS ?_ GE379.out⟩
 ·
  rw [if_neg c3] at H
  have c3b0 : (a0_0 == a1_0) = false := beq_eq_false_iff_ne.mpr c3
  have c3b1 : (a0_0 != a1_0) = true := bne_iff_ne.mpr c3
  obtain rfl := Option.some.inj H
  go_enter Tryd.func40, Tryd.ntmps40
  go_wp2_with (first | ((with_reducible refine gate_dst (N := 2) rfl ?_); refine box_event ?hg (N := 2) ?hd (cs := #[.int .i64 a0_0, .slice A0_1 l0_1.length c0_1]) (t := 45) ?hr ?_; (case hd | hg => rfl); (case hr => first | (go_simp; done) | (go_simp; rfl)); intro gb378 hg w11 hbox hb; obtain ⟨hy, hz⟩ := bfst (by with_reducible repeat first | exact HB.out | apply bA | apply bN | apply bD) hb hg; replace HB := hy; have BK378 := Aside0.mk (hbox); have GE378 := hz; have GW378 := GE378; clear hy hz hb hbox hg) | ((with_reducible refine gate_dst (N := 3) rfl ?_); refine box_event ?hg (N := 3) ?hd (cs := #[.int .i64 a1_0, .slice A1_1 l1_1.length c1_1]) (t := 45) ?hr ?_; (case hd | hg => rfl); (case hr => first | (go_simp; done) | (go_simp; rfl)); intro gb379 hg w12 hbox hb; have hz := bZ BK378.out (by with_reducible repeat first | apply bA | apply bN | apply bD | exact Below.refl _ _) hb; have hy := below_step hz hb; have n0_ := Aside0.mk (blk_below BK378.out hy); have n1_ := Aside0.mk (below_step HB.out hy); have BK379 := Aside0.mk (hbox); have n3_ := Aside0.mk (bge HB.out hz hg); have GE379 := n3_; obtain ⟨NB378_379, NB379_378⟩ := bne2 BK378.out hz hg; clear BK378; clear HB; have BK378 := n0_; have HB := n1_; have GW379 := n3_; clear n0_ n1_ n3_; clear hy hz hb hbox hg; have hnb13 := NB378_379.out; have hnc13 := NB379_378.out; obtain ⟨hcz14_0, hcz14_1, hfz14_0, hfz14_1⟩ := bc2 BK378.out; obtain ⟨hcz15_0, hcz15_1, hfz15_0, hfz15_1⟩ := bc2 BK379.out))
  go_ret
  exact ⟨by first | rfl | (simp <;> rfl) | (simp [*] <;> rfl), by with_reducible repeat first | exact HB.out | apply bA | apply bN | apply bD | refine bS ?_ GE378.out | refine bS ?_ GE379.out⟩

/-! ### ridgewayref03_SameAll: function 19 -/
def ridgewayref03_SameAll.l0 : Nat → List (S45) → List (S45) → Int → Option (Bool)
 | 0, _, _, _ => none
 | k + 1, x0, x1, x5 => if x5 < (x0.length : Int) then (if 0 ≤ x5 then (if x5 < (x1.length : Int) then ((ridgewayref03_Same.f ((rd_T45 x0 x5).f0) ((rd_T45 x0 x5).f1) ((rd_T45 x1 x5).f0) ((rd_T45 x1 x5).f1)).bind fun t382 => (if t382 = true then (ridgewayref03_SameAll.l0 k x0 x1 (wrap64 (x5 + 1))) else (some false))) else (none)) else (none)) else (some true)
def ridgewayref03_SameAll.f (k : Nat) (l0 : List (S45)) (l1 : List (S45)) : Option (Bool) := if (l0.length : Int) = (l1.length : Int) then (ridgewayref03_SameAll.l0 k l0 l1 0) else (some false)
theorem ridgewayref03_SameAll.mono_l : ∀ k, (∀ y0 y1 y2, LeO (ridgewayref03_SameAll.l0 k y0 y1 y2) (ridgewayref03_SameAll.l0 (k + 1) y0 y1 y2))
 | 0 => fun _ _ _ r h => by simp [ridgewayref03_SameAll.l0] at h
 | k + 1 => by
  have ih0 := ridgewayref03_SameAll.mono_l k
  ·
   intro y0 y1 y2
   unfold ridgewayref03_SameAll.l0
   repeat' first
   | (with_reducible exact ih0 _ _ _)
   | (with_reducible exact LeO.refl _)
   | (with_reducible exact LeO.none _)
   | (with_reducible refine LeO.ite ?_ ?_)
   | (with_reducible refine LeO.bind ?_ (fun _ => ?_))
   | exact ih0 _ _ _
   | exact LeO.none _
   | refine LeO.ite ?_ ?_
   | refine LeO.bind ?_ (fun _ => ?_)
theorem ridgewayref03_SameAll.mono : ∀ a0 a1 k, LeO (ridgewayref03_SameAll.f k a0 a1) (ridgewayref03_SameAll.f (k + 1) a0 a1) := by
 intro a0 a1 k
 have ih0 := ridgewayref03_SameAll.mono_l k
 unfold ridgewayref03_SameAll.f
 repeat' first
   | (with_reducible exact ih0 _ _ _)
   | (with_reducible exact LeO.refl _)
   | (with_reducible exact LeO.none _)
   | (with_reducible refine LeO.ite ?_ ?_)
   | (with_reducible refine LeO.bind ?_ (fun _ => ?_))
   | exact ih0 _ _ _
   | exact LeO.none _
   | refine LeO.ite ?_ ?_
   | refine LeO.bind ?_ (fun _ => ?_)
def ridgewayref03_SameAll.T6 : Bool × List (List Nat × List Nat) := (true, [([], []), ([], []), ([0, 1], [0, 1]), ([2], [2]), ([], []), ([], []), ([4, 5], [4, 5]), ([6], [6]), ([3, 7], [3, 7]), ([8], [8])])
def ridgewayref03_SameAll.B6 : List Nat := [0, 0, 3, 7, 0, 0, 48, 112, 255, 511]
theorem ridgewayref03_SameAll.tab6 : rtab .any (opsOf Tryd.f19 6) = ridgewayref03_SameAll.T6 := by kernel_rfl
theorem ridgewayref03_SameAll.bits6 : waitsOk ridgewayref03_SameAll.T6.2 ridgewayref03_SameAll.B6 = true := by kernel_rfl
set_option maxHeartbeats 8000000 in
set_option maxRecDepth 100000 in
theorem ridgewayref03_SameAll.calls (k : Nat) (A0 : Option Addr) (c0 : Nat) (l0 : List (S45)) (A1 : Option Addr) (c1 : Nat) (l1 : List (S45)) (r : Bool) (w : World) (hr0 : Kd.C k45 w A0 l0.length l0) (hc0 : l0.length ≤ c0) (hr1 : Kd.C k45 w A1 l1.length l1) (hc1 : l1.length ≤ c1) (h : ridgewayref03_SameAll.f k l0 l1 = some r) :
  Calls Tryd.prog 19 #[.slice A0 l0.length c0, .slice A1 l1.length c1] w fun e w' => e = .returned (.bool r) ∧ Below w.heap.size w w' := by
 have hu45 := Tryd.underlying45
 have HR0 := Aside0.mk hr0
 have HC0 := Aside0.mk hc0
 clear hr0 hc0
 have HR1 := Aside0.mk hr1
 have HC1 := Aside0.mk hc1
 clear hr1 hc1
 have HB := Aside0.mk (Below.refl w.heap.size w)
 have H : (if (l0.length : Int) = (l1.length : Int) then (ridgewayref03_SameAll.l0 k l0 l1 0) else (some false)) = some r := h
 clear h
 by_cases c3 : (l0.length : Int) = (l1.length : Int)
 ·
  rw [if_pos c3] at H
  have c3b0 : ((l0.length : Int) == (l1.length : Int)) = true := beq_iff_eq.mpr c3
  have c3b1 : ((l0.length : Int) != (l1.length : Int)) = false := bne_eq_false_iff_eq.mpr c3
  have c3b2 : (l0.length == l1.length) = true := by first | simpa using c3 | (simp at c3 ⊢; omega)
  clear c3
  have H' := Aside0.mk H
  clear H
  go_enter Tryd.func19, Tryd.ntmps19
  go_wp2
  go_loopg [5] k (fun kq v5 w' => ∃ (x5_1 : Int), v5 = .int .i64 x5_1 ∧ Aside0 (ridgewayref03_SameAll.l0 kq l0 l1 x5_1 = some r) ∧ Aside0 (kq ≤ k) ∧ Aside0 (Below w.heap.size w w'))
  case atStart => exact ⟨(0), (by first | rfl | (simp; done) | (simp [*]; done)), H', ⟨Nat.le_refl _⟩, ⟨by with_reducible repeat first | exact HB.out | apply bA | apply bN | apply bD⟩⟩
  case round =>
   clear H'
   try clear c1
   try clear p2
   try clear c3
   try clear c3b0
   try clear c3b1
   try clear c3b2
   obtain ⟨x5_1, rfl, HA, HK1, HB⟩ := hrel
   cases gk with
   | zero => exact absurd HA.out (by simp [ridgewayref03_SameAll.l0])
   | succ k1 =>
    have H := HA.out
    clear HA
    simp only [ridgewayref03_SameAll.l0] at H
    by_cases c4 : x5_1 < (l0.length : Int)
    ·
     rw [if_pos c4] at H
     have c4b0 : decide (x5_1 < (l0.length : Int)) = true := decide_eq_true c4
     clear c4
     by_cases c5 : 0 ≤ x5_1
     ·
      rw [if_pos c5] at H
      have c5b0 : decide (0 ≤ x5_1) = true := decide_eq_true c5
      clear c5
      by_cases c6 : x5_1 < (l1.length : Int)
      ·
       rw [if_pos c6] at H
       have c6b0 : decide (x5_1 < (l1.length : Int)) = true := decide_eq_true c6
       clear c6
       replace H := Option.bind_eq_some_iff.mp H
       obtain ⟨t382, A70, H⟩ := H
       replace H : (if t382 = true then (ridgewayref03_SameAll.l0 k1 l0 l1 (wrap64 (x5_1 + 1))) else (some false)) = some r := H
       have A7 := Aside0.mk A70
       clear A70
       by_cases c8 : t382 = true
       ·
        subst c8
        have H1 : (ridgewayref03_SameAll.l0 k1 l0 l1 (wrap64 (x5_1 + 1))) = some r := by rw [if_pos rfl] at H; first | done | exact H
        clear H
        have H := H1
        clear H1
        have H' := Aside0.mk H
        clear H
        try go_wp2
        replace HB := Aside0.mk (below_drew1 HB.out)
        have p380 : 0 ≤ (x5_1 : Int) := of_decide_eq_true (by first | (with_reducible assumption) | assumption)
        have q380 : x5_1 < (l0.length : Int) := of_decide_eq_true (by first | (with_reducible assumption) | assumption)
        obtain ⟨ad380, A380_1, c380_1, e380, hx380_0, hx380_1, hl380_1, hi380_1⟩ := at_T45 HR0.out x5_1 p380 q380
        have hw380_1 := hx380_1
        have hw380_0 := hx380_0
        cases e380
        replace hx380_0 := cB HB.out hx380_0
        replace hx380_1 := cB HB.out hx380_1
        have HR380_1 := Aside0.mk hi380_1
        have HC380_1 := Aside0.mk hl380_1
        clear hi380_1 hl380_1
        replace p380 := eq_true p380
        replace q380 := eq_true q380
        have p381 : 0 ≤ (x5_1 : Int) := of_decide_eq_true (by first | (with_reducible assumption) | assumption)
        have q381 : x5_1 < (l1.length : Int) := of_decide_eq_true (by first | (with_reducible assumption) | assumption)
        obtain ⟨ad381, A381_1, c381_1, e381, hx381_0, hx381_1, hl381_1, hi381_1⟩ := at_T45 HR1.out x5_1 p381 q381
        have hw381_1 := hx381_1
        have hw381_0 := hx381_0
        cases e381
        replace hx381_0 := cB HB.out hx381_0
        replace hx381_1 := cB HB.out hx381_1
        have HR381_1 := Aside0.mk hi381_1
        have HC381_1 := Aside0.mk hl381_1
        clear hi381_1 hl381_1
        replace p381 := eq_true p381
        replace q381 := eq_true q381
        refine start_ (n := 10) (S := fun w' => w'.cell? (ad380.add ((x5_1).toNat * 2)) = some (.int .i64 ((rd_T45 l0 x5_1).f0)) ∧ w'.cell? ⟨(ad380.add ((x5_1).toNat * 2)).block, (ad380.add ((x5_1).toNat * 2)).off + 1, none⟩ = some (.slice A380_1 ((rd_T45 l0 x5_1).f1).length c380_1) ∧ w'.cell? (ad381.add ((x5_1).toNat * 2)) = some (.int .i64 ((rd_T45 l1 x5_1).f0)) ∧ w'.cell? ⟨(ad381.add ((x5_1).toNat * 2)).block, (ad381.add ((x5_1).toNat * 2)).off + 1, none⟩ = some (.slice A381_1 ((rd_T45 l1 x5_1).f1).length c381_1)) (ds := []) #[false, false, false, false, false, false, false, false, false, false] (by kernel_rfl) rfl rfl ⟨(cB HB.out hw380_0), (cB HB.out hw380_1), (cB HB.out hw381_0), (cB HB.out hw381_1)⟩ (fun hHeld => ?_); refine with_tabW ridgewayref03_SameAll.tab6 ridgewayref03_SameAll.bits6 (fun HT_ HW_ => ?_)
        generalize wr.drew = w9 at HB HR380_1 HR381_1 hx380_0 hx380_1 hx381_0 hx381_1 hHeld ⊢
        refine pure_ (i := 0) (N := some 17) (v := ?_) (a' := ?_) #[true, false, false, false, false, false, false, false, false, false] rfl rfl (any_of HT_.out (by kernel_rfl)) (fun _ _ _ h => h) (Or.inl ⟨by rfl, ?_⟩) ?_ ?_
        rotate_left; · intro w'; go_simp; with_reducible rfl
        rotate_left; · simp only [Act.put, sA, sB, sC, i64_w, i32_w]; rfl
        refine pure_ (i := 1) (N := some 18) (v := ?_) (a' := ?_) #[true, true, false, false, false, false, false, false, false, false] rfl rfl (any_of HT_.out (by kernel_rfl)) (fun _ _ _ h => h) (Or.inl ⟨by rfl, ?_⟩) ?_ ?_
        rotate_left; · intro w'; go_simp; with_reducible rfl
        rotate_left; · simp only [Act.put, sA, sB, sC, i64_w, i32_w]; rfl
        refine pure_ (i := 2) (N := some 19) (v := ?_) (a' := ?_) #[true, true, true, false, false, false, false, false, false, false] rfl rfl (any_of HT_.out (by kernel_rfl)) (fun _ _ _ h => h) (Or.inl ⟨by rfl, ?_⟩) ?_ ?_
        rotate_left; · intro w'; go_simp; with_reducible rfl
        rotate_left; · simp only [Act.put, sA, sB, sC, i64_w, i32_w]; rfl
        refine pure_ (i := 4) (N := some 21) (v := ?_) (a' := ?_) #[true, true, true, false, true, false, false, false, false, false] rfl rfl (any_of HT_.out (by kernel_rfl)) (fun _ _ _ h => h) (Or.inl ⟨by rfl, ?_⟩) ?_ ?_
        rotate_left; · intro w'; go_simp; with_reducible rfl
        rotate_left; · simp only [Act.put, sA, sB, sC, i64_w, i32_w]; rfl
        refine pure_ (i := 5) (N := some 22) (v := ?_) (a' := ?_) #[true, true, true, false, true, true, false, false, false, false] rfl rfl (any_of HT_.out (by kernel_rfl)) (fun _ _ _ h => h) (Or.inl ⟨by rfl, ?_⟩) ?_ ?_
        rotate_left; · intro w'; go_simp; with_reducible rfl
        rotate_left; · simp only [Act.put, sA, sB, sC, i64_w, i32_w]; rfl
        refine pure_ (i := 6) (N := some 23) (v := ?_) (a' := ?_) #[true, true, true, false, true, true, true, false, false, false] rfl rfl (any_of HT_.out (by kernel_rfl)) (fun _ _ _ h => h) (Or.inl ⟨by rfl, ?_⟩) ?_ ?_
        rotate_left; · intro w'; go_simp; with_reducible rfl
        rotate_left; · simp only [Act.put, sA, sB, sC, i64_w, i32_w]; rfl
        refine take_ (i := 3) (N := some 20) (v := ?_) (a' := ?_) #[true, true, true, true, true, true, true, false, false, false] rfl rfl (take_ofW HT_.out HW_.out (by kernel_rfl)) (fun _ _ _ h => h) (Or.inl ⟨by rfl, ?_⟩) hHeld ?_ ?_
        rotate_left; · rintro w' ⟨s0, s1, s2, s3⟩; go_simp; with_reducible rfl
        rotate_left; · simp only [Act.put, sA, sB, sC, i64_w, i32_w]; rfl
        refine take_ (i := 7) (N := some 24) (v := ?_) (a' := ?_) #[true, true, true, true, true, true, true, true, false, false] rfl rfl (take_ofW HT_.out HW_.out (by kernel_rfl)) (fun _ _ _ h => h) (Or.inl ⟨by rfl, ?_⟩) hHeld ?_ ?_
        rotate_left; · rintro w' ⟨s0, s1, s2, s3⟩; go_simp; with_reducible rfl
        rotate_left; · simp only [Act.put, sA, sB, sC, i64_w, i32_w]; rfl
        refine one_ (i := 8) (N := some 25) #[true, true, true, true, true, true, true, true, true, false] rfl rfl (one_of HT_.out (by kernel_rfl)) (by decide) (fun K hK => ?_)
        refine goes_ Tryd.func40 (by kernel_rfl) rfl #[.agg #[.int .i64 ((rd_T45 l0 x5_1).f0), .slice A380_1 ((rd_T45 l0 x5_1).f1).length c380_1], .agg #[.int .i64 ((rd_T45 l1 x5_1).f0), .slice A381_1 ((rd_T45 l1 x5_1).f1).length c381_1]] (by rfl) rfl rfl (by (try simp only [List.map_toArray, List.map_cons, List.map_nil]); first | done | rfl | (simp only [List.length_drop, List.length_take]; rfl)) ?_
        with_reducible refine (ridgewayref03_Same.calls ((rd_T45 l0 x5_1).f0) _ _ ((rd_T45 l0 x5_1).f1) ((rd_T45 l1 x5_1).f0) _ _ ((rd_T45 l1 x5_1).f1) true _ ?side1 ?side2 ?side3 ?side4 A7.out).mono ?_
        (case side1 => repeat first | exact (Kd.C_below HR380_1.out HB.out) | with_reducible first | apply Kd.C_alloc | apply Kd.C_drewN | apply Kd.C_drew)
        (case side2 => exact HC380_1.out)
        (case side3 => repeat first | exact (Kd.C_below HR381_1.out HB.out) | with_reducible first | apply Kd.C_alloc | apply Kd.C_drewN | apply Kd.C_drew)
        (case side4 => exact HC381_1.out)
        rintro e w10 ⟨rfl, hb⟩
        refine ⟨_, rfl, ?_⟩
        replace HB := Aside0.mk (below_step (by with_reducible repeat first | exact HB.out | apply bA | apply bN | apply bD) hb)
        (try clear hb)
        (try clear hb2)
        (try clear hk)
        (try clear hi)
        refine hK.out _ _ ⟨(cB HB.out hw380_0), (cB HB.out hw380_1), (cB HB.out hw381_0), (cB HB.out hw381_1)⟩ (fun hHeld => ?_)
        clear hK K
        refine norm_ (a' := ?_) ?_ ?_
        rotate_left
        ·
         show Act.put _ (some 25) _ = _
         simp only [Act.put, sA, sB, sC, i64_w, i32_w]
         rfl
        refine pure_ (i := 9) (N := some 26) (v := ?_) (a' := ?_) #[true, true, true, true, true, true, true, true, true, true] rfl rfl (any_of HT_.out (by kernel_rfl)) (fun _ _ _ h => h) (Or.inl ⟨by rfl, ?_⟩) ?_ ?_
        rotate_left; · intro w'; go_simp; with_reducible rfl
        rotate_left; · simp only [Act.put, sA, sB, sC, i64_w, i32_w]; rfl
        refine done_ (done_of HT_.out (by kernel_rfl)) ?_
        try go_wp2
        go_roundg k1
        case measure => have := HK1.out; omega
        case rel => exact ⟨(wrap64 (x5_1 + 1)), (by first | rfl | (simp; done) | (simp [*]; done)), H', ⟨by have := HK1.out; omega⟩, ⟨by with_reducible repeat first | exact HB.out | apply bA | apply bN | apply bD⟩⟩
       ·
        replace c8 := Bool.eq_false_iff.mpr c8
        subst c8
        have H1 : (some false) = some r := by rw [if_neg (show ¬ (false = true) by decide)] at H; first | done | exact H
        clear H
        have H := H1
        clear H1
        obtain rfl := Option.some.inj H
        try go_wp2
        replace HB := Aside0.mk (below_drew1 HB.out)
        have p380 : 0 ≤ (x5_1 : Int) := of_decide_eq_true (by first | (with_reducible assumption) | assumption)
        have q380 : x5_1 < (l0.length : Int) := of_decide_eq_true (by first | (with_reducible assumption) | assumption)
        obtain ⟨ad380, A380_1, c380_1, e380, hx380_0, hx380_1, hl380_1, hi380_1⟩ := at_T45 HR0.out x5_1 p380 q380
        have hw380_1 := hx380_1
        have hw380_0 := hx380_0
        cases e380
        replace hx380_0 := cB HB.out hx380_0
        replace hx380_1 := cB HB.out hx380_1
        have HR380_1 := Aside0.mk hi380_1
        have HC380_1 := Aside0.mk hl380_1
        clear hi380_1 hl380_1
        replace p380 := eq_true p380
        replace q380 := eq_true q380
        have p381 : 0 ≤ (x5_1 : Int) := of_decide_eq_true (by first | (with_reducible assumption) | assumption)
        have q381 : x5_1 < (l1.length : Int) := of_decide_eq_true (by first | (with_reducible assumption) | assumption)
        obtain ⟨ad381, A381_1, c381_1, e381, hx381_0, hx381_1, hl381_1, hi381_1⟩ := at_T45 HR1.out x5_1 p381 q381
        have hw381_1 := hx381_1
        have hw381_0 := hx381_0
        cases e381
        replace hx381_0 := cB HB.out hx381_0
        replace hx381_1 := cB HB.out hx381_1
        have HR381_1 := Aside0.mk hi381_1
        have HC381_1 := Aside0.mk hl381_1
        clear hi381_1 hl381_1
        replace p381 := eq_true p381
        replace q381 := eq_true q381
        refine start_ (n := 10) (S := fun w' => w'.cell? (ad380.add ((x5_1).toNat * 2)) = some (.int .i64 ((rd_T45 l0 x5_1).f0)) ∧ w'.cell? ⟨(ad380.add ((x5_1).toNat * 2)).block, (ad380.add ((x5_1).toNat * 2)).off + 1, none⟩ = some (.slice A380_1 ((rd_T45 l0 x5_1).f1).length c380_1) ∧ w'.cell? (ad381.add ((x5_1).toNat * 2)) = some (.int .i64 ((rd_T45 l1 x5_1).f0)) ∧ w'.cell? ⟨(ad381.add ((x5_1).toNat * 2)).block, (ad381.add ((x5_1).toNat * 2)).off + 1, none⟩ = some (.slice A381_1 ((rd_T45 l1 x5_1).f1).length c381_1)) (ds := []) #[false, false, false, false, false, false, false, false, false, false] (by kernel_rfl) rfl rfl ⟨(cB HB.out hw380_0), (cB HB.out hw380_1), (cB HB.out hw381_0), (cB HB.out hw381_1)⟩ (fun hHeld => ?_); refine with_tabW ridgewayref03_SameAll.tab6 ridgewayref03_SameAll.bits6 (fun HT_ HW_ => ?_)
        generalize wr.drew = w11 at HB HR380_1 HR381_1 hx380_0 hx380_1 hx381_0 hx381_1 hHeld ⊢
        refine pure_ (i := 0) (N := some 17) (v := ?_) (a' := ?_) #[true, false, false, false, false, false, false, false, false, false] rfl rfl (any_of HT_.out (by kernel_rfl)) (fun _ _ _ h => h) (Or.inl ⟨by rfl, ?_⟩) ?_ ?_
        rotate_left; · intro w'; go_simp; with_reducible rfl
        rotate_left; · simp only [Act.put, sA, sB, sC, i64_w, i32_w]; rfl
        refine pure_ (i := 1) (N := some 18) (v := ?_) (a' := ?_) #[true, true, false, false, false, false, false, false, false, false] rfl rfl (any_of HT_.out (by kernel_rfl)) (fun _ _ _ h => h) (Or.inl ⟨by rfl, ?_⟩) ?_ ?_
        rotate_left; · intro w'; go_simp; with_reducible rfl
        rotate_left; · simp only [Act.put, sA, sB, sC, i64_w, i32_w]; rfl
        refine pure_ (i := 2) (N := some 19) (v := ?_) (a' := ?_) #[true, true, true, false, false, false, false, false, false, false] rfl rfl (any_of HT_.out (by kernel_rfl)) (fun _ _ _ h => h) (Or.inl ⟨by rfl, ?_⟩) ?_ ?_
        rotate_left; · intro w'; go_simp; with_reducible rfl
        rotate_left; · simp only [Act.put, sA, sB, sC, i64_w, i32_w]; rfl
        refine pure_ (i := 4) (N := some 21) (v := ?_) (a' := ?_) #[true, true, true, false, true, false, false, false, false, false] rfl rfl (any_of HT_.out (by kernel_rfl)) (fun _ _ _ h => h) (Or.inl ⟨by rfl, ?_⟩) ?_ ?_
        rotate_left; · intro w'; go_simp; with_reducible rfl
        rotate_left; · simp only [Act.put, sA, sB, sC, i64_w, i32_w]; rfl
        refine pure_ (i := 5) (N := some 22) (v := ?_) (a' := ?_) #[true, true, true, false, true, true, false, false, false, false] rfl rfl (any_of HT_.out (by kernel_rfl)) (fun _ _ _ h => h) (Or.inl ⟨by rfl, ?_⟩) ?_ ?_
        rotate_left; · intro w'; go_simp; with_reducible rfl
        rotate_left; · simp only [Act.put, sA, sB, sC, i64_w, i32_w]; rfl
        refine pure_ (i := 6) (N := some 23) (v := ?_) (a' := ?_) #[true, true, true, false, true, true, true, false, false, false] rfl rfl (any_of HT_.out (by kernel_rfl)) (fun _ _ _ h => h) (Or.inl ⟨by rfl, ?_⟩) ?_ ?_
        rotate_left; · intro w'; go_simp; with_reducible rfl
        rotate_left; · simp only [Act.put, sA, sB, sC, i64_w, i32_w]; rfl
        refine take_ (i := 3) (N := some 20) (v := ?_) (a' := ?_) #[true, true, true, true, true, true, true, false, false, false] rfl rfl (take_ofW HT_.out HW_.out (by kernel_rfl)) (fun _ _ _ h => h) (Or.inl ⟨by rfl, ?_⟩) hHeld ?_ ?_
        rotate_left; · rintro w' ⟨s0, s1, s2, s3⟩; go_simp; with_reducible rfl
        rotate_left; · simp only [Act.put, sA, sB, sC, i64_w, i32_w]; rfl
        refine take_ (i := 7) (N := some 24) (v := ?_) (a' := ?_) #[true, true, true, true, true, true, true, true, false, false] rfl rfl (take_ofW HT_.out HW_.out (by kernel_rfl)) (fun _ _ _ h => h) (Or.inl ⟨by rfl, ?_⟩) hHeld ?_ ?_
        rotate_left; · rintro w' ⟨s0, s1, s2, s3⟩; go_simp; with_reducible rfl
        rotate_left; · simp only [Act.put, sA, sB, sC, i64_w, i32_w]; rfl
        refine one_ (i := 8) (N := some 25) #[true, true, true, true, true, true, true, true, true, false] rfl rfl (one_of HT_.out (by kernel_rfl)) (by decide) (fun K hK => ?_)
        refine goes_ Tryd.func40 (by kernel_rfl) rfl #[.agg #[.int .i64 ((rd_T45 l0 x5_1).f0), .slice A380_1 ((rd_T45 l0 x5_1).f1).length c380_1], .agg #[.int .i64 ((rd_T45 l1 x5_1).f0), .slice A381_1 ((rd_T45 l1 x5_1).f1).length c381_1]] (by rfl) rfl rfl (by (try simp only [List.map_toArray, List.map_cons, List.map_nil]); first | done | rfl | (simp only [List.length_drop, List.length_take]; rfl)) ?_
        with_reducible refine (ridgewayref03_Same.calls ((rd_T45 l0 x5_1).f0) _ _ ((rd_T45 l0 x5_1).f1) ((rd_T45 l1 x5_1).f0) _ _ ((rd_T45 l1 x5_1).f1) false _ ?side1 ?side2 ?side3 ?side4 A7.out).mono ?_
        (case side1 => repeat first | exact (Kd.C_below HR380_1.out HB.out) | with_reducible first | apply Kd.C_alloc | apply Kd.C_drewN | apply Kd.C_drew)
        (case side2 => exact HC380_1.out)
        (case side3 => repeat first | exact (Kd.C_below HR381_1.out HB.out) | with_reducible first | apply Kd.C_alloc | apply Kd.C_drewN | apply Kd.C_drew)
        (case side4 => exact HC381_1.out)
        rintro e w12 ⟨rfl, hb⟩
        refine ⟨_, rfl, ?_⟩
        replace HB := Aside0.mk (below_step (by with_reducible repeat first | exact HB.out | apply bA | apply bN | apply bD) hb)
        (try clear hb)
        (try clear hb2)
        (try clear hk)
        (try clear hi)
        refine hK.out _ _ ⟨(cB HB.out hw380_0), (cB HB.out hw380_1), (cB HB.out hw381_0), (cB HB.out hw381_1)⟩ (fun hHeld => ?_)
        clear hK K
        refine norm_ (a' := ?_) ?_ ?_
        rotate_left
        ·
         show Act.put _ (some 25) _ = _
         simp only [Act.put, sA, sB, sC, i64_w, i32_w]
         rfl
        refine pure_ (i := 9) (N := some 26) (v := ?_) (a' := ?_) #[true, true, true, true, true, true, true, true, true, true] rfl rfl (any_of HT_.out (by kernel_rfl)) (fun _ _ _ h => h) (Or.inl ⟨by rfl, ?_⟩) ?_ ?_
        rotate_left; · intro w'; go_simp; with_reducible rfl
        rotate_left; · simp only [Act.put, sA, sB, sC, i64_w, i32_w]; rfl
        refine done_ (done_of HT_.out (by kernel_rfl)) ?_
        try go_wp2
        go_ret
        exact ⟨by first | rfl | (simp <;> rfl) | (simp [*] <;> rfl), by with_reducible repeat first | exact HB.out | apply bA | apply bN | apply bD⟩
      ·
       rw [if_neg c6] at H
       exact absurd H (by simp)
     ·
      rw [if_neg c5] at H
      exact absurd H (by simp)
    ·
     rw [if_neg c4] at H
     have c4b0 : decide (x5_1 < (l0.length : Int)) = false := decide_eq_false c4
     clear c4
     obtain rfl := Option.some.inj H
     go_wp2
     go_ret
     exact ⟨by first | rfl | (simp <;> rfl) | (simp [*] <;> rfl), by with_reducible repeat first | exact HB.out | apply bA | apply bN | apply bD⟩
 ·
  rw [if_neg c3] at H
  have c3b0 : ((l0.length : Int) == (l1.length : Int)) = false := beq_eq_false_iff_ne.mpr c3
  have c3b1 : ((l0.length : Int) != (l1.length : Int)) = true := bne_iff_ne.mpr c3
  have c3b2 : (l0.length == l1.length) = false := by first | simpa using c3 | (simp at c3 ⊢; omega)
  obtain rfl := Option.some.inj H
  go_enter Tryd.func19, Tryd.ntmps19
  go_wp2
  go_ret
  exact ⟨by first | rfl | (simp <;> rfl) | (simp [*] <;> rfl), by with_reducible repeat first | exact HB.out | apply bA | apply bN | apply bD⟩

end Go.Proofs.YtfbndolhocojiaaDoor.S
