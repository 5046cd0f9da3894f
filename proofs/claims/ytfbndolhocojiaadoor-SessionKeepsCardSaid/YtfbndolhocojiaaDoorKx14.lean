/- Each call of a Go function comes to what the Lean function of its name answers (written out by wip/tools/xprint.py, checked by Lean); conditions: those in each statement. -/
import Derived.Test.YtfbndolhocojiaaDoorKx0
import Derived.Test.YtfbndolhocojiaaDoorKx3
import Derived.Test.YtfbndolhocojiaaDoorKx9
import Derived.Test.YtfbndolhocojiaaDoorKx13
namespace Go.Proofs.YtfbndolhocojiaaDoor.K
open Go.RowKit Go.Proofs.YtfbndolhocojiaaDoorW.PrintWords Go.Proofs.YtfbndolhocojiaaDoorW.PrintLast Go.Proofs.YtfbndolhocojiaaDoorW.PrintMore Go.Proofs.YtfbndolhocojiaaDoorW.PrintX
attribute [local go_sem] max2_int min2_int max_two min_two max_three min_three max_four min_four   -- for this text's walks alone
set_option linter.unusedVariables false
set_option linter.unusedSimpArgs false

/-! ### ridgewaylaw17_step: function 12 -/
def ridgewaylaw17_step.l0 : Nat → Int → List (S45) → List (S45) → Int → Int → Int → Int → Int → Int → Int → Int → Int → List (S62) → List (S31) → Option (Int × Int × Int × Int × (List (S45)))
 | 0, _, _, _, _, _, _, _, _, _, _, _, _, _, _ => none
 | k + 1, x2, x3, x10, x11, x343000, x343001, x343002, x343003, x344000, x344001, x344002, x344003, x344004, x344005 => if x11 < (x3.length : Int) then (if 0 ≤ x11 then ((session_Take.f x343000 x343001 x343002 x343003 x344000 x344001 x344002 x344003 x344004 x344005 x2 ((rd_T45 x3 x11).f0) ((rd_T45 x3 x11).f1)).bind fun bt346 => (if x10.length + bt346.2.2.2.2.1.length < 4398046511104 then (ridgewaylaw17_step.l0 k x2 x3 (x10 ++ bt346.2.2.2.2.1) (wrap64 (x11 + 1)) bt346.1 bt346.2.1 bt346.2.2.1 bt346.2.2.2.1 x344000 x344001 x344002 x344003 x344004 x344005) else (none))) else (none)) else (some (x343000, x343001, x343002, x343003, x10))
def ridgewaylaw17_step.f (k : Nat) (a0_0 : Int) (a0_1 : Int) (a0_2 : Int) (a0_3 : Int) (a1_0 : Int) (a1_1 : Int) (a1_2 : Int) (a1_3 : Int) (l1_4 : List (S62)) (l1_5 : List (S31)) (a2 : Int) (l3 : List (S45)) : Option (Int × Int × Int × Int × (List (S45))) := ridgewaylaw17_step.l0 k a2 l3 ([] : List (S45)) 0 a0_0 a0_1 a0_2 a0_3 a1_0 a1_1 a1_2 a1_3 l1_4 l1_5
theorem ridgewaylaw17_step.mono_l : ∀ k, (∀ y0 y1 y2 y3 y4 y5 y6 y7 y8 y9 y10 y11 y12 y13, LeO (ridgewaylaw17_step.l0 k y0 y1 y2 y3 y4 y5 y6 y7 y8 y9 y10 y11 y12 y13) (ridgewaylaw17_step.l0 (k + 1) y0 y1 y2 y3 y4 y5 y6 y7 y8 y9 y10 y11 y12 y13))
 | 0 => fun _ _ _ _ _ _ _ _ _ _ _ _ _ _ r h => by simp [ridgewaylaw17_step.l0] at h
 | k + 1 => by
  have ih0 := ridgewaylaw17_step.mono_l k
  ·
   intro y0 y1 y2 y3 y4 y5 y6 y7 y8 y9 y10 y11 y12 y13
   unfold ridgewaylaw17_step.l0
   repeat' first
   | (with_reducible exact ih0 _ _ _ _ _ _ _ _ _ _ _ _ _ _)
   | (with_reducible exact LeO.refl _)
   | (with_reducible exact LeO.none _)
   | (with_reducible refine LeO.ite ?_ ?_)
   | (with_reducible refine LeO.bind ?_ (fun _ => ?_))
   | exact ih0 _ _ _ _ _ _ _ _ _ _ _ _ _ _
   | exact LeO.none _
   | refine LeO.ite ?_ ?_
   | refine LeO.bind ?_ (fun _ => ?_)
theorem ridgewaylaw17_step.mono : ∀ a0 a1 a2 a3 a4 a5 a6 a7 a8 a9 a10 a11 k, LeO (ridgewaylaw17_step.f k a0 a1 a2 a3 a4 a5 a6 a7 a8 a9 a10 a11) (ridgewaylaw17_step.f (k + 1) a0 a1 a2 a3 a4 a5 a6 a7 a8 a9 a10 a11) := by
 intro a0 a1 a2 a3 a4 a5 a6 a7 a8 a9 a10 a11 k
 have ih0 := ridgewaylaw17_step.mono_l k
 unfold ridgewaylaw17_step.f
 repeat' first
   | (with_reducible exact ih0 _ _ _ _ _ _ _ _ _ _ _ _ _ _)
   | (with_reducible exact LeO.refl _)
   | (with_reducible exact LeO.none _)
   | (with_reducible refine LeO.ite ?_ ?_)
   | (with_reducible refine LeO.bind ?_ (fun _ => ?_))
   | exact ih0 _ _ _ _ _ _ _ _ _ _ _ _ _ _
   | exact LeO.none _
   | refine LeO.ite ?_ ?_
   | refine LeO.bind ?_ (fun _ => ?_)
def ridgewaylaw17_step.T5 : Bool × List (List Nat × List Nat) := (true, [([], []), ([], []), ([], []), ([], []), ([], []), ([3, 4], [3, 4]), ([5], [5]), ([0, 1, 2, 6], [0, 1, 2, 6]), ([7], [7]), ([8], [8]), ([8], [8]), ([8], [8]), ([], []), ([12, 9, 7, 0, 1, 2, 3, 4, 5, 6, 7, 8, 9, 12], [9, 12]), ([10, 13, 0, 1, 2, 3, 4, 5, 6, 7, 8, 9, 10, 12, 13], [10]), ([11, 14, 0, 1, 2, 3, 4, 5, 6, 7, 8, 9, 10, 11, 12, 13, 14], [11])])
def ridgewaylaw17_step.B5 : List Nat := [0, 0, 0, 0, 0, 24, 56, 127, 255, 511, 511, 511, 0, 5119, 14335, 32767]
theorem ridgewaylaw17_step.tab5 : rtab .any (opsOf Tryd.f12 5) = ridgewaylaw17_step.T5 := by kernel_rfl
theorem ridgewaylaw17_step.bits5 : waitsOk ridgewaylaw17_step.T5.2 ridgewaylaw17_step.B5 = true := by kernel_rfl
set_option maxHeartbeats 8000000 in
set_option maxRecDepth 100000 in
theorem ridgewaylaw17_step.calls (k : Nat) (a0_0 : Int) (a0_1 : Int) (a0_2 : Int) (a0_3 : Int) (a1_0 : Int) (a1_1 : Int) (a1_2 : Int) (a1_3 : Int) (A1_4 : Option Addr) (c1_4 : Nat) (l1_4 : List (S62)) (A1_5 : Option Addr) (c1_5 : Nat) (l1_5 : List (S31)) (a2 : Int) (A3 : Option Addr) (c3 : Nat) (l3 : List (S45)) (r1 : Int) (r2 : Int) (r3 : Int) (r4 : Int) (r5 : List (S45)) (w : World) (hr1_4 : Kd.C k62 w A1_4 l1_4.length l1_4) (hc1_4 : l1_4.length ≤ c1_4) (hr1_5 : Kd.C k31 w A1_5 l1_5.length l1_5) (hc1_5 : l1_5.length ≤ c1_5) (hr3 : Kd.C k45 w A3 l3.length l3) (hc3 : l3.length ≤ c3) (hG : GOK w) (h : ridgewaylaw17_step.f k a0_0 a0_1 a0_2 a0_3 a1_0 a1_1 a1_2 a1_3 l1_4 l1_5 a2 l3 = some (r1, r2, r3, r4, r5)) :
  Calls Tryd.prog 12 #[.agg #[.int .i64 a0_0, .int .i64 a0_1, .int .i64 a0_2, .int .i64 a0_3], .agg #[.int .i64 a1_0, .int .i64 a1_1, .int .i64 a1_2, .int .i64 a1_3, .slice A1_4 l1_4.length c1_4, .slice A1_5 l1_5.length c1_5], .int .i64 a2, .slice A3 l3.length c3] w fun e w' => ∃ v4_ : Value, e = .returned (.tuple #[.agg #[.int .i64 r1, .int .i64 r2, .int .i64 r3, .int .i64 r4], v4_]) ∧ Kd.N k45 45 w' w.heap.size (fun k_ => (w.heap.size ≤ k_)) v4_ r5 ∧ Below w.heap.size w w' := by
 have hu34 := Tryd.underlying34
 have hu26 := Tryd.underlying26
 have hu45 := Tryd.underlying45
 have HR1_4 := Aside0.mk hr1_4
 have HC1_4 := Aside0.mk hc1_4
 clear hr1_4 hc1_4
 have HR1_5 := Aside0.mk hr1_5
 have HC1_5 := Aside0.mk hc1_5
 clear hr1_5 hc1_5
 have HR3 := Aside0.mk hr3
 have HC3 := Aside0.mk hc3
 clear hr3 hc3
 have HB := Aside0.mk (Below.refl w.heap.size w)
 have HG := Aside0.mk hG
 clear hG
 have H : (ridgewaylaw17_step.l0 k a2 l3 ([] : List (S45)) 0 a0_0 a0_1 a0_2 a0_3 a1_0 a1_1 a1_2 a1_3 l1_4 l1_5) = some (r1, r2, r3, r4, r5) := h
 clear h
 have H' := Aside0.mk H
 clear H
 go_enter Tryd.func12, Tryd.ntmps12
 go_wp2_with (first | ((with_reducible refine gate_dst (N := 4) rfl ?_); refine box_event ?hg (N := 4) ?hd (cs := #[.int .i64 a0_0, .int .i64 a0_1, .int .i64 a0_2, .int .i64 a0_3]) (t := 34) ?hr ?_; (case hd | hg => rfl); (case hr => first | (go_simp; done) | (go_simp; rfl)); intro gb342 hg w5 hbox hb; obtain ⟨hy, hz⟩ := bfst (by with_reducible repeat first | exact HB.out | apply bA | apply bN | apply bD) hb hg; replace HB := hy; have BK342 := Aside0.mk (hbox); have GE342 := hz; have GW342 := GE342; clear hy hz hb hbox hg) | ((with_reducible refine gate_dst (N := 5) rfl ?_); refine box_event ?hg (N := 5) ?hd (cs := #[.int .i64 a1_0, .int .i64 a1_1, .int .i64 a1_2, .int .i64 a1_3, .slice A1_4 l1_4.length c1_4, .slice A1_5 l1_5.length c1_5]) (t := 26) ?hr ?_; (case hd | hg => rfl); (case hr => first | (go_simp; done) | (go_simp; rfl)); intro gb343 hg w6 hbox hb; have hz := bZ BK342.out (by with_reducible repeat first | apply bA | apply bN | apply bD | exact Below.refl _ _) hb; have hy := below_step hz hb; have n0_ := Aside0.mk (blk_below BK342.out hy); have n1_ := Aside0.mk (below_step HB.out hy); have BK343 := Aside0.mk (hbox); have n3_ := Aside0.mk (bge HB.out hz hg); have GE343 := n3_; obtain ⟨NB342_343, NB343_342⟩ := bne2 BK342.out hz hg; clear BK342; clear HB; have BK342 := n0_; have HB := n1_; have GW343 := n3_; clear n0_ n1_ n3_; clear hy hz hb hbox hg) | ((with_reducible refine gate_dst (N := 8) rfl ?_); refine box_event ?hg (N := 8) ?hd (cs := #[.int .i64 0, .int .i64 0, .int .i64 0, .int .i64 0]) (t := 34) ?hr ?_; (case hd | hg => rfl); (case hr => first | (go_simp; done) | (go_simp; rfl)); intro gb344 hg w7 hbox hb; have hz := bZ BK342.out (by with_reducible repeat first | apply bA | apply bN | apply bD | exact Below.refl _ _) hb; have hy := below_step hz hb; have n0_ := Aside0.mk (blk_below BK342.out hy); have n1_ := Aside0.mk (blk_below BK343.out hy); have n2_ := Aside0.mk (below_step HB.out hy); have BK344 := Aside0.mk (hbox); have n4_ := Aside0.mk (bge HB.out hz hg); have GE344 := n4_; obtain ⟨NB342_344, NB344_342⟩ := bne2 BK342.out hz hg; obtain ⟨NB343_344, NB344_343⟩ := bne2 BK343.out hz hg; clear BK342; clear BK343; clear HB; have BK342 := n0_; have BK343 := n1_; have HB := n2_; have GW344 := n4_; clear n0_ n1_ n2_ n4_; clear hy hz hb hbox hg))
 go_loopg [10, 11] k (fun kq v10 v11 w' => ∃ (x10_1 : List (S45)) (x11_1 : Int) (x343000_1 : Int) (x343001_1 : Int) (x343002_1 : Int) (x343003_1 : Int), v11 = .int .i64 x11_1 ∧ Aside0 (ridgewaylaw17_step.l0 kq a2 l3 x10_1 x11_1 x343000_1 x343001_1 x343002_1 x343003_1 a1_0 a1_1 a1_2 a1_3 l1_4 l1_5 = some (r1, r2, r3, r4, r5)) ∧ Aside0 (kq ≤ k) ∧ Aside0 (Kd.N k45 45 w' w.heap.size (fun k_ => (w.heap.size ≤ k_) ∧ k_ ≠ gb342 ∧ k_ ≠ gb343 ∧ k_ ≠ gb344) v10 x10_1) ∧ Aside0 (w'.heap[gb342]? = some (.cells #[.int .i64 x343000_1, .int .i64 x343001_1, .int .i64 x343002_1, .int .i64 x343003_1] 34 (0, 0))) ∧ Aside0 (w'.heap[gb343]? = some (.cells #[.int .i64 a1_0, .int .i64 a1_1, .int .i64 a1_2, .int .i64 a1_3, (.slice A1_4 l1_4.length c1_4), (.slice A1_5 l1_5.length c1_5)] 26 (0, 0))) ∧ Aside0 (w'.heap[gb344]? = some (.cells #[.int .i64 0, .int .i64 0, .int .i64 0, .int .i64 0] 34 (0, 0))) ∧ Aside0 (Below w.heap.size w w'))
 case atStart => exact ⟨(([] : List (S45))), (0), (a0_0), (a0_1), (a0_2), (a0_3), (by first | rfl | (simp; done) | (simp [*]; done)), H', ⟨Nat.le_refl _⟩, ⟨by first | exact Kd.S_nil _ _ _ _ _ | exact Kd.N_nil _ _ _ _ _ | exact Kd.V_nil _ _ _ _ _ | exact Kd.Q_nil _ _ _ _ _ | exact Kd.R_nil _ _ _ _ _⟩, ⟨by (with_reducible repeat first | apply kN | apply kD | apply kA); exact BK342.out⟩, ⟨by (with_reducible repeat first | apply kN | apply kD | apply kA); exact BK343.out⟩, ⟨by (with_reducible repeat first | apply kN | apply kD | apply kA); exact BK344.out⟩, ⟨by with_reducible repeat first | exact HB.out | apply bA | apply bN | apply bD | refine bS ?_ GE342.out | refine bS ?_ GE343.out | refine bS ?_ GE344.out⟩⟩
 case round =>
  clear H'
  try clear c1
  try clear p2
  try clear c3
  obtain ⟨x10_1, x11_1, x343000_1, x343001_1, x343002_1, x343003_1, rfl, HA, HK1, HO_10, BK342, BK343, BK344, HB⟩ := hrel
  cases gk with
  | zero => exact absurd HA.out (by simp [ridgewaylaw17_step.l0])
  | succ k1 =>
   have H := HA.out
   clear HA
   simp only [ridgewaylaw17_step.l0] at H
   by_cases c8 : x11_1 < (l3.length : Int)
   ·
    rw [if_pos c8] at H
    have c8b0 : decide (x11_1 < (l3.length : Int)) = true := decide_eq_true c8
    clear c8
    by_cases c9 : 0 ≤ x11_1
    ·
     rw [if_pos c9] at H
     have c9b0 : decide (0 ≤ x11_1) = true := decide_eq_true c9
     clear c9
     replace H := Option.bind_eq_some_iff.mp H
     obtain ⟨⟨t346, t347, t348, t349, t350, t353⟩, A100, H⟩ := H
     replace H : (if x10_1.length + t350.length < 4398046511104 then (ridgewaylaw17_step.l0 k1 a2 l3 (x10_1 ++ t350) (wrap64 (x11_1 + 1)) t346 t347 t348 t349 a1_0 a1_1 a1_2 a1_3 l1_4 l1_5) else (none)) = some (r1, r2, r3, r4, r5) := H
     have A10 := Aside0.mk A100
     clear A100
     by_cases c11 : x10_1.length + t350.length < 4398046511104
     ·
      rw [if_pos c11] at H
      have LMc11 := Aside0.mk c11
      clear c11
      obtain ⟨y355, hy355⟩ : ∃ y_ : List (S45), y_ = (x10_1 ++ t350) := ⟨_, rfl⟩
      replace H : (ridgewaylaw17_step.l0 k1 a2 l3 y355 (wrap64 (x11_1 + 1)) t346 t347 t348 t349 a1_0 a1_1 a1_2 a1_3 l1_4 l1_5) = some (r1, r2, r3, r4, r5) := by first | (rw [hy355]; with_reducible exact H) | (have H2_ := (Option.bind_some _ _).symm.trans H; rw [hy355]; with_reducible exact H2_) | (have H2_ := (Option.bind_some _ _).symm.trans H; with_reducible exact H2_) | with_reducible exact H | (rw [hy355]; exact H) | exact H
      have Ny355 := Aside0.mk hy355
      clear hy355
      have H' := Aside0.mk H
      clear H
      try go_wp2
      replace HO_10 := Aside0.mk (Kd.N_drew HO_10.out)
      replace BK342 := Aside0.mk (blk_drew BK342.out)
      replace BK343 := Aside0.mk (blk_drew BK343.out)
      replace BK344 := Aside0.mk (blk_drew BK344.out)
      replace HB := Aside0.mk (below_drew1 HB.out)
      have p345 : 0 ≤ (x11_1 : Int) := of_decide_eq_true (by first | (with_reducible assumption) | assumption)
      have q345 : x11_1 < (l3.length : Int) := of_decide_eq_true (by first | (with_reducible assumption) | assumption)
      obtain ⟨ad345, A345_1, c345_1, e345, hx345_0, hx345_1, hl345_1, hi345_1⟩ := at_T45 HR3.out x11_1 p345 q345
      have hw345_1 := hx345_1
      have hw345_0 := hx345_0
      cases e345
      replace hx345_0 := cB HB.out hx345_0
      replace hx345_1 := cB HB.out hx345_1
      have HR345_1 := Aside0.mk hi345_1
      have HC345_1 := Aside0.mk hl345_1
      clear hi345_1 hl345_1
      replace p345 := eq_true p345
      replace q345 := eq_true q345
      refine start_ (n := 16) (S := fun w' => w'.cell? ⟨gb342, 0, none⟩ = some (.int .i64 x343000_1) ∧ w'.cell? ⟨gb342, 1, none⟩ = some (.int .i64 x343001_1) ∧ w'.cell? ⟨gb342, 2, none⟩ = some (.int .i64 x343002_1) ∧ w'.cell? ⟨gb342, 3, none⟩ = some (.int .i64 x343003_1) ∧ w'.cell? ⟨gb343, 0, none⟩ = some (.int .i64 a1_0) ∧ w'.cell? ⟨gb343, 1, none⟩ = some (.int .i64 a1_1) ∧ w'.cell? ⟨gb343, 2, none⟩ = some (.int .i64 a1_2) ∧ w'.cell? ⟨gb343, 3, none⟩ = some (.int .i64 a1_3) ∧ w'.cell? ⟨gb343, 4, none⟩ = some (.slice A1_4 l1_4.length c1_4) ∧ w'.cell? ⟨gb343, 5, none⟩ = some (.slice A1_5 l1_5.length c1_5) ∧ w'.cell? (ad345.add ((x11_1).toNat * 2)) = some (.int .i64 ((rd_T45 l3 x11_1).f0)) ∧ w'.cell? ⟨(ad345.add ((x11_1).toNat * 2)).block, (ad345.add ((x11_1).toNat * 2)).off + 1, none⟩ = some (.slice A345_1 ((rd_T45 l3 x11_1).f1).length c345_1)) (ds := []) #[false, false, false, false, false, false, false, false, false, false, false, false, false, false, false, false] (by kernel_rfl) rfl rfl ⟨(blk_cell BK342.out 0).trans rfl, (blk_cell BK342.out 1).trans rfl, (blk_cell BK342.out 2).trans rfl, (blk_cell BK342.out 3).trans rfl, (blk_cell BK343.out 0).trans rfl, (blk_cell BK343.out 1).trans rfl, (blk_cell BK343.out 2).trans rfl, (blk_cell BK343.out 3).trans rfl, (blk_cell BK343.out 4).trans rfl, (blk_cell BK343.out 5).trans rfl, (cB HB.out hw345_0), (cB HB.out hw345_1)⟩ (fun hHeld => ?_); refine with_tabW ridgewaylaw17_step.tab5 ridgewaylaw17_step.bits5 (fun HT_ HW_ => ?_)
      generalize wr.drew = w12 at HO_10 BK342 BK343 BK344 HB HR345_1 hx345_0 hx345_1 hHeld ⊢
      refine pure_ (i := 2) (N := some 24) (v := ?_) (a' := ?_) #[false, false, true, false, false, false, false, false, false, false, false, false, false, false, false, false] rfl rfl (any_of HT_.out (by kernel_rfl)) (fun _ _ _ h => h) (Or.inl ⟨by rfl, ?_⟩) ?_ ?_
      rotate_left; · intro w'; go_simp; with_reducible rfl
      rotate_left; · simp only [Act.put, sA, sB, sC, i64_w, i32_w]; rfl
      refine pure_ (i := 3) (N := some 25) (v := ?_) (a' := ?_) #[false, false, true, true, false, false, false, false, false, false, false, false, false, false, false, false] rfl rfl (any_of HT_.out (by kernel_rfl)) (fun _ _ _ h => h) (Or.inl ⟨by rfl, ?_⟩) ?_ ?_
      rotate_left; · intro w'; go_simp; with_reducible rfl
      rotate_left; · simp only [Act.put, sA, sB, sC, i64_w, i32_w]; rfl
      refine pure_ (i := 4) (N := some 26) (v := ?_) (a' := ?_) #[false, false, true, true, true, false, false, false, false, false, false, false, false, false, false, false] rfl rfl (any_of HT_.out (by kernel_rfl)) (fun _ _ _ h => h) (Or.inl ⟨by rfl, ?_⟩) ?_ ?_
      rotate_left; · intro w'; go_simp; with_reducible rfl
      rotate_left; · simp only [Act.put, sA, sB, sC, i64_w, i32_w]; rfl
      refine pure_ (i := 5) (N := some 27) (v := ?_) (a' := ?_) #[false, false, true, true, true, true, false, false, false, false, false, false, false, false, false, false] rfl rfl (any_of HT_.out (by kernel_rfl)) (fun _ _ _ h => h) (Or.inl ⟨by rfl, ?_⟩) ?_ ?_
      rotate_left; · intro w'; go_simp; with_reducible rfl
      rotate_left; · simp only [Act.put, sA, sB, sC, i64_w, i32_w]; rfl
      refine take_ (i := 0) (N := some 22) (v := ?_) (a' := ?_) #[true, false, true, true, true, true, false, false, false, false, false, false, false, false, false, false] rfl rfl (take_ofW HT_.out HW_.out (by kernel_rfl)) (fun _ _ _ h => h) (Or.inl ⟨by rfl, ?_⟩) hHeld ?_ ?_
      rotate_left; · rintro w' ⟨s0, s1, s2, s3, s4, s5, s6, s7, s8, s9, s10, s11⟩; go_simp; with_reducible rfl
      rotate_left; · simp only [Act.put, sA, sB, sC, i64_w, i32_w]; rfl
      refine take_ (i := 1) (N := some 23) (v := ?_) (a' := ?_) #[true, true, true, true, true, true, false, false, false, false, false, false, false, false, false, false] rfl rfl (take_ofW HT_.out HW_.out (by kernel_rfl)) (fun _ _ _ h => h) (Or.inl ⟨by rfl, ?_⟩) hHeld ?_ ?_
      rotate_left; · rintro w' ⟨s0, s1, s2, s3, s4, s5, s6, s7, s8, s9, s10, s11⟩; go_simp; with_reducible rfl
      rotate_left; · simp only [Act.put, sA, sB, sC, i64_w, i32_w]; rfl
      refine take_ (i := 6) (N := some 28) (v := ?_) (a' := ?_) #[true, true, true, true, true, true, true, false, false, false, false, false, false, false, false, false] rfl rfl (take_ofW HT_.out HW_.out (by kernel_rfl)) (fun _ _ _ h => h) (Or.inl ⟨by rfl, ?_⟩) hHeld ?_ ?_
      rotate_left; · rintro w' ⟨s0, s1, s2, s3, s4, s5, s6, s7, s8, s9, s10, s11⟩; go_simp; with_reducible rfl
      rotate_left; · simp only [Act.put, sA, sB, sC, i64_w, i32_w]; rfl
      refine join_ (σ := Value × Nat) 3 #[true, true, true, true, true, true, true, true, true, true, true, true, true, false, false, false] (fun s_ => [(29, .tuple #[.agg #[.int .i64 t346, .int .i64 t347, .int .i64 t348, .int .i64 t349], s_.1, .bool t353]), (12, .pointer (some ⟨s_.2, 0, none⟩)), (21, .tuple #[.agg #[.int .i64 t346, .int .i64 t347, .int .i64 t348, .int .i64 t349], s_.1, .bool t353]), (30, .agg #[.int .i64 t346, .int .i64 t347, .int .i64 t348, .int .i64 t349]), (31, s_.1), (32, .bool t353)]) (fun s_ w' => (w'.cell? ⟨gb342, 0, none⟩ = some (.int .i64 x343000_1) ∧ w'.cell? ⟨gb342, 1, none⟩ = some (.int .i64 x343001_1) ∧ w'.cell? ⟨gb342, 2, none⟩ = some (.int .i64 x343002_1) ∧ w'.cell? ⟨gb342, 3, none⟩ = some (.int .i64 x343003_1) ∧ w'.cell? ⟨gb343, 0, none⟩ = some (.int .i64 a1_0) ∧ w'.cell? ⟨gb343, 1, none⟩ = some (.int .i64 a1_1) ∧ w'.cell? ⟨gb343, 2, none⟩ = some (.int .i64 a1_2) ∧ w'.cell? ⟨gb343, 3, none⟩ = some (.int .i64 a1_3) ∧ w'.cell? ⟨gb343, 4, none⟩ = some (.slice A1_4 l1_4.length c1_4) ∧ w'.cell? ⟨gb343, 5, none⟩ = some (.slice A1_5 l1_5.length c1_5) ∧ w'.cell? (ad345.add ((x11_1).toNat * 2)) = some (.int .i64 ((rd_T45 l3 x11_1).f0)) ∧ w'.cell? ⟨(ad345.add ((x11_1).toNat * 2)).block, (ad345.add ((x11_1).toNat * 2)).off + 1, none⟩ = some (.slice A345_1 ((rd_T45 l3 x11_1).f1).length c345_1)) ∧ (Kd.V k45 45 w' w.heap.size (fun k_ => (w.heap.size ≤ k_) ∧ some k_ ≠ (u10 : Value).ownBlock ∧ k_ ≠ gb342 ∧ k_ ≠ gb343 ∧ k_ ≠ gb344 ∧ k_ ≠ s_.2) s_.1 t350) ∧ (Kd.N k45 45 w' w.heap.size (fun k_ => (w.heap.size ≤ k_) ∧ k_ ≠ gb342 ∧ k_ ≠ gb343 ∧ k_ ≠ gb344 ∧ k_ ≠ s_.2) u10 x10_1) ∧ (w'.heap[gb342]? = some (.cells #[.int .i64 x343000_1, .int .i64 x343001_1, .int .i64 x343002_1, .int .i64 x343003_1] 34 (0, 0))) ∧ (w'.heap[gb343]? = some (.cells #[.int .i64 a1_0, .int .i64 a1_1, .int .i64 a1_2, .int .i64 a1_3, .slice A1_4 l1_4.length c1_4, .slice A1_5 l1_5.length c1_5] 26 (0, 0))) ∧ (w'.heap[gb344]? = some (.cells #[.int .i64 0, .int .i64 0, .int .i64 0, .int .i64 0] 34 (0, 0))) ∧ (w'.heap[s_.2]? = some (.cells #[.int .i64 0, .int .i64 0, .int .i64 0, .int .i64 0] 34 (0, 0))) ∧ (w.heap.size ≤ s_.2) ∧ (w.heap.size ≤ s_.2) ∧ (gb342 ≠ s_.2) ∧ (s_.2 ≠ gb342) ∧ (gb343 ≠ s_.2) ∧ (s_.2 ≠ gb343) ∧ (gb344 ≠ s_.2) ∧ (s_.2 ≠ gb344) ∧ (Below w.heap.size w w')) ?_ ?_
      rotate_left
      ·
       intro hCont
       refine two_ (i := 7) (j := 12) (Ni := some 29) (Nj := some 12) #[true, true, true, true, true, true, true, true, false, false, false, false, false, false, false, false] #[true, true, true, true, true, true, true, false, false, false, false, false, true, false, false, false] rfl rfl rfl rfl (two_of HT_.out (by kernel_rfl)) (by decide) (by decide) (fun K hK => ?_) (fun K hK => ?_)
       ·
        skip
        refine goes_ Tryd.func16 (by kernel_rfl) rfl #[.agg #[.int .i64 x343000_1, .int .i64 x343001_1, .int .i64 x343002_1, .int .i64 x343003_1], .agg #[.int .i64 a1_0, .int .i64 a1_1, .int .i64 a1_2, .int .i64 a1_3, .slice A1_4 l1_4.length c1_4, .slice A1_5 l1_5.length c1_5], .int .i64 a2, .agg #[.int .i64 ((rd_T45 l3 x11_1).f0), .slice A345_1 ((rd_T45 l3 x11_1).f1).length c345_1]] (by rfl) rfl rfl (by (try simp only [List.map_toArray, List.map_cons, List.map_nil]); first | done | rfl | (simp only [List.length_drop, List.length_take]; rfl)) ?_
        with_reducible refine (session_Take.calls x343000_1 x343001_1 x343002_1 x343003_1 a1_0 a1_1 a1_2 a1_3 _ _ l1_4 _ _ l1_5 a2 ((rd_T45 l3 x11_1).f0) _ _ ((rd_T45 l3 x11_1).f1) t346 t347 t348 t349 t350 t353 _ ?side1 ?side2 ?side3 ?side4 ?side5 ?side6 ?side7 A10.out).mono ?_
        (case side1 => repeat first | exact (Kd.C_below HR1_4.out HB.out) | with_reducible first | apply Kd.C_alloc | apply Kd.C_drewN | apply Kd.C_drew)
        (case side2 => exact HC1_4.out)
        (case side3 => repeat first | exact (Kd.C_below HR1_5.out HB.out) | with_reducible first | apply Kd.C_alloc | apply Kd.C_drewN | apply Kd.C_drew)
        (case side4 => exact HC1_5.out)
        (case side5 => repeat first | exact (Kd.C_below HR345_1.out HB.out) | with_reducible first | apply Kd.C_alloc | apply Kd.C_drewN | apply Kd.C_drew)
        (case side6 => exact HC345_1.out)
        (case side7 => exact GOK.below HG.out (by with_reducible repeat first | exact HB.out | apply bA | apply bN | apply bD | refine bS ?_ GE342.out | refine bS ?_ GE343.out | refine bS ?_ GE344.out))
        rintro e w13 ⟨v351, rfl, ho0, hb⟩
        refine ⟨_, rfl, ?_⟩
        have HO352 := Aside0.mk (Kd.V_lower (Kd.V_mono (ok' := fun k_ => (w.heap.size ≤ k_) ∧ some k_ ≠ (u10 : Value).ownBlock ∧ k_ ≠ gb342 ∧ k_ ≠ gb343 ∧ k_ ≠ gb344) ho0 (fun k_ hk_ => ⟨(Nat.le_trans (below_size (by with_reducible repeat first | exact HB.out | apply bA | apply bN | apply bD | refine bS ?_ GE342.out | refine bS ?_ GE343.out | refine bS ?_ GE344.out)) hk_), (Kd.fresh' (Kd.N_lt (by (with_reducible repeat (first | apply Kd.N_alloc | apply Kd.N_drewN | apply Kd.N_drew)); exact HO_10.out)) k_ hk_), (Kd.freshB (g := gb342) (o := .cells #[.int .i64 x343000_1, .int .i64 x343001_1, .int .i64 x343002_1, .int .i64 x343003_1] 34 (0, 0)) (by (with_reducible repeat first | apply kN | apply kD | apply kA); exact BK342.out) k_ hk_), (Kd.freshB (g := gb343) (o := .cells #[.int .i64 a1_0, .int .i64 a1_1, .int .i64 a1_2, .int .i64 a1_3, .slice A1_4 l1_4.length c1_4, .slice A1_5 l1_5.length c1_5] 26 (0, 0)) (by (with_reducible repeat first | apply kN | apply kD | apply kA); exact BK343.out) k_ hk_), (Kd.freshB (g := gb344) (o := .cells #[.int .i64 0, .int .i64 0, .int .i64 0, .int .i64 0] 34 (0, 0)) (by (with_reducible repeat first | apply kN | apply kD | apply kA); exact BK344.out) k_ hk_)⟩)) (below_size (by with_reducible repeat first | exact HB.out | apply bA | apply bN | apply bD | refine bS ?_ GE342.out | refine bS ?_ GE343.out | refine bS ?_ GE344.out)))
        replace HO_10 := Aside0.mk (Kd.N_below (by (with_reducible repeat (first | apply Kd.N_alloc | apply Kd.N_drewN | apply Kd.N_drew)); exact HO_10.out) hb)
        replace BK342 := Aside0.mk (blk_below (g := gb342) (by (with_reducible repeat first | apply kN | apply kD | apply kA); exact BK342.out) hb)
        replace BK343 := Aside0.mk (blk_below (g := gb343) (by (with_reducible repeat first | apply kN | apply kD | apply kA); exact BK343.out) hb)
        replace BK344 := Aside0.mk (blk_below (g := gb344) (by (with_reducible repeat first | apply kN | apply kD | apply kA); exact BK344.out) hb)
        replace HB := Aside0.mk (below_step (by with_reducible repeat first | exact HB.out | apply bA | apply bN | apply bD | refine bS ?_ GE342.out | refine bS ?_ GE343.out | refine bS ?_ GE344.out) hb)
        (try clear hb)
        (try clear hb2)
        (try clear hk)
        (try clear hi)
        (try clear ho0)
        refine hK.out _ _ ⟨(blk_cell BK342.out 0).trans rfl, (blk_cell BK342.out 1).trans rfl, (blk_cell BK342.out 2).trans rfl, (blk_cell BK342.out 3).trans rfl, (blk_cell BK343.out 0).trans rfl, (blk_cell BK343.out 1).trans rfl, (blk_cell BK343.out 2).trans rfl, (blk_cell BK343.out 3).trans rfl, (blk_cell BK343.out 4).trans rfl, (blk_cell BK343.out 5).trans rfl, (cB HB.out hw345_0), (cB HB.out hw345_1)⟩ (fun hHeld => ?_)
        clear hK K
        refine norm_ (a' := ?_) ?_ ?_
        rotate_left
        ·
         show Act.put _ (some 29) _ = _
         simp only [Act.put, sA, sB, sC, i64_w, i32_w]
         rfl
        refine pure_ (i := 8) (N := some 21) (v := ?_) (a' := ?_) #[true, true, true, true, true, true, true, true, true, false, false, false, false, false, false, false] rfl rfl (any_of HT_.out (by kernel_rfl)) (fun _ _ _ h => h) (Or.inl ⟨by rfl, ?_⟩) ?_ ?_
        rotate_left; · intro w'; go_simp; with_reducible rfl
        rotate_left; · simp only [Act.put, sA, sB, sC, i64_w, i32_w]; rfl
        refine pure_ (i := 9) (N := some 30) (v := ?_) (a' := ?_) #[true, true, true, true, true, true, true, true, true, true, false, false, false, false, false, false] rfl rfl (any_of HT_.out (by kernel_rfl)) (fun _ _ _ h => h) (Or.inl ⟨by rfl, ?_⟩) ?_ ?_
        rotate_left; · intro w'; go_simp; with_reducible rfl
        rotate_left; · simp only [Act.put, sA, sB, sC, i64_w, i32_w]; rfl
        refine pure_ (i := 10) (N := some 31) (v := ?_) (a' := ?_) #[true, true, true, true, true, true, true, true, true, true, true, false, false, false, false, false] rfl rfl (any_of HT_.out (by kernel_rfl)) (fun _ _ _ h => h) (Or.inl ⟨by rfl, ?_⟩) ?_ ?_
        rotate_left; · intro w'; go_simp; with_reducible rfl
        rotate_left; · simp only [Act.put, sA, sB, sC, i64_w, i32_w]; rfl
        refine pure_ (i := 11) (N := some 32) (v := ?_) (a' := ?_) #[true, true, true, true, true, true, true, true, true, true, true, true, false, false, false, false] rfl rfl (any_of HT_.out (by kernel_rfl)) (fun _ _ _ h => h) (Or.inl ⟨by rfl, ?_⟩) ?_ ?_
        rotate_left; · intro w'; go_simp; with_reducible rfl
        rotate_left; · simp only [Act.put, sA, sB, sC, i64_w, i32_w]; rfl
        refine one_ (i := 12) (N := some 12) #[true, true, true, true, true, true, true, true, true, true, true, true, true, false, false, false] rfl rfl (one_of HT_.out (by kernel_rfl)) (by decide) (fun K hK => ?_)
        refine box_step ?hg (N := 12) ?hd (cs := #[.int .i64 0, .int .i64 0, .int .i64 0, .int .i64 0]) (t := 34) ?hr ?_; (case hd | hg => rfl); (case hr => first | (go_simp; done) | (go_simp; rfl))
        intro gb354 hg w14 hbox hb
        replace HO_10 := Aside0.mk (Kd.N_below (Kd.N_elderB (by (with_reducible repeat (first | apply Kd.N_alloc | apply Kd.N_drewN | apply Kd.N_drew)); exact HO_10.out) gb354 (Nat.le_of_eq hg.symm)) hb)
        replace HO352 := Aside0.mk (Kd.V_below (Kd.V_elderB (by (with_reducible repeat (first | apply Kd.V_alloc | apply Kd.V_drewN | apply Kd.V_drew)); exact HO352.out) gb354 (Nat.le_of_eq hg.symm)) hb)
        have BK354 := Aside0.mk (hbox)
        have GW354 := Aside0.mk ((by rw [hg]; exact (below_size (by with_reducible repeat first | exact HB.out | apply bA | apply bN | apply bD | refine bS ?_ GE342.out | refine bS ?_ GE343.out | refine bS ?_ GE344.out)) : w.heap.size ≤ gb354))
        have GE354 := Aside0.mk ((by rw [hg]; exact (below_size (by with_reducible repeat first | exact HB.out | apply bA | apply bN | apply bD | refine bS ?_ GE342.out | refine bS ?_ GE343.out | refine bS ?_ GE344.out)) : w.heap.size ≤ gb354))
        replace HB := Aside0.mk (below_step (by with_reducible repeat first | exact HB.out | apply bA | apply bN | apply bD | refine bS ?_ GE342.out | refine bS ?_ GE343.out | refine bS ?_ GE344.out) hb)
        have NB342_354 := Aside0.mk ((by rw [hg]; exact Nat.ne_of_lt (blk_lt (g := gb342) (by (with_reducible repeat first | apply kN | apply kD | apply kA); exact BK342.out)) : gb342 ≠ gb354))
        have NB354_342 := Aside0.mk ((by rw [hg]; exact Nat.ne_of_gt (blk_lt (g := gb342) (by (with_reducible repeat first | apply kN | apply kD | apply kA); exact BK342.out)) : gb354 ≠ gb342))
        replace BK342 := Aside0.mk (blk_below (g := gb342) (by (with_reducible repeat first | apply kN | apply kD | apply kA); exact BK342.out) hb)
        have NB343_354 := Aside0.mk ((by rw [hg]; exact Nat.ne_of_lt (blk_lt (g := gb343) (by (with_reducible repeat first | apply kN | apply kD | apply kA); exact BK343.out)) : gb343 ≠ gb354))
        have NB354_343 := Aside0.mk ((by rw [hg]; exact Nat.ne_of_gt (blk_lt (g := gb343) (by (with_reducible repeat first | apply kN | apply kD | apply kA); exact BK343.out)) : gb354 ≠ gb343))
        replace BK343 := Aside0.mk (blk_below (g := gb343) (by (with_reducible repeat first | apply kN | apply kD | apply kA); exact BK343.out) hb)
        have NB344_354 := Aside0.mk ((by rw [hg]; exact Nat.ne_of_lt (blk_lt (g := gb344) (by (with_reducible repeat first | apply kN | apply kD | apply kA); exact BK344.out)) : gb344 ≠ gb354))
        have NB354_344 := Aside0.mk ((by rw [hg]; exact Nat.ne_of_gt (blk_lt (g := gb344) (by (with_reducible repeat first | apply kN | apply kD | apply kA); exact BK344.out)) : gb354 ≠ gb344))
        replace BK344 := Aside0.mk (blk_below (g := gb344) (by (with_reducible repeat first | apply kN | apply kD | apply kA); exact BK344.out) hb)
        clear hb hbox hg
        refine hK.out _ _ ⟨(blk_cell BK342.out 0).trans rfl, (blk_cell BK342.out 1).trans rfl, (blk_cell BK342.out 2).trans rfl, (blk_cell BK342.out 3).trans rfl, (blk_cell BK343.out 0).trans rfl, (blk_cell BK343.out 1).trans rfl, (blk_cell BK343.out 2).trans rfl, (blk_cell BK343.out 3).trans rfl, (blk_cell BK343.out 4).trans rfl, (blk_cell BK343.out 5).trans rfl, (cB HB.out hw345_0), (cB HB.out hw345_1)⟩ (fun hHeld => ?_)
        clear hK K
        refine norm_ (a' := ?_) ?_ ?_
        rotate_left
        ·
         show Act.put _ (some 12) _ = _
         simp only [Act.put, sA, sB, sC, i64_w, i32_w]
         rfl
        exact norm_ (by simp only [putAll, Act.put, sA, sB, sC]) (hCont (v351, gb354) _ ⟨hHeld, (by (with_reducible repeat (first | apply Kd.V_alloc | apply Kd.V_drewN | apply Kd.V_drew)); exact Kd.V_mono HO352.out (fun _ hk => ⟨hk.1.1, ⟨hk.1.2.1, ⟨hk.1.2.2.1, ⟨hk.1.2.2.2.1, ⟨hk.1.2.2.2.2, hk.2⟩⟩⟩⟩⟩)), (by (with_reducible repeat (first | apply Kd.N_alloc | apply Kd.N_drewN | apply Kd.N_drew)); exact Kd.N_mono HO_10.out (fun _ hk => ⟨hk.1.1, ⟨hk.1.2.1, ⟨hk.1.2.2.1, ⟨hk.1.2.2.2, hk.2⟩⟩⟩⟩)), (by (with_reducible repeat first | apply kN | apply kD | apply kA); exact BK342.out), (by (with_reducible repeat first | apply kN | apply kD | apply kA); exact BK343.out), (by (with_reducible repeat first | apply kN | apply kD | apply kA); exact BK344.out), (by (with_reducible repeat first | apply kN | apply kD | apply kA); exact BK354.out), GW354.out, GE354.out, NB342_354.out, NB354_342.out, NB343_354.out, NB354_343.out, NB344_354.out, NB354_344.out, (by with_reducible repeat first | exact HB.out | apply bA | apply bN | apply bD | refine bS ?_ GE342.out | refine bS ?_ GE343.out | refine bS ?_ GE344.out | refine bS ?_ GE354.out)⟩)
       ·
        skip
        refine box_step ?hg (N := 12) ?hd (cs := #[.int .i64 0, .int .i64 0, .int .i64 0, .int .i64 0]) (t := 34) ?hr ?_; (case hd | hg => rfl); (case hr => first | (go_simp; done) | (go_simp; rfl))
        intro gb354 hg w13 hbox hb
        replace HO_10 := Aside0.mk (Kd.N_below (Kd.N_elderB (by (with_reducible repeat (first | apply Kd.N_alloc | apply Kd.N_drewN | apply Kd.N_drew)); exact HO_10.out) gb354 (Nat.le_of_eq hg.symm)) hb)
        have BK354 := Aside0.mk (hbox)
        have GW354 := Aside0.mk ((by rw [hg]; exact (below_size (by with_reducible repeat first | exact HB.out | apply bA | apply bN | apply bD | refine bS ?_ GE342.out | refine bS ?_ GE343.out | refine bS ?_ GE344.out)) : w.heap.size ≤ gb354))
        have GE354 := Aside0.mk ((by rw [hg]; exact (below_size (by with_reducible repeat first | exact HB.out | apply bA | apply bN | apply bD | refine bS ?_ GE342.out | refine bS ?_ GE343.out | refine bS ?_ GE344.out)) : w.heap.size ≤ gb354))
        replace HB := Aside0.mk (below_step (by with_reducible repeat first | exact HB.out | apply bA | apply bN | apply bD | refine bS ?_ GE342.out | refine bS ?_ GE343.out | refine bS ?_ GE344.out) hb)
        have NB342_354 := Aside0.mk ((by rw [hg]; exact Nat.ne_of_lt (blk_lt (g := gb342) (by (with_reducible repeat first | apply kN | apply kD | apply kA); exact BK342.out)) : gb342 ≠ gb354))
        have NB354_342 := Aside0.mk ((by rw [hg]; exact Nat.ne_of_gt (blk_lt (g := gb342) (by (with_reducible repeat first | apply kN | apply kD | apply kA); exact BK342.out)) : gb354 ≠ gb342))
        replace BK342 := Aside0.mk (blk_below (g := gb342) (by (with_reducible repeat first | apply kN | apply kD | apply kA); exact BK342.out) hb)
        have NB343_354 := Aside0.mk ((by rw [hg]; exact Nat.ne_of_lt (blk_lt (g := gb343) (by (with_reducible repeat first | apply kN | apply kD | apply kA); exact BK343.out)) : gb343 ≠ gb354))
        have NB354_343 := Aside0.mk ((by rw [hg]; exact Nat.ne_of_gt (blk_lt (g := gb343) (by (with_reducible repeat first | apply kN | apply kD | apply kA); exact BK343.out)) : gb354 ≠ gb343))
        replace BK343 := Aside0.mk (blk_below (g := gb343) (by (with_reducible repeat first | apply kN | apply kD | apply kA); exact BK343.out) hb)
        have NB344_354 := Aside0.mk ((by rw [hg]; exact Nat.ne_of_lt (blk_lt (g := gb344) (by (with_reducible repeat first | apply kN | apply kD | apply kA); exact BK344.out)) : gb344 ≠ gb354))
        have NB354_344 := Aside0.mk ((by rw [hg]; exact Nat.ne_of_gt (blk_lt (g := gb344) (by (with_reducible repeat first | apply kN | apply kD | apply kA); exact BK344.out)) : gb354 ≠ gb344))
        replace BK344 := Aside0.mk (blk_below (g := gb344) (by (with_reducible repeat first | apply kN | apply kD | apply kA); exact BK344.out) hb)
        clear hb hbox hg
        refine hK.out _ _ ⟨(blk_cell BK342.out 0).trans rfl, (blk_cell BK342.out 1).trans rfl, (blk_cell BK342.out 2).trans rfl, (blk_cell BK342.out 3).trans rfl, (blk_cell BK343.out 0).trans rfl, (blk_cell BK343.out 1).trans rfl, (blk_cell BK343.out 2).trans rfl, (blk_cell BK343.out 3).trans rfl, (blk_cell BK343.out 4).trans rfl, (blk_cell BK343.out 5).trans rfl, (cB HB.out hw345_0), (cB HB.out hw345_1)⟩ (fun hHeld => ?_)
        clear hK K
        refine norm_ (a' := ?_) ?_ ?_
        rotate_left
        ·
         show Act.put _ (some 12) _ = _
         simp only [Act.put, sA, sB, sC, i64_w, i32_w]
         rfl
        refine one_ (i := 7) (N := some 29) #[true, true, true, true, true, true, true, true, false, false, false, false, true, false, false, false] rfl rfl (one_of HT_.out (by kernel_rfl)) (by decide) (fun K hK => ?_)
        refine goes_ Tryd.func16 (by kernel_rfl) rfl #[.agg #[.int .i64 x343000_1, .int .i64 x343001_1, .int .i64 x343002_1, .int .i64 x343003_1], .agg #[.int .i64 a1_0, .int .i64 a1_1, .int .i64 a1_2, .int .i64 a1_3, .slice A1_4 l1_4.length c1_4, .slice A1_5 l1_5.length c1_5], .int .i64 a2, .agg #[.int .i64 ((rd_T45 l3 x11_1).f0), .slice A345_1 ((rd_T45 l3 x11_1).f1).length c345_1]] (by rfl) rfl rfl (by (try simp only [List.map_toArray, List.map_cons, List.map_nil]); first | done | rfl | (simp only [List.length_drop, List.length_take]; rfl)) ?_
        with_reducible refine (session_Take.calls x343000_1 x343001_1 x343002_1 x343003_1 a1_0 a1_1 a1_2 a1_3 _ _ l1_4 _ _ l1_5 a2 ((rd_T45 l3 x11_1).f0) _ _ ((rd_T45 l3 x11_1).f1) t346 t347 t348 t349 t350 t353 _ ?side1 ?side2 ?side3 ?side4 ?side5 ?side6 ?side7 A10.out).mono ?_
        (case side1 => repeat first | exact (Kd.C_below HR1_4.out HB.out) | with_reducible first | apply Kd.C_alloc | apply Kd.C_drewN | apply Kd.C_drew)
        (case side2 => exact HC1_4.out)
        (case side3 => repeat first | exact (Kd.C_below HR1_5.out HB.out) | with_reducible first | apply Kd.C_alloc | apply Kd.C_drewN | apply Kd.C_drew)
        (case side4 => exact HC1_5.out)
        (case side5 => repeat first | exact (Kd.C_below HR345_1.out HB.out) | with_reducible first | apply Kd.C_alloc | apply Kd.C_drewN | apply Kd.C_drew)
        (case side6 => exact HC345_1.out)
        (case side7 => exact GOK.below HG.out (by with_reducible repeat first | exact HB.out | apply bA | apply bN | apply bD | refine bS ?_ GE342.out | refine bS ?_ GE343.out | refine bS ?_ GE344.out | refine bS ?_ GE354.out))
        rintro e w14 ⟨v351, rfl, ho0, hb⟩
        refine ⟨_, rfl, ?_⟩
        have HO352 := Aside0.mk (Kd.V_lower (Kd.V_mono (ok' := fun k_ => (w.heap.size ≤ k_) ∧ some k_ ≠ (u10 : Value).ownBlock ∧ k_ ≠ gb342 ∧ k_ ≠ gb343 ∧ k_ ≠ gb344 ∧ k_ ≠ gb354) ho0 (fun k_ hk_ => ⟨(Nat.le_trans (below_size (by with_reducible repeat first | exact HB.out | apply bA | apply bN | apply bD | refine bS ?_ GE342.out | refine bS ?_ GE343.out | refine bS ?_ GE344.out | refine bS ?_ GE354.out)) hk_), (Kd.fresh' (Kd.N_lt (by (with_reducible repeat (first | apply Kd.N_alloc | apply Kd.N_drewN | apply Kd.N_drew)); exact HO_10.out)) k_ hk_), (Kd.freshB (g := gb342) (o := .cells #[.int .i64 x343000_1, .int .i64 x343001_1, .int .i64 x343002_1, .int .i64 x343003_1] 34 (0, 0)) (by (with_reducible repeat first | apply kN | apply kD | apply kA); exact BK342.out) k_ hk_), (Kd.freshB (g := gb343) (o := .cells #[.int .i64 a1_0, .int .i64 a1_1, .int .i64 a1_2, .int .i64 a1_3, .slice A1_4 l1_4.length c1_4, .slice A1_5 l1_5.length c1_5] 26 (0, 0)) (by (with_reducible repeat first | apply kN | apply kD | apply kA); exact BK343.out) k_ hk_), (Kd.freshB (g := gb344) (o := .cells #[.int .i64 0, .int .i64 0, .int .i64 0, .int .i64 0] 34 (0, 0)) (by (with_reducible repeat first | apply kN | apply kD | apply kA); exact BK344.out) k_ hk_), (Kd.freshB (g := gb354) (o := .cells #[.int .i64 0, .int .i64 0, .int .i64 0, .int .i64 0] 34 (0, 0)) (by (with_reducible repeat first | apply kN | apply kD | apply kA); exact BK354.out) k_ hk_)⟩)) (below_size (by with_reducible repeat first | exact HB.out | apply bA | apply bN | apply bD | refine bS ?_ GE342.out | refine bS ?_ GE343.out | refine bS ?_ GE344.out | refine bS ?_ GE354.out)))
        replace HO_10 := Aside0.mk (Kd.N_below (by (with_reducible repeat (first | apply Kd.N_alloc | apply Kd.N_drewN | apply Kd.N_drew)); exact HO_10.out) hb)
        replace BK342 := Aside0.mk (blk_below (g := gb342) (by (with_reducible repeat first | apply kN | apply kD | apply kA); exact BK342.out) hb)
        replace BK343 := Aside0.mk (blk_below (g := gb343) (by (with_reducible repeat first | apply kN | apply kD | apply kA); exact BK343.out) hb)
        replace BK344 := Aside0.mk (blk_below (g := gb344) (by (with_reducible repeat first | apply kN | apply kD | apply kA); exact BK344.out) hb)
        replace BK354 := Aside0.mk (blk_below (g := gb354) (by (with_reducible repeat first | apply kN | apply kD | apply kA); exact BK354.out) hb)
        replace HB := Aside0.mk (below_step (by with_reducible repeat first | exact HB.out | apply bA | apply bN | apply bD | refine bS ?_ GE342.out | refine bS ?_ GE343.out | refine bS ?_ GE344.out | refine bS ?_ GE354.out) hb)
        (try clear hb)
        (try clear hb2)
        (try clear hk)
        (try clear hi)
        (try clear ho0)
        refine hK.out _ _ ⟨(blk_cell BK342.out 0).trans rfl, (blk_cell BK342.out 1).trans rfl, (blk_cell BK342.out 2).trans rfl, (blk_cell BK342.out 3).trans rfl, (blk_cell BK343.out 0).trans rfl, (blk_cell BK343.out 1).trans rfl, (blk_cell BK343.out 2).trans rfl, (blk_cell BK343.out 3).trans rfl, (blk_cell BK343.out 4).trans rfl, (blk_cell BK343.out 5).trans rfl, (cB HB.out hw345_0), (cB HB.out hw345_1)⟩ (fun hHeld => ?_)
        clear hK K
        refine norm_ (a' := ?_) ?_ ?_
        rotate_left
        ·
         show Act.put _ (some 29) _ = _
         simp only [Act.put, sA, sB, sC, i64_w, i32_w]
         rfl
        refine pure_ (i := 8) (N := some 21) (v := ?_) (a' := ?_) #[true, true, true, true, true, true, true, true, true, false, false, false, true, false, false, false] rfl rfl (any_of HT_.out (by kernel_rfl)) (fun _ _ _ h => h) (Or.inl ⟨by rfl, ?_⟩) ?_ ?_
        rotate_left; · intro w'; go_simp; with_reducible rfl
        rotate_left; · simp only [Act.put, sA, sB, sC, i64_w, i32_w]; rfl
        refine pure_ (i := 9) (N := some 30) (v := ?_) (a' := ?_) #[true, true, true, true, true, true, true, true, true, true, false, false, true, false, false, false] rfl rfl (any_of HT_.out (by kernel_rfl)) (fun _ _ _ h => h) (Or.inl ⟨by rfl, ?_⟩) ?_ ?_
        rotate_left; · intro w'; go_simp; with_reducible rfl
        rotate_left; · simp only [Act.put, sA, sB, sC, i64_w, i32_w]; rfl
        refine pure_ (i := 10) (N := some 31) (v := ?_) (a' := ?_) #[true, true, true, true, true, true, true, true, true, true, true, false, true, false, false, false] rfl rfl (any_of HT_.out (by kernel_rfl)) (fun _ _ _ h => h) (Or.inl ⟨by rfl, ?_⟩) ?_ ?_
        rotate_left; · intro w'; go_simp; with_reducible rfl
        rotate_left; · simp only [Act.put, sA, sB, sC, i64_w, i32_w]; rfl
        refine pure_ (i := 11) (N := some 32) (v := ?_) (a' := ?_) #[true, true, true, true, true, true, true, true, true, true, true, true, true, false, false, false] rfl rfl (any_of HT_.out (by kernel_rfl)) (fun _ _ _ h => h) (Or.inl ⟨by rfl, ?_⟩) ?_ ?_
        rotate_left; · intro w'; go_simp; with_reducible rfl
        rotate_left; · simp only [Act.put, sA, sB, sC, i64_w, i32_w]; rfl
        exact norm_ (by simp only [putAll, Act.put, sA, sB, sC]) (hCont (v351, gb354) _ ⟨hHeld, (by (with_reducible repeat (first | apply Kd.V_alloc | apply Kd.V_drewN | apply Kd.V_drew)); exact HO352.out), (by (with_reducible repeat (first | apply Kd.N_alloc | apply Kd.N_drewN | apply Kd.N_drew)); exact Kd.N_mono HO_10.out (fun _ hk => ⟨hk.1.1, ⟨hk.1.2.1, ⟨hk.1.2.2.1, ⟨hk.1.2.2.2, hk.2⟩⟩⟩⟩)), (by (with_reducible repeat first | apply kN | apply kD | apply kA); exact BK342.out), (by (with_reducible repeat first | apply kN | apply kD | apply kA); exact BK343.out), (by (with_reducible repeat first | apply kN | apply kD | apply kA); exact BK344.out), (by (with_reducible repeat first | apply kN | apply kD | apply kA); exact BK354.out), GW354.out, GE354.out, NB342_354.out, NB354_342.out, NB343_354.out, NB354_343.out, NB344_354.out, NB354_344.out, (by with_reducible repeat first | exact HB.out | apply bA | apply bN | apply bD | refine bS ?_ GE342.out | refine bS ?_ GE343.out | refine bS ?_ GE344.out | refine bS ?_ GE354.out)⟩)
      rintro ⟨v351, gb354⟩ w15 ⟨hS_, h0_, h1_, h2_, h3_, h4_, h5_, h6_, h7_, h8_, h9_, h10_, h11_, h12_, h13_, h14_⟩
      have n0_ : Aside0 (Kd.V k45 45 w15 w.heap.size (fun k_ => (w.heap.size ≤ k_) ∧ some k_ ≠ (u10 : Value).ownBlock ∧ k_ ≠ gb342 ∧ k_ ≠ gb343 ∧ k_ ≠ gb344 ∧ k_ ≠ gb354) v351 t350) := ⟨h0_⟩
      have n1_ : Aside0 (Kd.N k45 45 w15 w.heap.size (fun k_ => (w.heap.size ≤ k_) ∧ k_ ≠ gb342 ∧ k_ ≠ gb343 ∧ k_ ≠ gb344 ∧ k_ ≠ gb354) u10 x10_1) := ⟨h1_⟩
      have n2_ : Aside0 (w15.heap[gb342]? = some (.cells #[.int .i64 x343000_1, .int .i64 x343001_1, .int .i64 x343002_1, .int .i64 x343003_1] 34 (0, 0))) := ⟨h2_⟩
      have n3_ : Aside0 (w15.heap[gb343]? = some (.cells #[.int .i64 a1_0, .int .i64 a1_1, .int .i64 a1_2, .int .i64 a1_3, .slice A1_4 l1_4.length c1_4, .slice A1_5 l1_5.length c1_5] 26 (0, 0))) := ⟨h3_⟩
      have n4_ : Aside0 (w15.heap[gb344]? = some (.cells #[.int .i64 0, .int .i64 0, .int .i64 0, .int .i64 0] 34 (0, 0))) := ⟨h4_⟩
      have n5_ : Aside0 (w15.heap[gb354]? = some (.cells #[.int .i64 0, .int .i64 0, .int .i64 0, .int .i64 0] 34 (0, 0))) := ⟨h5_⟩
      have n6_ : Aside0 (w.heap.size ≤ gb354) := ⟨h6_⟩
      have n7_ : Aside0 (w.heap.size ≤ gb354) := ⟨h7_⟩
      have n8_ : Aside0 (gb342 ≠ gb354) := ⟨h8_⟩
      have n9_ : Aside0 (gb354 ≠ gb342) := ⟨h9_⟩
      have n10_ : Aside0 (gb343 ≠ gb354) := ⟨h10_⟩
      have n11_ : Aside0 (gb354 ≠ gb343) := ⟨h11_⟩
      have n12_ : Aside0 (gb344 ≠ gb354) := ⟨h12_⟩
      have n13_ : Aside0 (gb354 ≠ gb344) := ⟨h13_⟩
      have n14_ : Aside0 (Below w.heap.size w w15) := ⟨h14_⟩
      clear HO_10
      clear BK342
      clear BK343
      clear BK344
      clear HB
      clear h0_ h1_ h2_ h3_ h4_ h5_ h6_ h7_ h8_ h9_ h10_ h11_ h12_ h13_ h14_
      have HO352 := n0_
      have HO_10 := n1_
      have BK342 := n2_
      have BK343 := n3_
      have BK344 := n4_
      have BK354 := n5_
      have GW354 := n6_
      have GE354 := n7_
      have NB342_354 := n8_
      have NB354_342 := n9_
      have NB343_354 := n10_
      have NB354_343 := n11_
      have NB344_354 := n12_
      have NB354_344 := n13_
      have HB := n14_
      clear n0_ n1_ n2_ n3_ n4_ n5_ n6_ n7_ n8_ n9_ n10_ n11_ n12_ n13_ n14_
      have hHeld : w15.cell? ⟨gb342, 0, none⟩ = some (.int .i64 x343000_1) ∧ w15.cell? ⟨gb342, 1, none⟩ = some (.int .i64 x343001_1) ∧ w15.cell? ⟨gb342, 2, none⟩ = some (.int .i64 x343002_1) ∧ w15.cell? ⟨gb342, 3, none⟩ = some (.int .i64 x343003_1) ∧ w15.cell? ⟨gb343, 0, none⟩ = some (.int .i64 a1_0) ∧ w15.cell? ⟨gb343, 1, none⟩ = some (.int .i64 a1_1) ∧ w15.cell? ⟨gb343, 2, none⟩ = some (.int .i64 a1_2) ∧ w15.cell? ⟨gb343, 3, none⟩ = some (.int .i64 a1_3) ∧ w15.cell? ⟨gb343, 4, none⟩ = some (.slice A1_4 l1_4.length c1_4) ∧ w15.cell? ⟨gb343, 5, none⟩ = some (.slice A1_5 l1_5.length c1_5) ∧ w15.cell? (ad345.add ((x11_1).toNat * 2)) = some (.int .i64 ((rd_T45 l3 x11_1).f0)) ∧ w15.cell? ⟨(ad345.add ((x11_1).toNat * 2)).block, (ad345.add ((x11_1).toNat * 2)).off + 1, none⟩ = some (.slice A345_1 ((rd_T45 l3 x11_1).f1).length c345_1) := hS_
      refine norm_ (a' := ?_) ?_ ?_
      rotate_left
      ·
       simp only [putAll, Act.put, sA, sB, sC]
       rfl
      refine one_ (i := 13) (N := none) #[true, true, true, true, true, true, true, true, true, true, true, true, true, true, false, false] rfl rfl (one_of HT_.out (by kernel_rfl)) (by decide) (fun K hK => ?_)
      have hs16 : w15.cell? ⟨gb354, 0, none⟩ = some (.int .i64 0) := (blk_cell BK354.out 0).trans rfl
      have hfs16 := blk_frozen BK354.out 0
      have hns16_0 := NB342_354.out
      have hns16_1 := NB343_354.out
      have hns16_2 := NB344_354.out
      have hms16_0 := NB354_342.out
      have hms16_1 := NB354_343.out
      have hms16_2 := NB354_344.out
      have hs17 : w15.cell? ⟨gb354, 1, none⟩ = some (.int .i64 0) := (blk_cell BK354.out 1).trans rfl
      have hfs17 := blk_frozen BK354.out 1
      have hns17_0 := NB342_354.out
      have hns17_1 := NB343_354.out
      have hns17_2 := NB344_354.out
      have hms17_0 := NB354_342.out
      have hms17_1 := NB354_343.out
      have hms17_2 := NB354_344.out
      have hs18 : w15.cell? ⟨gb354, 2, none⟩ = some (.int .i64 0) := (blk_cell BK354.out 2).trans rfl
      have hfs18 := blk_frozen BK354.out 2
      have hns18_0 := NB342_354.out
      have hns18_1 := NB343_354.out
      have hns18_2 := NB344_354.out
      have hms18_0 := NB354_342.out
      have hms18_1 := NB354_343.out
      have hms18_2 := NB354_344.out
      have hs19 : w15.cell? ⟨gb354, 3, none⟩ = some (.int .i64 0) := (blk_cell BK354.out 3).trans rfl
      have hfs19 := blk_frozen BK354.out 3
      have hns19_0 := NB342_354.out
      have hns19_1 := NB343_354.out
      have hns19_2 := NB344_354.out
      have hms19_0 := NB354_342.out
      have hms19_1 := NB354_343.out
      have hms19_2 := NB354_344.out
      refine skip_ (w1 := ?_) (by rfl) rfl ?_ ?_
      rotate_left
      ·
       go_simp
       rfl
      refine hK.out _ _ ⟨((cell_far (p := ⟨gb354, _, none⟩) NB342_354.out _).trans (((cell_far (p := ⟨gb354, _, none⟩) NB342_354.out _).trans (((cell_far (p := ⟨gb354, _, none⟩) NB342_354.out _).trans (((cell_far (p := ⟨gb354, _, none⟩) NB342_354.out _).trans (hHeld.1)))))))), ((cell_far (p := ⟨gb354, _, none⟩) NB342_354.out _).trans (((cell_far (p := ⟨gb354, _, none⟩) NB342_354.out _).trans (((cell_far (p := ⟨gb354, _, none⟩) NB342_354.out _).trans (((cell_far (p := ⟨gb354, _, none⟩) NB342_354.out _).trans (hHeld.2.1)))))))), ((cell_far (p := ⟨gb354, _, none⟩) NB342_354.out _).trans (((cell_far (p := ⟨gb354, _, none⟩) NB342_354.out _).trans (((cell_far (p := ⟨gb354, _, none⟩) NB342_354.out _).trans (((cell_far (p := ⟨gb354, _, none⟩) NB342_354.out _).trans (hHeld.2.2.1)))))))), ((cell_far (p := ⟨gb354, _, none⟩) NB342_354.out _).trans (((cell_far (p := ⟨gb354, _, none⟩) NB342_354.out _).trans (((cell_far (p := ⟨gb354, _, none⟩) NB342_354.out _).trans (((cell_far (p := ⟨gb354, _, none⟩) NB342_354.out _).trans (hHeld.2.2.2.1)))))))), ((cell_far (p := ⟨gb354, _, none⟩) NB343_354.out _).trans (((cell_far (p := ⟨gb354, _, none⟩) NB343_354.out _).trans (((cell_far (p := ⟨gb354, _, none⟩) NB343_354.out _).trans (((cell_far (p := ⟨gb354, _, none⟩) NB343_354.out _).trans (hHeld.2.2.2.2.1)))))))), ((cell_far (p := ⟨gb354, _, none⟩) NB343_354.out _).trans (((cell_far (p := ⟨gb354, _, none⟩) NB343_354.out _).trans (((cell_far (p := ⟨gb354, _, none⟩) NB343_354.out _).trans (((cell_far (p := ⟨gb354, _, none⟩) NB343_354.out _).trans (hHeld.2.2.2.2.2.1)))))))), ((cell_far (p := ⟨gb354, _, none⟩) NB343_354.out _).trans (((cell_far (p := ⟨gb354, _, none⟩) NB343_354.out _).trans (((cell_far (p := ⟨gb354, _, none⟩) NB343_354.out _).trans (((cell_far (p := ⟨gb354, _, none⟩) NB343_354.out _).trans (hHeld.2.2.2.2.2.2.1)))))))), ((cell_far (p := ⟨gb354, _, none⟩) NB343_354.out _).trans (((cell_far (p := ⟨gb354, _, none⟩) NB343_354.out _).trans (((cell_far (p := ⟨gb354, _, none⟩) NB343_354.out _).trans (((cell_far (p := ⟨gb354, _, none⟩) NB343_354.out _).trans (hHeld.2.2.2.2.2.2.2.1)))))))), ((cell_far (p := ⟨gb354, _, none⟩) NB343_354.out _).trans (((cell_far (p := ⟨gb354, _, none⟩) NB343_354.out _).trans (((cell_far (p := ⟨gb354, _, none⟩) NB343_354.out _).trans (((cell_far (p := ⟨gb354, _, none⟩) NB343_354.out _).trans (hHeld.2.2.2.2.2.2.2.2.1)))))))), ((cell_far (p := ⟨gb354, _, none⟩) NB343_354.out _).trans (((cell_far (p := ⟨gb354, _, none⟩) NB343_354.out _).trans (((cell_far (p := ⟨gb354, _, none⟩) NB343_354.out _).trans (((cell_far (p := ⟨gb354, _, none⟩) NB343_354.out _).trans (hHeld.2.2.2.2.2.2.2.2.2.1)))))))), ((cell_far (p := ⟨gb354, _, none⟩) (by first | exact Nat.ne_of_lt (Nat.lt_of_lt_of_le (by have := World.block_lt_of_cell? _ _ hw345_0; first | rwa [add_block] at this | exact this) GW354.out) | (rw [add_block]; exact Nat.ne_of_lt (Nat.lt_of_lt_of_le (by have := World.block_lt_of_cell? _ _ hw345_0; first | rwa [add_block] at this | exact this) GW354.out)) | (show (Addr.add _ _).block ≠ _; rw [add_block]; exact Nat.ne_of_lt (Nat.lt_of_lt_of_le (by have := World.block_lt_of_cell? _ _ hw345_0; first | rwa [add_block] at this | exact this) GW354.out)) | (dsimp only; exact Nat.ne_of_lt (Nat.lt_of_lt_of_le (by have := World.block_lt_of_cell? _ _ hw345_0; first | rwa [add_block] at this | exact this) GW354.out))) _).trans (((cell_far (p := ⟨gb354, _, none⟩) (by first | exact Nat.ne_of_lt (Nat.lt_of_lt_of_le (by have := World.block_lt_of_cell? _ _ hw345_0; first | rwa [add_block] at this | exact this) GW354.out) | (rw [add_block]; exact Nat.ne_of_lt (Nat.lt_of_lt_of_le (by have := World.block_lt_of_cell? _ _ hw345_0; first | rwa [add_block] at this | exact this) GW354.out)) | (show (Addr.add _ _).block ≠ _; rw [add_block]; exact Nat.ne_of_lt (Nat.lt_of_lt_of_le (by have := World.block_lt_of_cell? _ _ hw345_0; first | rwa [add_block] at this | exact this) GW354.out)) | (dsimp only; exact Nat.ne_of_lt (Nat.lt_of_lt_of_le (by have := World.block_lt_of_cell? _ _ hw345_0; first | rwa [add_block] at this | exact this) GW354.out))) _).trans (((cell_far (p := ⟨gb354, _, none⟩) (by first | exact Nat.ne_of_lt (Nat.lt_of_lt_of_le (by have := World.block_lt_of_cell? _ _ hw345_0; first | rwa [add_block] at this | exact this) GW354.out) | (rw [add_block]; exact Nat.ne_of_lt (Nat.lt_of_lt_of_le (by have := World.block_lt_of_cell? _ _ hw345_0; first | rwa [add_block] at this | exact this) GW354.out)) | (show (Addr.add _ _).block ≠ _; rw [add_block]; exact Nat.ne_of_lt (Nat.lt_of_lt_of_le (by have := World.block_lt_of_cell? _ _ hw345_0; first | rwa [add_block] at this | exact this) GW354.out)) | (dsimp only; exact Nat.ne_of_lt (Nat.lt_of_lt_of_le (by have := World.block_lt_of_cell? _ _ hw345_0; first | rwa [add_block] at this | exact this) GW354.out))) _).trans (((cell_far (p := ⟨gb354, _, none⟩) (by first | exact Nat.ne_of_lt (Nat.lt_of_lt_of_le (by have := World.block_lt_of_cell? _ _ hw345_0; first | rwa [add_block] at this | exact this) GW354.out) | (rw [add_block]; exact Nat.ne_of_lt (Nat.lt_of_lt_of_le (by have := World.block_lt_of_cell? _ _ hw345_0; first | rwa [add_block] at this | exact this) GW354.out)) | (show (Addr.add _ _).block ≠ _; rw [add_block]; exact Nat.ne_of_lt (Nat.lt_of_lt_of_le (by have := World.block_lt_of_cell? _ _ hw345_0; first | rwa [add_block] at this | exact this) GW354.out)) | (dsimp only; exact Nat.ne_of_lt (Nat.lt_of_lt_of_le (by have := World.block_lt_of_cell? _ _ hw345_0; first | rwa [add_block] at this | exact this) GW354.out))) _).trans (hHeld.2.2.2.2.2.2.2.2.2.2.1)))))))), ((cell_far (p := ⟨gb354, _, none⟩) (by first | exact Nat.ne_of_lt (Nat.lt_of_lt_of_le (by have := World.block_lt_of_cell? _ _ hw345_1; first | rwa [add_block] at this | exact this) GW354.out) | (rw [add_block]; exact Nat.ne_of_lt (Nat.lt_of_lt_of_le (by have := World.block_lt_of_cell? _ _ hw345_1; first | rwa [add_block] at this | exact this) GW354.out)) | (show (Addr.add _ _).block ≠ _; rw [add_block]; exact Nat.ne_of_lt (Nat.lt_of_lt_of_le (by have := World.block_lt_of_cell? _ _ hw345_1; first | rwa [add_block] at this | exact this) GW354.out)) | (dsimp only; exact Nat.ne_of_lt (Nat.lt_of_lt_of_le (by have := World.block_lt_of_cell? _ _ hw345_1; first | rwa [add_block] at this | exact this) GW354.out))) _).trans (((cell_far (p := ⟨gb354, _, none⟩) (by first | exact Nat.ne_of_lt (Nat.lt_of_lt_of_le (by have := World.block_lt_of_cell? _ _ hw345_1; first | rwa [add_block] at this | exact this) GW354.out) | (rw [add_block]; exact Nat.ne_of_lt (Nat.lt_of_lt_of_le (by have := World.block_lt_of_cell? _ _ hw345_1; first | rwa [add_block] at this | exact this) GW354.out)) | (show (Addr.add _ _).block ≠ _; rw [add_block]; exact Nat.ne_of_lt (Nat.lt_of_lt_of_le (by have := World.block_lt_of_cell? _ _ hw345_1; first | rwa [add_block] at this | exact this) GW354.out)) | (dsimp only; exact Nat.ne_of_lt (Nat.lt_of_lt_of_le (by have := World.block_lt_of_cell? _ _ hw345_1; first | rwa [add_block] at this | exact this) GW354.out))) _).trans (((cell_far (p := ⟨gb354, _, none⟩) (by first | exact Nat.ne_of_lt (Nat.lt_of_lt_of_le (by have := World.block_lt_of_cell? _ _ hw345_1; first | rwa [add_block] at this | exact this) GW354.out) | (rw [add_block]; exact Nat.ne_of_lt (Nat.lt_of_lt_of_le (by have := World.block_lt_of_cell? _ _ hw345_1; first | rwa [add_block] at this | exact this) GW354.out)) | (show (Addr.add _ _).block ≠ _; rw [add_block]; exact Nat.ne_of_lt (Nat.lt_of_lt_of_le (by have := World.block_lt_of_cell? _ _ hw345_1; first | rwa [add_block] at this | exact this) GW354.out)) | (dsimp only; exact Nat.ne_of_lt (Nat.lt_of_lt_of_le (by have := World.block_lt_of_cell? _ _ hw345_1; first | rwa [add_block] at this | exact this) GW354.out))) _).trans (((cell_far (p := ⟨gb354, _, none⟩) (by first | exact Nat.ne_of_lt (Nat.lt_of_lt_of_le (by have := World.block_lt_of_cell? _ _ hw345_1; first | rwa [add_block] at this | exact this) GW354.out) | (rw [add_block]; exact Nat.ne_of_lt (Nat.lt_of_lt_of_le (by have := World.block_lt_of_cell? _ _ hw345_1; first | rwa [add_block] at this | exact this) GW354.out)) | (show (Addr.add _ _).block ≠ _; rw [add_block]; exact Nat.ne_of_lt (Nat.lt_of_lt_of_le (by have := World.block_lt_of_cell? _ _ hw345_1; first | rwa [add_block] at this | exact this) GW354.out)) | (dsimp only; exact Nat.ne_of_lt (Nat.lt_of_lt_of_le (by have := World.block_lt_of_cell? _ _ hw345_1; first | rwa [add_block] at this | exact this) GW354.out))) _).trans (hHeld.2.2.2.2.2.2.2.2.2.2.2))))))))⟩ (fun hHeld => ?_)
      clear hK K
      refine pure_ (i := 14) (N := some 13) (v := ?_) (a' := ?_) #[true, true, true, true, true, true, true, true, true, true, true, true, true, true, true, false] rfl rfl (any_of HT_.out (by kernel_rfl)) (fun _ _ _ h => h) (Or.inl ⟨by rfl, ?_⟩) ?_ ?_
      rotate_left; · intro w'; go_simp; with_reducible rfl
      rotate_left; · simp only [Act.put, sA, sB, sC, i64_w, i32_w]; rfl
      refine pure_ (i := 15) (N := some 14) (v := ?_) (a' := ?_) #[true, true, true, true, true, true, true, true, true, true, true, true, true, true, true, true] rfl rfl (any_of HT_.out (by kernel_rfl)) (fun _ _ _ h => h) (Or.inl ⟨by rfl, ?_⟩) ?_ ?_
      rotate_left; · intro w'; go_simp; with_reducible rfl
      rotate_left; · simp only [Act.put, sA, sB, sC, i64_w, i32_w]; rfl
      refine done_ (done_of HT_.out (by kernel_rfl)) ?_
      have hnb20 := NB354_342.out
      have hnc20 := NB342_354.out
      have hnb21 := NB354_343.out
      have hnc21 := NB343_354.out
      have hnb22 := NB354_344.out
      have hnc22 := NB344_354.out
      obtain ⟨hcz23_0, hcz23_1, hcz23_2, hcz23_3, hfz23_0, hfz23_1, hfz23_2, hfz23_3⟩ := bc4 BK354.out
      have hnb24 := NB342_343.out
      have hnc24 := NB343_342.out
      have hnb25 := NB342_344.out
      have hnc25 := NB344_342.out
      obtain ⟨hcz26_0, hcz26_1, hcz26_2, hcz26_3, hfz26_0, hfz26_1, hfz26_2, hfz26_3⟩ := bc4 BK342.out
      obtain ⟨Ao28, co28, eo28⟩ := Kd.V_slice HO352.out
      subst eo28
      try go_wp2_with (first | ((with_reducible refine gate_builtin (b := .append) (xs := #[.tmp 34, .tmp 35]) rfl ?_); at_builtin; refine Kd.N_append_rows k45 (w0 := w) w.heap.size rfl (.tmp 34) (.tmp 35) 35 45 (.agg #[(.int .i64 0), (.slice none 0 0)]) 32 rfl Tryd.underlying35 info45 rfl (by decide) (by omega) u10 x10_1 t350 _ _ _ (fun k_ => (w.heap.size ≤ k_) ∧ k_ ≠ gb342 ∧ k_ ≠ gb343 ∧ k_ ≠ gb344 ∧ k_ ≠ gb354) (fun k_ => ((fun k_ => (w.heap.size ≤ k_) ∧ k_ ≠ gb342 ∧ k_ ≠ gb343 ∧ k_ ≠ gb344 ∧ k_ ≠ gb354)) k_ ∧ some k_ ≠ (u10 : Value).ownBlock) rfl rfl ?aO ?aR (fun _ hk => hk) ?aF ?aB ?aS ?aL ?_; (case aR => exact (by skip; exact Kd.V_F (Kd.V_mono (ok' := (fun k_ => ((fun k_ => (w.heap.size ≤ k_) ∧ k_ ≠ gb342 ∧ k_ ≠ gb343 ∧ k_ ≠ gb344 ∧ k_ ≠ gb354)) k_ ∧ some k_ ≠ (u10 : Value).ownBlock)) ((Kd.V_far (p := ⟨gb342, 3, none⟩) (Kd.V_far (p := ⟨gb342, 2, none⟩) (Kd.V_far (p := ⟨gb342, 1, none⟩) (Kd.V_far (p := ⟨gb342, 0, none⟩) (Kd.V_far (p := ⟨gb354, 3, none⟩) (Kd.V_far (p := ⟨gb354, 2, none⟩) (Kd.V_far (p := ⟨gb354, 1, none⟩) (Kd.V_far (p := ⟨gb354, 0, none⟩) (Kd.V_mono (Kd.V_mono HO352.out (fun k_ hk => (⟨hk, hk.2.2.2.2.2⟩ : _ ∧ k_ ≠ gb354))) (fun k_ hk => (⟨hk, hk.1.2.2.1⟩ : _ ∧ k_ ≠ gb342))) (fun _ hk => hk.1.2) (.int .i64 t346)) (fun _ hk => hk.1.2) (.int .i64 t347)) (fun _ hk => hk.1.2) (.int .i64 t348)) (fun _ hk => hk.1.2) (.int .i64 t349)) (fun _ hk => hk.2) (.int .i64 t346)) (fun _ hk => hk.2) (.int .i64 t347)) (fun _ hk => hk.2) (.int .i64 t348)) (fun _ hk => hk.2) (.int .i64 t349))) (fun k_ hk => ⟨⟨hk.1.1.1, ⟨hk.1.1.2.2.1, ⟨hk.1.1.2.2.2.1, ⟨hk.1.1.2.2.2.2.1, hk.1.1.2.2.2.2.2⟩⟩⟩⟩, hk.1.1.2.1⟩)))); (case aB => exact (by with_reducible repeat first | exact HB.out | apply bA | apply bN | apply bD | refine bS ?_ GE342.out | refine bS ?_ GE343.out | refine bS ?_ GE344.out | refine bS ?_ GE354.out)); (case aF => exact (fun k_ hk => ⟨(Nat.le_trans (below_size (by with_reducible repeat first | exact HB.out | apply bA | apply bN | apply bD | refine bS ?_ GE342.out | refine bS ?_ GE343.out | refine bS ?_ GE344.out | refine bS ?_ GE354.out)) hk), Kd.freshB (g := gb342) (o := .cells #[.int .i64 t346, .int .i64 t347, .int .i64 t348, .int .i64 t349] 34 (0, 0)) (by (with_reducible repeat first | apply kN | apply kD | apply kA); refine blk_put (cs := #[.int .i64 t346, .int .i64 t347, .int .i64 t348, .int .i64 x343003_1]) ?_ 3 _ rfl; (with_reducible repeat first | apply kN | apply kD | apply kA); refine blk_put (cs := #[.int .i64 t346, .int .i64 t347, .int .i64 x343002_1, .int .i64 x343003_1]) ?_ 2 _ rfl; (with_reducible repeat first | apply kN | apply kD | apply kA); refine blk_put (cs := #[.int .i64 t346, .int .i64 x343001_1, .int .i64 x343002_1, .int .i64 x343003_1]) ?_ 1 _ rfl; (with_reducible repeat first | apply kN | apply kD | apply kA); refine blk_put (cs := #[.int .i64 x343000_1, .int .i64 x343001_1, .int .i64 x343002_1, .int .i64 x343003_1]) ?_ 0 _ rfl; (with_reducible repeat first | apply kN | apply kD | apply kA); refine blk_far ?_ NB342_354.out _; (with_reducible repeat first | apply kN | apply kD | apply kA); refine blk_far ?_ NB342_354.out _; (with_reducible repeat first | apply kN | apply kD | apply kA); refine blk_far ?_ NB342_354.out _; (with_reducible repeat first | apply kN | apply kD | apply kA); refine blk_far ?_ NB342_354.out _; (with_reducible repeat first | apply kN | apply kD | apply kA); exact BK342.out) k_ hk, Kd.freshB (g := gb343) (o := .cells #[.int .i64 a1_0, .int .i64 a1_1, .int .i64 a1_2, .int .i64 a1_3, .slice A1_4 l1_4.length c1_4, .slice A1_5 l1_5.length c1_5] 26 (0, 0)) (by (with_reducible repeat first | apply kN | apply kD | apply kA); refine blk_far ?_ NB343_342.out _; (with_reducible repeat first | apply kN | apply kD | apply kA); refine blk_far ?_ NB343_342.out _; (with_reducible repeat first | apply kN | apply kD | apply kA); refine blk_far ?_ NB343_342.out _; (with_reducible repeat first | apply kN | apply kD | apply kA); refine blk_far ?_ NB343_342.out _; (with_reducible repeat first | apply kN | apply kD | apply kA); refine blk_far ?_ NB343_354.out _; (with_reducible repeat first | apply kN | apply kD | apply kA); refine blk_far ?_ NB343_354.out _; (with_reducible repeat first | apply kN | apply kD | apply kA); refine blk_far ?_ NB343_354.out _; (with_reducible repeat first | apply kN | apply kD | apply kA); refine blk_far ?_ NB343_354.out _; (with_reducible repeat first | apply kN | apply kD | apply kA); exact BK343.out) k_ hk, Kd.freshB (g := gb344) (o := .cells #[.int .i64 0, .int .i64 0, .int .i64 0, .int .i64 0] 34 (0, 0)) (by (with_reducible repeat first | apply kN | apply kD | apply kA); refine blk_far ?_ NB344_342.out _; (with_reducible repeat first | apply kN | apply kD | apply kA); refine blk_far ?_ NB344_342.out _; (with_reducible repeat first | apply kN | apply kD | apply kA); refine blk_far ?_ NB344_342.out _; (with_reducible repeat first | apply kN | apply kD | apply kA); refine blk_far ?_ NB344_342.out _; (with_reducible repeat first | apply kN | apply kD | apply kA); refine blk_far ?_ NB344_354.out _; (with_reducible repeat first | apply kN | apply kD | apply kA); refine blk_far ?_ NB344_354.out _; (with_reducible repeat first | apply kN | apply kD | apply kA); refine blk_far ?_ NB344_354.out _; (with_reducible repeat first | apply kN | apply kD | apply kA); refine blk_far ?_ NB344_354.out _; (with_reducible repeat first | apply kN | apply kD | apply kA); exact BK344.out) k_ hk, Kd.freshB (g := gb354) (o := .cells #[.int .i64 t346, .int .i64 t347, .int .i64 t348, .int .i64 t349] 34 (0, 0)) (by (with_reducible repeat first | apply kN | apply kD | apply kA); refine blk_far ?_ NB354_342.out _; (with_reducible repeat first | apply kN | apply kD | apply kA); refine blk_far ?_ NB354_342.out _; (with_reducible repeat first | apply kN | apply kD | apply kA); refine blk_far ?_ NB354_342.out _; (with_reducible repeat first | apply kN | apply kD | apply kA); refine blk_far ?_ NB354_342.out _; (with_reducible repeat first | apply kN | apply kD | apply kA); refine blk_put (cs := #[.int .i64 t346, .int .i64 t347, .int .i64 t348, .int .i64 0]) ?_ 3 _ rfl; (with_reducible repeat first | apply kN | apply kD | apply kA); refine blk_put (cs := #[.int .i64 t346, .int .i64 t347, .int .i64 0, .int .i64 0]) ?_ 2 _ rfl; (with_reducible repeat first | apply kN | apply kD | apply kA); refine blk_put (cs := #[.int .i64 t346, .int .i64 0, .int .i64 0, .int .i64 0]) ?_ 1 _ rfl; (with_reducible repeat first | apply kN | apply kD | apply kA); refine blk_put (cs := #[.int .i64 0, .int .i64 0, .int .i64 0, .int .i64 0]) ?_ 0 _ rfl; (with_reducible repeat first | apply kN | apply kD | apply kA); exact BK354.out) k_ hk⟩)); (case aO => exact (by (with_reducible repeat (first | apply Kd.N_alloc | apply Kd.N_drewN | apply Kd.N_drew)); exact Kd.N_mono (Kd.N_far (p := ⟨gb342, 3, none⟩) (Kd.N_far (p := ⟨gb342, 2, none⟩) (Kd.N_far (p := ⟨gb342, 1, none⟩) (Kd.N_far (p := ⟨gb342, 0, none⟩) (Kd.N_far (p := ⟨gb354, 3, none⟩) (Kd.N_far (p := ⟨gb354, 2, none⟩) (Kd.N_far (p := ⟨gb354, 1, none⟩) (Kd.N_far (p := ⟨gb354, 0, none⟩) (Kd.N_mono (Kd.N_mono HO_10.out (fun k_ hk => (⟨hk, hk.2.2.2.2⟩ : _ ∧ k_ ≠ gb354))) (fun k_ hk => (⟨hk, hk.1.2.1⟩ : _ ∧ k_ ≠ gb342))) (fun _ hk => hk.1.2) (.int .i64 t346)) (fun _ hk => hk.1.2) (.int .i64 t347)) (fun _ hk => hk.1.2) (.int .i64 t348)) (fun _ hk => hk.1.2) (.int .i64 t349)) (fun _ hk => hk.2) (.int .i64 t346)) (fun _ hk => hk.2) (.int .i64 t347)) (fun _ hk => hk.2) (.int .i64 t348)) (fun _ hk => hk.2) (.int .i64 t349)) (fun _ hk => ⟨hk.1.1.1, ⟨hk.1.1.2.1, ⟨hk.1.1.2.2.1, ⟨hk.1.1.2.2.2.1, hk.1.1.2.2.2.2⟩⟩⟩⟩))); (case aS => exact (below_size (by with_reducible repeat first | exact HB.out | apply bA | apply bN | apply bD | refine bS ?_ GE342.out | refine bS ?_ GE343.out | refine bS ?_ GE344.out | refine bS ?_ GE354.out))); (case aL => have := LMc11.out; omega); intro v356 w27 ho hb hg hat; rw [← Ny355.out] at ho; replace BK342 := Aside0.mk (blk_grown (g := gb342) (o := .cells #[.int .i64 t346, .int .i64 t347, .int .i64 t348, .int .i64 t349] 34 (0, 0)) (by (with_reducible repeat first | apply kN | apply kD | apply kA); refine blk_put (cs := #[.int .i64 t346, .int .i64 t347, .int .i64 t348, .int .i64 x343003_1]) ?_ 3 _ rfl; (with_reducible repeat first | apply kN | apply kD | apply kA); refine blk_put (cs := #[.int .i64 t346, .int .i64 t347, .int .i64 x343002_1, .int .i64 x343003_1]) ?_ 2 _ rfl; (with_reducible repeat first | apply kN | apply kD | apply kA); refine blk_put (cs := #[.int .i64 t346, .int .i64 x343001_1, .int .i64 x343002_1, .int .i64 x343003_1]) ?_ 1 _ rfl; (with_reducible repeat first | apply kN | apply kD | apply kA); refine blk_put (cs := #[.int .i64 x343000_1, .int .i64 x343001_1, .int .i64 x343002_1, .int .i64 x343003_1]) ?_ 0 _ rfl; (with_reducible repeat first | apply kN | apply kD | apply kA); refine blk_far ?_ NB342_354.out _; (with_reducible repeat first | apply kN | apply kD | apply kA); refine blk_far ?_ NB342_354.out _; (with_reducible repeat first | apply kN | apply kD | apply kA); refine blk_far ?_ NB342_354.out _; (with_reducible repeat first | apply kN | apply kD | apply kA); refine blk_far ?_ NB342_354.out _; (with_reducible repeat first | apply kN | apply kD | apply kA); exact BK342.out) hg (Kd.N_ne HO_10.out BK342.out (by decide))); replace BK343 := Aside0.mk (blk_grown (g := gb343) (o := .cells #[.int .i64 a1_0, .int .i64 a1_1, .int .i64 a1_2, .int .i64 a1_3, .slice A1_4 l1_4.length c1_4, .slice A1_5 l1_5.length c1_5] 26 (0, 0)) (by (with_reducible repeat first | apply kN | apply kD | apply kA); refine blk_far ?_ NB343_342.out _; (with_reducible repeat first | apply kN | apply kD | apply kA); refine blk_far ?_ NB343_342.out _; (with_reducible repeat first | apply kN | apply kD | apply kA); refine blk_far ?_ NB343_342.out _; (with_reducible repeat first | apply kN | apply kD | apply kA); refine blk_far ?_ NB343_342.out _; (with_reducible repeat first | apply kN | apply kD | apply kA); refine blk_far ?_ NB343_354.out _; (with_reducible repeat first | apply kN | apply kD | apply kA); refine blk_far ?_ NB343_354.out _; (with_reducible repeat first | apply kN | apply kD | apply kA); refine blk_far ?_ NB343_354.out _; (with_reducible repeat first | apply kN | apply kD | apply kA); refine blk_far ?_ NB343_354.out _; (with_reducible repeat first | apply kN | apply kD | apply kA); exact BK343.out) hg (Kd.N_ne HO_10.out BK343.out (by decide))); replace BK344 := Aside0.mk (blk_grown (g := gb344) (o := .cells #[.int .i64 0, .int .i64 0, .int .i64 0, .int .i64 0] 34 (0, 0)) (by (with_reducible repeat first | apply kN | apply kD | apply kA); refine blk_far ?_ NB344_342.out _; (with_reducible repeat first | apply kN | apply kD | apply kA); refine blk_far ?_ NB344_342.out _; (with_reducible repeat first | apply kN | apply kD | apply kA); refine blk_far ?_ NB344_342.out _; (with_reducible repeat first | apply kN | apply kD | apply kA); refine blk_far ?_ NB344_342.out _; (with_reducible repeat first | apply kN | apply kD | apply kA); refine blk_far ?_ NB344_354.out _; (with_reducible repeat first | apply kN | apply kD | apply kA); refine blk_far ?_ NB344_354.out _; (with_reducible repeat first | apply kN | apply kD | apply kA); refine blk_far ?_ NB344_354.out _; (with_reducible repeat first | apply kN | apply kD | apply kA); refine blk_far ?_ NB344_354.out _; (with_reducible repeat first | apply kN | apply kD | apply kA); exact BK344.out) hg (Kd.N_ne HO_10.out BK344.out (by decide))); replace HO352 := Aside0.mk (Kd.V_afterv (ok := (fun k_ => (w.heap.size ≤ k_) ∧ k_ ≠ gb342 ∧ k_ ≠ gb343 ∧ k_ ≠ gb344 ∧ k_ ≠ gb354)) (by (with_reducible repeat (first | apply Kd.V_alloc | apply Kd.V_drewN | apply Kd.V_drew)); exact Kd.V_mono (Kd.V_far (p := ⟨gb342, 3, none⟩) (Kd.V_far (p := ⟨gb342, 2, none⟩) (Kd.V_far (p := ⟨gb342, 1, none⟩) (Kd.V_far (p := ⟨gb342, 0, none⟩) (Kd.V_far (p := ⟨gb354, 3, none⟩) (Kd.V_far (p := ⟨gb354, 2, none⟩) (Kd.V_far (p := ⟨gb354, 1, none⟩) (Kd.V_far (p := ⟨gb354, 0, none⟩) (Kd.V_mono (Kd.V_mono HO352.out (fun k_ hk => (⟨hk, hk.2.2.2.2.2⟩ : _ ∧ k_ ≠ gb354))) (fun k_ hk => (⟨hk, hk.1.2.2.1⟩ : _ ∧ k_ ≠ gb342))) (fun _ hk => hk.1.2) (.int .i64 t346)) (fun _ hk => hk.1.2) (.int .i64 t347)) (fun _ hk => hk.1.2) (.int .i64 t348)) (fun _ hk => hk.1.2) (.int .i64 t349)) (fun _ hk => hk.2) (.int .i64 t346)) (fun _ hk => hk.2) (.int .i64 t347)) (fun _ hk => hk.2) (.int .i64 t348)) (fun _ hk => hk.2) (.int .i64 t349)) (fun _ hk => ⟨⟨hk.1.1.1, ⟨hk.1.1.2.2.1, ⟨hk.1.1.2.2.2.1, ⟨hk.1.1.2.2.2.2.1, hk.1.1.2.2.2.2.2⟩⟩⟩⟩, hk.1.1.2.1⟩)) hg hat); replace BK354 := Aside0.mk (blk_grown (g := gb354) (o := .cells #[.int .i64 t346, .int .i64 t347, .int .i64 t348, .int .i64 t349] 34 (0, 0)) (by (with_reducible repeat first | apply kN | apply kD | apply kA); refine blk_far ?_ NB354_342.out _; (with_reducible repeat first | apply kN | apply kD | apply kA); refine blk_far ?_ NB354_342.out _; (with_reducible repeat first | apply kN | apply kD | apply kA); refine blk_far ?_ NB354_342.out _; (with_reducible repeat first | apply kN | apply kD | apply kA); refine blk_far ?_ NB354_342.out _; (with_reducible repeat first | apply kN | apply kD | apply kA); refine blk_put (cs := #[.int .i64 t346, .int .i64 t347, .int .i64 t348, .int .i64 0]) ?_ 3 _ rfl; (with_reducible repeat first | apply kN | apply kD | apply kA); refine blk_put (cs := #[.int .i64 t346, .int .i64 t347, .int .i64 0, .int .i64 0]) ?_ 2 _ rfl; (with_reducible repeat first | apply kN | apply kD | apply kA); refine blk_put (cs := #[.int .i64 t346, .int .i64 0, .int .i64 0, .int .i64 0]) ?_ 1 _ rfl; (with_reducible repeat first | apply kN | apply kD | apply kA); refine blk_put (cs := #[.int .i64 0, .int .i64 0, .int .i64 0, .int .i64 0]) ?_ 0 _ rfl; (with_reducible repeat first | apply kN | apply kD | apply kA); exact BK354.out) hg (Kd.N_ne HO_10.out BK354.out (by decide))); replace HB := Aside0.mk (hb); have HO357 := Aside0.mk (ho); clear HO_10 ho hb hg hat))
      go_roundg k1
      case measure => have := HK1.out; omega
      case rel => exact ⟨(y355), (wrap64 (x11_1 + 1)), (t346), (t347), (t348), (t349), (by first | rfl | (simp; done) | (simp [*]; done)), H', ⟨by have := HK1.out; omega⟩, ⟨by (with_reducible repeat (first | apply Kd.N_alloc | apply Kd.N_drewN | apply Kd.N_drew)); exact Kd.N_mono HO357.out (fun _ hk => ⟨hk.1, ⟨hk.2.1, ⟨hk.2.2.1, hk.2.2.2.1⟩⟩⟩)⟩, ⟨by (with_reducible repeat first | apply kN | apply kD | apply kA); exact BK342.out⟩, ⟨by (with_reducible repeat first | apply kN | apply kD | apply kA); exact BK343.out⟩, ⟨by (with_reducible repeat first | apply kN | apply kD | apply kA); exact BK344.out⟩, ⟨by with_reducible repeat first | exact HB.out | apply bA | apply bN | apply bD | refine bS ?_ GE342.out | refine bS ?_ GE343.out | refine bS ?_ GE344.out | refine bS ?_ GE354.out⟩⟩
     ·
      rw [if_neg c11] at H
      exact absurd H (by simp)
    ·
     rw [if_neg c9] at H
     exact absurd H (by simp)
   ·
    rw [if_neg c8] at H
    have c8b0 : decide (x11_1 < (l3.length : Int)) = false := decide_eq_false c8
    clear c8
    simp only [Option.some.injEq, Prod.mk.injEq] at H
    obtain ⟨rfl, rfl, rfl, rfl, rfl⟩ := H
    have hnb29 := NB342_343.out
    have hnc29 := NB343_342.out
    have hnb30 := NB342_344.out
    have hnc30 := NB344_342.out
    obtain ⟨hcz31_0, hcz31_1, hcz31_2, hcz31_3, hfz31_0, hfz31_1, hfz31_2, hfz31_3⟩ := bc4 BK342.out
    have hnb32 := NB344_343.out
    have hnc32 := NB343_344.out
    obtain ⟨hcz33_0, hcz33_1, hcz33_2, hcz33_3, hfz33_0, hfz33_1, hfz33_2, hfz33_3⟩ := bc4 BK344.out
    go_wp2
    refine bodyPost_ret (results_ct rfl _ _ gb344 34 #[.int .i64 x343000_1, .int .i64 x343001_1, .int .i64 x343002_1, .int .i64 x343003_1] (0, 0) _ rfl (by (with_reducible repeat first | apply kN | apply kD | apply kA); refine blk_put (cs := #[.int .i64 x343000_1, .int .i64 x343001_1, .int .i64 x343002_1, .int .i64 0]) ?_ 3 _ rfl; (with_reducible repeat first | apply kN | apply kD | apply kA); refine blk_put (cs := #[.int .i64 x343000_1, .int .i64 x343001_1, .int .i64 0, .int .i64 0]) ?_ 2 _ rfl; (with_reducible repeat first | apply kN | apply kD | apply kA); refine blk_put (cs := #[.int .i64 x343000_1, .int .i64 0, .int .i64 0, .int .i64 0]) ?_ 1 _ rfl; (with_reducible repeat first | apply kN | apply kD | apply kA); refine blk_put (cs := #[.int .i64 0, .int .i64 0, .int .i64 0, .int .i64 0]) ?_ 0 _ rfl; (with_reducible repeat first | apply kN | apply kD | apply kA); exact BK344.out) Tryd.underlying34 rfl (by kernel_rfl)) rfl ?_
    exact ⟨_, by first | rfl | (simp <;> rfl) | (simp [*] <;> rfl), by (with_reducible repeat (first | apply Kd.N_alloc | apply Kd.N_drewN | apply Kd.N_drew)); exact Kd.N_mono (Kd.N_far (p := ⟨gb344, 3, none⟩) (Kd.N_far (p := ⟨gb344, 2, none⟩) (Kd.N_far (p := ⟨gb344, 1, none⟩) (Kd.N_far (p := ⟨gb344, 0, none⟩) (Kd.N_mono HO_10.out (fun k_ hk => (⟨hk, hk.2.2.2⟩ : _ ∧ k_ ≠ gb344))) (fun _ hk => hk.2) (.int .i64 x343000_1)) (fun _ hk => hk.2) (.int .i64 x343001_1)) (fun _ hk => hk.2) (.int .i64 x343002_1)) (fun _ hk => hk.2) (.int .i64 x343003_1)) (fun _ hk => hk.1.1), by with_reducible repeat first | exact HB.out | apply bA | apply bN | apply bD | refine bS ?_ GE342.out | refine bS ?_ GE343.out | refine bS ?_ GE344.out⟩

/-! ### ridgewaylaw17_awake: function 8 -/
def ridgewaylaw17_awake.f : Option Bool := some true
abbrev awO : List S45 := [⟨1, [4, 0, 1, 0, 90, 0, 0, 0, 1, 13, 2, 6, 65, 4, 0, 0, 0, 1, 2, 3, 9, 1, 0]⟩]
abbrev awP : List S45 := [⟨1, [4, 0, 2, 0, 9, 0, 0, 0, 2, 13, 2, 6, 65, 4, 0, 0, 0, 2, 2, 3, 9, 1, 3]⟩]
abbrev awA : List S31 := [⟨2, 1, [], []⟩]
abbrev awB : List S31 := [⟨1, 3, [], []⟩]
theorem aw_node1 : ridgewaylaw17_node.f 1 2 1 90 = some (1, 1, 90, 9, [], awA) := by kernel_rfl
theorem aw_node2 : ridgewaylaw17_node.f 2 1 3 9 = some (2, 2, 9, 9, [], awB) := by kernel_rfl
theorem aw_start1 : session_Start.f 100 0 0 0 0 1 1 90 9 [] awA 0 = some (1, 0, 240, 0, awO) := by kernel_rfl
theorem aw_start2 : session_Start.f 100 0 0 0 0 2 2 9 9 [] awB 0 = some (1, 0, 240, 0, awP) := by kernel_rfl
theorem aw_step1 : ridgewaylaw17_step.f 100 1 0 240 0 1 1 90 9 [] awA 0 awP = some (2, 9, 9, 3, [⟨4, []⟩]) := by kernel_rfl
theorem aw_step2 : ridgewaylaw17_step.f 100 1 0 240 0 2 2 9 9 [] awB 0 awO = some (2, 9, 9, 3, [⟨4, []⟩]) := by kernel_rfl
theorem aw_step3 : ridgewaylaw17_step.f 100 2 9 9 3 1 1 90 9 [] awA 0 [⟨4, []⟩] = some (3, 9, 9, 3, []) := by kernel_rfl
theorem aw_step4 : ridgewaylaw17_step.f 100 2 9 9 3 2 2 9 9 [] awB 0 [⟨4, []⟩] = some (3, 9, 9, 3, []) := by kernel_rfl
theorem aw_sane : session_Sane.f 3 9 9 3 = some true := by kernel_rfl
def AwP (w : World) (L : List (Nat × Obj)) (Ms : List (Option Addr × List S45)) (Ds : List (Option Addr × List S31)) (W : World) : Prop :=
 Below w.heap.size w W ∧ (∀ p ∈ L, W.heap[p.1]? = some p.2) ∧ (∀ q ∈ Ms, Kd.C k45 W q.1 q.2.length q.2) ∧ (∀ q ∈ Ds, Kd.C k31 W q.1 q.2.length q.2)
theorem AwP.below {w : World} {L : List (Nat × Obj)} {Ms : List (Option Addr × List S45)} {Ds : List (Option Addr × List S31)} {W W' : World} (h : AwP w L Ms Ds W) (hb : Below W.heap.size W W') : AwP w L Ms Ds W' :=
 ⟨below_step h.1 hb, fun p hp => blk_below (h.2.1 p hp) hb, fun q hq => Kd.C_below (h.2.2.1 q hq) hb, fun q hq => Kd.C_below (h.2.2.2 q hq) hb⟩
theorem AwP.new {w : World} {L : List (Nat × Obj)} {Ms : List (Option Addr × List S45)} {Ds : List (Option Addr × List S31)} {W : World} (h : AwP w L Ms Ds W) (o : Obj) : AwP w ((W.heap.size, o) :: L) Ms Ds (W.alloc o) :=
 ⟨below_alloc h.1 _, fun p hp => by
  rcases List.mem_cons.1 hp with rfl | hp
  ·
   exact heap_alloc_new W o
  ·
   exact blk_alloc (h.2.1 p hp) _, fun q hq => Kd.C_below (h.2.2.1 q hq) (below_alloc (Below.refl _ _) _), fun q hq => Kd.C_below (h.2.2.2 q hq) (below_alloc (Below.refl _ _) _)⟩
theorem AwP.rowM {w : World} {L : List (Nat × Obj)} {Ms : List (Option Addr × List S45)} {Ds : List (Option Addr × List S31)} {W : World} (h : AwP w L Ms Ds W) {A : Option Addr} {l : List S45} (hr : Kd.C k45 W A l.length l) : AwP w L ((A, l) :: Ms) Ds W :=
 ⟨h.1, h.2.1, fun q hq => by
  rcases List.mem_cons.1 hq with rfl | hq
  ·
   exact hr
  ·
   exact h.2.2.1 q hq, h.2.2.2⟩
theorem AwP.rowD {w : World} {L : List (Nat × Obj)} {Ms : List (Option Addr × List S45)} {Ds : List (Option Addr × List S31)} {W : World} (h : AwP w L Ms Ds W) {A : Option Addr} {l : List S31} (hr : Kd.C k31 W A l.length l) : AwP w L Ms ((A, l) :: Ds) W :=
 ⟨h.1, h.2.1, h.2.2.1, fun q hq => by
  rcases List.mem_cons.1 hq with rfl | hq
  ·
   exact hr
  ·
   exact h.2.2.2 q hq⟩
theorem AwP.b {w : World} {L : List (Nat × Obj)} {Ms : List (Option Addr × List S45)} {Ds : List (Option Addr × List S31)} {W : World} (h : AwP w L Ms Ds W) : Below w.heap.size w W := h.1
theorem AwP.m {w : World} {L : List (Nat × Obj)} {Ms : List (Option Addr × List S45)} {Ds : List (Option Addr × List S31)} {W : World} (h : AwP w L Ms Ds W) (A : Option Addr) (l : List S45) (hm : (A, l) ∈ Ms) : Kd.C k45 W A l.length l := h.2.2.1 _ hm
theorem AwP.d {w : World} {L : List (Nat × Obj)} {Ms : List (Option Addr × List S45)} {Ds : List (Option Addr × List S31)} {W : World} (h : AwP w L Ms Ds W) (A : Option Addr) (l : List S31) (hm : (A, l) ∈ Ds) : Kd.C k31 W A l.length l := h.2.2.2 _ hm
theorem c_nil_any {α : Type} (d : Kd α) (W : World) (A : Option Addr) : Kd.C d W A ([] : List α).length [] := ⟨rfl, by simp, fun h => absurd h (Nat.lt_irrefl 0)⟩
set_option maxHeartbeats 8000000 in
set_option maxRecDepth 100000 in
theorem ridgewaylaw17_awake.calls (r : Bool) (w : World) (hG : GOK w) (h : ridgewaylaw17_awake.f = some r) :
  Calls Tryd.prog 8 #[] w fun e w' => e = .returned (.bool r) ∧ Below w.heap.size w w' := by
 obtain rfl := Option.some.inj h
 clear h
 have HGK := Aside0.mk hG
 clear hG
 go_enter Tryd.func8, Tryd.ntmps8
 go_wp2_with (first
  | (go_at_call 9; have hh := ridgewaylaw17_node.calls 1 2 1 90 1 1 90 9 [] awA w aw_node1; (with_reducible refine hh.mono ?_); clear hh; rintro e w1 ⟨v4, v5, rfl, hr_, hs, hb_⟩; obtain ⟨An, cn, rfl⟩ := Kd.R_slice hr_; obtain ⟨Ad, cd, rfl⟩ := Kd.S_slice hs; have H1 := Aside0.mk (AwP.rowD (Ms := []) (L := []) (Ds := []) ⟨hb_, fun p hp => by simp at hp, fun q hq => by simp at hq, fun q hq => by simp at hq⟩ (Kd.S_reads' hs).2.2); have LA := Aside0.mk (Kd.S_reads' hs).2.1; clear hr_ hs hb_)
  | (go_at_call 9; have hh := ridgewaylaw17_node.calls 2 1 3 9 2 2 9 9 [] awB (w1.alloc (.cells #[.int .i64 1, .int .i64 1, .int .i64 90, .int .i64 9, .slice An 0 cn, .slice Ad 1 cd] 26)) aw_node2; (with_reducible refine hh.mono ?_); clear hh; rintro e w2 ⟨v4, v5, rfl, hr_, hs, hb_⟩; obtain ⟨Bn, dn, rfl⟩ := Kd.R_slice hr_; obtain ⟨Bd, dd, rfl⟩ := Kd.S_slice hs; have H2 := Aside0.mk (AwP.rowD ((H1.out.new (.cells #[.int .i64 1, .int .i64 1, .int .i64 90, .int .i64 9, .slice An 0 cn, .slice Ad 1 cd] 26)).below hb_) (Kd.S_reads' hs).2.2); have LB := Aside0.mk (Kd.S_reads' hs).2.1; clear hr_ hs hb_; have hb0_ := H2.out.2.1 (w1.heap.size, (.cells #[.int .i64 1, .int .i64 1, .int .i64 90, .int .i64 9, .slice An 0 cn, .slice Ad 1 cd] 26)) (by simp); obtain ⟨e2_0_0, e2_0_1, e2_0_2, e2_0_3, e2_0_4, e2_0_5, -, -, -, -, -, -⟩ := bc6 hb0_; have l2_0 : w1.heap.size < w2.heap.size := blk_lt hb0_; clear hb0_)
  | (go_at_call 11; have hh := session_Start.calls 100 0 0 0 0 1 1 90 9 An cn [] Ad cd awA 0 1 0 240 0 awO (w2.alloc (.cells #[.int .i64 2, .int .i64 2, .int .i64 9, .int .i64 9, .slice Bn 0 dn, .slice Bd 1 dd] 26)) (c_nil_any _ _ _) (Nat.zero_le _) (AwP.d (H2.out.new (.cells #[.int .i64 2, .int .i64 2, .int .i64 9, .int .i64 9, .slice Bn 0 dn, .slice Bd 1 dd] 26)) Ad awA (by simp)) (show awA.length ≤ cd from LA.out) aw_start1; simp only [awA, awB, awO, awP, List.length_cons, List.length_nil, Nat.zero_add] at hh; (with_reducible refine hh.mono ?_); clear hh; rintro e w3 ⟨v4, rfl, hn_, hb_⟩; obtain ⟨Ao, co, rfl⟩ := Kd.N_slice hn_; have H3 := Aside0.mk (AwP.rowM (l := awO) ((H2.out.new (.cells #[.int .i64 2, .int .i64 2, .int .i64 9, .int .i64 9, .slice Bn 0 dn, .slice Bd 1 dd] 26)).below hb_) (Kd.N_reads' hn_).2.2); have LR3 := Aside0.mk (Kd.N_reads' hn_).2.1; clear hn_ hb_; have hb0_ := H3.out.2.1 (w1.heap.size, (.cells #[.int .i64 1, .int .i64 1, .int .i64 90, .int .i64 9, .slice An 0 cn, .slice Ad 1 cd] 26)) (by simp); obtain ⟨e3_0_0, e3_0_1, e3_0_2, e3_0_3, e3_0_4, e3_0_5, -, -, -, -, -, -⟩ := bc6 hb0_; have l3_0 : w1.heap.size < w3.heap.size := blk_lt hb0_; clear hb0_; have hb1_ := H3.out.2.1 (w2.heap.size, (.cells #[.int .i64 2, .int .i64 2, .int .i64 9, .int .i64 9, .slice Bn 0 dn, .slice Bd 1 dd] 26)) (by simp); obtain ⟨e3_1_0, e3_1_1, e3_1_2, e3_1_3, e3_1_4, e3_1_5, -, -, -, -, -, -⟩ := bc6 hb1_; have l3_1 : w2.heap.size < w3.heap.size := blk_lt hb1_; clear hb1_)
  | (go_at_call 11; have hh := session_Start.calls 100 0 0 0 0 2 2 9 9 Bn dn [] Bd dd awB 0 1 0 240 0 awP (w3.alloc (.cells #[.int .i64 1, .int .i64 0, .int .i64 240, .int .i64 0] 34)) (c_nil_any _ _ _) (Nat.zero_le _) (AwP.d (H3.out.new (.cells #[.int .i64 1, .int .i64 0, .int .i64 240, .int .i64 0] 34)) Bd awB (by simp)) (show awB.length ≤ dd from LB.out) aw_start2; simp only [awA, awB, awO, awP, List.length_cons, List.length_nil, Nat.zero_add] at hh; (with_reducible refine hh.mono ?_); clear hh; rintro e w4 ⟨v4, rfl, hn_, hb_⟩; obtain ⟨Ap, cp, rfl⟩ := Kd.N_slice hn_; have H4 := Aside0.mk (AwP.rowM (l := awP) ((H3.out.new (.cells #[.int .i64 1, .int .i64 0, .int .i64 240, .int .i64 0] 34)).below hb_) (Kd.N_reads' hn_).2.2); have LR4 := Aside0.mk (Kd.N_reads' hn_).2.1; clear hn_ hb_; have hb0_ := H4.out.2.1 (w1.heap.size, (.cells #[.int .i64 1, .int .i64 1, .int .i64 90, .int .i64 9, .slice An 0 cn, .slice Ad 1 cd] 26)) (by simp); obtain ⟨e4_0_0, e4_0_1, e4_0_2, e4_0_3, e4_0_4, e4_0_5, -, -, -, -, -, -⟩ := bc6 hb0_; have l4_0 : w1.heap.size < w4.heap.size := blk_lt hb0_; clear hb0_; have hb1_ := H4.out.2.1 (w2.heap.size, (.cells #[.int .i64 2, .int .i64 2, .int .i64 9, .int .i64 9, .slice Bn 0 dn, .slice Bd 1 dd] 26)) (by simp); obtain ⟨e4_1_0, e4_1_1, e4_1_2, e4_1_3, e4_1_4, e4_1_5, -, -, -, -, -, -⟩ := bc6 hb1_; have l4_1 : w2.heap.size < w4.heap.size := blk_lt hb1_; clear hb1_; have hb2_ := H4.out.2.1 (w3.heap.size, (.cells #[.int .i64 1, .int .i64 0, .int .i64 240, .int .i64 0] 34)) (by simp); obtain ⟨e4_2_0, e4_2_1, e4_2_2, e4_2_3, -, -, -, -⟩ := bc4 hb2_; have l4_2 : w3.heap.size < w4.heap.size := blk_lt hb2_; clear hb2_)
  | (go_at_call 12; have hh := ridgewaylaw17_step.calls 100 1 0 240 0 1 1 90 9 An cn [] Ad cd awA 0 Ap cp awP 2 9 9 3 [⟨4, []⟩] (w4.alloc (.cells #[.int .i64 1, .int .i64 0, .int .i64 240, .int .i64 0] 34)) (c_nil_any _ _ _) (Nat.zero_le _) (AwP.d (H4.out.new (.cells #[.int .i64 1, .int .i64 0, .int .i64 240, .int .i64 0] 34)) Ad awA (by simp)) (show awA.length ≤ cd from LA.out) (AwP.m (H4.out.new (.cells #[.int .i64 1, .int .i64 0, .int .i64 240, .int .i64 0] 34)) Ap awP (by simp)) LR4.out (GOK.below HGK.out (H4.out.new (.cells #[.int .i64 1, .int .i64 0, .int .i64 240, .int .i64 0] 34)).b) aw_step1; simp only [awA, awB, awO, awP, List.length_cons, List.length_nil, Nat.zero_add] at hh; (with_reducible refine hh.mono ?_); clear hh; rintro e w5 ⟨v4, rfl, hn_, hb_⟩; obtain ⟨Aq, cq, rfl⟩ := Kd.N_slice hn_; have H5 := Aside0.mk (AwP.rowM (l := [⟨4, []⟩]) ((H4.out.new (.cells #[.int .i64 1, .int .i64 0, .int .i64 240, .int .i64 0] 34)).below hb_) (Kd.N_reads' hn_).2.2); have LR5 := Aside0.mk (Kd.N_reads' hn_).2.1; clear hn_ hb_; have hb0_ := H5.out.2.1 (w1.heap.size, (.cells #[.int .i64 1, .int .i64 1, .int .i64 90, .int .i64 9, .slice An 0 cn, .slice Ad 1 cd] 26)) (by simp); obtain ⟨e5_0_0, e5_0_1, e5_0_2, e5_0_3, e5_0_4, e5_0_5, -, -, -, -, -, -⟩ := bc6 hb0_; have l5_0 : w1.heap.size < w5.heap.size := blk_lt hb0_; clear hb0_; have hb1_ := H5.out.2.1 (w2.heap.size, (.cells #[.int .i64 2, .int .i64 2, .int .i64 9, .int .i64 9, .slice Bn 0 dn, .slice Bd 1 dd] 26)) (by simp); obtain ⟨e5_1_0, e5_1_1, e5_1_2, e5_1_3, e5_1_4, e5_1_5, -, -, -, -, -, -⟩ := bc6 hb1_; have l5_1 : w2.heap.size < w5.heap.size := blk_lt hb1_; clear hb1_; have hb2_ := H5.out.2.1 (w3.heap.size, (.cells #[.int .i64 1, .int .i64 0, .int .i64 240, .int .i64 0] 34)) (by simp); obtain ⟨e5_2_0, e5_2_1, e5_2_2, e5_2_3, -, -, -, -⟩ := bc4 hb2_; have l5_2 : w3.heap.size < w5.heap.size := blk_lt hb2_; clear hb2_; have hb3_ := H5.out.2.1 (w4.heap.size, (.cells #[.int .i64 1, .int .i64 0, .int .i64 240, .int .i64 0] 34)) (by simp); obtain ⟨e5_3_0, e5_3_1, e5_3_2, e5_3_3, -, -, -, -⟩ := bc4 hb3_; have l5_3 : w4.heap.size < w5.heap.size := blk_lt hb3_; clear hb3_)
  | (go_at_call 12; have hh := ridgewaylaw17_step.calls 100 1 0 240 0 2 2 9 9 Bn dn [] Bd dd awB 0 Ao co awO 2 9 9 3 [⟨4, []⟩] (w5.alloc (.cells #[.int .i64 2, .int .i64 9, .int .i64 9, .int .i64 3] 34)) (c_nil_any _ _ _) (Nat.zero_le _) (AwP.d (H5.out.new (.cells #[.int .i64 2, .int .i64 9, .int .i64 9, .int .i64 3] 34)) Bd awB (by simp)) (show awB.length ≤ dd from LB.out) (AwP.m (H5.out.new (.cells #[.int .i64 2, .int .i64 9, .int .i64 9, .int .i64 3] 34)) Ao awO (by simp)) LR3.out (GOK.below HGK.out (H5.out.new (.cells #[.int .i64 2, .int .i64 9, .int .i64 9, .int .i64 3] 34)).b) aw_step2; simp only [awA, awB, awO, awP, List.length_cons, List.length_nil, Nat.zero_add] at hh; (with_reducible refine hh.mono ?_); clear hh; rintro e w6 ⟨v4, rfl, hn_, hb_⟩; obtain ⟨Ar, cr, rfl⟩ := Kd.N_slice hn_; have H6 := Aside0.mk (AwP.rowM (l := [⟨4, []⟩]) ((H5.out.new (.cells #[.int .i64 2, .int .i64 9, .int .i64 9, .int .i64 3] 34)).below hb_) (Kd.N_reads' hn_).2.2); have LR6 := Aside0.mk (Kd.N_reads' hn_).2.1; clear hn_ hb_; have hb0_ := H6.out.2.1 (w1.heap.size, (.cells #[.int .i64 1, .int .i64 1, .int .i64 90, .int .i64 9, .slice An 0 cn, .slice Ad 1 cd] 26)) (by simp); obtain ⟨e6_0_0, e6_0_1, e6_0_2, e6_0_3, e6_0_4, e6_0_5, -, -, -, -, -, -⟩ := bc6 hb0_; have l6_0 : w1.heap.size < w6.heap.size := blk_lt hb0_; clear hb0_; have hb1_ := H6.out.2.1 (w2.heap.size, (.cells #[.int .i64 2, .int .i64 2, .int .i64 9, .int .i64 9, .slice Bn 0 dn, .slice Bd 1 dd] 26)) (by simp); obtain ⟨e6_1_0, e6_1_1, e6_1_2, e6_1_3, e6_1_4, e6_1_5, -, -, -, -, -, -⟩ := bc6 hb1_; have l6_1 : w2.heap.size < w6.heap.size := blk_lt hb1_; clear hb1_; have hb2_ := H6.out.2.1 (w3.heap.size, (.cells #[.int .i64 1, .int .i64 0, .int .i64 240, .int .i64 0] 34)) (by simp); obtain ⟨e6_2_0, e6_2_1, e6_2_2, e6_2_3, -, -, -, -⟩ := bc4 hb2_; have l6_2 : w3.heap.size < w6.heap.size := blk_lt hb2_; clear hb2_; have hb3_ := H6.out.2.1 (w4.heap.size, (.cells #[.int .i64 1, .int .i64 0, .int .i64 240, .int .i64 0] 34)) (by simp); obtain ⟨e6_3_0, e6_3_1, e6_3_2, e6_3_3, -, -, -, -⟩ := bc4 hb3_; have l6_3 : w4.heap.size < w6.heap.size := blk_lt hb3_; clear hb3_; have hb4_ := H6.out.2.1 (w5.heap.size, (.cells #[.int .i64 2, .int .i64 9, .int .i64 9, .int .i64 3] 34)) (by simp); obtain ⟨e6_4_0, e6_4_1, e6_4_2, e6_4_3, -, -, -, -⟩ := bc4 hb4_; have l6_4 : w5.heap.size < w6.heap.size := blk_lt hb4_; clear hb4_)
  | (go_at_call 12; have hh := ridgewaylaw17_step.calls 100 2 9 9 3 1 1 90 9 An cn [] Ad cd awA 0 Ar cr [⟨4, []⟩] 3 9 9 3 [] (w6.alloc (.cells #[.int .i64 2, .int .i64 9, .int .i64 9, .int .i64 3] 34)) (c_nil_any _ _ _) (Nat.zero_le _) (AwP.d (H6.out.new (.cells #[.int .i64 2, .int .i64 9, .int .i64 9, .int .i64 3] 34)) Ad awA (by simp)) (show awA.length ≤ cd from LA.out) (AwP.m (H6.out.new (.cells #[.int .i64 2, .int .i64 9, .int .i64 9, .int .i64 3] 34)) Ar [⟨4, []⟩] (by simp)) LR6.out (GOK.below HGK.out (H6.out.new (.cells #[.int .i64 2, .int .i64 9, .int .i64 9, .int .i64 3] 34)).b) aw_step3; simp only [awA, awB, awO, awP, List.length_cons, List.length_nil, Nat.zero_add] at hh; (with_reducible refine hh.mono ?_); clear hh; rintro e w7 ⟨v4, rfl, hn_, hb_⟩; obtain ⟨Au, cu, rfl⟩ := Kd.N_slice hn_; have H7 := Aside0.mk (AwP.rowM (l := []) ((H6.out.new (.cells #[.int .i64 2, .int .i64 9, .int .i64 9, .int .i64 3] 34)).below hb_) (Kd.N_reads' hn_).2.2); have LR7 := Aside0.mk (Kd.N_reads' hn_).2.1; clear hn_ hb_; have hb0_ := H7.out.2.1 (w1.heap.size, (.cells #[.int .i64 1, .int .i64 1, .int .i64 90, .int .i64 9, .slice An 0 cn, .slice Ad 1 cd] 26)) (by simp); obtain ⟨e7_0_0, e7_0_1, e7_0_2, e7_0_3, e7_0_4, e7_0_5, -, -, -, -, -, -⟩ := bc6 hb0_; have l7_0 : w1.heap.size < w7.heap.size := blk_lt hb0_; clear hb0_; have hb1_ := H7.out.2.1 (w2.heap.size, (.cells #[.int .i64 2, .int .i64 2, .int .i64 9, .int .i64 9, .slice Bn 0 dn, .slice Bd 1 dd] 26)) (by simp); obtain ⟨e7_1_0, e7_1_1, e7_1_2, e7_1_3, e7_1_4, e7_1_5, -, -, -, -, -, -⟩ := bc6 hb1_; have l7_1 : w2.heap.size < w7.heap.size := blk_lt hb1_; clear hb1_; have hb2_ := H7.out.2.1 (w3.heap.size, (.cells #[.int .i64 1, .int .i64 0, .int .i64 240, .int .i64 0] 34)) (by simp); obtain ⟨e7_2_0, e7_2_1, e7_2_2, e7_2_3, -, -, -, -⟩ := bc4 hb2_; have l7_2 : w3.heap.size < w7.heap.size := blk_lt hb2_; clear hb2_; have hb3_ := H7.out.2.1 (w4.heap.size, (.cells #[.int .i64 1, .int .i64 0, .int .i64 240, .int .i64 0] 34)) (by simp); obtain ⟨e7_3_0, e7_3_1, e7_3_2, e7_3_3, -, -, -, -⟩ := bc4 hb3_; have l7_3 : w4.heap.size < w7.heap.size := blk_lt hb3_; clear hb3_; have hb4_ := H7.out.2.1 (w5.heap.size, (.cells #[.int .i64 2, .int .i64 9, .int .i64 9, .int .i64 3] 34)) (by simp); obtain ⟨e7_4_0, e7_4_1, e7_4_2, e7_4_3, -, -, -, -⟩ := bc4 hb4_; have l7_4 : w5.heap.size < w7.heap.size := blk_lt hb4_; clear hb4_; have hb5_ := H7.out.2.1 (w6.heap.size, (.cells #[.int .i64 2, .int .i64 9, .int .i64 9, .int .i64 3] 34)) (by simp); obtain ⟨e7_5_0, e7_5_1, e7_5_2, e7_5_3, -, -, -, -⟩ := bc4 hb5_; have l7_5 : w6.heap.size < w7.heap.size := blk_lt hb5_; clear hb5_)
  | (go_at_call 12; have hh := ridgewaylaw17_step.calls 100 2 9 9 3 2 2 9 9 Bn dn [] Bd dd awB 0 Aq cq [⟨4, []⟩] 3 9 9 3 [] (w7.alloc (.cells #[.int .i64 3, .int .i64 9, .int .i64 9, .int .i64 3] 34)) (c_nil_any _ _ _) (Nat.zero_le _) (AwP.d (H7.out.new (.cells #[.int .i64 3, .int .i64 9, .int .i64 9, .int .i64 3] 34)) Bd awB (by simp)) (show awB.length ≤ dd from LB.out) (AwP.m (H7.out.new (.cells #[.int .i64 3, .int .i64 9, .int .i64 9, .int .i64 3] 34)) Aq [⟨4, []⟩] (by simp)) LR5.out (GOK.below HGK.out (H7.out.new (.cells #[.int .i64 3, .int .i64 9, .int .i64 9, .int .i64 3] 34)).b) aw_step4; simp only [awA, awB, awO, awP, List.length_cons, List.length_nil, Nat.zero_add] at hh; (with_reducible refine hh.mono ?_); clear hh; rintro e w8 ⟨v4, rfl, hn_, hb_⟩; obtain ⟨Av, cv, rfl⟩ := Kd.N_slice hn_; have H8 := Aside0.mk (AwP.rowM (l := []) ((H7.out.new (.cells #[.int .i64 3, .int .i64 9, .int .i64 9, .int .i64 3] 34)).below hb_) (Kd.N_reads' hn_).2.2); have LR8 := Aside0.mk (Kd.N_reads' hn_).2.1; clear hn_ hb_; have hb0_ := H8.out.2.1 (w1.heap.size, (.cells #[.int .i64 1, .int .i64 1, .int .i64 90, .int .i64 9, .slice An 0 cn, .slice Ad 1 cd] 26)) (by simp); obtain ⟨e8_0_0, e8_0_1, e8_0_2, e8_0_3, e8_0_4, e8_0_5, -, -, -, -, -, -⟩ := bc6 hb0_; have l8_0 : w1.heap.size < w8.heap.size := blk_lt hb0_; clear hb0_; have hb1_ := H8.out.2.1 (w2.heap.size, (.cells #[.int .i64 2, .int .i64 2, .int .i64 9, .int .i64 9, .slice Bn 0 dn, .slice Bd 1 dd] 26)) (by simp); obtain ⟨e8_1_0, e8_1_1, e8_1_2, e8_1_3, e8_1_4, e8_1_5, -, -, -, -, -, -⟩ := bc6 hb1_; have l8_1 : w2.heap.size < w8.heap.size := blk_lt hb1_; clear hb1_; have hb2_ := H8.out.2.1 (w3.heap.size, (.cells #[.int .i64 1, .int .i64 0, .int .i64 240, .int .i64 0] 34)) (by simp); obtain ⟨e8_2_0, e8_2_1, e8_2_2, e8_2_3, -, -, -, -⟩ := bc4 hb2_; have l8_2 : w3.heap.size < w8.heap.size := blk_lt hb2_; clear hb2_; have hb3_ := H8.out.2.1 (w4.heap.size, (.cells #[.int .i64 1, .int .i64 0, .int .i64 240, .int .i64 0] 34)) (by simp); obtain ⟨e8_3_0, e8_3_1, e8_3_2, e8_3_3, -, -, -, -⟩ := bc4 hb3_; have l8_3 : w4.heap.size < w8.heap.size := blk_lt hb3_; clear hb3_; have hb4_ := H8.out.2.1 (w5.heap.size, (.cells #[.int .i64 2, .int .i64 9, .int .i64 9, .int .i64 3] 34)) (by simp); obtain ⟨e8_4_0, e8_4_1, e8_4_2, e8_4_3, -, -, -, -⟩ := bc4 hb4_; have l8_4 : w5.heap.size < w8.heap.size := blk_lt hb4_; clear hb4_; have hb5_ := H8.out.2.1 (w6.heap.size, (.cells #[.int .i64 2, .int .i64 9, .int .i64 9, .int .i64 3] 34)) (by simp); obtain ⟨e8_5_0, e8_5_1, e8_5_2, e8_5_3, -, -, -, -⟩ := bc4 hb5_; have l8_5 : w6.heap.size < w8.heap.size := blk_lt hb5_; clear hb5_; have hb6_ := H8.out.2.1 (w7.heap.size, (.cells #[.int .i64 3, .int .i64 9, .int .i64 9, .int .i64 3] 34)) (by simp); obtain ⟨e8_6_0, e8_6_1, e8_6_2, e8_6_3, -, -, -, -⟩ := bc4 hb6_; have l8_6 : w7.heap.size < w8.heap.size := blk_lt hb6_; clear hb6_)
  | (go_at_call 17; have hh := session_Sane.calls 3 9 9 3 true (w8.alloc (.cells #[.int .i64 3, .int .i64 9, .int .i64 9, .int .i64 3] 34)) aw_sane; (with_reducible refine hh.mono ?_); clear hh; rintro e w9 ⟨rfl, hb_⟩; have HE := Aside0.mk (below_step (H8.out.new (.cells #[.int .i64 3, .int .i64 9, .int .i64 9, .int .i64 3] 34)).b hb_); clear hb_))
 go_ret
 exact ⟨rfl, HE.out⟩

end Go.Proofs.YtfbndolhocojiaaDoor.K
