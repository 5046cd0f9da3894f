/- Each call of a Go function comes to what the Lean function of its name answers (written out by wip/tools/xprint.py, checked by Lean); conditions: those in each statement. -/
import Derived.Test.YtfbndolhocojiaaDoorLx0
import Derived.Test.YtfbndolhocojiaaDoorLx7
import Derived.Test.YtfbndolhocojiaaDoorLx13
import Derived.Test.YtfbndolhocojiaaDoorLx14
import Derived.Test.YtfbndolhocojiaaDoorLx15
namespace Go.Proofs.YtfbndolhocojiaaDoor.L
open Go.RowKit Go.Proofs.YtfbndolhocojiaaDoorW.PrintWords Go.Proofs.YtfbndolhocojiaaDoorW.PrintLast Go.Proofs.YtfbndolhocojiaaDoorW.PrintMore Go.Proofs.YtfbndolhocojiaaDoorW.PrintX
attribute [local go_sem] max2_int min2_int max_two min_two max_three min_three max_four min_four   -- for this text's walks alone
set_option linter.unusedVariables false
set_option linter.unusedSimpArgs false

/-! ### ridgewaylaw17_SessionLives: function 7 -/
mutual
def ridgewaylaw17_SessionLives.j0 : Nat → Int → Int → List Int → Bool → Bool → Int → Int → Int → Int → List (S62) → List (S31) → Option (Bool)
 | 0, _, _, _, _, _, _, _, _, _, _, _ => none
 | k + 1, x1, x2, x3, x9, x49, x382000, x382001, x382002, x382003, x382004, x382005 => if x49 = true then (some x9) else (ridgewaylaw17_SessionLives.l0 k x1 x2 x3 x9 0 x382000 x382001 x382002 x382003 x382004 x382005 3 x2 x2 (wrap64 (Int.tdiv x2 3)))
def ridgewaylaw17_SessionLives.l0 : Nat → Int → Int → List Int → Bool → Int → Int → Int → Int → Int → List (S62) → List (S31) → Int → Int → Int → Int → Option (Bool)
 | 0, _, _, _, _, _, _, _, _, _, _, _, _, _, _, _ => none
 | k + 1, x1, x2, x3, x9, x11, x382000, x382001, x382002, x382003, x382004, x382005, x386000, x386001, x386002, x386003 => if x11 < (x3.length : Int) then (if 0 ≤ x11 then (if x2 = 0 then (none) else ((session_Tick.f k x386000 x386001 x386002 x386003 (Int.tmod (Go.bits .and .i64 (rd x3 x11) 65535) x2)).bind fun bt387 => ((session_Take.f bt387.1 bt387.2.1 bt387.2.2.1 bt387.2.2.2.1 x382000 x382001 x382002 x382003 x382004 x382005 x1 4 ([] : List Int)).bind fun bt395 => (if bt387.1 = 3 then (if (bt395.2.2.2.2.1.length : Int) > 0 then (some false) else (if bt395.2.2.2.2.2 = true then (some false) else (if bt395.2.2.1 = x2 then (ridgewaylaw17_SessionLives.l0 k x1 x2 x3 x9 (wrap64 (x11 + 1)) x382000 x382001 x382002 x382003 x382004 x382005 bt395.1 bt395.2.1 bt395.2.2.1 bt395.2.2.2.1) else (some false)))) else (some false))))) else (none)) else (if x9 = true then (if x386000 = 3 then (some (x386001 == x2)) else (some false)) else (some false))
end
def ridgewaylaw17_SessionLives.f (k : Nat) (a0_0 : Int) (a0_1 : Int) (a0_2 : Int) (a0_3 : Int) (l0_4 : List (S62)) (l0_5 : List (S31)) (a1 : Int) (a2 : Int) (l3 : List Int) : Option (Bool) := (ridgewaylaw17_awake.f).bind fun t382 => ((ridgewayref12_Few.f k a0_0 a0_1 a0_2 a0_3 l0_4 l0_5).bind fun t383 => (if t383 = true then ((conf_Sane.f a0_0 a0_1 a0_2 a0_3 l0_4 l0_5).bind fun t384 => (if t384 = true then (if a1 < 0 then (ridgewaylaw17_SessionLives.j0 k a1 a2 l3 t382 true a0_0 a0_1 a0_2 a0_3 l0_4 l0_5) else (if a1 ≥ (l0_5.length : Int) then (ridgewaylaw17_SessionLives.j0 k a1 a2 l3 t382 true a0_0 a0_1 a0_2 a0_3 l0_4 l0_5) else (if a2 < 3 then (ridgewaylaw17_SessionLives.j0 k a1 a2 l3 t382 true a0_0 a0_1 a0_2 a0_3 l0_4 l0_5) else (if a2 > 900 then (ridgewaylaw17_SessionLives.j0 k a1 a2 l3 t382 true a0_0 a0_1 a0_2 a0_3 l0_4 l0_5) else (ridgewaylaw17_SessionLives.j0 k a1 a2 l3 t382 (decide ((l3.length : Int) > 20)) a0_0 a0_1 a0_2 a0_3 l0_4 l0_5))))) else (ridgewaylaw17_SessionLives.j0 k a1 a2 l3 t382 true a0_0 a0_1 a0_2 a0_3 l0_4 l0_5))) else (ridgewaylaw17_SessionLives.j0 k a1 a2 l3 t382 true a0_0 a0_1 a0_2 a0_3 l0_4 l0_5)))
theorem ridgewaylaw17_SessionLives.mono_l : ∀ k, (∀ y0 y1 y2 y3 y4 y5 y6 y7 y8 y9 y10, LeO (ridgewaylaw17_SessionLives.j0 k y0 y1 y2 y3 y4 y5 y6 y7 y8 y9 y10) (ridgewaylaw17_SessionLives.j0 (k + 1) y0 y1 y2 y3 y4 y5 y6 y7 y8 y9 y10)) ∧ (∀ y0 y1 y2 y3 y4 y5 y6 y7 y8 y9 y10 y11 y12 y13 y14, LeO (ridgewaylaw17_SessionLives.l0 k y0 y1 y2 y3 y4 y5 y6 y7 y8 y9 y10 y11 y12 y13 y14) (ridgewaylaw17_SessionLives.l0 (k + 1) y0 y1 y2 y3 y4 y5 y6 y7 y8 y9 y10 y11 y12 y13 y14))
 | 0 => ⟨fun _ _ _ _ _ _ _ _ _ _ _ r h => by simp [ridgewaylaw17_SessionLives.j0] at h, fun _ _ _ _ _ _ _ _ _ _ _ _ _ _ _ r h => by simp [ridgewaylaw17_SessionLives.l0] at h⟩
 | k + 1 => by
  obtain ⟨ih0, ih1⟩ := ridgewaylaw17_SessionLives.mono_l k
  refine ⟨?_, ?_⟩
  ·
   intro y0 y1 y2 y3 y4 y5 y6 y7 y8 y9 y10
   unfold ridgewaylaw17_SessionLives.j0
   repeat' first
   | (with_reducible exact ih0 _ _ _ _ _ _ _ _ _ _ _)
   | (with_reducible exact ih1 _ _ _ _ _ _ _ _ _ _ _ _ _ _ _)
   | (with_reducible exact ridgewayref12_Few.mono _ _ _ _ _ _ _)
   | (with_reducible exact session_Tick.mono _ _ _ _ _ _)
   | (with_reducible exact LeO.refl _)
   | (with_reducible exact LeO.none _)
   | (with_reducible refine LeO.ite ?_ ?_)
   | (with_reducible refine LeO.bind ?_ (fun _ => ?_))
   | exact ih0 _ _ _ _ _ _ _ _ _ _ _
   | exact ih1 _ _ _ _ _ _ _ _ _ _ _ _ _ _ _
   | exact ridgewayref12_Few.mono _ _ _ _ _ _ _
   | exact session_Tick.mono _ _ _ _ _ _
   | exact LeO.none _
   | refine LeO.ite ?_ ?_
   | refine LeO.bind ?_ (fun _ => ?_)
  ·
   intro y0 y1 y2 y3 y4 y5 y6 y7 y8 y9 y10 y11 y12 y13 y14
   unfold ridgewaylaw17_SessionLives.l0
   repeat' first
   | (with_reducible exact ih0 _ _ _ _ _ _ _ _ _ _ _)
   | (with_reducible exact ih1 _ _ _ _ _ _ _ _ _ _ _ _ _ _ _)
   | (with_reducible exact ridgewayref12_Few.mono _ _ _ _ _ _ _)
   | (with_reducible exact session_Tick.mono _ _ _ _ _ _)
   | (with_reducible exact LeO.refl _)
   | (with_reducible exact LeO.none _)
   | (with_reducible refine LeO.ite ?_ ?_)
   | (with_reducible refine LeO.bind ?_ (fun _ => ?_))
   | exact ih0 _ _ _ _ _ _ _ _ _ _ _
   | exact ih1 _ _ _ _ _ _ _ _ _ _ _ _ _ _ _
   | exact ridgewayref12_Few.mono _ _ _ _ _ _ _
   | exact session_Tick.mono _ _ _ _ _ _
   | exact LeO.none _
   | refine LeO.ite ?_ ?_
   | refine LeO.bind ?_ (fun _ => ?_)
theorem ridgewaylaw17_SessionLives.mono : ∀ a0 a1 a2 a3 a4 a5 a6 a7 a8 k, LeO (ridgewaylaw17_SessionLives.f k a0 a1 a2 a3 a4 a5 a6 a7 a8) (ridgewaylaw17_SessionLives.f (k + 1) a0 a1 a2 a3 a4 a5 a6 a7 a8) := by
 intro a0 a1 a2 a3 a4 a5 a6 a7 a8 k
 obtain ⟨ih0, ih1⟩ := ridgewaylaw17_SessionLives.mono_l k
 unfold ridgewaylaw17_SessionLives.f
 repeat' first
   | (with_reducible exact ih0 _ _ _ _ _ _ _ _ _ _ _)
   | (with_reducible exact ih1 _ _ _ _ _ _ _ _ _ _ _ _ _ _ _)
   | (with_reducible exact ridgewayref12_Few.mono _ _ _ _ _ _ _)
   | (with_reducible exact session_Tick.mono _ _ _ _ _ _)
   | (with_reducible exact LeO.refl _)
   | (with_reducible exact LeO.none _)
   | (with_reducible refine LeO.ite ?_ ?_)
   | (with_reducible refine LeO.bind ?_ (fun _ => ?_))
   | exact ih0 _ _ _ _ _ _ _ _ _ _ _
   | exact ih1 _ _ _ _ _ _ _ _ _ _ _ _ _ _ _
   | exact ridgewayref12_Few.mono _ _ _ _ _ _ _
   | exact session_Tick.mono _ _ _ _ _ _
   | exact LeO.none _
   | refine LeO.ite ?_ ?_
   | refine LeO.bind ?_ (fun _ => ?_)
def ridgewaylaw17_SessionLives.T8 : Bool × List (List Nat × List Nat) := (true, [([], []), ([], []), ([], []), ([1, 2], [1, 2]), ([3], [3]), ([4], [4]), ([], []), ([5, 6], [5, 6]), ([0, 7], [0, 7]), ([8], [8]), ([9], [9]), ([9], [9]), ([], []), ([12, 10, 8, 0, 1, 2, 3, 4, 5, 6, 7, 8, 9, 10, 12], [10, 12]), ([11, 13, 0, 1, 2, 3, 4, 5, 6, 7, 8, 9, 10, 11, 12, 13], [11])])
def ridgewaylaw17_SessionLives.B8 : List Nat := [0, 0, 0, 6, 14, 30, 0, 126, 255, 511, 1023, 1023, 0, 6143, 16383]
theorem ridgewaylaw17_SessionLives.tab8 : rtab .any (opsOf Tryd.f7 8) = ridgewaylaw17_SessionLives.T8 := by kernel_rfl
theorem ridgewaylaw17_SessionLives.bits8 : waitsOk ridgewaylaw17_SessionLives.T8.2 ridgewaylaw17_SessionLives.B8 = true := by kernel_rfl
set_option maxHeartbeats 8000000 in
set_option maxRecDepth 100000 in
theorem ridgewaylaw17_SessionLives.calls (k : Nat) (a0_0 : Int) (a0_1 : Int) (a0_2 : Int) (a0_3 : Int) (A0_4 : Option Addr) (c0_4 : Nat) (l0_4 : List (S62)) (A0_5 : Option Addr) (c0_5 : Nat) (l0_5 : List (S31)) (a1 : Int) (a2 : Int) (A3 : Option Addr) (c3 : Nat) (l3 : List Int) (w : World) (hr0_4 : Kd.C k62 w A0_4 l0_4.length l0_4) (hc0_4 : l0_4.length ≤ c0_4) (hr0_5 : Kd.C k31 w A0_5 l0_5.length l0_5) (hc0_5 : l0_5.length ≤ c0_5) (hr3 : Kd.C (Kd.int .i64) w A3 l3.length l3) (hc3 : l3.length ≤ c3) (hG : GOK w) (h : ridgewaylaw17_SessionLives.f k a0_0 a0_1 a0_2 a0_3 l0_4 l0_5 a1 a2 l3 = some true) :
  Calls Tryd.prog 7 #[.agg #[.int .i64 a0_0, .int .i64 a0_1, .int .i64 a0_2, .int .i64 a0_3, .slice A0_4 l0_4.length c0_4, .slice A0_5 l0_5.length c0_5], .int .i64 a1, .int .i64 a2, .slice A3 l3.length c3] w fun e w' => e = .returned (.bool true) ∧ Below w.heap.size w w' := by
 have hu26 := Tryd.underlying26
 have hu34 := Tryd.underlying34
 have hu45 := Tryd.underlying45
 have HR0_4 := Aside0.mk hr0_4
 have HC0_4 := Aside0.mk hc0_4
 clear hr0_4 hc0_4
 have HR0_5 := Aside0.mk hr0_5
 have HC0_5 := Aside0.mk hc0_5
 clear hr0_5 hc0_5
 have HR3 := Aside0.mk hr3
 have HC3 := Aside0.mk hc3
 clear hr3 hc3
 have HB := Aside0.mk (Below.refl w.heap.size w)
 have HG := Aside0.mk hG
 clear hG
 have H : ((ridgewaylaw17_awake.f).bind fun t382 => ((ridgewayref12_Few.f k a0_0 a0_1 a0_2 a0_3 l0_4 l0_5).bind fun t383 => (if t383 = true then ((conf_Sane.f a0_0 a0_1 a0_2 a0_3 l0_4 l0_5).bind fun t384 => (if t384 = true then (if a1 < 0 then (ridgewaylaw17_SessionLives.j0 k a1 a2 l3 t382 true a0_0 a0_1 a0_2 a0_3 l0_4 l0_5) else (if a1 ≥ (l0_5.length : Int) then (ridgewaylaw17_SessionLives.j0 k a1 a2 l3 t382 true a0_0 a0_1 a0_2 a0_3 l0_4 l0_5) else (if a2 < 3 then (ridgewaylaw17_SessionLives.j0 k a1 a2 l3 t382 true a0_0 a0_1 a0_2 a0_3 l0_4 l0_5) else (if a2 > 900 then (ridgewaylaw17_SessionLives.j0 k a1 a2 l3 t382 true a0_0 a0_1 a0_2 a0_3 l0_4 l0_5) else (ridgewaylaw17_SessionLives.j0 k a1 a2 l3 t382 (decide ((l3.length : Int) > 20)) a0_0 a0_1 a0_2 a0_3 l0_4 l0_5))))) else (ridgewaylaw17_SessionLives.j0 k a1 a2 l3 t382 true a0_0 a0_1 a0_2 a0_3 l0_4 l0_5))) else (ridgewaylaw17_SessionLives.j0 k a1 a2 l3 t382 true a0_0 a0_1 a0_2 a0_3 l0_4 l0_5)))) = some true := h
 clear h
 replace H := Option.bind_eq_some_iff.mp H
 obtain ⟨t382, A50, H⟩ := H
 replace H : ((ridgewayref12_Few.f k a0_0 a0_1 a0_2 a0_3 l0_4 l0_5).bind fun t383 => (if t383 = true then ((conf_Sane.f a0_0 a0_1 a0_2 a0_3 l0_4 l0_5).bind fun t384 => (if t384 = true then (if a1 < 0 then (ridgewaylaw17_SessionLives.j0 k a1 a2 l3 t382 true a0_0 a0_1 a0_2 a0_3 l0_4 l0_5) else (if a1 ≥ (l0_5.length : Int) then (ridgewaylaw17_SessionLives.j0 k a1 a2 l3 t382 true a0_0 a0_1 a0_2 a0_3 l0_4 l0_5) else (if a2 < 3 then (ridgewaylaw17_SessionLives.j0 k a1 a2 l3 t382 true a0_0 a0_1 a0_2 a0_3 l0_4 l0_5) else (if a2 > 900 then (ridgewaylaw17_SessionLives.j0 k a1 a2 l3 t382 true a0_0 a0_1 a0_2 a0_3 l0_4 l0_5) else (ridgewaylaw17_SessionLives.j0 k a1 a2 l3 t382 (decide ((l3.length : Int) > 20)) a0_0 a0_1 a0_2 a0_3 l0_4 l0_5))))) else (ridgewaylaw17_SessionLives.j0 k a1 a2 l3 t382 true a0_0 a0_1 a0_2 a0_3 l0_4 l0_5))) else (ridgewaylaw17_SessionLives.j0 k a1 a2 l3 t382 true a0_0 a0_1 a0_2 a0_3 l0_4 l0_5))) = some true := H
 have A5 := Aside0.mk A50
 clear A50
 have HC6 := Aside0.mk H
 clear H
 go_enter Tryd.func7, Tryd.ntmps7
 go_upto_region 2 with (first | ((with_reducible refine gate_dst (N := 4) rfl ?_); (try (refine gate_guard (by rfl) ?_; dsimp only)); refine box_event ?hg (N := 4) ?hd (cs := #[.int .i64 a0_0, .int .i64 a0_1, .int .i64 a0_2, .int .i64 a0_3, .slice A0_4 l0_4.length c0_4, .slice A0_5 l0_5.length c0_5]) (t := 26) ?hr ?_; (case hd | hg => rfl); (case hr => first | (go_simp; done) | (go_simp; rfl)); intro gb381 hg w7 hbox hb; have n0_ := Aside0.mk (below_step (by with_reducible repeat first | exact HB.out | apply bA | apply bN | apply bD) hb); have BK381 := Aside0.mk (hbox); have n2_ := Aside0.mk ((by rw [hg]; exact (below_size (by with_reducible repeat first | exact HB.out | apply bA | apply bN | apply bD)) : w.heap.size ≤ gb381)); have GE381 := n2_; clear HB; have HB := n0_; have GW381 := n2_; clear n0_ n2_; clear hb hbox hg) | ((with_reducible refine gate_callee (f := 8) rfl ?_); refine goesL_ (some 17) rfl rfl Tryd.func8 (by kernel_rfl) rfl #[] rfl (by (try simp only [List.map_toArray, List.map_cons, List.map_nil]); first | done | rfl | (simp only [List.length_drop, List.length_take]; rfl)) ?_; (with_reducible refine (ridgewaylaw17_awake.calls  t382 _ ?side1 A5.out).mono ?_); (case side1 => exact GOK.below HG.out (by with_reducible repeat first | exact HB.out | apply bA | apply bN | apply bD | refine bS ?_ GE381.out)); rintro e w8 ⟨rfl, hb⟩; refine ⟨_, rfl, ?_⟩; have n0_ := Aside0.mk (blk_below (g := gb381) (by (with_reducible repeat first | apply kN | apply kD | apply kA); exact BK381.out) hb); have n1_ := Aside0.mk (below_step (by with_reducible repeat first | exact HB.out | apply bA | apply bN | apply bD | refine bS ?_ GE381.out) hb); clear BK381; clear HB; have BK381 := n0_; have HB := n1_; clear n0_ n1_; (try clear hb); (try clear hb2); (try clear hk); (try clear hi)))
 (try simp only [Act.put, sA, sB, sC])
 go_cut [49] (fun v49 wc => ∃ (kq : Nat) (x49_5 : Bool), v49 = .bool x49_5 ∧ Aside0 (ridgewaylaw17_SessionLives.j0 kq a1 a2 l3 t382 x49_5 a0_0 a0_1 a0_2 a0_3 l0_4 l0_5 = some true) ∧ Aside0 (kq ≤ k) ∧ Aside0 (wc.heap[gb381]? = some (.cells #[.int .i64 a0_0, .int .i64 a0_1, .int .i64 a0_2, .int .i64 a0_3, (.slice A0_4 l0_4.length c0_4), (.slice A0_5 l0_5.length c0_5)] 26 (0, 0))) ∧ Aside0 (Below w.heap.size w wc))
 case first =>
  have H := HC6.out
  clear HC6
  replace H := Option.bind_eq_some_iff.mp H
  obtain ⟨t383, A90, H⟩ := H
  replace H : (if t383 = true then ((conf_Sane.f a0_0 a0_1 a0_2 a0_3 l0_4 l0_5).bind fun t384 => (if t384 = true then (if a1 < 0 then (ridgewaylaw17_SessionLives.j0 k a1 a2 l3 t382 true a0_0 a0_1 a0_2 a0_3 l0_4 l0_5) else (if a1 ≥ (l0_5.length : Int) then (ridgewaylaw17_SessionLives.j0 k a1 a2 l3 t382 true a0_0 a0_1 a0_2 a0_3 l0_4 l0_5) else (if a2 < 3 then (ridgewaylaw17_SessionLives.j0 k a1 a2 l3 t382 true a0_0 a0_1 a0_2 a0_3 l0_4 l0_5) else (if a2 > 900 then (ridgewaylaw17_SessionLives.j0 k a1 a2 l3 t382 true a0_0 a0_1 a0_2 a0_3 l0_4 l0_5) else (ridgewaylaw17_SessionLives.j0 k a1 a2 l3 t382 (decide ((l3.length : Int) > 20)) a0_0 a0_1 a0_2 a0_3 l0_4 l0_5))))) else (ridgewaylaw17_SessionLives.j0 k a1 a2 l3 t382 true a0_0 a0_1 a0_2 a0_3 l0_4 l0_5))) else (ridgewaylaw17_SessionLives.j0 k a1 a2 l3 t382 true a0_0 a0_1 a0_2 a0_3 l0_4 l0_5)) = some true := H
  have A9 := Aside0.mk A90
  clear A90
  by_cases c10 : t383 = true
  ·
   subst c10
   have H1 : ((conf_Sane.f a0_0 a0_1 a0_2 a0_3 l0_4 l0_5).bind fun t384 => (if t384 = true then (if a1 < 0 then (ridgewaylaw17_SessionLives.j0 k a1 a2 l3 t382 true a0_0 a0_1 a0_2 a0_3 l0_4 l0_5) else (if a1 ≥ (l0_5.length : Int) then (ridgewaylaw17_SessionLives.j0 k a1 a2 l3 t382 true a0_0 a0_1 a0_2 a0_3 l0_4 l0_5) else (if a2 < 3 then (ridgewaylaw17_SessionLives.j0 k a1 a2 l3 t382 true a0_0 a0_1 a0_2 a0_3 l0_4 l0_5) else (if a2 > 900 then (ridgewaylaw17_SessionLives.j0 k a1 a2 l3 t382 true a0_0 a0_1 a0_2 a0_3 l0_4 l0_5) else (ridgewaylaw17_SessionLives.j0 k a1 a2 l3 t382 (decide ((l3.length : Int) > 20)) a0_0 a0_1 a0_2 a0_3 l0_4 l0_5))))) else (ridgewaylaw17_SessionLives.j0 k a1 a2 l3 t382 true a0_0 a0_1 a0_2 a0_3 l0_4 l0_5))) = some true := by rw [if_pos rfl] at H; first | done | exact H
   clear H
   have H := H1
   clear H1
   replace H := Option.bind_eq_some_iff.mp H
   obtain ⟨t384, A110, H⟩ := H
   replace H : (if t384 = true then (if a1 < 0 then (ridgewaylaw17_SessionLives.j0 k a1 a2 l3 t382 true a0_0 a0_1 a0_2 a0_3 l0_4 l0_5) else (if a1 ≥ (l0_5.length : Int) then (ridgewaylaw17_SessionLives.j0 k a1 a2 l3 t382 true a0_0 a0_1 a0_2 a0_3 l0_4 l0_5) else (if a2 < 3 then (ridgewaylaw17_SessionLives.j0 k a1 a2 l3 t382 true a0_0 a0_1 a0_2 a0_3 l0_4 l0_5) else (if a2 > 900 then (ridgewaylaw17_SessionLives.j0 k a1 a2 l3 t382 true a0_0 a0_1 a0_2 a0_3 l0_4 l0_5) else (ridgewaylaw17_SessionLives.j0 k a1 a2 l3 t382 (decide ((l3.length : Int) > 20)) a0_0 a0_1 a0_2 a0_3 l0_4 l0_5))))) else (ridgewaylaw17_SessionLives.j0 k a1 a2 l3 t382 true a0_0 a0_1 a0_2 a0_3 l0_4 l0_5)) = some true := H
   have A11 := Aside0.mk A110
   clear A110
   by_cases c12 : t384 = true
   ·
    subst c12
    have H1 : (if a1 < 0 then (ridgewaylaw17_SessionLives.j0 k a1 a2 l3 t382 true a0_0 a0_1 a0_2 a0_3 l0_4 l0_5) else (if a1 ≥ (l0_5.length : Int) then (ridgewaylaw17_SessionLives.j0 k a1 a2 l3 t382 true a0_0 a0_1 a0_2 a0_3 l0_4 l0_5) else (if a2 < 3 then (ridgewaylaw17_SessionLives.j0 k a1 a2 l3 t382 true a0_0 a0_1 a0_2 a0_3 l0_4 l0_5) else (if a2 > 900 then (ridgewaylaw17_SessionLives.j0 k a1 a2 l3 t382 true a0_0 a0_1 a0_2 a0_3 l0_4 l0_5) else (ridgewaylaw17_SessionLives.j0 k a1 a2 l3 t382 (decide ((l3.length : Int) > 20)) a0_0 a0_1 a0_2 a0_3 l0_4 l0_5))))) = some true := by rw [if_pos rfl] at H; first | done | exact H
    clear H
    have H := H1
    clear H1
    by_cases c13 : a1 < 0
    ·
     rw [if_pos c13] at H
     have c13b0 : decide (a1 < 0) = true := decide_eq_true c13
     clear c13
     (first | rw [c13b0] | (simp only [i64_w, i32_w]; rw [c13b0]) | rw [c13b1] | skip)
     have H' := Aside0.mk H
     clear H
     obtain ⟨hcz14_0, hcz14_1, hcz14_2, hcz14_3, hcz14_4, hcz14_5, hfz14_0, hfz14_1, hfz14_2, hfz14_3, hfz14_4, hfz14_5⟩ := bc6 BK381.out
     go_wp2_with (first | ((with_reducible refine gate_callee (f := 20) rfl ?_); refine goesL_ (some 19) rfl rfl Tryd.func20 (by kernel_rfl) rfl #[.agg #[.int .i64 a0_0, .int .i64 a0_1, .int .i64 a0_2, .int .i64 a0_3, .slice A0_4 l0_4.length c0_4, .slice A0_5 l0_5.length c0_5]] rfl (by (try simp only [List.map_toArray, List.map_cons, List.map_nil]); first | done | rfl | (simp only [List.length_drop, List.length_take]; rfl)) ?_; (with_reducible refine (ridgewayref12_Few.calls k a0_0 a0_1 a0_2 a0_3 _ _ l0_4 _ _ l0_5 true _ ?side1 ?side2 ?side3 ?side4 A9.out).mono ?_); (case side1 => repeat (first | exact (Kd.C_below HR0_4.out HB.out) | (with_reducible refine Kd.C_alloc ?_ _) | (with_reducible refine Kd.C_drewN ?_ _) | (with_reducible refine Kd.C_drew ?_))); (case side2 => exact HC0_4.out); (case side3 => repeat (first | exact (Kd.C_below HR0_5.out HB.out) | (with_reducible refine Kd.C_alloc ?_ _) | (with_reducible refine Kd.C_drewN ?_ _) | (with_reducible refine Kd.C_drew ?_))); (case side4 => exact HC0_5.out); rintro e w15 ⟨rfl, hb⟩; refine ⟨_, rfl, ?_⟩; have n0_ := Aside0.mk (blk_below (g := gb381) (by (with_reducible repeat first | apply kN | apply kD | apply kA); exact BK381.out) hb); have n1_ := Aside0.mk (below_step (by with_reducible repeat first | exact HB.out | apply bA | apply bN | apply bD | refine bS ?_ GE381.out) hb); clear BK381; clear HB; have BK381 := n0_; have HB := n1_; clear n0_ n1_; (try clear hb); (try clear hb2); (try clear hk); (try clear hi); obtain ⟨hcz16_0, hcz16_1, hcz16_2, hcz16_3, hcz16_4, hcz16_5, hfz16_0, hfz16_1, hfz16_2, hfz16_3, hfz16_4, hfz16_5⟩ := bc6 BK381.out) | (go_at_call 10; (with_reducible refine (conf_Sane.calls a0_0 a0_1 a0_2 a0_3 _ _ l0_4 _ _ l0_5 true _ ?side1 ?side2 ?side3 ?side4 A11.out).mono ?_); (case side1 => repeat (first | exact (Kd.C_below HR0_4.out HB.out) | (with_reducible refine Kd.C_alloc ?_ _) | (with_reducible refine Kd.C_drewN ?_ _) | (with_reducible refine Kd.C_drew ?_))); (case side2 => exact HC0_4.out); (case side3 => repeat (first | exact (Kd.C_below HR0_5.out HB.out) | (with_reducible refine Kd.C_alloc ?_ _) | (with_reducible refine Kd.C_drewN ?_ _) | (with_reducible refine Kd.C_drew ?_))); (case side4 => exact HC0_5.out); rintro e w17 ⟨rfl, hb⟩; have n0_ := Aside0.mk (blk_below (g := gb381) (by (with_reducible repeat first | apply kN | apply kD | apply kA); exact BK381.out) hb); have n1_ := Aside0.mk (below_step (by with_reducible repeat first | exact HB.out | apply bA | apply bN | apply bD | refine bS ?_ GE381.out) hb); clear BK381; clear HB; have BK381 := n0_; have HB := n1_; clear n0_ n1_; (try clear hb); (try clear hb2); (try clear hk); (try clear hi)))
     go_meet
     case rel => exact ⟨_, (true), (by first | rfl | (simp; done) | (simp [*]; done)), H', ⟨by first | omega | exact Nat.le_refl _⟩, ⟨by (with_reducible repeat first | apply kN | apply kD | apply kA); exact BK381.out⟩, ⟨by with_reducible repeat first | exact HB.out | apply bA | apply bN | apply bD | refine bS ?_ GE381.out⟩⟩
    ·
     rw [if_neg c13] at H
     have c13b0 : decide (a1 < 0) = false := decide_eq_false c13
     clear c13
     (first | rw [c13b0] | (simp only [i64_w, i32_w]; rw [c13b0]) | rw [c13b1] | skip)
     by_cases c18 : a1 ≥ (l0_5.length : Int)
     ·
      rw [if_pos c18] at H
      have c18b0 : decide ((l0_5.length : Int) ≤ a1) = true := decide_eq_true c18
      clear c18
      have H' := Aside0.mk H
      clear H
      obtain ⟨hcz19_0, hcz19_1, hcz19_2, hcz19_3, hcz19_4, hcz19_5, hfz19_0, hfz19_1, hfz19_2, hfz19_3, hfz19_4, hfz19_5⟩ := bc6 BK381.out
      go_wp2_with (first | ((with_reducible refine gate_callee (f := 20) rfl ?_); refine goesL_ (some 19) rfl rfl Tryd.func20 (by kernel_rfl) rfl #[.agg #[.int .i64 a0_0, .int .i64 a0_1, .int .i64 a0_2, .int .i64 a0_3, .slice A0_4 l0_4.length c0_4, .slice A0_5 l0_5.length c0_5]] rfl (by (try simp only [List.map_toArray, List.map_cons, List.map_nil]); first | done | rfl | (simp only [List.length_drop, List.length_take]; rfl)) ?_; (with_reducible refine (ridgewayref12_Few.calls k a0_0 a0_1 a0_2 a0_3 _ _ l0_4 _ _ l0_5 true _ ?side1 ?side2 ?side3 ?side4 A9.out).mono ?_); (case side1 => repeat (first | exact (Kd.C_below HR0_4.out HB.out) | (with_reducible refine Kd.C_alloc ?_ _) | (with_reducible refine Kd.C_drewN ?_ _) | (with_reducible refine Kd.C_drew ?_))); (case side2 => exact HC0_4.out); (case side3 => repeat (first | exact (Kd.C_below HR0_5.out HB.out) | (with_reducible refine Kd.C_alloc ?_ _) | (with_reducible refine Kd.C_drewN ?_ _) | (with_reducible refine Kd.C_drew ?_))); (case side4 => exact HC0_5.out); rintro e w20 ⟨rfl, hb⟩; refine ⟨_, rfl, ?_⟩; have n0_ := Aside0.mk (blk_below (g := gb381) (by (with_reducible repeat first | apply kN | apply kD | apply kA); exact BK381.out) hb); have n1_ := Aside0.mk (below_step (by with_reducible repeat first | exact HB.out | apply bA | apply bN | apply bD | refine bS ?_ GE381.out) hb); clear BK381; clear HB; have BK381 := n0_; have HB := n1_; clear n0_ n1_; (try clear hb); (try clear hb2); (try clear hk); (try clear hi); obtain ⟨hcz21_0, hcz21_1, hcz21_2, hcz21_3, hcz21_4, hcz21_5, hfz21_0, hfz21_1, hfz21_2, hfz21_3, hfz21_4, hfz21_5⟩ := bc6 BK381.out) | (go_at_call 10; (with_reducible refine (conf_Sane.calls a0_0 a0_1 a0_2 a0_3 _ _ l0_4 _ _ l0_5 true _ ?side1 ?side2 ?side3 ?side4 A11.out).mono ?_); (case side1 => repeat (first | exact (Kd.C_below HR0_4.out HB.out) | (with_reducible refine Kd.C_alloc ?_ _) | (with_reducible refine Kd.C_drewN ?_ _) | (with_reducible refine Kd.C_drew ?_))); (case side2 => exact HC0_4.out); (case side3 => repeat (first | exact (Kd.C_below HR0_5.out HB.out) | (with_reducible refine Kd.C_alloc ?_ _) | (with_reducible refine Kd.C_drewN ?_ _) | (with_reducible refine Kd.C_drew ?_))); (case side4 => exact HC0_5.out); rintro e w22 ⟨rfl, hb⟩; have n0_ := Aside0.mk (blk_below (g := gb381) (by (with_reducible repeat first | apply kN | apply kD | apply kA); exact BK381.out) hb); have n1_ := Aside0.mk (below_step (by with_reducible repeat first | exact HB.out | apply bA | apply bN | apply bD | refine bS ?_ GE381.out) hb); clear BK381; clear HB; have BK381 := n0_; have HB := n1_; clear n0_ n1_; (try clear hb); (try clear hb2); (try clear hk); (try clear hi); obtain ⟨hcz23_0, hcz23_1, hcz23_2, hcz23_3, hcz23_4, hcz23_5, hfz23_0, hfz23_1, hfz23_2, hfz23_3, hfz23_4, hfz23_5⟩ := bc6 BK381.out))
      go_meet
      case rel => exact ⟨_, (true), (by first | rfl | (simp; done) | (simp [*]; done)), H', ⟨by first | omega | exact Nat.le_refl _⟩, ⟨by (with_reducible repeat first | apply kN | apply kD | apply kA); exact BK381.out⟩, ⟨by with_reducible repeat first | exact HB.out | apply bA | apply bN | apply bD | refine bS ?_ GE381.out⟩⟩
     ·
      rw [if_neg c18] at H
      have c18b0 : decide ((l0_5.length : Int) ≤ a1) = false := decide_eq_false c18
      clear c18
      by_cases c24 : a2 < 3
      ·
       rw [if_pos c24] at H
       have c24b0 : decide (a2 < 3) = true := decide_eq_true c24
       clear c24
       have H' := Aside0.mk H
       clear H
       obtain ⟨hcz25_0, hcz25_1, hcz25_2, hcz25_3, hcz25_4, hcz25_5, hfz25_0, hfz25_1, hfz25_2, hfz25_3, hfz25_4, hfz25_5⟩ := bc6 BK381.out
       go_wp2_with (first | ((with_reducible refine gate_callee (f := 20) rfl ?_); refine goesL_ (some 19) rfl rfl Tryd.func20 (by kernel_rfl) rfl #[.agg #[.int .i64 a0_0, .int .i64 a0_1, .int .i64 a0_2, .int .i64 a0_3, .slice A0_4 l0_4.length c0_4, .slice A0_5 l0_5.length c0_5]] rfl (by (try simp only [List.map_toArray, List.map_cons, List.map_nil]); first | done | rfl | (simp only [List.length_drop, List.length_take]; rfl)) ?_; (with_reducible refine (ridgewayref12_Few.calls k a0_0 a0_1 a0_2 a0_3 _ _ l0_4 _ _ l0_5 true _ ?side1 ?side2 ?side3 ?side4 A9.out).mono ?_); (case side1 => repeat (first | exact (Kd.C_below HR0_4.out HB.out) | (with_reducible refine Kd.C_alloc ?_ _) | (with_reducible refine Kd.C_drewN ?_ _) | (with_reducible refine Kd.C_drew ?_))); (case side2 => exact HC0_4.out); (case side3 => repeat (first | exact (Kd.C_below HR0_5.out HB.out) | (with_reducible refine Kd.C_alloc ?_ _) | (with_reducible refine Kd.C_drewN ?_ _) | (with_reducible refine Kd.C_drew ?_))); (case side4 => exact HC0_5.out); rintro e w26 ⟨rfl, hb⟩; refine ⟨_, rfl, ?_⟩; have n0_ := Aside0.mk (blk_below (g := gb381) (by (with_reducible repeat first | apply kN | apply kD | apply kA); exact BK381.out) hb); have n1_ := Aside0.mk (below_step (by with_reducible repeat first | exact HB.out | apply bA | apply bN | apply bD | refine bS ?_ GE381.out) hb); clear BK381; clear HB; have BK381 := n0_; have HB := n1_; clear n0_ n1_; (try clear hb); (try clear hb2); (try clear hk); (try clear hi); obtain ⟨hcz27_0, hcz27_1, hcz27_2, hcz27_3, hcz27_4, hcz27_5, hfz27_0, hfz27_1, hfz27_2, hfz27_3, hfz27_4, hfz27_5⟩ := bc6 BK381.out) | (go_at_call 10; (with_reducible refine (conf_Sane.calls a0_0 a0_1 a0_2 a0_3 _ _ l0_4 _ _ l0_5 true _ ?side1 ?side2 ?side3 ?side4 A11.out).mono ?_); (case side1 => repeat (first | exact (Kd.C_below HR0_4.out HB.out) | (with_reducible refine Kd.C_alloc ?_ _) | (with_reducible refine Kd.C_drewN ?_ _) | (with_reducible refine Kd.C_drew ?_))); (case side2 => exact HC0_4.out); (case side3 => repeat (first | exact (Kd.C_below HR0_5.out HB.out) | (with_reducible refine Kd.C_alloc ?_ _) | (with_reducible refine Kd.C_drewN ?_ _) | (with_reducible refine Kd.C_drew ?_))); (case side4 => exact HC0_5.out); rintro e w28 ⟨rfl, hb⟩; have n0_ := Aside0.mk (blk_below (g := gb381) (by (with_reducible repeat first | apply kN | apply kD | apply kA); exact BK381.out) hb); have n1_ := Aside0.mk (below_step (by with_reducible repeat first | exact HB.out | apply bA | apply bN | apply bD | refine bS ?_ GE381.out) hb); clear BK381; clear HB; have BK381 := n0_; have HB := n1_; clear n0_ n1_; (try clear hb); (try clear hb2); (try clear hk); (try clear hi); obtain ⟨hcz29_0, hcz29_1, hcz29_2, hcz29_3, hcz29_4, hcz29_5, hfz29_0, hfz29_1, hfz29_2, hfz29_3, hfz29_4, hfz29_5⟩ := bc6 BK381.out))
       go_meet
       case rel => exact ⟨_, (true), (by first | rfl | (simp; done) | (simp [*]; done)), H', ⟨by first | omega | exact Nat.le_refl _⟩, ⟨by (with_reducible repeat first | apply kN | apply kD | apply kA); exact BK381.out⟩, ⟨by with_reducible repeat first | exact HB.out | apply bA | apply bN | apply bD | refine bS ?_ GE381.out⟩⟩
      ·
       rw [if_neg c24] at H
       have c24b0 : decide (a2 < 3) = false := decide_eq_false c24
       clear c24
       by_cases c30 : a2 > 900
       ·
        rw [if_pos c30] at H
        have c30b0 : decide (900 < a2) = true := decide_eq_true c30
        clear c30
        have H' := Aside0.mk H
        clear H
        obtain ⟨hcz31_0, hcz31_1, hcz31_2, hcz31_3, hcz31_4, hcz31_5, hfz31_0, hfz31_1, hfz31_2, hfz31_3, hfz31_4, hfz31_5⟩ := bc6 BK381.out
        go_wp2_with (first | ((with_reducible refine gate_callee (f := 20) rfl ?_); refine goesL_ (some 19) rfl rfl Tryd.func20 (by kernel_rfl) rfl #[.agg #[.int .i64 a0_0, .int .i64 a0_1, .int .i64 a0_2, .int .i64 a0_3, .slice A0_4 l0_4.length c0_4, .slice A0_5 l0_5.length c0_5]] rfl (by (try simp only [List.map_toArray, List.map_cons, List.map_nil]); first | done | rfl | (simp only [List.length_drop, List.length_take]; rfl)) ?_; (with_reducible refine (ridgewayref12_Few.calls k a0_0 a0_1 a0_2 a0_3 _ _ l0_4 _ _ l0_5 true _ ?side1 ?side2 ?side3 ?side4 A9.out).mono ?_); (case side1 => repeat (first | exact (Kd.C_below HR0_4.out HB.out) | (with_reducible refine Kd.C_alloc ?_ _) | (with_reducible refine Kd.C_drewN ?_ _) | (with_reducible refine Kd.C_drew ?_))); (case side2 => exact HC0_4.out); (case side3 => repeat (first | exact (Kd.C_below HR0_5.out HB.out) | (with_reducible refine Kd.C_alloc ?_ _) | (with_reducible refine Kd.C_drewN ?_ _) | (with_reducible refine Kd.C_drew ?_))); (case side4 => exact HC0_5.out); rintro e w32 ⟨rfl, hb⟩; refine ⟨_, rfl, ?_⟩; have n0_ := Aside0.mk (blk_below (g := gb381) (by (with_reducible repeat first | apply kN | apply kD | apply kA); exact BK381.out) hb); have n1_ := Aside0.mk (below_step (by with_reducible repeat first | exact HB.out | apply bA | apply bN | apply bD | refine bS ?_ GE381.out) hb); clear BK381; clear HB; have BK381 := n0_; have HB := n1_; clear n0_ n1_; (try clear hb); (try clear hb2); (try clear hk); (try clear hi); obtain ⟨hcz33_0, hcz33_1, hcz33_2, hcz33_3, hcz33_4, hcz33_5, hfz33_0, hfz33_1, hfz33_2, hfz33_3, hfz33_4, hfz33_5⟩ := bc6 BK381.out) | (go_at_call 10; (with_reducible refine (conf_Sane.calls a0_0 a0_1 a0_2 a0_3 _ _ l0_4 _ _ l0_5 true _ ?side1 ?side2 ?side3 ?side4 A11.out).mono ?_); (case side1 => repeat (first | exact (Kd.C_below HR0_4.out HB.out) | (with_reducible refine Kd.C_alloc ?_ _) | (with_reducible refine Kd.C_drewN ?_ _) | (with_reducible refine Kd.C_drew ?_))); (case side2 => exact HC0_4.out); (case side3 => repeat (first | exact (Kd.C_below HR0_5.out HB.out) | (with_reducible refine Kd.C_alloc ?_ _) | (with_reducible refine Kd.C_drewN ?_ _) | (with_reducible refine Kd.C_drew ?_))); (case side4 => exact HC0_5.out); rintro e w34 ⟨rfl, hb⟩; have n0_ := Aside0.mk (blk_below (g := gb381) (by (with_reducible repeat first | apply kN | apply kD | apply kA); exact BK381.out) hb); have n1_ := Aside0.mk (below_step (by with_reducible repeat first | exact HB.out | apply bA | apply bN | apply bD | refine bS ?_ GE381.out) hb); clear BK381; clear HB; have BK381 := n0_; have HB := n1_; clear n0_ n1_; (try clear hb); (try clear hb2); (try clear hk); (try clear hi); obtain ⟨hcz35_0, hcz35_1, hcz35_2, hcz35_3, hcz35_4, hcz35_5, hfz35_0, hfz35_1, hfz35_2, hfz35_3, hfz35_4, hfz35_5⟩ := bc6 BK381.out))
        go_meet
        case rel => exact ⟨_, (true), (by first | rfl | (simp; done) | (simp [*]; done)), H', ⟨by first | omega | exact Nat.le_refl _⟩, ⟨by (with_reducible repeat first | apply kN | apply kD | apply kA); exact BK381.out⟩, ⟨by with_reducible repeat first | exact HB.out | apply bA | apply bN | apply bD | refine bS ?_ GE381.out⟩⟩
       ·
        rw [if_neg c30] at H
        have c30b0 : decide (900 < a2) = false := decide_eq_false c30
        clear c30
        have H' := Aside0.mk H
        clear H
        obtain ⟨hcz36_0, hcz36_1, hcz36_2, hcz36_3, hcz36_4, hcz36_5, hfz36_0, hfz36_1, hfz36_2, hfz36_3, hfz36_4, hfz36_5⟩ := bc6 BK381.out
        go_wp2_with (first | ((with_reducible refine gate_callee (f := 20) rfl ?_); refine goesL_ (some 19) rfl rfl Tryd.func20 (by kernel_rfl) rfl #[.agg #[.int .i64 a0_0, .int .i64 a0_1, .int .i64 a0_2, .int .i64 a0_3, .slice A0_4 l0_4.length c0_4, .slice A0_5 l0_5.length c0_5]] rfl (by (try simp only [List.map_toArray, List.map_cons, List.map_nil]); first | done | rfl | (simp only [List.length_drop, List.length_take]; rfl)) ?_; (with_reducible refine (ridgewayref12_Few.calls k a0_0 a0_1 a0_2 a0_3 _ _ l0_4 _ _ l0_5 true _ ?side1 ?side2 ?side3 ?side4 A9.out).mono ?_); (case side1 => repeat (first | exact (Kd.C_below HR0_4.out HB.out) | (with_reducible refine Kd.C_alloc ?_ _) | (with_reducible refine Kd.C_drewN ?_ _) | (with_reducible refine Kd.C_drew ?_))); (case side2 => exact HC0_4.out); (case side3 => repeat (first | exact (Kd.C_below HR0_5.out HB.out) | (with_reducible refine Kd.C_alloc ?_ _) | (with_reducible refine Kd.C_drewN ?_ _) | (with_reducible refine Kd.C_drew ?_))); (case side4 => exact HC0_5.out); rintro e w37 ⟨rfl, hb⟩; refine ⟨_, rfl, ?_⟩; have n0_ := Aside0.mk (blk_below (g := gb381) (by (with_reducible repeat first | apply kN | apply kD | apply kA); exact BK381.out) hb); have n1_ := Aside0.mk (below_step (by with_reducible repeat first | exact HB.out | apply bA | apply bN | apply bD | refine bS ?_ GE381.out) hb); clear BK381; clear HB; have BK381 := n0_; have HB := n1_; clear n0_ n1_; (try clear hb); (try clear hb2); (try clear hk); (try clear hi); obtain ⟨hcz38_0, hcz38_1, hcz38_2, hcz38_3, hcz38_4, hcz38_5, hfz38_0, hfz38_1, hfz38_2, hfz38_3, hfz38_4, hfz38_5⟩ := bc6 BK381.out) | (go_at_call 10; (with_reducible refine (conf_Sane.calls a0_0 a0_1 a0_2 a0_3 _ _ l0_4 _ _ l0_5 true _ ?side1 ?side2 ?side3 ?side4 A11.out).mono ?_); (case side1 => repeat (first | exact (Kd.C_below HR0_4.out HB.out) | (with_reducible refine Kd.C_alloc ?_ _) | (with_reducible refine Kd.C_drewN ?_ _) | (with_reducible refine Kd.C_drew ?_))); (case side2 => exact HC0_4.out); (case side3 => repeat (first | exact (Kd.C_below HR0_5.out HB.out) | (with_reducible refine Kd.C_alloc ?_ _) | (with_reducible refine Kd.C_drewN ?_ _) | (with_reducible refine Kd.C_drew ?_))); (case side4 => exact HC0_5.out); rintro e w39 ⟨rfl, hb⟩; have n0_ := Aside0.mk (blk_below (g := gb381) (by (with_reducible repeat first | apply kN | apply kD | apply kA); exact BK381.out) hb); have n1_ := Aside0.mk (below_step (by with_reducible repeat first | exact HB.out | apply bA | apply bN | apply bD | refine bS ?_ GE381.out) hb); clear BK381; clear HB; have BK381 := n0_; have HB := n1_; clear n0_ n1_; (try clear hb); (try clear hb2); (try clear hk); (try clear hi); obtain ⟨hcz40_0, hcz40_1, hcz40_2, hcz40_3, hcz40_4, hcz40_5, hfz40_0, hfz40_1, hfz40_2, hfz40_3, hfz40_4, hfz40_5⟩ := bc6 BK381.out))
        go_meet
        case rel => exact ⟨_, (decide ((l3.length : Int) > 20)), (by first | rfl | (simp; done) | (simp [*]; done)), H', ⟨by first | omega | exact Nat.le_refl _⟩, ⟨by (with_reducible repeat first | apply kN | apply kD | apply kA); exact BK381.out⟩, ⟨by with_reducible repeat first | exact HB.out | apply bA | apply bN | apply bD | refine bS ?_ GE381.out⟩⟩
   ·
    replace c12 := Bool.eq_false_iff.mpr c12
    subst c12
    have H1 : (ridgewaylaw17_SessionLives.j0 k a1 a2 l3 t382 true a0_0 a0_1 a0_2 a0_3 l0_4 l0_5) = some true := by rw [if_neg (show ¬ (false = true) by decide)] at H; first | done | exact H
    clear H
    have H := H1
    clear H1
    have H' := Aside0.mk H
    clear H
    obtain ⟨hcz41_0, hcz41_1, hcz41_2, hcz41_3, hcz41_4, hcz41_5, hfz41_0, hfz41_1, hfz41_2, hfz41_3, hfz41_4, hfz41_5⟩ := bc6 BK381.out
    go_wp2_with (first | ((with_reducible refine gate_callee (f := 20) rfl ?_); refine goesL_ (some 19) rfl rfl Tryd.func20 (by kernel_rfl) rfl #[.agg #[.int .i64 a0_0, .int .i64 a0_1, .int .i64 a0_2, .int .i64 a0_3, .slice A0_4 l0_4.length c0_4, .slice A0_5 l0_5.length c0_5]] rfl (by (try simp only [List.map_toArray, List.map_cons, List.map_nil]); first | done | rfl | (simp only [List.length_drop, List.length_take]; rfl)) ?_; (with_reducible refine (ridgewayref12_Few.calls k a0_0 a0_1 a0_2 a0_3 _ _ l0_4 _ _ l0_5 true _ ?side1 ?side2 ?side3 ?side4 A9.out).mono ?_); (case side1 => repeat (first | exact (Kd.C_below HR0_4.out HB.out) | (with_reducible refine Kd.C_alloc ?_ _) | (with_reducible refine Kd.C_drewN ?_ _) | (with_reducible refine Kd.C_drew ?_))); (case side2 => exact HC0_4.out); (case side3 => repeat (first | exact (Kd.C_below HR0_5.out HB.out) | (with_reducible refine Kd.C_alloc ?_ _) | (with_reducible refine Kd.C_drewN ?_ _) | (with_reducible refine Kd.C_drew ?_))); (case side4 => exact HC0_5.out); rintro e w42 ⟨rfl, hb⟩; refine ⟨_, rfl, ?_⟩; have n0_ := Aside0.mk (blk_below (g := gb381) (by (with_reducible repeat first | apply kN | apply kD | apply kA); exact BK381.out) hb); have n1_ := Aside0.mk (below_step (by with_reducible repeat first | exact HB.out | apply bA | apply bN | apply bD | refine bS ?_ GE381.out) hb); clear BK381; clear HB; have BK381 := n0_; have HB := n1_; clear n0_ n1_; (try clear hb); (try clear hb2); (try clear hk); (try clear hi); obtain ⟨hcz43_0, hcz43_1, hcz43_2, hcz43_3, hcz43_4, hcz43_5, hfz43_0, hfz43_1, hfz43_2, hfz43_3, hfz43_4, hfz43_5⟩ := bc6 BK381.out) | (go_at_call 10; (with_reducible refine (conf_Sane.calls a0_0 a0_1 a0_2 a0_3 _ _ l0_4 _ _ l0_5 false _ ?side1 ?side2 ?side3 ?side4 A11.out).mono ?_); (case side1 => repeat (first | exact (Kd.C_below HR0_4.out HB.out) | (with_reducible refine Kd.C_alloc ?_ _) | (with_reducible refine Kd.C_drewN ?_ _) | (with_reducible refine Kd.C_drew ?_))); (case side2 => exact HC0_4.out); (case side3 => repeat (first | exact (Kd.C_below HR0_5.out HB.out) | (with_reducible refine Kd.C_alloc ?_ _) | (with_reducible refine Kd.C_drewN ?_ _) | (with_reducible refine Kd.C_drew ?_))); (case side4 => exact HC0_5.out); rintro e w44 ⟨rfl, hb⟩; have n0_ := Aside0.mk (blk_below (g := gb381) (by (with_reducible repeat first | apply kN | apply kD | apply kA); exact BK381.out) hb); have n1_ := Aside0.mk (below_step (by with_reducible repeat first | exact HB.out | apply bA | apply bN | apply bD | refine bS ?_ GE381.out) hb); clear BK381; clear HB; have BK381 := n0_; have HB := n1_; clear n0_ n1_; (try clear hb); (try clear hb2); (try clear hk); (try clear hi)))
    go_meet
    case rel => exact ⟨_, (true), (by first | rfl | (simp; done) | (simp [*]; done)), H', ⟨by first | omega | exact Nat.le_refl _⟩, ⟨by (with_reducible repeat first | apply kN | apply kD | apply kA); exact BK381.out⟩, ⟨by with_reducible repeat first | exact HB.out | apply bA | apply bN | apply bD | refine bS ?_ GE381.out⟩⟩
  ·
   replace c10 := Bool.eq_false_iff.mpr c10
   subst c10
   have H1 : (ridgewaylaw17_SessionLives.j0 k a1 a2 l3 t382 true a0_0 a0_1 a0_2 a0_3 l0_4 l0_5) = some true := by rw [if_neg (show ¬ (false = true) by decide)] at H; first | done | exact H
   clear H
   have H := H1
   clear H1
   have H' := Aside0.mk H
   clear H
   obtain ⟨hcz45_0, hcz45_1, hcz45_2, hcz45_3, hcz45_4, hcz45_5, hfz45_0, hfz45_1, hfz45_2, hfz45_3, hfz45_4, hfz45_5⟩ := bc6 BK381.out
   go_wp2_with (first | ((with_reducible refine gate_callee (f := 20) rfl ?_); refine goesL_ (some 19) rfl rfl Tryd.func20 (by kernel_rfl) rfl #[.agg #[.int .i64 a0_0, .int .i64 a0_1, .int .i64 a0_2, .int .i64 a0_3, .slice A0_4 l0_4.length c0_4, .slice A0_5 l0_5.length c0_5]] rfl (by (try simp only [List.map_toArray, List.map_cons, List.map_nil]); first | done | rfl | (simp only [List.length_drop, List.length_take]; rfl)) ?_; (with_reducible refine (ridgewayref12_Few.calls k a0_0 a0_1 a0_2 a0_3 _ _ l0_4 _ _ l0_5 false _ ?side1 ?side2 ?side3 ?side4 A9.out).mono ?_); (case side1 => repeat (first | exact (Kd.C_below HR0_4.out HB.out) | (with_reducible refine Kd.C_alloc ?_ _) | (with_reducible refine Kd.C_drewN ?_ _) | (with_reducible refine Kd.C_drew ?_))); (case side2 => exact HC0_4.out); (case side3 => repeat (first | exact (Kd.C_below HR0_5.out HB.out) | (with_reducible refine Kd.C_alloc ?_ _) | (with_reducible refine Kd.C_drewN ?_ _) | (with_reducible refine Kd.C_drew ?_))); (case side4 => exact HC0_5.out); rintro e w46 ⟨rfl, hb⟩; refine ⟨_, rfl, ?_⟩; have n0_ := Aside0.mk (blk_below (g := gb381) (by (with_reducible repeat first | apply kN | apply kD | apply kA); exact BK381.out) hb); have n1_ := Aside0.mk (below_step (by with_reducible repeat first | exact HB.out | apply bA | apply bN | apply bD | refine bS ?_ GE381.out) hb); clear BK381; clear HB; have BK381 := n0_; have HB := n1_; clear n0_ n1_; (try clear hb); (try clear hb2); (try clear hk); (try clear hi)))
   go_meet
   case rel => exact ⟨_, (true), (by first | rfl | (simp; done) | (simp [*]; done)), H', ⟨by first | omega | exact Nat.le_refl _⟩, ⟨by (with_reducible repeat first | apply kN | apply kD | apply kA); exact BK381.out⟩, ⟨by with_reducible repeat first | exact HB.out | apply bA | apply bN | apply bD | refine bS ?_ GE381.out⟩⟩
 case rest =>
  clear HC6
  try clear c1
  try clear c2
  try clear p2
  try clear c3
  try clear c7
  try clear c8
  try clear c10
  try clear c12
  try clear c13
  try clear c13b0
  try clear c13b1
  try clear c18
  try clear c18b0
  try clear c20
  try clear c24
  try clear c24b0
  try clear c30
  try clear c30b0
  try clear hcz14_0
  try clear hcz14_1
  try clear hcz14_2
  try clear hcz14_3
  try clear hcz14_4
  try clear hcz14_5
  try clear hcz16_0
  try clear hcz16_1
  try clear hcz16_2
  try clear hcz16_3
  try clear hcz16_4
  try clear hcz16_5
  try clear hcz19_0
  try clear hcz19_1
  try clear hcz19_2
  try clear hcz19_3
  try clear hcz19_4
  try clear hcz19_5
  try clear hcz21_0
  try clear hcz21_1
  try clear hcz21_2
  try clear hcz21_3
  try clear hcz21_4
  try clear hcz21_5
  try clear hcz23_0
  try clear hcz23_1
  try clear hcz23_2
  try clear hcz23_3
  try clear hcz23_4
  try clear hcz23_5
  try clear hcz25_0
  try clear hcz25_1
  try clear hcz25_2
  try clear hcz25_3
  try clear hcz25_4
  try clear hcz25_5
  try clear hcz27_0
  try clear hcz27_1
  try clear hcz27_2
  try clear hcz27_3
  try clear hcz27_4
  try clear hcz27_5
  try clear hcz29_0
  try clear hcz29_1
  try clear hcz29_2
  try clear hcz29_3
  try clear hcz29_4
  try clear hcz29_5
  try clear hcz31_0
  try clear hcz31_1
  try clear hcz31_2
  try clear hcz31_3
  try clear hcz31_4
  try clear hcz31_5
  try clear hcz33_0
  try clear hcz33_1
  try clear hcz33_2
  try clear hcz33_3
  try clear hcz33_4
  try clear hcz33_5
  try clear hcz35_0
  try clear hcz35_1
  try clear hcz35_2
  try clear hcz35_3
  try clear hcz35_4
  try clear hcz35_5
  try clear hcz36_0
  try clear hcz36_1
  try clear hcz36_2
  try clear hcz36_3
  try clear hcz36_4
  try clear hcz36_5
  try clear hcz38_0
  try clear hcz38_1
  try clear hcz38_2
  try clear hcz38_3
  try clear hcz38_4
  try clear hcz38_5
  try clear hcz40_0
  try clear hcz40_1
  try clear hcz40_2
  try clear hcz40_3
  try clear hcz40_4
  try clear hcz40_5
  try clear hcz41_0
  try clear hcz41_1
  try clear hcz41_2
  try clear hcz41_3
  try clear hcz41_4
  try clear hcz41_5
  try clear hcz43_0
  try clear hcz43_1
  try clear hcz43_2
  try clear hcz43_3
  try clear hcz43_4
  try clear hcz43_5
  try clear hcz45_0
  try clear hcz45_1
  try clear hcz45_2
  try clear hcz45_3
  try clear hcz45_4
  try clear hcz45_5
  try clear hfz14_0
  try clear hfz14_1
  try clear hfz14_2
  try clear hfz14_3
  try clear hfz14_4
  try clear hfz14_5
  try clear hfz16_0
  try clear hfz16_1
  try clear hfz16_2
  try clear hfz16_3
  try clear hfz16_4
  try clear hfz16_5
  try clear hfz19_0
  try clear hfz19_1
  try clear hfz19_2
  try clear hfz19_3
  try clear hfz19_4
  try clear hfz19_5
  try clear hfz21_0
  try clear hfz21_1
  try clear hfz21_2
  try clear hfz21_3
  try clear hfz21_4
  try clear hfz21_5
  try clear hfz23_0
  try clear hfz23_1
  try clear hfz23_2
  try clear hfz23_3
  try clear hfz23_4
  try clear hfz23_5
  try clear hfz25_0
  try clear hfz25_1
  try clear hfz25_2
  try clear hfz25_3
  try clear hfz25_4
  try clear hfz25_5
  try clear hfz27_0
  try clear hfz27_1
  try clear hfz27_2
  try clear hfz27_3
  try clear hfz27_4
  try clear hfz27_5
  try clear hfz29_0
  try clear hfz29_1
  try clear hfz29_2
  try clear hfz29_3
  try clear hfz29_4
  try clear hfz29_5
  try clear hfz31_0
  try clear hfz31_1
  try clear hfz31_2
  try clear hfz31_3
  try clear hfz31_4
  try clear hfz31_5
  try clear hfz33_0
  try clear hfz33_1
  try clear hfz33_2
  try clear hfz33_3
  try clear hfz33_4
  try clear hfz33_5
  try clear hfz35_0
  try clear hfz35_1
  try clear hfz35_2
  try clear hfz35_3
  try clear hfz35_4
  try clear hfz35_5
  try clear hfz36_0
  try clear hfz36_1
  try clear hfz36_2
  try clear hfz36_3
  try clear hfz36_4
  try clear hfz36_5
  try clear hfz38_0
  try clear hfz38_1
  try clear hfz38_2
  try clear hfz38_3
  try clear hfz38_4
  try clear hfz38_5
  try clear hfz40_0
  try clear hfz40_1
  try clear hfz40_2
  try clear hfz40_3
  try clear hfz40_4
  try clear hfz40_5
  try clear hfz41_0
  try clear hfz41_1
  try clear hfz41_2
  try clear hfz41_3
  try clear hfz41_4
  try clear hfz41_5
  try clear hfz43_0
  try clear hfz43_1
  try clear hfz43_2
  try clear hfz43_3
  try clear hfz43_4
  try clear hfz43_5
  try clear hfz45_0
  try clear hfz45_1
  try clear hfz45_2
  try clear hfz45_3
  try clear hfz45_4
  try clear hfz45_5
  obtain ⟨kq, x49_5, rfl, HA, HJ5, BK381, HB⟩ := hcut
  cases kq with
  | zero => exact absurd HA.out (by simp [ridgewaylaw17_SessionLives.j0])
  | succ kj5 =>
   have H := HA.out
   clear HA
   simp only [ridgewaylaw17_SessionLives.j0] at H
   by_cases c47 : x49_5 = true
   ·
    subst c47
    have H1 : (some t382) = some true := by rw [if_pos rfl] at H; first | done | exact H
    clear H
    have H := H1
    clear H1
    have HRL_ := Aside0.mk (Option.some.inj H)
    clear H
    go_wp2
    all_goals first | (go_ret; refine ⟨?_, ?_⟩; (focus (first | rfl | (simp [errW_none, errW_some] <;> rfl) | (rw [HRL_.out] <;> rfl) | (simp only [HRL_.out] <;> rfl) | (have h_ := HRL_.out; simp at h_; simp [h_]; done) | (have h_ := HRL_.out; simp [*] at h_ ⊢; done) | (simp [*, errW_none, errW_some] <;> rfl))); (focus (repeat (first | (with_reducible first | exact HB.out | apply bA | apply bN | apply bD | refine bS ?_ GE381.out) | exact HB.out)))) | (exfalso; simp_all; done)
   ·
    replace c47 := Bool.eq_false_iff.mpr c47
    subst c47
    have H1 : (ridgewaylaw17_SessionLives.l0 kj5 a1 a2 l3 t382 0 a0_0 a0_1 a0_2 a0_3 l0_4 l0_5 3 a2 a2 (wrap64 (Int.tdiv a2 3))) = some true := by rw [if_neg (show ¬ (false = true) by decide)] at H; first | done | exact H
    clear H
    have H := H1
    clear H1
    have H' := Aside0.mk H
    clear H
    go_wp2_with (first | ((with_reducible refine gate_dst (N := 10) rfl ?_); (try (refine gate_guard (by rfl) ?_; dsimp only)); refine box_event ?hg (N := 10) ?hd (cs := #[.int .i64 0, .int .i64 0, .int .i64 0, .int .i64 0]) (t := 34) ?hr ?_; (case hd | hg => rfl); (case hr => first | (go_simp; done) | (go_simp; rfl)); intro gb385 hg w48 hbox hb; have n0_ := Aside0.mk (blk_below (g := gb381) (by (with_reducible repeat first | apply kN | apply kD | apply kA); exact BK381.out) hb); have n1_ := Aside0.mk (below_step (by with_reducible repeat first | exact HB.out | apply bA | apply bN | apply bD | refine bS ?_ GE381.out) hb); have BK385 := Aside0.mk (hbox); have n3_ := Aside0.mk ((by rw [hg]; exact (below_size (by with_reducible repeat first | exact HB.out | apply bA | apply bN | apply bD | refine bS ?_ GE381.out)) : w.heap.size ≤ gb385)); have GE385 := n3_; have NB381_385 := Aside0.mk ((by rw [hg]; exact Nat.ne_of_lt (blk_lt (g := gb381) (by (with_reducible repeat first | apply kN | apply kD | apply kA); exact BK381.out)) : gb381 ≠ gb385)); have NB385_381 := Aside0.mk ((by rw [hg]; exact Nat.ne_of_gt (blk_lt (g := gb381) (by (with_reducible repeat first | apply kN | apply kD | apply kA); exact BK381.out)) : gb385 ≠ gb381)); clear BK381; clear HB; have BK381 := n0_; have HB := n1_; have GW385 := n3_; clear n0_ n1_ n3_; clear hb hbox hg; have hnb49 := NB385_381.out; have hnc49 := NB381_385.out; obtain ⟨hcz50_0, hcz50_1, hcz50_2, hcz50_3, hfz50_0, hfz50_1, hfz50_2, hfz50_3⟩ := bc4 BK385.out))
    go_loopg [11] kj5 (fun kq v11 w' => ∃ (x11_2 : Int) (x386000_2 : Int) (x386001_2 : Int) (x386002_2 : Int) (x386003_2 : Int), v11 = .int .i64 x11_2 ∧ Aside0 (ridgewaylaw17_SessionLives.l0 kq a1 a2 l3 t382 x11_2 a0_0 a0_1 a0_2 a0_3 l0_4 l0_5 x386000_2 x386001_2 x386002_2 x386003_2 = some true) ∧ Aside0 (kq ≤ kj5) ∧ Aside0 (w'.heap[gb381]? = some (.cells #[.int .i64 a0_0, .int .i64 a0_1, .int .i64 a0_2, .int .i64 a0_3, (.slice A0_4 l0_4.length c0_4), (.slice A0_5 l0_5.length c0_5)] 26 (0, 0))) ∧ Aside0 (w'.heap[gb385]? = some (.cells #[.int .i64 x386000_2, .int .i64 x386001_2, .int .i64 x386002_2, .int .i64 x386003_2] 34 (0, 0))) ∧ Aside0 (Below w.heap.size w w'))
    case atStart => exact ⟨(0), (3), (a2), (a2), (wrap64 (Int.tdiv a2 3)), (by first | rfl | (simp; done) | (simp [*]; done)), H', ⟨Nat.le_refl _⟩, ⟨by (with_reducible repeat first | apply kN | apply kD | apply kA); refine blk_far ?_ NB381_385.out _; (with_reducible repeat first | apply kN | apply kD | apply kA); refine blk_far ?_ NB381_385.out _; (with_reducible repeat first | apply kN | apply kD | apply kA); refine blk_far ?_ NB381_385.out _; (with_reducible repeat first | apply kN | apply kD | apply kA); refine blk_far ?_ NB381_385.out _; (with_reducible repeat first | apply kN | apply kD | apply kA); exact BK381.out⟩, ⟨by (with_reducible repeat first | apply kN | apply kD | apply kA); refine blk_put (cs := #[.int .i64 3, .int .i64 a2, .int .i64 a2, .int .i64 0]) ?_ 3 _ rfl; (with_reducible repeat first | apply kN | apply kD | apply kA); refine blk_put (cs := #[.int .i64 3, .int .i64 a2, .int .i64 0, .int .i64 0]) ?_ 2 _ rfl; (with_reducible repeat first | apply kN | apply kD | apply kA); refine blk_put (cs := #[.int .i64 3, .int .i64 0, .int .i64 0, .int .i64 0]) ?_ 1 _ rfl; (with_reducible repeat first | apply kN | apply kD | apply kA); refine blk_put (cs := #[.int .i64 0, .int .i64 0, .int .i64 0, .int .i64 0]) ?_ 0 _ rfl; (with_reducible repeat first | apply kN | apply kD | apply kA); exact BK385.out⟩, ⟨by with_reducible repeat first | exact HB.out | apply bA | apply bN | apply bD | refine bS ?_ GE381.out | refine bS ?_ GE385.out⟩⟩
    case round =>
     clear H'
     try clear c1
     try clear c2
     try clear p2
     try clear c3
     try clear c4
     try clear p6
     try clear c7
     try clear c8
     try clear c10
     try clear c12
     try clear c13
     try clear c13b0
     try clear c13b1
     try clear c18
     try clear c18b0
     try clear c20
     try clear c24
     try clear c24b0
     try clear c30
     try clear c30b0
     try clear c47
     try clear c49
     try clear hcz14_0
     try clear hcz14_1
     try clear hcz14_2
     try clear hcz14_3
     try clear hcz14_4
     try clear hcz14_5
     try clear hcz16_0
     try clear hcz16_1
     try clear hcz16_2
     try clear hcz16_3
     try clear hcz16_4
     try clear hcz16_5
     try clear hcz19_0
     try clear hcz19_1
     try clear hcz19_2
     try clear hcz19_3
     try clear hcz19_4
     try clear hcz19_5
     try clear hcz21_0
     try clear hcz21_1
     try clear hcz21_2
     try clear hcz21_3
     try clear hcz21_4
     try clear hcz21_5
     try clear hcz23_0
     try clear hcz23_1
     try clear hcz23_2
     try clear hcz23_3
     try clear hcz23_4
     try clear hcz23_5
     try clear hcz25_0
     try clear hcz25_1
     try clear hcz25_2
     try clear hcz25_3
     try clear hcz25_4
     try clear hcz25_5
     try clear hcz27_0
     try clear hcz27_1
     try clear hcz27_2
     try clear hcz27_3
     try clear hcz27_4
     try clear hcz27_5
     try clear hcz29_0
     try clear hcz29_1
     try clear hcz29_2
     try clear hcz29_3
     try clear hcz29_4
     try clear hcz29_5
     try clear hcz31_0
     try clear hcz31_1
     try clear hcz31_2
     try clear hcz31_3
     try clear hcz31_4
     try clear hcz31_5
     try clear hcz33_0
     try clear hcz33_1
     try clear hcz33_2
     try clear hcz33_3
     try clear hcz33_4
     try clear hcz33_5
     try clear hcz35_0
     try clear hcz35_1
     try clear hcz35_2
     try clear hcz35_3
     try clear hcz35_4
     try clear hcz35_5
     try clear hcz36_0
     try clear hcz36_1
     try clear hcz36_2
     try clear hcz36_3
     try clear hcz36_4
     try clear hcz36_5
     try clear hcz38_0
     try clear hcz38_1
     try clear hcz38_2
     try clear hcz38_3
     try clear hcz38_4
     try clear hcz38_5
     try clear hcz40_0
     try clear hcz40_1
     try clear hcz40_2
     try clear hcz40_3
     try clear hcz40_4
     try clear hcz40_5
     try clear hcz41_0
     try clear hcz41_1
     try clear hcz41_2
     try clear hcz41_3
     try clear hcz41_4
     try clear hcz41_5
     try clear hcz43_0
     try clear hcz43_1
     try clear hcz43_2
     try clear hcz43_3
     try clear hcz43_4
     try clear hcz43_5
     try clear hcz45_0
     try clear hcz45_1
     try clear hcz45_2
     try clear hcz45_3
     try clear hcz45_4
     try clear hcz45_5
     try clear hcz50_0
     try clear hcz50_1
     try clear hcz50_2
     try clear hcz50_3
     try clear hfz14_0
     try clear hfz14_1
     try clear hfz14_2
     try clear hfz14_3
     try clear hfz14_4
     try clear hfz14_5
     try clear hfz16_0
     try clear hfz16_1
     try clear hfz16_2
     try clear hfz16_3
     try clear hfz16_4
     try clear hfz16_5
     try clear hfz19_0
     try clear hfz19_1
     try clear hfz19_2
     try clear hfz19_3
     try clear hfz19_4
     try clear hfz19_5
     try clear hfz21_0
     try clear hfz21_1
     try clear hfz21_2
     try clear hfz21_3
     try clear hfz21_4
     try clear hfz21_5
     try clear hfz23_0
     try clear hfz23_1
     try clear hfz23_2
     try clear hfz23_3
     try clear hfz23_4
     try clear hfz23_5
     try clear hfz25_0
     try clear hfz25_1
     try clear hfz25_2
     try clear hfz25_3
     try clear hfz25_4
     try clear hfz25_5
     try clear hfz27_0
     try clear hfz27_1
     try clear hfz27_2
     try clear hfz27_3
     try clear hfz27_4
     try clear hfz27_5
     try clear hfz29_0
     try clear hfz29_1
     try clear hfz29_2
     try clear hfz29_3
     try clear hfz29_4
     try clear hfz29_5
     try clear hfz31_0
     try clear hfz31_1
     try clear hfz31_2
     try clear hfz31_3
     try clear hfz31_4
     try clear hfz31_5
     try clear hfz33_0
     try clear hfz33_1
     try clear hfz33_2
     try clear hfz33_3
     try clear hfz33_4
     try clear hfz33_5
     try clear hfz35_0
     try clear hfz35_1
     try clear hfz35_2
     try clear hfz35_3
     try clear hfz35_4
     try clear hfz35_5
     try clear hfz36_0
     try clear hfz36_1
     try clear hfz36_2
     try clear hfz36_3
     try clear hfz36_4
     try clear hfz36_5
     try clear hfz38_0
     try clear hfz38_1
     try clear hfz38_2
     try clear hfz38_3
     try clear hfz38_4
     try clear hfz38_5
     try clear hfz40_0
     try clear hfz40_1
     try clear hfz40_2
     try clear hfz40_3
     try clear hfz40_4
     try clear hfz40_5
     try clear hfz41_0
     try clear hfz41_1
     try clear hfz41_2
     try clear hfz41_3
     try clear hfz41_4
     try clear hfz41_5
     try clear hfz43_0
     try clear hfz43_1
     try clear hfz43_2
     try clear hfz43_3
     try clear hfz43_4
     try clear hfz43_5
     try clear hfz45_0
     try clear hfz45_1
     try clear hfz45_2
     try clear hfz45_3
     try clear hfz45_4
     try clear hfz45_5
     try clear hfz50_0
     try clear hfz50_1
     try clear hfz50_2
     try clear hfz50_3
     try clear p2
     obtain ⟨x11_2, x386000_2, x386001_2, x386002_2, x386003_2, rfl, HA, HK2, BK381, BK385, HB⟩ := hrel
     cases gk with
     | zero => exact absurd HA.out (by simp [ridgewaylaw17_SessionLives.l0])
     | succ k2 =>
      have H := HA.out
      clear HA
      simp only [ridgewaylaw17_SessionLives.l0] at H
      by_cases c51 : x11_2 < (l3.length : Int)
      ·
       rw [if_pos c51] at H
       have c51b0 : decide (x11_2 < (l3.length : Int)) = true := decide_eq_true c51
       clear c51
       by_cases c52 : 0 ≤ x11_2
       ·
        rw [if_pos c52] at H
        have c52b0 : decide (0 ≤ x11_2) = true := decide_eq_true c52
        clear c52
        by_cases c53 : a2 = 0
        ·
         rw [if_pos c53] at H
         exact absurd H (by simp)
        ·
         rw [if_neg c53] at H
         have c53b0 : (a2 == 0) = false := beq_eq_false_iff_ne.mpr c53
         have c53b1 : (a2 != 0) = true := bne_iff_ne.mpr c53
         replace H := Option.bind_eq_some_iff.mp H
         obtain ⟨⟨t387, t388, t389, t390, t391⟩, A540, H⟩ := H
         replace H : ((session_Take.f t387 t388 t389 t390 a0_0 a0_1 a0_2 a0_3 l0_4 l0_5 a1 4 ([] : List Int)).bind fun bt395 => (if t387 = 3 then (if (bt395.2.2.2.2.1.length : Int) > 0 then (some false) else (if bt395.2.2.2.2.2 = true then (some false) else (if bt395.2.2.1 = a2 then (ridgewaylaw17_SessionLives.l0 k2 a1 a2 l3 t382 (wrap64 (x11_2 + 1)) a0_0 a0_1 a0_2 a0_3 l0_4 l0_5 bt395.1 bt395.2.1 bt395.2.2.1 bt395.2.2.2.1) else (some false)))) else (some false))) = some true := H
         have A54 := Aside0.mk A540
         clear A540
         replace H := Option.bind_eq_some_iff.mp H
         obtain ⟨⟨t395, t396, t397, t398, t399, t402⟩, A550, H⟩ := H
         replace H : (if t387 = 3 then (if (t399.length : Int) > 0 then (some false) else (if t402 = true then (some false) else (if t397 = a2 then (ridgewaylaw17_SessionLives.l0 k2 a1 a2 l3 t382 (wrap64 (x11_2 + 1)) a0_0 a0_1 a0_2 a0_3 l0_4 l0_5 t395 t396 t397 t398) else (some false)))) else (some false)) = some true := H
         have A55 := Aside0.mk A550
         clear A550
         by_cases c56 : t387 = 3
         ·
          rw [if_pos c56] at H
          have c56b0 : (t387 == 3) = true := beq_iff_eq.mpr c56
          have c56b1 : (t387 != 3) = false := bne_eq_false_iff_eq.mpr c56
          clear c56
          by_cases c57 : (t399.length : Int) > 0
          ·
           rw [if_pos c57] at H
           have c57b0 : decide (0 < (t399.length : Int)) = true := decide_eq_true c57
           have c57b1 : decide (0 < t399.length) = true := decide_eq_true (by omega)
           clear c57
           exact absurd H (by simp)
          ·
           rw [if_neg c57] at H
           have c57b0 : decide (0 < (t399.length : Int)) = false := decide_eq_false c57
           have c57b1 : decide (0 < t399.length) = false := decide_eq_false (by omega)
           clear c57
           by_cases c58 : t402 = true
           ·
            subst c58
            have H1 : (some false) = some true := by rw [if_pos rfl] at H; first | done | exact H
            clear H
            have H := H1
            clear H1
            exact absurd H (by simp)
           ·
            replace c58 := Bool.eq_false_iff.mpr c58
            subst c58
            have H1 : (if t397 = a2 then (ridgewaylaw17_SessionLives.l0 k2 a1 a2 l3 t382 (wrap64 (x11_2 + 1)) a0_0 a0_1 a0_2 a0_3 l0_4 l0_5 t395 t396 t397 t398) else (some false)) = some true := by rw [if_neg (show ¬ (false = true) by decide)] at H; first | done | exact H
            clear H
            have H := H1
            clear H1
            by_cases c59 : t397 = a2
            ·
             rw [if_pos c59] at H
             have c59b0 : (t397 == a2) = true := beq_iff_eq.mpr c59
             have c59b1 : (t397 != a2) = false := bne_eq_false_iff_eq.mpr c59
             clear c59
             have H' := Aside0.mk H
             clear H
             try go_wp2
             have n0_ := Aside0.mk (blk_drew BK381.out)
             have n1_ := Aside0.mk (blk_drew BK385.out)
             have n2_ := Aside0.mk (below_drew1 HB.out)
             clear BK381
             clear BK385
             clear HB
             have BK381 := n0_
             have BK385 := n1_
             have HB := n2_
             clear n0_ n1_ n2_
             have p386 : 0 ≤ (x11_2 : Int) := of_decide_eq_true (by first | (with_reducible assumption) | assumption)
             have q386 : x11_2 < (l3.length : Int) := of_decide_eq_true (by first | (with_reducible assumption) | assumption)
             obtain ⟨ad386, e386, hx386_0⟩ := Kd.at_int HR3.out x11_2 p386 q386
             have hw386_0 := hx386_0
             cases e386
             replace hx386_0 := cB HB.out hx386_0
             replace p386 := eq_true p386
             replace q386 := eq_true q386
             refine start_ (n := 15) (S := fun w' => w'.cell? ⟨gb385, 0, none⟩ = some (.int .i64 x386000_2) ∧ w'.cell? ⟨gb385, 1, none⟩ = some (.int .i64 x386001_2) ∧ w'.cell? ⟨gb385, 2, none⟩ = some (.int .i64 x386002_2) ∧ w'.cell? ⟨gb385, 3, none⟩ = some (.int .i64 x386003_2) ∧ w'.cell? (ad386.add (x11_2).toNat) = some (.int .i64 (rd l3 x11_2))) (ds := []) #[false, false, false, false, false, false, false, false, false, false, false, false, false, false, false] (by kernel_rfl) rfl rfl ⟨(blk_cell BK385.out 0).trans rfl, (blk_cell BK385.out 1).trans rfl, (blk_cell BK385.out 2).trans rfl, (blk_cell BK385.out 3).trans rfl, (cB HB.out hw386_0)⟩ (fun hHeld => ?_); refine with_tabW ridgewaylaw17_SessionLives.tab8 ridgewaylaw17_SessionLives.bits8 (fun HT_ HW_ => ?_)
             generalize wr.drew = w60 at BK381 BK385 HB hx386_0 hHeld ⊢
             refine pure_ (i := 1) (N := some 64) (v := ?_) (a' := ?_) #[false, true, false, false, false, false, false, false, false, false, false, false, false, false, false] rfl rfl (any_of HT_.out (by kernel_rfl)) (fun _ _ _ h => h) (Or.inl ⟨by rfl, ?_⟩) ?_ ?_
             rotate_left
             ·
              intro w'
              go_simp
              with_reducible rfl
             rotate_left
             ·
              simp only [Act.put, sA, sB, sC, i64_w, i32_w]
              rfl
             refine pure_ (i := 2) (N := some 65) (v := ?_) (a' := ?_) #[false, true, true, false, false, false, false, false, false, false, false, false, false, false, false] rfl rfl (any_of HT_.out (by kernel_rfl)) (fun _ _ _ h => h) (Or.inl ⟨by rfl, ?_⟩) ?_ ?_
             rotate_left
             ·
              intro w'
              go_simp
              with_reducible rfl
             rotate_left
             ·
              simp only [Act.put, sA, sB, sC, i64_w, i32_w]
              rfl
             refine pure_ (i := 3) (N := some 66) (v := ?_) (a' := ?_) #[false, true, true, true, false, false, false, false, false, false, false, false, false, false, false] rfl rfl (any_of HT_.out (by kernel_rfl)) (fun _ _ _ h => h) (Or.inl ⟨by rfl, ?_⟩) ?_ ?_
             rotate_left
             ·
              intro w'
              go_simp
              with_reducible rfl
             rotate_left
             ·
              simp only [Act.put, sA, sB, sC, i64_w, i32_w]
              rfl
             refine pure_ (i := 6) (N := some 69) (v := ?_) (a' := ?_) #[false, true, true, true, false, false, true, false, false, false, false, false, false, false, false] rfl rfl (any_of HT_.out (by kernel_rfl)) (fun _ _ _ h => h) (Or.inl ⟨by rfl, ?_⟩) ?_ ?_
             rotate_left
             ·
              intro w'
              go_simp
              with_reducible rfl
             rotate_left
             ·
              simp only [Act.put, sA, sB, sC, i64_w, i32_w]
              rfl
             refine take_ (i := 0) (N := some 63) (v := ?_) (a' := ?_) #[true, true, true, true, false, false, true, false, false, false, false, false, false, false, false] rfl rfl (take_ofW HT_.out HW_.out (by kernel_rfl)) (fun _ _ _ h => h) (Or.inl ⟨by rfl, ?_⟩) hHeld ?_ ?_
             rotate_left
             ·
              rintro w' ⟨s0, s1, s2, s3, s4⟩
              go_simp
              with_reducible rfl
             rotate_left
             ·
              simp only [Act.put, sA, sB, sC, i64_w, i32_w]
              rfl
             refine take_ (i := 4) (N := some 67) (v := ?_) (a' := ?_) #[true, true, true, true, true, false, true, false, false, false, false, false, false, false, false] rfl rfl (take_ofW HT_.out HW_.out (by kernel_rfl)) (fun _ _ _ h => h) (Or.inl ⟨by rfl, ?_⟩) hHeld ?_ ?_
             rotate_left
             ·
              rintro w' ⟨s0, s1, s2, s3, s4⟩
              go_simp
              with_reducible rfl
             rotate_left
             ·
              simp only [Act.put, sA, sB, sC, i64_w, i32_w]
              rfl
             refine pure_ (i := 5) (N := some 68) (v := ?_) (a' := ?_) #[true, true, true, true, true, true, true, false, false, false, false, false, false, false, false] rfl rfl (any_of HT_.out (by kernel_rfl)) (fun _ _ _ h => h) (Or.inl ⟨by rfl, ?_⟩) ?_ ?_
             rotate_left
             ·
              intro w'
              go_simp
              with_reducible rfl
             rotate_left
             ·
              simp only [Act.put, sA, sB, sC, i64_w, i32_w]
              rfl
             refine pure_ (i := 7) (N := some 70) (v := ?_) (a' := ?_) #[true, true, true, true, true, true, true, true, false, false, false, false, false, false, false] rfl rfl (any_of HT_.out (by kernel_rfl)) (fun _ _ _ h => h) (Or.inl ⟨by rfl, ?_⟩) ?_ ?_
             rotate_left
             ·
              intro w'
              go_simp
              with_reducible rfl
             rotate_left
             ·
              simp only [Act.put, sA, sB, sC, i64_w, i32_w]
              rfl
             refine join_ (σ := Value × Nat) 2 #[true, true, true, true, true, true, true, true, true, true, true, true, true, false, false] (fun s_ => [(71, .tuple #[.agg #[.int .i64 t387, .int .i64 t388, .int .i64 t389, .int .i64 t390], s_.1]), (12, .pointer (some ⟨s_.2, 0, none⟩)), (62, .tuple #[.agg #[.int .i64 t387, .int .i64 t388, .int .i64 t389, .int .i64 t390], s_.1]), (72, .agg #[.int .i64 t387, .int .i64 t388, .int .i64 t389, .int .i64 t390]), (73, s_.1)]) (fun s_ w' => (w'.cell? ⟨gb385, 0, none⟩ = some (.int .i64 x386000_2) ∧ w'.cell? ⟨gb385, 1, none⟩ = some (.int .i64 x386001_2) ∧ w'.cell? ⟨gb385, 2, none⟩ = some (.int .i64 x386002_2) ∧ w'.cell? ⟨gb385, 3, none⟩ = some (.int .i64 x386003_2) ∧ w'.cell? (ad386.add (x11_2).toNat) = some (.int .i64 (rd l3 x11_2))) ∧ (Kd.N k45 45 w' w.heap.size (fun k_ => k_ ≠ gb381 ∧ k_ ≠ gb385 ∧ k_ ≠ s_.2) s_.1 t391) ∧ (w'.heap[gb381]? = some (.cells #[.int .i64 a0_0, .int .i64 a0_1, .int .i64 a0_2, .int .i64 a0_3, .slice A0_4 l0_4.length c0_4, .slice A0_5 l0_5.length c0_5] 26 (0, 0))) ∧ (w'.heap[gb385]? = some (.cells #[.int .i64 x386000_2, .int .i64 x386001_2, .int .i64 x386002_2, .int .i64 x386003_2] 34 (0, 0))) ∧ (w'.heap[s_.2]? = some (.cells #[.int .i64 0, .int .i64 0, .int .i64 0, .int .i64 0] 34 (0, 0))) ∧ (w.heap.size ≤ s_.2) ∧ (w.heap.size ≤ s_.2) ∧ (gb381 ≠ s_.2) ∧ (s_.2 ≠ gb381) ∧ (gb385 ≠ s_.2) ∧ (s_.2 ≠ gb385) ∧ (Below w.heap.size w w')) ?_ ?_
             rotate_left
             ·
              intro hCont
              refine two_ (i := 8) (j := 12) (Ni := some 71) (Nj := some 12) #[true, true, true, true, true, true, true, true, true, false, false, false, false, false, false] #[true, true, true, true, true, true, true, true, false, false, false, false, true, false, false] rfl rfl rfl rfl (two_of HT_.out (by kernel_rfl)) (by decide) (by decide) (fun K hK => ?_) (fun K hK => ?_)
              ·
               skip
               refine goes_ Tryd.func18 (by kernel_rfl) rfl #[.agg #[.int .i64 x386000_2, .int .i64 x386001_2, .int .i64 x386002_2, .int .i64 x386003_2], .int .i64 (Int.tmod (Go.bits .and .i64 (rd l3 x11_2) 65535) a2)] (by rfl) rfl rfl (by (try simp only [List.map_toArray, List.map_cons, List.map_nil]); first | done | rfl | (simp only [List.length_drop, List.length_take]; rfl)) ?_
               with_reducible refine (session_Tick.calls k2 x386000_2 x386001_2 x386002_2 x386003_2 (Int.tmod (Go.bits .and .i64 (rd l3 x11_2) 65535) a2) t387 t388 t389 t390 t391 _ A54.out).mono ?_
               rintro e w61 ⟨v392, rfl, ho0, hb⟩
               refine ⟨_, rfl, ?_⟩
               have n0_ := Aside0.mk (Kd.N_lower (Kd.N_mono (ok' := fun k_ => k_ ≠ gb381 ∧ k_ ≠ gb385) ho0 (fun k_ hk_ => ⟨(Kd.freshB (g := gb381) (o := .cells #[.int .i64 a0_0, .int .i64 a0_1, .int .i64 a0_2, .int .i64 a0_3, .slice A0_4 l0_4.length c0_4, .slice A0_5 l0_5.length c0_5] 26 (0, 0)) (by (with_reducible repeat first | apply kN | apply kD | apply kA); exact BK381.out) k_ hk_), (Kd.freshB (g := gb385) (o := .cells #[.int .i64 x386000_2, .int .i64 x386001_2, .int .i64 x386002_2, .int .i64 x386003_2] 34 (0, 0)) (by (with_reducible repeat first | apply kN | apply kD | apply kA); exact BK385.out) k_ hk_)⟩)) (below_size (by with_reducible repeat first | exact HB.out | apply bA | apply bN | apply bD | refine bS ?_ GE381.out | refine bS ?_ GE385.out)))
               have n1_ := Aside0.mk (blk_below (g := gb381) (by (with_reducible repeat first | apply kN | apply kD | apply kA); exact BK381.out) hb)
               have n2_ := Aside0.mk (blk_below (g := gb385) (by (with_reducible repeat first | apply kN | apply kD | apply kA); exact BK385.out) hb)
               have n3_ := Aside0.mk (below_step (by with_reducible repeat first | exact HB.out | apply bA | apply bN | apply bD | refine bS ?_ GE381.out | refine bS ?_ GE385.out) hb)
               clear BK381
               clear BK385
               clear HB
               have HO393 := n0_
               have BK381 := n1_
               have BK385 := n2_
               have HB := n3_
               clear n0_ n1_ n2_ n3_
               (try clear hb)
               (try clear hb2)
               (try clear hk)
               (try clear hi)
               (try clear ho0)
               refine hK.out _ _ ⟨(blk_cell BK385.out 0).trans rfl, (blk_cell BK385.out 1).trans rfl, (blk_cell BK385.out 2).trans rfl, (blk_cell BK385.out 3).trans rfl, (cB HB.out hw386_0)⟩ (fun hHeld => ?_)
               clear hK K
               refine norm_ (a' := ?_) ?_ ?_
               rotate_left
               ·
                show Act.put _ (some 71) _ = _
                simp only [Act.put, sA, sB, sC, i64_w, i32_w]
                rfl
               refine pure_ (i := 9) (N := some 62) (v := ?_) (a' := ?_) #[true, true, true, true, true, true, true, true, true, true, false, false, false, false, false] rfl rfl (any_of HT_.out (by kernel_rfl)) (fun _ _ _ h => h) (Or.inl ⟨by rfl, ?_⟩) ?_ ?_
               rotate_left
               ·
                intro w'
                go_simp
                with_reducible rfl
               rotate_left
               ·
                simp only [Act.put, sA, sB, sC, i64_w, i32_w]
                rfl
               refine pure_ (i := 10) (N := some 72) (v := ?_) (a' := ?_) #[true, true, true, true, true, true, true, true, true, true, true, false, false, false, false] rfl rfl (any_of HT_.out (by kernel_rfl)) (fun _ _ _ h => h) (Or.inl ⟨by rfl, ?_⟩) ?_ ?_
               rotate_left
               ·
                intro w'
                go_simp
                with_reducible rfl
               rotate_left
               ·
                simp only [Act.put, sA, sB, sC, i64_w, i32_w]
                rfl
               refine pure_ (i := 11) (N := some 73) (v := ?_) (a' := ?_) #[true, true, true, true, true, true, true, true, true, true, true, true, false, false, false] rfl rfl (any_of HT_.out (by kernel_rfl)) (fun _ _ _ h => h) (Or.inl ⟨by rfl, ?_⟩) ?_ ?_
               rotate_left
               ·
                intro w'
                go_simp
                with_reducible rfl
               rotate_left
               ·
                simp only [Act.put, sA, sB, sC, i64_w, i32_w]
                rfl
               refine one_ (i := 12) (N := some 12) #[true, true, true, true, true, true, true, true, true, true, true, true, true, false, false] rfl rfl (one_of HT_.out (by kernel_rfl)) (by decide) (fun K hK => ?_)
               refine box_step ?hg (N := 12) ?hd (cs := #[.int .i64 0, .int .i64 0, .int .i64 0, .int .i64 0]) (t := 34) ?hr ?_; (case hd | hg => rfl); (case hr => first | (go_simp; done) | (go_simp; rfl))
               intro gb394 hg w62 hbox hb
               have n0_ := Aside0.mk (Kd.N_below (Kd.N_elderB (by (with_reducible repeat (first | apply Kd.N_alloc | apply Kd.N_drewN | apply Kd.N_drew)); exact HO393.out) gb394 (Nat.le_of_eq hg.symm)) hb)
               have n1_ := Aside0.mk (blk_below (g := gb381) (by (with_reducible repeat first | apply kN | apply kD | apply kA); exact BK381.out) hb)
               have n2_ := Aside0.mk (blk_below (g := gb385) (by (with_reducible repeat first | apply kN | apply kD | apply kA); exact BK385.out) hb)
               have n3_ := Aside0.mk (below_step (by with_reducible repeat first | exact HB.out | apply bA | apply bN | apply bD | refine bS ?_ GE381.out | refine bS ?_ GE385.out) hb)
               have n4_ := Aside0.mk (hbox)
               have n5_ := Aside0.mk ((by rw [hg]; exact (below_size (by with_reducible repeat first | exact HB.out | apply bA | apply bN | apply bD | refine bS ?_ GE381.out | refine bS ?_ GE385.out)) : w.heap.size ≤ gb394))
               have n6_ := Aside0.mk ((by rw [hg]; exact (below_size (by with_reducible repeat first | exact HB.out | apply bA | apply bN | apply bD | refine bS ?_ GE381.out | refine bS ?_ GE385.out)) : w.heap.size ≤ gb394))
               have n7_ := Aside0.mk ((by rw [hg]; exact Nat.ne_of_lt (blk_lt (g := gb381) (by (with_reducible repeat first | apply kN | apply kD | apply kA); exact BK381.out)) : gb381 ≠ gb394))
               have n8_ := Aside0.mk ((by rw [hg]; exact Nat.ne_of_gt (blk_lt (g := gb381) (by (with_reducible repeat first | apply kN | apply kD | apply kA); exact BK381.out)) : gb394 ≠ gb381))
               have n9_ := Aside0.mk ((by rw [hg]; exact Nat.ne_of_lt (blk_lt (g := gb385) (by (with_reducible repeat first | apply kN | apply kD | apply kA); exact BK385.out)) : gb385 ≠ gb394))
               have n10_ := Aside0.mk ((by rw [hg]; exact Nat.ne_of_gt (blk_lt (g := gb385) (by (with_reducible repeat first | apply kN | apply kD | apply kA); exact BK385.out)) : gb394 ≠ gb385))
               clear HO393
               clear BK381
               clear BK385
               clear HB
               have HO393 := n0_
               have BK381 := n1_
               have BK385 := n2_
               have HB := n3_
               have BK394 := n4_
               have GW394 := n5_
               have GE394 := n6_
               have NB381_394 := n7_
               have NB394_381 := n8_
               have NB385_394 := n9_
               have NB394_385 := n10_
               clear n0_ n1_ n2_ n3_ n4_ n5_ n6_ n7_ n8_ n9_ n10_
               clear hb hbox hg
               refine hK.out _ _ ⟨(blk_cell BK385.out 0).trans rfl, (blk_cell BK385.out 1).trans rfl, (blk_cell BK385.out 2).trans rfl, (blk_cell BK385.out 3).trans rfl, (cB HB.out hw386_0)⟩ (fun hHeld => ?_)
               clear hK K
               refine norm_ (a' := ?_) ?_ ?_
               rotate_left
               ·
                show Act.put _ (some 12) _ = _
                simp only [Act.put, sA, sB, sC, i64_w, i32_w]
                rfl
               exact norm_ (by simp only [putAll, Act.put, sA, sB, sC]) (hCont (v392, gb394) _ ⟨hHeld, (by (with_reducible repeat (first | apply Kd.N_alloc | apply Kd.N_drewN | apply Kd.N_drew)); exact Kd.N_mono HO393.out (fun _ hk => ⟨hk.1.1, ⟨hk.1.2, hk.2⟩⟩)), (by (with_reducible repeat first | apply kN | apply kD | apply kA); exact BK381.out), (by (with_reducible repeat first | apply kN | apply kD | apply kA); exact BK385.out), (by (with_reducible repeat first | apply kN | apply kD | apply kA); exact BK394.out), GW394.out, GE394.out, NB381_394.out, NB394_381.out, NB385_394.out, NB394_385.out, (by with_reducible repeat first | exact HB.out | apply bA | apply bN | apply bD | refine bS ?_ GE381.out | refine bS ?_ GE385.out | refine bS ?_ GE394.out)⟩)
              ·
               skip
               refine box_step ?hg (N := 12) ?hd (cs := #[.int .i64 0, .int .i64 0, .int .i64 0, .int .i64 0]) (t := 34) ?hr ?_; (case hd | hg => rfl); (case hr => first | (go_simp; done) | (go_simp; rfl))
               intro gb394 hg w61 hbox hb
               have n0_ := Aside0.mk (blk_below (g := gb381) (by (with_reducible repeat first | apply kN | apply kD | apply kA); exact BK381.out) hb)
               have n1_ := Aside0.mk (blk_below (g := gb385) (by (with_reducible repeat first | apply kN | apply kD | apply kA); exact BK385.out) hb)
               have n2_ := Aside0.mk (below_step (by with_reducible repeat first | exact HB.out | apply bA | apply bN | apply bD | refine bS ?_ GE381.out | refine bS ?_ GE385.out) hb)
               have n3_ := Aside0.mk (hbox)
               have n4_ := Aside0.mk ((by rw [hg]; exact (below_size (by with_reducible repeat first | exact HB.out | apply bA | apply bN | apply bD | refine bS ?_ GE381.out | refine bS ?_ GE385.out)) : w.heap.size ≤ gb394))
               have n5_ := Aside0.mk ((by rw [hg]; exact (below_size (by with_reducible repeat first | exact HB.out | apply bA | apply bN | apply bD | refine bS ?_ GE381.out | refine bS ?_ GE385.out)) : w.heap.size ≤ gb394))
               have n6_ := Aside0.mk ((by rw [hg]; exact Nat.ne_of_lt (blk_lt (g := gb381) (by (with_reducible repeat first | apply kN | apply kD | apply kA); exact BK381.out)) : gb381 ≠ gb394))
               have n7_ := Aside0.mk ((by rw [hg]; exact Nat.ne_of_gt (blk_lt (g := gb381) (by (with_reducible repeat first | apply kN | apply kD | apply kA); exact BK381.out)) : gb394 ≠ gb381))
               have n8_ := Aside0.mk ((by rw [hg]; exact Nat.ne_of_lt (blk_lt (g := gb385) (by (with_reducible repeat first | apply kN | apply kD | apply kA); exact BK385.out)) : gb385 ≠ gb394))
               have n9_ := Aside0.mk ((by rw [hg]; exact Nat.ne_of_gt (blk_lt (g := gb385) (by (with_reducible repeat first | apply kN | apply kD | apply kA); exact BK385.out)) : gb394 ≠ gb385))
               clear BK381
               clear BK385
               clear HB
               have BK381 := n0_
               have BK385 := n1_
               have HB := n2_
               have BK394 := n3_
               have GW394 := n4_
               have GE394 := n5_
               have NB381_394 := n6_
               have NB394_381 := n7_
               have NB385_394 := n8_
               have NB394_385 := n9_
               clear n0_ n1_ n2_ n3_ n4_ n5_ n6_ n7_ n8_ n9_
               clear hb hbox hg
               refine hK.out _ _ ⟨(blk_cell BK385.out 0).trans rfl, (blk_cell BK385.out 1).trans rfl, (blk_cell BK385.out 2).trans rfl, (blk_cell BK385.out 3).trans rfl, (cB HB.out hw386_0)⟩ (fun hHeld => ?_)
               clear hK K
               refine norm_ (a' := ?_) ?_ ?_
               rotate_left
               ·
                show Act.put _ (some 12) _ = _
                simp only [Act.put, sA, sB, sC, i64_w, i32_w]
                rfl
               refine one_ (i := 8) (N := some 71) #[true, true, true, true, true, true, true, true, true, false, false, false, true, false, false] rfl rfl (one_of HT_.out (by kernel_rfl)) (by decide) (fun K hK => ?_)
               refine goes_ Tryd.func18 (by kernel_rfl) rfl #[.agg #[.int .i64 x386000_2, .int .i64 x386001_2, .int .i64 x386002_2, .int .i64 x386003_2], .int .i64 (Int.tmod (Go.bits .and .i64 (rd l3 x11_2) 65535) a2)] (by rfl) rfl rfl (by (try simp only [List.map_toArray, List.map_cons, List.map_nil]); first | done | rfl | (simp only [List.length_drop, List.length_take]; rfl)) ?_
               with_reducible refine (session_Tick.calls k2 x386000_2 x386001_2 x386002_2 x386003_2 (Int.tmod (Go.bits .and .i64 (rd l3 x11_2) 65535) a2) t387 t388 t389 t390 t391 _ A54.out).mono ?_
               rintro e w62 ⟨v392, rfl, ho0, hb⟩
               refine ⟨_, rfl, ?_⟩
               have n0_ := Aside0.mk (Kd.N_lower (Kd.N_mono (ok' := fun k_ => k_ ≠ gb381 ∧ k_ ≠ gb385 ∧ k_ ≠ gb394) ho0 (fun k_ hk_ => ⟨(Kd.freshB (g := gb381) (o := .cells #[.int .i64 a0_0, .int .i64 a0_1, .int .i64 a0_2, .int .i64 a0_3, .slice A0_4 l0_4.length c0_4, .slice A0_5 l0_5.length c0_5] 26 (0, 0)) (by (with_reducible repeat first | apply kN | apply kD | apply kA); exact BK381.out) k_ hk_), (Kd.freshB (g := gb385) (o := .cells #[.int .i64 x386000_2, .int .i64 x386001_2, .int .i64 x386002_2, .int .i64 x386003_2] 34 (0, 0)) (by (with_reducible repeat first | apply kN | apply kD | apply kA); exact BK385.out) k_ hk_), (Kd.freshB (g := gb394) (o := .cells #[.int .i64 0, .int .i64 0, .int .i64 0, .int .i64 0] 34 (0, 0)) (by (with_reducible repeat first | apply kN | apply kD | apply kA); exact BK394.out) k_ hk_)⟩)) (below_size (by with_reducible repeat first | exact HB.out | apply bA | apply bN | apply bD | refine bS ?_ GE381.out | refine bS ?_ GE385.out | refine bS ?_ GE394.out)))
               have n1_ := Aside0.mk (blk_below (g := gb381) (by (with_reducible repeat first | apply kN | apply kD | apply kA); exact BK381.out) hb)
               have n2_ := Aside0.mk (blk_below (g := gb385) (by (with_reducible repeat first | apply kN | apply kD | apply kA); exact BK385.out) hb)
               have n3_ := Aside0.mk (blk_below (g := gb394) (by (with_reducible repeat first | apply kN | apply kD | apply kA); exact BK394.out) hb)
               have n4_ := Aside0.mk (below_step (by with_reducible repeat first | exact HB.out | apply bA | apply bN | apply bD | refine bS ?_ GE381.out | refine bS ?_ GE385.out | refine bS ?_ GE394.out) hb)
               clear BK381
               clear BK385
               clear BK394
               clear HB
               have HO393 := n0_
               have BK381 := n1_
               have BK385 := n2_
               have BK394 := n3_
               have HB := n4_
               clear n0_ n1_ n2_ n3_ n4_
               (try clear hb)
               (try clear hb2)
               (try clear hk)
               (try clear hi)
               (try clear ho0)
               refine hK.out _ _ ⟨(blk_cell BK385.out 0).trans rfl, (blk_cell BK385.out 1).trans rfl, (blk_cell BK385.out 2).trans rfl, (blk_cell BK385.out 3).trans rfl, (cB HB.out hw386_0)⟩ (fun hHeld => ?_)
               clear hK K
               refine norm_ (a' := ?_) ?_ ?_
               rotate_left
               ·
                show Act.put _ (some 71) _ = _
                simp only [Act.put, sA, sB, sC, i64_w, i32_w]
                rfl
               refine pure_ (i := 9) (N := some 62) (v := ?_) (a' := ?_) #[true, true, true, true, true, true, true, true, true, true, false, false, true, false, false] rfl rfl (any_of HT_.out (by kernel_rfl)) (fun _ _ _ h => h) (Or.inl ⟨by rfl, ?_⟩) ?_ ?_
               rotate_left
               ·
                intro w'
                go_simp
                with_reducible rfl
               rotate_left
               ·
                simp only [Act.put, sA, sB, sC, i64_w, i32_w]
                rfl
               refine pure_ (i := 10) (N := some 72) (v := ?_) (a' := ?_) #[true, true, true, true, true, true, true, true, true, true, true, false, true, false, false] rfl rfl (any_of HT_.out (by kernel_rfl)) (fun _ _ _ h => h) (Or.inl ⟨by rfl, ?_⟩) ?_ ?_
               rotate_left
               ·
                intro w'
                go_simp
                with_reducible rfl
               rotate_left
               ·
                simp only [Act.put, sA, sB, sC, i64_w, i32_w]
                rfl
               refine pure_ (i := 11) (N := some 73) (v := ?_) (a' := ?_) #[true, true, true, true, true, true, true, true, true, true, true, true, true, false, false] rfl rfl (any_of HT_.out (by kernel_rfl)) (fun _ _ _ h => h) (Or.inl ⟨by rfl, ?_⟩) ?_ ?_
               rotate_left
               ·
                intro w'
                go_simp
                with_reducible rfl
               rotate_left
               ·
                simp only [Act.put, sA, sB, sC, i64_w, i32_w]
                rfl
               exact norm_ (by simp only [putAll, Act.put, sA, sB, sC]) (hCont (v392, gb394) _ ⟨hHeld, (by (with_reducible repeat (first | apply Kd.N_alloc | apply Kd.N_drewN | apply Kd.N_drew)); exact HO393.out), (by (with_reducible repeat first | apply kN | apply kD | apply kA); exact BK381.out), (by (with_reducible repeat first | apply kN | apply kD | apply kA); exact BK385.out), (by (with_reducible repeat first | apply kN | apply kD | apply kA); exact BK394.out), GW394.out, GE394.out, NB381_394.out, NB394_381.out, NB385_394.out, NB394_385.out, (by with_reducible repeat first | exact HB.out | apply bA | apply bN | apply bD | refine bS ?_ GE381.out | refine bS ?_ GE385.out | refine bS ?_ GE394.out)⟩)
             rintro ⟨v392, gb394⟩ w63 ⟨hS_, h0_, h1_, h2_, h3_, h4_, h5_, h6_, h7_, h8_, h9_, h10_⟩
             have n0_ : Aside0 (Kd.N k45 45 w63 w.heap.size (fun k_ => k_ ≠ gb381 ∧ k_ ≠ gb385 ∧ k_ ≠ gb394) v392 t391) := ⟨h0_⟩
             have n1_ : Aside0 (w63.heap[gb381]? = some (.cells #[.int .i64 a0_0, .int .i64 a0_1, .int .i64 a0_2, .int .i64 a0_3, .slice A0_4 l0_4.length c0_4, .slice A0_5 l0_5.length c0_5] 26 (0, 0))) := ⟨h1_⟩
             have n2_ : Aside0 (w63.heap[gb385]? = some (.cells #[.int .i64 x386000_2, .int .i64 x386001_2, .int .i64 x386002_2, .int .i64 x386003_2] 34 (0, 0))) := ⟨h2_⟩
             have n3_ : Aside0 (w63.heap[gb394]? = some (.cells #[.int .i64 0, .int .i64 0, .int .i64 0, .int .i64 0] 34 (0, 0))) := ⟨h3_⟩
             have n4_ : Aside0 (w.heap.size ≤ gb394) := ⟨h4_⟩
             have n5_ : Aside0 (w.heap.size ≤ gb394) := ⟨h5_⟩
             have n6_ : Aside0 (gb381 ≠ gb394) := ⟨h6_⟩
             have n7_ : Aside0 (gb394 ≠ gb381) := ⟨h7_⟩
             have n8_ : Aside0 (gb385 ≠ gb394) := ⟨h8_⟩
             have n9_ : Aside0 (gb394 ≠ gb385) := ⟨h9_⟩
             have n10_ : Aside0 (Below w.heap.size w w63) := ⟨h10_⟩
             clear BK381
             clear BK385
             clear HB
             clear h0_ h1_ h2_ h3_ h4_ h5_ h6_ h7_ h8_ h9_ h10_
             have HO393 := n0_
             have BK381 := n1_
             have BK385 := n2_
             have BK394 := n3_
             have GW394 := n4_
             have GE394 := n5_
             have NB381_394 := n6_
             have NB394_381 := n7_
             have NB385_394 := n8_
             have NB394_385 := n9_
             have HB := n10_
             clear n0_ n1_ n2_ n3_ n4_ n5_ n6_ n7_ n8_ n9_ n10_
             have hHeld : w63.cell? ⟨gb385, 0, none⟩ = some (.int .i64 x386000_2) ∧ w63.cell? ⟨gb385, 1, none⟩ = some (.int .i64 x386001_2) ∧ w63.cell? ⟨gb385, 2, none⟩ = some (.int .i64 x386002_2) ∧ w63.cell? ⟨gb385, 3, none⟩ = some (.int .i64 x386003_2) ∧ w63.cell? (ad386.add (x11_2).toNat) = some (.int .i64 (rd l3 x11_2)) := hS_
             refine norm_ (a' := ?_) ?_ ?_
             rotate_left
             ·
              simp only [putAll, Act.put, sA, sB, sC]
              rfl
             refine one_ (i := 13) (N := none) #[true, true, true, true, true, true, true, true, true, true, true, true, true, true, false] rfl rfl (one_of HT_.out (by kernel_rfl)) (by decide) (fun K hK => ?_)
             have hs64 : w63.cell? ⟨gb394, 0, none⟩ = some (.int .i64 0) := (blk_cell BK394.out 0).trans rfl
             have hfs64 := blk_frozen BK394.out 0
             have hns64_0 := NB381_394.out
             have hns64_1 := NB385_394.out
             have hms64_0 := NB394_381.out
             have hms64_1 := NB394_385.out
             have hs65 : w63.cell? ⟨gb394, 1, none⟩ = some (.int .i64 0) := (blk_cell BK394.out 1).trans rfl
             have hfs65 := blk_frozen BK394.out 1
             have hns65_0 := NB381_394.out
             have hns65_1 := NB385_394.out
             have hms65_0 := NB394_381.out
             have hms65_1 := NB394_385.out
             have hs66 : w63.cell? ⟨gb394, 2, none⟩ = some (.int .i64 0) := (blk_cell BK394.out 2).trans rfl
             have hfs66 := blk_frozen BK394.out 2
             have hns66_0 := NB381_394.out
             have hns66_1 := NB385_394.out
             have hms66_0 := NB394_381.out
             have hms66_1 := NB394_385.out
             have hs67 : w63.cell? ⟨gb394, 3, none⟩ = some (.int .i64 0) := (blk_cell BK394.out 3).trans rfl
             have hfs67 := blk_frozen BK394.out 3
             have hns67_0 := NB381_394.out
             have hns67_1 := NB385_394.out
             have hms67_0 := NB394_381.out
             have hms67_1 := NB394_385.out
             refine skip_ (w1 := ?_) (by rfl) rfl ?_ ?_
             rotate_left
             ·
              go_simp
              rfl
             refine hK.out _ _ ⟨((cell_far (p := ⟨gb394, _, none⟩) NB385_394.out _).trans (((cell_far (p := ⟨gb394, _, none⟩) NB385_394.out _).trans (((cell_far (p := ⟨gb394, _, none⟩) NB385_394.out _).trans (((cell_far (p := ⟨gb394, _, none⟩) NB385_394.out _).trans (hHeld.1)))))))), ((cell_far (p := ⟨gb394, _, none⟩) NB385_394.out _).trans (((cell_far (p := ⟨gb394, _, none⟩) NB385_394.out _).trans (((cell_far (p := ⟨gb394, _, none⟩) NB385_394.out _).trans (((cell_far (p := ⟨gb394, _, none⟩) NB385_394.out _).trans (hHeld.2.1)))))))), ((cell_far (p := ⟨gb394, _, none⟩) NB385_394.out _).trans (((cell_far (p := ⟨gb394, _, none⟩) NB385_394.out _).trans (((cell_far (p := ⟨gb394, _, none⟩) NB385_394.out _).trans (((cell_far (p := ⟨gb394, _, none⟩) NB385_394.out _).trans (hHeld.2.2.1)))))))), ((cell_far (p := ⟨gb394, _, none⟩) NB385_394.out _).trans (((cell_far (p := ⟨gb394, _, none⟩) NB385_394.out _).trans (((cell_far (p := ⟨gb394, _, none⟩) NB385_394.out _).trans (((cell_far (p := ⟨gb394, _, none⟩) NB385_394.out _).trans (hHeld.2.2.2.1)))))))), ((cell_far (p := ⟨gb394, _, none⟩) (by first | exact Nat.ne_of_lt (Nat.lt_of_lt_of_le (by have := World.block_lt_of_cell? _ _ hw386_0; first | rwa [add_block] at this | exact this) GW394.out) | (rw [add_block]; exact Nat.ne_of_lt (Nat.lt_of_lt_of_le (by have := World.block_lt_of_cell? _ _ hw386_0; first | rwa [add_block] at this | exact this) GW394.out)) | (show (Addr.add _ _).block ≠ _; rw [add_block]; exact Nat.ne_of_lt (Nat.lt_of_lt_of_le (by have := World.block_lt_of_cell? _ _ hw386_0; first | rwa [add_block] at this | exact this) GW394.out)) | (dsimp only; exact Nat.ne_of_lt (Nat.lt_of_lt_of_le (by have := World.block_lt_of_cell? _ _ hw386_0; first | rwa [add_block] at this | exact this) GW394.out))) _).trans (((cell_far (p := ⟨gb394, _, none⟩) (by first | exact Nat.ne_of_lt (Nat.lt_of_lt_of_le (by have := World.block_lt_of_cell? _ _ hw386_0; first | rwa [add_block] at this | exact this) GW394.out) | (rw [add_block]; exact Nat.ne_of_lt (Nat.lt_of_lt_of_le (by have := World.block_lt_of_cell? _ _ hw386_0; first | rwa [add_block] at this | exact this) GW394.out)) | (show (Addr.add _ _).block ≠ _; rw [add_block]; exact Nat.ne_of_lt (Nat.lt_of_lt_of_le (by have := World.block_lt_of_cell? _ _ hw386_0; first | rwa [add_block] at this | exact this) GW394.out)) | (dsimp only; exact Nat.ne_of_lt (Nat.lt_of_lt_of_le (by have := World.block_lt_of_cell? _ _ hw386_0; first | rwa [add_block] at this | exact this) GW394.out))) _).trans (((cell_far (p := ⟨gb394, _, none⟩) (by first | exact Nat.ne_of_lt (Nat.lt_of_lt_of_le (by have := World.block_lt_of_cell? _ _ hw386_0; first | rwa [add_block] at this | exact this) GW394.out) | (rw [add_block]; exact Nat.ne_of_lt (Nat.lt_of_lt_of_le (by have := World.block_lt_of_cell? _ _ hw386_0; first | rwa [add_block] at this | exact this) GW394.out)) | (show (Addr.add _ _).block ≠ _; rw [add_block]; exact Nat.ne_of_lt (Nat.lt_of_lt_of_le (by have := World.block_lt_of_cell? _ _ hw386_0; first | rwa [add_block] at this | exact this) GW394.out)) | (dsimp only; exact Nat.ne_of_lt (Nat.lt_of_lt_of_le (by have := World.block_lt_of_cell? _ _ hw386_0; first | rwa [add_block] at this | exact this) GW394.out))) _).trans (((cell_far (p := ⟨gb394, _, none⟩) (by first | exact Nat.ne_of_lt (Nat.lt_of_lt_of_le (by have := World.block_lt_of_cell? _ _ hw386_0; first | rwa [add_block] at this | exact this) GW394.out) | (rw [add_block]; exact Nat.ne_of_lt (Nat.lt_of_lt_of_le (by have := World.block_lt_of_cell? _ _ hw386_0; first | rwa [add_block] at this | exact this) GW394.out)) | (show (Addr.add _ _).block ≠ _; rw [add_block]; exact Nat.ne_of_lt (Nat.lt_of_lt_of_le (by have := World.block_lt_of_cell? _ _ hw386_0; first | rwa [add_block] at this | exact this) GW394.out)) | (dsimp only; exact Nat.ne_of_lt (Nat.lt_of_lt_of_le (by have := World.block_lt_of_cell? _ _ hw386_0; first | rwa [add_block] at this | exact this) GW394.out))) _).trans (hHeld.2.2.2.2))))))))⟩ (fun hHeld => ?_)
             clear hK K
             refine pure_ (i := 14) (N := some 13) (v := ?_) (a' := ?_) #[true, true, true, true, true, true, true, true, true, true, true, true, true, true, true] rfl rfl (any_of HT_.out (by kernel_rfl)) (fun _ _ _ h => h) (Or.inl ⟨by rfl, ?_⟩) ?_ ?_
             rotate_left
             ·
              intro w'
              go_simp
              with_reducible rfl
             rotate_left
             ·
              simp only [Act.put, sA, sB, sC, i64_w, i32_w]
              rfl
             refine done_ (done_of HT_.out (by kernel_rfl)) ?_
             have hnb68 := NB394_381.out
             have hnc68 := NB381_394.out
             have hnb69 := NB394_385.out
             have hnc69 := NB385_394.out
             obtain ⟨hcz70_0, hcz70_1, hcz70_2, hcz70_3, hfz70_0, hfz70_1, hfz70_2, hfz70_3⟩ := bc4 BK394.out
             have hnb71 := NB381_385.out
             have hnc71 := NB385_381.out
             obtain ⟨hcz72_0, hcz72_1, hcz72_2, hcz72_3, hcz72_4, hcz72_5, hfz72_0, hfz72_1, hfz72_2, hfz72_3, hfz72_4, hfz72_5⟩ := bc6 BK381.out
             try go_wp2_with (first | ((with_reducible refine gate_callee (f := 16) rfl ?_); refine goesL_ (some 79) rfl rfl Tryd.func16 (by kernel_rfl) rfl #[.agg #[.int .i64 t387, .int .i64 t388, .int .i64 t389, .int .i64 t390], .agg #[.int .i64 a0_0, .int .i64 a0_1, .int .i64 a0_2, .int .i64 a0_3, .slice A0_4 l0_4.length c0_4, .slice A0_5 l0_5.length c0_5], .int .i64 a1, .agg #[.int .i64 4, .slice none 0 0]] rfl (by (try simp only [List.map_toArray, List.map_cons, List.map_nil]); first | done | rfl | (simp only [List.length_drop, List.length_take]; rfl)) ?_; (refine (session_Take.calls t387 t388 t389 t390 a0_0 a0_1 a0_2 a0_3 _ _ l0_4 _ _ l0_5 a1 4 _ _ ([] : List Int) t395 t396 t397 t398 t399 false _ ?side1 ?side2 ?side3 ?side4 ?side5 ?side6 ?side7 A55.out).mono ?_); (case side1 => exact Kd.C_below HR0_4.out (by with_reducible repeat first | exact HB.out | apply bA | apply bN | apply bD | refine bS ?_ GE381.out | refine bS ?_ GE385.out | refine bS ?_ GE394.out)); (case side2 => exact HC0_4.out); (case side3 => exact Kd.C_below HR0_5.out (by with_reducible repeat first | exact HB.out | apply bA | apply bN | apply bD | refine bS ?_ GE381.out | refine bS ?_ GE385.out | refine bS ?_ GE394.out)); (case side4 => exact HC0_5.out); (case side5 => exact Kd.C_nil _ _); (case side6 => exact Nat.le_refl _); (case side7 => exact GOK.below HG.out (by with_reducible repeat first | exact HB.out | apply bA | apply bN | apply bD | refine bS ?_ GE381.out | refine bS ?_ GE385.out | refine bS ?_ GE394.out)); rintro e w73 ⟨v400, rfl, ho0, hb⟩; refine ⟨_, rfl, ?_⟩; have n0_ := Aside0.mk (Kd.N_below (by (with_reducible repeat (first | apply Kd.N_alloc | apply Kd.N_drewN | apply Kd.N_drew)); exact (Kd.N_mono (Kd.N_far (p := ⟨gb394, 3, none⟩) (Kd.N_far (p := ⟨gb394, 2, none⟩) (Kd.N_far (p := ⟨gb394, 1, none⟩) (Kd.N_far (p := ⟨gb394, 0, none⟩) (Kd.N_mono HO393.out (fun k_ hk => (⟨hk, hk.2.2⟩ : _ ∧ k_ ≠ gb394))) (fun _ hk => hk.2) (.int .i64 t387)) (fun _ hk => hk.2) (.int .i64 t388)) (fun _ hk => hk.2) (.int .i64 t389)) (fun _ hk => hk.2) (.int .i64 t390)) (fun _ h_ => h_.1))) hb); have HO401 := Aside0.mk (Kd.V_lower (Kd.V_mono (ok' := fun k_ => some k_ ≠ (v392 : Value).ownBlock ∧ k_ ≠ gb381 ∧ k_ ≠ gb385 ∧ k_ ≠ gb394) ho0 (fun k_ hk_ => ⟨(Kd.fresh' (Kd.N_lt (by (with_reducible repeat (first | apply Kd.N_alloc | apply Kd.N_drewN | apply Kd.N_drew)); exact (Kd.N_mono (Kd.N_far (p := ⟨gb394, 3, none⟩) (Kd.N_far (p := ⟨gb394, 2, none⟩) (Kd.N_far (p := ⟨gb394, 1, none⟩) (Kd.N_far (p := ⟨gb394, 0, none⟩) (Kd.N_mono HO393.out (fun k_ hk => (⟨hk, hk.2.2⟩ : _ ∧ k_ ≠ gb394))) (fun _ hk => hk.2) (.int .i64 t387)) (fun _ hk => hk.2) (.int .i64 t388)) (fun _ hk => hk.2) (.int .i64 t389)) (fun _ hk => hk.2) (.int .i64 t390)) (fun _ h_ => h_.1)))) k_ hk_), (Kd.freshB (g := gb381) (o := .cells #[.int .i64 a0_0, .int .i64 a0_1, .int .i64 a0_2, .int .i64 a0_3, .slice A0_4 l0_4.length c0_4, .slice A0_5 l0_5.length c0_5] 26 (0, 0)) (by (with_reducible repeat first | apply kN | apply kD | apply kA); refine blk_far ?_ NB381_394.out _; (with_reducible repeat first | apply kN | apply kD | apply kA); refine blk_far ?_ NB381_394.out _; (with_reducible repeat first | apply kN | apply kD | apply kA); refine blk_far ?_ NB381_394.out _; (with_reducible repeat first | apply kN | apply kD | apply kA); refine blk_far ?_ NB381_394.out _; (with_reducible repeat first | apply kN | apply kD | apply kA); exact BK381.out) k_ hk_), (Kd.freshB (g := gb385) (o := .cells #[.int .i64 x386000_2, .int .i64 x386001_2, .int .i64 x386002_2, .int .i64 x386003_2] 34 (0, 0)) (by (with_reducible repeat first | apply kN | apply kD | apply kA); refine blk_far ?_ NB385_394.out _; (with_reducible repeat first | apply kN | apply kD | apply kA); refine blk_far ?_ NB385_394.out _; (with_reducible repeat first | apply kN | apply kD | apply kA); refine blk_far ?_ NB385_394.out _; (with_reducible repeat first | apply kN | apply kD | apply kA); refine blk_far ?_ NB385_394.out _; (with_reducible repeat first | apply kN | apply kD | apply kA); exact BK385.out) k_ hk_), (Kd.freshB (g := gb394) (o := .cells #[.int .i64 t387, .int .i64 t388, .int .i64 t389, .int .i64 t390] 34 (0, 0)) (by (with_reducible repeat first | apply kN | apply kD | apply kA); refine blk_put (cs := #[.int .i64 t387, .int .i64 t388, .int .i64 t389, .int .i64 0]) ?_ 3 _ rfl; (with_reducible repeat first | apply kN | apply kD | apply kA); refine blk_put (cs := #[.int .i64 t387, .int .i64 t388, .int .i64 0, .int .i64 0]) ?_ 2 _ rfl; (with_reducible repeat first | apply kN | apply kD | apply kA); refine blk_put (cs := #[.int .i64 t387, .int .i64 0, .int .i64 0, .int .i64 0]) ?_ 1 _ rfl; (with_reducible repeat first | apply kN | apply kD | apply kA); refine blk_put (cs := #[.int .i64 0, .int .i64 0, .int .i64 0, .int .i64 0]) ?_ 0 _ rfl; (with_reducible repeat first | apply kN | apply kD | apply kA); exact BK394.out) k_ hk_)⟩)) (below_size (by with_reducible repeat first | exact HB.out | apply bA | apply bN | apply bD | refine bS ?_ GE381.out | refine bS ?_ GE385.out | refine bS ?_ GE394.out))); have n2_ := Aside0.mk (blk_below (g := gb381) (o := .cells #[.int .i64 a0_0, .int .i64 a0_1, .int .i64 a0_2, .int .i64 a0_3, .slice A0_4 l0_4.length c0_4, .slice A0_5 l0_5.length c0_5] 26 (0, 0)) (by (with_reducible repeat first | apply kN | apply kD | apply kA); refine blk_far ?_ NB381_394.out _; (with_reducible repeat first | apply kN | apply kD | apply kA); refine blk_far ?_ NB381_394.out _; (with_reducible repeat first | apply kN | apply kD | apply kA); refine blk_far ?_ NB381_394.out _; (with_reducible repeat first | apply kN | apply kD | apply kA); refine blk_far ?_ NB381_394.out _; (with_reducible repeat first | apply kN | apply kD | apply kA); exact BK381.out) hb); have n3_ := Aside0.mk (blk_below (g := gb385) (o := .cells #[.int .i64 x386000_2, .int .i64 x386001_2, .int .i64 x386002_2, .int .i64 x386003_2] 34 (0, 0)) (by (with_reducible repeat first | apply kN | apply kD | apply kA); refine blk_far ?_ NB385_394.out _; (with_reducible repeat first | apply kN | apply kD | apply kA); refine blk_far ?_ NB385_394.out _; (with_reducible repeat first | apply kN | apply kD | apply kA); refine blk_far ?_ NB385_394.out _; (with_reducible repeat first | apply kN | apply kD | apply kA); refine blk_far ?_ NB385_394.out _; (with_reducible repeat first | apply kN | apply kD | apply kA); exact BK385.out) hb); have n4_ := Aside0.mk (blk_below (g := gb394) (o := .cells #[.int .i64 t387, .int .i64 t388, .int .i64 t389, .int .i64 t390] 34 (0, 0)) (by (with_reducible repeat first | apply kN | apply kD | apply kA); refine blk_put (cs := #[.int .i64 t387, .int .i64 t388, .int .i64 t389, .int .i64 0]) ?_ 3 _ rfl; (with_reducible repeat first | apply kN | apply kD | apply kA); refine blk_put (cs := #[.int .i64 t387, .int .i64 t388, .int .i64 0, .int .i64 0]) ?_ 2 _ rfl; (with_reducible repeat first | apply kN | apply kD | apply kA); refine blk_put (cs := #[.int .i64 t387, .int .i64 0, .int .i64 0, .int .i64 0]) ?_ 1 _ rfl; (with_reducible repeat first | apply kN | apply kD | apply kA); refine blk_put (cs := #[.int .i64 0, .int .i64 0, .int .i64 0, .int .i64 0]) ?_ 0 _ rfl; (with_reducible repeat first | apply kN | apply kD | apply kA); exact BK394.out) hb); have n5_ := Aside0.mk (below_step (by with_reducible repeat first | exact HB.out | apply bA | apply bN | apply bD | refine bS ?_ GE381.out | refine bS ?_ GE385.out | refine bS ?_ GE394.out) hb); clear HO393; clear BK381; clear BK385; clear BK394; clear HB; have HO393 := n0_; have BK381 := n2_; have BK385 := n3_; have BK394 := n4_; have HB := n5_; clear n0_ n2_ n3_ n4_ n5_; (try clear hb); (try clear hb2); (try clear hk); (try clear hi); (try clear ho0)) | ((with_reducible refine gate_dst (N := 14) rfl ?_); (try (refine gate_guard (by rfl) ?_; dsimp only)); refine box_event ?hg (N := 14) ?hd (cs := #[.int .i64 0, .int .i64 0, .int .i64 0, .int .i64 0]) (t := 34) ?hr ?_; (case hd | hg => rfl); (case hr => first | (go_simp; done) | (go_simp; rfl)); intro gb403 hg w74 hbox hb; have n0_ := Aside0.mk (Kd.N_below (Kd.N_elderB (by (with_reducible repeat (first | apply Kd.N_alloc | apply Kd.N_drewN | apply Kd.N_drew)); exact HO393.out) gb403 (Nat.le_of_eq hg.symm)) hb); have n1_ := Aside0.mk (Kd.V_below (Kd.V_elderB (by (with_reducible repeat (first | apply Kd.V_alloc | apply Kd.V_drewN | apply Kd.V_drew)); exact HO401.out) gb403 (Nat.le_of_eq hg.symm)) hb); have n2_ := Aside0.mk (blk_below (g := gb381) (by (with_reducible repeat first | apply kN | apply kD | apply kA); exact BK381.out) hb); have n3_ := Aside0.mk (blk_below (g := gb385) (by (with_reducible repeat first | apply kN | apply kD | apply kA); exact BK385.out) hb); have n4_ := Aside0.mk (blk_below (g := gb394) (by (with_reducible repeat first | apply kN | apply kD | apply kA); exact BK394.out) hb); have n5_ := Aside0.mk (below_step (by with_reducible repeat first | exact HB.out | apply bA | apply bN | apply bD | refine bS ?_ GE381.out | refine bS ?_ GE385.out | refine bS ?_ GE394.out) hb); have BK403 := Aside0.mk (hbox); have n7_ := Aside0.mk ((by rw [hg]; exact (below_size (by with_reducible repeat first | exact HB.out | apply bA | apply bN | apply bD | refine bS ?_ GE381.out | refine bS ?_ GE385.out | refine bS ?_ GE394.out)) : w.heap.size ≤ gb403)); have GE403 := n7_; have NB381_403 := Aside0.mk ((by rw [hg]; exact Nat.ne_of_lt (blk_lt (g := gb381) (by (with_reducible repeat first | apply kN | apply kD | apply kA); exact BK381.out)) : gb381 ≠ gb403)); have NB403_381 := Aside0.mk ((by rw [hg]; exact Nat.ne_of_gt (blk_lt (g := gb381) (by (with_reducible repeat first | apply kN | apply kD | apply kA); exact BK381.out)) : gb403 ≠ gb381)); have NB385_403 := Aside0.mk ((by rw [hg]; exact Nat.ne_of_lt (blk_lt (g := gb385) (by (with_reducible repeat first | apply kN | apply kD | apply kA); exact BK385.out)) : gb385 ≠ gb403)); have NB403_385 := Aside0.mk ((by rw [hg]; exact Nat.ne_of_gt (blk_lt (g := gb385) (by (with_reducible repeat first | apply kN | apply kD | apply kA); exact BK385.out)) : gb403 ≠ gb385)); have NB394_403 := Aside0.mk ((by rw [hg]; exact Nat.ne_of_lt (blk_lt (g := gb394) (by (with_reducible repeat first | apply kN | apply kD | apply kA); exact BK394.out)) : gb394 ≠ gb403)); have NB403_394 := Aside0.mk ((by rw [hg]; exact Nat.ne_of_gt (blk_lt (g := gb394) (by (with_reducible repeat first | apply kN | apply kD | apply kA); exact BK394.out)) : gb403 ≠ gb394)); clear HO393; clear HO401; clear BK381; clear BK385; clear BK394; clear HB; have HO393 := n0_; have HO401 := n1_; have BK381 := n2_; have BK385 := n3_; have BK394 := n4_; have HB := n5_; have GW403 := n7_; clear n0_ n1_ n2_ n3_ n4_ n5_ n7_; clear hb hbox hg; have hnb75 := NB403_381.out; have hnc75 := NB381_403.out; have hnb76 := NB403_385.out; have hnc76 := NB385_403.out; have hnb77 := NB403_394.out; have hnc77 := NB394_403.out; obtain ⟨hcz78_0, hcz78_1, hcz78_2, hcz78_3, hfz78_0, hfz78_1, hfz78_2, hfz78_3⟩ := bc4 BK403.out; obtain ⟨hcz79_0, hcz79_1, hcz79_2, hcz79_3, hfz79_0, hfz79_1, hfz79_2, hfz79_3⟩ := bc4 BK394.out; obtain ⟨Ao80, co80, eo80⟩ := Kd.V_slice HO401.out; subst eo80; obtain ⟨hcz81_0, hcz81_1, hcz81_2, hcz81_3, hfz81_0, hfz81_1, hfz81_2, hfz81_3⟩ := bc4 BK385.out))
             go_roundg k2
             case measure => have := HJ5.out; have := HK2.out; omega
             case rel => exact ⟨(wrap64 (x11_2 + 1)), (t395), (t396), (t397), (t398), (by first | rfl | (simp; done) | (simp [*]; done)), H', ⟨by have := HJ5.out; have := HK2.out; omega⟩, ⟨by (with_reducible repeat first | apply kN | apply kD | apply kA); refine blk_far ?_ NB381_385.out _; (with_reducible repeat first | apply kN | apply kD | apply kA); refine blk_far ?_ NB381_385.out _; (with_reducible repeat first | apply kN | apply kD | apply kA); refine blk_far ?_ NB381_385.out _; (with_reducible repeat first | apply kN | apply kD | apply kA); refine blk_far ?_ NB381_385.out _; (with_reducible repeat first | apply kN | apply kD | apply kA); refine blk_far ?_ NB381_403.out _; (with_reducible repeat first | apply kN | apply kD | apply kA); refine blk_far ?_ NB381_403.out _; (with_reducible repeat first | apply kN | apply kD | apply kA); refine blk_far ?_ NB381_403.out _; (with_reducible repeat first | apply kN | apply kD | apply kA); refine blk_far ?_ NB381_403.out _; (with_reducible repeat first | apply kN | apply kD | apply kA); exact BK381.out⟩, ⟨by (with_reducible repeat first | apply kN | apply kD | apply kA); refine blk_put (cs := #[.int .i64 t395, .int .i64 t396, .int .i64 t397, .int .i64 x386003_2]) ?_ 3 _ rfl; (with_reducible repeat first | apply kN | apply kD | apply kA); refine blk_put (cs := #[.int .i64 t395, .int .i64 t396, .int .i64 x386002_2, .int .i64 x386003_2]) ?_ 2 _ rfl; (with_reducible repeat first | apply kN | apply kD | apply kA); refine blk_put (cs := #[.int .i64 t395, .int .i64 x386001_2, .int .i64 x386002_2, .int .i64 x386003_2]) ?_ 1 _ rfl; (with_reducible repeat first | apply kN | apply kD | apply kA); refine blk_put (cs := #[.int .i64 x386000_2, .int .i64 x386001_2, .int .i64 x386002_2, .int .i64 x386003_2]) ?_ 0 _ rfl; (with_reducible repeat first | apply kN | apply kD | apply kA); refine blk_far ?_ NB385_403.out _; (with_reducible repeat first | apply kN | apply kD | apply kA); refine blk_far ?_ NB385_403.out _; (with_reducible repeat first | apply kN | apply kD | apply kA); refine blk_far ?_ NB385_403.out _; (with_reducible repeat first | apply kN | apply kD | apply kA); refine blk_far ?_ NB385_403.out _; (with_reducible repeat first | apply kN | apply kD | apply kA); exact BK385.out⟩, ⟨by with_reducible repeat first | exact HB.out | apply bA | apply bN | apply bD | refine bS ?_ GE381.out | refine bS ?_ GE385.out | refine bS ?_ GE394.out | refine bS ?_ GE403.out⟩⟩
            ·
             rw [if_neg c59] at H
             have c59b0 : (t397 == a2) = false := beq_eq_false_iff_ne.mpr c59
             have c59b1 : (t397 != a2) = true := bne_iff_ne.mpr c59
             exact absurd H (by simp)
         ·
          rw [if_neg c56] at H
          have c56b0 : (t387 == 3) = false := beq_eq_false_iff_ne.mpr c56
          have c56b1 : (t387 != 3) = true := bne_iff_ne.mpr c56
          exact absurd H (by simp)
       ·
        rw [if_neg c52] at H
        exact absurd H (by simp)
      ·
       rw [if_neg c51] at H
       have c51b0 : decide (x11_2 < (l3.length : Int)) = false := decide_eq_false c51
       clear c51
       by_cases c82 : t382 = true
       ·
        subst c82
        have H1 : (if x386000_2 = 3 then (some (x386001_2 == a2)) else (some false)) = some true := by rw [if_pos rfl] at H; first | done | exact H
        clear H
        have H := H1
        clear H1
        by_cases c83 : x386000_2 = 3
        ·
         rw [if_pos c83] at H
         have c83b0 : (x386000_2 == 3) = true := beq_iff_eq.mpr c83
         have c83b1 : (x386000_2 != 3) = false := bne_eq_false_iff_eq.mpr c83
         clear c83
         have HRL_ := Aside0.mk (Option.some.inj H)
         clear H
         have hnb84 := NB385_381.out
         have hnc84 := NB381_385.out
         obtain ⟨hcz85_0, hcz85_1, hcz85_2, hcz85_3, hfz85_0, hfz85_1, hfz85_2, hfz85_3⟩ := bc4 BK385.out
         go_wp2
         all_goals first | (go_ret; refine ⟨?_, ?_⟩; (focus (first | rfl | (simp [errW_none, errW_some] <;> rfl) | (rw [HRL_.out] <;> rfl) | (simp only [HRL_.out] <;> rfl) | (have h_ := HRL_.out; simp at h_; simp [h_]; done) | (have h_ := HRL_.out; simp [*] at h_ ⊢; done) | (simp [*, errW_none, errW_some] <;> rfl))); (focus (repeat (first | (with_reducible first | exact HB.out | apply bA | apply bN | apply bD | refine bS ?_ GE381.out | refine bS ?_ GE385.out) | exact HB.out)))) | (exfalso; simp_all; done)
        ·
         rw [if_neg c83] at H
         have c83b0 : (x386000_2 == 3) = false := beq_eq_false_iff_ne.mpr c83
         have c83b1 : (x386000_2 != 3) = true := bne_iff_ne.mpr c83
         exact absurd H (by simp)
       ·
        replace c82 := Bool.eq_false_iff.mpr c82
        subst c82
        have H1 : (some false) = some true := by rw [if_neg (show ¬ (false = true) by decide)] at H; first | done | exact H
        clear H
        have H := H1
        clear H1
        exact absurd H (by simp)

/-- THE ONE PURE STATEMENT of ridgewaylaw17_SessionLives. -/
def ridgewaylaw17_SessionLives.Pure : Prop := ∀ (x0 : S26) (a1 : Int) (a2 : Int) (l3 : List Int), (wf26 x0) → ((Lit.int .i64 a1).wf = true) → ((Lit.int .i64 a2).wf = true) → (l3.length ≤ maxLen ∧ ∀ y ∈ l3, (Lit.int .i64 y).wf = true) → ∃ k, ridgewaylaw17_SessionLives.f k (x0.f0) (x0.f1) (x0.f2) (x0.f3) (x0.f4) (x0.f5) a1 a2 l3 = some true

end Go.Proofs.YtfbndolhocojiaaDoor.L
