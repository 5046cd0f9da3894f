/- Each call of a Go function comes to what the Lean function of its name answers (written out by wip/tools/xprint.py, checked by Lean); conditions: those in each statement. -/
import Derived.Test.YtfbndolhocojiaaDoorSx0
import Derived.Test.YtfbndolhocojiaaDoorSx1
import Derived.Test.YtfbndolhocojiaaDoorSx3
import Derived.Test.YtfbndolhocojiaaDoorSx7
import Derived.Test.YtfbndolhocojiaaDoorSx9
import Derived.Test.YtfbndolhocojiaaDoorSx13
import Derived.Test.YtfbndolhocojiaaDoorSx14
import Derived.Test.YtfbndolhocojiaaDoorSx17
import Derived.Test.YtfbndolhocojiaaDoorSx18
namespace Go.Proofs.YtfbndolhocojiaaDoor.S
open Go.RowKit Go.Proofs.YtfbndolhocojiaaDoorW.PrintWords Go.Proofs.YtfbndolhocojiaaDoorW.PrintLast Go.Proofs.YtfbndolhocojiaaDoorW.PrintMore Go.Proofs.YtfbndolhocojiaaDoorW.PrintX
attribute [local go_sem] max2_int min2_int max_two min_two max_three min_three max_four min_four   -- for this text's walks alone
set_option linter.unusedVariables false
set_option linter.unusedSimpArgs false

attribute [local go_sem high] eqA34
/-! ### ridgewaylaw17_SessionDeaf: function 4 -/
mutual
def ridgewaylaw17_SessionDeaf.j0 : Nat → Int → Bool → Bool → Int → Int → Int → Int → Int → Int → Int → Int → List (S62) → List (S31) → Int → List Int → Option (Bool)
 | 0, _, _, _, _, _, _, _, _, _, _, _, _, _, _, _ => none
 | k + 1, x2, x9, x41, x441000, x441001, x441002, x441003, x442000, x442001, x442002, x442003, x442004, x442005, x443000, x443001 => if x41 = true then (some x9) else ((session_Take.f x441000 x441001 x441002 x441003 x442000 x442001 x442002 x442003 x442004 x442005 x2 x443000 x443001).bind fun bt447 => ((session_Sane.f x441000 x441001 x441002 x441003).bind fun t456 => (if t456 = true then (ridgewaylaw17_SessionDeaf.j1 k x9 bt447.2.2.2.2.1 bt447.2.2.2.2.2 (x441000 == 0) x441000 x441001 x441002 x441003 x443000 x443001 bt447.1 bt447.2.1 bt447.2.2.1 bt447.2.2.2.1) else (ridgewaylaw17_SessionDeaf.j1 k x9 bt447.2.2.2.2.1 bt447.2.2.2.2.2 true x441000 x441001 x441002 x441003 x443000 x443001 bt447.1 bt447.2.1 bt447.2.2.1 bt447.2.2.2.1))))
def ridgewaylaw17_SessionDeaf.j1 : Nat → Bool → List (S45) → Bool → Bool → Int → Int → Int → Int → Int → List Int → Int → Int → Int → Int → Option (Bool)
 | 0, _, _, _, _, _, _, _, _, _, _, _, _, _, _ => none
 | k + 1, x9, x11, x12, x59, x441000, x441001, x441002, x441003, x443000, x443001, x456000, x456001, x456002, x456003 => if x59 = true then (if x9 = true then (if (x456000 == 0 && (x456001 == 0 && (x456002 == 0 && (x456003 == 0)))) = true then (if (x11.length : Int) = 0 then (some (!x12)) else (some false)) else (some false)) else (some false)) else (if x441000 = 1 then (if x443000 = 1 then (ridgewaylaw17_SessionDeaf.j2 k x9 x11 x12 true x441000 x441001 x441002 x441003 x443000 x443001 x456000 x456001 x456002 x456003) else (if x441000 = 2 then (if x443000 = 4 then (ridgewaylaw17_SessionDeaf.j2 k x9 x11 x12 true x441000 x441001 x441002 x441003 x443000 x443001 x456000 x456001 x456002 x456003) else (if x441000 = 3 then (ridgewaylaw17_SessionDeaf.j2 k x9 x11 x12 (x443000 == 2) x441000 x441001 x441002 x441003 x443000 x443001 x456000 x456001 x456002 x456003) else (ridgewaylaw17_SessionDeaf.j2 k x9 x11 x12 false x441000 x441001 x441002 x441003 x443000 x443001 x456000 x456001 x456002 x456003))) else (if x441000 = 3 then (if x443000 = 4 then (ridgewaylaw17_SessionDeaf.j2 k x9 x11 x12 true x441000 x441001 x441002 x441003 x443000 x443001 x456000 x456001 x456002 x456003) else (ridgewaylaw17_SessionDeaf.j2 k x9 x11 x12 (x443000 == 2) x441000 x441001 x441002 x441003 x443000 x443001 x456000 x456001 x456002 x456003)) else (ridgewaylaw17_SessionDeaf.j2 k x9 x11 x12 false x441000 x441001 x441002 x441003 x443000 x443001 x456000 x456001 x456002 x456003)))) else (if x441000 = 2 then (if x443000 = 4 then (ridgewaylaw17_SessionDeaf.j2 k x9 x11 x12 true x441000 x441001 x441002 x441003 x443000 x443001 x456000 x456001 x456002 x456003) else (if x441000 = 3 then (ridgewaylaw17_SessionDeaf.j2 k x9 x11 x12 (x443000 == 2) x441000 x441001 x441002 x441003 x443000 x443001 x456000 x456001 x456002 x456003) else (ridgewaylaw17_SessionDeaf.j2 k x9 x11 x12 false x441000 x441001 x441002 x441003 x443000 x443001 x456000 x456001 x456002 x456003))) else (if x441000 = 3 then (if x443000 = 4 then (ridgewaylaw17_SessionDeaf.j2 k x9 x11 x12 true x441000 x441001 x441002 x441003 x443000 x443001 x456000 x456001 x456002 x456003) else (ridgewaylaw17_SessionDeaf.j2 k x9 x11 x12 (x443000 == 2) x441000 x441001 x441002 x441003 x443000 x443001 x456000 x456001 x456002 x456003)) else (ridgewaylaw17_SessionDeaf.j2 k x9 x11 x12 false x441000 x441001 x441002 x441003 x443000 x443001 x456000 x456001 x456002 x456003))))
def ridgewaylaw17_SessionDeaf.j2 : Nat → Bool → List (S45) → Bool → Bool → Int → Int → Int → Int → Int → List Int → Int → Int → Int → Int → Option (Bool)
 | 0, _, _, _, _, _, _, _, _, _, _, _, _, _, _ => none
 | k + 1, x9, x11, x12, x13, x441000, x441001, x441002, x441003, x443000, x443001, x456000, x456001, x456002, x456003 => if x443000 = 3 then (if x9 = true then (if (x456000 == 0 && (x456001 == 0 && (x456002 == 0 && (x456003 == 0)))) = true then (some ((x11.length : Int) == 0)) else (some false)) else (some false)) else (if x13 = true then (if x9 = true then (if x441000 = 1 then (some true) else (if x456000 = 3 then (if (x11.length : Int) = 0 then (some (x12 == (x443000 == 2))) else (some false)) else (some false))) else (some false)) else (if (x11.length : Int) = 1 then (if 0 < (x11.length : Int) then ((note_Get.f k ((rd_T45 x11 0).f0) ((rd_T45 x11 0).f1)).bind fun bt458 => (if x9 = true then (if (x456000 == 0 && (x456001 == 0 && (x456002 == 0 && (x456003 == 0)))) = true then (if bt458.2.2.2 = true then (if bt458.1 = 5 then (if bt458.2.1 = x441000 then (some (!x12)) else (some false)) else (some false)) else (some false)) else (some false)) else (some false))) else (none)) else (some false)))
end
def ridgewaylaw17_SessionDeaf.f (k : Nat) (a0_0 : Int) (a0_1 : Int) (a0_2 : Int) (a0_3 : Int) (a1_0 : Int) (a1_1 : Int) (a1_2 : Int) (a1_3 : Int) (l1_4 : List (S62)) (l1_5 : List (S31)) (a2 : Int) (a3_0 : Int) (l3_1 : List Int) : Option (Bool) := (ridgewaylaw17_awake.f).bind fun t443 => ((ridgewaylaw17_short.f k a1_0 a1_1 a1_2 a1_3 l1_4 l1_5 a3_0 l3_1).bind fun t444 => (if t444 = true then ((conf_Sane.f a1_0 a1_1 a1_2 a1_3 l1_4 l1_5).bind fun t445 => (if t445 = true then (if a2 < 0 then (ridgewaylaw17_SessionDeaf.j0 k a2 t443 true a0_0 a0_1 a0_2 a0_3 a1_0 a1_1 a1_2 a1_3 l1_4 l1_5 a3_0 l3_1) else (if a2 ≥ (l1_5.length : Int) then (ridgewaylaw17_SessionDeaf.j0 k a2 t443 true a0_0 a0_1 a0_2 a0_3 a1_0 a1_1 a1_2 a1_3 l1_4 l1_5 a3_0 l3_1) else ((msg_Sane.f a3_0 l3_1).bind fun t446 => (ridgewaylaw17_SessionDeaf.j0 k a2 t443 (!t446) a0_0 a0_1 a0_2 a0_3 a1_0 a1_1 a1_2 a1_3 l1_4 l1_5 a3_0 l3_1)))) else (ridgewaylaw17_SessionDeaf.j0 k a2 t443 true a0_0 a0_1 a0_2 a0_3 a1_0 a1_1 a1_2 a1_3 l1_4 l1_5 a3_0 l3_1))) else (ridgewaylaw17_SessionDeaf.j0 k a2 t443 true a0_0 a0_1 a0_2 a0_3 a1_0 a1_1 a1_2 a1_3 l1_4 l1_5 a3_0 l3_1)))
theorem ridgewaylaw17_SessionDeaf.mono_l : ∀ k, (∀ y0 y1 y2 y3 y4 y5 y6 y7 y8 y9 y10 y11 y12 y13 y14, LeO (ridgewaylaw17_SessionDeaf.j0 k y0 y1 y2 y3 y4 y5 y6 y7 y8 y9 y10 y11 y12 y13 y14) (ridgewaylaw17_SessionDeaf.j0 (k + 1) y0 y1 y2 y3 y4 y5 y6 y7 y8 y9 y10 y11 y12 y13 y14)) ∧ (∀ y0 y1 y2 y3 y4 y5 y6 y7 y8 y9 y10 y11 y12 y13, LeO (ridgewaylaw17_SessionDeaf.j1 k y0 y1 y2 y3 y4 y5 y6 y7 y8 y9 y10 y11 y12 y13) (ridgewaylaw17_SessionDeaf.j1 (k + 1) y0 y1 y2 y3 y4 y5 y6 y7 y8 y9 y10 y11 y12 y13)) ∧ (∀ y0 y1 y2 y3 y4 y5 y6 y7 y8 y9 y10 y11 y12 y13, LeO (ridgewaylaw17_SessionDeaf.j2 k y0 y1 y2 y3 y4 y5 y6 y7 y8 y9 y10 y11 y12 y13) (ridgewaylaw17_SessionDeaf.j2 (k + 1) y0 y1 y2 y3 y4 y5 y6 y7 y8 y9 y10 y11 y12 y13))
 | 0 => ⟨fun _ _ _ _ _ _ _ _ _ _ _ _ _ _ _ r h => by simp [ridgewaylaw17_SessionDeaf.j0] at h, fun _ _ _ _ _ _ _ _ _ _ _ _ _ _ r h => by simp [ridgewaylaw17_SessionDeaf.j1] at h, fun _ _ _ _ _ _ _ _ _ _ _ _ _ _ r h => by simp [ridgewaylaw17_SessionDeaf.j2] at h⟩
 | k + 1 => by
  obtain ⟨ih0, ih1, ih2⟩ := ridgewaylaw17_SessionDeaf.mono_l k
  refine ⟨?_, ?_, ?_⟩
  ·
   intro y0 y1 y2 y3 y4 y5 y6 y7 y8 y9 y10 y11 y12 y13 y14
   unfold ridgewaylaw17_SessionDeaf.j0
   repeat' first
   | (with_reducible exact ih0 _ _ _ _ _ _ _ _ _ _ _ _ _ _ _)
   | (with_reducible exact ih1 _ _ _ _ _ _ _ _ _ _ _ _ _ _)
   | (with_reducible exact ih2 _ _ _ _ _ _ _ _ _ _ _ _ _ _)
   | (with_reducible exact note_Get.mono _ _ _)
   | (with_reducible exact ridgewaylaw17_short.mono _ _ _ _ _ _ _ _ _)
   | (with_reducible exact LeO.refl _)
   | (with_reducible exact LeO.none _)
   | (with_reducible refine LeO.ite ?_ ?_)
   | (with_reducible refine LeO.bind ?_ (fun _ => ?_))
   | exact ih0 _ _ _ _ _ _ _ _ _ _ _ _ _ _ _
   | exact ih1 _ _ _ _ _ _ _ _ _ _ _ _ _ _
   | exact ih2 _ _ _ _ _ _ _ _ _ _ _ _ _ _
   | exact note_Get.mono _ _ _
   | exact ridgewaylaw17_short.mono _ _ _ _ _ _ _ _ _
   | exact LeO.none _
   | refine LeO.ite ?_ ?_
   | refine LeO.bind ?_ (fun _ => ?_)
  ·
   intro y0 y1 y2 y3 y4 y5 y6 y7 y8 y9 y10 y11 y12 y13
   unfold ridgewaylaw17_SessionDeaf.j1
   repeat' first
   | (with_reducible exact ih0 _ _ _ _ _ _ _ _ _ _ _ _ _ _ _)
   | (with_reducible exact ih1 _ _ _ _ _ _ _ _ _ _ _ _ _ _)
   | (with_reducible exact ih2 _ _ _ _ _ _ _ _ _ _ _ _ _ _)
   | (with_reducible exact note_Get.mono _ _ _)
   | (with_reducible exact ridgewaylaw17_short.mono _ _ _ _ _ _ _ _ _)
   | (with_reducible exact LeO.refl _)
   | (with_reducible exact LeO.none _)
   | (with_reducible refine LeO.ite ?_ ?_)
   | (with_reducible refine LeO.bind ?_ (fun _ => ?_))
   | exact ih0 _ _ _ _ _ _ _ _ _ _ _ _ _ _ _
   | exact ih1 _ _ _ _ _ _ _ _ _ _ _ _ _ _
   | exact ih2 _ _ _ _ _ _ _ _ _ _ _ _ _ _
   | exact note_Get.mono _ _ _
   | exact ridgewaylaw17_short.mono _ _ _ _ _ _ _ _ _
   | exact LeO.none _
   | refine LeO.ite ?_ ?_
   | refine LeO.bind ?_ (fun _ => ?_)
  ·
   intro y0 y1 y2 y3 y4 y5 y6 y7 y8 y9 y10 y11 y12 y13
   unfold ridgewaylaw17_SessionDeaf.j2
   repeat' first
   | (with_reducible exact ih0 _ _ _ _ _ _ _ _ _ _ _ _ _ _ _)
   | (with_reducible exact ih1 _ _ _ _ _ _ _ _ _ _ _ _ _ _)
   | (with_reducible exact ih2 _ _ _ _ _ _ _ _ _ _ _ _ _ _)
   | (with_reducible exact note_Get.mono _ _ _)
   | (with_reducible exact ridgewaylaw17_short.mono _ _ _ _ _ _ _ _ _)
   | (with_reducible exact LeO.refl _)
   | (with_reducible exact LeO.none _)
   | (with_reducible refine LeO.ite ?_ ?_)
   | (with_reducible refine LeO.bind ?_ (fun _ => ?_))
   | exact ih0 _ _ _ _ _ _ _ _ _ _ _ _ _ _ _
   | exact ih1 _ _ _ _ _ _ _ _ _ _ _ _ _ _
   | exact ih2 _ _ _ _ _ _ _ _ _ _ _ _ _ _
   | exact note_Get.mono _ _ _
   | exact ridgewaylaw17_short.mono _ _ _ _ _ _ _ _ _
   | exact LeO.none _
   | refine LeO.ite ?_ ?_
   | refine LeO.bind ?_ (fun _ => ?_)
theorem ridgewaylaw17_SessionDeaf.mono : ∀ a0 a1 a2 a3 a4 a5 a6 a7 a8 a9 a10 a11 a12 k, LeO (ridgewaylaw17_SessionDeaf.f k a0 a1 a2 a3 a4 a5 a6 a7 a8 a9 a10 a11 a12) (ridgewaylaw17_SessionDeaf.f (k + 1) a0 a1 a2 a3 a4 a5 a6 a7 a8 a9 a10 a11 a12) := by
 intro a0 a1 a2 a3 a4 a5 a6 a7 a8 a9 a10 a11 a12 k
 obtain ⟨ih0, ih1, ih2⟩ := ridgewaylaw17_SessionDeaf.mono_l k
 unfold ridgewaylaw17_SessionDeaf.f
 repeat' first
   | (with_reducible exact ih0 _ _ _ _ _ _ _ _ _ _ _ _ _ _ _)
   | (with_reducible exact ih1 _ _ _ _ _ _ _ _ _ _ _ _ _ _)
   | (with_reducible exact ih2 _ _ _ _ _ _ _ _ _ _ _ _ _ _)
   | (with_reducible exact note_Get.mono _ _ _)
   | (with_reducible exact ridgewaylaw17_short.mono _ _ _ _ _ _ _ _ _)
   | (with_reducible exact LeO.refl _)
   | (with_reducible exact LeO.none _)
   | (with_reducible refine LeO.ite ?_ ?_)
   | (with_reducible refine LeO.bind ?_ (fun _ => ?_))
   | exact ih0 _ _ _ _ _ _ _ _ _ _ _ _ _ _ _
   | exact ih1 _ _ _ _ _ _ _ _ _ _ _ _ _ _
   | exact ih2 _ _ _ _ _ _ _ _ _ _ _ _ _ _
   | exact note_Get.mono _ _ _
   | exact ridgewaylaw17_short.mono _ _ _ _ _ _ _ _ _
   | exact LeO.none _
   | refine LeO.ite ?_ ?_
   | refine LeO.bind ?_ (fun _ => ?_)
set_option maxHeartbeats 8000000 in
set_option maxRecDepth 100000 in
theorem ridgewaylaw17_SessionDeaf.calls (k : Nat) (a0_0 : Int) (a0_1 : Int) (a0_2 : Int) (a0_3 : Int) (a1_0 : Int) (a1_1 : Int) (a1_2 : Int) (a1_3 : Int) (A1_4 : Option Addr) (c1_4 : Nat) (l1_4 : List (S62)) (A1_5 : Option Addr) (c1_5 : Nat) (l1_5 : List (S31)) (a2 : Int) (a3_0 : Int) (A3_1 : Option Addr) (c3_1 : Nat) (l3_1 : List Int) (w : World) (hr1_4 : Kd.C k62 w A1_4 l1_4.length l1_4) (hc1_4 : l1_4.length ≤ c1_4) (hr1_5 : Kd.C k31 w A1_5 l1_5.length l1_5) (hc1_5 : l1_5.length ≤ c1_5) (hr3_1 : Kd.C (Kd.int .u8) w A3_1 l3_1.length l3_1) (hc3_1 : l3_1.length ≤ c3_1) (hG : GOK w) (h : ridgewaylaw17_SessionDeaf.f k a0_0 a0_1 a0_2 a0_3 a1_0 a1_1 a1_2 a1_3 l1_4 l1_5 a2 a3_0 l3_1 = some true) :
  Calls Tryd.prog 4 #[.agg #[.int .i64 a0_0, .int .i64 a0_1, .int .i64 a0_2, .int .i64 a0_3], .agg #[.int .i64 a1_0, .int .i64 a1_1, .int .i64 a1_2, .int .i64 a1_3, .slice A1_4 l1_4.length c1_4, .slice A1_5 l1_5.length c1_5], .int .i64 a2, .agg #[.int .i64 a3_0, .slice A3_1 l3_1.length c3_1]] w fun e w' => e = .returned (.bool true) ∧ Below w.heap.size w w' := by
 have hu34 := Tryd.underlying34
 have hu26 := Tryd.underlying26
 have hu45 := Tryd.underlying45
 have hu41 := Tryd.underlying41
 have HR1_4 := Aside0.mk hr1_4
 have HC1_4 := Aside0.mk hc1_4
 clear hr1_4 hc1_4
 have HR1_5 := Aside0.mk hr1_5
 have HC1_5 := Aside0.mk hc1_5
 clear hr1_5 hc1_5
 have HR3_1 := Aside0.mk hr3_1
 have HC3_1 := Aside0.mk hc3_1
 clear hr3_1 hc3_1
 have HB := Aside0.mk (Below.refl w.heap.size w)
 have HG := Aside0.mk hG
 clear hG
 have H : ((ridgewaylaw17_awake.f).bind fun t443 => ((ridgewaylaw17_short.f k a1_0 a1_1 a1_2 a1_3 l1_4 l1_5 a3_0 l3_1).bind fun t444 => (if t444 = true then ((conf_Sane.f a1_0 a1_1 a1_2 a1_3 l1_4 l1_5).bind fun t445 => (if t445 = true then (if a2 < 0 then (ridgewaylaw17_SessionDeaf.j0 k a2 t443 true a0_0 a0_1 a0_2 a0_3 a1_0 a1_1 a1_2 a1_3 l1_4 l1_5 a3_0 l3_1) else (if a2 ≥ (l1_5.length : Int) then (ridgewaylaw17_SessionDeaf.j0 k a2 t443 true a0_0 a0_1 a0_2 a0_3 a1_0 a1_1 a1_2 a1_3 l1_4 l1_5 a3_0 l3_1) else ((msg_Sane.f a3_0 l3_1).bind fun t446 => (ridgewaylaw17_SessionDeaf.j0 k a2 t443 (!t446) a0_0 a0_1 a0_2 a0_3 a1_0 a1_1 a1_2 a1_3 l1_4 l1_5 a3_0 l3_1)))) else (ridgewaylaw17_SessionDeaf.j0 k a2 t443 true a0_0 a0_1 a0_2 a0_3 a1_0 a1_1 a1_2 a1_3 l1_4 l1_5 a3_0 l3_1))) else (ridgewaylaw17_SessionDeaf.j0 k a2 t443 true a0_0 a0_1 a0_2 a0_3 a1_0 a1_1 a1_2 a1_3 l1_4 l1_5 a3_0 l3_1)))) = some true := h
 clear h
 replace H := Option.bind_eq_some_iff.mp H
 obtain ⟨t443, A50, H⟩ := H
 replace H : ((ridgewaylaw17_short.f k a1_0 a1_1 a1_2 a1_3 l1_4 l1_5 a3_0 l3_1).bind fun t444 => (if t444 = true then ((conf_Sane.f a1_0 a1_1 a1_2 a1_3 l1_4 l1_5).bind fun t445 => (if t445 = true then (if a2 < 0 then (ridgewaylaw17_SessionDeaf.j0 k a2 t443 true a0_0 a0_1 a0_2 a0_3 a1_0 a1_1 a1_2 a1_3 l1_4 l1_5 a3_0 l3_1) else (if a2 ≥ (l1_5.length : Int) then (ridgewaylaw17_SessionDeaf.j0 k a2 t443 true a0_0 a0_1 a0_2 a0_3 a1_0 a1_1 a1_2 a1_3 l1_4 l1_5 a3_0 l3_1) else ((msg_Sane.f a3_0 l3_1).bind fun t446 => (ridgewaylaw17_SessionDeaf.j0 k a2 t443 (!t446) a0_0 a0_1 a0_2 a0_3 a1_0 a1_1 a1_2 a1_3 l1_4 l1_5 a3_0 l3_1)))) else (ridgewaylaw17_SessionDeaf.j0 k a2 t443 true a0_0 a0_1 a0_2 a0_3 a1_0 a1_1 a1_2 a1_3 l1_4 l1_5 a3_0 l3_1))) else (ridgewaylaw17_SessionDeaf.j0 k a2 t443 true a0_0 a0_1 a0_2 a0_3 a1_0 a1_1 a1_2 a1_3 l1_4 l1_5 a3_0 l3_1))) = some true := H
 have A5 := Aside0.mk A50
 clear A50
 have HC6 := Aside0.mk H
 clear H
 go_enter Tryd.func4, Tryd.ntmps4
 go_upto_region 2 with (first | ((with_reducible refine gate_dst (N := 4) rfl ?_); (try (refine gate_guard (by rfl) ?_; dsimp only)); refine box_event ?hg (N := 4) ?hd (cs := #[.int .i64 a0_0, .int .i64 a0_1, .int .i64 a0_2, .int .i64 a0_3]) (t := 34) ?hr ?_; (case hd | hg => rfl); (case hr => first | (go_simp; done) | (go_simp; rfl)); intro gb440 hg w7 hbox hb; obtain ⟨hy, hz⟩ := bfst (by with_reducible repeat first | exact HB.out | apply bA | apply bN | apply bD) hb hg; replace HB := hy; have BK440 := Aside0.mk (hbox); have GE440 := hz; have GW440 := GE440; clear hy hz hb hbox hg) | ((with_reducible refine gate_dst (N := 5) rfl ?_); (try (refine gate_guard (by rfl) ?_; dsimp only)); refine box_event ?hg (N := 5) ?hd (cs := #[.int .i64 a1_0, .int .i64 a1_1, .int .i64 a1_2, .int .i64 a1_3, .slice A1_4 l1_4.length c1_4, .slice A1_5 l1_5.length c1_5]) (t := 26) ?hr ?_; (case hd | hg => rfl); (case hr => first | (go_simp; done) | (go_simp; rfl)); intro gb441 hg w8 hbox hb; have hz := bZ BK440.out (by with_reducible repeat first | apply bA | apply bN | apply bD | exact Below.refl _ _) hb; have hy := below_step hz hb; have n0_ := Aside0.mk (blk_below BK440.out hy); have n1_ := Aside0.mk (below_step HB.out hy); have BK441 := Aside0.mk (hbox); have n3_ := Aside0.mk (bge HB.out hz hg); have GE441 := n3_; obtain ⟨NB440_441, NB441_440⟩ := bne2 BK440.out hz hg; clear BK440; clear HB; have BK440 := n0_; have HB := n1_; have GW441 := n3_; clear n0_ n1_ n3_; clear hy hz hb hbox hg) | ((with_reducible refine gate_dst (N := 7) rfl ?_); (try (refine gate_guard (by rfl) ?_; dsimp only)); refine box_event ?hg (N := 7) ?hd (cs := #[.int .i64 a3_0, .slice A3_1 l3_1.length c3_1]) (t := 45) ?hr ?_; (case hd | hg => rfl); (case hr => first | (go_simp; done) | (go_simp; rfl)); intro gb442 hg w9 hbox hb; have hz := bZ BK440.out (by with_reducible repeat first | apply bA | apply bN | apply bD | exact Below.refl _ _) hb; have hy := below_step hz hb; have n0_ := Aside0.mk (blk_below BK440.out hy); have n1_ := Aside0.mk (blk_below BK441.out hy); have n2_ := Aside0.mk (below_step HB.out hy); have BK442 := Aside0.mk (hbox); have n4_ := Aside0.mk (bge HB.out hz hg); have GE442 := n4_; obtain ⟨NB440_442, NB442_440⟩ := bne2 BK440.out hz hg; obtain ⟨NB441_442, NB442_441⟩ := bne2 BK441.out hz hg; clear BK440; clear BK441; clear HB; have BK440 := n0_; have BK441 := n1_; have HB := n2_; have GW442 := n4_; clear n0_ n1_ n2_ n4_; clear hy hz hb hbox hg) | ((with_reducible refine gate_callee (f := 8) rfl ?_); refine goesL_ (some 16) rfl rfl Tryd.func8 (by kernel_rfl) rfl #[] rfl (by (try simp only [List.map_toArray, List.map_cons, List.map_nil]); first | done | rfl | (simp only [List.length_drop, List.length_take]; rfl)) ?_; (with_reducible refine (ridgewaylaw17_awake.calls  t443 _ ?side1 A5.out).mono ?_); (case side1 => exact GOK.below HG.out (by with_reducible repeat first | exact HB.out | apply bA | apply bN | apply bD | refine bS ?_ GE440.out | refine bS ?_ GE441.out | refine bS ?_ GE442.out)); rintro e w10 ⟨rfl, hb⟩; refine ⟨_, rfl, ?_⟩; have hy := bQ BK440.out (by with_reducible repeat first | apply bA | apply bN | apply bD | exact Below.refl _ _) hb; replace BK440 := Aside0.mk (blk_below BK440.out hy); replace BK441 := Aside0.mk (blk_below BK441.out hy); replace BK442 := Aside0.mk (blk_below BK442.out hy); replace HB := Aside0.mk (below_step HB.out hy); clear hy; (try clear hb); (try clear hb2); (try clear hk); (try clear hi)))
 (try simp only [Act.put, sA, sB, sC])
 go_cut [41] (fun v41 wc => ∃ (kq : Nat) (x41_5 : Bool), v41 = .bool x41_5 ∧ Aside0 (ridgewaylaw17_SessionDeaf.j0 kq a2 t443 x41_5 a0_0 a0_1 a0_2 a0_3 a1_0 a1_1 a1_2 a1_3 l1_4 l1_5 a3_0 l3_1 = some true) ∧ Aside0 (kq ≤ k) ∧ Aside0 (wc.heap[gb440]? = some (.cells #[.int .i64 a0_0, .int .i64 a0_1, .int .i64 a0_2, .int .i64 a0_3] 34 (0, 0))) ∧ Aside0 (wc.heap[gb441]? = some (.cells #[.int .i64 a1_0, .int .i64 a1_1, .int .i64 a1_2, .int .i64 a1_3, (.slice A1_4 l1_4.length c1_4), (.slice A1_5 l1_5.length c1_5)] 26 (0, 0))) ∧ Aside0 (wc.heap[gb442]? = some (.cells #[.int .i64 a3_0, (.slice A3_1 l3_1.length c3_1)] 45 (0, 0))) ∧ Aside0 (Below w.heap.size w wc))
 case first => as_aux_lemma =>
  have H := HC6.out
  clear HC6
  replace H := Option.bind_eq_some_iff.mp H
  obtain ⟨t444, A110, H⟩ := H
  replace H : (if t444 = true then ((conf_Sane.f a1_0 a1_1 a1_2 a1_3 l1_4 l1_5).bind fun t445 => (if t445 = true then (if a2 < 0 then (ridgewaylaw17_SessionDeaf.j0 k a2 t443 true a0_0 a0_1 a0_2 a0_3 a1_0 a1_1 a1_2 a1_3 l1_4 l1_5 a3_0 l3_1) else (if a2 ≥ (l1_5.length : Int) then (ridgewaylaw17_SessionDeaf.j0 k a2 t443 true a0_0 a0_1 a0_2 a0_3 a1_0 a1_1 a1_2 a1_3 l1_4 l1_5 a3_0 l3_1) else ((msg_Sane.f a3_0 l3_1).bind fun t446 => (ridgewaylaw17_SessionDeaf.j0 k a2 t443 (!t446) a0_0 a0_1 a0_2 a0_3 a1_0 a1_1 a1_2 a1_3 l1_4 l1_5 a3_0 l3_1)))) else (ridgewaylaw17_SessionDeaf.j0 k a2 t443 true a0_0 a0_1 a0_2 a0_3 a1_0 a1_1 a1_2 a1_3 l1_4 l1_5 a3_0 l3_1))) else (ridgewaylaw17_SessionDeaf.j0 k a2 t443 true a0_0 a0_1 a0_2 a0_3 a1_0 a1_1 a1_2 a1_3 l1_4 l1_5 a3_0 l3_1)) = some true := H
  have A11 := Aside0.mk A110
  clear A110
  by_cases c12 : t444 = true
  ·
   subst c12
   have H1 : ((conf_Sane.f a1_0 a1_1 a1_2 a1_3 l1_4 l1_5).bind fun t445 => (if t445 = true then (if a2 < 0 then (ridgewaylaw17_SessionDeaf.j0 k a2 t443 true a0_0 a0_1 a0_2 a0_3 a1_0 a1_1 a1_2 a1_3 l1_4 l1_5 a3_0 l3_1) else (if a2 ≥ (l1_5.length : Int) then (ridgewaylaw17_SessionDeaf.j0 k a2 t443 true a0_0 a0_1 a0_2 a0_3 a1_0 a1_1 a1_2 a1_3 l1_4 l1_5 a3_0 l3_1) else ((msg_Sane.f a3_0 l3_1).bind fun t446 => (ridgewaylaw17_SessionDeaf.j0 k a2 t443 (!t446) a0_0 a0_1 a0_2 a0_3 a1_0 a1_1 a1_2 a1_3 l1_4 l1_5 a3_0 l3_1)))) else (ridgewaylaw17_SessionDeaf.j0 k a2 t443 true a0_0 a0_1 a0_2 a0_3 a1_0 a1_1 a1_2 a1_3 l1_4 l1_5 a3_0 l3_1))) = some true := by rw [if_pos rfl] at H; first | done | exact H
   clear H
   have H := H1
   clear H1
   replace H := Option.bind_eq_some_iff.mp H
   obtain ⟨t445, A130, H⟩ := H
   replace H : (if t445 = true then (if a2 < 0 then (ridgewaylaw17_SessionDeaf.j0 k a2 t443 true a0_0 a0_1 a0_2 a0_3 a1_0 a1_1 a1_2 a1_3 l1_4 l1_5 a3_0 l3_1) else (if a2 ≥ (l1_5.length : Int) then (ridgewaylaw17_SessionDeaf.j0 k a2 t443 true a0_0 a0_1 a0_2 a0_3 a1_0 a1_1 a1_2 a1_3 l1_4 l1_5 a3_0 l3_1) else ((msg_Sane.f a3_0 l3_1).bind fun t446 => (ridgewaylaw17_SessionDeaf.j0 k a2 t443 (!t446) a0_0 a0_1 a0_2 a0_3 a1_0 a1_1 a1_2 a1_3 l1_4 l1_5 a3_0 l3_1)))) else (ridgewaylaw17_SessionDeaf.j0 k a2 t443 true a0_0 a0_1 a0_2 a0_3 a1_0 a1_1 a1_2 a1_3 l1_4 l1_5 a3_0 l3_1)) = some true := H
   have A13 := Aside0.mk A130
   clear A130
   by_cases c14 : t445 = true
   ·
    subst c14
    have H1 : (if a2 < 0 then (ridgewaylaw17_SessionDeaf.j0 k a2 t443 true a0_0 a0_1 a0_2 a0_3 a1_0 a1_1 a1_2 a1_3 l1_4 l1_5 a3_0 l3_1) else (if a2 ≥ (l1_5.length : Int) then (ridgewaylaw17_SessionDeaf.j0 k a2 t443 true a0_0 a0_1 a0_2 a0_3 a1_0 a1_1 a1_2 a1_3 l1_4 l1_5 a3_0 l3_1) else ((msg_Sane.f a3_0 l3_1).bind fun t446 => (ridgewaylaw17_SessionDeaf.j0 k a2 t443 (!t446) a0_0 a0_1 a0_2 a0_3 a1_0 a1_1 a1_2 a1_3 l1_4 l1_5 a3_0 l3_1)))) = some true := by rw [if_pos rfl] at H; first | done | exact H
    clear H
    have H := H1
    clear H1
    by_cases c15 : a2 < 0
    ·
     rw [if_pos c15] at H
     have c15b0 : decide (a2 < 0) = true := decide_eq_true c15
     clear c15
     (first | rw [c15b0] | (simp only [i64_w, i32_w]; rw [c15b0]) | rw [c15b1] | skip)
     have H' := Aside0.mk H
     clear H
     have hnb16 := NB441_440.out
     have hnc16 := NB440_441.out
     have hnb17 := NB441_442.out
     have hnc17 := NB442_441.out
     obtain ⟨hcz18_0, hcz18_1, hcz18_2, hcz18_3, hcz18_4, hcz18_5, hfz18_0, hfz18_1, hfz18_2, hfz18_3, hfz18_4, hfz18_5⟩ := bc6 BK441.out
     have hnb19 := NB442_440.out
     have hnc19 := NB440_442.out
     obtain ⟨hcz20_0, hcz20_1, hfz20_0, hfz20_1⟩ := bc2 BK442.out
     go_wp2_with (first | ((with_reducible refine gate_callee (f := 14) rfl ?_); refine goesL_ (some 19) rfl rfl Tryd.func14 (by kernel_rfl) rfl #[.agg #[.int .i64 a1_0, .int .i64 a1_1, .int .i64 a1_2, .int .i64 a1_3, .slice A1_4 l1_4.length c1_4, .slice A1_5 l1_5.length c1_5], .agg #[.int .i64 a3_0, .slice A3_1 l3_1.length c3_1]] rfl (by (try simp only [List.map_toArray, List.map_cons, List.map_nil]); first | done | rfl | (simp only [List.length_drop, List.length_take]; rfl)) ?_; (with_reducible refine (ridgewaylaw17_short.calls k a1_0 a1_1 a1_2 a1_3 _ _ l1_4 _ _ l1_5 a3_0 _ _ l3_1 true _ ?side1 ?side2 ?side3 ?side4 ?side5 ?side6 A11.out).mono ?_); (case side1 => repeat first | exact (Kd.C_below HR1_4.out HB.out) | with_reducible first | apply Kd.C_alloc | apply Kd.C_drewN | apply Kd.C_drew); (case side2 => exact HC1_4.out); (case side3 => repeat first | exact (Kd.C_below HR1_5.out HB.out) | with_reducible first | apply Kd.C_alloc | apply Kd.C_drewN | apply Kd.C_drew); (case side4 => exact HC1_5.out); (case side5 => repeat first | exact (Kd.C_below HR3_1.out HB.out) | with_reducible first | apply Kd.C_alloc | apply Kd.C_drewN | apply Kd.C_drew); (case side6 => exact HC3_1.out); rintro e w21 ⟨rfl, hb⟩; refine ⟨_, rfl, ?_⟩; have hy := bQ BK440.out (by with_reducible repeat first | apply bA | apply bN | apply bD | exact Below.refl _ _) hb; replace BK440 := Aside0.mk (blk_below BK440.out hy); replace BK441 := Aside0.mk (blk_below BK441.out hy); replace BK442 := Aside0.mk (blk_below BK442.out hy); replace HB := Aside0.mk (below_step HB.out hy); clear hy; (try clear hb); (try clear hb2); (try clear hk); (try clear hi); obtain ⟨hcz22_0, hcz22_1, hcz22_2, hcz22_3, hcz22_4, hcz22_5, hfz22_0, hfz22_1, hfz22_2, hfz22_3, hfz22_4, hfz22_5⟩ := bc6 BK441.out) | (go_at_call 10; (with_reducible refine (conf_Sane.calls a1_0 a1_1 a1_2 a1_3 _ _ l1_4 _ _ l1_5 true _ ?side1 ?side2 ?side3 ?side4 A13.out).mono ?_); (case side1 => repeat first | exact (Kd.C_below HR1_4.out HB.out) | with_reducible first | apply Kd.C_alloc | apply Kd.C_drewN | apply Kd.C_drew); (case side2 => exact HC1_4.out); (case side3 => repeat first | exact (Kd.C_below HR1_5.out HB.out) | with_reducible first | apply Kd.C_alloc | apply Kd.C_drewN | apply Kd.C_drew); (case side4 => exact HC1_5.out); rintro e w23 ⟨rfl, hb⟩; have hy := bQ BK440.out (by with_reducible repeat first | apply bA | apply bN | apply bD | exact Below.refl _ _) hb; replace BK440 := Aside0.mk (blk_below BK440.out hy); replace BK441 := Aside0.mk (blk_below BK441.out hy); replace BK442 := Aside0.mk (blk_below BK442.out hy); replace HB := Aside0.mk (below_step HB.out hy); clear hy; (try clear hb); (try clear hb2); (try clear hk); (try clear hi)))
     go_meet
     case rel => exact ⟨_, (true), (by first | rfl | (simp; done) | (simp [*]; done)), H', ⟨by first | omega | exact Nat.le_refl _⟩, ⟨by (with_reducible repeat first | apply kN | apply kD | apply kA); exact BK440.out⟩, ⟨by (with_reducible repeat first | apply kN | apply kD | apply kA); exact BK441.out⟩, ⟨by (with_reducible repeat first | apply kN | apply kD | apply kA); exact BK442.out⟩, ⟨by with_reducible repeat first | exact HB.out | apply bA | apply bN | apply bD | refine bS ?_ GE440.out | refine bS ?_ GE441.out | refine bS ?_ GE442.out⟩⟩
    ·
     rw [if_neg c15] at H
     have c15b0 : decide (a2 < 0) = false := decide_eq_false c15
     clear c15
     (first | rw [c15b0] | (simp only [i64_w, i32_w]; rw [c15b0]) | rw [c15b1] | skip)
     by_cases c24 : a2 ≥ (l1_5.length : Int)
     ·
      rw [if_pos c24] at H
      have c24b0 : decide ((l1_5.length : Int) ≤ a2) = true := decide_eq_true c24
      clear c24
      have H' := Aside0.mk H
      clear H
      have hnb25 := NB441_440.out
      have hnc25 := NB440_441.out
      have hnb26 := NB441_442.out
      have hnc26 := NB442_441.out
      obtain ⟨hcz27_0, hcz27_1, hcz27_2, hcz27_3, hcz27_4, hcz27_5, hfz27_0, hfz27_1, hfz27_2, hfz27_3, hfz27_4, hfz27_5⟩ := bc6 BK441.out
      have hnb28 := NB442_440.out
      have hnc28 := NB440_442.out
      obtain ⟨hcz29_0, hcz29_1, hfz29_0, hfz29_1⟩ := bc2 BK442.out
      go_wp2_with (first | ((with_reducible refine gate_callee (f := 14) rfl ?_); refine goesL_ (some 19) rfl rfl Tryd.func14 (by kernel_rfl) rfl #[.agg #[.int .i64 a1_0, .int .i64 a1_1, .int .i64 a1_2, .int .i64 a1_3, .slice A1_4 l1_4.length c1_4, .slice A1_5 l1_5.length c1_5], .agg #[.int .i64 a3_0, .slice A3_1 l3_1.length c3_1]] rfl (by (try simp only [List.map_toArray, List.map_cons, List.map_nil]); first | done | rfl | (simp only [List.length_drop, List.length_take]; rfl)) ?_; (with_reducible refine (ridgewaylaw17_short.calls k a1_0 a1_1 a1_2 a1_3 _ _ l1_4 _ _ l1_5 a3_0 _ _ l3_1 true _ ?side1 ?side2 ?side3 ?side4 ?side5 ?side6 A11.out).mono ?_); (case side1 => repeat first | exact (Kd.C_below HR1_4.out HB.out) | with_reducible first | apply Kd.C_alloc | apply Kd.C_drewN | apply Kd.C_drew); (case side2 => exact HC1_4.out); (case side3 => repeat first | exact (Kd.C_below HR1_5.out HB.out) | with_reducible first | apply Kd.C_alloc | apply Kd.C_drewN | apply Kd.C_drew); (case side4 => exact HC1_5.out); (case side5 => repeat first | exact (Kd.C_below HR3_1.out HB.out) | with_reducible first | apply Kd.C_alloc | apply Kd.C_drewN | apply Kd.C_drew); (case side6 => exact HC3_1.out); rintro e w30 ⟨rfl, hb⟩; refine ⟨_, rfl, ?_⟩; have hy := bQ BK440.out (by with_reducible repeat first | apply bA | apply bN | apply bD | exact Below.refl _ _) hb; replace BK440 := Aside0.mk (blk_below BK440.out hy); replace BK441 := Aside0.mk (blk_below BK441.out hy); replace BK442 := Aside0.mk (blk_below BK442.out hy); replace HB := Aside0.mk (below_step HB.out hy); clear hy; (try clear hb); (try clear hb2); (try clear hk); (try clear hi); obtain ⟨hcz31_0, hcz31_1, hcz31_2, hcz31_3, hcz31_4, hcz31_5, hfz31_0, hfz31_1, hfz31_2, hfz31_3, hfz31_4, hfz31_5⟩ := bc6 BK441.out) | (go_at_call 10; (with_reducible refine (conf_Sane.calls a1_0 a1_1 a1_2 a1_3 _ _ l1_4 _ _ l1_5 true _ ?side1 ?side2 ?side3 ?side4 A13.out).mono ?_); (case side1 => repeat first | exact (Kd.C_below HR1_4.out HB.out) | with_reducible first | apply Kd.C_alloc | apply Kd.C_drewN | apply Kd.C_drew); (case side2 => exact HC1_4.out); (case side3 => repeat first | exact (Kd.C_below HR1_5.out HB.out) | with_reducible first | apply Kd.C_alloc | apply Kd.C_drewN | apply Kd.C_drew); (case side4 => exact HC1_5.out); rintro e w32 ⟨rfl, hb⟩; have hy := bQ BK440.out (by with_reducible repeat first | apply bA | apply bN | apply bD | exact Below.refl _ _) hb; replace BK440 := Aside0.mk (blk_below BK440.out hy); replace BK441 := Aside0.mk (blk_below BK441.out hy); replace BK442 := Aside0.mk (blk_below BK442.out hy); replace HB := Aside0.mk (below_step HB.out hy); clear hy; (try clear hb); (try clear hb2); (try clear hk); (try clear hi); obtain ⟨hcz33_0, hcz33_1, hcz33_2, hcz33_3, hcz33_4, hcz33_5, hfz33_0, hfz33_1, hfz33_2, hfz33_3, hfz33_4, hfz33_5⟩ := bc6 BK441.out))
      go_meet
      case rel => exact ⟨_, (true), (by first | rfl | (simp; done) | (simp [*]; done)), H', ⟨by first | omega | exact Nat.le_refl _⟩, ⟨by (with_reducible repeat first | apply kN | apply kD | apply kA); exact BK440.out⟩, ⟨by (with_reducible repeat first | apply kN | apply kD | apply kA); exact BK441.out⟩, ⟨by (with_reducible repeat first | apply kN | apply kD | apply kA); exact BK442.out⟩, ⟨by with_reducible repeat first | exact HB.out | apply bA | apply bN | apply bD | refine bS ?_ GE440.out | refine bS ?_ GE441.out | refine bS ?_ GE442.out⟩⟩
     ·
      rw [if_neg c24] at H
      have c24b0 : decide ((l1_5.length : Int) ≤ a2) = false := decide_eq_false c24
      clear c24
      replace H := Option.bind_eq_some_iff.mp H
      obtain ⟨t446, A340, H⟩ := H
      replace H : (ridgewaylaw17_SessionDeaf.j0 k a2 t443 (!t446) a0_0 a0_1 a0_2 a0_3 a1_0 a1_1 a1_2 a1_3 l1_4 l1_5 a3_0 l3_1) = some true := H
      have A34 := Aside0.mk A340
      clear A340
      have H' := Aside0.mk H
      clear H
      have hnb35 := NB441_440.out
      have hnc35 := NB440_441.out
      have hnb36 := NB441_442.out
      have hnc36 := NB442_441.out
      obtain ⟨hcz37_0, hcz37_1, hcz37_2, hcz37_3, hcz37_4, hcz37_5, hfz37_0, hfz37_1, hfz37_2, hfz37_3, hfz37_4, hfz37_5⟩ := bc6 BK441.out
      have hnb38 := NB442_440.out
      have hnc38 := NB440_442.out
      obtain ⟨hcz39_0, hcz39_1, hfz39_0, hfz39_1⟩ := bc2 BK442.out
      go_wp2_with (first | ((with_reducible refine gate_callee (f := 14) rfl ?_); refine goesL_ (some 19) rfl rfl Tryd.func14 (by kernel_rfl) rfl #[.agg #[.int .i64 a1_0, .int .i64 a1_1, .int .i64 a1_2, .int .i64 a1_3, .slice A1_4 l1_4.length c1_4, .slice A1_5 l1_5.length c1_5], .agg #[.int .i64 a3_0, .slice A3_1 l3_1.length c3_1]] rfl (by (try simp only [List.map_toArray, List.map_cons, List.map_nil]); first | done | rfl | (simp only [List.length_drop, List.length_take]; rfl)) ?_; (with_reducible refine (ridgewaylaw17_short.calls k a1_0 a1_1 a1_2 a1_3 _ _ l1_4 _ _ l1_5 a3_0 _ _ l3_1 true _ ?side1 ?side2 ?side3 ?side4 ?side5 ?side6 A11.out).mono ?_); (case side1 => repeat first | exact (Kd.C_below HR1_4.out HB.out) | with_reducible first | apply Kd.C_alloc | apply Kd.C_drewN | apply Kd.C_drew); (case side2 => exact HC1_4.out); (case side3 => repeat first | exact (Kd.C_below HR1_5.out HB.out) | with_reducible first | apply Kd.C_alloc | apply Kd.C_drewN | apply Kd.C_drew); (case side4 => exact HC1_5.out); (case side5 => repeat first | exact (Kd.C_below HR3_1.out HB.out) | with_reducible first | apply Kd.C_alloc | apply Kd.C_drewN | apply Kd.C_drew); (case side6 => exact HC3_1.out); rintro e w40 ⟨rfl, hb⟩; refine ⟨_, rfl, ?_⟩; have hy := bQ BK440.out (by with_reducible repeat first | apply bA | apply bN | apply bD | exact Below.refl _ _) hb; replace BK440 := Aside0.mk (blk_below BK440.out hy); replace BK441 := Aside0.mk (blk_below BK441.out hy); replace BK442 := Aside0.mk (blk_below BK442.out hy); replace HB := Aside0.mk (below_step HB.out hy); clear hy; (try clear hb); (try clear hb2); (try clear hk); (try clear hi); obtain ⟨hcz41_0, hcz41_1, hcz41_2, hcz41_3, hcz41_4, hcz41_5, hfz41_0, hfz41_1, hfz41_2, hfz41_3, hfz41_4, hfz41_5⟩ := bc6 BK441.out) | (go_at_call 10; (with_reducible refine (conf_Sane.calls a1_0 a1_1 a1_2 a1_3 _ _ l1_4 _ _ l1_5 true _ ?side1 ?side2 ?side3 ?side4 A13.out).mono ?_); (case side1 => repeat first | exact (Kd.C_below HR1_4.out HB.out) | with_reducible first | apply Kd.C_alloc | apply Kd.C_drewN | apply Kd.C_drew); (case side2 => exact HC1_4.out); (case side3 => repeat first | exact (Kd.C_below HR1_5.out HB.out) | with_reducible first | apply Kd.C_alloc | apply Kd.C_drewN | apply Kd.C_drew); (case side4 => exact HC1_5.out); rintro e w42 ⟨rfl, hb⟩; have hy := bQ BK440.out (by with_reducible repeat first | apply bA | apply bN | apply bD | exact Below.refl _ _) hb; replace BK440 := Aside0.mk (blk_below BK440.out hy); replace BK441 := Aside0.mk (blk_below BK441.out hy); replace BK442 := Aside0.mk (blk_below BK442.out hy); replace HB := Aside0.mk (below_step HB.out hy); clear hy; (try clear hb); (try clear hb2); (try clear hk); (try clear hi); obtain ⟨hcz43_0, hcz43_1, hcz43_2, hcz43_3, hcz43_4, hcz43_5, hfz43_0, hfz43_1, hfz43_2, hfz43_3, hfz43_4, hfz43_5⟩ := bc6 BK441.out; obtain ⟨hcz44_0, hcz44_1, hfz44_0, hfz44_1⟩ := bc2 BK442.out) | (go_at_call 15; (with_reducible refine (msg_Sane.calls a3_0 _ _ l3_1 t446 _ ?side1 ?side2 A34.out).mono ?_); (case side1 => repeat first | exact (Kd.C_below HR3_1.out HB.out) | with_reducible first | apply Kd.C_alloc | apply Kd.C_drewN | apply Kd.C_drew); (case side2 => exact HC3_1.out); rintro e w45 ⟨rfl, hb⟩; have hy := bQ BK440.out (by with_reducible repeat first | apply bA | apply bN | apply bD | exact Below.refl _ _) hb; replace BK440 := Aside0.mk (blk_below BK440.out hy); replace BK441 := Aside0.mk (blk_below BK441.out hy); replace BK442 := Aside0.mk (blk_below BK442.out hy); replace HB := Aside0.mk (below_step HB.out hy); clear hy; (try clear hb); (try clear hb2); (try clear hk); (try clear hi)))
      go_meet
      case rel => exact ⟨_, (!t446), (by first | rfl | (simp; done) | (simp [*]; done)), H', ⟨by first | omega | exact Nat.le_refl _⟩, ⟨by (with_reducible repeat first | apply kN | apply kD | apply kA); exact BK440.out⟩, ⟨by (with_reducible repeat first | apply kN | apply kD | apply kA); exact BK441.out⟩, ⟨by (with_reducible repeat first | apply kN | apply kD | apply kA); exact BK442.out⟩, ⟨by with_reducible repeat first | exact HB.out | apply bA | apply bN | apply bD | refine bS ?_ GE440.out | refine bS ?_ GE441.out | refine bS ?_ GE442.out⟩⟩
   ·
    replace c14 := Bool.eq_false_iff.mpr c14
    subst c14
    have H1 : (ridgewaylaw17_SessionDeaf.j0 k a2 t443 true a0_0 a0_1 a0_2 a0_3 a1_0 a1_1 a1_2 a1_3 l1_4 l1_5 a3_0 l3_1) = some true := by rw [if_neg (show ¬ (false = true) by decide)] at H; first | done | exact H
    clear H
    have H := H1
    clear H1
    have H' := Aside0.mk H
    clear H
    have hnb46 := NB441_440.out
    have hnc46 := NB440_441.out
    have hnb47 := NB441_442.out
    have hnc47 := NB442_441.out
    obtain ⟨hcz48_0, hcz48_1, hcz48_2, hcz48_3, hcz48_4, hcz48_5, hfz48_0, hfz48_1, hfz48_2, hfz48_3, hfz48_4, hfz48_5⟩ := bc6 BK441.out
    have hnb49 := NB442_440.out
    have hnc49 := NB440_442.out
    obtain ⟨hcz50_0, hcz50_1, hfz50_0, hfz50_1⟩ := bc2 BK442.out
    go_wp2_with (first | ((with_reducible refine gate_callee (f := 14) rfl ?_); refine goesL_ (some 19) rfl rfl Tryd.func14 (by kernel_rfl) rfl #[.agg #[.int .i64 a1_0, .int .i64 a1_1, .int .i64 a1_2, .int .i64 a1_3, .slice A1_4 l1_4.length c1_4, .slice A1_5 l1_5.length c1_5], .agg #[.int .i64 a3_0, .slice A3_1 l3_1.length c3_1]] rfl (by (try simp only [List.map_toArray, List.map_cons, List.map_nil]); first | done | rfl | (simp only [List.length_drop, List.length_take]; rfl)) ?_; (with_reducible refine (ridgewaylaw17_short.calls k a1_0 a1_1 a1_2 a1_3 _ _ l1_4 _ _ l1_5 a3_0 _ _ l3_1 true _ ?side1 ?side2 ?side3 ?side4 ?side5 ?side6 A11.out).mono ?_); (case side1 => repeat first | exact (Kd.C_below HR1_4.out HB.out) | with_reducible first | apply Kd.C_alloc | apply Kd.C_drewN | apply Kd.C_drew); (case side2 => exact HC1_4.out); (case side3 => repeat first | exact (Kd.C_below HR1_5.out HB.out) | with_reducible first | apply Kd.C_alloc | apply Kd.C_drewN | apply Kd.C_drew); (case side4 => exact HC1_5.out); (case side5 => repeat first | exact (Kd.C_below HR3_1.out HB.out) | with_reducible first | apply Kd.C_alloc | apply Kd.C_drewN | apply Kd.C_drew); (case side6 => exact HC3_1.out); rintro e w51 ⟨rfl, hb⟩; refine ⟨_, rfl, ?_⟩; have hy := bQ BK440.out (by with_reducible repeat first | apply bA | apply bN | apply bD | exact Below.refl _ _) hb; replace BK440 := Aside0.mk (blk_below BK440.out hy); replace BK441 := Aside0.mk (blk_below BK441.out hy); replace BK442 := Aside0.mk (blk_below BK442.out hy); replace HB := Aside0.mk (below_step HB.out hy); clear hy; (try clear hb); (try clear hb2); (try clear hk); (try clear hi); obtain ⟨hcz52_0, hcz52_1, hcz52_2, hcz52_3, hcz52_4, hcz52_5, hfz52_0, hfz52_1, hfz52_2, hfz52_3, hfz52_4, hfz52_5⟩ := bc6 BK441.out) | (go_at_call 10; (with_reducible refine (conf_Sane.calls a1_0 a1_1 a1_2 a1_3 _ _ l1_4 _ _ l1_5 false _ ?side1 ?side2 ?side3 ?side4 A13.out).mono ?_); (case side1 => repeat first | exact (Kd.C_below HR1_4.out HB.out) | with_reducible first | apply Kd.C_alloc | apply Kd.C_drewN | apply Kd.C_drew); (case side2 => exact HC1_4.out); (case side3 => repeat first | exact (Kd.C_below HR1_5.out HB.out) | with_reducible first | apply Kd.C_alloc | apply Kd.C_drewN | apply Kd.C_drew); (case side4 => exact HC1_5.out); rintro e w53 ⟨rfl, hb⟩; have hy := bQ BK440.out (by with_reducible repeat first | apply bA | apply bN | apply bD | exact Below.refl _ _) hb; replace BK440 := Aside0.mk (blk_below BK440.out hy); replace BK441 := Aside0.mk (blk_below BK441.out hy); replace BK442 := Aside0.mk (blk_below BK442.out hy); replace HB := Aside0.mk (below_step HB.out hy); clear hy; (try clear hb); (try clear hb2); (try clear hk); (try clear hi)))
    go_meet
    case rel => exact ⟨_, (true), (by first | rfl | (simp; done) | (simp [*]; done)), H', ⟨by first | omega | exact Nat.le_refl _⟩, ⟨by (with_reducible repeat first | apply kN | apply kD | apply kA); exact BK440.out⟩, ⟨by (with_reducible repeat first | apply kN | apply kD | apply kA); exact BK441.out⟩, ⟨by (with_reducible repeat first | apply kN | apply kD | apply kA); exact BK442.out⟩, ⟨by with_reducible repeat first | exact HB.out | apply bA | apply bN | apply bD | refine bS ?_ GE440.out | refine bS ?_ GE441.out | refine bS ?_ GE442.out⟩⟩
  ·
   replace c12 := Bool.eq_false_iff.mpr c12
   subst c12
   have H1 : (ridgewaylaw17_SessionDeaf.j0 k a2 t443 true a0_0 a0_1 a0_2 a0_3 a1_0 a1_1 a1_2 a1_3 l1_4 l1_5 a3_0 l3_1) = some true := by rw [if_neg (show ¬ (false = true) by decide)] at H; first | done | exact H
   clear H
   have H := H1
   clear H1
   have H' := Aside0.mk H
   clear H
   have hnb54 := NB441_440.out
   have hnc54 := NB440_441.out
   have hnb55 := NB441_442.out
   have hnc55 := NB442_441.out
   obtain ⟨hcz56_0, hcz56_1, hcz56_2, hcz56_3, hcz56_4, hcz56_5, hfz56_0, hfz56_1, hfz56_2, hfz56_3, hfz56_4, hfz56_5⟩ := bc6 BK441.out
   have hnb57 := NB442_440.out
   have hnc57 := NB440_442.out
   obtain ⟨hcz58_0, hcz58_1, hfz58_0, hfz58_1⟩ := bc2 BK442.out
   go_wp2_with (first | ((with_reducible refine gate_callee (f := 14) rfl ?_); refine goesL_ (some 19) rfl rfl Tryd.func14 (by kernel_rfl) rfl #[.agg #[.int .i64 a1_0, .int .i64 a1_1, .int .i64 a1_2, .int .i64 a1_3, .slice A1_4 l1_4.length c1_4, .slice A1_5 l1_5.length c1_5], .agg #[.int .i64 a3_0, .slice A3_1 l3_1.length c3_1]] rfl (by (try simp only [List.map_toArray, List.map_cons, List.map_nil]); first | done | rfl | (simp only [List.length_drop, List.length_take]; rfl)) ?_; (with_reducible refine (ridgewaylaw17_short.calls k a1_0 a1_1 a1_2 a1_3 _ _ l1_4 _ _ l1_5 a3_0 _ _ l3_1 false _ ?side1 ?side2 ?side3 ?side4 ?side5 ?side6 A11.out).mono ?_); (case side1 => repeat first | exact (Kd.C_below HR1_4.out HB.out) | with_reducible first | apply Kd.C_alloc | apply Kd.C_drewN | apply Kd.C_drew); (case side2 => exact HC1_4.out); (case side3 => repeat first | exact (Kd.C_below HR1_5.out HB.out) | with_reducible first | apply Kd.C_alloc | apply Kd.C_drewN | apply Kd.C_drew); (case side4 => exact HC1_5.out); (case side5 => repeat first | exact (Kd.C_below HR3_1.out HB.out) | with_reducible first | apply Kd.C_alloc | apply Kd.C_drewN | apply Kd.C_drew); (case side6 => exact HC3_1.out); rintro e w59 ⟨rfl, hb⟩; refine ⟨_, rfl, ?_⟩; have hy := bQ BK440.out (by with_reducible repeat first | apply bA | apply bN | apply bD | exact Below.refl _ _) hb; replace BK440 := Aside0.mk (blk_below BK440.out hy); replace BK441 := Aside0.mk (blk_below BK441.out hy); replace BK442 := Aside0.mk (blk_below BK442.out hy); replace HB := Aside0.mk (below_step HB.out hy); clear hy; (try clear hb); (try clear hb2); (try clear hk); (try clear hi)))
   go_meet
   case rel => exact ⟨_, (true), (by first | rfl | (simp; done) | (simp [*]; done)), H', ⟨by first | omega | exact Nat.le_refl _⟩, ⟨by (with_reducible repeat first | apply kN | apply kD | apply kA); exact BK440.out⟩, ⟨by (with_reducible repeat first | apply kN | apply kD | apply kA); exact BK441.out⟩, ⟨by (with_reducible repeat first | apply kN | apply kD | apply kA); exact BK442.out⟩, ⟨by with_reducible repeat first | exact HB.out | apply bA | apply bN | apply bD | refine bS ?_ GE440.out | refine bS ?_ GE441.out | refine bS ?_ GE442.out⟩⟩
 case rest => as_aux_lemma =>
  clear HC6
  try clear c1
  try clear c2
  try clear p2
  try clear c3
  try clear c4
  try clear c5
  try clear c8
  try clear c12
  try clear c14
  try clear c15
  try clear c15b0
  try clear c15b1
  try clear c16
  try clear c17
  try clear c19
  try clear c24
  try clear c24b0
  try clear c25
  try clear c26
  try clear c28
  try clear c35
  try clear c36
  try clear c38
  try clear c46
  try clear c47
  try clear c49
  try clear c54
  try clear c55
  try clear c57
  try clear hcz18_0 hcz18_1 hcz18_2 hcz18_3 hcz18_4 hcz18_5
  try clear hcz20_0 hcz20_1
  try clear hcz22_0 hcz22_1 hcz22_2 hcz22_3 hcz22_4 hcz22_5
  try clear hcz27_0 hcz27_1 hcz27_2 hcz27_3 hcz27_4 hcz27_5
  try clear hcz29_0 hcz29_1
  try clear hcz31_0 hcz31_1 hcz31_2 hcz31_3 hcz31_4 hcz31_5
  try clear hcz33_0 hcz33_1 hcz33_2 hcz33_3 hcz33_4 hcz33_5
  try clear hcz37_0 hcz37_1 hcz37_2 hcz37_3 hcz37_4 hcz37_5
  try clear hcz39_0 hcz39_1
  try clear hcz41_0 hcz41_1 hcz41_2 hcz41_3 hcz41_4 hcz41_5
  try clear hcz43_0 hcz43_1 hcz43_2 hcz43_3 hcz43_4 hcz43_5
  try clear hcz44_0 hcz44_1
  try clear hcz48_0 hcz48_1 hcz48_2 hcz48_3 hcz48_4 hcz48_5
  try clear hcz50_0 hcz50_1
  try clear hcz52_0 hcz52_1 hcz52_2 hcz52_3 hcz52_4 hcz52_5
  try clear hcz56_0 hcz56_1 hcz56_2 hcz56_3 hcz56_4 hcz56_5
  try clear hcz58_0 hcz58_1
  try clear hfz18_0 hfz18_1 hfz18_2 hfz18_3 hfz18_4 hfz18_5
  try clear hfz20_0 hfz20_1
  try clear hfz22_0 hfz22_1 hfz22_2 hfz22_3 hfz22_4 hfz22_5
  try clear hfz27_0 hfz27_1 hfz27_2 hfz27_3 hfz27_4 hfz27_5
  try clear hfz29_0 hfz29_1
  try clear hfz31_0 hfz31_1 hfz31_2 hfz31_3 hfz31_4 hfz31_5
  try clear hfz33_0 hfz33_1 hfz33_2 hfz33_3 hfz33_4 hfz33_5
  try clear hfz37_0 hfz37_1 hfz37_2 hfz37_3 hfz37_4 hfz37_5
  try clear hfz39_0 hfz39_1
  try clear hfz41_0 hfz41_1 hfz41_2 hfz41_3 hfz41_4 hfz41_5
  try clear hfz43_0 hfz43_1 hfz43_2 hfz43_3 hfz43_4 hfz43_5
  try clear hfz44_0 hfz44_1
  try clear hfz48_0 hfz48_1 hfz48_2 hfz48_3 hfz48_4 hfz48_5
  try clear hfz50_0 hfz50_1
  try clear hfz52_0 hfz52_1 hfz52_2 hfz52_3 hfz52_4 hfz52_5
  try clear hfz56_0 hfz56_1 hfz56_2 hfz56_3 hfz56_4 hfz56_5
  try clear hfz58_0 hfz58_1
  obtain ⟨kq, x41_5, rfl, HA, HJ5, BK440, BK441, BK442, HB⟩ := hcut
  cases kq with
  | zero => exact absurd HA.out (by simp [ridgewaylaw17_SessionDeaf.j0])
  | succ kj5 =>
   have H := HA.out
   clear HA
   simp only [ridgewaylaw17_SessionDeaf.j0] at H
   by_cases c60 : x41_5 = true
   ·
    subst c60
    have H1 : (some t443) = some true := by rw [if_pos rfl] at H; first | done | exact H
    clear H
    have H := H1
    clear H1
    have HRL_ := Aside0.mk (Option.some.inj H)
    clear H
    go_wp2
    all_goals first | (go_ret; refine ⟨?_, ?_⟩; (focus (first | rfl | (simp [errW_none, errW_some] <;> rfl) | (rw [HRL_.out] <;> rfl) | (simp only [HRL_.out] <;> rfl) | (have h_ := HRL_.out; simp at h_; simp [h_]; done) | (have h_ := HRL_.out; simp [*] at h_ ⊢; done) | (simp [*, errW_none, errW_some] <;> rfl))); (focus (repeat (first | (with_reducible first | exact HB.out | apply bA | apply bN | apply bD | refine bS ?_ GE440.out | refine bS ?_ GE441.out | refine bS ?_ GE442.out) | exact HB.out)))) | (exfalso; simp_all; done)
   ·
    replace c60 := Bool.eq_false_iff.mpr c60
    subst c60
    have H1 : ((session_Take.f a0_0 a0_1 a0_2 a0_3 a1_0 a1_1 a1_2 a1_3 l1_4 l1_5 a2 a3_0 l3_1).bind fun bt447 => ((session_Sane.f a0_0 a0_1 a0_2 a0_3).bind fun t456 => (if t456 = true then (ridgewaylaw17_SessionDeaf.j1 kj5 t443 bt447.2.2.2.2.1 bt447.2.2.2.2.2 (a0_0 == 0) a0_0 a0_1 a0_2 a0_3 a3_0 l3_1 bt447.1 bt447.2.1 bt447.2.2.1 bt447.2.2.2.1) else (ridgewaylaw17_SessionDeaf.j1 kj5 t443 bt447.2.2.2.2.1 bt447.2.2.2.2.2 true a0_0 a0_1 a0_2 a0_3 a3_0 l3_1 bt447.1 bt447.2.1 bt447.2.2.1 bt447.2.2.2.1)))) = some true := by rw [if_neg (show ¬ (false = true) by decide)] at H; first | done | exact H
    clear H
    have H := H1
    clear H1
    replace H := Option.bind_eq_some_iff.mp H
    obtain ⟨⟨t447, t448, t449, t450, t451, t454⟩, A610, H⟩ := H
    replace H : ((session_Sane.f a0_0 a0_1 a0_2 a0_3).bind fun t456 => (if t456 = true then (ridgewaylaw17_SessionDeaf.j1 kj5 t443 t451 t454 (a0_0 == 0) a0_0 a0_1 a0_2 a0_3 a3_0 l3_1 t447 t448 t449 t450) else (ridgewaylaw17_SessionDeaf.j1 kj5 t443 t451 t454 true a0_0 a0_1 a0_2 a0_3 a3_0 l3_1 t447 t448 t449 t450))) = some true := H
    have A61 := Aside0.mk A610
    clear A610
    have HC62 := Aside0.mk H
    clear H
    have hnb63 := NB440_441.out
    have hnc63 := NB441_440.out
    have hnb64 := NB440_442.out
    have hnc64 := NB442_440.out
    obtain ⟨hcz65_0, hcz65_1, hcz65_2, hcz65_3, hfz65_0, hfz65_1, hfz65_2, hfz65_3⟩ := bc4 BK440.out
    have hnb66 := NB441_442.out
    have hnc66 := NB442_441.out
    obtain ⟨hcz67_0, hcz67_1, hcz67_2, hcz67_3, hcz67_4, hcz67_5, hfz67_0, hfz67_1, hfz67_2, hfz67_3, hfz67_4, hfz67_5⟩ := bc6 BK441.out
    obtain ⟨hcz68_0, hcz68_1, hfz68_0, hfz68_1⟩ := bc2 BK442.out
    go_upto_region 5 with (first | ((with_reducible refine gate_callee (f := 16) rfl ?_); refine goesL_ (some 48) rfl rfl Tryd.func16 (by kernel_rfl) rfl #[.agg #[.int .i64 a0_0, .int .i64 a0_1, .int .i64 a0_2, .int .i64 a0_3], .agg #[.int .i64 a1_0, .int .i64 a1_1, .int .i64 a1_2, .int .i64 a1_3, .slice A1_4 l1_4.length c1_4, .slice A1_5 l1_5.length c1_5], .int .i64 a2, .agg #[.int .i64 a3_0, .slice A3_1 l3_1.length c3_1]] rfl (by (try simp only [List.map_toArray, List.map_cons, List.map_nil]); first | done | rfl | (simp only [List.length_drop, List.length_take]; rfl)) ?_; (with_reducible refine (session_Take.calls a0_0 a0_1 a0_2 a0_3 a1_0 a1_1 a1_2 a1_3 _ _ l1_4 _ _ l1_5 a2 a3_0 _ _ l3_1 t447 t448 t449 t450 t451 t454 _ ?side1 ?side2 ?side3 ?side4 ?side5 ?side6 ?side7 A61.out).mono ?_); (case side1 => repeat first | exact (Kd.C_below HR1_4.out HB.out) | with_reducible first | apply Kd.C_alloc | apply Kd.C_drewN | apply Kd.C_drew); (case side2 => exact HC1_4.out); (case side3 => repeat first | exact (Kd.C_below HR1_5.out HB.out) | with_reducible first | apply Kd.C_alloc | apply Kd.C_drewN | apply Kd.C_drew); (case side4 => exact HC1_5.out); (case side5 => repeat first | exact (Kd.C_below HR3_1.out HB.out) | with_reducible first | apply Kd.C_alloc | apply Kd.C_drewN | apply Kd.C_drew); (case side6 => exact HC3_1.out); (case side7 => exact GOK.below HG.out (by with_reducible repeat first | exact HB.out | apply bA | apply bN | apply bD | refine bS ?_ GE440.out | refine bS ?_ GE441.out | refine bS ?_ GE442.out)); rintro e w69 ⟨v452, rfl, ho0, hb⟩; refine ⟨_, rfl, ?_⟩; have HO453 := Aside0.mk (Kd.V_lower (Kd.V_mono (ok' := fun k_ => k_ ≠ gb440 ∧ k_ ≠ gb441 ∧ k_ ≠ gb442) ho0 (fun k_ hk_ => ⟨(Kd.freshB (g := gb440) (o := .cells #[.int .i64 a0_0, .int .i64 a0_1, .int .i64 a0_2, .int .i64 a0_3] 34 (0, 0)) (by (with_reducible repeat first | apply kN | apply kD | apply kA); exact BK440.out) k_ hk_), (Kd.freshB (g := gb441) (o := .cells #[.int .i64 a1_0, .int .i64 a1_1, .int .i64 a1_2, .int .i64 a1_3, .slice A1_4 l1_4.length c1_4, .slice A1_5 l1_5.length c1_5] 26 (0, 0)) (by (with_reducible repeat first | apply kN | apply kD | apply kA); exact BK441.out) k_ hk_), (Kd.freshB (g := gb442) (o := .cells #[.int .i64 a3_0, .slice A3_1 l3_1.length c3_1] 45 (0, 0)) (by (with_reducible repeat first | apply kN | apply kD | apply kA); exact BK442.out) k_ hk_)⟩)) (below_size (by with_reducible repeat first | exact HB.out | apply bA | apply bN | apply bD | refine bS ?_ GE440.out | refine bS ?_ GE441.out | refine bS ?_ GE442.out))); have hy := bQ BK440.out (by with_reducible repeat first | apply bA | apply bN | apply bD | exact Below.refl _ _) hb; replace BK440 := Aside0.mk (blk_below BK440.out hy); replace BK441 := Aside0.mk (blk_below BK441.out hy); replace BK442 := Aside0.mk (blk_below BK442.out hy); replace HB := Aside0.mk (below_step HB.out hy); clear hy; (try clear hb); (try clear hb2); (try clear hk); (try clear hi); (try clear ho0)) | ((with_reducible refine gate_dst (N := 10) rfl ?_); (try (refine gate_guard (by rfl) ?_; dsimp only)); refine box_event ?hg (N := 10) ?hd (cs := #[.int .i64 0, .int .i64 0, .int .i64 0, .int .i64 0]) (t := 34) ?hr ?_; (case hd | hg => rfl); (case hr => first | (go_simp; done) | (go_simp; rfl)); intro gb455 hg w70 hbox hb; have hz := bZ BK440.out (by with_reducible repeat first | apply bA | apply bN | apply bD | exact Below.refl _ _) hb; have hy := below_step hz hb; have n0_ := Aside0.mk (Kd.V_below (Kd.V_elderB (by (with_reducible repeat (first | apply Kd.V_alloc | apply Kd.V_drewN | apply Kd.V_drew)); exact HO453.out) gb455 (Nat.le_of_eq hg.symm)) hb); have n1_ := Aside0.mk (blk_below BK440.out hy); have n2_ := Aside0.mk (blk_below BK441.out hy); have n3_ := Aside0.mk (blk_below BK442.out hy); have n4_ := Aside0.mk (below_step HB.out hy); have BK455 := Aside0.mk (hbox); have n6_ := Aside0.mk (bge HB.out hz hg); have GE455 := n6_; obtain ⟨NB440_455, NB455_440⟩ := bne2 BK440.out hz hg; obtain ⟨NB441_455, NB455_441⟩ := bne2 BK441.out hz hg; obtain ⟨NB442_455, NB455_442⟩ := bne2 BK442.out hz hg; clear HO453; clear BK440; clear BK441; clear BK442; clear HB; have HO453 := n0_; have BK440 := n1_; have BK441 := n2_; have BK442 := n3_; have HB := n4_; have GW455 := n6_; clear n0_ n1_ n2_ n3_ n4_ n6_; clear hy hz hb hbox hg; have hnb71 := NB455_440.out; have hnc71 := NB440_455.out; have hnb72 := NB455_441.out; have hnc72 := NB441_455.out; have hnb73 := NB455_442.out; have hnc73 := NB442_455.out; obtain ⟨hcz74_0, hcz74_1, hcz74_2, hcz74_3, hfz74_0, hfz74_1, hfz74_2, hfz74_3⟩ := bc4 BK455.out))
    (try simp only [Act.put, sA, sB, sC])
    go_cut [59] (fun v59 wc => ∃ (kq : Nat) (x59_61 : Bool), v59 = .bool x59_61 ∧ Aside0 (ridgewaylaw17_SessionDeaf.j1 kq t443 t451 t454 x59_61 a0_0 a0_1 a0_2 a0_3 a3_0 l3_1 t447 t448 t449 t450 = some true) ∧ Aside0 (kq ≤ kj5) ∧ Aside0 (Kd.V k45 45 wc w.heap.size (fun k_ => k_ ≠ gb440 ∧ k_ ≠ gb441 ∧ k_ ≠ gb442 ∧ k_ ≠ gb455) v452 t451) ∧ Aside0 (wc.heap[gb440]? = some (.cells #[.int .i64 a0_0, .int .i64 a0_1, .int .i64 a0_2, .int .i64 a0_3] 34 (0, 0))) ∧ Aside0 (wc.heap[gb441]? = some (.cells #[.int .i64 a1_0, .int .i64 a1_1, .int .i64 a1_2, .int .i64 a1_3, (.slice A1_4 l1_4.length c1_4), (.slice A1_5 l1_5.length c1_5)] 26 (0, 0))) ∧ Aside0 (wc.heap[gb442]? = some (.cells #[.int .i64 a3_0, (.slice A3_1 l3_1.length c3_1)] 45 (0, 0))) ∧ Aside0 (wc.heap[gb455]? = some (.cells #[.int .i64 t447, .int .i64 t448, .int .i64 t449, .int .i64 t450] 34 (0, 0))) ∧ Aside0 (Below w.heap.size w wc))
    case first => as_aux_lemma =>
     have H := HC62.out
     clear HC62
     replace H := Option.bind_eq_some_iff.mp H
     obtain ⟨t456, A750, H⟩ := H
     replace H : (if t456 = true then (ridgewaylaw17_SessionDeaf.j1 kj5 t443 t451 t454 (a0_0 == 0) a0_0 a0_1 a0_2 a0_3 a3_0 l3_1 t447 t448 t449 t450) else (ridgewaylaw17_SessionDeaf.j1 kj5 t443 t451 t454 true a0_0 a0_1 a0_2 a0_3 a3_0 l3_1 t447 t448 t449 t450)) = some true := H
     have A75 := Aside0.mk A750
     clear A750
     by_cases c76 : t456 = true
     ·
      subst c76
      have H1 : (ridgewaylaw17_SessionDeaf.j1 kj5 t443 t451 t454 (a0_0 == 0) a0_0 a0_1 a0_2 a0_3 a3_0 l3_1 t447 t448 t449 t450) = some true := by rw [if_pos rfl] at H; first | done | exact H
      clear H
      have H := H1
      clear H1
      have H' := Aside0.mk H
      clear H
      have hnb77 := NB440_441.out
      have hnc77 := NB441_440.out
      have hnb78 := NB440_442.out
      have hnc78 := NB442_440.out
      have hnb79 := NB440_455.out
      have hnc79 := NB455_440.out
      obtain ⟨hcz80_0, hcz80_1, hcz80_2, hcz80_3, hfz80_0, hfz80_1, hfz80_2, hfz80_3⟩ := bc4 BK440.out
      go_wp2_with (first | ((with_reducible refine gate_callee (f := 17) rfl ?_); refine goesL_ (some 53) rfl rfl Tryd.func17 (by kernel_rfl) rfl #[.agg #[.int .i64 a0_0, .int .i64 a0_1, .int .i64 a0_2, .int .i64 a0_3]] rfl (by (try simp only [List.map_toArray, List.map_cons, List.map_nil]); first | done | rfl | (simp only [List.length_drop, List.length_take]; rfl)) ?_; (with_reducible refine (session_Sane.calls a0_0 a0_1 a0_2 a0_3 true _ A75.out).mono ?_); rintro e w81 ⟨rfl, hb⟩; refine ⟨_, rfl, ?_⟩; replace HO453 := Aside0.mk (Kd.V_below (by (with_reducible repeat (first | apply Kd.V_alloc | apply Kd.V_drewN | apply Kd.V_drew)); exact (Kd.V_mono (Kd.V_far (p := ⟨gb455, 3, none⟩) (Kd.V_far (p := ⟨gb455, 2, none⟩) (Kd.V_far (p := ⟨gb455, 1, none⟩) (Kd.V_far (p := ⟨gb455, 0, none⟩) (Kd.V_mono HO453.out (fun k_ hk => (⟨hk, hk.2⟩ : _ ∧ k_ ≠ gb455))) (fun _ hk => hk.2) (.int .i64 t447)) (fun _ hk => hk.2) (.int .i64 t448)) (fun _ hk => hk.2) (.int .i64 t449)) (fun _ hk => hk.2) (.int .i64 t450)) (fun _ h_ => h_.1))) hb); replace BK440 := Aside0.mk (blk_below (g := gb440) (o := .cells #[.int .i64 a0_0, .int .i64 a0_1, .int .i64 a0_2, .int .i64 a0_3] 34 (0, 0)) (by (with_reducible repeat first | apply kN | apply kD | apply kA); refine blk_far ?_ NB440_455.out _; (with_reducible repeat first | apply kN | apply kD | apply kA); refine blk_far ?_ NB440_455.out _; (with_reducible repeat first | apply kN | apply kD | apply kA); refine blk_far ?_ NB440_455.out _; (with_reducible repeat first | apply kN | apply kD | apply kA); refine blk_far ?_ NB440_455.out _; (with_reducible repeat first | apply kN | apply kD | apply kA); exact BK440.out) hb); replace BK441 := Aside0.mk (blk_below (g := gb441) (o := .cells #[.int .i64 a1_0, .int .i64 a1_1, .int .i64 a1_2, .int .i64 a1_3, .slice A1_4 l1_4.length c1_4, .slice A1_5 l1_5.length c1_5] 26 (0, 0)) (by (with_reducible repeat first | apply kN | apply kD | apply kA); refine blk_far ?_ NB441_455.out _; (with_reducible repeat first | apply kN | apply kD | apply kA); refine blk_far ?_ NB441_455.out _; (with_reducible repeat first | apply kN | apply kD | apply kA); refine blk_far ?_ NB441_455.out _; (with_reducible repeat first | apply kN | apply kD | apply kA); refine blk_far ?_ NB441_455.out _; (with_reducible repeat first | apply kN | apply kD | apply kA); exact BK441.out) hb); replace BK442 := Aside0.mk (blk_below (g := gb442) (o := .cells #[.int .i64 a3_0, .slice A3_1 l3_1.length c3_1] 45 (0, 0)) (by (with_reducible repeat first | apply kN | apply kD | apply kA); refine blk_far ?_ NB442_455.out _; (with_reducible repeat first | apply kN | apply kD | apply kA); refine blk_far ?_ NB442_455.out _; (with_reducible repeat first | apply kN | apply kD | apply kA); refine blk_far ?_ NB442_455.out _; (with_reducible repeat first | apply kN | apply kD | apply kA); refine blk_far ?_ NB442_455.out _; (with_reducible repeat first | apply kN | apply kD | apply kA); exact BK442.out) hb); replace BK455 := Aside0.mk (blk_below (g := gb455) (o := .cells #[.int .i64 t447, .int .i64 t448, .int .i64 t449, .int .i64 t450] 34 (0, 0)) (by (with_reducible repeat first | apply kN | apply kD | apply kA); refine blk_put (cs := #[.int .i64 t447, .int .i64 t448, .int .i64 t449, .int .i64 0]) ?_ 3 _ rfl; (with_reducible repeat first | apply kN | apply kD | apply kA); refine blk_put (cs := #[.int .i64 t447, .int .i64 t448, .int .i64 0, .int .i64 0]) ?_ 2 _ rfl; (with_reducible repeat first | apply kN | apply kD | apply kA); refine blk_put (cs := #[.int .i64 t447, .int .i64 0, .int .i64 0, .int .i64 0]) ?_ 1 _ rfl; (with_reducible repeat first | apply kN | apply kD | apply kA); refine blk_put (cs := #[.int .i64 0, .int .i64 0, .int .i64 0, .int .i64 0]) ?_ 0 _ rfl; (with_reducible repeat first | apply kN | apply kD | apply kA); exact BK455.out) hb); replace HB := Aside0.mk (below_step (by with_reducible repeat first | exact HB.out | apply bA | apply bN | apply bD | refine bS ?_ GE440.out | refine bS ?_ GE441.out | refine bS ?_ GE442.out | refine bS ?_ GE455.out) hb); (try clear hb); (try clear hb2); (try clear hk); (try clear hi); obtain ⟨hcz82_0, hcz82_1, hcz82_2, hcz82_3, hfz82_0, hfz82_1, hfz82_2, hfz82_3⟩ := bc4 BK440.out))
      go_meet
      case rel => exact ⟨_, ((a0_0 == 0)), (by first | rfl | (simp; done) | (simp [*]; done)), H', ⟨by have := HJ5.out; first | omega | exact Nat.le_refl _⟩, ⟨by (with_reducible repeat (first | apply Kd.V_alloc | apply Kd.V_drewN | apply Kd.V_drew)); exact Kd.V_mono HO453.out (fun _ hk => ⟨hk.1.1, ⟨hk.1.2.1, ⟨hk.1.2.2, hk.2⟩⟩⟩)⟩, ⟨by (with_reducible repeat first | apply kN | apply kD | apply kA); exact BK440.out⟩, ⟨by (with_reducible repeat first | apply kN | apply kD | apply kA); exact BK441.out⟩, ⟨by (with_reducible repeat first | apply kN | apply kD | apply kA); exact BK442.out⟩, ⟨by (with_reducible repeat first | apply kN | apply kD | apply kA); exact BK455.out⟩, ⟨by with_reducible repeat first | exact HB.out | apply bA | apply bN | apply bD | refine bS ?_ GE440.out | refine bS ?_ GE441.out | refine bS ?_ GE442.out | refine bS ?_ GE455.out⟩⟩
     ·
      replace c76 := Bool.eq_false_iff.mpr c76
      subst c76
      have H1 : (ridgewaylaw17_SessionDeaf.j1 kj5 t443 t451 t454 true a0_0 a0_1 a0_2 a0_3 a3_0 l3_1 t447 t448 t449 t450) = some true := by rw [if_neg (show ¬ (false = true) by decide)] at H; first | done | exact H
      clear H
      have H := H1
      clear H1
      have H' := Aside0.mk H
      clear H
      have hnb83 := NB440_441.out
      have hnc83 := NB441_440.out
      have hnb84 := NB440_442.out
      have hnc84 := NB442_440.out
      have hnb85 := NB440_455.out
      have hnc85 := NB455_440.out
      obtain ⟨hcz86_0, hcz86_1, hcz86_2, hcz86_3, hfz86_0, hfz86_1, hfz86_2, hfz86_3⟩ := bc4 BK440.out
      go_wp2_with (first | ((with_reducible refine gate_callee (f := 17) rfl ?_); refine goesL_ (some 53) rfl rfl Tryd.func17 (by kernel_rfl) rfl #[.agg #[.int .i64 a0_0, .int .i64 a0_1, .int .i64 a0_2, .int .i64 a0_3]] rfl (by (try simp only [List.map_toArray, List.map_cons, List.map_nil]); first | done | rfl | (simp only [List.length_drop, List.length_take]; rfl)) ?_; (with_reducible refine (session_Sane.calls a0_0 a0_1 a0_2 a0_3 false _ A75.out).mono ?_); rintro e w87 ⟨rfl, hb⟩; refine ⟨_, rfl, ?_⟩; replace HO453 := Aside0.mk (Kd.V_below (by (with_reducible repeat (first | apply Kd.V_alloc | apply Kd.V_drewN | apply Kd.V_drew)); exact (Kd.V_mono (Kd.V_far (p := ⟨gb455, 3, none⟩) (Kd.V_far (p := ⟨gb455, 2, none⟩) (Kd.V_far (p := ⟨gb455, 1, none⟩) (Kd.V_far (p := ⟨gb455, 0, none⟩) (Kd.V_mono HO453.out (fun k_ hk => (⟨hk, hk.2⟩ : _ ∧ k_ ≠ gb455))) (fun _ hk => hk.2) (.int .i64 t447)) (fun _ hk => hk.2) (.int .i64 t448)) (fun _ hk => hk.2) (.int .i64 t449)) (fun _ hk => hk.2) (.int .i64 t450)) (fun _ h_ => h_.1))) hb); replace BK440 := Aside0.mk (blk_below (g := gb440) (o := .cells #[.int .i64 a0_0, .int .i64 a0_1, .int .i64 a0_2, .int .i64 a0_3] 34 (0, 0)) (by (with_reducible repeat first | apply kN | apply kD | apply kA); refine blk_far ?_ NB440_455.out _; (with_reducible repeat first | apply kN | apply kD | apply kA); refine blk_far ?_ NB440_455.out _; (with_reducible repeat first | apply kN | apply kD | apply kA); refine blk_far ?_ NB440_455.out _; (with_reducible repeat first | apply kN | apply kD | apply kA); refine blk_far ?_ NB440_455.out _; (with_reducible repeat first | apply kN | apply kD | apply kA); exact BK440.out) hb); replace BK441 := Aside0.mk (blk_below (g := gb441) (o := .cells #[.int .i64 a1_0, .int .i64 a1_1, .int .i64 a1_2, .int .i64 a1_3, .slice A1_4 l1_4.length c1_4, .slice A1_5 l1_5.length c1_5] 26 (0, 0)) (by (with_reducible repeat first | apply kN | apply kD | apply kA); refine blk_far ?_ NB441_455.out _; (with_reducible repeat first | apply kN | apply kD | apply kA); refine blk_far ?_ NB441_455.out _; (with_reducible repeat first | apply kN | apply kD | apply kA); refine blk_far ?_ NB441_455.out _; (with_reducible repeat first | apply kN | apply kD | apply kA); refine blk_far ?_ NB441_455.out _; (with_reducible repeat first | apply kN | apply kD | apply kA); exact BK441.out) hb); replace BK442 := Aside0.mk (blk_below (g := gb442) (o := .cells #[.int .i64 a3_0, .slice A3_1 l3_1.length c3_1] 45 (0, 0)) (by (with_reducible repeat first | apply kN | apply kD | apply kA); refine blk_far ?_ NB442_455.out _; (with_reducible repeat first | apply kN | apply kD | apply kA); refine blk_far ?_ NB442_455.out _; (with_reducible repeat first | apply kN | apply kD | apply kA); refine blk_far ?_ NB442_455.out _; (with_reducible repeat first | apply kN | apply kD | apply kA); refine blk_far ?_ NB442_455.out _; (with_reducible repeat first | apply kN | apply kD | apply kA); exact BK442.out) hb); replace BK455 := Aside0.mk (blk_below (g := gb455) (o := .cells #[.int .i64 t447, .int .i64 t448, .int .i64 t449, .int .i64 t450] 34 (0, 0)) (by (with_reducible repeat first | apply kN | apply kD | apply kA); refine blk_put (cs := #[.int .i64 t447, .int .i64 t448, .int .i64 t449, .int .i64 0]) ?_ 3 _ rfl; (with_reducible repeat first | apply kN | apply kD | apply kA); refine blk_put (cs := #[.int .i64 t447, .int .i64 t448, .int .i64 0, .int .i64 0]) ?_ 2 _ rfl; (with_reducible repeat first | apply kN | apply kD | apply kA); refine blk_put (cs := #[.int .i64 t447, .int .i64 0, .int .i64 0, .int .i64 0]) ?_ 1 _ rfl; (with_reducible repeat first | apply kN | apply kD | apply kA); refine blk_put (cs := #[.int .i64 0, .int .i64 0, .int .i64 0, .int .i64 0]) ?_ 0 _ rfl; (with_reducible repeat first | apply kN | apply kD | apply kA); exact BK455.out) hb); replace HB := Aside0.mk (below_step (by with_reducible repeat first | exact HB.out | apply bA | apply bN | apply bD | refine bS ?_ GE440.out | refine bS ?_ GE441.out | refine bS ?_ GE442.out | refine bS ?_ GE455.out) hb); (try clear hb); (try clear hb2); (try clear hk); (try clear hi)))
      go_meet
      case rel => exact ⟨_, (true), (by first | rfl | (simp; done) | (simp [*]; done)), H', ⟨by have := HJ5.out; first | omega | exact Nat.le_refl _⟩, ⟨by (with_reducible repeat (first | apply Kd.V_alloc | apply Kd.V_drewN | apply Kd.V_drew)); exact Kd.V_mono HO453.out (fun _ hk => ⟨hk.1.1, ⟨hk.1.2.1, ⟨hk.1.2.2, hk.2⟩⟩⟩)⟩, ⟨by (with_reducible repeat first | apply kN | apply kD | apply kA); exact BK440.out⟩, ⟨by (with_reducible repeat first | apply kN | apply kD | apply kA); exact BK441.out⟩, ⟨by (with_reducible repeat first | apply kN | apply kD | apply kA); exact BK442.out⟩, ⟨by (with_reducible repeat first | apply kN | apply kD | apply kA); exact BK455.out⟩, ⟨by with_reducible repeat first | exact HB.out | apply bA | apply bN | apply bD | refine bS ?_ GE440.out | refine bS ?_ GE441.out | refine bS ?_ GE442.out | refine bS ?_ GE455.out⟩⟩
    case rest => as_aux_lemma =>
     clear HC62
     try clear c1
     try clear c2
     try clear p2
     try clear c3
     try clear c4
     try clear c5
     try clear c6
     try clear c7
     try clear c8
     try clear c12
     try clear c14
     try clear c15
     try clear c15b0
     try clear c15b1
     try clear c16
     try clear c17
     try clear c19
     try clear c24
     try clear c24b0
     try clear c25
     try clear c26
     try clear c28
     try clear c35
     try clear c36
     try clear c38
     try clear c46
     try clear c47
     try clear c49
     try clear c54
     try clear c55
     try clear c57
     try clear c60
     try clear c63
     try clear c64
     try clear c66
     try clear c71
     try clear c72
     try clear c73
     try clear c76
     try clear c77
     try clear c78
     try clear c79
     try clear c83
     try clear c84
     try clear c85
     try clear hcz18_0 hcz18_1 hcz18_2 hcz18_3 hcz18_4 hcz18_5
     try clear hcz20_0 hcz20_1
     try clear hcz22_0 hcz22_1 hcz22_2 hcz22_3 hcz22_4 hcz22_5
     try clear hcz27_0 hcz27_1 hcz27_2 hcz27_3 hcz27_4 hcz27_5
     try clear hcz29_0 hcz29_1
     try clear hcz31_0 hcz31_1 hcz31_2 hcz31_3 hcz31_4 hcz31_5
     try clear hcz33_0 hcz33_1 hcz33_2 hcz33_3 hcz33_4 hcz33_5
     try clear hcz37_0 hcz37_1 hcz37_2 hcz37_3 hcz37_4 hcz37_5
     try clear hcz39_0 hcz39_1
     try clear hcz41_0 hcz41_1 hcz41_2 hcz41_3 hcz41_4 hcz41_5
     try clear hcz43_0 hcz43_1 hcz43_2 hcz43_3 hcz43_4 hcz43_5
     try clear hcz44_0 hcz44_1
     try clear hcz48_0 hcz48_1 hcz48_2 hcz48_3 hcz48_4 hcz48_5
     try clear hcz50_0 hcz50_1
     try clear hcz52_0 hcz52_1 hcz52_2 hcz52_3 hcz52_4 hcz52_5
     try clear hcz56_0 hcz56_1 hcz56_2 hcz56_3 hcz56_4 hcz56_5
     try clear hcz58_0 hcz58_1
     try clear hcz65_0 hcz65_1 hcz65_2 hcz65_3
     try clear hcz67_0 hcz67_1 hcz67_2 hcz67_3 hcz67_4 hcz67_5
     try clear hcz68_0 hcz68_1
     try clear hcz74_0 hcz74_1 hcz74_2 hcz74_3
     try clear hcz80_0 hcz80_1 hcz80_2 hcz80_3
     try clear hcz82_0 hcz82_1 hcz82_2 hcz82_3
     try clear hcz86_0 hcz86_1 hcz86_2 hcz86_3
     try clear hfz18_0 hfz18_1 hfz18_2 hfz18_3 hfz18_4 hfz18_5
     try clear hfz20_0 hfz20_1
     try clear hfz22_0 hfz22_1 hfz22_2 hfz22_3 hfz22_4 hfz22_5
     try clear hfz27_0 hfz27_1 hfz27_2 hfz27_3 hfz27_4 hfz27_5
     try clear hfz29_0 hfz29_1
     try clear hfz31_0 hfz31_1 hfz31_2 hfz31_3 hfz31_4 hfz31_5
     try clear hfz33_0 hfz33_1 hfz33_2 hfz33_3 hfz33_4 hfz33_5
     try clear hfz37_0 hfz37_1 hfz37_2 hfz37_3 hfz37_4 hfz37_5
     try clear hfz39_0 hfz39_1
     try clear hfz41_0 hfz41_1 hfz41_2 hfz41_3 hfz41_4 hfz41_5
     try clear hfz43_0 hfz43_1 hfz43_2 hfz43_3 hfz43_4 hfz43_5
     try clear hfz44_0 hfz44_1
     try clear hfz48_0 hfz48_1 hfz48_2 hfz48_3 hfz48_4 hfz48_5
     try clear hfz50_0 hfz50_1
     try clear hfz52_0 hfz52_1 hfz52_2 hfz52_3 hfz52_4 hfz52_5
     try clear hfz56_0 hfz56_1 hfz56_2 hfz56_3 hfz56_4 hfz56_5
     try clear hfz58_0 hfz58_1
     try clear hfz65_0 hfz65_1 hfz65_2 hfz65_3
     try clear hfz67_0 hfz67_1 hfz67_2 hfz67_3 hfz67_4 hfz67_5
     try clear hfz68_0 hfz68_1
     try clear hfz74_0 hfz74_1 hfz74_2 hfz74_3
     try clear hfz80_0 hfz80_1 hfz80_2 hfz80_3
     try clear hfz82_0 hfz82_1 hfz82_2 hfz82_3
     try clear hfz86_0 hfz86_1 hfz86_2 hfz86_3
     try clear p2
     obtain ⟨kq, x59_61, rfl, HA, HJ61, HO_11, BK440, BK441, BK442, BK455, HB⟩ := hcut
     cases kq with
     | zero => exact absurd HA.out (by simp [ridgewaylaw17_SessionDeaf.j1])
     | succ kj61 =>
      have H := HA.out
      clear HA
      simp only [ridgewaylaw17_SessionDeaf.j1] at H
      by_cases c88 : x59_61 = true
      ·
       subst c88
       have H1 : (if t443 = true then (if (t447 == 0 && (t448 == 0 && (t449 == 0 && (t450 == 0)))) = true then (if (t451.length : Int) = 0 then (some (!t454)) else (some false)) else (some false)) else (some false)) = some true := by rw [if_pos rfl] at H; first | done | exact H
       clear H
       have H := H1
       clear H1
       by_cases c89 : t443 = true
       ·
        subst c89
        have H1 : (if (t447 == 0 && (t448 == 0 && (t449 == 0 && (t450 == 0)))) = true then (if (t451.length : Int) = 0 then (some (!t454)) else (some false)) else (some false)) = some true := by rw [if_pos rfl] at H; first | done | exact H
        clear H
        have H := H1
        clear H1
        by_cases c90 : (t447 == 0 && (t448 == 0 && (t449 == 0 && (t450 == 0)))) = true
        ·
         rw [if_pos c90] at H
         have c90b0 : (t447 == 0 && (t448 == 0 && (t449 == 0 && (t450 == 0)))) = true := c90
         (try (have c90b1 : decide (t447 = 0 && (t448 == 0 && (t449 == 0 && (t450 == 0)))) = true := by simpa using c90))
         (try (have c90b2 : (t447 == 0 && (t448 == 0 && (t449 == 0 && (t450 == 0)))) = true := by simpa using c90))
         clear c90
         by_cases c91 : (t451.length : Int) = 0
         ·
          rw [if_pos c91] at H
          have c91b0 : ((t451.length : Int) == 0) = true := beq_iff_eq.mpr c91
          have c91b1 : ((t451.length : Int) != 0) = false := bne_eq_false_iff_eq.mpr c91
          clear c91
          have HRL_ := Aside0.mk (Option.some.inj H)
          clear H
          have hnb92 := NB455_440.out
          have hnc92 := NB440_455.out
          have hnb93 := NB455_441.out
          have hnc93 := NB441_455.out
          have hnb94 := NB455_442.out
          have hnc94 := NB442_455.out
          obtain ⟨hcz95_0, hcz95_1, hcz95_2, hcz95_3, hfz95_0, hfz95_1, hfz95_2, hfz95_3⟩ := bc4 BK455.out
          obtain ⟨Ao96, co96, eo96⟩ := Kd.V_slice HO_11.out
          subst eo96
          go_wp2
          all_goals first | (go_ret; refine ⟨?_, ?_⟩; (focus (first | rfl | (simp [errW_none, errW_some] <;> rfl) | (rw [HRL_.out] <;> rfl) | (simp only [HRL_.out] <;> rfl) | (have h_ := HRL_.out; simp at h_; simp [h_]; done) | (have h_ := HRL_.out; simp [*] at h_ ⊢; done) | (simp [*, errW_none, errW_some] <;> rfl))); (focus (repeat (first | (with_reducible first | exact HB.out | apply bA | apply bN | apply bD | refine bS ?_ GE440.out | refine bS ?_ GE441.out | refine bS ?_ GE442.out | refine bS ?_ GE455.out) | exact HB.out)))) | (exfalso; simp_all; done)
         ·
          rw [if_neg c91] at H
          have c91b0 : ((t451.length : Int) == 0) = false := beq_eq_false_iff_ne.mpr c91
          have c91b1 : ((t451.length : Int) != 0) = true := bne_iff_ne.mpr c91
          have c91b2 : ¬ (t451 = []) := fun h_ => c91 (by rw [h_]; rfl)
          exact absurd H (by simp)
        ·
         rw [if_neg c90] at H
         have c90b0 : (t447 == 0 && (t448 == 0 && (t449 == 0 && (t450 == 0)))) = false := by simpa using c90
         (try (have c90b1 : decide (t447 = 0 && (t448 == 0 && (t449 == 0 && (t450 == 0)))) = false := by simpa using c90))
         (try (have c90b2 : (t447 == 0 && (t448 == 0 && (t449 == 0 && (t450 == 0)))) = false := by simpa using c90))
         (try (have c90b3 : ¬ (t447 = 0 && (t448 == 0 && (t449 == 0 && (t450 == 0)))) := by simpa using c90))
         clear c90
         exact absurd H (by simp)
       ·
        replace c89 := Bool.eq_false_iff.mpr c89
        subst c89
        have H1 : (some false) = some true := by rw [if_neg (show ¬ (false = true) by decide)] at H; first | done | exact H
        clear H
        have H := H1
        clear H1
        exact absurd H (by simp)
      ·
       replace c88 := Bool.eq_false_iff.mpr c88
       subst c88
       have H1 : (if a0_0 = 1 then (if a3_0 = 1 then (ridgewaylaw17_SessionDeaf.j2 kj61 t443 t451 t454 true a0_0 a0_1 a0_2 a0_3 a3_0 l3_1 t447 t448 t449 t450) else (if a0_0 = 2 then (if a3_0 = 4 then (ridgewaylaw17_SessionDeaf.j2 kj61 t443 t451 t454 true a0_0 a0_1 a0_2 a0_3 a3_0 l3_1 t447 t448 t449 t450) else (if a0_0 = 3 then (ridgewaylaw17_SessionDeaf.j2 kj61 t443 t451 t454 (a3_0 == 2) a0_0 a0_1 a0_2 a0_3 a3_0 l3_1 t447 t448 t449 t450) else (ridgewaylaw17_SessionDeaf.j2 kj61 t443 t451 t454 false a0_0 a0_1 a0_2 a0_3 a3_0 l3_1 t447 t448 t449 t450))) else (if a0_0 = 3 then (if a3_0 = 4 then (ridgewaylaw17_SessionDeaf.j2 kj61 t443 t451 t454 true a0_0 a0_1 a0_2 a0_3 a3_0 l3_1 t447 t448 t449 t450) else (ridgewaylaw17_SessionDeaf.j2 kj61 t443 t451 t454 (a3_0 == 2) a0_0 a0_1 a0_2 a0_3 a3_0 l3_1 t447 t448 t449 t450)) else (ridgewaylaw17_SessionDeaf.j2 kj61 t443 t451 t454 false a0_0 a0_1 a0_2 a0_3 a3_0 l3_1 t447 t448 t449 t450)))) else (if a0_0 = 2 then (if a3_0 = 4 then (ridgewaylaw17_SessionDeaf.j2 kj61 t443 t451 t454 true a0_0 a0_1 a0_2 a0_3 a3_0 l3_1 t447 t448 t449 t450) else (if a0_0 = 3 then (ridgewaylaw17_SessionDeaf.j2 kj61 t443 t451 t454 (a3_0 == 2) a0_0 a0_1 a0_2 a0_3 a3_0 l3_1 t447 t448 t449 t450) else (ridgewaylaw17_SessionDeaf.j2 kj61 t443 t451 t454 false a0_0 a0_1 a0_2 a0_3 a3_0 l3_1 t447 t448 t449 t450))) else (if a0_0 = 3 then (if a3_0 = 4 then (ridgewaylaw17_SessionDeaf.j2 kj61 t443 t451 t454 true a0_0 a0_1 a0_2 a0_3 a3_0 l3_1 t447 t448 t449 t450) else (ridgewaylaw17_SessionDeaf.j2 kj61 t443 t451 t454 (a3_0 == 2) a0_0 a0_1 a0_2 a0_3 a3_0 l3_1 t447 t448 t449 t450)) else (ridgewaylaw17_SessionDeaf.j2 kj61 t443 t451 t454 false a0_0 a0_1 a0_2 a0_3 a3_0 l3_1 t447 t448 t449 t450)))) = some true := by rw [if_neg (show ¬ (false = true) by decide)] at H; first | done | exact H
       clear H
       have H := H1
       clear H1
       have HC97 := Aside0.mk H
       clear H
       go_upto_region 7 with (fail)
       go_cut [13] (fun v13 wc => ∃ (kq : Nat) (x13_96 : Bool), v13 = .bool x13_96 ∧ Aside0 (ridgewaylaw17_SessionDeaf.j2 kq t443 t451 t454 x13_96 a0_0 a0_1 a0_2 a0_3 a3_0 l3_1 t447 t448 t449 t450 = some true) ∧ Aside0 (kq ≤ kj61) ∧ Aside0 (Kd.V k45 45 wc w.heap.size (fun k_ => k_ ≠ gb440 ∧ k_ ≠ gb441 ∧ k_ ≠ gb442 ∧ k_ ≠ gb455) v452 t451) ∧ Aside0 (wc.heap[gb440]? = some (.cells #[.int .i64 a0_0, .int .i64 a0_1, .int .i64 a0_2, .int .i64 a0_3] 34 (0, 0))) ∧ Aside0 (wc.heap[gb441]? = some (.cells #[.int .i64 a1_0, .int .i64 a1_1, .int .i64 a1_2, .int .i64 a1_3, (.slice A1_4 l1_4.length c1_4), (.slice A1_5 l1_5.length c1_5)] 26 (0, 0))) ∧ Aside0 (wc.heap[gb442]? = some (.cells #[.int .i64 a3_0, (.slice A3_1 l3_1.length c3_1)] 45 (0, 0))) ∧ Aside0 (wc.heap[gb455]? = some (.cells #[.int .i64 t447, .int .i64 t448, .int .i64 t449, .int .i64 t450] 34 (0, 0))) ∧ Aside0 (Below w.heap.size w wc))
       case first => as_aux_lemma =>
        have H := HC97.out
        clear HC97
        by_cases c98 : a0_0 = 1
        ·
         rw [if_pos c98] at H
         have c98b0 : (a0_0 == 1) = true := beq_iff_eq.mpr c98
         have c98b1 : (a0_0 != 1) = false := bne_eq_false_iff_eq.mpr c98
         clear c98
         (first | rw [c98b0] | (simp only [i64_w, i32_w]; rw [c98b0]) | rw [c98b1] | skip)
         by_cases c99 : a3_0 = 1
         ·
          rw [if_pos c99] at H
          have c99b0 : (a3_0 == 1) = true := beq_iff_eq.mpr c99
          have c99b1 : (a3_0 != 1) = false := bne_eq_false_iff_eq.mpr c99
          clear c99
          have H' := Aside0.mk H
          clear H
          have hnb100 := NB440_441.out
          have hnc100 := NB441_440.out
          have hnb101 := NB440_442.out
          have hnc101 := NB442_440.out
          have hnb102 := NB440_455.out
          have hnc102 := NB455_440.out
          obtain ⟨hcz103_0, hcz103_1, hcz103_2, hcz103_3, hfz103_0, hfz103_1, hfz103_2, hfz103_3⟩ := bc4 BK440.out
          have hnb104 := NB442_441.out
          have hnc104 := NB441_442.out
          have hnb105 := NB442_455.out
          have hnc105 := NB455_442.out
          obtain ⟨hcz106_0, hcz106_1, hfz106_0, hfz106_1⟩ := bc2 BK442.out
          go_wp2
          go_meet
          case rel => exact ⟨_, (true), (by first | rfl | (simp; done) | (simp [*]; done)), H', ⟨by have := HJ5.out; have := HJ61.out; first | omega | exact Nat.le_refl _⟩, ⟨by (with_reducible repeat (first | apply Kd.V_alloc | apply Kd.V_drewN | apply Kd.V_drew)); exact HO_11.out⟩, ⟨by (with_reducible repeat first | apply kN | apply kD | apply kA); exact BK440.out⟩, ⟨by (with_reducible repeat first | apply kN | apply kD | apply kA); exact BK441.out⟩, ⟨by (with_reducible repeat first | apply kN | apply kD | apply kA); exact BK442.out⟩, ⟨by (with_reducible repeat first | apply kN | apply kD | apply kA); exact BK455.out⟩, ⟨by with_reducible repeat first | exact HB.out | apply bA | apply bN | apply bD | refine bS ?_ GE440.out | refine bS ?_ GE441.out | refine bS ?_ GE442.out | refine bS ?_ GE455.out⟩⟩
         ·
          rw [if_neg c99] at H
          have c99b0 : (a3_0 == 1) = false := beq_eq_false_iff_ne.mpr c99
          have c99b1 : (a3_0 != 1) = true := bne_iff_ne.mpr c99
          by_cases c107 : a0_0 = 2
          ·
           rw [if_pos c107] at H
           have c107b0 : (a0_0 == 2) = true := beq_iff_eq.mpr c107
           have c107b1 : (a0_0 != 2) = false := bne_eq_false_iff_eq.mpr c107
           clear c107
           by_cases c108 : a3_0 = 4
           ·
            rw [if_pos c108] at H
            have c108b0 : (a3_0 == 4) = true := beq_iff_eq.mpr c108
            have c108b1 : (a3_0 != 4) = false := bne_eq_false_iff_eq.mpr c108
            clear c108
            have H' := Aside0.mk H
            clear H
            have hnb109 := NB440_441.out
            have hnc109 := NB441_440.out
            have hnb110 := NB440_442.out
            have hnc110 := NB442_440.out
            have hnb111 := NB440_455.out
            have hnc111 := NB455_440.out
            obtain ⟨hcz112_0, hcz112_1, hcz112_2, hcz112_3, hfz112_0, hfz112_1, hfz112_2, hfz112_3⟩ := bc4 BK440.out
            have hnb113 := NB442_441.out
            have hnc113 := NB441_442.out
            have hnb114 := NB442_455.out
            have hnc114 := NB455_442.out
            obtain ⟨hcz115_0, hcz115_1, hfz115_0, hfz115_1⟩ := bc2 BK442.out
            go_wp2
            go_meet
            case rel => exact ⟨_, (true), (by first | rfl | (simp; done) | (simp [*]; done)), H', ⟨by have := HJ5.out; have := HJ61.out; first | omega | exact Nat.le_refl _⟩, ⟨by (with_reducible repeat (first | apply Kd.V_alloc | apply Kd.V_drewN | apply Kd.V_drew)); exact HO_11.out⟩, ⟨by (with_reducible repeat first | apply kN | apply kD | apply kA); exact BK440.out⟩, ⟨by (with_reducible repeat first | apply kN | apply kD | apply kA); exact BK441.out⟩, ⟨by (with_reducible repeat first | apply kN | apply kD | apply kA); exact BK442.out⟩, ⟨by (with_reducible repeat first | apply kN | apply kD | apply kA); exact BK455.out⟩, ⟨by with_reducible repeat first | exact HB.out | apply bA | apply bN | apply bD | refine bS ?_ GE440.out | refine bS ?_ GE441.out | refine bS ?_ GE442.out | refine bS ?_ GE455.out⟩⟩
           ·
            rw [if_neg c108] at H
            have c108b0 : (a3_0 == 4) = false := beq_eq_false_iff_ne.mpr c108
            have c108b1 : (a3_0 != 4) = true := bne_iff_ne.mpr c108
            by_cases c116 : a0_0 = 3
            ·
             rw [if_pos c116] at H
             have c116b0 : (a0_0 == 3) = true := beq_iff_eq.mpr c116
             have c116b1 : (a0_0 != 3) = false := bne_eq_false_iff_eq.mpr c116
             clear c116
             have H' := Aside0.mk H
             clear H
             have hnb117 := NB440_441.out
             have hnc117 := NB441_440.out
             have hnb118 := NB440_442.out
             have hnc118 := NB442_440.out
             have hnb119 := NB440_455.out
             have hnc119 := NB455_440.out
             obtain ⟨hcz120_0, hcz120_1, hcz120_2, hcz120_3, hfz120_0, hfz120_1, hfz120_2, hfz120_3⟩ := bc4 BK440.out
             have hnb121 := NB442_441.out
             have hnc121 := NB441_442.out
             have hnb122 := NB442_455.out
             have hnc122 := NB455_442.out
             obtain ⟨hcz123_0, hcz123_1, hfz123_0, hfz123_1⟩ := bc2 BK442.out
             go_wp2
             go_meet
             case rel => exact ⟨_, ((a3_0 == 2)), (by first | rfl | (simp; done) | (simp [*]; done)), H', ⟨by have := HJ5.out; have := HJ61.out; first | omega | exact Nat.le_refl _⟩, ⟨by (with_reducible repeat (first | apply Kd.V_alloc | apply Kd.V_drewN | apply Kd.V_drew)); exact HO_11.out⟩, ⟨by (with_reducible repeat first | apply kN | apply kD | apply kA); exact BK440.out⟩, ⟨by (with_reducible repeat first | apply kN | apply kD | apply kA); exact BK441.out⟩, ⟨by (with_reducible repeat first | apply kN | apply kD | apply kA); exact BK442.out⟩, ⟨by (with_reducible repeat first | apply kN | apply kD | apply kA); exact BK455.out⟩, ⟨by with_reducible repeat first | exact HB.out | apply bA | apply bN | apply bD | refine bS ?_ GE440.out | refine bS ?_ GE441.out | refine bS ?_ GE442.out | refine bS ?_ GE455.out⟩⟩
            ·
             rw [if_neg c116] at H
             have c116b0 : (a0_0 == 3) = false := beq_eq_false_iff_ne.mpr c116
             have c116b1 : (a0_0 != 3) = true := bne_iff_ne.mpr c116
             have H' := Aside0.mk H
             clear H
             have hnb124 := NB440_441.out
             have hnc124 := NB441_440.out
             have hnb125 := NB440_442.out
             have hnc125 := NB442_440.out
             have hnb126 := NB440_455.out
             have hnc126 := NB455_440.out
             obtain ⟨hcz127_0, hcz127_1, hcz127_2, hcz127_3, hfz127_0, hfz127_1, hfz127_2, hfz127_3⟩ := bc4 BK440.out
             have hnb128 := NB442_441.out
             have hnc128 := NB441_442.out
             have hnb129 := NB442_455.out
             have hnc129 := NB455_442.out
             obtain ⟨hcz130_0, hcz130_1, hfz130_0, hfz130_1⟩ := bc2 BK442.out
             go_wp2
             go_meet
             case rel => exact ⟨_, (false), (by first | rfl | (simp; done) | (simp [*]; done)), H', ⟨by have := HJ5.out; have := HJ61.out; first | omega | exact Nat.le_refl _⟩, ⟨by (with_reducible repeat (first | apply Kd.V_alloc | apply Kd.V_drewN | apply Kd.V_drew)); exact HO_11.out⟩, ⟨by (with_reducible repeat first | apply kN | apply kD | apply kA); exact BK440.out⟩, ⟨by (with_reducible repeat first | apply kN | apply kD | apply kA); exact BK441.out⟩, ⟨by (with_reducible repeat first | apply kN | apply kD | apply kA); exact BK442.out⟩, ⟨by (with_reducible repeat first | apply kN | apply kD | apply kA); exact BK455.out⟩, ⟨by with_reducible repeat first | exact HB.out | apply bA | apply bN | apply bD | refine bS ?_ GE440.out | refine bS ?_ GE441.out | refine bS ?_ GE442.out | refine bS ?_ GE455.out⟩⟩
          ·
           rw [if_neg c107] at H
           have c107b0 : (a0_0 == 2) = false := beq_eq_false_iff_ne.mpr c107
           have c107b1 : (a0_0 != 2) = true := bne_iff_ne.mpr c107
           by_cases c131 : a0_0 = 3
           ·
            rw [if_pos c131] at H
            have c131b0 : (a0_0 == 3) = true := beq_iff_eq.mpr c131
            have c131b1 : (a0_0 != 3) = false := bne_eq_false_iff_eq.mpr c131
            clear c131
            by_cases c132 : a3_0 = 4
            ·
             rw [if_pos c132] at H
             have c132b0 : (a3_0 == 4) = true := beq_iff_eq.mpr c132
             have c132b1 : (a3_0 != 4) = false := bne_eq_false_iff_eq.mpr c132
             clear c132
             have H' := Aside0.mk H
             clear H
             have hnb133 := NB440_441.out
             have hnc133 := NB441_440.out
             have hnb134 := NB440_442.out
             have hnc134 := NB442_440.out
             have hnb135 := NB440_455.out
             have hnc135 := NB455_440.out
             obtain ⟨hcz136_0, hcz136_1, hcz136_2, hcz136_3, hfz136_0, hfz136_1, hfz136_2, hfz136_3⟩ := bc4 BK440.out
             have hnb137 := NB442_441.out
             have hnc137 := NB441_442.out
             have hnb138 := NB442_455.out
             have hnc138 := NB455_442.out
             obtain ⟨hcz139_0, hcz139_1, hfz139_0, hfz139_1⟩ := bc2 BK442.out
             go_wp2
             go_meet
             case rel => exact ⟨_, (true), (by first | rfl | (simp; done) | (simp [*]; done)), H', ⟨by have := HJ5.out; have := HJ61.out; first | omega | exact Nat.le_refl _⟩, ⟨by (with_reducible repeat (first | apply Kd.V_alloc | apply Kd.V_drewN | apply Kd.V_drew)); exact HO_11.out⟩, ⟨by (with_reducible repeat first | apply kN | apply kD | apply kA); exact BK440.out⟩, ⟨by (with_reducible repeat first | apply kN | apply kD | apply kA); exact BK441.out⟩, ⟨by (with_reducible repeat first | apply kN | apply kD | apply kA); exact BK442.out⟩, ⟨by (with_reducible repeat first | apply kN | apply kD | apply kA); exact BK455.out⟩, ⟨by with_reducible repeat first | exact HB.out | apply bA | apply bN | apply bD | refine bS ?_ GE440.out | refine bS ?_ GE441.out | refine bS ?_ GE442.out | refine bS ?_ GE455.out⟩⟩
            ·
             rw [if_neg c132] at H
             have c132b0 : (a3_0 == 4) = false := beq_eq_false_iff_ne.mpr c132
             have c132b1 : (a3_0 != 4) = true := bne_iff_ne.mpr c132
             have H' := Aside0.mk H
             clear H
             have hnb140 := NB440_441.out
             have hnc140 := NB441_440.out
             have hnb141 := NB440_442.out
             have hnc141 := NB442_440.out
             have hnb142 := NB440_455.out
             have hnc142 := NB455_440.out
             obtain ⟨hcz143_0, hcz143_1, hcz143_2, hcz143_3, hfz143_0, hfz143_1, hfz143_2, hfz143_3⟩ := bc4 BK440.out
             have hnb144 := NB442_441.out
             have hnc144 := NB441_442.out
             have hnb145 := NB442_455.out
             have hnc145 := NB455_442.out
             obtain ⟨hcz146_0, hcz146_1, hfz146_0, hfz146_1⟩ := bc2 BK442.out
             go_wp2
             go_meet
             case rel => exact ⟨_, ((a3_0 == 2)), (by first | rfl | (simp; done) | (simp [*]; done)), H', ⟨by have := HJ5.out; have := HJ61.out; first | omega | exact Nat.le_refl _⟩, ⟨by (with_reducible repeat (first | apply Kd.V_alloc | apply Kd.V_drewN | apply Kd.V_drew)); exact HO_11.out⟩, ⟨by (with_reducible repeat first | apply kN | apply kD | apply kA); exact BK440.out⟩, ⟨by (with_reducible repeat first | apply kN | apply kD | apply kA); exact BK441.out⟩, ⟨by (with_reducible repeat first | apply kN | apply kD | apply kA); exact BK442.out⟩, ⟨by (with_reducible repeat first | apply kN | apply kD | apply kA); exact BK455.out⟩, ⟨by with_reducible repeat first | exact HB.out | apply bA | apply bN | apply bD | refine bS ?_ GE440.out | refine bS ?_ GE441.out | refine bS ?_ GE442.out | refine bS ?_ GE455.out⟩⟩
           ·
            rw [if_neg c131] at H
            have c131b0 : (a0_0 == 3) = false := beq_eq_false_iff_ne.mpr c131
            have c131b1 : (a0_0 != 3) = true := bne_iff_ne.mpr c131
            have H' := Aside0.mk H
            clear H
            have hnb147 := NB440_441.out
            have hnc147 := NB441_440.out
            have hnb148 := NB440_442.out
            have hnc148 := NB442_440.out
            have hnb149 := NB440_455.out
            have hnc149 := NB455_440.out
            obtain ⟨hcz150_0, hcz150_1, hcz150_2, hcz150_3, hfz150_0, hfz150_1, hfz150_2, hfz150_3⟩ := bc4 BK440.out
            have hnb151 := NB442_441.out
            have hnc151 := NB441_442.out
            have hnb152 := NB442_455.out
            have hnc152 := NB455_442.out
            obtain ⟨hcz153_0, hcz153_1, hfz153_0, hfz153_1⟩ := bc2 BK442.out
            go_wp2
            go_meet
            case rel => exact ⟨_, (false), (by first | rfl | (simp; done) | (simp [*]; done)), H', ⟨by have := HJ5.out; have := HJ61.out; first | omega | exact Nat.le_refl _⟩, ⟨by (with_reducible repeat (first | apply Kd.V_alloc | apply Kd.V_drewN | apply Kd.V_drew)); exact HO_11.out⟩, ⟨by (with_reducible repeat first | apply kN | apply kD | apply kA); exact BK440.out⟩, ⟨by (with_reducible repeat first | apply kN | apply kD | apply kA); exact BK441.out⟩, ⟨by (with_reducible repeat first | apply kN | apply kD | apply kA); exact BK442.out⟩, ⟨by (with_reducible repeat first | apply kN | apply kD | apply kA); exact BK455.out⟩, ⟨by with_reducible repeat first | exact HB.out | apply bA | apply bN | apply bD | refine bS ?_ GE440.out | refine bS ?_ GE441.out | refine bS ?_ GE442.out | refine bS ?_ GE455.out⟩⟩
        ·
         rw [if_neg c98] at H
         have c98b0 : (a0_0 == 1) = false := beq_eq_false_iff_ne.mpr c98
         have c98b1 : (a0_0 != 1) = true := bne_iff_ne.mpr c98
         (first | rw [c98b0] | (simp only [i64_w, i32_w]; rw [c98b0]) | rw [c98b1] | skip)
         by_cases c154 : a0_0 = 2
         ·
          rw [if_pos c154] at H
          have c154b0 : (a0_0 == 2) = true := beq_iff_eq.mpr c154
          have c154b1 : (a0_0 != 2) = false := bne_eq_false_iff_eq.mpr c154
          clear c154
          by_cases c155 : a3_0 = 4
          ·
           rw [if_pos c155] at H
           have c155b0 : (a3_0 == 4) = true := beq_iff_eq.mpr c155
           have c155b1 : (a3_0 != 4) = false := bne_eq_false_iff_eq.mpr c155
           clear c155
           have H' := Aside0.mk H
           clear H
           have hnb156 := NB440_441.out
           have hnc156 := NB441_440.out
           have hnb157 := NB440_442.out
           have hnc157 := NB442_440.out
           have hnb158 := NB440_455.out
           have hnc158 := NB455_440.out
           obtain ⟨hcz159_0, hcz159_1, hcz159_2, hcz159_3, hfz159_0, hfz159_1, hfz159_2, hfz159_3⟩ := bc4 BK440.out
           have hnb160 := NB442_441.out
           have hnc160 := NB441_442.out
           have hnb161 := NB442_455.out
           have hnc161 := NB455_442.out
           obtain ⟨hcz162_0, hcz162_1, hfz162_0, hfz162_1⟩ := bc2 BK442.out
           go_wp2
           go_meet
           case rel => exact ⟨_, (true), (by first | rfl | (simp; done) | (simp [*]; done)), H', ⟨by have := HJ5.out; have := HJ61.out; first | omega | exact Nat.le_refl _⟩, ⟨by (with_reducible repeat (first | apply Kd.V_alloc | apply Kd.V_drewN | apply Kd.V_drew)); exact HO_11.out⟩, ⟨by (with_reducible repeat first | apply kN | apply kD | apply kA); exact BK440.out⟩, ⟨by (with_reducible repeat first | apply kN | apply kD | apply kA); exact BK441.out⟩, ⟨by (with_reducible repeat first | apply kN | apply kD | apply kA); exact BK442.out⟩, ⟨by (with_reducible repeat first | apply kN | apply kD | apply kA); exact BK455.out⟩, ⟨by with_reducible repeat first | exact HB.out | apply bA | apply bN | apply bD | refine bS ?_ GE440.out | refine bS ?_ GE441.out | refine bS ?_ GE442.out | refine bS ?_ GE455.out⟩⟩
          ·
           rw [if_neg c155] at H
           have c155b0 : (a3_0 == 4) = false := beq_eq_false_iff_ne.mpr c155
           have c155b1 : (a3_0 != 4) = true := bne_iff_ne.mpr c155
           by_cases c163 : a0_0 = 3
           ·
            rw [if_pos c163] at H
            have c163b0 : (a0_0 == 3) = true := beq_iff_eq.mpr c163
            have c163b1 : (a0_0 != 3) = false := bne_eq_false_iff_eq.mpr c163
            clear c163
            have H' := Aside0.mk H
            clear H
            have hnb164 := NB440_441.out
            have hnc164 := NB441_440.out
            have hnb165 := NB440_442.out
            have hnc165 := NB442_440.out
            have hnb166 := NB440_455.out
            have hnc166 := NB455_440.out
            obtain ⟨hcz167_0, hcz167_1, hcz167_2, hcz167_3, hfz167_0, hfz167_1, hfz167_2, hfz167_3⟩ := bc4 BK440.out
            have hnb168 := NB442_441.out
            have hnc168 := NB441_442.out
            have hnb169 := NB442_455.out
            have hnc169 := NB455_442.out
            obtain ⟨hcz170_0, hcz170_1, hfz170_0, hfz170_1⟩ := bc2 BK442.out
            go_wp2
            go_meet
            case rel => exact ⟨_, ((a3_0 == 2)), (by first | rfl | (simp; done) | (simp [*]; done)), H', ⟨by have := HJ5.out; have := HJ61.out; first | omega | exact Nat.le_refl _⟩, ⟨by (with_reducible repeat (first | apply Kd.V_alloc | apply Kd.V_drewN | apply Kd.V_drew)); exact HO_11.out⟩, ⟨by (with_reducible repeat first | apply kN | apply kD | apply kA); exact BK440.out⟩, ⟨by (with_reducible repeat first | apply kN | apply kD | apply kA); exact BK441.out⟩, ⟨by (with_reducible repeat first | apply kN | apply kD | apply kA); exact BK442.out⟩, ⟨by (with_reducible repeat first | apply kN | apply kD | apply kA); exact BK455.out⟩, ⟨by with_reducible repeat first | exact HB.out | apply bA | apply bN | apply bD | refine bS ?_ GE440.out | refine bS ?_ GE441.out | refine bS ?_ GE442.out | refine bS ?_ GE455.out⟩⟩
           ·
            rw [if_neg c163] at H
            have c163b0 : (a0_0 == 3) = false := beq_eq_false_iff_ne.mpr c163
            have c163b1 : (a0_0 != 3) = true := bne_iff_ne.mpr c163
            have H' := Aside0.mk H
            clear H
            have hnb171 := NB440_441.out
            have hnc171 := NB441_440.out
            have hnb172 := NB440_442.out
            have hnc172 := NB442_440.out
            have hnb173 := NB440_455.out
            have hnc173 := NB455_440.out
            obtain ⟨hcz174_0, hcz174_1, hcz174_2, hcz174_3, hfz174_0, hfz174_1, hfz174_2, hfz174_3⟩ := bc4 BK440.out
            have hnb175 := NB442_441.out
            have hnc175 := NB441_442.out
            have hnb176 := NB442_455.out
            have hnc176 := NB455_442.out
            obtain ⟨hcz177_0, hcz177_1, hfz177_0, hfz177_1⟩ := bc2 BK442.out
            go_wp2
            go_meet
            case rel => exact ⟨_, (false), (by first | rfl | (simp; done) | (simp [*]; done)), H', ⟨by have := HJ5.out; have := HJ61.out; first | omega | exact Nat.le_refl _⟩, ⟨by (with_reducible repeat (first | apply Kd.V_alloc | apply Kd.V_drewN | apply Kd.V_drew)); exact HO_11.out⟩, ⟨by (with_reducible repeat first | apply kN | apply kD | apply kA); exact BK440.out⟩, ⟨by (with_reducible repeat first | apply kN | apply kD | apply kA); exact BK441.out⟩, ⟨by (with_reducible repeat first | apply kN | apply kD | apply kA); exact BK442.out⟩, ⟨by (with_reducible repeat first | apply kN | apply kD | apply kA); exact BK455.out⟩, ⟨by with_reducible repeat first | exact HB.out | apply bA | apply bN | apply bD | refine bS ?_ GE440.out | refine bS ?_ GE441.out | refine bS ?_ GE442.out | refine bS ?_ GE455.out⟩⟩
         ·
          rw [if_neg c154] at H
          have c154b0 : (a0_0 == 2) = false := beq_eq_false_iff_ne.mpr c154
          have c154b1 : (a0_0 != 2) = true := bne_iff_ne.mpr c154
          by_cases c178 : a0_0 = 3
          ·
           rw [if_pos c178] at H
           have c178b0 : (a0_0 == 3) = true := beq_iff_eq.mpr c178
           have c178b1 : (a0_0 != 3) = false := bne_eq_false_iff_eq.mpr c178
           clear c178
           by_cases c179 : a3_0 = 4
           ·
            rw [if_pos c179] at H
            have c179b0 : (a3_0 == 4) = true := beq_iff_eq.mpr c179
            have c179b1 : (a3_0 != 4) = false := bne_eq_false_iff_eq.mpr c179
            clear c179
            have H' := Aside0.mk H
            clear H
            have hnb180 := NB440_441.out
            have hnc180 := NB441_440.out
            have hnb181 := NB440_442.out
            have hnc181 := NB442_440.out
            have hnb182 := NB440_455.out
            have hnc182 := NB455_440.out
            obtain ⟨hcz183_0, hcz183_1, hcz183_2, hcz183_3, hfz183_0, hfz183_1, hfz183_2, hfz183_3⟩ := bc4 BK440.out
            have hnb184 := NB442_441.out
            have hnc184 := NB441_442.out
            have hnb185 := NB442_455.out
            have hnc185 := NB455_442.out
            obtain ⟨hcz186_0, hcz186_1, hfz186_0, hfz186_1⟩ := bc2 BK442.out
            go_wp2
            go_meet
            case rel => exact ⟨_, (true), (by first | rfl | (simp; done) | (simp [*]; done)), H', ⟨by have := HJ5.out; have := HJ61.out; first | omega | exact Nat.le_refl _⟩, ⟨by (with_reducible repeat (first | apply Kd.V_alloc | apply Kd.V_drewN | apply Kd.V_drew)); exact HO_11.out⟩, ⟨by (with_reducible repeat first | apply kN | apply kD | apply kA); exact BK440.out⟩, ⟨by (with_reducible repeat first | apply kN | apply kD | apply kA); exact BK441.out⟩, ⟨by (with_reducible repeat first | apply kN | apply kD | apply kA); exact BK442.out⟩, ⟨by (with_reducible repeat first | apply kN | apply kD | apply kA); exact BK455.out⟩, ⟨by with_reducible repeat first | exact HB.out | apply bA | apply bN | apply bD | refine bS ?_ GE440.out | refine bS ?_ GE441.out | refine bS ?_ GE442.out | refine bS ?_ GE455.out⟩⟩
           ·
            rw [if_neg c179] at H
            have c179b0 : (a3_0 == 4) = false := beq_eq_false_iff_ne.mpr c179
            have c179b1 : (a3_0 != 4) = true := bne_iff_ne.mpr c179
            have H' := Aside0.mk H
            clear H
            have hnb187 := NB440_441.out
            have hnc187 := NB441_440.out
            have hnb188 := NB440_442.out
            have hnc188 := NB442_440.out
            have hnb189 := NB440_455.out
            have hnc189 := NB455_440.out
            obtain ⟨hcz190_0, hcz190_1, hcz190_2, hcz190_3, hfz190_0, hfz190_1, hfz190_2, hfz190_3⟩ := bc4 BK440.out
            have hnb191 := NB442_441.out
            have hnc191 := NB441_442.out
            have hnb192 := NB442_455.out
            have hnc192 := NB455_442.out
            obtain ⟨hcz193_0, hcz193_1, hfz193_0, hfz193_1⟩ := bc2 BK442.out
            go_wp2
            go_meet
            case rel => exact ⟨_, ((a3_0 == 2)), (by first | rfl | (simp; done) | (simp [*]; done)), H', ⟨by have := HJ5.out; have := HJ61.out; first | omega | exact Nat.le_refl _⟩, ⟨by (with_reducible repeat (first | apply Kd.V_alloc | apply Kd.V_drewN | apply Kd.V_drew)); exact HO_11.out⟩, ⟨by (with_reducible repeat first | apply kN | apply kD | apply kA); exact BK440.out⟩, ⟨by (with_reducible repeat first | apply kN | apply kD | apply kA); exact BK441.out⟩, ⟨by (with_reducible repeat first | apply kN | apply kD | apply kA); exact BK442.out⟩, ⟨by (with_reducible repeat first | apply kN | apply kD | apply kA); exact BK455.out⟩, ⟨by with_reducible repeat first | exact HB.out | apply bA | apply bN | apply bD | refine bS ?_ GE440.out | refine bS ?_ GE441.out | refine bS ?_ GE442.out | refine bS ?_ GE455.out⟩⟩
          ·
           rw [if_neg c178] at H
           have c178b0 : (a0_0 == 3) = false := beq_eq_false_iff_ne.mpr c178
           have c178b1 : (a0_0 != 3) = true := bne_iff_ne.mpr c178
           have H' := Aside0.mk H
           clear H
           have hnb194 := NB440_441.out
           have hnc194 := NB441_440.out
           have hnb195 := NB440_442.out
           have hnc195 := NB442_440.out
           have hnb196 := NB440_455.out
           have hnc196 := NB455_440.out
           obtain ⟨hcz197_0, hcz197_1, hcz197_2, hcz197_3, hfz197_0, hfz197_1, hfz197_2, hfz197_3⟩ := bc4 BK440.out
           go_wp2
           go_meet
           case rel => exact ⟨_, (false), (by first | rfl | (simp; done) | (simp [*]; done)), H', ⟨by have := HJ5.out; have := HJ61.out; first | omega | exact Nat.le_refl _⟩, ⟨by (with_reducible repeat (first | apply Kd.V_alloc | apply Kd.V_drewN | apply Kd.V_drew)); exact HO_11.out⟩, ⟨by (with_reducible repeat first | apply kN | apply kD | apply kA); exact BK440.out⟩, ⟨by (with_reducible repeat first | apply kN | apply kD | apply kA); exact BK441.out⟩, ⟨by (with_reducible repeat first | apply kN | apply kD | apply kA); exact BK442.out⟩, ⟨by (with_reducible repeat first | apply kN | apply kD | apply kA); exact BK455.out⟩, ⟨by with_reducible repeat first | exact HB.out | apply bA | apply bN | apply bD | refine bS ?_ GE440.out | refine bS ?_ GE441.out | refine bS ?_ GE442.out | refine bS ?_ GE455.out⟩⟩
       case rest => as_aux_lemma =>
        clear HC97
        try clear c1
        try clear p2
        try clear c3
        try clear c8
        try clear c9
        try clear c10
        try clear c11
        try clear c12
        try clear c13
        try clear c14
        try clear c15
        try clear c16
        try clear c17
        try clear c18
        try clear c19
        try clear c88
        try clear c89
        try clear c90
        try clear c90b0
        try clear c90b1
        try clear c90b2
        try clear c91
        try clear c91b0
        try clear c91b1
        try clear c91b2
        try clear c92
        try clear c93
        try clear c94
        try clear c98
        try clear c98b0
        try clear c98b1
        try clear c99
        try clear c99b0
        try clear c99b1
        try clear c100
        try clear c101
        try clear c102
        try clear c104
        try clear c105
        try clear c107
        try clear c107b0
        try clear c107b1
        try clear c108
        try clear c108b0
        try clear c108b1
        try clear c109
        try clear c110
        try clear c111
        try clear c113
        try clear c114
        try clear c116
        try clear c116b0
        try clear c116b1
        try clear c117
        try clear c118
        try clear c119
        try clear c121
        try clear c122
        try clear c124
        try clear c125
        try clear c126
        try clear c128
        try clear c129
        try clear c131
        try clear c131b0
        try clear c131b1
        try clear c132
        try clear c132b0
        try clear c132b1
        try clear c133
        try clear c134
        try clear c135
        try clear c137
        try clear c138
        try clear c140
        try clear c141
        try clear c142
        try clear c144
        try clear c145
        try clear c147
        try clear c148
        try clear c149
        try clear c151
        try clear c152
        try clear c154
        try clear c154b0
        try clear c154b1
        try clear c155
        try clear c155b0
        try clear c155b1
        try clear c156
        try clear c157
        try clear c158
        try clear c160
        try clear c161
        try clear c163
        try clear c163b0
        try clear c163b1
        try clear c164
        try clear c165
        try clear c166
        try clear c168
        try clear c169
        try clear c171
        try clear c172
        try clear c173
        try clear c175
        try clear c176
        try clear c178
        try clear c178b0
        try clear c178b1
        try clear c179
        try clear c179b0
        try clear c179b1
        try clear c180
        try clear c181
        try clear c182
        try clear c184
        try clear c185
        try clear c187
        try clear c188
        try clear c189
        try clear c191
        try clear c192
        try clear c194
        try clear c195
        try clear c196
        try clear hcz103_0 hcz103_1 hcz103_2 hcz103_3
        try clear hcz106_0 hcz106_1
        try clear hcz112_0 hcz112_1 hcz112_2 hcz112_3
        try clear hcz115_0 hcz115_1
        try clear hcz120_0 hcz120_1 hcz120_2 hcz120_3
        try clear hcz123_0 hcz123_1
        try clear hcz127_0 hcz127_1 hcz127_2 hcz127_3
        try clear hcz130_0 hcz130_1
        try clear hcz136_0 hcz136_1 hcz136_2 hcz136_3
        try clear hcz139_0 hcz139_1
        try clear hcz143_0 hcz143_1 hcz143_2 hcz143_3
        try clear hcz146_0 hcz146_1
        try clear hcz150_0 hcz150_1 hcz150_2 hcz150_3
        try clear hcz153_0 hcz153_1
        try clear hcz159_0 hcz159_1 hcz159_2 hcz159_3
        try clear hcz162_0 hcz162_1
        try clear hcz167_0 hcz167_1 hcz167_2 hcz167_3
        try clear hcz170_0 hcz170_1
        try clear hcz174_0 hcz174_1 hcz174_2 hcz174_3
        try clear hcz177_0 hcz177_1
        try clear hcz183_0 hcz183_1 hcz183_2 hcz183_3
        try clear hcz186_0 hcz186_1
        try clear hcz190_0 hcz190_1 hcz190_2 hcz190_3
        try clear hcz193_0 hcz193_1
        try clear hcz197_0 hcz197_1 hcz197_2 hcz197_3
        try clear hcz95_0 hcz95_1 hcz95_2 hcz95_3
        try clear hfz103_0 hfz103_1 hfz103_2 hfz103_3
        try clear hfz106_0 hfz106_1
        try clear hfz112_0 hfz112_1 hfz112_2 hfz112_3
        try clear hfz115_0 hfz115_1
        try clear hfz120_0 hfz120_1 hfz120_2 hfz120_3
        try clear hfz123_0 hfz123_1
        try clear hfz127_0 hfz127_1 hfz127_2 hfz127_3
        try clear hfz130_0 hfz130_1
        try clear hfz136_0 hfz136_1 hfz136_2 hfz136_3
        try clear hfz139_0 hfz139_1
        try clear hfz143_0 hfz143_1 hfz143_2 hfz143_3
        try clear hfz146_0 hfz146_1
        try clear hfz150_0 hfz150_1 hfz150_2 hfz150_3
        try clear hfz153_0 hfz153_1
        try clear hfz159_0 hfz159_1 hfz159_2 hfz159_3
        try clear hfz162_0 hfz162_1
        try clear hfz167_0 hfz167_1 hfz167_2 hfz167_3
        try clear hfz170_0 hfz170_1
        try clear hfz174_0 hfz174_1 hfz174_2 hfz174_3
        try clear hfz177_0 hfz177_1
        try clear hfz183_0 hfz183_1 hfz183_2 hfz183_3
        try clear hfz186_0 hfz186_1
        try clear hfz190_0 hfz190_1 hfz190_2 hfz190_3
        try clear hfz193_0 hfz193_1
        try clear hfz197_0 hfz197_1 hfz197_2 hfz197_3
        try clear hfz33_4 hfz33_5
        try clear hfz37_0 hfz37_1 hfz37_2 hfz37_3 hfz37_4 hfz37_5
        try clear hfz39_0 hfz39_1
        try clear hfz41_0 hfz41_1 hfz41_2 hfz41_3 hfz41_4 hfz41_5
        try clear hfz43_0 hfz43_1 hfz43_2 hfz43_3 hfz43_4 hfz43_5
        try clear hfz44_0 hfz44_1
        try clear hfz48_0 hfz48_1 hfz48_2 hfz48_3 hfz48_4 hfz48_5
        try clear hfz50_0 hfz50_1
        try clear hfz52_0 hfz52_1 hfz52_2 hfz52_3 hfz52_4 hfz52_5
        try clear hfz56_0 hfz56_1 hfz56_2 hfz56_3 hfz56_4 hfz56_5
        try clear hfz58_0 hfz58_1
        try clear hfz65_0 hfz65_1 hfz65_2 hfz65_3
        try clear hfz67_0 hfz67_1 hfz67_2 hfz67_3 hfz67_4 hfz67_5
        try clear hfz68_0 hfz68_1
        try clear hfz74_0 hfz74_1 hfz74_2 hfz74_3
        try clear hfz80_0 hfz80_1 hfz80_2 hfz80_3
        try clear hfz82_0 hfz82_1 hfz82_2 hfz82_3
        try clear hfz86_0 hfz86_1 hfz86_2 hfz86_3
        try clear hfz95_0 hfz95_1 hfz95_2 hfz95_3
        try clear p2
        obtain ⟨kq, x13_96, rfl, HA, HJ96, HO_11, BK440, BK441, BK442, BK455, HB⟩ := hcut
        cases kq with
        | zero => exact absurd HA.out (by simp [ridgewaylaw17_SessionDeaf.j2])
        | succ kj96 =>
         have H := HA.out
         clear HA
         simp only [ridgewaylaw17_SessionDeaf.j2] at H
         by_cases c198 : a3_0 = 3
         ·
          rw [if_pos c198] at H
          have c198b0 : (a3_0 == 3) = true := beq_iff_eq.mpr c198
          have c198b1 : (a3_0 != 3) = false := bne_eq_false_iff_eq.mpr c198
          clear c198
          by_cases c199 : t443 = true
          ·
           subst c199
           have H1 : (if (t447 == 0 && (t448 == 0 && (t449 == 0 && (t450 == 0)))) = true then (some ((t451.length : Int) == 0)) else (some false)) = some true := by rw [if_pos rfl] at H; first | done | exact H
           clear H
           have H := H1
           clear H1
           by_cases c200 : (t447 == 0 && (t448 == 0 && (t449 == 0 && (t450 == 0)))) = true
           ·
            rw [if_pos c200] at H
            have c200b0 : (t447 == 0 && (t448 == 0 && (t449 == 0 && (t450 == 0)))) = true := c200
            (try (have c200b1 : decide (t447 = 0 && (t448 == 0 && (t449 == 0 && (t450 == 0)))) = true := by simpa using c200))
            (try (have c200b2 : (t447 == 0 && (t448 == 0 && (t449 == 0 && (t450 == 0)))) = true := by simpa using c200))
            clear c200
            have HRL_ := Aside0.mk (Option.some.inj H)
            clear H
            have hnb201 := NB442_440.out
            have hnc201 := NB440_442.out
            have hnb202 := NB442_441.out
            have hnc202 := NB441_442.out
            have hnb203 := NB442_455.out
            have hnc203 := NB455_442.out
            obtain ⟨hcz204_0, hcz204_1, hfz204_0, hfz204_1⟩ := bc2 BK442.out
            have hnb205 := NB455_440.out
            have hnc205 := NB440_455.out
            have hnb206 := NB455_441.out
            have hnc206 := NB441_455.out
            obtain ⟨hcz207_0, hcz207_1, hcz207_2, hcz207_3, hfz207_0, hfz207_1, hfz207_2, hfz207_3⟩ := bc4 BK455.out
            obtain ⟨Ao208, co208, eo208⟩ := Kd.V_slice HO_11.out
            subst eo208
            go_wp2
            all_goals first | (go_ret; refine ⟨?_, ?_⟩; (focus (first | rfl | (simp [errW_none, errW_some] <;> rfl) | (rw [HRL_.out] <;> rfl) | (simp only [HRL_.out] <;> rfl) | (have h_ := HRL_.out; simp at h_; simp [h_]; done) | (have h_ := HRL_.out; simp [*] at h_ ⊢; done) | (simp [*, errW_none, errW_some] <;> rfl))); (focus (repeat (first | (with_reducible first | exact HB.out | apply bA | apply bN | apply bD | refine bS ?_ GE440.out | refine bS ?_ GE441.out | refine bS ?_ GE442.out | refine bS ?_ GE455.out) | exact HB.out)))) | (exfalso; simp_all; done)
           ·
            rw [if_neg c200] at H
            have c200b0 : (t447 == 0 && (t448 == 0 && (t449 == 0 && (t450 == 0)))) = false := by simpa using c200
            (try (have c200b1 : decide (t447 = 0 && (t448 == 0 && (t449 == 0 && (t450 == 0)))) = false := by simpa using c200))
            (try (have c200b2 : (t447 == 0 && (t448 == 0 && (t449 == 0 && (t450 == 0)))) = false := by simpa using c200))
            (try (have c200b3 : ¬ (t447 = 0 && (t448 == 0 && (t449 == 0 && (t450 == 0)))) := by simpa using c200))
            clear c200
            exact absurd H (by simp)
          ·
           replace c199 := Bool.eq_false_iff.mpr c199
           subst c199
           have H1 : (some false) = some true := by rw [if_neg (show ¬ (false = true) by decide)] at H; first | done | exact H
           clear H
           have H := H1
           clear H1
           exact absurd H (by simp)
         ·
          rw [if_neg c198] at H
          have c198b0 : (a3_0 == 3) = false := beq_eq_false_iff_ne.mpr c198
          have c198b1 : (a3_0 != 3) = true := bne_iff_ne.mpr c198
          by_cases c209 : x13_96 = true
          ·
           subst c209
           have H1 : (if t443 = true then (if a0_0 = 1 then (some true) else (if t447 = 3 then (if (t451.length : Int) = 0 then (some (t454 == (a3_0 == 2))) else (some false)) else (some false))) else (some false)) = some true := by rw [if_pos rfl] at H; first | done | exact H
           clear H
           have H := H1
           clear H1
           by_cases c210 : t443 = true
           ·
            subst c210
            have H1 : (if a0_0 = 1 then (some true) else (if t447 = 3 then (if (t451.length : Int) = 0 then (some (t454 == (a3_0 == 2))) else (some false)) else (some false))) = some true := by rw [if_pos rfl] at H; first | done | exact H
            clear H
            have H := H1
            clear H1
            by_cases c211 : a0_0 = 1
            ·
             rw [if_pos c211] at H
             have c211b0 : (a0_0 == 1) = true := beq_iff_eq.mpr c211
             have c211b1 : (a0_0 != 1) = false := bne_eq_false_iff_eq.mpr c211
             clear c211
             clear H
             have hnb212 := NB442_440.out
             have hnc212 := NB440_442.out
             have hnb213 := NB442_441.out
             have hnc213 := NB441_442.out
             have hnb214 := NB442_455.out
             have hnc214 := NB455_442.out
             obtain ⟨hcz215_0, hcz215_1, hfz215_0, hfz215_1⟩ := bc2 BK442.out
             have hnb216 := NB440_441.out
             have hnc216 := NB441_440.out
             have hnb217 := NB440_455.out
             have hnc217 := NB455_440.out
             obtain ⟨hcz218_0, hcz218_1, hcz218_2, hcz218_3, hfz218_0, hfz218_1, hfz218_2, hfz218_3⟩ := bc4 BK440.out
             go_wp2
             all_goals first | (go_ret; refine ⟨?_, ?_⟩; (focus (first | rfl | (simp [errW_none, errW_some] <;> rfl) | (simp [*, errW_none, errW_some] <;> rfl))); (focus (repeat (first | (with_reducible first | exact HB.out | apply bA | apply bN | apply bD | refine bS ?_ GE440.out | refine bS ?_ GE441.out | refine bS ?_ GE442.out | refine bS ?_ GE455.out) | exact HB.out)))) | (exfalso; simp_all; done)
            ·
             rw [if_neg c211] at H
             have c211b0 : (a0_0 == 1) = false := beq_eq_false_iff_ne.mpr c211
             have c211b1 : (a0_0 != 1) = true := bne_iff_ne.mpr c211
             by_cases c219 : t447 = 3
             ·
              rw [if_pos c219] at H
              have c219b0 : (t447 == 3) = true := beq_iff_eq.mpr c219
              have c219b1 : (t447 != 3) = false := bne_eq_false_iff_eq.mpr c219
              clear c219
              by_cases c220 : (t451.length : Int) = 0
              ·
               rw [if_pos c220] at H
               have c220b0 : ((t451.length : Int) == 0) = true := beq_iff_eq.mpr c220
               have c220b1 : ((t451.length : Int) != 0) = false := bne_eq_false_iff_eq.mpr c220
               clear c220
               have HRL_ := Aside0.mk (Option.some.inj H)
               clear H
               have hnb221 := NB442_440.out
               have hnc221 := NB440_442.out
               have hnb222 := NB442_441.out
               have hnc222 := NB441_442.out
               have hnb223 := NB442_455.out
               have hnc223 := NB455_442.out
               obtain ⟨hcz224_0, hcz224_1, hfz224_0, hfz224_1⟩ := bc2 BK442.out
               have hnb225 := NB440_441.out
               have hnc225 := NB441_440.out
               have hnb226 := NB440_455.out
               have hnc226 := NB455_440.out
               obtain ⟨hcz227_0, hcz227_1, hcz227_2, hcz227_3, hfz227_0, hfz227_1, hfz227_2, hfz227_3⟩ := bc4 BK440.out
               have hnb228 := NB455_441.out
               have hnc228 := NB441_455.out
               obtain ⟨hcz229_0, hcz229_1, hcz229_2, hcz229_3, hfz229_0, hfz229_1, hfz229_2, hfz229_3⟩ := bc4 BK455.out
               obtain ⟨Ao230, co230, eo230⟩ := Kd.V_slice HO_11.out
               subst eo230
               go_wp2
               all_goals first | (go_ret; refine ⟨?_, ?_⟩; (focus (first | rfl | (simp [errW_none, errW_some] <;> rfl) | (rw [HRL_.out] <;> rfl) | (simp only [HRL_.out] <;> rfl) | (have h_ := HRL_.out; simp at h_; simp [h_]; done) | (have h_ := HRL_.out; simp [*] at h_ ⊢; done) | (simp [*, errW_none, errW_some] <;> rfl))); (focus (repeat (first | (with_reducible first | exact HB.out | apply bA | apply bN | apply bD | refine bS ?_ GE440.out | refine bS ?_ GE441.out | refine bS ?_ GE442.out | refine bS ?_ GE455.out) | exact HB.out)))) | (exfalso; simp_all; done)
              ·
               rw [if_neg c220] at H
               have c220b0 : ((t451.length : Int) == 0) = false := beq_eq_false_iff_ne.mpr c220
               have c220b1 : ((t451.length : Int) != 0) = true := bne_iff_ne.mpr c220
               have c220b2 : ¬ (t451 = []) := fun h_ => c220 (by rw [h_]; rfl)
               exact absurd H (by simp)
             ·
              rw [if_neg c219] at H
              have c219b0 : (t447 == 3) = false := beq_eq_false_iff_ne.mpr c219
              have c219b1 : (t447 != 3) = true := bne_iff_ne.mpr c219
              exact absurd H (by simp)
           ·
            replace c210 := Bool.eq_false_iff.mpr c210
            subst c210
            have H1 : (some false) = some true := by rw [if_neg (show ¬ (false = true) by decide)] at H; first | done | exact H
            clear H
            have H := H1
            clear H1
            exact absurd H (by simp)
          ·
           replace c209 := Bool.eq_false_iff.mpr c209
           subst c209
           have H1 : (if (t451.length : Int) = 1 then (if 0 < (t451.length : Int) then ((note_Get.f kj96 ((rd_T45 t451 0).f0) ((rd_T45 t451 0).f1)).bind fun bt458 => (if t443 = true then (if (t447 == 0 && (t448 == 0 && (t449 == 0 && (t450 == 0)))) = true then (if bt458.2.2.2 = true then (if bt458.1 = 5 then (if bt458.2.1 = a0_0 then (some (!t454)) else (some false)) else (some false)) else (some false)) else (some false)) else (some false))) else (none)) else (some false)) = some true := by rw [if_neg (show ¬ (false = true) by decide)] at H; first | done | exact H
           clear H
           have H := H1
           clear H1
           by_cases c231 : (t451.length : Int) = 1
           ·
            rw [if_pos c231] at H
            have c231b0 : ((t451.length : Int) == 1) = true := beq_iff_eq.mpr c231
            have c231b1 : ((t451.length : Int) != 1) = false := bne_eq_false_iff_eq.mpr c231
            clear c231
            by_cases c232 : 0 < (t451.length : Int)
            ·
             rw [if_pos c232] at H
             have c232b0 : decide (0 < (t451.length : Int)) = true := decide_eq_true c232
             have c232b1 : decide (0 < t451.length) = true := decide_eq_true (by omega)
             clear c232
             replace H := Option.bind_eq_some_iff.mp H
             obtain ⟨⟨t458, t459, t460, t463⟩, A2330, H⟩ := H
             replace H : (if t443 = true then (if (t447 == 0 && (t448 == 0 && (t449 == 0 && (t450 == 0)))) = true then (if t463 = true then (if t458 = 5 then (if t459 = a0_0 then (some (!t454)) else (some false)) else (some false)) else (some false)) else (some false)) else (some false)) = some true := H
             have A233 := Aside0.mk A2330
             clear A2330
             by_cases c234 : t443 = true
             ·
              subst c234
              have H1 : (if (t447 == 0 && (t448 == 0 && (t449 == 0 && (t450 == 0)))) = true then (if t463 = true then (if t458 = 5 then (if t459 = a0_0 then (some (!t454)) else (some false)) else (some false)) else (some false)) else (some false)) = some true := by rw [if_pos rfl] at H; first | done | exact H
              clear H
              have H := H1
              clear H1
              by_cases c235 : (t447 == 0 && (t448 == 0 && (t449 == 0 && (t450 == 0)))) = true
              ·
               rw [if_pos c235] at H
               have c235b0 : (t447 == 0 && (t448 == 0 && (t449 == 0 && (t450 == 0)))) = true := c235
               (try (have c235b1 : decide (t447 = 0 && (t448 == 0 && (t449 == 0 && (t450 == 0)))) = true := by simpa using c235))
               (try (have c235b2 : (t447 == 0 && (t448 == 0 && (t449 == 0 && (t450 == 0)))) = true := by simpa using c235))
               clear c235
               by_cases c236 : t463 = true
               ·
                subst c236
                have H1 : (if t458 = 5 then (if t459 = a0_0 then (some (!t454)) else (some false)) else (some false)) = some true := by rw [if_pos rfl] at H; first | done | exact H
                clear H
                have H := H1
                clear H1
                by_cases c237 : t458 = 5
                ·
                 rw [if_pos c237] at H
                 have c237b0 : (t458 == 5) = true := beq_iff_eq.mpr c237
                 have c237b1 : (t458 != 5) = false := bne_eq_false_iff_eq.mpr c237
                 clear c237
                 by_cases c238 : t459 = a0_0
                 ·
                  rw [if_pos c238] at H
                  have c238b0 : (t459 == a0_0) = true := beq_iff_eq.mpr c238
                  have c238b1 : (t459 != a0_0) = false := bne_eq_false_iff_eq.mpr c238
                  clear c238
                  have HRL_ := Aside0.mk (Option.some.inj H)
                  clear H
                  have hnb239 := NB442_440.out
                  have hnc239 := NB440_442.out
                  have hnb240 := NB442_441.out
                  have hnc240 := NB441_442.out
                  have hnb241 := NB442_455.out
                  have hnc241 := NB455_442.out
                  obtain ⟨hcz242_0, hcz242_1, hfz242_0, hfz242_1⟩ := bc2 BK442.out
                  obtain ⟨Ao243, co243, eo243⟩ := Kd.V_slice HO_11.out
                  subst eo243
                  have p457 : 0 ≤ (0 : Int) := (by omega)
                  have q457 : 0 < (t451.length : Int) := of_decide_eq_true (by first | (with_reducible assumption) | assumption)
                  obtain ⟨ad457, A457_1, c457_1, e457, hx457_0, hx457_1, hl457_1, hi457_1⟩ := at_T45 (Kd.V_reads' HO_11.out).2.2 0 p457 q457
                  cases e457
                  obtain ⟨ce457, hce457, hMe457, hcc457⟩ := Kd.V_get HO_11.out z45 0 p457 (by first | exact q457 | exact of_decide_eq_true (by first | (with_reducible assumption) | assumption) | (have e_ := (Kd.V_reads' HO_11.out).1; omega))
                  obtain ⟨ua457_1, uc457_1, rfl, ul457_1, ge457_1⟩ := k45_openF hMe457
                  have hv457_1 := hcc457 1 _ rfl
                  rw [add_field _ _ 1 (by omega)] at hv457_1
                  replace hv457_1 := Option.some.inj (hv457_1.symm.trans hx457_1)
                  injection hv457_1 with hva_ hvn_ hvc_
                  rw [hva_] at ge457_1
                  rw [hvc_] at ul457_1
                  have HL457_1 := Aside0.mk (show Kd.V (Kd.int .u8) 5 _ w.heap.size _ _ ((rd_T45 t451 0).f1) from Kd.V_mk ul457_1 ge457_1)
                  clear hva_ hvn_ hvc_ ge457_1 ul457_1
                  clear hcc457 hce457
                  have qi457 : (0 < t451.length) = True := eq_true (by omega)
                  (try rw [show ((0 : Int)).toNat = 0 from rfl] at hx457_0)
                  (try rw [show 0 * 2 = 0 from rfl] at hx457_0)
                  (try rw [Addr.add_zero'] at hx457_0)
                  (try rw [show ((0 : Int)).toNat = 0 from rfl] at hx457_1)
                  (try rw [show 0 * 2 = 0 from rfl] at hx457_1)
                  (try rw [Addr.add_zero'] at hx457_1)
                  have HR457_1 := Aside0.mk hi457_1
                  have HC457_1 := Aside0.mk hl457_1
                  clear hi457_1 hl457_1
                  replace p457 := eq_true p457
                  replace q457 := eq_true q457
                  go_wp2_with (first | ((with_reducible refine gate_callee (f := 13) rfl ?_); refine goesL_ (some 153) rfl rfl Tryd.func13 (by kernel_rfl) rfl #[.agg #[.int .i64 ((rd_T45 t451 0).f0), .slice A457_1 ((rd_T45 t451 0).f1).length c457_1]] rfl (by (try simp only [List.map_toArray, List.map_cons, List.map_nil]); first | done | rfl | (simp only [List.length_drop, List.length_take]; rfl)) ?_; (with_reducible refine (note_Get.calls kj96 ((rd_T45 t451 0).f0) _ _ ((rd_T45 t451 0).f1) t458 t459 t460 true _ ?side1 ?side2 A233.out).mono ?_); (case side1 => repeat (first | exact (by repeat (first | (with_reducible exact HR457_1.out) | (with_reducible refine Kd.C_alloc ?_ _) | (with_reducible refine Kd.C_drewN ?_ _) | (with_reducible refine Kd.C_drew ?_) | exact HR457_1.out)) | (with_reducible refine Kd.C_alloc ?_ _) | (with_reducible refine Kd.C_drewN ?_ _) | (with_reducible refine Kd.C_drew ?_))); (case side2 => exact HC457_1.out); rintro e w244 ⟨v461, rfl, ho0, hb⟩; refine ⟨_, rfl, ?_⟩; replace HO_11 := Aside0.mk (Kd.V_elder' (by (with_reducible repeat (first | apply Kd.V_alloc | apply Kd.V_drewN | apply Kd.V_drew)); exact HO_11.out) (Kd.R_base ho0) hb); replace HL457_1 := Aside0.mk (Kd.V_elder' (by (with_reducible repeat (first | apply Kd.V_alloc | apply Kd.V_drewN | apply Kd.V_drew)); exact HL457_1.out) (Kd.R_base ho0) hb); have HO462 := Aside0.mk (Kd.R_lower ho0 (below_size (by with_reducible repeat first | exact HB.out | apply bA | apply bN | apply bD | refine bS ?_ GE440.out | refine bS ?_ GE441.out | refine bS ?_ GE442.out | refine bS ?_ GE455.out))); have hy := bQ BK440.out (by with_reducible repeat first | apply bA | apply bN | apply bD | exact Below.refl _ _) hb; replace BK440 := Aside0.mk (blk_below BK440.out hy); replace BK441 := Aside0.mk (blk_below BK441.out hy); replace BK442 := Aside0.mk (blk_below BK442.out hy); replace BK455 := Aside0.mk (blk_below BK455.out hy); replace HR457_1 := Aside0.mk (Kd.C_below (by repeat (first | (with_reducible exact HR457_1.out) | (with_reducible refine Kd.C_alloc ?_ _) | (with_reducible refine Kd.C_drewN ?_ _) | (with_reducible refine Kd.C_drew ?_) | exact HR457_1.out)) hb); replace HB := Aside0.mk (below_step HB.out hy); clear hy; (try clear hb); (try clear hb2); (try clear hk); (try clear hi); (try clear ho0)) | ((with_reducible refine gate_dst (N := 14) rfl ?_); (try (refine gate_guard (by rfl) ?_; dsimp only)); refine box_event ?hg (N := 14) ?hd (cs := #[.int .i64 0, .int .i64 0, .slice none 0 0]) (t := 41) ?hr ?_; (case hd | hg => rfl); (case hr => first | (go_simp; done) | (go_simp; rfl)); intro gb464 hg w245 hbox hb; have hz := bZ BK440.out (by with_reducible repeat first | apply bA | apply bN | apply bD | exact Below.refl _ _) hb; have hy := below_step hz hb; have n0_ := Aside0.mk (Kd.V_below (Kd.V_elderB (by (with_reducible repeat (first | apply Kd.V_alloc | apply Kd.V_drewN | apply Kd.V_drew)); exact HO_11.out) gb464 (Nat.le_of_eq hg.symm)) hb); have n1_ := Aside0.mk (Kd.V_below (Kd.V_elderB (by (with_reducible repeat (first | apply Kd.V_alloc | apply Kd.V_drewN | apply Kd.V_drew)); exact HL457_1.out) gb464 (Nat.le_of_eq hg.symm)) hb); have n2_ := Aside0.mk (Kd.R_below (by (with_reducible repeat (first | apply Kd.R_alloc | apply Kd.R_drewN | apply Kd.R_drew)); exact HO462.out) hb); have n3_ := Aside0.mk (blk_below BK440.out hy); have n4_ := Aside0.mk (blk_below BK441.out hy); have n5_ := Aside0.mk (blk_below BK442.out hy); have n6_ := Aside0.mk (blk_below BK455.out hy); have n7_ := Aside0.mk (Kd.C_below (by repeat (first | (with_reducible exact HR457_1.out) | (with_reducible refine Kd.C_alloc ?_ _) | (with_reducible refine Kd.C_drewN ?_ _) | (with_reducible refine Kd.C_drew ?_) | exact HR457_1.out)) hb); have n8_ := Aside0.mk (below_step HB.out hy); have BK464 := Aside0.mk (hbox); have n10_ := Aside0.mk (bge HB.out hz hg); have GE464 := n10_; obtain ⟨NB440_464, NB464_440⟩ := bne2 BK440.out hz hg; obtain ⟨NB441_464, NB464_441⟩ := bne2 BK441.out hz hg; obtain ⟨NB442_464, NB464_442⟩ := bne2 BK442.out hz hg; obtain ⟨NB455_464, NB464_455⟩ := bne2 BK455.out hz hg; clear HO_11; clear HL457_1; clear HO462; clear BK440; clear BK441; clear BK442; clear BK455; clear HR457_1; clear HB; have HO_11 := n0_; have HL457_1 := n1_; have HO462 := n2_; have BK440 := n3_; have BK441 := n4_; have BK442 := n5_; have BK455 := n6_; have HR457_1 := n7_; have HB := n8_; have GW464 := n10_; clear n0_ n1_ n2_ n3_ n4_ n5_ n6_ n7_ n8_ n10_; clear hy hz hb hbox hg; have hnb246 := NB464_440.out; have hnc246 := NB440_464.out; have hnb247 := NB464_441.out; have hnc247 := NB441_464.out; have hnb248 := NB464_442.out; have hnc248 := NB442_464.out; have hnb249 := NB464_455.out; have hnc249 := NB455_464.out; obtain ⟨hcz250_0, hcz250_1, hcz250_2, hfz250_0, hfz250_1, hfz250_2⟩ := bc3 BK464.out; obtain ⟨Ao251, co251, eo251⟩ := Kd.R_slice HO462.out; subst eo251; have hnb252 := NB455_440.out; have hnc252 := NB440_455.out; have hnb253 := NB455_441.out; have hnc253 := NB441_455.out; obtain ⟨hcz254_0, hcz254_1, hcz254_2, hcz254_3, hfz254_0, hfz254_1, hfz254_2, hfz254_3⟩ := bc4 BK455.out; have hnb255 := NB440_441.out; have hnc255 := NB441_440.out; obtain ⟨hcz256_0, hcz256_1, hcz256_2, hcz256_3, hfz256_0, hfz256_1, hfz256_2, hfz256_3⟩ := bc4 BK440.out))
                  all_goals first | (go_ret; refine ⟨?_, ?_⟩; (focus (first | rfl | (simp [errW_none, errW_some] <;> rfl) | (rw [HRL_.out] <;> rfl) | (simp only [HRL_.out] <;> rfl) | (have h_ := HRL_.out; simp at h_; simp [h_]; done) | (have h_ := HRL_.out; simp [*] at h_ ⊢; done) | (simp [*, errW_none, errW_some] <;> rfl))); (focus (repeat (first | (with_reducible first | exact HB.out | apply bA | apply bN | apply bD | refine bS ?_ GE440.out | refine bS ?_ GE441.out | refine bS ?_ GE442.out | refine bS ?_ GE455.out | refine bS ?_ GE464.out) | exact HB.out)))) | (exfalso; simp_all; done)
                 ·
                  rw [if_neg c238] at H
                  have c238b0 : (t459 == a0_0) = false := beq_eq_false_iff_ne.mpr c238
                  have c238b1 : (t459 != a0_0) = true := bne_iff_ne.mpr c238
                  exact absurd H (by simp)
                ·
                 rw [if_neg c237] at H
                 have c237b0 : (t458 == 5) = false := beq_eq_false_iff_ne.mpr c237
                 have c237b1 : (t458 != 5) = true := bne_iff_ne.mpr c237
                 exact absurd H (by simp)
               ·
                replace c236 := Bool.eq_false_iff.mpr c236
                subst c236
                have H1 : (some false) = some true := by rw [if_neg (show ¬ (false = true) by decide)] at H; first | done | exact H
                clear H
                have H := H1
                clear H1
                exact absurd H (by simp)
              ·
               rw [if_neg c235] at H
               have c235b0 : (t447 == 0 && (t448 == 0 && (t449 == 0 && (t450 == 0)))) = false := by simpa using c235
               (try (have c235b1 : decide (t447 = 0 && (t448 == 0 && (t449 == 0 && (t450 == 0)))) = false := by simpa using c235))
               (try (have c235b2 : (t447 == 0 && (t448 == 0 && (t449 == 0 && (t450 == 0)))) = false := by simpa using c235))
               (try (have c235b3 : ¬ (t447 = 0 && (t448 == 0 && (t449 == 0 && (t450 == 0)))) := by simpa using c235))
               clear c235
               exact absurd H (by simp)
             ·
              replace c234 := Bool.eq_false_iff.mpr c234
              subst c234
              have H1 : (some false) = some true := by rw [if_neg (show ¬ (false = true) by decide)] at H; first | done | exact H
              clear H
              have H := H1
              clear H1
              exact absurd H (by simp)
            ·
             rw [if_neg c232] at H
             exact absurd H (by simp)
           ·
            rw [if_neg c231] at H
            have c231b0 : ((t451.length : Int) == 1) = false := beq_eq_false_iff_ne.mpr c231
            have c231b1 : ((t451.length : Int) != 1) = true := bne_iff_ne.mpr c231
            exact absurd H (by simp)

/-- THE ONE PURE STATEMENT of ridgewaylaw17_SessionDeaf. -/
def ridgewaylaw17_SessionDeaf.Pure : Prop := ∀ (x0 : S34) (x1 : S26) (a2 : Int) (x3 : S45), (wf34 x0) → (wf26 x1) → ((Lit.int .i64 a2).wf = true) → (wf45 x3) → ∃ k, ridgewaylaw17_SessionDeaf.f k (x0.f0) (x0.f1) (x0.f2) (x0.f3) (x1.f0) (x1.f1) (x1.f2) (x1.f3) (x1.f4) (x1.f5) a2 (x3.f0) (x3.f1) = some true

end Go.Proofs.YtfbndolhocojiaaDoor.S
