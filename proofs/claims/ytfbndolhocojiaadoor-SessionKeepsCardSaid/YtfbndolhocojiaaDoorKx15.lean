/- Each call of a Go function comes to what the Lean function of its name answers (written out by wip/tools/xprint.py, checked by Lean); conditions: those in each statement. -/
import Derived.Test.YtfbndolhocojiaaDoorKx0
import Derived.Test.YtfbndolhocojiaaDoorKx3
import Derived.Test.YtfbndolhocojiaaDoorKx9
namespace Go.Proofs.YtfbndolhocojiaaDoor.K
open Go.RowKit Go.Proofs.YtfbndolhocojiaaDoorW.PrintWords Go.Proofs.YtfbndolhocojiaaDoorW.PrintLast Go.Proofs.YtfbndolhocojiaaDoorW.PrintMore Go.Proofs.YtfbndolhocojiaaDoorW.PrintX
attribute [local go_sem] max2_int min2_int max_two min_two max_three min_three max_four min_four   -- for this text's walks alone
set_option linter.unusedVariables false
set_option linter.unusedSimpArgs false

/-! ### ridgewayref12_Few: function 20 -/
def ridgewayref12_Few.l0 : Nat → Int → Int → Int → Int → Int → List (S62) → List (S31) → Option (Bool)
 | 0, _, _, _, _, _, _, _ => none
 | k + 1, x3, x359000, x359001, x359002, x359003, x359004, x359005 => if x3 < (x359005.length : Int) then (if 0 ≤ x3 then (if (((rd_T31 x359005 x3).f2).length : Int) > 20 then (some false) else (if (((rd_T31 x359005 x3).f3).length : Int) > 20 then (some false) else (ridgewayref12_Few.l0 k (wrap64 (x3 + 1)) x359000 x359001 x359002 x359003 x359004 x359005))) else (none)) else (if (x359004.length : Int) ≤ 20 then (some (decide ((x359005.length : Int) ≤ 20))) else (some false))
def ridgewayref12_Few.f (k : Nat) (a0_0 : Int) (a0_1 : Int) (a0_2 : Int) (a0_3 : Int) (l0_4 : List (S62)) (l0_5 : List (S31)) : Option (Bool) := ridgewayref12_Few.l0 k 0 a0_0 a0_1 a0_2 a0_3 l0_4 l0_5
theorem ridgewayref12_Few.mono_l : ∀ k, (∀ y0 y1 y2 y3 y4 y5 y6, LeO (ridgewayref12_Few.l0 k y0 y1 y2 y3 y4 y5 y6) (ridgewayref12_Few.l0 (k + 1) y0 y1 y2 y3 y4 y5 y6))
 | 0 => fun _ _ _ _ _ _ _ r h => by simp [ridgewayref12_Few.l0] at h
 | k + 1 => by
  have ih0 := ridgewayref12_Few.mono_l k
  ·
   intro y0 y1 y2 y3 y4 y5 y6
   unfold ridgewayref12_Few.l0
   repeat' first
   | (with_reducible exact ih0 _ _ _ _ _ _ _)
   | (with_reducible exact LeO.refl _)
   | (with_reducible exact LeO.none _)
   | (with_reducible refine LeO.ite ?_ ?_)
   | (with_reducible refine LeO.bind ?_ (fun _ => ?_))
   | exact ih0 _ _ _ _ _ _ _
   | exact LeO.none _
   | refine LeO.ite ?_ ?_
   | refine LeO.bind ?_ (fun _ => ?_)
theorem ridgewayref12_Few.mono : ∀ a0 a1 a2 a3 a4 a5 k, LeO (ridgewayref12_Few.f k a0 a1 a2 a3 a4 a5) (ridgewayref12_Few.f (k + 1) a0 a1 a2 a3 a4 a5) := by
 intro a0 a1 a2 a3 a4 a5 k
 have ih0 := ridgewayref12_Few.mono_l k
 unfold ridgewayref12_Few.f
 repeat' first
   | (with_reducible exact ih0 _ _ _ _ _ _ _)
   | (with_reducible exact LeO.refl _)
   | (with_reducible exact LeO.none _)
   | (with_reducible refine LeO.ite ?_ ?_)
   | (with_reducible refine LeO.bind ?_ (fun _ => ?_))
   | exact ih0 _ _ _ _ _ _ _
   | exact LeO.none _
   | refine LeO.ite ?_ ?_
   | refine LeO.bind ?_ (fun _ => ?_)
set_option maxHeartbeats 8000000 in
set_option maxRecDepth 100000 in
theorem ridgewayref12_Few.calls (k : Nat) (a0_0 : Int) (a0_1 : Int) (a0_2 : Int) (a0_3 : Int) (A0_4 : Option Addr) (c0_4 : Nat) (l0_4 : List (S62)) (A0_5 : Option Addr) (c0_5 : Nat) (l0_5 : List (S31)) (r : Bool) (w : World) (hr0_4 : Kd.C k62 w A0_4 l0_4.length l0_4) (hc0_4 : l0_4.length ≤ c0_4) (hr0_5 : Kd.C k31 w A0_5 l0_5.length l0_5) (hc0_5 : l0_5.length ≤ c0_5) (h : ridgewayref12_Few.f k a0_0 a0_1 a0_2 a0_3 l0_4 l0_5 = some r) :
  Calls Tryd.prog 20 #[.agg #[.int .i64 a0_0, .int .i64 a0_1, .int .i64 a0_2, .int .i64 a0_3, .slice A0_4 l0_4.length c0_4, .slice A0_5 l0_5.length c0_5]] w fun e w' => e = .returned (.bool r) ∧ Below w.heap.size w w' := by
 have hu26 := Tryd.underlying26
 have HR0_4 := Aside0.mk hr0_4
 have HC0_4 := Aside0.mk hc0_4
 clear hr0_4 hc0_4
 have HR0_5 := Aside0.mk hr0_5
 have HC0_5 := Aside0.mk hc0_5
 clear hr0_5 hc0_5
 have HB := Aside0.mk (Below.refl w.heap.size w)
 have H : (ridgewayref12_Few.l0 k 0 a0_0 a0_1 a0_2 a0_3 l0_4 l0_5) = some r := h
 clear h
 have H' := Aside0.mk H
 clear H
 go_enter Tryd.func20, Tryd.ntmps20
 go_wp2_with (first | ((with_reducible refine gate_dst (N := 1) rfl ?_); (try (refine gate_guard (by rfl) ?_; dsimp only)); refine box_event ?hg (N := 1) ?hd (cs := #[.int .i64 a0_0, .int .i64 a0_1, .int .i64 a0_2, .int .i64 a0_3, .slice A0_4 l0_4.length c0_4, .slice A0_5 l0_5.length c0_5]) (t := 26) ?hr ?_; (case hd | hg => rfl); (case hr => first | (go_simp; done) | (go_simp; rfl)); intro gb358 hg w2 hbox hb; obtain ⟨hy, hz⟩ := bfst (by with_reducible repeat first | exact HB.out | apply bA | apply bN | apply bD) hb hg; replace HB := hy; have BK358 := Aside0.mk (hbox); have GE358 := hz; have GW358 := GE358; clear hy hz hb hbox hg))
 go_loopg [3] k (fun kq v3 w' => ∃ (x3_1 : Int), v3 = .int .i64 x3_1 ∧ Aside0 (ridgewayref12_Few.l0 kq x3_1 a0_0 a0_1 a0_2 a0_3 l0_4 l0_5 = some r) ∧ Aside0 (kq ≤ k) ∧ Aside0 (w'.heap[gb358]? = some (.cells #[.int .i64 a0_0, .int .i64 a0_1, .int .i64 a0_2, .int .i64 a0_3, (.slice A0_4 l0_4.length c0_4), (.slice A0_5 l0_5.length c0_5)] 26 (0, 0))) ∧ Aside0 (Below w.heap.size w w'))
 case atStart => exact ⟨(0), (by first | rfl | (simp; done) | (simp [*]; done)), H', ⟨Nat.le_refl _⟩, ⟨by (with_reducible repeat first | apply kN | apply kD | apply kA); exact BK358.out⟩, ⟨by with_reducible repeat first | exact HB.out | apply bA | apply bN | apply bD | refine bS ?_ GE358.out⟩⟩
 case round =>
  clear H'
  try clear c2
  try clear p2
  obtain ⟨x3_1, rfl, HA, HK1, BK358, HB⟩ := hrel
  cases gk with
  | zero => exact absurd HA.out (by simp [ridgewayref12_Few.l0])
  | succ k1 =>
   have H := HA.out
   clear HA
   simp only [ridgewayref12_Few.l0] at H
   by_cases c3 : x3_1 < (l0_5.length : Int)
   ·
    rw [if_pos c3] at H
    have c3b0 : decide (x3_1 < (l0_5.length : Int)) = true := decide_eq_true c3
    clear c3
    by_cases c4 : 0 ≤ x3_1
    ·
     rw [if_pos c4] at H
     have c4b0 : decide (0 ≤ x3_1) = true := decide_eq_true c4
     clear c4
     by_cases c5 : (((rd_T31 l0_5 x3_1).f2).length : Int) > 20
     ·
      rw [if_pos c5] at H
      have c5b0 : decide (20 < (((rd_T31 l0_5 x3_1).f2).length : Int)) = true := decide_eq_true c5
      have c5b1 : decide (20 < ((rd_T31 l0_5 x3_1).f2).length) = true := decide_eq_true (by omega)
      clear c5
      obtain rfl := Option.some.inj H
      obtain ⟨hcz6_0, hcz6_1, hcz6_2, hcz6_3, hcz6_4, hcz6_5, hfz6_0, hfz6_1, hfz6_2, hfz6_3, hfz6_4, hfz6_5⟩ := bc6 BK358.out
      have p359 : 0 ≤ (x3_1 : Int) := of_decide_eq_true (by first | (with_reducible assumption) | assumption)
      have q359 : x3_1 < (l0_5.length : Int) := of_decide_eq_true (by first | (with_reducible assumption) | assumption)
      obtain ⟨ad359, A359_2, c359_2, A359_3, c359_3, e359, hx359_0, hx359_1, hx359_2, hx359_3, hl359_2, hi359_2, hl359_3, hi359_3⟩ := at_T31 HR0_5.out x3_1 p359 q359
      cases e359
      replace hx359_0 := cB HB.out hx359_0
      replace hx359_1 := cB HB.out hx359_1
      replace hx359_2 := cB HB.out hx359_2
      replace hx359_3 := cB HB.out hx359_3
      have HR359_2 := Aside0.mk hi359_2
      have HC359_2 := Aside0.mk hl359_2
      clear hi359_2 hl359_2
      have HR359_3 := Aside0.mk hi359_3
      have HC359_3 := Aside0.mk hl359_3
      clear hi359_3 hl359_3
      replace p359 := eq_true p359
      replace q359 := eq_true q359
      go_wp2
      go_ret
      exact ⟨by first | rfl | (simp <;> rfl) | (simp [*] <;> rfl), by with_reducible repeat first | exact HB.out | apply bA | apply bN | apply bD | refine bS ?_ GE358.out⟩
     ·
      rw [if_neg c5] at H
      have c5b0 : decide (20 < (((rd_T31 l0_5 x3_1).f2).length : Int)) = false := decide_eq_false c5
      have c5b1 : decide (20 < ((rd_T31 l0_5 x3_1).f2).length) = false := decide_eq_false (by omega)
      clear c5
      by_cases c7 : (((rd_T31 l0_5 x3_1).f3).length : Int) > 20
      ·
       rw [if_pos c7] at H
       have c7b0 : decide (20 < (((rd_T31 l0_5 x3_1).f3).length : Int)) = true := decide_eq_true c7
       have c7b1 : decide (20 < ((rd_T31 l0_5 x3_1).f3).length) = true := decide_eq_true (by omega)
       clear c7
       obtain rfl := Option.some.inj H
       obtain ⟨hcz8_0, hcz8_1, hcz8_2, hcz8_3, hcz8_4, hcz8_5, hfz8_0, hfz8_1, hfz8_2, hfz8_3, hfz8_4, hfz8_5⟩ := bc6 BK358.out
       have p359 : 0 ≤ (x3_1 : Int) := of_decide_eq_true (by first | (with_reducible assumption) | assumption)
       have q359 : x3_1 < (l0_5.length : Int) := of_decide_eq_true (by first | (with_reducible assumption) | assumption)
       obtain ⟨ad359, A359_2, c359_2, A359_3, c359_3, e359, hx359_0, hx359_1, hx359_2, hx359_3, hl359_2, hi359_2, hl359_3, hi359_3⟩ := at_T31 HR0_5.out x3_1 p359 q359
       cases e359
       replace hx359_0 := cB HB.out hx359_0
       replace hx359_1 := cB HB.out hx359_1
       replace hx359_2 := cB HB.out hx359_2
       replace hx359_3 := cB HB.out hx359_3
       have HR359_2 := Aside0.mk hi359_2
       have HC359_2 := Aside0.mk hl359_2
       clear hi359_2 hl359_2
       have HR359_3 := Aside0.mk hi359_3
       have HC359_3 := Aside0.mk hl359_3
       clear hi359_3 hl359_3
       replace p359 := eq_true p359
       replace q359 := eq_true q359
       have p360 : 0 ≤ (x3_1 : Int) := of_decide_eq_true (by first | (with_reducible assumption) | assumption)
       have q360 : x3_1 < (l0_5.length : Int) := of_decide_eq_true (by first | (with_reducible assumption) | assumption)
       obtain ⟨ad360, A360_2, c360_2, A360_3, c360_3, e360, hx360_0, hx360_1, hx360_2, hx360_3, hl360_2, hi360_2, hl360_3, hi360_3⟩ := at_T31 HR0_5.out x3_1 p360 q360
       obtain rfl : ad359 = ad360 := (by injection e360)
       replace hx360_0 := cB HB.out hx360_0
       replace hx360_1 := cB HB.out hx360_1
       replace hx360_2 := cB HB.out hx360_2
       replace hx360_3 := cB HB.out hx360_3
       have HR360_2 := Aside0.mk hi360_2
       have HC360_2 := Aside0.mk hl360_2
       clear hi360_2 hl360_2
       have HR360_3 := Aside0.mk hi360_3
       have HC360_3 := Aside0.mk hl360_3
       clear hi360_3 hl360_3
       replace p360 := eq_true p360
       replace q360 := eq_true q360
       have ea_ := Option.some.inj (hx359_2.symm.trans hx360_2)
       injection ea_ with ea_ en_ ec_
       subst ea_
       subst ec_
       clear en_
       have ea_ := Option.some.inj (hx359_3.symm.trans hx360_3)
       injection ea_ with ea_ en_ ec_
       subst ea_
       subst ec_
       clear en_
       go_wp2
       go_ret
       exact ⟨by first | rfl | (simp <;> rfl) | (simp [*] <;> rfl), by with_reducible repeat first | exact HB.out | apply bA | apply bN | apply bD | refine bS ?_ GE358.out⟩
      ·
       rw [if_neg c7] at H
       have c7b0 : decide (20 < (((rd_T31 l0_5 x3_1).f3).length : Int)) = false := decide_eq_false c7
       have c7b1 : decide (20 < ((rd_T31 l0_5 x3_1).f3).length) = false := decide_eq_false (by omega)
       clear c7
       have H' := Aside0.mk H
       clear H
       obtain ⟨hcz9_0, hcz9_1, hcz9_2, hcz9_3, hcz9_4, hcz9_5, hfz9_0, hfz9_1, hfz9_2, hfz9_3, hfz9_4, hfz9_5⟩ := bc6 BK358.out
       have p359 : 0 ≤ (x3_1 : Int) := of_decide_eq_true (by first | (with_reducible assumption) | assumption)
       have q359 : x3_1 < (l0_5.length : Int) := of_decide_eq_true (by first | (with_reducible assumption) | assumption)
       obtain ⟨ad359, A359_2, c359_2, A359_3, c359_3, e359, hx359_0, hx359_1, hx359_2, hx359_3, hl359_2, hi359_2, hl359_3, hi359_3⟩ := at_T31 HR0_5.out x3_1 p359 q359
       cases e359
       replace hx359_0 := cB HB.out hx359_0
       replace hx359_1 := cB HB.out hx359_1
       replace hx359_2 := cB HB.out hx359_2
       replace hx359_3 := cB HB.out hx359_3
       have HR359_2 := Aside0.mk hi359_2
       have HC359_2 := Aside0.mk hl359_2
       clear hi359_2 hl359_2
       have HR359_3 := Aside0.mk hi359_3
       have HC359_3 := Aside0.mk hl359_3
       clear hi359_3 hl359_3
       replace p359 := eq_true p359
       replace q359 := eq_true q359
       have p360 : 0 ≤ (x3_1 : Int) := of_decide_eq_true (by first | (with_reducible assumption) | assumption)
       have q360 : x3_1 < (l0_5.length : Int) := of_decide_eq_true (by first | (with_reducible assumption) | assumption)
       obtain ⟨ad360, A360_2, c360_2, A360_3, c360_3, e360, hx360_0, hx360_1, hx360_2, hx360_3, hl360_2, hi360_2, hl360_3, hi360_3⟩ := at_T31 HR0_5.out x3_1 p360 q360
       obtain rfl : ad359 = ad360 := (by injection e360)
       replace hx360_0 := cB HB.out hx360_0
       replace hx360_1 := cB HB.out hx360_1
       replace hx360_2 := cB HB.out hx360_2
       replace hx360_3 := cB HB.out hx360_3
       have HR360_2 := Aside0.mk hi360_2
       have HC360_2 := Aside0.mk hl360_2
       clear hi360_2 hl360_2
       have HR360_3 := Aside0.mk hi360_3
       have HC360_3 := Aside0.mk hl360_3
       clear hi360_3 hl360_3
       replace p360 := eq_true p360
       replace q360 := eq_true q360
       have ea_ := Option.some.inj (hx359_2.symm.trans hx360_2)
       injection ea_ with ea_ en_ ec_
       subst ea_
       subst ec_
       clear en_
       have ea_ := Option.some.inj (hx359_3.symm.trans hx360_3)
       injection ea_ with ea_ en_ ec_
       subst ea_
       subst ec_
       clear en_
       go_wp2
       go_roundg k1
       case measure => have := HK1.out; omega
       case rel => exact ⟨(wrap64 (x3_1 + 1)), (by first | rfl | (simp; done) | (simp [*]; done)), H', ⟨by have := HK1.out; omega⟩, ⟨by (with_reducible repeat first | apply kN | apply kD | apply kA); exact BK358.out⟩, ⟨by with_reducible repeat first | exact HB.out | apply bA | apply bN | apply bD | refine bS ?_ GE358.out⟩⟩
    ·
     rw [if_neg c4] at H
     exact absurd H (by simp)
   ·
    rw [if_neg c3] at H
    have c3b0 : decide (x3_1 < (l0_5.length : Int)) = false := decide_eq_false c3
    clear c3
    by_cases c10 : (l0_4.length : Int) ≤ 20
    ·
     rw [if_pos c10] at H
     have c10b0 : decide ((l0_4.length : Int) ≤ 20) = true := decide_eq_true c10
     have c10b1 : decide (l0_4.length ≤ 20) = true := decide_eq_true (by omega)
     clear c10
     obtain rfl := Option.some.inj H
     obtain ⟨hcz11_0, hcz11_1, hcz11_2, hcz11_3, hcz11_4, hcz11_5, hfz11_0, hfz11_1, hfz11_2, hfz11_3, hfz11_4, hfz11_5⟩ := bc6 BK358.out
     go_wp2
     go_ret
     exact ⟨by first | rfl | (simp <;> rfl) | (simp [*] <;> rfl), by with_reducible repeat first | exact HB.out | apply bA | apply bN | apply bD | refine bS ?_ GE358.out⟩
    ·
     rw [if_neg c10] at H
     have c10b0 : decide ((l0_4.length : Int) ≤ 20) = false := decide_eq_false c10
     have c10b1 : decide (l0_4.length ≤ 20) = false := decide_eq_false (by omega)
     clear c10
     obtain rfl := Option.some.inj H
     obtain ⟨hcz12_0, hcz12_1, hcz12_2, hcz12_3, hcz12_4, hcz12_5, hfz12_0, hfz12_1, hfz12_2, hfz12_3, hfz12_4, hfz12_5⟩ := bc6 BK358.out
     go_wp2
     go_ret
     exact ⟨by first | rfl | (simp <;> rfl) | (simp [*] <;> rfl), by with_reducible repeat first | exact HB.out | apply bA | apply bN | apply bD | refine bS ?_ GE358.out⟩

/-! ### ridgewaylaw17_short: function 14 -/
def ridgewaylaw17_short.f (k : Nat) (a0_0 : Int) (a0_1 : Int) (a0_2 : Int) (a0_3 : Int) (l0_4 : List (S62)) (l0_5 : List (S31)) (a1_0 : Int) (l1_1 : List Int) : Option (Bool) := (ridgewayref12_Few.f k a0_0 a0_1 a0_2 a0_3 l0_4 l0_5).bind fun t363 => (if t363 = true then (some (decide ((l1_1.length : Int) ≤ 5000))) else (some false))
theorem ridgewaylaw17_short.mono : ∀ a0 a1 a2 a3 a4 a5 a6 a7 k, LeO (ridgewaylaw17_short.f k a0 a1 a2 a3 a4 a5 a6 a7) (ridgewaylaw17_short.f (k + 1) a0 a1 a2 a3 a4 a5 a6 a7) := by
 intro a0 a1 a2 a3 a4 a5 a6 a7 k
 unfold ridgewaylaw17_short.f
 repeat' first
   | (with_reducible exact ridgewayref12_Few.mono _ _ _ _ _ _ _)
   | (with_reducible exact LeO.refl _)
   | (with_reducible exact LeO.none _)
   | (with_reducible refine LeO.ite ?_ ?_)
   | (with_reducible refine LeO.bind ?_ (fun _ => ?_))
   | exact ridgewayref12_Few.mono _ _ _ _ _ _ _
   | exact LeO.none _
   | refine LeO.ite ?_ ?_
   | refine LeO.bind ?_ (fun _ => ?_)
set_option maxHeartbeats 8000000 in
set_option maxRecDepth 100000 in
theorem ridgewaylaw17_short.calls (k : Nat) (a0_0 : Int) (a0_1 : Int) (a0_2 : Int) (a0_3 : Int) (A0_4 : Option Addr) (c0_4 : Nat) (l0_4 : List (S62)) (A0_5 : Option Addr) (c0_5 : Nat) (l0_5 : List (S31)) (a1_0 : Int) (A1_1 : Option Addr) (c1_1 : Nat) (l1_1 : List Int) (r : Bool) (w : World) (hr0_4 : Kd.C k62 w A0_4 l0_4.length l0_4) (hc0_4 : l0_4.length ≤ c0_4) (hr0_5 : Kd.C k31 w A0_5 l0_5.length l0_5) (hc0_5 : l0_5.length ≤ c0_5) (hr1_1 : Kd.C (Kd.int .u8) w A1_1 l1_1.length l1_1) (hc1_1 : l1_1.length ≤ c1_1) (h : ridgewaylaw17_short.f k a0_0 a0_1 a0_2 a0_3 l0_4 l0_5 a1_0 l1_1 = some r) :
  Calls Tryd.prog 14 #[.agg #[.int .i64 a0_0, .int .i64 a0_1, .int .i64 a0_2, .int .i64 a0_3, .slice A0_4 l0_4.length c0_4, .slice A0_5 l0_5.length c0_5], .agg #[.int .i64 a1_0, .slice A1_1 l1_1.length c1_1]] w fun e w' => e = .returned (.bool r) ∧ Below w.heap.size w w' := by
 have hu26 := Tryd.underlying26
 have hu45 := Tryd.underlying45
 have HR0_4 := Aside0.mk hr0_4
 have HC0_4 := Aside0.mk hc0_4
 clear hr0_4 hc0_4
 have HR0_5 := Aside0.mk hr0_5
 have HC0_5 := Aside0.mk hc0_5
 clear hr0_5 hc0_5
 have HR1_1 := Aside0.mk hr1_1
 have HC1_1 := Aside0.mk hc1_1
 clear hr1_1 hc1_1
 have HB := Aside0.mk (Below.refl w.heap.size w)
 have H : ((ridgewayref12_Few.f k a0_0 a0_1 a0_2 a0_3 l0_4 l0_5).bind fun t363 => (if t363 = true then (some (decide ((l1_1.length : Int) ≤ 5000))) else (some false))) = some r := h
 clear h
 replace H := Option.bind_eq_some_iff.mp H
 obtain ⟨t363, A30, H⟩ := H
 replace H : (if t363 = true then (some (decide ((l1_1.length : Int) ≤ 5000))) else (some false)) = some r := H
 have A3 := Aside0.mk A30
 clear A30
 by_cases c4 : t363 = true
 ·
  subst c4
  have H1 : (some (decide ((l1_1.length : Int) ≤ 5000))) = some r := by rw [if_pos rfl] at H; first | done | exact H
  clear H
  have H := H1
  clear H1
  obtain rfl := Option.some.inj H
  go_enter Tryd.func14, Tryd.ntmps14
  go_wp2_with (first | ((with_reducible refine gate_dst (N := 2) rfl ?_); (try (refine gate_guard (by rfl) ?_; dsimp only)); refine box_event ?hg (N := 2) ?hd (cs := #[.int .i64 a0_0, .int .i64 a0_1, .int .i64 a0_2, .int .i64 a0_3, .slice A0_4 l0_4.length c0_4, .slice A0_5 l0_5.length c0_5]) (t := 26) ?hr ?_; (case hd | hg => rfl); (case hr => first | (go_simp; done) | (go_simp; rfl)); intro gb361 hg w5 hbox hb; obtain ⟨hy, hz⟩ := bfst (by with_reducible repeat first | exact HB.out | apply bA | apply bN | apply bD) hb hg; replace HB := hy; have BK361 := Aside0.mk (hbox); have GE361 := hz; have GW361 := GE361; clear hy hz hb hbox hg) | ((with_reducible refine gate_dst (N := 3) rfl ?_); (try (refine gate_guard (by rfl) ?_; dsimp only)); refine box_event ?hg (N := 3) ?hd (cs := #[.int .i64 a1_0, .slice A1_1 l1_1.length c1_1]) (t := 45) ?hr ?_; (case hd | hg => rfl); (case hr => first | (go_simp; done) | (go_simp; rfl)); intro gb362 hg w6 hbox hb; have hz := bZ BK361.out (by with_reducible repeat first | apply bA | apply bN | apply bD | exact Below.refl _ _) hb; have hy := below_step hz hb; have n0_ := Aside0.mk (blk_below BK361.out hy); have n1_ := Aside0.mk (below_step HB.out hy); have BK362 := Aside0.mk (hbox); have n3_ := Aside0.mk (bge HB.out hz hg); have GE362 := n3_; obtain ⟨NB361_362, NB362_361⟩ := bne2 BK361.out hz hg; clear BK361; clear HB; have BK361 := n0_; have HB := n1_; have GW362 := n3_; clear n0_ n1_ n3_; clear hy hz hb hbox hg; have hnb7 := NB361_362.out; have hnc7 := NB362_361.out; obtain ⟨hcz8_0, hcz8_1, hcz8_2, hcz8_3, hcz8_4, hcz8_5, hfz8_0, hfz8_1, hfz8_2, hfz8_3, hfz8_4, hfz8_5⟩ := bc6 BK361.out) | ((with_reducible refine gate_callee (f := 20) rfl ?_); refine goesL_ (some 6) rfl rfl Tryd.func20 (by kernel_rfl) rfl #[.agg #[.int .i64 a0_0, .int .i64 a0_1, .int .i64 a0_2, .int .i64 a0_3, .slice A0_4 l0_4.length c0_4, .slice A0_5 l0_5.length c0_5]] rfl (by (try simp only [List.map_toArray, List.map_cons, List.map_nil]); first | done | rfl | (simp only [List.length_drop, List.length_take]; rfl)) ?_; (with_reducible refine (ridgewayref12_Few.calls k a0_0 a0_1 a0_2 a0_3 _ _ l0_4 _ _ l0_5 true _ ?side1 ?side2 ?side3 ?side4 A3.out).mono ?_); (case side1 => repeat first | exact (Kd.C_below HR0_4.out HB.out) | with_reducible first | apply Kd.C_alloc | apply Kd.C_drewN | apply Kd.C_drew); (case side2 => exact HC0_4.out); (case side3 => repeat first | exact (Kd.C_below HR0_5.out HB.out) | with_reducible first | apply Kd.C_alloc | apply Kd.C_drewN | apply Kd.C_drew); (case side4 => exact HC0_5.out); rintro e w9 ⟨rfl, hb⟩; refine ⟨_, rfl, ?_⟩; have hy := bQ BK361.out (by with_reducible repeat first | apply bA | apply bN | apply bD | exact Below.refl _ _) hb; replace BK361 := Aside0.mk (blk_below BK361.out hy); replace BK362 := Aside0.mk (blk_below BK362.out hy); replace HB := Aside0.mk (below_step HB.out hy); clear hy; (try clear hb); (try clear hb2); (try clear hk); (try clear hi); obtain ⟨hcz10_0, hcz10_1, hfz10_0, hfz10_1⟩ := bc2 BK362.out))
  go_ret
  exact ⟨by first | rfl | (simp <;> rfl) | (simp [*] <;> rfl), by with_reducible repeat first | exact HB.out | apply bA | apply bN | apply bD | refine bS ?_ GE361.out | refine bS ?_ GE362.out⟩
 ·
  replace c4 := Bool.eq_false_iff.mpr c4
  subst c4
  have H1 : (some false) = some r := by rw [if_neg (show ¬ (false = true) by decide)] at H; first | done | exact H
  clear H
  have H := H1
  clear H1
  obtain rfl := Option.some.inj H
  go_enter Tryd.func14, Tryd.ntmps14
  go_wp2_with (first | ((with_reducible refine gate_dst (N := 2) rfl ?_); (try (refine gate_guard (by rfl) ?_; dsimp only)); refine box_event ?hg (N := 2) ?hd (cs := #[.int .i64 a0_0, .int .i64 a0_1, .int .i64 a0_2, .int .i64 a0_3, .slice A0_4 l0_4.length c0_4, .slice A0_5 l0_5.length c0_5]) (t := 26) ?hr ?_; (case hd | hg => rfl); (case hr => first | (go_simp; done) | (go_simp; rfl)); intro gb361 hg w11 hbox hb; obtain ⟨hy, hz⟩ := bfst (by with_reducible repeat first | exact HB.out | apply bA | apply bN | apply bD) hb hg; replace HB := hy; have BK361 := Aside0.mk (hbox); have GE361 := hz; have GW361 := GE361; clear hy hz hb hbox hg) | ((with_reducible refine gate_dst (N := 3) rfl ?_); (try (refine gate_guard (by rfl) ?_; dsimp only)); refine box_event ?hg (N := 3) ?hd (cs := #[.int .i64 a1_0, .slice A1_1 l1_1.length c1_1]) (t := 45) ?hr ?_; (case hd | hg => rfl); (case hr => first | (go_simp; done) | (go_simp; rfl)); intro gb362 hg w12 hbox hb; have hz := bZ BK361.out (by with_reducible repeat first | apply bA | apply bN | apply bD | exact Below.refl _ _) hb; have hy := below_step hz hb; have n0_ := Aside0.mk (blk_below BK361.out hy); have n1_ := Aside0.mk (below_step HB.out hy); have BK362 := Aside0.mk (hbox); have n3_ := Aside0.mk (bge HB.out hz hg); have GE362 := n3_; obtain ⟨NB361_362, NB362_361⟩ := bne2 BK361.out hz hg; clear BK361; clear HB; have BK361 := n0_; have HB := n1_; have GW362 := n3_; clear n0_ n1_ n3_; clear hy hz hb hbox hg; have hnb13 := NB361_362.out; have hnc13 := NB362_361.out; obtain ⟨hcz14_0, hcz14_1, hcz14_2, hcz14_3, hcz14_4, hcz14_5, hfz14_0, hfz14_1, hfz14_2, hfz14_3, hfz14_4, hfz14_5⟩ := bc6 BK361.out) | ((with_reducible refine gate_callee (f := 20) rfl ?_); refine goesL_ (some 6) rfl rfl Tryd.func20 (by kernel_rfl) rfl #[.agg #[.int .i64 a0_0, .int .i64 a0_1, .int .i64 a0_2, .int .i64 a0_3, .slice A0_4 l0_4.length c0_4, .slice A0_5 l0_5.length c0_5]] rfl (by (try simp only [List.map_toArray, List.map_cons, List.map_nil]); first | done | rfl | (simp only [List.length_drop, List.length_take]; rfl)) ?_; (with_reducible refine (ridgewayref12_Few.calls k a0_0 a0_1 a0_2 a0_3 _ _ l0_4 _ _ l0_5 false _ ?side1 ?side2 ?side3 ?side4 A3.out).mono ?_); (case side1 => repeat first | exact (Kd.C_below HR0_4.out HB.out) | with_reducible first | apply Kd.C_alloc | apply Kd.C_drewN | apply Kd.C_drew); (case side2 => exact HC0_4.out); (case side3 => repeat first | exact (Kd.C_below HR0_5.out HB.out) | with_reducible first | apply Kd.C_alloc | apply Kd.C_drewN | apply Kd.C_drew); (case side4 => exact HC0_5.out); rintro e w15 ⟨rfl, hb⟩; refine ⟨_, rfl, ?_⟩; have hy := bQ BK361.out (by with_reducible repeat first | apply bA | apply bN | apply bD | exact Below.refl _ _) hb; replace BK361 := Aside0.mk (blk_below BK361.out hy); replace BK362 := Aside0.mk (blk_below BK362.out hy); replace HB := Aside0.mk (below_step HB.out hy); clear hy; (try clear hb); (try clear hb2); (try clear hk); (try clear hi)))
  go_ret
  exact ⟨by first | rfl | (simp <;> rfl) | (simp [*] <;> rfl), by with_reducible repeat first | exact HB.out | apply bA | apply bN | apply bD | refine bS ?_ GE361.out | refine bS ?_ GE362.out⟩

/-! ### session_Tick: function 18 -/
def session_Tick.l0 : Nat → List (S45) → Int → Int → Int → Int → Int → Int → Option (Int × Int × Int × Int × (List (S45)))
 | 0, _, _, _, _, _, _, _ => none
 | k + 1, x6, x13, x14, x365000, x365001, x365002, x365003 => if x14 < x13 then (if x365002 = 0 then (some (x365000, x365001, x365002, x365003, x6)) else (if x365002 = 1 then ((session_Stop.f x365000 x365001 x365002 x365003 4 0 ([] : List Int)).bind fun bt370 => (if x6.length + bt370.2.2.2.2.length < 4398046511104 then (some (bt370.1, bt370.2.1, bt370.2.2.1, bt370.2.2.2.1, (x6 ++ bt370.2.2.2.2))) else (none))) else (if x365003 = 1 then (if x6.length < 4398046511104 then ((some (x6 ++ [(⟨4, ([] : List Int)⟩ : S45)] : List (S45))).bind fun y381 => (if (wrap64 (x365003 + (wrap64 (Int.tdiv x365001 3)))) > 0 then (session_Tick.l0 k y381 x13 (wrap64 (x14 + 1)) x365000 x365001 (wrap64 (x365002 - 1)) (wrap64 ((wrap64 (x365003 + (wrap64 (Int.tdiv x365001 3)))) - 1))) else (session_Tick.l0 k y381 x13 (wrap64 (x14 + 1)) x365000 x365001 (wrap64 (x365002 - 1)) (wrap64 (x365003 + (wrap64 (Int.tdiv x365001 3))))))) else (none)) else (if x365003 > 0 then (session_Tick.l0 k x6 x13 (wrap64 (x14 + 1)) x365000 x365001 (wrap64 (x365002 - 1)) (wrap64 (x365003 - 1))) else (session_Tick.l0 k x6 x13 (wrap64 (x14 + 1)) x365000 x365001 (wrap64 (x365002 - 1)) x365003))))) else (some (x365000, x365001, x365002, x365003, x6))
def session_Tick.f (k : Nat) (a0_0 : Int) (a0_1 : Int) (a0_2 : Int) (a0_3 : Int) (a1 : Int) : Option (Int × Int × Int × Int × (List (S45))) := (session_known.f a0_0 a0_1 a0_2 a0_3).bind fun bt366 => (session_Tick.l0 k ([] : List (S45)) (mx 0 (mn a1 1000)) 0 bt366.1 bt366.2.1 bt366.2.2.1 bt366.2.2.2)
theorem session_Tick.mono_l : ∀ k, (∀ y0 y1 y2 y3 y4 y5 y6, LeO (session_Tick.l0 k y0 y1 y2 y3 y4 y5 y6) (session_Tick.l0 (k + 1) y0 y1 y2 y3 y4 y5 y6))
 | 0 => fun _ _ _ _ _ _ _ r h => by simp [session_Tick.l0] at h
 | k + 1 => by
  have ih0 := session_Tick.mono_l k
  ·
   intro y0 y1 y2 y3 y4 y5 y6
   unfold session_Tick.l0
   repeat' first
   | (with_reducible exact ih0 _ _ _ _ _ _ _)
   | (with_reducible exact LeO.refl _)
   | (with_reducible exact LeO.none _)
   | (with_reducible refine LeO.ite ?_ ?_)
   | (with_reducible refine LeO.bind ?_ (fun _ => ?_))
   | exact ih0 _ _ _ _ _ _ _
   | exact LeO.none _
   | refine LeO.ite ?_ ?_
   | refine LeO.bind ?_ (fun _ => ?_)
theorem session_Tick.mono : ∀ a0 a1 a2 a3 a4 k, LeO (session_Tick.f k a0 a1 a2 a3 a4) (session_Tick.f (k + 1) a0 a1 a2 a3 a4) := by
 intro a0 a1 a2 a3 a4 k
 have ih0 := session_Tick.mono_l k
 unfold session_Tick.f
 repeat' first
   | (with_reducible exact ih0 _ _ _ _ _ _ _)
   | (with_reducible exact LeO.refl _)
   | (with_reducible exact LeO.none _)
   | (with_reducible refine LeO.ite ?_ ?_)
   | (with_reducible refine LeO.bind ?_ (fun _ => ?_))
   | exact ih0 _ _ _ _ _ _ _
   | exact LeO.none _
   | refine LeO.ite ?_ ?_
   | refine LeO.bind ?_ (fun _ => ?_)
set_option maxHeartbeats 8000000 in
set_option maxRecDepth 100000 in
theorem session_Tick.calls (k : Nat) (a0_0 : Int) (a0_1 : Int) (a0_2 : Int) (a0_3 : Int) (a1 : Int) (r1 : Int) (r2 : Int) (r3 : Int) (r4 : Int) (r5 : List (S45)) (w : World) (h : session_Tick.f k a0_0 a0_1 a0_2 a0_3 a1 = some (r1, r2, r3, r4, r5)) :
  Calls Tryd.prog 18 #[.agg #[.int .i64 a0_0, .int .i64 a0_1, .int .i64 a0_2, .int .i64 a0_3], .int .i64 a1] w fun e w' => ∃ v4_ : Value, e = .returned (.tuple #[.agg #[.int .i64 r1, .int .i64 r2, .int .i64 r3, .int .i64 r4], v4_]) ∧ Kd.N k45 45 w' w.heap.size (fun k_ => (w.heap.size ≤ k_)) v4_ r5 ∧ Below w.heap.size w w' := by
 have hu34 := Tryd.underlying34
 have hu41 := Tryd.underlying41
 have hu45 := Tryd.underlying45
 have HB := Aside0.mk (Below.refl w.heap.size w)
 have H : ((session_known.f a0_0 a0_1 a0_2 a0_3).bind fun bt366 => (session_Tick.l0 k ([] : List (S45)) (mx 0 (mn a1 1000)) 0 bt366.1 bt366.2.1 bt366.2.2.1 bt366.2.2.2)) = some (r1, r2, r3, r4, r5) := h
 clear h
 replace H := Option.bind_eq_some_iff.mp H
 obtain ⟨⟨t366, t367, t368, t369⟩, A30, H⟩ := H
 replace H : (session_Tick.l0 k ([] : List (S45)) (mx 0 (mn a1 1000)) 0 t366 t367 t368 t369) = some (r1, r2, r3, r4, r5) := H
 have A3 := Aside0.mk A30
 clear A30
 obtain ⟨ji4, hji4⟩ : ∃ j_ : Int, (mn a1 1000) = j_ := ⟨_, rfl⟩
 replace H : (session_Tick.l0 k ([] : List (S45)) (mx 0 (ji4)) 0 t366 t367 t368 t369) = some (r1, r2, r3, r4, r5) := by first | (rw [hji4] at H; exact H) | (simp only [hji4] at H ⊢; exact H)
 (try rw [hji4] at A3)
 (try (have hji4h : ji4 ≤ 1000 := by (rw [← hji4]; unfold mn; (repeat' split) <;> omega)))
 (try (have hji4g : ji4 ≤ 64 := by omega))
 have hji4_ : (if 1000 < a1 then 1000 else a1) = ji4 := hji4
 obtain ⟨ji5, hji5⟩ : ∃ j_ : Int, (mx 0 (ji4)) = j_ := ⟨_, rfl⟩
 replace H : (session_Tick.l0 k ([] : List (S45)) ji5 0 t366 t367 t368 t369) = some (r1, r2, r3, r4, r5) := by first | (rw [hji5] at H; exact H) | (simp only [hji5] at H ⊢; exact H)
 (try rw [hji5] at A3)
 have hji5_ : (if 0 < (ji4) then (ji4) else 0) = ji5 := hji5
 have H' := Aside0.mk H
 clear H
 go_enter Tryd.func18, Tryd.ntmps18
 go_wp2_with (first | ((with_reducible refine gate_dst (N := 2) rfl ?_); refine box_event ?hg (N := 2) ?hd (cs := #[.int .i64 a0_0, .int .i64 a0_1, .int .i64 a0_2, .int .i64 a0_3]) (t := 34) ?hr ?_; (case hd | hg => rfl); (case hr => first | (go_simp; done) | (go_simp; rfl)); intro gb364 hg w6 hbox hb; obtain ⟨hy, hz⟩ := bfst (by with_reducible repeat first | exact HB.out | apply bA | apply bN | apply bD) hb hg; replace HB := hy; have BK364 := Aside0.mk (hbox); have GE364 := hz; have GW364 := GE364; clear hy hz hb hbox hg) | ((with_reducible refine gate_dst (N := 4) rfl ?_); refine box_event ?hg (N := 4) ?hd (cs := #[.int .i64 0, .int .i64 0, .int .i64 0, .int .i64 0]) (t := 34) ?hr ?_; (case hd | hg => rfl); (case hr => first | (go_simp; done) | (go_simp; rfl)); intro gb365 hg w7 hbox hb; have hz := bZ BK364.out (by with_reducible repeat first | apply bA | apply bN | apply bD | exact Below.refl _ _) hb; have hy := below_step hz hb; have n0_ := Aside0.mk (blk_below BK364.out hy); have n1_ := Aside0.mk (below_step HB.out hy); have BK365 := Aside0.mk (hbox); have n3_ := Aside0.mk (bge HB.out hz hg); have GE365 := n3_; obtain ⟨NB364_365, NB365_364⟩ := bne2 BK364.out hz hg; clear BK364; clear HB; have BK364 := n0_; have HB := n1_; have GW365 := n3_; clear n0_ n1_ n3_; clear hy hz hb hbox hg; have hnb8 := NB364_365.out; have hnc8 := NB365_364.out; obtain ⟨hcz9_0, hcz9_1, hcz9_2, hcz9_3, hfz9_0, hfz9_1, hfz9_2, hfz9_3⟩ := bc4 BK364.out) | ((with_reducible refine gate_callee (f := 25) rfl ?_); refine goesL_ (some 10) rfl rfl Tryd.func25 (by kernel_rfl) rfl #[.agg #[.int .i64 a0_0, .int .i64 a0_1, .int .i64 a0_2, .int .i64 a0_3]] rfl (by (try simp only [List.map_toArray, List.map_cons, List.map_nil]); first | done | rfl | (simp only [List.length_drop, List.length_take]; rfl)) ?_; (with_reducible refine (session_known.calls a0_0 a0_1 a0_2 a0_3 t366 t367 t368 t369 _ A3.out).mono ?_); rintro e w10 ⟨rfl, hb⟩; refine ⟨_, rfl, ?_⟩; have hy := bQ BK364.out (by with_reducible repeat first | apply bA | apply bN | apply bD | exact Below.refl _ _) hb; replace BK364 := Aside0.mk (blk_below BK364.out hy); replace BK365 := Aside0.mk (blk_below BK365.out hy); replace HB := Aside0.mk (below_step HB.out hy); clear hy; (try clear hb); (try clear hb2); (try clear hk); (try clear hi); obtain ⟨hcz11_0, hcz11_1, hcz11_2, hcz11_3, hfz11_0, hfz11_1, hfz11_2, hfz11_3⟩ := bc4 BK364.out))
 go_loopg [6, 14] k (fun kq v6 v14 w' => ∃ (x6_1 : List (S45)) (x14_1 : Int) (x365002_1 : Int) (x365003_1 : Int) (x366000_1 : Int) (x366001_1 : Int) (x366002_1 : Int) (x366003_1 : Int), v14 = .int .i64 x14_1 ∧ Aside0 (session_Tick.l0 kq x6_1 ji5 x14_1 t366 t367 x365002_1 x365003_1 = some (r1, r2, r3, r4, r5)) ∧ Aside0 (kq ≤ k) ∧ Aside0 (Kd.N k45 45 w' w.heap.size (fun k_ => (w.heap.size ≤ k_) ∧ k_ ≠ gb364 ∧ k_ ≠ gb365) v6 x6_1) ∧ Aside0 (w'.heap[gb364]? = some (.cells #[.int .i64 t366, .int .i64 t367, .int .i64 x365002_1, .int .i64 x365003_1] 34 (0, 0))) ∧ Aside0 (w'.heap[gb365]? = some (.cells #[.int .i64 x366000_1, .int .i64 x366001_1, .int .i64 x366002_1, .int .i64 x366003_1] 34 (0, 0))) ∧ Aside0 (Below w.heap.size w w'))
 case atStart => exact ⟨(([] : List (S45))), (0), (t368), (t369), (0), (0), (0), (0), (by first | rfl | (simp; done) | (simp [*]; done)), H', ⟨Nat.le_refl _⟩, ⟨by first | exact Kd.S_nil _ _ _ _ _ | exact Kd.N_nil _ _ _ _ _ | exact Kd.V_nil _ _ _ _ _ | exact Kd.Q_nil _ _ _ _ _ | exact Kd.R_nil _ _ _ _ _⟩, ⟨by (with_reducible repeat first | apply kN | apply kD | apply kA); refine blk_put (cs := #[.int .i64 t366, .int .i64 t367, .int .i64 t368, .int .i64 a0_3]) ?_ 3 _ rfl; (with_reducible repeat first | apply kN | apply kD | apply kA); refine blk_put (cs := #[.int .i64 t366, .int .i64 t367, .int .i64 a0_2, .int .i64 a0_3]) ?_ 2 _ rfl; (with_reducible repeat first | apply kN | apply kD | apply kA); refine blk_put (cs := #[.int .i64 t366, .int .i64 a0_1, .int .i64 a0_2, .int .i64 a0_3]) ?_ 1 _ rfl; (with_reducible repeat first | apply kN | apply kD | apply kA); refine blk_put (cs := #[.int .i64 a0_0, .int .i64 a0_1, .int .i64 a0_2, .int .i64 a0_3]) ?_ 0 _ rfl; (with_reducible repeat first | apply kN | apply kD | apply kA); exact BK364.out⟩, ⟨by (with_reducible repeat first | apply kN | apply kD | apply kA); refine blk_far ?_ NB365_364.out _; (with_reducible repeat first | apply kN | apply kD | apply kA); refine blk_far ?_ NB365_364.out _; (with_reducible repeat first | apply kN | apply kD | apply kA); refine blk_far ?_ NB365_364.out _; (with_reducible repeat first | apply kN | apply kD | apply kA); refine blk_far ?_ NB365_364.out _; (with_reducible repeat first | apply kN | apply kD | apply kA); exact BK365.out⟩, ⟨by with_reducible repeat first | exact HB.out | apply bA | apply bN | apply bD | refine bS ?_ GE364.out | refine bS ?_ GE365.out⟩⟩
 case round =>
  clear H'
  try clear c1
  try clear c2
  try clear p2
  try clear c8
  try clear hcz11_0 hcz11_1 hcz11_2 hcz11_3
  try clear hcz9_0 hcz9_1 hcz9_2 hcz9_3
  try clear hfz11_0 hfz11_1 hfz11_2 hfz11_3
  try clear hfz9_0 hfz9_1 hfz9_2 hfz9_3
  obtain ⟨x6_1, x14_1, x365002_1, x365003_1, x366000_1, x366001_1, x366002_1, x366003_1, rfl, HA, HK1, HO_6, BK364, BK365, HB⟩ := hrel
  cases gk with
  | zero => exact absurd HA.out (by simp [session_Tick.l0])
  | succ k1 =>
   have H := HA.out
   clear HA
   simp only [session_Tick.l0] at H
   by_cases c12 : x14_1 < ji5
   ·
    rw [if_pos c12] at H
    have c12b0 : decide (x14_1 < ji5) = true := decide_eq_true c12
    clear c12
    by_cases c13 : x365002_1 = 0
    ·
     rw [if_pos c13] at H
     have c13b0 : (x365002_1 == 0) = true := beq_iff_eq.mpr c13
     have c13b1 : (x365002_1 != 0) = false := bne_eq_false_iff_eq.mpr c13
     clear c13
     simp only [Option.some.injEq, Prod.mk.injEq] at H
     obtain ⟨rfl, rfl, rfl, rfl, rfl⟩ := H
     have hnb14 := NB364_365.out
     have hnc14 := NB365_364.out
     obtain ⟨hcz15_0, hcz15_1, hcz15_2, hcz15_3, hfz15_0, hfz15_1, hfz15_2, hfz15_3⟩ := bc4 BK364.out
     obtain ⟨hcz16_0, hcz16_1, hcz16_2, hcz16_3, hfz16_0, hfz16_1, hfz16_2, hfz16_3⟩ := bc4 BK365.out
     go_wp2
     refine bodyPost_ret (results_ct rfl _ _ gb365 34 #[.int .i64 t366, .int .i64 t367, .int .i64 x365002_1, .int .i64 x365003_1] (0, 0) _ rfl (by (with_reducible repeat first | apply kN | apply kD | apply kA); refine blk_put (cs := #[.int .i64 t366, .int .i64 t367, .int .i64 x365002_1, .int .i64 x366003_1]) ?_ 3 _ rfl; (with_reducible repeat first | apply kN | apply kD | apply kA); refine blk_put (cs := #[.int .i64 t366, .int .i64 t367, .int .i64 x366002_1, .int .i64 x366003_1]) ?_ 2 _ rfl; (with_reducible repeat first | apply kN | apply kD | apply kA); refine blk_put (cs := #[.int .i64 t366, .int .i64 x366001_1, .int .i64 x366002_1, .int .i64 x366003_1]) ?_ 1 _ rfl; (with_reducible repeat first | apply kN | apply kD | apply kA); refine blk_put (cs := #[.int .i64 x366000_1, .int .i64 x366001_1, .int .i64 x366002_1, .int .i64 x366003_1]) ?_ 0 _ rfl; (with_reducible repeat first | apply kN | apply kD | apply kA); exact BK365.out) Tryd.underlying34 rfl (by kernel_rfl)) rfl ?_
     exact ⟨_, by first | rfl | (simp [errW_none, errW_some] <;> rfl) | (simp only [← hji4, ← hji5]; first | rfl | (simp [errW_none, errW_some] <;> rfl)) | (simp [*, errW_none, errW_some] <;> rfl), by (with_reducible repeat (first | apply Kd.N_alloc | apply Kd.N_drewN | apply Kd.N_drew)); exact Kd.N_mono (Kd.N_far (p := ⟨gb365, 3, none⟩) (Kd.N_far (p := ⟨gb365, 2, none⟩) (Kd.N_far (p := ⟨gb365, 1, none⟩) (Kd.N_far (p := ⟨gb365, 0, none⟩) (Kd.N_mono HO_6.out (fun k_ hk => (⟨hk, hk.2.2⟩ : _ ∧ k_ ≠ gb365))) (fun _ hk => hk.2) (.int .i64 t366)) (fun _ hk => hk.2) (.int .i64 t367)) (fun _ hk => hk.2) (.int .i64 x365002_1)) (fun _ hk => hk.2) (.int .i64 x365003_1)) (fun _ hk => hk.1.1), by with_reducible repeat first | exact HB.out | apply bA | apply bN | apply bD | refine bS ?_ GE364.out | refine bS ?_ GE365.out⟩
    ·
     rw [if_neg c13] at H
     have c13b0 : (x365002_1 == 0) = false := beq_eq_false_iff_ne.mpr c13
     have c13b1 : (x365002_1 != 0) = true := bne_iff_ne.mpr c13
     by_cases c17 : x365002_1 = 1
     ·
      rw [if_pos c17] at H
      have c17b0 : (x365002_1 == 1) = true := beq_iff_eq.mpr c17
      have c17b1 : (x365002_1 != 1) = false := bne_eq_false_iff_eq.mpr c17
      clear c17
      replace H := Option.bind_eq_some_iff.mp H
      obtain ⟨⟨t370, t371, t372, t373, t374⟩, A180, H⟩ := H
      replace H : (if x6_1.length + t374.length < 4398046511104 then (some (t370, t371, t372, t373, (x6_1 ++ t374))) else (none)) = some (r1, r2, r3, r4, r5) := H
      have A18 := Aside0.mk A180
      clear A180
      by_cases c19 : x6_1.length + t374.length < 4398046511104
      ·
       rw [if_pos c19] at H
       have LMc19 := Aside0.mk c19
       clear c19
       obtain ⟨y378, hy378⟩ : ∃ y_ : List (S45), y_ = (x6_1 ++ t374) := ⟨_, rfl⟩
       replace H : (some (t370, t371, t372, t373, y378)) = some (r1, r2, r3, r4, r5) := by first | (rw [hy378]; with_reducible exact H) | (have H2_ := (Option.bind_some _ _).symm.trans H; rw [hy378]; with_reducible exact H2_) | (have H2_ := (Option.bind_some _ _).symm.trans H; with_reducible exact H2_) | with_reducible exact H | (rw [hy378]; exact H) | exact H
       have Ny378 := Aside0.mk hy378
       clear hy378
       simp only [Option.some.injEq, Prod.mk.injEq] at H
       obtain ⟨rfl, rfl, rfl, rfl, rfl⟩ := H
       have hnb20 := NB364_365.out
       have hnc20 := NB365_364.out
       obtain ⟨hcz21_0, hcz21_1, hcz21_2, hcz21_3, hfz21_0, hfz21_1, hfz21_2, hfz21_3⟩ := bc4 BK364.out
       try go_wp2_with (first | ((with_reducible refine gate_callee (f := 39) rfl ?_); refine goesL_ (some 29) rfl rfl Tryd.func39 (by kernel_rfl) rfl #[.agg #[.int .i64 t366, .int .i64 t367, .int .i64 x365002_1, .int .i64 x365003_1], .agg #[.int .i64 4, .int .i64 0, .slice none 0 0]] rfl (by (try simp only [List.map_toArray, List.map_cons, List.map_nil]); first | done | rfl | (simp only [List.length_drop, List.length_take]; rfl)) ?_; (refine (session_Stop.calls t366 t367 x365002_1 x365003_1 4 0 _ _ ([] : List Int) t370 t371 t372 t373 t374 _ ?side1 ?side2 A18.out).mono ?_); (case side1 => exact Kd.C_nil _ _); (case side2 => exact Nat.le_refl _); rintro e w22 ⟨v375, rfl, ho0, hb⟩; refine ⟨_, rfl, ?_⟩; have HO376 := Aside0.mk (Kd.N_lower (Kd.N_mono (ok' := fun k_ => (w.heap.size ≤ k_) ∧ some k_ ≠ (u6 : Value).ownBlock ∧ k_ ≠ gb364 ∧ k_ ≠ gb365) ho0 (fun k_ hk_ => ⟨(Nat.le_trans (below_size (by with_reducible repeat first | exact HB.out | apply bA | apply bN | apply bD | refine bS ?_ GE364.out | refine bS ?_ GE365.out)) hk_), (Kd.fresh' (Kd.N_lt (by (with_reducible repeat (first | apply Kd.N_alloc | apply Kd.N_drewN | apply Kd.N_drew)); exact HO_6.out)) k_ hk_), (Kd.freshB (g := gb364) (o := .cells #[.int .i64 t366, .int .i64 t367, .int .i64 x365002_1, .int .i64 x365003_1] 34 (0, 0)) (by (with_reducible repeat first | apply kN | apply kD | apply kA); exact BK364.out) k_ hk_), (Kd.freshB (g := gb365) (o := .cells #[.int .i64 x366000_1, .int .i64 x366001_1, .int .i64 x366002_1, .int .i64 x366003_1] 34 (0, 0)) (by (with_reducible repeat first | apply kN | apply kD | apply kA); exact BK365.out) k_ hk_)⟩)) (below_size (by with_reducible repeat first | exact HB.out | apply bA | apply bN | apply bD | refine bS ?_ GE364.out | refine bS ?_ GE365.out))); replace HO_6 := Aside0.mk (Kd.N_elder' (by (with_reducible repeat (first | apply Kd.N_alloc | apply Kd.N_drewN | apply Kd.N_drew)); exact HO_6.out) (Kd.N_base ho0) hb); have hy := bQ BK364.out (by with_reducible repeat first | apply bA | apply bN | apply bD | exact Below.refl _ _) hb; replace BK364 := Aside0.mk (blk_below BK364.out hy); replace BK365 := Aside0.mk (blk_below BK365.out hy); replace HB := Aside0.mk (below_step HB.out hy); clear hy; (try clear hb); (try clear hb2); (try clear hk); (try clear hi); (try clear ho0)) | ((with_reducible refine gate_dst (N := 7) rfl ?_); refine box_event ?hg (N := 7) ?hd (cs := #[.int .i64 0, .int .i64 0, .int .i64 0, .int .i64 0]) (t := 34) ?hr ?_; (case hd | hg => rfl); (case hr => first | (go_simp; done) | (go_simp; rfl)); intro gb377 hg w23 hbox hb; have hz := bZ BK364.out (by with_reducible repeat first | apply bA | apply bN | apply bD | exact Below.refl _ _) hb; have hy := below_step hz hb; have n0_ := Aside0.mk (Kd.N_below (Kd.N_elderB (by (with_reducible repeat (first | apply Kd.N_alloc | apply Kd.N_drewN | apply Kd.N_drew)); exact HO_6.out) gb377 (Nat.le_of_eq hg.symm)) hb); have n1_ := Aside0.mk (Kd.N_below (Kd.N_elderB (by (with_reducible repeat (first | apply Kd.N_alloc | apply Kd.N_drewN | apply Kd.N_drew)); exact HO376.out) gb377 (Nat.le_of_eq hg.symm)) hb); have n2_ := Aside0.mk (blk_below BK364.out hy); have n3_ := Aside0.mk (blk_below BK365.out hy); have n4_ := Aside0.mk (below_step HB.out hy); have BK377 := Aside0.mk (hbox); have n6_ := Aside0.mk (bge HB.out hz hg); have GE377 := n6_; obtain ⟨NB364_377, NB377_364⟩ := bne2 BK364.out hz hg; obtain ⟨NB365_377, NB377_365⟩ := bne2 BK365.out hz hg; clear HO_6; clear HO376; clear BK364; clear BK365; clear HB; have HO_6 := n0_; have HO376 := n1_; have BK364 := n2_; have BK365 := n3_; have HB := n4_; have GW377 := n6_; clear n0_ n1_ n2_ n3_ n4_ n6_; clear hy hz hb hbox hg; have hnb24 := NB377_364.out; have hnc24 := NB364_377.out; have hnb25 := NB377_365.out; have hnc25 := NB365_377.out; obtain ⟨hcz26_0, hcz26_1, hcz26_2, hcz26_3, hfz26_0, hfz26_1, hfz26_2, hfz26_3⟩ := bc4 BK377.out))
       have n0_ : Aside0 (Kd.N k45 45 ((((w23.setCell ⟨gb377, 0, none⟩ (.int .i64 t370)).setCell ⟨gb377, 1, none⟩ (.int .i64 t371)).setCell ⟨gb377, 2, none⟩ (.int .i64 t372)).setCell ⟨gb377, 3, none⟩ (.int .i64 t373)) w.heap.size (fun k_ => (w.heap.size ≤ k_) ∧ some k_ ≠ (v375 : Value).ownBlock ∧ k_ ≠ gb364 ∧ k_ ≠ gb365 ∧ k_ ≠ gb377) u6 x6_1) := ⟨by (with_reducible repeat (first | apply Kd.N_alloc | apply Kd.N_drewN | apply Kd.N_drew)); exact Kd.N_mono (Kd.N_far (p := ⟨gb377, 3, none⟩) (Kd.N_far (p := ⟨gb377, 2, none⟩) (Kd.N_far (p := ⟨gb377, 1, none⟩) (Kd.N_far (p := ⟨gb377, 0, none⟩) (Kd.N_mono HO_6.out (fun k_ hk => (⟨hk, hk.2⟩ : _ ∧ k_ ≠ gb377))) (fun _ hk => hk.2) (.int .i64 t370)) (fun _ hk => hk.2) (.int .i64 t371)) (fun _ hk => hk.2) (.int .i64 t372)) (fun _ hk => hk.2) (.int .i64 t373)) (fun _ hk => ⟨hk.1.1.1.1, ⟨hk.1.1.2, ⟨hk.1.1.1.2.1, ⟨hk.1.1.1.2.2, hk.1.2⟩⟩⟩⟩)⟩
       have n1_ : Aside0 (Kd.N k45 45 ((((w23.setCell ⟨gb377, 0, none⟩ (.int .i64 t370)).setCell ⟨gb377, 1, none⟩ (.int .i64 t371)).setCell ⟨gb377, 2, none⟩ (.int .i64 t372)).setCell ⟨gb377, 3, none⟩ (.int .i64 t373)) w.heap.size (fun k_ => (w.heap.size ≤ k_) ∧ some k_ ≠ (u6 : Value).ownBlock ∧ k_ ≠ gb364 ∧ k_ ≠ gb365 ∧ k_ ≠ gb377) v375 t374) := ⟨by (with_reducible repeat (first | apply Kd.N_alloc | apply Kd.N_drewN | apply Kd.N_drew)); exact Kd.N_mono (Kd.N_far (p := ⟨gb377, 3, none⟩) (Kd.N_far (p := ⟨gb377, 2, none⟩) (Kd.N_far (p := ⟨gb377, 1, none⟩) (Kd.N_far (p := ⟨gb377, 0, none⟩) (Kd.N_mono HO376.out (fun k_ hk => (⟨hk, hk.2⟩ : _ ∧ k_ ≠ gb377))) (fun _ hk => hk.2) (.int .i64 t370)) (fun _ hk => hk.2) (.int .i64 t371)) (fun _ hk => hk.2) (.int .i64 t372)) (fun _ hk => hk.2) (.int .i64 t373)) (fun _ hk => ⟨hk.1.1.1, ⟨hk.1.1.2.1, ⟨hk.1.1.2.2.1, ⟨hk.1.1.2.2.2, hk.1.2⟩⟩⟩⟩)⟩
       have n2_ : Aside0 (((((w23.setCell ⟨gb377, 0, none⟩ (.int .i64 t370)).setCell ⟨gb377, 1, none⟩ (.int .i64 t371)).setCell ⟨gb377, 2, none⟩ (.int .i64 t372)).setCell ⟨gb377, 3, none⟩ (.int .i64 t373)).heap[gb364]? = some (.cells #[.int .i64 t366, .int .i64 t367, .int .i64 x365002_1, .int .i64 x365003_1] 34 (0, 0))) := ⟨by (with_reducible repeat first | apply kN | apply kD | apply kA); refine blk_far ?_ NB364_377.out _; (with_reducible repeat first | apply kN | apply kD | apply kA); refine blk_far ?_ NB364_377.out _; (with_reducible repeat first | apply kN | apply kD | apply kA); refine blk_far ?_ NB364_377.out _; (with_reducible repeat first | apply kN | apply kD | apply kA); refine blk_far ?_ NB364_377.out _; (with_reducible repeat first | apply kN | apply kD | apply kA); exact BK364.out⟩
       have n3_ : Aside0 (((((w23.setCell ⟨gb377, 0, none⟩ (.int .i64 t370)).setCell ⟨gb377, 1, none⟩ (.int .i64 t371)).setCell ⟨gb377, 2, none⟩ (.int .i64 t372)).setCell ⟨gb377, 3, none⟩ (.int .i64 t373)).heap[gb365]? = some (.cells #[.int .i64 x366000_1, .int .i64 x366001_1, .int .i64 x366002_1, .int .i64 x366003_1] 34 (0, 0))) := ⟨by (with_reducible repeat first | apply kN | apply kD | apply kA); refine blk_far ?_ NB365_377.out _; (with_reducible repeat first | apply kN | apply kD | apply kA); refine blk_far ?_ NB365_377.out _; (with_reducible repeat first | apply kN | apply kD | apply kA); refine blk_far ?_ NB365_377.out _; (with_reducible repeat first | apply kN | apply kD | apply kA); refine blk_far ?_ NB365_377.out _; (with_reducible repeat first | apply kN | apply kD | apply kA); exact BK365.out⟩
       have n4_ : Aside0 (((((w23.setCell ⟨gb377, 0, none⟩ (.int .i64 t370)).setCell ⟨gb377, 1, none⟩ (.int .i64 t371)).setCell ⟨gb377, 2, none⟩ (.int .i64 t372)).setCell ⟨gb377, 3, none⟩ (.int .i64 t373)).heap[gb377]? = some (.cells #[.int .i64 t370, .int .i64 t371, .int .i64 t372, .int .i64 t373] 34 (0, 0))) := ⟨by (with_reducible repeat first | apply kN | apply kD | apply kA); refine blk_put (cs := #[.int .i64 t370, .int .i64 t371, .int .i64 t372, .int .i64 0]) ?_ 3 _ rfl; (with_reducible repeat first | apply kN | apply kD | apply kA); refine blk_put (cs := #[.int .i64 t370, .int .i64 t371, .int .i64 0, .int .i64 0]) ?_ 2 _ rfl; (with_reducible repeat first | apply kN | apply kD | apply kA); refine blk_put (cs := #[.int .i64 t370, .int .i64 0, .int .i64 0, .int .i64 0]) ?_ 1 _ rfl; (with_reducible repeat first | apply kN | apply kD | apply kA); refine blk_put (cs := #[.int .i64 0, .int .i64 0, .int .i64 0, .int .i64 0]) ?_ 0 _ rfl; (with_reducible repeat first | apply kN | apply kD | apply kA); exact BK377.out⟩
       have n5_ : Aside0 (Below w.heap.size w ((((w23.setCell ⟨gb377, 0, none⟩ (.int .i64 t370)).setCell ⟨gb377, 1, none⟩ (.int .i64 t371)).setCell ⟨gb377, 2, none⟩ (.int .i64 t372)).setCell ⟨gb377, 3, none⟩ (.int .i64 t373))) := ⟨by with_reducible repeat first | exact HB.out | apply bA | apply bN | apply bD | refine bS ?_ GE364.out | refine bS ?_ GE365.out | refine bS ?_ GE377.out⟩
       (try clear HO_6)
       (try clear HO376)
       (try clear BK364)
       (try clear BK365)
       (try clear BK377)
       (try clear HB)
       generalize ((((w23.setCell ⟨gb377, 0, none⟩ (.int .i64 t370)).setCell ⟨gb377, 1, none⟩ (.int .i64 t371)).setCell ⟨gb377, 2, none⟩ (.int .i64 t372)).setCell ⟨gb377, 3, none⟩ (.int .i64 t373)) = w27 at n0_ n1_ n2_ n3_ n4_ n5_ ⊢
       have HO_6 := n0_
       have HO376 := n1_
       have BK364 := n2_
       have BK365 := n3_
       have BK377 := n4_
       have HB := n5_
       clear n0_ n1_ n2_ n3_ n4_ n5_
       replace HO_6 := Aside0.mk (Kd.N_drew HO_6.out)
       replace HO376 := Aside0.mk (Kd.N_drew HO376.out)
       replace BK364 := Aside0.mk (blk_drew BK364.out)
       replace BK365 := Aside0.mk (blk_drew BK365.out)
       replace BK377 := Aside0.mk (blk_drew BK377.out)
       replace HB := Aside0.mk (below_drew1 HB.out)
       obtain ⟨Ao30, co30, eo30⟩ := Kd.N_slice HO376.out
       (first | subst eo30 | (injection eo30 with f1_ f2_ f3_; have f4_ := f1_.symm; have f5_ := f3_.symm; clear f1_ f2_ f3_; subst f4_; subst f5_))
       refine start_ (n := 6) (S := fun w' => w'.cell? ⟨gb377, 0, none⟩ = some (.int .i64 t370) ∧ w'.cell? ⟨gb377, 1, none⟩ = some (.int .i64 t371) ∧ w'.cell? ⟨gb377, 2, none⟩ = some (.int .i64 t372) ∧ w'.cell? ⟨gb377, 3, none⟩ = some (.int .i64 t373)) (ds := []) #[false, false, false, false, false, false] (by kernel_rfl) rfl rfl ⟨(blk_cell BK377.out 0).trans rfl, (blk_cell BK377.out 1).trans rfl, (blk_cell BK377.out 2).trans rfl, (blk_cell BK377.out 3).trans rfl⟩ (fun hHeld => ?_)
       generalize w27.drew = w28 at HO_6 HO376 BK364 BK365 BK377 HB hHeld ⊢
       refine pure_ (i := 1) (N := some 33) (v := ?_) (a' := ?_) #[false, true, false, false, false, false] rfl rfl (by kernel_rfl) (fun _ _ _ h => h) (Or.inl ⟨by rfl, ?_⟩) ?_ ?_
       rotate_left; · intro w'; go_simp; with_reducible rfl
       rotate_left; · simp only [Act.put, sA, sB, sC, i64_w, i32_w]; rfl
       refine pure_ (i := 2) (N := some 34) (v := ?_) (a' := ?_) #[false, true, true, false, false, false] rfl rfl (by kernel_rfl) (fun _ _ _ h => h) (Or.inl ⟨by rfl, ?_⟩) ?_ ?_
       rotate_left; · intro w'; go_simp; with_reducible rfl
       rotate_left; · simp only [Act.put, sA, sB, sC, i64_w, i32_w]; rfl
       refine take_ (i := 0) (N := some 32) (v := ?_) (a' := ?_) #[true, true, true, false, false, false] rfl rfl (by kernel_rfl) (fun _ _ _ h => h) (Or.inl ⟨by rfl, ?_⟩) hHeld ?_ ?_
       rotate_left; · rintro w' ⟨s0, s1, s2, s3⟩; go_simp; with_reducible rfl
       rotate_left; · simp only [Act.put, sA, sB, sC, i64_w, i32_w]; rfl
       refine one_ (i := 3) (N := some 35) #[true, true, true, true, false, false] rfl rfl (by kernel_rfl) (by decide) (fun K hK => ?_)
       refine Kd.N_append_rows_step k45 (w0 := w) w.heap.size (by rfl) (.tmp 33) (.tmp 34) 35 45 (.agg #[(.int .i64 0), (.slice none 0 0)]) 32 rfl Tryd.underlying35 info45 rfl (by decide) (by omega) u6 x6_1 t374 _ _ _ (fun k_ => (w.heap.size ≤ k_) ∧ k_ ≠ gb364 ∧ k_ ≠ gb365 ∧ k_ ≠ gb377) (fun k_ => ((fun k_ => (w.heap.size ≤ k_) ∧ k_ ≠ gb364 ∧ k_ ≠ gb365 ∧ k_ ≠ gb377)) k_ ∧ some k_ ≠ (u6 : Value).ownBlock) rfl rfl ?aO ?aR (fun _ hk => hk) ?aF ?aB ?aS ?aL ?_
       (case aR => exact (by skip; exact Kd.N_F (Kd.N_mono (ok' := (fun k_ => ((fun k_ => (w.heap.size ≤ k_) ∧ k_ ≠ gb364 ∧ k_ ≠ gb365 ∧ k_ ≠ gb377)) k_ ∧ some k_ ≠ (u6 : Value).ownBlock)) (HO376.out) (fun k_ hk => ⟨⟨hk.1, ⟨hk.2.2.1, ⟨hk.2.2.2.1, hk.2.2.2.2⟩⟩⟩, hk.2.1⟩))))
       (case aB => exact (by with_reducible repeat first | exact HB.out | apply bA | apply bN | apply bD | refine bS ?_ GE364.out | refine bS ?_ GE365.out | refine bS ?_ GE377.out))
       (case aF => exact (fun k_ hk => ⟨(Nat.le_trans (below_size (by with_reducible repeat first | exact HB.out | apply bA | apply bN | apply bD | refine bS ?_ GE364.out | refine bS ?_ GE365.out | refine bS ?_ GE377.out)) hk), Kd.freshB (g := gb364) (o := .cells #[.int .i64 t366, .int .i64 t367, .int .i64 x365002_1, .int .i64 x365003_1] 34 (0, 0)) (by (with_reducible repeat first | apply kN | apply kD | apply kA); exact BK364.out) k_ hk, Kd.freshB (g := gb365) (o := .cells #[.int .i64 x366000_1, .int .i64 x366001_1, .int .i64 x366002_1, .int .i64 x366003_1] 34 (0, 0)) (by (with_reducible repeat first | apply kN | apply kD | apply kA); exact BK365.out) k_ hk, Kd.freshB (g := gb377) (o := .cells #[.int .i64 t370, .int .i64 t371, .int .i64 t372, .int .i64 t373] 34 (0, 0)) (by (with_reducible repeat first | apply kN | apply kD | apply kA); exact BK377.out) k_ hk⟩))
       (case aO => exact (by (with_reducible repeat (first | apply Kd.N_alloc | apply Kd.N_drewN | apply Kd.N_drew)); exact Kd.N_mono HO_6.out (fun _ hk => ⟨hk.1, ⟨hk.2.2.1, ⟨hk.2.2.2.1, hk.2.2.2.2⟩⟩⟩)))
       (case aS => exact (below_size (by with_reducible repeat first | exact HB.out | apply bA | apply bN | apply bD | refine bS ?_ GE364.out | refine bS ?_ GE365.out | refine bS ?_ GE377.out)))
       (case aL => have := LMc19.out; omega)
       intro v379 w29 ho hb hg hat
       rw [← Ny378.out] at ho
       replace BK364 := Aside0.mk (blk_grown (g := gb364) (o := .cells #[.int .i64 t366, .int .i64 t367, .int .i64 x365002_1, .int .i64 x365003_1] 34 (0, 0)) (by (with_reducible repeat first | apply kN | apply kD | apply kA); exact BK364.out) hg (Kd.N_ne HO_6.out BK364.out (by decide)))
       replace BK365 := Aside0.mk (blk_grown (g := gb365) (o := .cells #[.int .i64 x366000_1, .int .i64 x366001_1, .int .i64 x366002_1, .int .i64 x366003_1] 34 (0, 0)) (by (with_reducible repeat first | apply kN | apply kD | apply kA); exact BK365.out) hg (Kd.N_ne HO_6.out BK365.out (by decide)))
       replace HO376 := Aside0.mk (Kd.N_afterv (ok := (fun k_ => (w.heap.size ≤ k_) ∧ k_ ≠ gb364 ∧ k_ ≠ gb365 ∧ k_ ≠ gb377)) (by (with_reducible repeat (first | apply Kd.N_alloc | apply Kd.N_drewN | apply Kd.N_drew)); exact Kd.N_mono HO376.out (fun _ hk => ⟨⟨hk.1, ⟨hk.2.2.1, ⟨hk.2.2.2.1, hk.2.2.2.2⟩⟩⟩, hk.2.1⟩)) hg hat)
       replace BK377 := Aside0.mk (blk_grown (g := gb377) (o := .cells #[.int .i64 t370, .int .i64 t371, .int .i64 t372, .int .i64 t373] 34 (0, 0)) (by (with_reducible repeat first | apply kN | apply kD | apply kA); exact BK377.out) hg (Kd.N_ne HO_6.out BK377.out (by decide)))
       replace HB := Aside0.mk (hb)
       have HO380 := Aside0.mk (ho)
       clear HO_6 ho hb hg hat
       refine hK.out _ _ ⟨(blk_cell BK377.out 0).trans rfl, (blk_cell BK377.out 1).trans rfl, (blk_cell BK377.out 2).trans rfl, (blk_cell BK377.out 3).trans rfl⟩ (fun hHeld => ?_)
       clear hK K
       refine norm_ (a' := ?_) ?_ ?_
       rotate_left
       ·
        show Act.put _ (some 35) _ = _
        simp only [Act.put, sA, sB, sC, i64_w, i32_w]
        rfl
       refine one_ (i := 4) (N := none) #[true, true, true, true, true, false] rfl rfl (by kernel_rfl) (by decide) (fun K hK => ?_)
       have hs31 : w29.cell? ⟨gb365, 0, none⟩ = some (.int .i64 x366000_1) := (blk_cell BK365.out 0).trans rfl
       have hfs31 := blk_frozen BK365.out 0
       have hns31_0 := NB364_365.out
       have hns31_2 := NB377_365.out
       have hms31_0 := NB365_364.out
       have hms31_2 := NB365_377.out
       have hs32 : w29.cell? ⟨gb365, 1, none⟩ = some (.int .i64 x366001_1) := (blk_cell BK365.out 1).trans rfl
       have hfs32 := blk_frozen BK365.out 1
       have hns32_0 := NB364_365.out
       have hns32_2 := NB377_365.out
       have hms32_0 := NB365_364.out
       have hms32_2 := NB365_377.out
       have hs33 : w29.cell? ⟨gb365, 2, none⟩ = some (.int .i64 x366002_1) := (blk_cell BK365.out 2).trans rfl
       have hfs33 := blk_frozen BK365.out 2
       have hns33_0 := NB364_365.out
       have hns33_2 := NB377_365.out
       have hms33_0 := NB365_364.out
       have hms33_2 := NB365_377.out
       have hs34 : w29.cell? ⟨gb365, 3, none⟩ = some (.int .i64 x366003_1) := (blk_cell BK365.out 3).trans rfl
       have hfs34 := blk_frozen BK365.out 3
       have hns34_0 := NB364_365.out
       have hns34_2 := NB377_365.out
       have hms34_0 := NB365_364.out
       have hms34_2 := NB365_377.out
       refine skip_ (w1 := ?_) (by rfl) rfl ?_ ?_
       rotate_left
       ·
        go_simp
        rfl
       refine hK.out _ _ ⟨((cell_far (p := ⟨gb365, _, none⟩) NB377_365.out _).trans (((cell_far (p := ⟨gb365, _, none⟩) NB377_365.out _).trans (((cell_far (p := ⟨gb365, _, none⟩) NB377_365.out _).trans (((cell_far (p := ⟨gb365, _, none⟩) NB377_365.out _).trans (hHeld.1)))))))), ((cell_far (p := ⟨gb365, _, none⟩) NB377_365.out _).trans (((cell_far (p := ⟨gb365, _, none⟩) NB377_365.out _).trans (((cell_far (p := ⟨gb365, _, none⟩) NB377_365.out _).trans (((cell_far (p := ⟨gb365, _, none⟩) NB377_365.out _).trans (hHeld.2.1)))))))), ((cell_far (p := ⟨gb365, _, none⟩) NB377_365.out _).trans (((cell_far (p := ⟨gb365, _, none⟩) NB377_365.out _).trans (((cell_far (p := ⟨gb365, _, none⟩) NB377_365.out _).trans (((cell_far (p := ⟨gb365, _, none⟩) NB377_365.out _).trans (hHeld.2.2.1)))))))), ((cell_far (p := ⟨gb365, _, none⟩) NB377_365.out _).trans (((cell_far (p := ⟨gb365, _, none⟩) NB377_365.out _).trans (((cell_far (p := ⟨gb365, _, none⟩) NB377_365.out _).trans (((cell_far (p := ⟨gb365, _, none⟩) NB377_365.out _).trans (hHeld.2.2.2))))))))⟩ (fun hHeld => ?_)
       clear hK K
       refine pure_ (i := 5) (N := some 5) (v := ?_) (a' := ?_) #[true, true, true, true, true, true] rfl rfl (by kernel_rfl) (fun _ _ _ h => h) (Or.inl ⟨by rfl, ?_⟩) ?_ ?_
       rotate_left; · intro w'; go_simp; with_reducible rfl
       rotate_left; · simp only [Act.put, sA, sB, sC, i64_w, i32_w]; rfl
       refine done_ (by kernel_rfl) ?_
       try go_wp2
       refine bodyPost_ret (results_ct rfl _ _ gb365 34 #[.int .i64 t370, .int .i64 t371, .int .i64 t372, .int .i64 t373] (0, 0) _ rfl (by (with_reducible repeat first | apply kN | apply kD | apply kA); refine blk_put (cs := #[.int .i64 t370, .int .i64 t371, .int .i64 t372, .int .i64 x366003_1]) ?_ 3 _ rfl; (with_reducible repeat first | apply kN | apply kD | apply kA); refine blk_put (cs := #[.int .i64 t370, .int .i64 t371, .int .i64 x366002_1, .int .i64 x366003_1]) ?_ 2 _ rfl; (with_reducible repeat first | apply kN | apply kD | apply kA); refine blk_put (cs := #[.int .i64 t370, .int .i64 x366001_1, .int .i64 x366002_1, .int .i64 x366003_1]) ?_ 1 _ rfl; (with_reducible repeat first | apply kN | apply kD | apply kA); refine blk_put (cs := #[.int .i64 x366000_1, .int .i64 x366001_1, .int .i64 x366002_1, .int .i64 x366003_1]) ?_ 0 _ rfl; (with_reducible repeat first | apply kN | apply kD | apply kA); exact BK365.out) Tryd.underlying34 rfl (by kernel_rfl)) rfl ?_
       exact ⟨_, by first | rfl | (simp [errW_none, errW_some] <;> rfl) | (simp only [← hji4, ← hji5]; first | rfl | (simp [errW_none, errW_some] <;> rfl)) | (simp [*, errW_none, errW_some] <;> rfl), by (with_reducible repeat (first | apply Kd.N_alloc | apply Kd.N_drewN | apply Kd.N_drew)); exact Kd.N_mono (Kd.N_far (p := ⟨gb365, 3, none⟩) (Kd.N_far (p := ⟨gb365, 2, none⟩) (Kd.N_far (p := ⟨gb365, 1, none⟩) (Kd.N_far (p := ⟨gb365, 0, none⟩) (Kd.N_mono HO380.out (fun k_ hk => (⟨hk, hk.2.2.1⟩ : _ ∧ k_ ≠ gb365))) (fun _ hk => hk.2) (.int .i64 t370)) (fun _ hk => hk.2) (.int .i64 t371)) (fun _ hk => hk.2) (.int .i64 t372)) (fun _ hk => hk.2) (.int .i64 t373)) (fun _ hk => hk.1.1), by with_reducible repeat first | exact HB.out | apply bA | apply bN | apply bD | refine bS ?_ GE364.out | refine bS ?_ GE365.out | refine bS ?_ GE377.out⟩
      ·
       rw [if_neg c19] at H
       exact absurd H (by simp)
     ·
      rw [if_neg c17] at H
      have c17b0 : (x365002_1 == 1) = false := beq_eq_false_iff_ne.mpr c17
      have c17b1 : (x365002_1 != 1) = true := bne_iff_ne.mpr c17
      by_cases c35 : x365003_1 = 1
      ·
       rw [if_pos c35] at H
       have c35b0 : (x365003_1 == 1) = true := beq_iff_eq.mpr c35
       have c35b1 : (x365003_1 != 1) = false := bne_eq_false_iff_eq.mpr c35
       clear c35
       by_cases c36 : x6_1.length < 4398046511104
       ·
        rw [if_pos c36] at H
        have LMc36 := Aside0.mk c36
        clear c36
        obtain ⟨y381, hy381⟩ : ∃ y_ : List (S45), y_ = (x6_1 ++ [(⟨4, ([] : List Int)⟩ : S45)]) := ⟨_, rfl⟩
        replace H : (if (wrap64 (x365003_1 + (wrap64 (Int.tdiv t367 3)))) > 0 then (session_Tick.l0 k1 y381 ji5 (wrap64 (x14_1 + 1)) t366 t367 (wrap64 (x365002_1 - 1)) (wrap64 ((wrap64 (x365003_1 + (wrap64 (Int.tdiv t367 3)))) - 1))) else (session_Tick.l0 k1 y381 ji5 (wrap64 (x14_1 + 1)) t366 t367 (wrap64 (x365002_1 - 1)) (wrap64 (x365003_1 + (wrap64 (Int.tdiv t367 3)))))) = some (r1, r2, r3, r4, r5) := by first | (rw [hy381]; with_reducible exact H) | (have H2_ := (Option.bind_some _ _).symm.trans H; rw [hy381]; with_reducible exact H2_) | (have H2_ := (Option.bind_some _ _).symm.trans H; with_reducible exact H2_) | with_reducible exact H | (rw [hy381]; exact H) | exact H
        have Ny381 := Aside0.mk hy381
        clear hy381
        by_cases c37 : (wrap64 (x365003_1 + (wrap64 (Int.tdiv t367 3)))) > 0
        ·
         rw [if_pos c37] at H
         have c37b0 : decide (0 < (wrap64 (x365003_1 + (wrap64 (Int.tdiv t367 3))))) = true := decide_eq_true c37
         clear c37
         have H' := Aside0.mk H
         clear H
         have hnb38 := NB364_365.out
         have hnc38 := NB365_364.out
         obtain ⟨hcz39_0, hcz39_1, hcz39_2, hcz39_3, hfz39_0, hfz39_1, hfz39_2, hfz39_3⟩ := bc4 BK364.out
         go_wp2_with (first | ((with_reducible refine gate_builtin (b := .append) (xs := #[.tmp 43, .tmp 45]) rfl ?_); at_builtin; refine Kd.N_append k45 (w0 := w) w.heap.size rfl (.tmp 43) (.tmp 45) 35 45 (.agg #[(.int .i64 0), (.slice none 0 0)]) 32 rfl Tryd.underlying35 info45 rfl (by decide) (by omega) u6 x6_1 (⟨4, ([] : List Int)⟩ : S45) [.int .i64 4, .slice none 0 0] (fun k_ => (w.heap.size ≤ k_) ∧ k_ ≠ gb364 ∧ k_ ≠ gb365) (fun k_ => ((fun k_ => (w.heap.size ≤ k_) ∧ k_ ≠ gb364 ∧ k_ ≠ gb365)) k_ ∧ some k_ ≠ (u6 : Value).ownBlock) rfl (by first | (go_simp; done) | (go_simp; rfl)) ?aP (fun _ hk => hk) ?aF ?aO ?aB ?aS ?aL ?_; (case aP => exact (k45_mkF _ _ (⟨4, ([] : List Int)⟩ : S45) (Nat.le_refl _) (Kd.F_nil _ _ _))); (case aB => exact (by with_reducible repeat first | exact HB.out | apply bA | apply bN | apply bD | refine bS ?_ GE364.out | refine bS ?_ GE365.out)); (case aF => exact (fun k_ hk => ⟨(Nat.le_trans (below_size (by with_reducible repeat first | exact HB.out | apply bA | apply bN | apply bD | refine bS ?_ GE364.out | refine bS ?_ GE365.out)) hk), Kd.freshB (g := gb364) (o := .cells #[.int .i64 t366, .int .i64 t367, .int .i64 (wrap64 (x365002_1 - 1)), .int .i64 x365003_1] 34 (0, 0)) (by (with_reducible repeat first | apply kN | apply kD | apply kA); refine blk_put (cs := #[.int .i64 t366, .int .i64 t367, .int .i64 x365002_1, .int .i64 x365003_1]) ?_ 2 _ rfl; (with_reducible repeat first | apply kN | apply kD | apply kA); exact BK364.out) k_ hk, Kd.freshB (g := gb365) (o := .cells #[.int .i64 x366000_1, .int .i64 x366001_1, .int .i64 x366002_1, .int .i64 x366003_1] 34 (0, 0)) (by (with_reducible repeat first | apply kN | apply kD | apply kA); refine blk_far ?_ NB365_364.out _; (with_reducible repeat first | apply kN | apply kD | apply kA); exact BK365.out) k_ hk⟩)); (case aO => exact (by (with_reducible repeat (first | apply Kd.N_alloc | apply Kd.N_drewN | apply Kd.N_drew)); exact Kd.N_mono (Kd.N_far (p := ⟨gb364, 2, none⟩) (Kd.N_mono HO_6.out (fun k_ hk => (⟨hk, hk.2.1⟩ : _ ∧ k_ ≠ gb364))) (fun _ hk => hk.2) (.int .i64 (wrap64 (x365002_1 - 1)))) (fun _ hk => ⟨hk.1.1, ⟨hk.1.2.1, hk.1.2.2⟩⟩))); (case aS => exact (below_size (by with_reducible repeat first | exact HB.out | apply bA | apply bN | apply bD | refine bS ?_ GE364.out | refine bS ?_ GE365.out))); (case aL => have := LMc36.out; omega); intro v382 w40 ho hb hg hat; rw [← Ny381.out] at ho; replace BK364 := Aside0.mk (blk_grown (g := gb364) (o := .cells #[.int .i64 t366, .int .i64 t367, .int .i64 (wrap64 (x365002_1 - 1)), .int .i64 x365003_1] 34 (0, 0)) (by (with_reducible repeat first | apply kN | apply kD | apply kA); refine blk_put (cs := #[.int .i64 t366, .int .i64 t367, .int .i64 x365002_1, .int .i64 x365003_1]) ?_ 2 _ rfl; (with_reducible repeat first | apply kN | apply kD | apply kA); exact BK364.out) hg (Kd.N_ne HO_6.out BK364.out (by decide))); replace BK365 := Aside0.mk (blk_grown (g := gb365) (o := .cells #[.int .i64 x366000_1, .int .i64 x366001_1, .int .i64 x366002_1, .int .i64 x366003_1] 34 (0, 0)) (by (with_reducible repeat first | apply kN | apply kD | apply kA); refine blk_far ?_ NB365_364.out _; (with_reducible repeat first | apply kN | apply kD | apply kA); exact BK365.out) hg (Kd.N_ne HO_6.out BK365.out (by decide))); replace HB := Aside0.mk (hb); have HO383 := Aside0.mk (ho); clear HO_6 ho hb hg hat; obtain ⟨hcz41_0, hcz41_1, hcz41_2, hcz41_3, hfz41_0, hfz41_1, hfz41_2, hfz41_3⟩ := bc4 BK364.out))
         go_roundg k1
         case measure => have := HK1.out; omega
         case rel => exact ⟨(y381), (wrap64 (x14_1 + 1)), (wrap64 (x365002_1 - 1)), (wrap64 ((wrap64 (x365003_1 + (wrap64 (Int.tdiv t367 3)))) - 1)), (x366000_1), (x366001_1), (x366002_1), (x366003_1), (by first | rfl | (simp; done) | (simp [*]; done)), H', ⟨by have := HK1.out; omega⟩, ⟨by (with_reducible repeat (first | apply Kd.N_alloc | apply Kd.N_drewN | apply Kd.N_drew)); exact Kd.N_mono (Kd.N_far (p := ⟨gb364, 3, none⟩) (Kd.N_far (p := ⟨gb364, 3, none⟩) (Kd.N_mono HO383.out (fun k_ hk => (⟨hk, hk.2.1⟩ : _ ∧ k_ ≠ gb364))) (fun _ hk => hk.2) (.int .i64 (wrap64 (x365003_1 + (wrap64 (Int.tdiv t367 3)))))) (fun _ hk => hk.2) (.int .i64 (wrap64 ((wrap64 (x365003_1 + (wrap64 (Int.tdiv t367 3)))) - 1)))) (fun _ hk => ⟨hk.1.1, ⟨hk.1.2.1, hk.1.2.2⟩⟩)⟩, ⟨by (with_reducible repeat first | apply kN | apply kD | apply kA); refine blk_put (cs := #[.int .i64 t366, .int .i64 t367, .int .i64 (wrap64 (x365002_1 - 1)), .int .i64 (wrap64 (x365003_1 + (wrap64 (Int.tdiv t367 3))))]) ?_ 3 _ rfl; (with_reducible repeat first | apply kN | apply kD | apply kA); refine blk_put (cs := #[.int .i64 t366, .int .i64 t367, .int .i64 (wrap64 (x365002_1 - 1)), .int .i64 x365003_1]) ?_ 3 _ rfl; (with_reducible repeat first | apply kN | apply kD | apply kA); exact BK364.out⟩, ⟨by (with_reducible repeat first | apply kN | apply kD | apply kA); refine blk_far ?_ NB365_364.out _; (with_reducible repeat first | apply kN | apply kD | apply kA); refine blk_far ?_ NB365_364.out _; (with_reducible repeat first | apply kN | apply kD | apply kA); exact BK365.out⟩, ⟨by with_reducible repeat first | exact HB.out | apply bA | apply bN | apply bD | refine bS ?_ GE364.out | refine bS ?_ GE365.out⟩⟩
        ·
         rw [if_neg c37] at H
         have c37b0 : decide (0 < (wrap64 (x365003_1 + (wrap64 (Int.tdiv t367 3))))) = false := decide_eq_false c37
         clear c37
         have H' := Aside0.mk H
         clear H
         have hnb42 := NB364_365.out
         have hnc42 := NB365_364.out
         obtain ⟨hcz43_0, hcz43_1, hcz43_2, hcz43_3, hfz43_0, hfz43_1, hfz43_2, hfz43_3⟩ := bc4 BK364.out
         go_wp2_with (first | ((with_reducible refine gate_builtin (b := .append) (xs := #[.tmp 43, .tmp 45]) rfl ?_); at_builtin; refine Kd.N_append k45 (w0 := w) w.heap.size rfl (.tmp 43) (.tmp 45) 35 45 (.agg #[(.int .i64 0), (.slice none 0 0)]) 32 rfl Tryd.underlying35 info45 rfl (by decide) (by omega) u6 x6_1 (⟨4, ([] : List Int)⟩ : S45) [.int .i64 4, .slice none 0 0] (fun k_ => (w.heap.size ≤ k_) ∧ k_ ≠ gb364 ∧ k_ ≠ gb365) (fun k_ => ((fun k_ => (w.heap.size ≤ k_) ∧ k_ ≠ gb364 ∧ k_ ≠ gb365)) k_ ∧ some k_ ≠ (u6 : Value).ownBlock) rfl (by first | (go_simp; done) | (go_simp; rfl)) ?aP (fun _ hk => hk) ?aF ?aO ?aB ?aS ?aL ?_; (case aP => exact (k45_mkF _ _ (⟨4, ([] : List Int)⟩ : S45) (Nat.le_refl _) (Kd.F_nil _ _ _))); (case aB => exact (by with_reducible repeat first | exact HB.out | apply bA | apply bN | apply bD | refine bS ?_ GE364.out | refine bS ?_ GE365.out)); (case aF => exact (fun k_ hk => ⟨(Nat.le_trans (below_size (by with_reducible repeat first | exact HB.out | apply bA | apply bN | apply bD | refine bS ?_ GE364.out | refine bS ?_ GE365.out)) hk), Kd.freshB (g := gb364) (o := .cells #[.int .i64 t366, .int .i64 t367, .int .i64 (wrap64 (x365002_1 - 1)), .int .i64 x365003_1] 34 (0, 0)) (by (with_reducible repeat first | apply kN | apply kD | apply kA); refine blk_put (cs := #[.int .i64 t366, .int .i64 t367, .int .i64 x365002_1, .int .i64 x365003_1]) ?_ 2 _ rfl; (with_reducible repeat first | apply kN | apply kD | apply kA); exact BK364.out) k_ hk, Kd.freshB (g := gb365) (o := .cells #[.int .i64 x366000_1, .int .i64 x366001_1, .int .i64 x366002_1, .int .i64 x366003_1] 34 (0, 0)) (by (with_reducible repeat first | apply kN | apply kD | apply kA); refine blk_far ?_ NB365_364.out _; (with_reducible repeat first | apply kN | apply kD | apply kA); exact BK365.out) k_ hk⟩)); (case aO => exact (by (with_reducible repeat (first | apply Kd.N_alloc | apply Kd.N_drewN | apply Kd.N_drew)); exact Kd.N_mono (Kd.N_far (p := ⟨gb364, 2, none⟩) (Kd.N_mono HO_6.out (fun k_ hk => (⟨hk, hk.2.1⟩ : _ ∧ k_ ≠ gb364))) (fun _ hk => hk.2) (.int .i64 (wrap64 (x365002_1 - 1)))) (fun _ hk => ⟨hk.1.1, ⟨hk.1.2.1, hk.1.2.2⟩⟩))); (case aS => exact (below_size (by with_reducible repeat first | exact HB.out | apply bA | apply bN | apply bD | refine bS ?_ GE364.out | refine bS ?_ GE365.out))); (case aL => have := LMc36.out; omega); intro v382 w44 ho hb hg hat; rw [← Ny381.out] at ho; replace BK364 := Aside0.mk (blk_grown (g := gb364) (o := .cells #[.int .i64 t366, .int .i64 t367, .int .i64 (wrap64 (x365002_1 - 1)), .int .i64 x365003_1] 34 (0, 0)) (by (with_reducible repeat first | apply kN | apply kD | apply kA); refine blk_put (cs := #[.int .i64 t366, .int .i64 t367, .int .i64 x365002_1, .int .i64 x365003_1]) ?_ 2 _ rfl; (with_reducible repeat first | apply kN | apply kD | apply kA); exact BK364.out) hg (Kd.N_ne HO_6.out BK364.out (by decide))); replace BK365 := Aside0.mk (blk_grown (g := gb365) (o := .cells #[.int .i64 x366000_1, .int .i64 x366001_1, .int .i64 x366002_1, .int .i64 x366003_1] 34 (0, 0)) (by (with_reducible repeat first | apply kN | apply kD | apply kA); refine blk_far ?_ NB365_364.out _; (with_reducible repeat first | apply kN | apply kD | apply kA); exact BK365.out) hg (Kd.N_ne HO_6.out BK365.out (by decide))); replace HB := Aside0.mk (hb); have HO383 := Aside0.mk (ho); clear HO_6 ho hb hg hat; obtain ⟨hcz45_0, hcz45_1, hcz45_2, hcz45_3, hfz45_0, hfz45_1, hfz45_2, hfz45_3⟩ := bc4 BK364.out))
         go_roundg k1
         case measure => have := HK1.out; omega
         case rel => exact ⟨(y381), (wrap64 (x14_1 + 1)), (wrap64 (x365002_1 - 1)), (wrap64 (x365003_1 + (wrap64 (Int.tdiv t367 3)))), (x366000_1), (x366001_1), (x366002_1), (x366003_1), (by first | rfl | (simp; done) | (simp [*]; done)), H', ⟨by have := HK1.out; omega⟩, ⟨by (with_reducible repeat (first | apply Kd.N_alloc | apply Kd.N_drewN | apply Kd.N_drew)); exact Kd.N_mono (Kd.N_far (p := ⟨gb364, 3, none⟩) (Kd.N_mono HO383.out (fun k_ hk => (⟨hk, hk.2.1⟩ : _ ∧ k_ ≠ gb364))) (fun _ hk => hk.2) (.int .i64 (wrap64 (x365003_1 + (wrap64 (Int.tdiv t367 3)))))) (fun _ hk => ⟨hk.1.1, ⟨hk.1.2.1, hk.1.2.2⟩⟩)⟩, ⟨by (with_reducible repeat first | apply kN | apply kD | apply kA); refine blk_put (cs := #[.int .i64 t366, .int .i64 t367, .int .i64 (wrap64 (x365002_1 - 1)), .int .i64 x365003_1]) ?_ 3 _ rfl; (with_reducible repeat first | apply kN | apply kD | apply kA); exact BK364.out⟩, ⟨by (with_reducible repeat first | apply kN | apply kD | apply kA); refine blk_far ?_ NB365_364.out _; (with_reducible repeat first | apply kN | apply kD | apply kA); exact BK365.out⟩, ⟨by with_reducible repeat first | exact HB.out | apply bA | apply bN | apply bD | refine bS ?_ GE364.out | refine bS ?_ GE365.out⟩⟩
       ·
        rw [if_neg c36] at H
        exact absurd H (by simp)
      ·
       rw [if_neg c35] at H
       have c35b0 : (x365003_1 == 1) = false := beq_eq_false_iff_ne.mpr c35
       have c35b1 : (x365003_1 != 1) = true := bne_iff_ne.mpr c35
       by_cases c46 : x365003_1 > 0
       ·
        rw [if_pos c46] at H
        have c46b0 : decide (0 < x365003_1) = true := decide_eq_true c46
        clear c46
        have H' := Aside0.mk H
        clear H
        have hnb47 := NB364_365.out
        have hnc47 := NB365_364.out
        obtain ⟨hcz48_0, hcz48_1, hcz48_2, hcz48_3, hfz48_0, hfz48_1, hfz48_2, hfz48_3⟩ := bc4 BK364.out
        go_wp2
        go_roundg k1
        case measure => have := HK1.out; omega
        case rel => exact ⟨(x6_1), (wrap64 (x14_1 + 1)), (wrap64 (x365002_1 - 1)), (wrap64 (x365003_1 - 1)), (x366000_1), (x366001_1), (x366002_1), (x366003_1), (by first | rfl | (simp; done) | (simp [*]; done)), H', ⟨by have := HK1.out; omega⟩, ⟨by (with_reducible repeat (first | apply Kd.N_alloc | apply Kd.N_drewN | apply Kd.N_drew)); exact Kd.N_mono (Kd.N_far (p := ⟨gb364, 3, none⟩) (Kd.N_far (p := ⟨gb364, 2, none⟩) (Kd.N_mono HO_6.out (fun k_ hk => (⟨hk, hk.2.1⟩ : _ ∧ k_ ≠ gb364))) (fun _ hk => hk.2) (.int .i64 (wrap64 (x365002_1 - 1)))) (fun _ hk => hk.2) (.int .i64 (wrap64 (x365003_1 - 1)))) (fun _ hk => ⟨hk.1.1, ⟨hk.1.2.1, hk.1.2.2⟩⟩)⟩, ⟨by (with_reducible repeat first | apply kN | apply kD | apply kA); refine blk_put (cs := #[.int .i64 t366, .int .i64 t367, .int .i64 (wrap64 (x365002_1 - 1)), .int .i64 x365003_1]) ?_ 3 _ rfl; (with_reducible repeat first | apply kN | apply kD | apply kA); refine blk_put (cs := #[.int .i64 t366, .int .i64 t367, .int .i64 x365002_1, .int .i64 x365003_1]) ?_ 2 _ rfl; (with_reducible repeat first | apply kN | apply kD | apply kA); exact BK364.out⟩, ⟨by (with_reducible repeat first | apply kN | apply kD | apply kA); refine blk_far ?_ NB365_364.out _; (with_reducible repeat first | apply kN | apply kD | apply kA); refine blk_far ?_ NB365_364.out _; (with_reducible repeat first | apply kN | apply kD | apply kA); exact BK365.out⟩, ⟨by with_reducible repeat first | exact HB.out | apply bA | apply bN | apply bD | refine bS ?_ GE364.out | refine bS ?_ GE365.out⟩⟩
       ·
        rw [if_neg c46] at H
        have c46b0 : decide (0 < x365003_1) = false := decide_eq_false c46
        clear c46
        have H' := Aside0.mk H
        clear H
        have hnb49 := NB364_365.out
        have hnc49 := NB365_364.out
        obtain ⟨hcz50_0, hcz50_1, hcz50_2, hcz50_3, hfz50_0, hfz50_1, hfz50_2, hfz50_3⟩ := bc4 BK364.out
        go_wp2
        go_roundg k1
        case measure => have := HK1.out; omega
        case rel => exact ⟨(x6_1), (wrap64 (x14_1 + 1)), (wrap64 (x365002_1 - 1)), (x365003_1), (x366000_1), (x366001_1), (x366002_1), (x366003_1), (by first | rfl | (simp; done) | (simp [*]; done)), H', ⟨by have := HK1.out; omega⟩, ⟨by (with_reducible repeat (first | apply Kd.N_alloc | apply Kd.N_drewN | apply Kd.N_drew)); exact Kd.N_mono (Kd.N_far (p := ⟨gb364, 2, none⟩) (Kd.N_mono HO_6.out (fun k_ hk => (⟨hk, hk.2.1⟩ : _ ∧ k_ ≠ gb364))) (fun _ hk => hk.2) (.int .i64 (wrap64 (x365002_1 - 1)))) (fun _ hk => ⟨hk.1.1, ⟨hk.1.2.1, hk.1.2.2⟩⟩)⟩, ⟨by (with_reducible repeat first | apply kN | apply kD | apply kA); refine blk_put (cs := #[.int .i64 t366, .int .i64 t367, .int .i64 x365002_1, .int .i64 x365003_1]) ?_ 2 _ rfl; (with_reducible repeat first | apply kN | apply kD | apply kA); exact BK364.out⟩, ⟨by (with_reducible repeat first | apply kN | apply kD | apply kA); refine blk_far ?_ NB365_364.out _; (with_reducible repeat first | apply kN | apply kD | apply kA); exact BK365.out⟩, ⟨by with_reducible repeat first | exact HB.out | apply bA | apply bN | apply bD | refine bS ?_ GE364.out | refine bS ?_ GE365.out⟩⟩
   ·
    rw [if_neg c12] at H
    have c12b0 : decide (x14_1 < ji5) = false := decide_eq_false c12
    clear c12
    simp only [Option.some.injEq, Prod.mk.injEq] at H
    obtain ⟨rfl, rfl, rfl, rfl, rfl⟩ := H
    have hnb51 := NB364_365.out
    have hnc51 := NB365_364.out
    obtain ⟨hcz52_0, hcz52_1, hcz52_2, hcz52_3, hfz52_0, hfz52_1, hfz52_2, hfz52_3⟩ := bc4 BK364.out
    obtain ⟨hcz53_0, hcz53_1, hcz53_2, hcz53_3, hfz53_0, hfz53_1, hfz53_2, hfz53_3⟩ := bc4 BK365.out
    go_wp2
    refine bodyPost_ret (results_ct rfl _ _ gb365 34 #[.int .i64 t366, .int .i64 t367, .int .i64 x365002_1, .int .i64 x365003_1] (0, 0) _ rfl (by (with_reducible repeat first | apply kN | apply kD | apply kA); refine blk_put (cs := #[.int .i64 t366, .int .i64 t367, .int .i64 x365002_1, .int .i64 x366003_1]) ?_ 3 _ rfl; (with_reducible repeat first | apply kN | apply kD | apply kA); refine blk_put (cs := #[.int .i64 t366, .int .i64 t367, .int .i64 x366002_1, .int .i64 x366003_1]) ?_ 2 _ rfl; (with_reducible repeat first | apply kN | apply kD | apply kA); refine blk_put (cs := #[.int .i64 t366, .int .i64 x366001_1, .int .i64 x366002_1, .int .i64 x366003_1]) ?_ 1 _ rfl; (with_reducible repeat first | apply kN | apply kD | apply kA); refine blk_put (cs := #[.int .i64 x366000_1, .int .i64 x366001_1, .int .i64 x366002_1, .int .i64 x366003_1]) ?_ 0 _ rfl; (with_reducible repeat first | apply kN | apply kD | apply kA); exact BK365.out) Tryd.underlying34 rfl (by kernel_rfl)) rfl ?_
    exact ⟨_, by first | rfl | (simp [errW_none, errW_some] <;> rfl) | (simp only [← hji4, ← hji5]; first | rfl | (simp [errW_none, errW_some] <;> rfl)) | (simp [*, errW_none, errW_some] <;> rfl), by (with_reducible repeat (first | apply Kd.N_alloc | apply Kd.N_drewN | apply Kd.N_drew)); exact Kd.N_mono (Kd.N_far (p := ⟨gb365, 3, none⟩) (Kd.N_far (p := ⟨gb365, 2, none⟩) (Kd.N_far (p := ⟨gb365, 1, none⟩) (Kd.N_far (p := ⟨gb365, 0, none⟩) (Kd.N_mono HO_6.out (fun k_ hk => (⟨hk, hk.2.2⟩ : _ ∧ k_ ≠ gb365))) (fun _ hk => hk.2) (.int .i64 t366)) (fun _ hk => hk.2) (.int .i64 t367)) (fun _ hk => hk.2) (.int .i64 x365002_1)) (fun _ hk => hk.2) (.int .i64 x365003_1)) (fun _ hk => hk.1.1), by with_reducible repeat first | exact HB.out | apply bA | apply bN | apply bD | refine bS ?_ GE364.out | refine bS ?_ GE365.out⟩

end Go.Proofs.YtfbndolhocojiaaDoor.K
