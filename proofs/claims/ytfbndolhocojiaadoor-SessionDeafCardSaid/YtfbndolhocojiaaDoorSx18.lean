/- Each call of a Go function comes to what the Lean function of its name answers (written out by wip/tools/xprint.py, checked by Lean); conditions: those in each statement. -/
import Derived.Test.YtfbndolhocojiaaDoorSx0
namespace Go.Proofs.YtfbndolhocojiaaDoor.S
open Go.RowKit Go.Proofs.YtfbndolhocojiaaDoorW.PrintWords Go.Proofs.YtfbndolhocojiaaDoorW.PrintLast Go.Proofs.YtfbndolhocojiaaDoorW.PrintMore Go.Proofs.YtfbndolhocojiaaDoorW.PrintX
attribute [local go_sem] max2_int min2_int max_two min_two max_three min_three max_four min_four   -- for this text's walks alone
set_option linter.unusedVariables false
set_option linter.unusedSimpArgs false

/-! ### ridgewayref12_Few: function 20 -/
def ridgewayref12_Few.l0 : Nat → Int → Int → Int → Int → Int → List (S62) → List (S31) → Option (Bool)
 | 0, _, _, _, _, _, _, _ => none
 | k + 1, x3, x435000, x435001, x435002, x435003, x435004, x435005 => if x3 < (x435005.length : Int) then (if 0 ≤ x3 then (if (((rd_T31 x435005 x3).f2).length : Int) > 20 then (some false) else (if (((rd_T31 x435005 x3).f3).length : Int) > 20 then (some false) else (ridgewayref12_Few.l0 k (wrap64 (x3 + 1)) x435000 x435001 x435002 x435003 x435004 x435005))) else (none)) else (if (x435004.length : Int) ≤ 20 then (some (decide ((x435005.length : Int) ≤ 20))) else (some false))
def ridgewayref12_Few.f (k : Nat) (a0_0 : Int) (a0_1 : Int) (a0_2 : Int) (a0_3 : Int) (l0_4 : List (S62)) (l0_5 : List (S31)) : Option (Bool) := ridgewayref12_Few.l0 k 0 a0_0 a0_1 a0_2 a0_3 l0_4 l0_5
theorem ridgewayref12_Few.mono_l : ∀ k, (∀ y0 y1 y2 y3 y4 y5 y6, LeO (ridgewayref12_Few.l0 k y0 y1 y2 y3 y4 y5 y6) (ridgewayref12_Few.l0 (k + 1) y0 y1 y2 y3 y4 y5 y6))
 | 0 => fun _ _ _ _ _ _ _ r h => by simp [ridgewayref12_Few.l0] at h
 | k + 1 => by
  have ih0 := ridgewayref12_Few.mono_l k
  ·
   intro y0 y1 y2 y3 y4 y5 y6
   unfold ridgewayref12_Few.l0
   repeat' first
   | (with_reducible exact ih0 _ _ _ _ _ _ _)
   | (with_reducible exact LeO.refl _)
   | (with_reducible exact LeO.none _)
   | (with_reducible refine LeO.ite ?_ ?_)
   | (with_reducible refine LeO.bind ?_ (fun _ => ?_))
   | exact ih0 _ _ _ _ _ _ _
   | exact LeO.none _
   | refine LeO.ite ?_ ?_
   | refine LeO.bind ?_ (fun _ => ?_)
theorem ridgewayref12_Few.mono : ∀ a0 a1 a2 a3 a4 a5 k, LeO (ridgewayref12_Few.f k a0 a1 a2 a3 a4 a5) (ridgewayref12_Few.f (k + 1) a0 a1 a2 a3 a4 a5) := by
 intro a0 a1 a2 a3 a4 a5 k
 have ih0 := ridgewayref12_Few.mono_l k
 unfold ridgewayref12_Few.f
 repeat' first
   | (with_reducible exact ih0 _ _ _ _ _ _ _)
   | (with_reducible exact LeO.refl _)
   | (with_reducible exact LeO.none _)
   | (with_reducible refine LeO.ite ?_ ?_)
   | (with_reducible refine LeO.bind ?_ (fun _ => ?_))
   | exact ih0 _ _ _ _ _ _ _
   | exact LeO.none _
   | refine LeO.ite ?_ ?_
   | refine LeO.bind ?_ (fun _ => ?_)
set_option maxHeartbeats 8000000 in
set_option maxRecDepth 100000 in
theorem ridgewayref12_Few.calls (k : Nat) (a0_0 : Int) (a0_1 : Int) (a0_2 : Int) (a0_3 : Int) (A0_4 : Option Addr) (c0_4 : Nat) (l0_4 : List (S62)) (A0_5 : Option Addr) (c0_5 : Nat) (l0_5 : List (S31)) (r : Bool) (w : World) (hr0_4 : Kd.C k62 w A0_4 l0_4.length l0_4) (hc0_4 : l0_4.length ≤ c0_4) (hr0_5 : Kd.C k31 w A0_5 l0_5.length l0_5) (hc0_5 : l0_5.length ≤ c0_5) (h : ridgewayref12_Few.f k a0_0 a0_1 a0_2 a0_3 l0_4 l0_5 = some r) :
  Calls Tryd.prog 20 #[.agg #[.int .i64 a0_0, .int .i64 a0_1, .int .i64 a0_2, .int .i64 a0_3, .slice A0_4 l0_4.length c0_4, .slice A0_5 l0_5.length c0_5]] w fun e w' => e = .returned (.bool r) ∧ Below w.heap.size w w' := by
 have hu26 := Tryd.underlying26
 have HR0_4 := Aside0.mk hr0_4
 have HC0_4 := Aside0.mk hc0_4
 clear hr0_4 hc0_4
 have HR0_5 := Aside0.mk hr0_5
 have HC0_5 := Aside0.mk hc0_5
 clear hr0_5 hc0_5
 have HB := Aside0.mk (Below.refl w.heap.size w)
 have H : (ridgewayref12_Few.l0 k 0 a0_0 a0_1 a0_2 a0_3 l0_4 l0_5) = some r := h
 clear h
 have H' := Aside0.mk H
 clear H
 go_enter Tryd.func20, Tryd.ntmps20
 go_wp2_with (first | ((with_reducible refine gate_dst (N := 1) rfl ?_); (try (refine gate_guard (by rfl) ?_; dsimp only)); refine box_event ?hg (N := 1) ?hd (cs := #[.int .i64 a0_0, .int .i64 a0_1, .int .i64 a0_2, .int .i64 a0_3, .slice A0_4 l0_4.length c0_4, .slice A0_5 l0_5.length c0_5]) (t := 26) ?hr ?_; (case hd | hg => rfl); (case hr => first | (go_simp; done) | (go_simp; rfl)); intro gb434 hg w2 hbox hb; obtain ⟨hy, hz⟩ := bfst (by with_reducible repeat first | exact HB.out | apply bA | apply bN | apply bD) hb hg; replace HB := hy; have BK434 := Aside0.mk (hbox); have GE434 := hz; have GW434 := GE434; clear hy hz hb hbox hg))
 go_loopg [3] k (fun kq v3 w' => ∃ (x3_1 : Int), v3 = .int .i64 x3_1 ∧ Aside0 (ridgewayref12_Few.l0 kq x3_1 a0_0 a0_1 a0_2 a0_3 l0_4 l0_5 = some r) ∧ Aside0 (kq ≤ k) ∧ Aside0 (w'.heap[gb434]? = some (.cells #[.int .i64 a0_0, .int .i64 a0_1, .int .i64 a0_2, .int .i64 a0_3, (.slice A0_4 l0_4.length c0_4), (.slice A0_5 l0_5.length c0_5)] 26 (0, 0))) ∧ Aside0 (Below w.heap.size w w'))
 case atStart => exact ⟨(0), (by first | rfl | (simp; done) | (simp [*]; done)), H', ⟨Nat.le_refl _⟩, ⟨by (with_reducible repeat first | apply kN | apply kD | apply kA); exact BK434.out⟩, ⟨by with_reducible repeat first | exact HB.out | apply bA | apply bN | apply bD | refine bS ?_ GE434.out⟩⟩
 case round =>
  clear H'
  try clear c2
  try clear p2
  obtain ⟨x3_1, rfl, HA, HK1, BK434, HB⟩ := hrel
  cases gk with
  | zero => exact absurd HA.out (by simp [ridgewayref12_Few.l0])
  | succ k1 =>
   have H := HA.out
   clear HA
   simp only [ridgewayref12_Few.l0] at H
   by_cases c3 : x3_1 < (l0_5.length : Int)
   ·
    rw [if_pos c3] at H
    have c3b0 : decide (x3_1 < (l0_5.length : Int)) = true := decide_eq_true c3
    clear c3
    by_cases c4 : 0 ≤ x3_1
    ·
     rw [if_pos c4] at H
     have c4b0 : decide (0 ≤ x3_1) = true := decide_eq_true c4
     clear c4
     by_cases c5 : (((rd_T31 l0_5 x3_1).f2).length : Int) > 20
     ·
      rw [if_pos c5] at H
      have c5b0 : decide (20 < (((rd_T31 l0_5 x3_1).f2).length : Int)) = true := decide_eq_true c5
      have c5b1 : decide (20 < ((rd_T31 l0_5 x3_1).f2).length) = true := decide_eq_true (by omega)
      clear c5
      obtain rfl := Option.some.inj H
      obtain ⟨hcz6_0, hcz6_1, hcz6_2, hcz6_3, hcz6_4, hcz6_5, hfz6_0, hfz6_1, hfz6_2, hfz6_3, hfz6_4, hfz6_5⟩ := bc6 BK434.out
      have p435 : 0 ≤ (x3_1 : Int) := of_decide_eq_true (by first | (with_reducible assumption) | assumption)
      have q435 : x3_1 < (l0_5.length : Int) := of_decide_eq_true (by first | (with_reducible assumption) | assumption)
      obtain ⟨ad435, A435_2, c435_2, A435_3, c435_3, e435, hx435_0, hx435_1, hx435_2, hx435_3, hl435_2, hi435_2, hl435_3, hi435_3⟩ := at_T31 HR0_5.out x3_1 p435 q435
      cases e435
      replace hx435_0 := cB HB.out hx435_0
      replace hx435_1 := cB HB.out hx435_1
      replace hx435_2 := cB HB.out hx435_2
      replace hx435_3 := cB HB.out hx435_3
      have HR435_2 := Aside0.mk hi435_2
      have HC435_2 := Aside0.mk hl435_2
      clear hi435_2 hl435_2
      have HR435_3 := Aside0.mk hi435_3
      have HC435_3 := Aside0.mk hl435_3
      clear hi435_3 hl435_3
      replace p435 := eq_true p435
      replace q435 := eq_true q435
      go_wp2
      go_ret
      exact ⟨by first | rfl | (simp <;> rfl) | (simp [*] <;> rfl), by with_reducible repeat first | exact HB.out | apply bA | apply bN | apply bD | refine bS ?_ GE434.out⟩
     ·
      rw [if_neg c5] at H
      have c5b0 : decide (20 < (((rd_T31 l0_5 x3_1).f2).length : Int)) = false := decide_eq_false c5
      have c5b1 : decide (20 < ((rd_T31 l0_5 x3_1).f2).length) = false := decide_eq_false (by omega)
      clear c5
      by_cases c7 : (((rd_T31 l0_5 x3_1).f3).length : Int) > 20
      ·
       rw [if_pos c7] at H
       have c7b0 : decide (20 < (((rd_T31 l0_5 x3_1).f3).length : Int)) = true := decide_eq_true c7
       have c7b1 : decide (20 < ((rd_T31 l0_5 x3_1).f3).length) = true := decide_eq_true (by omega)
       clear c7
       obtain rfl := Option.some.inj H
       obtain ⟨hcz8_0, hcz8_1, hcz8_2, hcz8_3, hcz8_4, hcz8_5, hfz8_0, hfz8_1, hfz8_2, hfz8_3, hfz8_4, hfz8_5⟩ := bc6 BK434.out
       have p435 : 0 ≤ (x3_1 : Int) := of_decide_eq_true (by first | (with_reducible assumption) | assumption)
       have q435 : x3_1 < (l0_5.length : Int) := of_decide_eq_true (by first | (with_reducible assumption) | assumption)
       obtain ⟨ad435, A435_2, c435_2, A435_3, c435_3, e435, hx435_0, hx435_1, hx435_2, hx435_3, hl435_2, hi435_2, hl435_3, hi435_3⟩ := at_T31 HR0_5.out x3_1 p435 q435
       cases e435
       replace hx435_0 := cB HB.out hx435_0
       replace hx435_1 := cB HB.out hx435_1
       replace hx435_2 := cB HB.out hx435_2
       replace hx435_3 := cB HB.out hx435_3
       have HR435_2 := Aside0.mk hi435_2
       have HC435_2 := Aside0.mk hl435_2
       clear hi435_2 hl435_2
       have HR435_3 := Aside0.mk hi435_3
       have HC435_3 := Aside0.mk hl435_3
       clear hi435_3 hl435_3
       replace p435 := eq_true p435
       replace q435 := eq_true q435
       have p436 : 0 ≤ (x3_1 : Int) := of_decide_eq_true (by first | (with_reducible assumption) | assumption)
       have q436 : x3_1 < (l0_5.length : Int) := of_decide_eq_true (by first | (with_reducible assumption) | assumption)
       obtain ⟨ad436, A436_2, c436_2, A436_3, c436_3, e436, hx436_0, hx436_1, hx436_2, hx436_3, hl436_2, hi436_2, hl436_3, hi436_3⟩ := at_T31 HR0_5.out x3_1 p436 q436
       obtain rfl : ad435 = ad436 := (by injection e436)
       replace hx436_0 := cB HB.out hx436_0
       replace hx436_1 := cB HB.out hx436_1
       replace hx436_2 := cB HB.out hx436_2
       replace hx436_3 := cB HB.out hx436_3
       have HR436_2 := Aside0.mk hi436_2
       have HC436_2 := Aside0.mk hl436_2
       clear hi436_2 hl436_2
       have HR436_3 := Aside0.mk hi436_3
       have HC436_3 := Aside0.mk hl436_3
       clear hi436_3 hl436_3
       replace p436 := eq_true p436
       replace q436 := eq_true q436
       have ea_ := Option.some.inj (hx435_2.symm.trans hx436_2)
       injection ea_ with ea_ en_ ec_
       subst ea_
       subst ec_
       clear en_
       have ea_ := Option.some.inj (hx435_3.symm.trans hx436_3)
       injection ea_ with ea_ en_ ec_
       subst ea_
       subst ec_
       clear en_
       go_wp2
       go_ret
       exact ⟨by first | rfl | (simp <;> rfl) | (simp [*] <;> rfl), by with_reducible repeat first | exact HB.out | apply bA | apply bN | apply bD | refine bS ?_ GE434.out⟩
      ·
       rw [if_neg c7] at H
       have c7b0 : decide (20 < (((rd_T31 l0_5 x3_1).f3).length : Int)) = false := decide_eq_false c7
       have c7b1 : decide (20 < ((rd_T31 l0_5 x3_1).f3).length) = false := decide_eq_false (by omega)
       clear c7
       have H' := Aside0.mk H
       clear H
       obtain ⟨hcz9_0, hcz9_1, hcz9_2, hcz9_3, hcz9_4, hcz9_5, hfz9_0, hfz9_1, hfz9_2, hfz9_3, hfz9_4, hfz9_5⟩ := bc6 BK434.out
       have p435 : 0 ≤ (x3_1 : Int) := of_decide_eq_true (by first | (with_reducible assumption) | assumption)
       have q435 : x3_1 < (l0_5.length : Int) := of_decide_eq_true (by first | (with_reducible assumption) | assumption)
       obtain ⟨ad435, A435_2, c435_2, A435_3, c435_3, e435, hx435_0, hx435_1, hx435_2, hx435_3, hl435_2, hi435_2, hl435_3, hi435_3⟩ := at_T31 HR0_5.out x3_1 p435 q435
       cases e435
       replace hx435_0 := cB HB.out hx435_0
       replace hx435_1 := cB HB.out hx435_1
       replace hx435_2 := cB HB.out hx435_2
       replace hx435_3 := cB HB.out hx435_3
       have HR435_2 := Aside0.mk hi435_2
       have HC435_2 := Aside0.mk hl435_2
       clear hi435_2 hl435_2
       have HR435_3 := Aside0.mk hi435_3
       have HC435_3 := Aside0.mk hl435_3
       clear hi435_3 hl435_3
       replace p435 := eq_true p435
       replace q435 := eq_true q435
       have p436 : 0 ≤ (x3_1 : Int) := of_decide_eq_true (by first | (with_reducible assumption) | assumption)
       have q436 : x3_1 < (l0_5.length : Int) := of_decide_eq_true (by first | (with_reducible assumption) | assumption)
       obtain ⟨ad436, A436_2, c436_2, A436_3, c436_3, e436, hx436_0, hx436_1, hx436_2, hx436_3, hl436_2, hi436_2, hl436_3, hi436_3⟩ := at_T31 HR0_5.out x3_1 p436 q436
       obtain rfl : ad435 = ad436 := (by injection e436)
       replace hx436_0 := cB HB.out hx436_0
       replace hx436_1 := cB HB.out hx436_1
       replace hx436_2 := cB HB.out hx436_2
       replace hx436_3 := cB HB.out hx436_3
       have HR436_2 := Aside0.mk hi436_2
       have HC436_2 := Aside0.mk hl436_2
       clear hi436_2 hl436_2
       have HR436_3 := Aside0.mk hi436_3
       have HC436_3 := Aside0.mk hl436_3
       clear hi436_3 hl436_3
       replace p436 := eq_true p436
       replace q436 := eq_true q436
       have ea_ := Option.some.inj (hx435_2.symm.trans hx436_2)
       injection ea_ with ea_ en_ ec_
       subst ea_
       subst ec_
       clear en_
       have ea_ := Option.some.inj (hx435_3.symm.trans hx436_3)
       injection ea_ with ea_ en_ ec_
       subst ea_
       subst ec_
       clear en_
       go_wp2
       go_roundg k1
       case measure => have := HK1.out; omega
       case rel => exact ⟨(wrap64 (x3_1 + 1)), (by first | rfl | (simp; done) | (simp [*]; done)), H', ⟨by have := HK1.out; omega⟩, ⟨by (with_reducible repeat first | apply kN | apply kD | apply kA); exact BK434.out⟩, ⟨by with_reducible repeat first | exact HB.out | apply bA | apply bN | apply bD | refine bS ?_ GE434.out⟩⟩
    ·
     rw [if_neg c4] at H
     exact absurd H (by simp)
   ·
    rw [if_neg c3] at H
    have c3b0 : decide (x3_1 < (l0_5.length : Int)) = false := decide_eq_false c3
    clear c3
    by_cases c10 : (l0_4.length : Int) ≤ 20
    ·
     rw [if_pos c10] at H
     have c10b0 : decide ((l0_4.length : Int) ≤ 20) = true := decide_eq_true c10
     have c10b1 : decide (l0_4.length ≤ 20) = true := decide_eq_true (by omega)
     clear c10
     obtain rfl := Option.some.inj H
     obtain ⟨hcz11_0, hcz11_1, hcz11_2, hcz11_3, hcz11_4, hcz11_5, hfz11_0, hfz11_1, hfz11_2, hfz11_3, hfz11_4, hfz11_5⟩ := bc6 BK434.out
     go_wp2
     go_ret
     exact ⟨by first | rfl | (simp <;> rfl) | (simp [*] <;> rfl), by with_reducible repeat first | exact HB.out | apply bA | apply bN | apply bD | refine bS ?_ GE434.out⟩
    ·
     rw [if_neg c10] at H
     have c10b0 : decide ((l0_4.length : Int) ≤ 20) = false := decide_eq_false c10
     have c10b1 : decide (l0_4.length ≤ 20) = false := decide_eq_false (by omega)
     clear c10
     obtain rfl := Option.some.inj H
     obtain ⟨hcz12_0, hcz12_1, hcz12_2, hcz12_3, hcz12_4, hcz12_5, hfz12_0, hfz12_1, hfz12_2, hfz12_3, hfz12_4, hfz12_5⟩ := bc6 BK434.out
     go_wp2
     go_ret
     exact ⟨by first | rfl | (simp <;> rfl) | (simp [*] <;> rfl), by with_reducible repeat first | exact HB.out | apply bA | apply bN | apply bD | refine bS ?_ GE434.out⟩

/-! ### ridgewaylaw17_short: function 14 -/
def ridgewaylaw17_short.f (k : Nat) (a0_0 : Int) (a0_1 : Int) (a0_2 : Int) (a0_3 : Int) (l0_4 : List (S62)) (l0_5 : List (S31)) (a1_0 : Int) (l1_1 : List Int) : Option (Bool) := (ridgewayref12_Few.f k a0_0 a0_1 a0_2 a0_3 l0_4 l0_5).bind fun t439 => (if t439 = true then (some (decide ((l1_1.length : Int) ≤ 5000))) else (some false))
theorem ridgewaylaw17_short.mono : ∀ a0 a1 a2 a3 a4 a5 a6 a7 k, LeO (ridgewaylaw17_short.f k a0 a1 a2 a3 a4 a5 a6 a7) (ridgewaylaw17_short.f (k + 1) a0 a1 a2 a3 a4 a5 a6 a7) := by
 intro a0 a1 a2 a3 a4 a5 a6 a7 k
 unfold ridgewaylaw17_short.f
 repeat' first
   | (with_reducible exact ridgewayref12_Few.mono _ _ _ _ _ _ _)
   | (with_reducible exact LeO.refl _)
   | (with_reducible exact LeO.none _)
   | (with_reducible refine LeO.ite ?_ ?_)
   | (with_reducible refine LeO.bind ?_ (fun _ => ?_))
   | exact ridgewayref12_Few.mono _ _ _ _ _ _ _
   | exact LeO.none _
   | refine LeO.ite ?_ ?_
   | refine LeO.bind ?_ (fun _ => ?_)
set_option maxHeartbeats 8000000 in
set_option maxRecDepth 100000 in
theorem ridgewaylaw17_short.calls (k : Nat) (a0_0 : Int) (a0_1 : Int) (a0_2 : Int) (a0_3 : Int) (A0_4 : Option Addr) (c0_4 : Nat) (l0_4 : List (S62)) (A0_5 : Option Addr) (c0_5 : Nat) (l0_5 : List (S31)) (a1_0 : Int) (A1_1 : Option Addr) (c1_1 : Nat) (l1_1 : List Int) (r : Bool) (w : World) (hr0_4 : Kd.C k62 w A0_4 l0_4.length l0_4) (hc0_4 : l0_4.length ≤ c0_4) (hr0_5 : Kd.C k31 w A0_5 l0_5.length l0_5) (hc0_5 : l0_5.length ≤ c0_5) (hr1_1 : Kd.C (Kd.int .u8) w A1_1 l1_1.length l1_1) (hc1_1 : l1_1.length ≤ c1_1) (h : ridgewaylaw17_short.f k a0_0 a0_1 a0_2 a0_3 l0_4 l0_5 a1_0 l1_1 = some r) :
  Calls Tryd.prog 14 #[.agg #[.int .i64 a0_0, .int .i64 a0_1, .int .i64 a0_2, .int .i64 a0_3, .slice A0_4 l0_4.length c0_4, .slice A0_5 l0_5.length c0_5], .agg #[.int .i64 a1_0, .slice A1_1 l1_1.length c1_1]] w fun e w' => e = .returned (.bool r) ∧ Below w.heap.size w w' := by
 have hu26 := Tryd.underlying26
 have hu45 := Tryd.underlying45
 have HR0_4 := Aside0.mk hr0_4
 have HC0_4 := Aside0.mk hc0_4
 clear hr0_4 hc0_4
 have HR0_5 := Aside0.mk hr0_5
 have HC0_5 := Aside0.mk hc0_5
 clear hr0_5 hc0_5
 have HR1_1 := Aside0.mk hr1_1
 have HC1_1 := Aside0.mk hc1_1
 clear hr1_1 hc1_1
 have HB := Aside0.mk (Below.refl w.heap.size w)
 have H : ((ridgewayref12_Few.f k a0_0 a0_1 a0_2 a0_3 l0_4 l0_5).bind fun t439 => (if t439 = true then (some (decide ((l1_1.length : Int) ≤ 5000))) else (some false))) = some r := h
 clear h
 replace H := Option.bind_eq_some_iff.mp H
 obtain ⟨t439, A30, H⟩ := H
 replace H : (if t439 = true then (some (decide ((l1_1.length : Int) ≤ 5000))) else (some false)) = some r := H
 have A3 := Aside0.mk A30
 clear A30
 by_cases c4 : t439 = true
 ·
  subst c4
  have H1 : (some (decide ((l1_1.length : Int) ≤ 5000))) = some r := by rw [if_pos rfl] at H; first | done | exact H
  clear H
  have H := H1
  clear H1
  obtain rfl := Option.some.inj H
  go_enter Tryd.func14, Tryd.ntmps14
  go_wp2_with (first | ((with_reducible refine gate_dst (N := 2) rfl ?_); (try (refine gate_guard (by rfl) ?_; dsimp only)); refine box_event ?hg (N := 2) ?hd (cs := #[.int .i64 a0_0, .int .i64 a0_1, .int .i64 a0_2, .int .i64 a0_3, .slice A0_4 l0_4.length c0_4, .slice A0_5 l0_5.length c0_5]) (t := 26) ?hr ?_; (case hd | hg => rfl); (case hr => first | (go_simp; done) | (go_simp; rfl)); intro gb437 hg w5 hbox hb; obtain ⟨hy, hz⟩ := bfst (by with_reducible repeat first | exact HB.out | apply bA | apply bN | apply bD) hb hg; replace HB := hy; have BK437 := Aside0.mk (hbox); have GE437 := hz; have GW437 := GE437; clear hy hz hb hbox hg) | ((with_reducible refine gate_dst (N := 3) rfl ?_); (try (refine gate_guard (by rfl) ?_; dsimp only)); refine box_event ?hg (N := 3) ?hd (cs := #[.int .i64 a1_0, .slice A1_1 l1_1.length c1_1]) (t := 45) ?hr ?_; (case hd | hg => rfl); (case hr => first | (go_simp; done) | (go_simp; rfl)); intro gb438 hg w6 hbox hb; have hz := bZ BK437.out (by with_reducible repeat first | apply bA | apply bN | apply bD | exact Below.refl _ _) hb; have hy := below_step hz hb; have n0_ := Aside0.mk (blk_below BK437.out hy); have n1_ := Aside0.mk (below_step HB.out hy); have BK438 := Aside0.mk (hbox); have n3_ := Aside0.mk (bge HB.out hz hg); have GE438 := n3_; obtain ⟨NB437_438, NB438_437⟩ := bne2 BK437.out hz hg; clear BK437; clear HB; have BK437 := n0_; have HB := n1_; have GW438 := n3_; clear n0_ n1_ n3_; clear hy hz hb hbox hg; have hnb7 := NB437_438.out; have hnc7 := NB438_437.out; obtain ⟨hcz8_0, hcz8_1, hcz8_2, hcz8_3, hcz8_4, hcz8_5, hfz8_0, hfz8_1, hfz8_2, hfz8_3, hfz8_4, hfz8_5⟩ := bc6 BK437.out) | ((with_reducible refine gate_callee (f := 20) rfl ?_); refine goesL_ (some 6) rfl rfl Tryd.func20 (by kernel_rfl) rfl #[.agg #[.int .i64 a0_0, .int .i64 a0_1, .int .i64 a0_2, .int .i64 a0_3, .slice A0_4 l0_4.length c0_4, .slice A0_5 l0_5.length c0_5]] rfl (by (try simp only [List.map_toArray, List.map_cons, List.map_nil]); first | done | rfl | (simp only [List.length_drop, List.length_take]; rfl)) ?_; (with_reducible refine (ridgewayref12_Few.calls k a0_0 a0_1 a0_2 a0_3 _ _ l0_4 _ _ l0_5 true _ ?side1 ?side2 ?side3 ?side4 A3.out).mono ?_); (case side1 => repeat first | exact (Kd.C_below HR0_4.out HB.out) | with_reducible first | apply Kd.C_alloc | apply Kd.C_drewN | apply Kd.C_drew); (case side2 => exact HC0_4.out); (case side3 => repeat first | exact (Kd.C_below HR0_5.out HB.out) | with_reducible first | apply Kd.C_alloc | apply Kd.C_drewN | apply Kd.C_drew); (case side4 => exact HC0_5.out); rintro e w9 ⟨rfl, hb⟩; refine ⟨_, rfl, ?_⟩; have hy := bQ BK437.out (by with_reducible repeat first | apply bA | apply bN | apply bD | exact Below.refl _ _) hb; replace BK437 := Aside0.mk (blk_below BK437.out hy); replace BK438 := Aside0.mk (blk_below BK438.out hy); replace HB := Aside0.mk (below_step HB.out hy); clear hy; (try clear hb); (try clear hb2); (try clear hk); (try clear hi); obtain ⟨hcz10_0, hcz10_1, hfz10_0, hfz10_1⟩ := bc2 BK438.out))
  go_ret
  exact ⟨by first | rfl | (simp <;> rfl) | (simp [*] <;> rfl), by with_reducible repeat first | exact HB.out | apply bA | apply bN | apply bD | refine bS ?_ GE437.out | refine bS ?_ GE438.out⟩
 ·
  replace c4 := Bool.eq_false_iff.mpr c4
  subst c4
  have H1 : (some false) = some r := by rw [if_neg (show ¬ (false = true) by decide)] at H; first | done | exact H
  clear H
  have H := H1
  clear H1
  obtain rfl := Option.some.inj H
  go_enter Tryd.func14, Tryd.ntmps14
  go_wp2_with (first | ((with_reducible refine gate_dst (N := 2) rfl ?_); (try (refine gate_guard (by rfl) ?_; dsimp only)); refine box_event ?hg (N := 2) ?hd (cs := #[.int .i64 a0_0, .int .i64 a0_1, .int .i64 a0_2, .int .i64 a0_3, .slice A0_4 l0_4.length c0_4, .slice A0_5 l0_5.length c0_5]) (t := 26) ?hr ?_; (case hd | hg => rfl); (case hr => first | (go_simp; done) | (go_simp; rfl)); intro gb437 hg w11 hbox hb; obtain ⟨hy, hz⟩ := bfst (by with_reducible repeat first | exact HB.out | apply bA | apply bN | apply bD) hb hg; replace HB := hy; have BK437 := Aside0.mk (hbox); have GE437 := hz; have GW437 := GE437; clear hy hz hb hbox hg) | ((with_reducible refine gate_dst (N := 3) rfl ?_); (try (refine gate_guard (by rfl) ?_; dsimp only)); refine box_event ?hg (N := 3) ?hd (cs := #[.int .i64 a1_0, .slice A1_1 l1_1.length c1_1]) (t := 45) ?hr ?_; (case hd | hg => rfl); (case hr => first | (go_simp; done) | (go_simp; rfl)); intro gb438 hg w12 hbox hb; have hz := bZ BK437.out (by with_reducible repeat first | apply bA | apply bN | apply bD | exact Below.refl _ _) hb; have hy := below_step hz hb; have n0_ := Aside0.mk (blk_below BK437.out hy); have n1_ := Aside0.mk (below_step HB.out hy); have BK438 := Aside0.mk (hbox); have n3_ := Aside0.mk (bge HB.out hz hg); have GE438 := n3_; obtain ⟨NB437_438, NB438_437⟩ := bne2 BK437.out hz hg; clear BK437; clear HB; have BK437 := n0_; have HB := n1_; have GW438 := n3_; clear n0_ n1_ n3_; clear hy hz hb hbox hg; have hnb13 := NB437_438.out; have hnc13 := NB438_437.out; obtain ⟨hcz14_0, hcz14_1, hcz14_2, hcz14_3, hcz14_4, hcz14_5, hfz14_0, hfz14_1, hfz14_2, hfz14_3, hfz14_4, hfz14_5⟩ := bc6 BK437.out) | ((with_reducible refine gate_callee (f := 20) rfl ?_); refine goesL_ (some 6) rfl rfl Tryd.func20 (by kernel_rfl) rfl #[.agg #[.int .i64 a0_0, .int .i64 a0_1, .int .i64 a0_2, .int .i64 a0_3, .slice A0_4 l0_4.length c0_4, .slice A0_5 l0_5.length c0_5]] rfl (by (try simp only [List.map_toArray, List.map_cons, List.map_nil]); first | done | rfl | (simp only [List.length_drop, List.length_take]; rfl)) ?_; (with_reducible refine (ridgewayref12_Few.calls k a0_0 a0_1 a0_2 a0_3 _ _ l0_4 _ _ l0_5 false _ ?side1 ?side2 ?side3 ?side4 A3.out).mono ?_); (case side1 => repeat first | exact (Kd.C_below HR0_4.out HB.out) | with_reducible first | apply Kd.C_alloc | apply Kd.C_drewN | apply Kd.C_drew); (case side2 => exact HC0_4.out); (case side3 => repeat first | exact (Kd.C_below HR0_5.out HB.out) | with_reducible first | apply Kd.C_alloc | apply Kd.C_drewN | apply Kd.C_drew); (case side4 => exact HC0_5.out); rintro e w15 ⟨rfl, hb⟩; refine ⟨_, rfl, ?_⟩; have hy := bQ BK437.out (by with_reducible repeat first | apply bA | apply bN | apply bD | exact Below.refl _ _) hb; replace BK437 := Aside0.mk (blk_below BK437.out hy); replace BK438 := Aside0.mk (blk_below BK438.out hy); replace HB := Aside0.mk (below_step HB.out hy); clear hy; (try clear hb); (try clear hb2); (try clear hk); (try clear hi)))
  go_ret
  exact ⟨by first | rfl | (simp <;> rfl) | (simp [*] <;> rfl), by with_reducible repeat first | exact HB.out | apply bA | apply bN | apply bD | refine bS ?_ GE437.out | refine bS ?_ GE438.out⟩

end Go.Proofs.YtfbndolhocojiaaDoor.S
