/- Each call of a Go function comes to what the Lean function of its name answers (written out by wip/tools/xprint.py, checked by Lean); conditions: those in each statement. -/
import Derived.Test.YtfmhclbcoladpaaJx0
import Derived.Test.YtfmhclbcoladpaaJx8
namespace Go.Proofs.Ytfmhclbcoladpaa.J
open Go.RowKit Go.Proofs.YtfmhclbcoladpaaW.PrintWords Go.Proofs.YtfmhclbcoladpaaW.PrintLast Go.Proofs.YtfmhclbcoladpaaW.PrintMore Go.Proofs.YtfmhclbcoladpaaW.PrintX
attribute [local go_sem] max2_int min2_int max_two min_two max_three min_three max_four min_four   -- for this text's walks alone
set_option linter.unusedVariables false
set_option linter.unusedSimpArgs false

/-! ### ridgewayref07_ases: function 45 -/
mutual
def ridgewayref07_ases.l0 : Nat → List Int → List Int → Option (List Int × Bool)
 | 0, _, _ => none
 | k + 1, x0, x4 => if (x0.length : Int) > 0 then (if (x0.length : Int) < 2 then (ridgewayref07_ases.j1 k x0 x4 true) else (if 0 < (x0.length : Int) then (if (rd x0 0) = 2 then (if 1 < (x0.length : Int) then (if (rd x0 1) = 0 then (ridgewayref07_ases.j1 k x0 x4 true) else (ridgewayref07_ases.j1 k x0 x4 (decide ((x0.length : Int) < (wrap64 (2 + (wrap64 (4 * (wrap64 (rd x0 1)))))))))) else (none)) else (ridgewayref07_ases.j1 k x0 x4 true)) else (none))) else (some (x4, true))
def ridgewayref07_ases.j1 : Nat → List Int → List Int → Bool → Option (List Int × Bool)
 | 0, _, _, _ => none
 | k + 1, x0, x4, x35 => if x35 = true then (some (([] : List Int), false)) else (ridgewayref07_ases.l1 k x0 x4 0)
def ridgewayref07_ases.l1 : Nat → List Int → List Int → Int → Option (List Int × Bool)
 | 0, _, _, _ => none
 | k + 1, x0, x4, x5 => if 1 < (x0.length : Int) then (if x5 < (wrap64 (rd x0 1)) then (if 0 ≤ (wrap64 (2 + (wrap64 (4 * x5)))) then (if (wrap64 (2 + (wrap64 (4 * x5)))) ≤ (wrap64 (6 + (wrap64 (4 * x5)))) then (if (wrap64 (6 + (wrap64 (4 * x5)))) ≤ (x0.length : Int) then ((ridgewayref07_four.f k ((x0.take ((wrap64 (6 + (wrap64 (4 * x5)))) : Int).toNat).drop ((wrap64 (2 + (wrap64 (4 * x5)))) : Int).toNat)).bind fun t277 => (if t277 = 0 then (some (([] : List Int), false)) else (if x4.length < 17592186044416 then (ridgewayref07_ases.l1 k x0 (x4 ++ [t277]) (wrap64 (x5 + 1))) else (none)))) else (none)) else (none)) else (none)) else (if 0 ≤ (wrap64 (2 + (wrap64 (4 * (wrap64 (rd x0 1)))))) then (if (wrap64 (2 + (wrap64 (4 * (wrap64 (rd x0 1)))))) ≤ (x0.length : Int) then (ridgewayref07_ases.l0 k (x0.drop ((wrap64 (2 + (wrap64 (4 * (wrap64 (rd x0 1)))))) : Int).toNat) x4) else (none)) else (none))) else (none)
end
def ridgewayref07_ases.f (k : Nat) (l0 : List Int) : Option (List Int × Bool) := ridgewayref07_ases.l0 k l0 ([] : List Int)
theorem ridgewayref07_ases.mono_l : ∀ k, (∀ y0 y1, LeO (ridgewayref07_ases.l0 k y0 y1) (ridgewayref07_ases.l0 (k + 1) y0 y1)) ∧ (∀ y0 y1 y2, LeO (ridgewayref07_ases.j1 k y0 y1 y2) (ridgewayref07_ases.j1 (k + 1) y0 y1 y2)) ∧ (∀ y0 y1 y2, LeO (ridgewayref07_ases.l1 k y0 y1 y2) (ridgewayref07_ases.l1 (k + 1) y0 y1 y2))
 | 0 => ⟨fun _ _ r h => by simp [ridgewayref07_ases.l0] at h, fun _ _ _ r h => by simp [ridgewayref07_ases.j1] at h, fun _ _ _ r h => by simp [ridgewayref07_ases.l1] at h⟩
 | k + 1 => by
  obtain ⟨ih0, ih1, ih2⟩ := ridgewayref07_ases.mono_l k
  refine ⟨?_, ?_, ?_⟩
  ·
   intro y0 y1
   unfold ridgewayref07_ases.l0
   repeat' first
   | (with_reducible exact ih0 _ _)
   | (with_reducible exact ih1 _ _ _)
   | (with_reducible exact ih2 _ _ _)
   | (with_reducible exact ridgewayref07_four.mono _ _)
   | (with_reducible exact LeO.refl _)
   | (with_reducible exact LeO.none _)
   | (with_reducible refine LeO.ite ?_ ?_)
   | (with_reducible refine LeO.bind ?_ (fun _ => ?_))
   | exact ih0 _ _
   | exact ih1 _ _ _
   | exact ih2 _ _ _
   | exact ridgewayref07_four.mono _ _
   | exact LeO.none _
   | refine LeO.ite ?_ ?_
   | refine LeO.bind ?_ (fun _ => ?_)
  ·
   intro y0 y1 y2
   unfold ridgewayref07_ases.j1
   repeat' first
   | (with_reducible exact ih0 _ _)
   | (with_reducible exact ih1 _ _ _)
   | (with_reducible exact ih2 _ _ _)
   | (with_reducible exact ridgewayref07_four.mono _ _)
   | (with_reducible exact LeO.refl _)
   | (with_reducible exact LeO.none _)
   | (with_reducible refine LeO.ite ?_ ?_)
   | (with_reducible refine LeO.bind ?_ (fun _ => ?_))
   | exact ih0 _ _
   | exact ih1 _ _ _
   | exact ih2 _ _ _
   | exact ridgewayref07_four.mono _ _
   | exact LeO.none _
   | refine LeO.ite ?_ ?_
   | refine LeO.bind ?_ (fun _ => ?_)
  ·
   intro y0 y1 y2
   unfold ridgewayref07_ases.l1
   repeat' first
   | (with_reducible exact ih0 _ _)
   | (with_reducible exact ih1 _ _ _)
   | (with_reducible exact ih2 _ _ _)
   | (with_reducible exact ridgewayref07_four.mono _ _)
   | (with_reducible exact LeO.refl _)
   | (with_reducible exact LeO.none _)
   | (with_reducible refine LeO.ite ?_ ?_)
   | (with_reducible refine LeO.bind ?_ (fun _ => ?_))
   | exact ih0 _ _
   | exact ih1 _ _ _
   | exact ih2 _ _ _
   | exact ridgewayref07_four.mono _ _
   | exact LeO.none _
   | refine LeO.ite ?_ ?_
   | refine LeO.bind ?_ (fun _ => ?_)
theorem ridgewayref07_ases.mono : ∀ a0 k, LeO (ridgewayref07_ases.f k a0) (ridgewayref07_ases.f (k + 1) a0) := by
 intro a0 k
 obtain ⟨ih0, ih1, ih2⟩ := ridgewayref07_ases.mono_l k
 unfold ridgewayref07_ases.f
 repeat' first
   | (with_reducible exact ih0 _ _)
   | (with_reducible exact ih1 _ _ _)
   | (with_reducible exact ih2 _ _ _)
   | (with_reducible exact ridgewayref07_four.mono _ _)
   | (with_reducible exact LeO.refl _)
   | (with_reducible exact LeO.none _)
   | (with_reducible refine LeO.ite ?_ ?_)
   | (with_reducible refine LeO.bind ?_ (fun _ => ?_))
   | exact ih0 _ _
   | exact ih1 _ _ _
   | exact ih2 _ _ _
   | exact ridgewayref07_four.mono _ _
   | exact LeO.none _
   | refine LeO.ite ?_ ?_
   | refine LeO.bind ?_ (fun _ => ?_)
set_option maxHeartbeats 8000000 in
set_option maxRecDepth 100000 in
theorem ridgewayref07_ases.calls (k : Nat) (P0_ : Nat → Prop) (A0 : Option Addr) (c0 : Nat) (l0 : List Int) (r1 : List Int) (r2 : Bool) (w : World) (hs0 : Kd.V (Kd.int .u8) 5 w w.heap.size (fun k_ => P0_ k_) (.slice A0 l0.length c0) l0) (h : ridgewayref07_ases.f k l0 = some (r1, r2)) :
  Calls Try.prog 45 #[.slice A0 l0.length c0] w fun e w' => ∃ v0_ : Value, e = .returned (.tuple #[v0_, .bool r2]) ∧ Kd.R (Kd.int .i64) 3 w' w.heap.size (fun k_ => (w.heap.size ≤ k_)) v0_ r1 ∧ Below w.heap.size w w' := by
 have HO0 := Aside0.mk (show Kd.V (Kd.int .u8) 5 w w.heap.size (fun k_ => (P0_ k_ ∨ w.heap.size ≤ k_)) (.slice A0 l0.length c0) l0 from Kd.V_mono hs0 (fun k_ hk => .inl hk))
 have HB := Aside0.mk (Below.refl w.heap.size w)
 have H : (ridgewayref07_ases.l0 k l0 ([] : List Int)) = some (r1, r2) := h
 clear h
 have H' := Aside0.mk H
 clear H
 go_enter Try.func45, Try.ntmps45
 go_wp2
 go_loopg [0, 4] k (fun kq v0 v4 w' => ∃ (x0_1 : List Int) (x4_1 : List Int), Aside0 (ridgewayref07_ases.l0 kq x0_1 x4_1 = some (r1, r2)) ∧ Aside0 (kq ≤ k) ∧ Aside0 (Kd.V (Kd.int .u8) 5 w' w.heap.size (fun k_ => (P0_ k_ ∨ w.heap.size ≤ k_) ∧ some k_ ≠ (v4 : Value).ownBlock) v0 x0_1) ∧ Aside0 (Kd.R (Kd.int .i64) 3 w' w.heap.size (fun k_ => (w.heap.size ≤ k_)) v4 x4_1) ∧ Aside0 (Below w.heap.size w w'))
 case atStart => exact ⟨(l0), (([] : List Int)), H', ⟨Nat.le_refl _⟩, ⟨by (with_reducible repeat (first | apply Kd.V_alloc | apply Kd.V_drewN | apply Kd.V_drew)); exact Kd.V_mono HO0.out (fun _ hk => ⟨hk, (by simp [Value.ownBlock])⟩)⟩, ⟨by first | exact Kd.R_nil _ _ _ _ _ | exact Kd.N_nil _ _ _ _ _ | exact Kd.V_nil _ _ _ _ _ | exact Kd.Q_nil _ _ _ _ _ | exact Kd.S_nil _ _ _ _ _⟩, ⟨by repeat (first | (with_reducible first | exact HB.out | apply bA | apply bN | apply bD) | exact HB.out)⟩⟩
 case round =>
  clear H'
  obtain ⟨x0_1, x4_1, HA, HK1, HO_0, HO_4, HB⟩ := hrel
  cases gk with
  | zero => exact absurd HA.out (by simp [ridgewayref07_ases.l0])
  | succ k1 =>
   have H := HA.out
   clear HA
   simp only [ridgewayref07_ases.l0] at H
   by_cases c2 : (x0_1.length : Int) > 0
   ·
    rw [if_pos c2] at H
    have c2b0 : decide (0 < (x0_1.length : Int)) = true := decide_eq_true c2
    have c2b1 : decide (0 < x0_1.length) = true := decide_eq_true (by omega)
    clear c2
    have HC3 := Aside0.mk H
    clear H
    obtain ⟨Ao4, co4, eo4⟩ := Kd.V_slice HO_0.out
    subst eo4
    go_upto_region 3 with (fail)
    go_cut [35] (fun v35 wc => ∃ (kq : Nat) (x35_2 : Bool), v35 = .bool x35_2 ∧ Aside0 (ridgewayref07_ases.j1 kq x0_1 x4_1 x35_2 = some (r1, r2)) ∧ Aside0 (kq ≤ k1) ∧ Aside0 (Kd.V (Kd.int .u8) 5 wc w.heap.size (fun k_ => (P0_ k_ ∨ w.heap.size ≤ k_) ∧ some k_ ≠ (u4 : Value).ownBlock) (.slice Ao4 x0_1.length co4) x0_1) ∧ Aside0 (Kd.R (Kd.int .i64) 3 wc w.heap.size (fun k_ => (w.heap.size ≤ k_)) u4 x4_1) ∧ Aside0 (Below w.heap.size w wc))
    case first =>
     have H := HC3.out
     clear HC3
     by_cases c5 : (x0_1.length : Int) < 2
     ·
      rw [if_pos c5] at H
      have c5b0 : decide ((x0_1.length : Int) < 2) = true := decide_eq_true c5
      have c5b1 : decide (x0_1.length < 2) = true := decide_eq_true (by omega)
      clear c5
      (first | rw [c5b0] | (simp only [i64_w, i32_w]; rw [c5b0]) | rw [c5b1] | skip)
      have H' := Aside0.mk H
      clear H
      go_wp2
      go_meet
      case rel => exact ⟨_, (true), (by first | rfl | (simp; done) | (simp [*]; done)), H', ⟨by have := HK1.out; first | omega | exact Nat.le_refl _⟩, ⟨by (with_reducible repeat (first | apply Kd.V_alloc | apply Kd.V_drewN | apply Kd.V_drew)); exact HO_0.out⟩, ⟨by (with_reducible repeat (first | apply Kd.R_alloc | apply Kd.R_drewN | apply Kd.R_drew)); exact HO_4.out⟩, ⟨by repeat (first | (with_reducible first | exact HB.out | apply bA | apply bN | apply bD) | exact HB.out)⟩⟩
     ·
      rw [if_neg c5] at H
      have c5b0 : decide ((x0_1.length : Int) < 2) = false := decide_eq_false c5
      have c5b1 : decide (x0_1.length < 2) = false := decide_eq_false (by omega)
      clear c5
      (first | rw [c5b0] | (simp only [i64_w, i32_w]; rw [c5b0]) | rw [c5b1] | skip)
      by_cases c6 : 0 < (x0_1.length : Int)
      ·
       rw [if_pos c6] at H
       have c6b0 : decide (0 < (x0_1.length : Int)) = true := decide_eq_true c6
       have c6b1 : decide (0 < x0_1.length) = true := decide_eq_true (by omega)
       clear c6
       by_cases c7 : (rd x0_1 0) = 2
       ·
        rw [if_pos c7] at H
        have c7b0 : ((rd x0_1 0) == 2) = true := beq_iff_eq.mpr c7
        have c7b1 : ((rd x0_1 0) != 2) = false := bne_eq_false_iff_eq.mpr c7
        clear c7
        by_cases c8 : 1 < (x0_1.length : Int)
        ·
         rw [if_pos c8] at H
         have c8b0 : decide (1 < (x0_1.length : Int)) = true := decide_eq_true c8
         have c8b1 : decide (1 < x0_1.length) = true := decide_eq_true (by omega)
         clear c8
         by_cases c9 : (rd x0_1 1) = 0
         ·
          rw [if_pos c9] at H
          have c9b0 : ((rd x0_1 1) == 0) = true := beq_iff_eq.mpr c9
          have c9b1 : ((rd x0_1 1) != 0) = false := bne_eq_false_iff_eq.mpr c9
          clear c9
          have H' := Aside0.mk H
          clear H
          have p268 : 0 ≤ (0 : Int) := (by omega)
          have q268 : 0 < (x0_1.length : Int) := of_decide_eq_true (by first | (with_reducible assumption) | assumption)
          obtain ⟨ad268, e268, hx268_0⟩ := Kd.at_int (Kd.V_reads' HO_0.out).2.2 0 p268 q268
          cases e268
          have qi268 : (0 < x0_1.length) = True := eq_true (by omega)
          (try rw [show ((0 : Int)).toNat = 0 from rfl] at hx268_0)
          (try rw [Addr.add_zero'] at hx268_0)
          replace p268 := eq_true p268
          replace q268 := eq_true q268
          have p269 : 0 ≤ (1 : Int) := (by omega)
          have q269 : 1 < (x0_1.length : Int) := of_decide_eq_true (by first | (with_reducible assumption) | assumption)
          obtain ⟨ad269, e269, hx269_0⟩ := Kd.at_int (Kd.V_reads' HO_0.out).2.2 1 p269 q269
          obtain rfl : ad268 = ad269 := (by injection e269)
          (try simp only [show (1 : Int).toNat = 1 from rfl, Nat.reduceMul, Nat.reduceEqDiff, Go.Addr.add, ↓reduceIte] at hx269_0)
          have qi269 : (1 < x0_1.length) = True := eq_true (by omega)
          (try rw [show ((1 : Int)).toNat = 1 from rfl] at hx269_0)
          replace p269 := eq_true p269
          replace q269 := eq_true q269
          go_wp2
          go_meet
          case rel => exact ⟨_, (true), (by first | rfl | (simp; done) | (simp [*]; done)), H', ⟨by have := HK1.out; first | omega | exact Nat.le_refl _⟩, ⟨by (with_reducible repeat (first | apply Kd.V_alloc | apply Kd.V_drewN | apply Kd.V_drew)); exact HO_0.out⟩, ⟨by (with_reducible repeat (first | apply Kd.R_alloc | apply Kd.R_drewN | apply Kd.R_drew)); exact HO_4.out⟩, ⟨by repeat (first | (with_reducible first | exact HB.out | apply bA | apply bN | apply bD) | exact HB.out)⟩⟩
         ·
          rw [if_neg c9] at H
          have c9b0 : ((rd x0_1 1) == 0) = false := beq_eq_false_iff_ne.mpr c9
          have c9b1 : ((rd x0_1 1) != 0) = true := bne_iff_ne.mpr c9
          have H' := Aside0.mk H
          clear H
          have p268 : 0 ≤ (0 : Int) := (by omega)
          have q268 : 0 < (x0_1.length : Int) := of_decide_eq_true (by first | (with_reducible assumption) | assumption)
          obtain ⟨ad268, e268, hx268_0⟩ := Kd.at_int (Kd.V_reads' HO_0.out).2.2 0 p268 q268
          cases e268
          have qi268 : (0 < x0_1.length) = True := eq_true (by omega)
          (try rw [show ((0 : Int)).toNat = 0 from rfl] at hx268_0)
          (try rw [Addr.add_zero'] at hx268_0)
          replace p268 := eq_true p268
          replace q268 := eq_true q268
          have p269 : 0 ≤ (1 : Int) := (by omega)
          have q269 : 1 < (x0_1.length : Int) := of_decide_eq_true (by first | (with_reducible assumption) | assumption)
          obtain ⟨ad269, e269, hx269_0⟩ := Kd.at_int (Kd.V_reads' HO_0.out).2.2 1 p269 q269
          obtain rfl : ad268 = ad269 := (by injection e269)
          (try simp only [show (1 : Int).toNat = 1 from rfl, Nat.reduceMul, Nat.reduceEqDiff, Go.Addr.add, ↓reduceIte] at hx269_0)
          have qi269 : (1 < x0_1.length) = True := eq_true (by omega)
          (try rw [show ((1 : Int)).toNat = 1 from rfl] at hx269_0)
          replace p269 := eq_true p269
          replace q269 := eq_true q269
          have p270 : 0 ≤ (1 : Int) := (by omega)
          have q270 : 1 < (x0_1.length : Int) := of_decide_eq_true (by first | (with_reducible assumption) | assumption)
          obtain ⟨ad270, e270, hx270_0⟩ := Kd.at_int (Kd.V_reads' HO_0.out).2.2 1 p270 q270
          obtain rfl : ad268 = ad270 := (by injection e270)
          (try simp only [show (1 : Int).toNat = 1 from rfl, Nat.reduceMul, Nat.reduceEqDiff, Go.Addr.add, ↓reduceIte] at hx270_0)
          have qi270 : (1 < x0_1.length) = True := eq_true (by omega)
          (try rw [show ((1 : Int)).toNat = 1 from rfl] at hx270_0)
          replace p270 := eq_true p270
          replace q270 := eq_true q270
          go_wp2
          go_meet
          case rel => exact ⟨_, (decide ((x0_1.length : Int) < (wrap64 (2 + (wrap64 (4 * (wrap64 (rd x0_1 1)))))))), (by first | rfl | (simp; done) | (simp [*]; done)), H', ⟨by have := HK1.out; first | omega | exact Nat.le_refl _⟩, ⟨by (with_reducible repeat (first | apply Kd.V_alloc | apply Kd.V_drewN | apply Kd.V_drew)); exact HO_0.out⟩, ⟨by (with_reducible repeat (first | apply Kd.R_alloc | apply Kd.R_drewN | apply Kd.R_drew)); exact HO_4.out⟩, ⟨by repeat (first | (with_reducible first | exact HB.out | apply bA | apply bN | apply bD) | exact HB.out)⟩⟩
        ·
         rw [if_neg c8] at H
         exact absurd H (by simp)
       ·
        rw [if_neg c7] at H
        have c7b0 : ((rd x0_1 0) == 2) = false := beq_eq_false_iff_ne.mpr c7
        have c7b1 : ((rd x0_1 0) != 2) = true := bne_iff_ne.mpr c7
        have H' := Aside0.mk H
        clear H
        have p268 : 0 ≤ (0 : Int) := (by omega)
        have q268 : 0 < (x0_1.length : Int) := of_decide_eq_true (by first | (with_reducible assumption) | assumption)
        obtain ⟨ad268, e268, hx268_0⟩ := Kd.at_int (Kd.V_reads' HO_0.out).2.2 0 p268 q268
        cases e268
        have qi268 : (0 < x0_1.length) = True := eq_true (by omega)
        (try rw [show ((0 : Int)).toNat = 0 from rfl] at hx268_0)
        (try rw [Addr.add_zero'] at hx268_0)
        replace p268 := eq_true p268
        replace q268 := eq_true q268
        go_wp2
        go_meet
        case rel => exact ⟨_, (true), (by first | rfl | (simp; done) | (simp [*]; done)), H', ⟨by have := HK1.out; first | omega | exact Nat.le_refl _⟩, ⟨by (with_reducible repeat (first | apply Kd.V_alloc | apply Kd.V_drewN | apply Kd.V_drew)); exact HO_0.out⟩, ⟨by (with_reducible repeat (first | apply Kd.R_alloc | apply Kd.R_drewN | apply Kd.R_drew)); exact HO_4.out⟩, ⟨by repeat (first | (with_reducible first | exact HB.out | apply bA | apply bN | apply bD) | exact HB.out)⟩⟩
      ·
       rw [if_neg c6] at H
       exact absurd H (by simp)
    case rest =>
     clear HC3
     try clear c2
     try clear c2b0
     try clear c2b1
     try clear p2
     try clear q2
     try clear hx2
     try clear qi2
     try clear c4
     try clear c5
     try clear c5b0
     try clear c5b1
     try clear c6
     try clear c6b0
     try clear c6b1
     try clear p6
     try clear c7
     try clear c7b0
     try clear c7b1
     try clear c8
     try clear c8b0
     try clear c8b1
     try clear c9
     try clear c9b0
     try clear c9b1
     try clear hx268_0
     try clear hx269_0
     try clear hx270_0
     try clear p268
     try clear p269
     try clear p270
     try clear q268
     try clear q269
     try clear q270
     obtain ⟨kq, x35_2, rfl, HA, HJ2, HO_0, HO_4, HB⟩ := hcut
     cases kq with
     | zero => exact absurd HA.out (by simp [ridgewayref07_ases.j1])
     | succ kj2 =>
      have H := HA.out
      clear HA
      simp only [ridgewayref07_ases.j1] at H
      by_cases c10 : x35_2 = true
      ·
       subst c10
       have H1 : (some (([] : List Int), false)) = some (r1, r2) := by rw [if_pos rfl] at H; first | done | exact H
       clear H
       have H := H1
       clear H1
       simp only [Option.some.injEq, Prod.mk.injEq] at H
       obtain ⟨rfl, rfl⟩ := H
       go_wp2
       go_ret2
       exact ⟨_, by first | rfl | (simp <;> rfl) | (simp [*] <;> rfl), by first | exact Kd.R_nil _ _ _ _ _ | exact Kd.N_nil _ _ _ _ _ | exact Kd.V_nil _ _ _ _ _ | exact Kd.Q_nil _ _ _ _ _ | exact Kd.S_nil _ _ _ _ _, by repeat (first | (with_reducible first | exact HB.out | apply bA | apply bN | apply bD) | exact HB.out)⟩
      ·
       replace c10 := Bool.eq_false_iff.mpr c10
       subst c10
       have H1 : (ridgewayref07_ases.l1 kj2 x0_1 x4_1 0) = some (r1, r2) := by rw [if_neg (show ¬ (false = true) by decide)] at H; first | done | exact H
       clear H
       have H := H1
       clear H1
       have H' := Aside0.mk H
       clear H
       go_wp2
       go_loopg [4, 5] kj2 (fun kq v4 v5 w' => ∃ (x4_3 : List Int) (x5_3 : Int), v5 = .int .i64 x5_3 ∧ Aside0 (ridgewayref07_ases.l1 kq x0_1 x4_3 x5_3 = some (r1, r2)) ∧ Aside0 (kq ≤ kj2) ∧ Aside0 (Kd.V (Kd.int .u8) 5 w' w.heap.size (fun k_ => (P0_ k_ ∨ w.heap.size ≤ k_) ∧ some k_ ≠ (v4 : Value).ownBlock) (.slice Ao4 x0_1.length co4) x0_1) ∧ Aside0 (Kd.R (Kd.int .i64) 3 w' w.heap.size (fun k_ => (w.heap.size ≤ k_)) v4 x4_3) ∧ Aside0 (Below w.heap.size w w'))
       case atStart => exact ⟨(x4_1), (0), (by first | rfl | (simp; done) | (simp [*]; done)), H', ⟨Nat.le_refl _⟩, ⟨by (with_reducible repeat (first | apply Kd.V_alloc | apply Kd.V_drewN | apply Kd.V_drew)); exact HO_0.out⟩, ⟨by (with_reducible repeat (first | apply Kd.R_alloc | apply Kd.R_drewN | apply Kd.R_drew)); exact HO_4.out⟩, ⟨by repeat (first | (with_reducible first | exact HB.out | apply bA | apply bN | apply bD) | exact HB.out)⟩⟩
       case round =>
        clear H'
        try clear c1
        try clear c2
        try clear c2b0
        try clear c2b1
        try clear p2
        try clear q2
        try clear hx2
        try clear qi2
        try clear c4
        try clear c5
        try clear c5b0
        try clear c5b1
        try clear c6
        try clear c6b0
        try clear c6b1
        try clear p6
        try clear c7
        try clear c7b0
        try clear c7b1
        try clear c8
        try clear c8b0
        try clear c8b1
        try clear c9
        try clear c9b0
        try clear c9b1
        try clear c10
        try clear hx268_0
        try clear hx269_0
        try clear hx270_0
        try clear p2
        try clear p268
        try clear p269
        try clear p270
        try clear p6
        try clear q2
        try clear q268
        try clear q269
        try clear q270
        obtain ⟨x4_3, x5_3, rfl, HA, HK3, HO_0, HO_4, HB⟩ := hrel
        cases gk with
        | zero => exact absurd HA.out (by simp [ridgewayref07_ases.l1])
        | succ k3 =>
         have H := HA.out
         clear HA
         simp only [ridgewayref07_ases.l1] at H
         by_cases c11 : 1 < (x0_1.length : Int)
         ·
          rw [if_pos c11] at H
          have c11b0 : decide (1 < (x0_1.length : Int)) = true := decide_eq_true c11
          have c11b1 : decide (1 < x0_1.length) = true := decide_eq_true (by omega)
          clear c11
          by_cases c12 : x5_3 < (wrap64 (rd x0_1 1))
          ·
           rw [if_pos c12] at H
           have c12b0 : decide (x5_3 < (wrap64 (rd x0_1 1))) = true := decide_eq_true c12
           clear c12
           obtain ⟨ji13, hji13⟩ : ∃ j_ : Int, (wrap64 (2 + (wrap64 (4 * x5_3)))) = j_ := ⟨_, rfl⟩
           replace H : (if 0 ≤ (ji13) then (if (ji13) ≤ (wrap64 (6 + (wrap64 (4 * x5_3)))) then (if (wrap64 (6 + (wrap64 (4 * x5_3)))) ≤ (x0_1.length : Int) then ((ridgewayref07_four.f k3 ((x0_1.take ((wrap64 (6 + (wrap64 (4 * x5_3)))) : Int).toNat).drop ((ji13) : Int).toNat)).bind fun t277 => (if t277 = 0 then (some (([] : List Int), false)) else (if x4_3.length < 17592186044416 then (ridgewayref07_ases.l1 k3 x0_1 (x4_3 ++ [t277]) (wrap64 (x5_3 + 1))) else (none)))) else (none)) else (none)) else (none)) = some (r1, r2) := by first | (rw [hji13] at H; exact H) | (simp only [hji13] at H ⊢; exact H)
           have hji13w : (IntKind.i64.wrap (2 + (wrap64 (4 * x5_3)))) = ji13 := (i64_w _).trans hji13
           by_cases c14 : 0 ≤ (ji13)
           ·
            rw [if_pos c14] at H
            have c14b0 := eq_true c14
            have c14b1 : decide (0 ≤ (ji13)) = true := decide_eq_true c14
            clear c14
            by_cases c15 : (ji13) ≤ (wrap64 (6 + (wrap64 (4 * x5_3))))
            ·
             rw [if_pos c15] at H
             have c15b0 := eq_true c15
             have c15b1 : decide ((ji13) ≤ (wrap64 (6 + (wrap64 (4 * x5_3))))) = true := decide_eq_true c15
             by_cases c16 : (wrap64 (6 + (wrap64 (4 * x5_3)))) ≤ (x0_1.length : Int)
             ·
              rw [if_pos c16] at H
              have c16b0 := eq_true c16
              have c16b1 : decide ((wrap64 (6 + (wrap64 (4 * x5_3)))) ≤ (x0_1.length : Int)) = true := decide_eq_true c16
              obtain ⟨y272, hy272⟩ : ∃ y_ : List Int, y_ = ((x0_1.take ((wrap64 (6 + (wrap64 (4 * x5_3)))) : Int).toNat).drop ((ji13) : Int).toNat) := ⟨_, rfl⟩
              replace H : ((ridgewayref07_four.f k3 y272).bind fun t277 => (if t277 = 0 then (some (([] : List Int), false)) else (if x4_3.length < 17592186044416 then (ridgewayref07_ases.l1 k3 x0_1 (x4_3 ++ [t277]) (wrap64 (x5_3 + 1))) else (none)))) = some (r1, r2) := by first | (rw [hy272]; with_reducible exact H) | (have H2_ := (Option.bind_some _ _).symm.trans H; rw [hy272]; with_reducible exact H2_) | (have H2_ := (Option.bind_some _ _).symm.trans H; with_reducible exact H2_) | with_reducible exact H | (rw [hy272]; exact H) | exact H
              have Ny272 := Aside0.mk hy272
              clear hy272
              replace H := Option.bind_eq_some_iff.mp H
              obtain ⟨t277, A170, H⟩ := H
              replace H : (if t277 = 0 then (some (([] : List Int), false)) else (if x4_3.length < 17592186044416 then (ridgewayref07_ases.l1 k3 x0_1 (x4_3 ++ [t277]) (wrap64 (x5_3 + 1))) else (none))) = some (r1, r2) := H
              have A17 := Aside0.mk A170
              clear A170
              by_cases c18 : t277 = 0
              ·
               rw [if_pos c18] at H
               have c18b0 : (t277 == 0) = true := beq_iff_eq.mpr c18
               have c18b1 : (t277 != 0) = false := bne_eq_false_iff_eq.mpr c18
               clear c18
               simp only [Option.some.injEq, Prod.mk.injEq] at H
               obtain ⟨rfl, rfl⟩ := H
               have p271 : 0 ≤ (1 : Int) := (by omega)
               have q271 : 1 < (x0_1.length : Int) := of_decide_eq_true (by first | (with_reducible assumption) | assumption)
               obtain ⟨ad271, e271, hx271_0⟩ := Kd.at_int (Kd.V_reads' HO_0.out).2.2 1 p271 q271
               cases e271
               (try simp only [show (1 : Int).toNat = 1 from rfl, Nat.reduceMul, Nat.reduceEqDiff, Go.Addr.add, ↓reduceIte] at hx271_0)
               have qi271 : (1 < x0_1.length) = True := eq_true (by omega)
               (try rw [show ((1 : Int)).toNat = 1 from rfl] at hx271_0)
               replace p271 := eq_true p271
               replace q271 := eq_true q271
               have q19 : ((wrap64 (6 + (wrap64 (4 * x5_3)))) : Int) ≤ ((x0_1.length : Int) : Int) := of_decide_eq_true (by first | (with_reducible assumption) | assumption)
               obtain ⟨i019, hi019, _, hsz19, _⟩ := info_parts info5
               have hroom19 : x0_1.length ≤ co4 := (Kd.V_reads' HO_0.out).2.1
               have hC19 : Kd.F (Kd.int .u8) _ _ (some ad271) x0_1.length x0_1 := (Kd.V_at (base := w.heap.size) HO_0.out).2.2
               have ql19 : ((ji13) : Int) ≤ ((wrap64 (6 + (wrap64 (4 * x5_3)))) : Int) := of_decide_eq_true (by first | (with_reducible assumption) | assumption)
               have q019 : (0 : Int) ≤ ((ji13) : Int) := of_decide_eq_true (by first | (with_reducible assumption) | assumption)
               have hcut19 := cut_mid (P := Try.prog) 22 5 .i64 .i64 Try.underlying22 hi019 1 hsz19 (some ad271) x0_1.length co4 (ji13) (wrap64 (6 + (wrap64 (4 * x5_3)))) q019 ql19 q19 hroom19
               have hr19 := Kd.F_mid (lo := ((ji13) : Int).toNat) (hi := ((wrap64 (6 + (wrap64 (4 * x5_3)))) : Int).toNat) (c := co4) hC19 (by omega) (by omega) hroom19
               obtain ⟨A19, hA19⟩ : ∃ A1, A1 = (if co4 = ((ji13) : Int).toNat then (some ad271) else ((some ad271) : Option Addr).map (·.add (((ji13) : Int).toNat * 1))) := ⟨_, rfl⟩
               obtain ⟨c19, hc19⟩ : ∃ c1, c1 = co4 - ((ji13) : Int).toNat := ⟨_, rfl⟩
               have hy19 : y272.length = ((wrap64 (6 + (wrap64 (4 * x5_3)))) : Int).toNat - ((ji13) : Int).toNat := (by rw [Ny272.out, List.length_drop, List.length_take] <;> omega)
               rw [show ((x0_1).take ((wrap64 (6 + (wrap64 (4 * x5_3)))) : Int).toNat).drop ((ji13) : Int).toNat = y272 from Ny272.out.symm] at hr19
               replace hr19 : Kd.F (Kd.int .u8) _ _ A19 y272.length y272 := (by rw [hA19]; exact hr19)
               rw [← hy19, ← hA19, ← hc19] at hcut19
               have HO276 := Aside0.mk (show Kd.V (Kd.int .u8) 5 _ w.heap.size _ (.slice A19 y272.length c19) y272 from Kd.V_mk (by rw [hy19, hc19]; exact Nat.sub_le_sub_right (Nat.le_trans (by omega) hroom19) _) hr19)
               have HC276 := Aside0.mk (show y272.length ≤ c19 from by rw [hy19, hc19]; exact Nat.sub_le_sub_right (Nat.le_trans (by omega) hroom19) _)
               clear hr19 hC19 hroom19 hi019 hsz19 hc19
               have KY19 := Aside0.mk hy19
               have KA19 := Aside0.mk hA19
               clear hy19 hA19
               replace q19 := eq_true q19
               go_wp2_with (first | ((with_reducible refine gate_callee (f := 46) rfl ?_); refine goesL_ (some 52) rfl rfl Try.func46 (by kernel_rfl) rfl #[.slice A19 y272.length c19] rfl (by (try simp only [List.map_toArray, List.map_cons, List.map_nil]); first | done | rfl | (simp only [List.length_drop, List.length_take]; rfl) | (simp only [Ny272.out, List.length_set]; first | done | rfl)) ?_; (with_reducible refine (ridgewayref07_four.calls k3 _ _ y272 t277 _ ?side1 ?side2 A17.out).mono ?_); (case side1 => repeat (first | exact (Kd.V_reads' HO276.out).2.2 | (with_reducible refine Kd.C_alloc ?_ _) | (with_reducible refine Kd.C_drewN ?_ _) | (with_reducible refine Kd.C_drew ?_))); (case side2 => exact (Kd.V_reads' HO276.out).2.1); rintro e w20 ⟨rfl, hb⟩; refine ⟨_, rfl, ?_⟩; have n0_ := Aside0.mk (Kd.V_below (by (with_reducible repeat (first | apply Kd.V_alloc | apply Kd.V_drewN | apply Kd.V_drew)); exact HO_0.out) hb); have n1_ := Aside0.mk (Kd.R_below (by (with_reducible repeat (first | apply Kd.R_alloc | apply Kd.R_drewN | apply Kd.R_drew)); exact HO_4.out) hb); have n2_ := Aside0.mk (Kd.V_below (by (with_reducible repeat (first | apply Kd.V_alloc | apply Kd.V_drewN | apply Kd.V_drew)); exact HO276.out) hb); have n3_ := Aside0.mk (below_step (by repeat (first | (with_reducible first | exact HB.out | apply bA | apply bN | apply bD) | exact HB.out)) hb); clear HO_0; clear HO_4; clear HO276; clear HB; have HO_0 := n0_; have HO_4 := n1_; have HO276 := n2_; have HB := n3_; clear n0_ n1_ n2_ n3_; (try clear hb); (try clear hb2); (try clear hk); (try clear hi)))
               go_ret2
               exact ⟨_, by first | rfl | (simp [errW_none, errW_some] <;> rfl) | (simp only [← hji13]; first | rfl | (simp [errW_none, errW_some] <;> rfl)) | (simp [*, errW_none, errW_some] <;> rfl), by first | exact Kd.R_nil _ _ _ _ _ | exact Kd.N_nil _ _ _ _ _ | exact Kd.V_nil _ _ _ _ _ | exact Kd.Q_nil _ _ _ _ _ | exact Kd.S_nil _ _ _ _ _, by repeat (first | (with_reducible first | exact HB.out | apply bA | apply bN | apply bD) | exact HB.out)⟩
              ·
               rw [if_neg c18] at H
               have c18b0 : (t277 == 0) = false := beq_eq_false_iff_ne.mpr c18
               have c18b1 : (t277 != 0) = true := bne_iff_ne.mpr c18
               by_cases c21 : x4_3.length < 17592186044416
               ·
                rw [if_pos c21] at H
                have LMc21 := Aside0.mk c21
                clear c21
                obtain ⟨y278, hy278⟩ : ∃ y_ : List Int, y_ = (x4_3 ++ [t277]) := ⟨_, rfl⟩
                replace H : (ridgewayref07_ases.l1 k3 x0_1 y278 (wrap64 (x5_3 + 1))) = some (r1, r2) := by first | (rw [hy278]; with_reducible exact H) | (have H2_ := (Option.bind_some _ _).symm.trans H; rw [hy278]; with_reducible exact H2_) | (have H2_ := (Option.bind_some _ _).symm.trans H; with_reducible exact H2_) | with_reducible exact H | (rw [hy278]; exact H) | exact H
                have Ny278 := Aside0.mk hy278
                clear hy278
                have H' := Aside0.mk H
                clear H
                have p271 : 0 ≤ (1 : Int) := (by omega)
                have q271 : 1 < (x0_1.length : Int) := of_decide_eq_true (by first | (with_reducible assumption) | assumption)
                obtain ⟨ad271, e271, hx271_0⟩ := Kd.at_int (Kd.V_reads' HO_0.out).2.2 1 p271 q271
                cases e271
                (try simp only [show (1 : Int).toNat = 1 from rfl, Nat.reduceMul, Nat.reduceEqDiff, Go.Addr.add, ↓reduceIte] at hx271_0)
                have qi271 : (1 < x0_1.length) = True := eq_true (by omega)
                (try rw [show ((1 : Int)).toNat = 1 from rfl] at hx271_0)
                replace p271 := eq_true p271
                replace q271 := eq_true q271
                have q22 : ((wrap64 (6 + (wrap64 (4 * x5_3)))) : Int) ≤ ((x0_1.length : Int) : Int) := of_decide_eq_true (by first | (with_reducible assumption) | assumption)
                obtain ⟨i022, hi022, _, hsz22, _⟩ := info_parts info5
                have hroom22 : x0_1.length ≤ co4 := (Kd.V_reads' HO_0.out).2.1
                have hC22 : Kd.F (Kd.int .u8) _ _ (some ad271) x0_1.length x0_1 := (Kd.V_at (base := w.heap.size) HO_0.out).2.2
                have ql22 : ((ji13) : Int) ≤ ((wrap64 (6 + (wrap64 (4 * x5_3)))) : Int) := of_decide_eq_true (by first | (with_reducible assumption) | assumption)
                have q022 : (0 : Int) ≤ ((ji13) : Int) := of_decide_eq_true (by first | (with_reducible assumption) | assumption)
                have hcut22 := cut_mid (P := Try.prog) 22 5 .i64 .i64 Try.underlying22 hi022 1 hsz22 (some ad271) x0_1.length co4 (ji13) (wrap64 (6 + (wrap64 (4 * x5_3)))) q022 ql22 q22 hroom22
                have hr22 := Kd.F_mid (lo := ((ji13) : Int).toNat) (hi := ((wrap64 (6 + (wrap64 (4 * x5_3)))) : Int).toNat) (c := co4) hC22 (by omega) (by omega) hroom22
                obtain ⟨A22, hA22⟩ : ∃ A1, A1 = (if co4 = ((ji13) : Int).toNat then (some ad271) else ((some ad271) : Option Addr).map (·.add (((ji13) : Int).toNat * 1))) := ⟨_, rfl⟩
                obtain ⟨c22, hc22⟩ : ∃ c1, c1 = co4 - ((ji13) : Int).toNat := ⟨_, rfl⟩
                have hy22 : y272.length = ((wrap64 (6 + (wrap64 (4 * x5_3)))) : Int).toNat - ((ji13) : Int).toNat := (by rw [Ny272.out, List.length_drop, List.length_take] <;> omega)
                rw [show ((x0_1).take ((wrap64 (6 + (wrap64 (4 * x5_3)))) : Int).toNat).drop ((ji13) : Int).toNat = y272 from Ny272.out.symm] at hr22
                replace hr22 : Kd.F (Kd.int .u8) _ _ A22 y272.length y272 := (by rw [hA22]; exact hr22)
                rw [← hy22, ← hA22, ← hc22] at hcut22
                have HO276 := Aside0.mk (show Kd.V (Kd.int .u8) 5 _ w.heap.size _ (.slice A22 y272.length c22) y272 from Kd.V_mk (by rw [hy22, hc22]; exact Nat.sub_le_sub_right (Nat.le_trans (by omega) hroom22) _) hr22)
                have HC276 := Aside0.mk (show y272.length ≤ c22 from by rw [hy22, hc22]; exact Nat.sub_le_sub_right (Nat.le_trans (by omega) hroom22) _)
                clear hr22 hC22 hroom22 hi022 hsz22 hc22
                have KY22 := Aside0.mk hy22
                have KA22 := Aside0.mk hA22
                clear hy22 hA22
                replace q22 := eq_true q22
                go_wp2_with (first | ((with_reducible refine gate_callee (f := 46) rfl ?_); refine goesL_ (some 52) rfl rfl Try.func46 (by kernel_rfl) rfl #[.slice A22 y272.length c22] rfl (by (try simp only [List.map_toArray, List.map_cons, List.map_nil]); first | done | rfl | (simp only [List.length_drop, List.length_take]; rfl) | (simp only [Ny272.out, List.length_set]; first | done | rfl)) ?_; (with_reducible refine (ridgewayref07_four.calls k3 _ _ y272 t277 _ ?side1 ?side2 A17.out).mono ?_); (case side1 => repeat (first | exact (Kd.V_reads' HO276.out).2.2 | (with_reducible refine Kd.C_alloc ?_ _) | (with_reducible refine Kd.C_drewN ?_ _) | (with_reducible refine Kd.C_drew ?_))); (case side2 => exact (Kd.V_reads' HO276.out).2.1); rintro e w23 ⟨rfl, hb⟩; refine ⟨_, rfl, ?_⟩; have n0_ := Aside0.mk (Kd.V_below (by (with_reducible repeat (first | apply Kd.V_alloc | apply Kd.V_drewN | apply Kd.V_drew)); exact HO_0.out) hb); have n1_ := Aside0.mk (Kd.R_below (by (with_reducible repeat (first | apply Kd.R_alloc | apply Kd.R_drewN | apply Kd.R_drew)); exact HO_4.out) hb); have n2_ := Aside0.mk (Kd.V_below (by (with_reducible repeat (first | apply Kd.V_alloc | apply Kd.V_drewN | apply Kd.V_drew)); exact HO276.out) hb); have n3_ := Aside0.mk (below_step (by repeat (first | (with_reducible first | exact HB.out | apply bA | apply bN | apply bD) | exact HB.out)) hb); clear HO_0; clear HO_4; clear HO276; clear HB; have HO_0 := n0_; have HO_4 := n1_; have HO276 := n2_; have HB := n3_; clear n0_ n1_ n2_ n3_; (try clear hb); (try clear hb2); (try clear hk); (try clear hi)) | ((with_reducible refine gate_builtin (b := .append) (xs := #[.tmp 55, .tmp 57]) rfl ?_); (try (refine gate_guard (by rfl) ?_; dsimp only)); at_builtin; refine Kd.R_append (Kd.int .i64) (w0 := w) w.heap.size rfl (.tmp 55) (.tmp 57) 25 3 (.int .i64 0) 8 rfl Try.underlying25 info3 rfl (by decide) (by omega) u4 x4_3 t277 [.int .i64 t277] (fun k_ => (w.heap.size ≤ k_)) (fun _ => False) rfl rfl ?aP (fun _ hk => hk.elim) ?aF ?aO ?aB ?aS ?aL ?_; (case aP => exact rfl); (case aB => exact (by repeat (first | (with_reducible first | exact HB.out | apply bA | apply bN | apply bD) | exact HB.out))); (case aF => exact (fun k_ hk => (Nat.le_trans (below_size (by repeat (first | (with_reducible first | exact HB.out | apply bA | apply bN | apply bD) | exact HB.out))) hk))); (case aO => exact (by (with_reducible repeat (first | apply Kd.R_alloc | apply Kd.R_drewN | apply Kd.R_drew)); exact HO_4.out)); (case aS => exact (below_size (by repeat (first | (with_reducible first | exact HB.out | apply bA | apply bN | apply bD) | exact HB.out)))); (case aL => have := LMc21.out; omega); intro v279 w24 ho hb hg hat; rw [← Ny278.out] at ho; have n0_ := Aside0.mk (Kd.V_afterv (ok := (fun k_ => (P0_ k_ ∨ w.heap.size ≤ k_))) (by (with_reducible repeat (first | apply Kd.V_alloc | apply Kd.V_drewN | apply Kd.V_drew)); exact HO_0.out) hg hat); have n1_ := Aside0.mk (Kd.V_afterv (ok := (fun k_ => (P0_ k_ ∨ w.heap.size ≤ k_))) (by (with_reducible repeat (first | apply Kd.V_alloc | apply Kd.V_drewN | apply Kd.V_drew)); exact HO276.out) hg hat); have n2_ := Aside0.mk (hb); have n3_ := Aside0.mk (ho); clear HO_0; clear HO276; clear HB; clear HO_4; have HO_0 := n0_; have HO276 := n1_; have HB := n2_; have HO280 := n3_; clear n0_ n1_ n2_ n3_; clear ho hb hg hat))
                go_roundg k3
                case measure => have := HK1.out; have := HJ2.out; have := HK3.out; omega
                case rel => exact ⟨(y278), (wrap64 (x5_3 + 1)), (by first | rfl | (simp; done) | (simp [*]; done)), H', ⟨by have := HK1.out; have := HJ2.out; have := HK3.out; omega⟩, ⟨by (with_reducible repeat (first | apply Kd.V_alloc | apply Kd.V_drewN | apply Kd.V_drew)); exact HO_0.out⟩, ⟨by (with_reducible repeat (first | apply Kd.R_alloc | apply Kd.R_drewN | apply Kd.R_drew)); exact HO280.out⟩, ⟨by repeat (first | (with_reducible first | exact HB.out | apply bA | apply bN | apply bD) | exact HB.out)⟩⟩
               ·
                rw [if_neg c21] at H
                exact absurd H (by simp)
             ·
              rw [if_neg c16] at H
              exact absurd H (by simp)
            ·
             rw [if_neg c15] at H
             exact absurd H (by simp)
           ·
            rw [if_neg c14] at H
            exact absurd H (by simp)
          ·
           rw [if_neg c12] at H
           have c12b0 : decide (x5_3 < (wrap64 (rd x0_1 1))) = false := decide_eq_false c12
           clear c12
           obtain ⟨ji25, hji25⟩ : ∃ j_ : Int, (wrap64 (2 + (wrap64 (4 * (wrap64 (rd x0_1 1)))))) = j_ := ⟨_, rfl⟩
           replace H : (if 0 ≤ (ji25) then (if (ji25) ≤ (x0_1.length : Int) then (ridgewayref07_ases.l0 k3 (x0_1.drop ((ji25) : Int).toNat) x4_3) else (none)) else (none)) = some (r1, r2) := by first | (rw [hji25] at H; exact H) | (simp only [hji25] at H ⊢; exact H)
           have hji25w : (IntKind.i64.wrap (2 + (wrap64 (4 * (wrap64 (rd x0_1 1)))))) = ji25 := (i64_w _).trans hji25
           by_cases c26 : 0 ≤ (ji25)
           ·
            rw [if_pos c26] at H
            have c26b0 := eq_true c26
            have c26b1 : decide (0 ≤ (ji25)) = true := decide_eq_true c26
            clear c26
            by_cases c27 : (ji25) ≤ (x0_1.length : Int)
            ·
             rw [if_pos c27] at H
             have c27b0 := eq_true c27
             have c27b1 : decide ((ji25) ≤ (x0_1.length : Int)) = true := decide_eq_true c27
             clear c27
             obtain ⟨y282, hy282⟩ : ∃ y_ : List Int, y_ = (x0_1.drop ((ji25) : Int).toNat) := ⟨_, rfl⟩
             replace H : (ridgewayref07_ases.l0 k3 y282 x4_3) = some (r1, r2) := by first | (rw [hy282]; with_reducible exact H) | (have H2_ := (Option.bind_some _ _).symm.trans H; rw [hy282]; with_reducible exact H2_) | (have H2_ := (Option.bind_some _ _).symm.trans H; with_reducible exact H2_) | with_reducible exact H | (rw [hy282]; exact H) | exact H
             have Ny282 := Aside0.mk hy282
             clear hy282
             have H' := Aside0.mk H
             clear H
             have p271 : 0 ≤ (1 : Int) := (by omega)
             have q271 : 1 < (x0_1.length : Int) := of_decide_eq_true (by first | (with_reducible assumption) | assumption)
             obtain ⟨ad271, e271, hx271_0⟩ := Kd.at_int (Kd.V_reads' HO_0.out).2.2 1 p271 q271
             cases e271
             (try simp only [show (1 : Int).toNat = 1 from rfl, Nat.reduceMul, Nat.reduceEqDiff, Go.Addr.add, ↓reduceIte] at hx271_0)
             have qi271 : (1 < x0_1.length) = True := eq_true (by omega)
             (try rw [show ((1 : Int)).toNat = 1 from rfl] at hx271_0)
             replace p271 := eq_true p271
             replace q271 := eq_true q271
             have p281 : 0 ≤ (1 : Int) := (by omega)
             have q281 : 1 < (x0_1.length : Int) := of_decide_eq_true (by first | (with_reducible assumption) | assumption)
             obtain ⟨ad281, e281, hx281_0⟩ := Kd.at_int (Kd.V_reads' HO_0.out).2.2 1 p281 q281
             obtain rfl : ad271 = ad281 := (by injection e281)
             (try simp only [show (1 : Int).toNat = 1 from rfl, Nat.reduceMul, Nat.reduceEqDiff, Go.Addr.add, ↓reduceIte] at hx281_0)
             have qi281 : (1 < x0_1.length) = True := eq_true (by omega)
             (try rw [show ((1 : Int)).toNat = 1 from rfl] at hx281_0)
             replace p281 := eq_true p281
             replace q281 := eq_true q281
             have q28 : ((ji25) : Int) ≤ ((x0_1.length : Int) : Int) := of_decide_eq_true (by first | (with_reducible assumption) | assumption)
             obtain ⟨i028, hi028, _, hsz28, _⟩ := info_parts info5
             have hroom28 : x0_1.length ≤ co4 := (Kd.V_reads' HO_0.out).2.1
             have hC28 : Kd.F (Kd.int .u8) _ _ (some ad271) x0_1.length x0_1 := (Kd.V_at (base := w.heap.size) HO_0.out).2.2
             have q028 : (0 : Int) ≤ ((ji25) : Int) := of_decide_eq_true (by first | (with_reducible assumption) | assumption)
             have hcut28 := cut_from (P := Try.prog) 22 5 .i64 Try.underlying22 hi028 1 hsz28 (some ad271) x0_1.length co4 (ji25) q028 q28
             have hr28 := Kd.F_cut (m := ((ji25) : Int).toNat) (c := co4) hC28 (by omega) hroom28
             obtain ⟨A28, hA28⟩ : ∃ A1, A1 = (if co4 = ((ji25) : Int).toNat then (some ad271) else ((some ad271) : Option Addr).map (·.add (((ji25) : Int).toNat * 1))) := ⟨_, rfl⟩
             obtain ⟨c28, hc28⟩ : ∃ c1, c1 = co4 - ((ji25) : Int).toNat := ⟨_, rfl⟩
             have hy28 : y282.length = x0_1.length - ((ji25) : Int).toNat := (by rw [Ny282.out, List.length_drop] <;> omega)
             rw [show (x0_1).drop ((ji25) : Int).toNat = y282 from Ny282.out.symm] at hr28
             replace hr28 : Kd.F (Kd.int .u8) _ _ A28 y282.length y282 := (by rw [hA28]; exact hr28)
             rw [← hy28, ← hA28, ← hc28] at hcut28
             have HO286 := Aside0.mk (show Kd.V (Kd.int .u8) 5 _ w.heap.size _ (.slice A28 y282.length c28) y282 from Kd.V_mk (by rw [hy28, hc28]; exact Nat.sub_le_sub_right hroom28 _) hr28)
             have HC286 := Aside0.mk (show y282.length ≤ c28 from by rw [hy28, hc28]; exact Nat.sub_le_sub_right hroom28 _)
             clear hr28 hC28 hroom28 hi028 hsz28 hc28
             have KY28 := Aside0.mk hy28
             have KA28 := Aside0.mk hA28
             clear hy28 hA28
             replace q28 := eq_true q28
             go_wp2
             go_roundg k3
             case measure => have := HK1.out; have := HJ2.out; have := HK3.out; omega
             case rel => exact ⟨(y282), (x4_3), H', ⟨by have := HK1.out; have := HJ2.out; have := HK3.out; omega⟩, ⟨by (with_reducible repeat (first | apply Kd.V_alloc | apply Kd.V_drewN | apply Kd.V_drew)); exact HO286.out⟩, ⟨by (with_reducible repeat (first | apply Kd.R_alloc | apply Kd.R_drewN | apply Kd.R_drew)); exact HO_4.out⟩, ⟨by repeat (first | (with_reducible first | exact HB.out | apply bA | apply bN | apply bD) | exact HB.out)⟩⟩
            ·
             rw [if_neg c27] at H
             exact absurd H (by simp)
           ·
            rw [if_neg c26] at H
            exact absurd H (by simp)
         ·
          rw [if_neg c11] at H
          exact absurd H (by simp)
   ·
    rw [if_neg c2] at H
    have c2b0 : decide (0 < (x0_1.length : Int)) = false := decide_eq_false c2
    have c2b1 : decide (0 < x0_1.length) = false := decide_eq_false (by omega)
    clear c2
    simp only [Option.some.injEq, Prod.mk.injEq] at H
    obtain ⟨rfl, rfl⟩ := H
    obtain ⟨Ao29, co29, eo29⟩ := Kd.V_slice HO_0.out
    subst eo29
    go_wp2
    go_ret2
    exact ⟨_, by first | rfl | (simp <;> rfl) | (simp [*] <;> rfl), by (with_reducible repeat (first | apply Kd.R_alloc | apply Kd.R_drewN | apply Kd.R_drew)); exact HO_4.out, by repeat (first | (with_reducible first | exact HB.out | apply bA | apply bN | apply bD) | exact HB.out)⟩

-- NOT PRINTED: function 37 (ridgewayref07_judge_one)

end Go.Proofs.Ytfmhclbcoladpaa.J
