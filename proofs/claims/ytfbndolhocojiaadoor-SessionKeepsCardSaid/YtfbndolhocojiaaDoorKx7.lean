/- Each call of a Go function comes to what the Lean function of its name answers (written out by wip/tools/xprint.py, checked by Lean); conditions: those in each statement. -/
import Derived.Test.YtfbndolhocojiaaDoorKx0
import Derived.Test.YtfbndolhocojiaaDoorKx3
import Derived.Test.YtfbndolhocojiaaDoorKx6
namespace Go.Proofs.YtfbndolhocojiaaDoor.K
open Go.RowKit Go.Proofs.YtfbndolhocojiaaDoorW.PrintWords Go.Proofs.YtfbndolhocojiaaDoorW.PrintLast Go.Proofs.YtfbndolhocojiaaDoorW.PrintMore Go.Proofs.YtfbndolhocojiaaDoorW.PrintX
attribute [local go_sem] max2_int min2_int max_two min_two max_three min_three max_four min_four   -- for this text's walks alone
set_option linter.unusedVariables false
set_option linter.unusedSimpArgs false

/-! ### conf_Sane: function 10 -/
def ownsL : List S62 → List (Int × Int) → Option Bool
 | [], _ => some true
 | p :: l, seen => if (p.f0, p.f1) ∈ seen then some false else (prefix_Sane.f p.f0 p.f1).bind fun b => if b = true then ownsL l ((p.f0, p.f1) :: seen) else some false
def sidesL : List S31 → List Int → Option Bool
 | [], _ => some true
 | s :: l, seen => if s.f0 ∈ seen then some false else (conf_side.f s.f0 s.f1 s.f2 s.f3).bind fun b => if b = true then sidesL l (s.f0 :: seen) else some false
def withinB (a : Int) : Bool := if a > 0 then decide (a ≤ 4294967295) else false
def holdB (a : Int) : Bool := if a = 0 then true else if a ≥ 3 then decide (a ≤ 65535) else false
theorem within_eq (a : Int) : conf_within.f a = some (withinB a) := by
 unfold conf_within.f withinB
 split <;> rfl
theorem hold_eq (a : Int) : conf_hold.f a = some (holdB a) := by
 unfold conf_hold.f holdB
 (repeat' split) <;> rfl
def bigB (a : Int) : Bool := decide (-9223372036854775808 ≤ a) && decide (a ≤ 9223372036854775807)
def headB (a0 a1 a2 a3 : Int) (l4 : List S62) (l5 : List S31) : Bool := withinB a0 && (withinB a1 && (holdB a2 && (decide (1 ≤ a3) && (decide (a3 ≤ 1000) && (decide (l4.length ≤ 8) && decide (l5.length ≤ 8))))))
def conf_Sane.f (a0 a1 a2 a3 : Int) (l4 : List S62) (l5 : List S31) : Option Bool :=
 if headB a0 a1 a2 a3 l4 l5 = true then (if ((l4.all fun p => bigB p.f0 && bigB p.f1) && (l5.all fun s => bigB s.f0)) = true then (ownsL l4 []).bind fun b => if b = true then sidesL l5 [a0] else some false else none) else some false
abbrev cC (a0 a1 a2 a3 : Int) (A4 : Option Addr) (c4 : Nat) (l4 : List S62) (A5 : Option Addr) (c5 : Nat) (l5 : List S31) : Array Value := #[.int .i64 a0, .int .i64 a1, .int .i64 a2, .int .i64 a3, .slice A4 l4.length c4, .slice A5 l5.length c5]
set_option maxHeartbeats 8000000 in
set_option maxRecDepth 100000 in
theorem csane_no (a0 a1 a2 a3 : Int) (A4 : Option Addr) (c4 : Nat) (l4 : List S62) (A5 : Option Addr) (c5 : Nat) (l5 : List S31) (w : World) (h : headB a0 a1 a2 a3 l4 l5 = false) :
  Calls Tryd.prog 10 #[.agg (cC a0 a1 a2 a3 A4 c4 l4 A5 c5 l5)] w fun e w' => e = .returned (.bool false) ∧ Below w.heap.size w w' := by
 have K : ∀ b0 b1 b2 b3 b4 b5 b6 : Bool, withinB a0 = b0 → withinB a1 = b1 → holdB a2 = b2 → decide (1 ≤ a3) = b3 → decide (a3 ≤ 1000) = b4 → decide (l4.length ≤ 8) = b5 → decide (l5.length ≤ 8) = b6 → b0 = false ∨ b1 = false ∨ b2 = false ∨ b3 = false ∨ b4 = false ∨ b5 = false ∨ b6 = false := by
  intro b0 b1 b2 b3 b4 b5 b6 h0 h1 h2 h3 h4 h5 h6
  unfold headB at h
  rw [h0, h1, h2, h3, h4, h5, h6] at h
  revert h
  cases b0 <;> cases b1 <;> cases b2 <;> cases b3 <;> cases b4 <;> cases b5 <;> cases b6 <;> simp
 obtain ⟨b0, h0⟩ : ∃ b, withinB a0 = b := ⟨_, rfl⟩
 obtain ⟨b1, h1⟩ : ∃ b, withinB a1 = b := ⟨_, rfl⟩
 obtain ⟨b2, h2⟩ : ∃ b, holdB a2 = b := ⟨_, rfl⟩
 obtain ⟨b3, h3⟩ : ∃ b, decide (1 ≤ a3) = b := ⟨_, rfl⟩
 obtain ⟨b4, h4⟩ : ∃ b, decide (a3 ≤ 1000) = b := ⟨_, rfl⟩
 obtain ⟨b5, h5⟩ : ∃ b, decide (l4.length ≤ 8) = b := ⟨_, rfl⟩
 obtain ⟨b6, h6⟩ : ∃ b, decide (l5.length ≤ 8) = b := ⟨_, rfl⟩
 have KK := Aside0.mk (K b0 b1 b2 b3 b4 b5 b6 h0 h1 h2 h3 h4 h5 h6)
 have W0 := Aside0.mk (show conf_within.f a0 = some b0 by rw [within_eq, h0])
 have W1 := Aside0.mk (show conf_within.f a1 = some b1 by rw [within_eq, h1])
 have W2 := Aside0.mk (show conf_hold.f a2 = some b2 by rw [hold_eq, h2])
 have g3 : decide (a3 < 1) = !b3 := by
  rw [← h3]
  by_cases c : a3 < 1
  ·
   rw [decide_eq_true c, decide_eq_false (by omega)]; rfl
  ·
   rw [decide_eq_false c, decide_eq_true (by omega)]; rfl
 have g4 : decide (1000 < a3) = !b4 := by
  rw [← h4]
  by_cases c : 1000 < a3
  ·
   rw [decide_eq_true c, decide_eq_false (by omega)]; rfl
  ·
   rw [decide_eq_false c, decide_eq_true (by omega)]; rfl
 have g5 : decide (8 < (l4.length : Int)) = !b5 := by
  rw [← h5]
  by_cases c : 8 < (l4.length : Int)
  ·
   rw [decide_eq_true c, decide_eq_false (by omega)]; rfl
  ·
   rw [decide_eq_false c, decide_eq_true (by omega)]; rfl
 have g6 : decide (8 < (l5.length : Int)) = !b6 := by
  rw [← h6]
  by_cases c : 8 < (l5.length : Int)
  ·
   rw [decide_eq_true c, decide_eq_false (by omega)]; rfl
  ·
   rw [decide_eq_false c, decide_eq_true (by omega)]; rfl
 clear K h0 h1 h2 h3 h4 h5 h6 h
 have HW := Aside0.mk (heap_alloc_new w (.cells (cC a0 a1 a2 a3 A4 c4 l4 A5 c5 l5) 26))
 cases b0
 ·
  clear KK g3 g4 g5 g6
  go_enter Tryd.func10, Tryd.ntmps10
  go_wp2_with (first | (go_at_call 21; (with_reducible refine (conf_within.calls a0 false _ W0.out).mono ?_); rintro e w1 ⟨rfl, hd1⟩; have hB := Aside0.mk (below_step (below_alloc (Below.refl w.heap.size w) _) hd1.below); clear hd1))
  go_ret
  exact ⟨rfl, hB.out⟩
 cases b1
 ·
  clear KK g3 g4 g5 g6
  go_enter Tryd.func10, Tryd.ntmps10
  go_wp2_with (first
   | (go_at_call 21; (with_reducible refine (conf_within.calls a0 true _ W0.out).mono ?_); rintro e w1 ⟨rfl, hd1⟩; have hB := Aside0.mk (below_step (below_alloc (Below.refl w.heap.size w) _) hd1.below); have hx := Aside0.mk (blk_below HW.out hd1.below); have u1 : w1.cell? ⟨w.heap.size, 1, none⟩ = some (.int .i64 a1) := (blk_cell hx.out 1).trans rfl; clear hd1)
   | (go_at_call 21; (with_reducible refine (conf_within.calls a1 false _ W1.out).mono ?_); rintro e w2 ⟨rfl, hd2⟩; have hB2 := Aside0.mk (below_step hB.out hd2.below); clear hd2))
  go_ret
  exact ⟨rfl, hB2.out⟩
 cases b2
 ·
  clear KK g3 g4 g5 g6
  go_enter Tryd.func10, Tryd.ntmps10
  go_wp2_with (first
   | (go_at_call 21; (with_reducible refine (conf_within.calls a0 true _ W0.out).mono ?_); rintro e w1 ⟨rfl, hd1⟩; have hB := Aside0.mk (below_step (below_alloc (Below.refl w.heap.size w) _) hd1.below); have hx := Aside0.mk (blk_below HW.out hd1.below); have u1 : w1.cell? ⟨w.heap.size, 1, none⟩ = some (.int .i64 a1) := (blk_cell hx.out 1).trans rfl; clear hd1)
   | (go_at_call 21; (with_reducible refine (conf_within.calls a1 true _ W1.out).mono ?_); rintro e w2 ⟨rfl, hd2⟩; have hB2 := Aside0.mk (below_step hB.out hd2.below); have hx2 := Aside0.mk (blk_below hx.out hd2.below); have u2 : w2.cell? ⟨w.heap.size, 2, none⟩ = some (.int .i64 a2) := (blk_cell hx2.out 2).trans rfl; clear hd2)
   | (go_at_call 22; (with_reducible refine (conf_hold.calls a2 false _ W2.out).mono ?_); rintro e w3 ⟨rfl, hd3⟩; have hB3 := Aside0.mk (below_step hB2.out hd3.below); clear hd3))
  go_ret
  exact ⟨rfl, hB3.out⟩
 have KK2 : b3 = false ∨ b4 = false ∨ b5 = false ∨ b6 = false := by simpa using KK.out
 clear KK
 rcases KK2 with rfl | KK2
 ·
  clear g4 g5 g6
  simp only [Bool.not_false] at g3
  go_enter Tryd.func10, Tryd.ntmps10
  go_wp2_with (first
   | (go_at_call 21; (with_reducible refine (conf_within.calls a0 true _ W0.out).mono ?_); rintro e w1 ⟨rfl, hd1⟩; have hB := Aside0.mk (below_step (below_alloc (Below.refl w.heap.size w) _) hd1.below); have hx := Aside0.mk (blk_below HW.out hd1.below); have u1 : w1.cell? ⟨w.heap.size, 1, none⟩ = some (.int .i64 a1) := (blk_cell hx.out 1).trans rfl; clear hd1)
   | (go_at_call 21; (with_reducible refine (conf_within.calls a1 true _ W1.out).mono ?_); rintro e w2 ⟨rfl, hd2⟩; have hB2 := Aside0.mk (below_step hB.out hd2.below); have hx2 := Aside0.mk (blk_below hx.out hd2.below); have u2 : w2.cell? ⟨w.heap.size, 2, none⟩ = some (.int .i64 a2) := (blk_cell hx2.out 2).trans rfl; clear hd2)
   | (go_at_call 22; (with_reducible refine (conf_hold.calls a2 true _ W2.out).mono ?_); rintro e w3 ⟨rfl, hd3⟩; have hB3 := Aside0.mk (below_step hB2.out hd3.below); have hx3 := Aside0.mk (blk_below hx2.out hd3.below); have u3 : w3.cell? ⟨w.heap.size, 3, none⟩ = some (.int .i64 a3) := (blk_cell hx3.out 3).trans rfl; have u4 : w3.cell? ⟨w.heap.size, 4, none⟩ = some (.slice A4 l4.length c4) := (blk_cell hx3.out 4).trans rfl; have u5 : w3.cell? ⟨w.heap.size, 5, none⟩ = some (.slice A5 l5.length c5) := (blk_cell hx3.out 5).trans rfl; have u0 : w3.cell? ⟨w.heap.size, 0, none⟩ = some (.int .i64 a0) := (blk_cell hx3.out 0).trans rfl; clear hd3))
  go_ret
  exact ⟨rfl, hB3.out⟩
 cases b3
 ·
  clear KK2 g4 g5 g6
  simp only [Bool.not_false] at g3
  go_enter Tryd.func10, Tryd.ntmps10
  go_wp2_with (first
   | (go_at_call 21; (with_reducible refine (conf_within.calls a0 true _ W0.out).mono ?_); rintro e w1 ⟨rfl, hd1⟩; have hB := Aside0.mk (below_step (below_alloc (Below.refl w.heap.size w) _) hd1.below); have hx := Aside0.mk (blk_below HW.out hd1.below); have u1 : w1.cell? ⟨w.heap.size, 1, none⟩ = some (.int .i64 a1) := (blk_cell hx.out 1).trans rfl; clear hd1)
   | (go_at_call 21; (with_reducible refine (conf_within.calls a1 true _ W1.out).mono ?_); rintro e w2 ⟨rfl, hd2⟩; have hB2 := Aside0.mk (below_step hB.out hd2.below); have hx2 := Aside0.mk (blk_below hx.out hd2.below); have u2 : w2.cell? ⟨w.heap.size, 2, none⟩ = some (.int .i64 a2) := (blk_cell hx2.out 2).trans rfl; clear hd2)
   | (go_at_call 22; (with_reducible refine (conf_hold.calls a2 true _ W2.out).mono ?_); rintro e w3 ⟨rfl, hd3⟩; have hB3 := Aside0.mk (below_step hB2.out hd3.below); have hx3 := Aside0.mk (blk_below hx2.out hd3.below); have u3 : w3.cell? ⟨w.heap.size, 3, none⟩ = some (.int .i64 a3) := (blk_cell hx3.out 3).trans rfl; have u4 : w3.cell? ⟨w.heap.size, 4, none⟩ = some (.slice A4 l4.length c4) := (blk_cell hx3.out 4).trans rfl; have u5 : w3.cell? ⟨w.heap.size, 5, none⟩ = some (.slice A5 l5.length c5) := (blk_cell hx3.out 5).trans rfl; have u0 : w3.cell? ⟨w.heap.size, 0, none⟩ = some (.int .i64 a0) := (blk_cell hx3.out 0).trans rfl; clear hd3))
  go_ret
  exact ⟨rfl, hB3.out⟩
 simp only [Bool.not_true] at g3
 rcases KK2 with rfl | KK2
 ·
  clear g5 g6
  simp only [Bool.not_false] at g4
  go_enter Tryd.func10, Tryd.ntmps10
  go_wp2_with (first
   | (go_at_call 21; (with_reducible refine (conf_within.calls a0 true _ W0.out).mono ?_); rintro e w1 ⟨rfl, hd1⟩; have hB := Aside0.mk (below_step (below_alloc (Below.refl w.heap.size w) _) hd1.below); have hx := Aside0.mk (blk_below HW.out hd1.below); have u1 : w1.cell? ⟨w.heap.size, 1, none⟩ = some (.int .i64 a1) := (blk_cell hx.out 1).trans rfl; clear hd1)
   | (go_at_call 21; (with_reducible refine (conf_within.calls a1 true _ W1.out).mono ?_); rintro e w2 ⟨rfl, hd2⟩; have hB2 := Aside0.mk (below_step hB.out hd2.below); have hx2 := Aside0.mk (blk_below hx.out hd2.below); have u2 : w2.cell? ⟨w.heap.size, 2, none⟩ = some (.int .i64 a2) := (blk_cell hx2.out 2).trans rfl; clear hd2)
   | (go_at_call 22; (with_reducible refine (conf_hold.calls a2 true _ W2.out).mono ?_); rintro e w3 ⟨rfl, hd3⟩; have hB3 := Aside0.mk (below_step hB2.out hd3.below); have hx3 := Aside0.mk (blk_below hx2.out hd3.below); have u3 : w3.cell? ⟨w.heap.size, 3, none⟩ = some (.int .i64 a3) := (blk_cell hx3.out 3).trans rfl; have u4 : w3.cell? ⟨w.heap.size, 4, none⟩ = some (.slice A4 l4.length c4) := (blk_cell hx3.out 4).trans rfl; have u5 : w3.cell? ⟨w.heap.size, 5, none⟩ = some (.slice A5 l5.length c5) := (blk_cell hx3.out 5).trans rfl; have u0 : w3.cell? ⟨w.heap.size, 0, none⟩ = some (.int .i64 a0) := (blk_cell hx3.out 0).trans rfl; clear hd3))
  go_ret
  exact ⟨rfl, hB3.out⟩
 cases b4
 ·
  clear KK2 g5 g6
  simp only [Bool.not_false] at g4
  go_enter Tryd.func10, Tryd.ntmps10
  go_wp2_with (first
   | (go_at_call 21; (with_reducible refine (conf_within.calls a0 true _ W0.out).mono ?_); rintro e w1 ⟨rfl, hd1⟩; have hB := Aside0.mk (below_step (below_alloc (Below.refl w.heap.size w) _) hd1.below); have hx := Aside0.mk (blk_below HW.out hd1.below); have u1 : w1.cell? ⟨w.heap.size, 1, none⟩ = some (.int .i64 a1) := (blk_cell hx.out 1).trans rfl; clear hd1)
   | (go_at_call 21; (with_reducible refine (conf_within.calls a1 true _ W1.out).mono ?_); rintro e w2 ⟨rfl, hd2⟩; have hB2 := Aside0.mk (below_step hB.out hd2.below); have hx2 := Aside0.mk (blk_below hx.out hd2.below); have u2 : w2.cell? ⟨w.heap.size, 2, none⟩ = some (.int .i64 a2) := (blk_cell hx2.out 2).trans rfl; clear hd2)
   | (go_at_call 22; (with_reducible refine (conf_hold.calls a2 true _ W2.out).mono ?_); rintro e w3 ⟨rfl, hd3⟩; have hB3 := Aside0.mk (below_step hB2.out hd3.below); have hx3 := Aside0.mk (blk_below hx2.out hd3.below); have u3 : w3.cell? ⟨w.heap.size, 3, none⟩ = some (.int .i64 a3) := (blk_cell hx3.out 3).trans rfl; have u4 : w3.cell? ⟨w.heap.size, 4, none⟩ = some (.slice A4 l4.length c4) := (blk_cell hx3.out 4).trans rfl; have u5 : w3.cell? ⟨w.heap.size, 5, none⟩ = some (.slice A5 l5.length c5) := (blk_cell hx3.out 5).trans rfl; have u0 : w3.cell? ⟨w.heap.size, 0, none⟩ = some (.int .i64 a0) := (blk_cell hx3.out 0).trans rfl; clear hd3))
  go_ret
  exact ⟨rfl, hB3.out⟩
 simp only [Bool.not_true] at g4
 rcases KK2 with rfl | rfl
 ·
  clear g6
  simp only [Bool.not_false] at g5
  go_enter Tryd.func10, Tryd.ntmps10
  go_wp2_with (first
   | (go_at_call 21; (with_reducible refine (conf_within.calls a0 true _ W0.out).mono ?_); rintro e w1 ⟨rfl, hd1⟩; have hB := Aside0.mk (below_step (below_alloc (Below.refl w.heap.size w) _) hd1.below); have hx := Aside0.mk (blk_below HW.out hd1.below); have u1 : w1.cell? ⟨w.heap.size, 1, none⟩ = some (.int .i64 a1) := (blk_cell hx.out 1).trans rfl; clear hd1)
   | (go_at_call 21; (with_reducible refine (conf_within.calls a1 true _ W1.out).mono ?_); rintro e w2 ⟨rfl, hd2⟩; have hB2 := Aside0.mk (below_step hB.out hd2.below); have hx2 := Aside0.mk (blk_below hx.out hd2.below); have u2 : w2.cell? ⟨w.heap.size, 2, none⟩ = some (.int .i64 a2) := (blk_cell hx2.out 2).trans rfl; clear hd2)
   | (go_at_call 22; (with_reducible refine (conf_hold.calls a2 true _ W2.out).mono ?_); rintro e w3 ⟨rfl, hd3⟩; have hB3 := Aside0.mk (below_step hB2.out hd3.below); have hx3 := Aside0.mk (blk_below hx2.out hd3.below); have u3 : w3.cell? ⟨w.heap.size, 3, none⟩ = some (.int .i64 a3) := (blk_cell hx3.out 3).trans rfl; have u4 : w3.cell? ⟨w.heap.size, 4, none⟩ = some (.slice A4 l4.length c4) := (blk_cell hx3.out 4).trans rfl; have u5 : w3.cell? ⟨w.heap.size, 5, none⟩ = some (.slice A5 l5.length c5) := (blk_cell hx3.out 5).trans rfl; have u0 : w3.cell? ⟨w.heap.size, 0, none⟩ = some (.int .i64 a0) := (blk_cell hx3.out 0).trans rfl; clear hd3))
  go_ret
  exact ⟨rfl, hB3.out⟩
 cases b5
 ·
  clear g6
  simp only [Bool.not_false] at g5
  go_enter Tryd.func10, Tryd.ntmps10
  go_wp2_with (first
   | (go_at_call 21; (with_reducible refine (conf_within.calls a0 true _ W0.out).mono ?_); rintro e w1 ⟨rfl, hd1⟩; have hB := Aside0.mk (below_step (below_alloc (Below.refl w.heap.size w) _) hd1.below); have hx := Aside0.mk (blk_below HW.out hd1.below); have u1 : w1.cell? ⟨w.heap.size, 1, none⟩ = some (.int .i64 a1) := (blk_cell hx.out 1).trans rfl; clear hd1)
   | (go_at_call 21; (with_reducible refine (conf_within.calls a1 true _ W1.out).mono ?_); rintro e w2 ⟨rfl, hd2⟩; have hB2 := Aside0.mk (below_step hB.out hd2.below); have hx2 := Aside0.mk (blk_below hx.out hd2.below); have u2 : w2.cell? ⟨w.heap.size, 2, none⟩ = some (.int .i64 a2) := (blk_cell hx2.out 2).trans rfl; clear hd2)
   | (go_at_call 22; (with_reducible refine (conf_hold.calls a2 true _ W2.out).mono ?_); rintro e w3 ⟨rfl, hd3⟩; have hB3 := Aside0.mk (below_step hB2.out hd3.below); have hx3 := Aside0.mk (blk_below hx2.out hd3.below); have u3 : w3.cell? ⟨w.heap.size, 3, none⟩ = some (.int .i64 a3) := (blk_cell hx3.out 3).trans rfl; have u4 : w3.cell? ⟨w.heap.size, 4, none⟩ = some (.slice A4 l4.length c4) := (blk_cell hx3.out 4).trans rfl; have u5 : w3.cell? ⟨w.heap.size, 5, none⟩ = some (.slice A5 l5.length c5) := (blk_cell hx3.out 5).trans rfl; have u0 : w3.cell? ⟨w.heap.size, 0, none⟩ = some (.int .i64 a0) := (blk_cell hx3.out 0).trans rfl; clear hd3))
  go_ret
  exact ⟨rfl, hB3.out⟩
 simp only [Bool.not_true] at g5
 simp only [Bool.not_false] at g6
 go_enter Tryd.func10, Tryd.ntmps10
 go_wp2_with (first
   | (go_at_call 21; (with_reducible refine (conf_within.calls a0 true _ W0.out).mono ?_); rintro e w1 ⟨rfl, hd1⟩; have hB := Aside0.mk (below_step (below_alloc (Below.refl w.heap.size w) _) hd1.below); have hx := Aside0.mk (blk_below HW.out hd1.below); have u1 : w1.cell? ⟨w.heap.size, 1, none⟩ = some (.int .i64 a1) := (blk_cell hx.out 1).trans rfl; clear hd1)
   | (go_at_call 21; (with_reducible refine (conf_within.calls a1 true _ W1.out).mono ?_); rintro e w2 ⟨rfl, hd2⟩; have hB2 := Aside0.mk (below_step hB.out hd2.below); have hx2 := Aside0.mk (blk_below hx.out hd2.below); have u2 : w2.cell? ⟨w.heap.size, 2, none⟩ = some (.int .i64 a2) := (blk_cell hx2.out 2).trans rfl; clear hd2)
   | (go_at_call 22; (with_reducible refine (conf_hold.calls a2 true _ W2.out).mono ?_); rintro e w3 ⟨rfl, hd3⟩; have hB3 := Aside0.mk (below_step hB2.out hd3.below); have hx3 := Aside0.mk (blk_below hx2.out hd3.below); have u3 : w3.cell? ⟨w.heap.size, 3, none⟩ = some (.int .i64 a3) := (blk_cell hx3.out 3).trans rfl; have u4 : w3.cell? ⟨w.heap.size, 4, none⟩ = some (.slice A4 l4.length c4) := (blk_cell hx3.out 4).trans rfl; have u5 : w3.cell? ⟨w.heap.size, 5, none⟩ = some (.slice A5 l5.length c5) := (blk_cell hx3.out 5).trans rfl; have u0 : w3.cell? ⟨w.heap.size, 0, none⟩ = some (.int .i64 a0) := (blk_cell hx3.out 0).trans rfl; clear hd3))
 go_ret
 exact ⟨rfl, hB3.out⟩
def OSt (w : World) (mb : Nat) (cs : Array Value) (seen : List (Int × Int)) (W : World) : Prop :=
 W.heap[w.heap.size]? = some (.cells cs 26 (0, 0)) ∧ SeenP Tryd.prog 62 W mb seen.length (fun a c => ((seen.count (a, c) : Nat) : Int)) ∧ Below w.heap.size w W ∧ w.heap.size < mb
theorem OSt.below {w : World} {mb : Nat} {cs : Array Value} {seen : List (Int × Int)} {W W' : World} (h : OSt w mb cs seen W) (hb : Below W.heap.size W W') : OSt w mb cs seen W' :=
 ⟨blk_below h.1 hb, h.2.1.below hb, below_step h.2.2.1 hb, h.2.2.2⟩
theorem OSt.put {w : World} {mb : Nat} {cs : Array Value} {seen : List (Int × Int)} {W W' : World} {x y v : Int} (h : OSt w mb cs seen W) (hs : SeenP Tryd.prog 62 W' mb (seen.length + 1) (fun a c => if a = x ∧ c = y then v else ((seen.count (a, c) : Nat) : Int))) (hv : v = ((seen.count (x, y) : Nat) : Int) + 1) (hg : W.grownBy W' (some mb)) : OSt w mb cs ((x, y) :: seen) W' := by
 obtain ⟨h1, h2, h3, h4⟩ := h
 refine ⟨(hg.block _ (blk_lt h1) (fun e => by have := Option.some.inj e; omega)).trans h1, ?_, h3.grown hg h3.size (fun k e => by have := Option.some.inj e; omega), h4⟩
 have e : (fun a c : Int => ((((x, y) :: seen).count (a, c) : Nat) : Int)) = fun a c => if a = x ∧ c = y then v else ((seen.count (a, c) : Nat) : Int) := by
  funext a c
  rw [List.count_cons]
  by_cases g : a = x ∧ c = y
  ·
   obtain ⟨rfl, rfl⟩ := g
   simp [hv]
  ·
   rw [if_neg g, if_neg (by simp only [beq_iff_eq, Prod.mk.injEq]; exact fun e => g ⟨e.1.symm, e.2.symm⟩)]
   simp
 rw [e]
 exact hs
def SSt (w : World) (mb : Nat) (cs : Array Value) (seen : List Int) (W : World) : Prop :=
 W.heap[w.heap.size]? = some (.cells cs 26 (0, 0)) ∧ SeenI Tryd.prog W mb seen.length (fun a => ((seen.count a : Nat) : Int)) ∧ Below w.heap.size w W ∧ w.heap.size < mb
theorem SSt.below {w : World} {mb : Nat} {cs : Array Value} {seen : List Int} {W W' : World} (h : SSt w mb cs seen W) (hb : Below W.heap.size W W') : SSt w mb cs seen W' :=
 ⟨blk_below h.1 hb, h.2.1.below hb, below_step h.2.2.1 hb, h.2.2.2⟩
theorem SSt.put {w : World} {mb : Nat} {cs : Array Value} {seen : List Int} {W W' : World} {x v : Int} (h : SSt w mb cs seen W) (hs : SeenI Tryd.prog W' mb (seen.length + 1) (fun a => if a = x then v else ((seen.count a : Nat) : Int))) (hv : v = ((seen.count x : Nat) : Int) + 1) (hg : W.grownBy W' (some mb)) : SSt w mb cs (x :: seen) W' := by
 obtain ⟨h1, h2, h3, h4⟩ := h
 refine ⟨(hg.block _ (blk_lt h1) (fun e => by have := Option.some.inj e; omega)).trans h1, ?_, h3.grown hg h3.size (fun k e => by have := Option.some.inj e; omega), h4⟩
 have e : (fun u : Int => (((x :: seen).count u : Nat) : Int)) = fun u => if u = x then v else ((seen.count u : Nat) : Int) := by
  funext u
  rw [List.count_cons]
  by_cases c : u = x
  ·
   subst c; simp [hv]
  ·
   rw [if_neg c, if_neg (by simpa using fun e : x = u => c e.symm)]; simp
 rw [e]
 exact hs
theorem lit_wf' {t : Int} (h : -9223372036854775808 ≤ t ∧ t ≤ 9223372036854775807) : (Lit.int .i64 t).wf = true := by
 simp [Lit.wf, IntKind.min, IntKind.max, IntKind.bits, IntKind.signed]; omega
theorem klP : Go.WideMaps.KeyLaw Tryd.prog 62 := deep_law_laid (by kernel_rfl) (m := 3) (by omega) (by exact of_decide_eq_true (by kernel_rfl)) (by kernel_rfl) (by kernel_rfl)
set_option maxRecDepth 100000 in
theorem keyP (x y : Int) (hx : (Lit.int .i64 x).wf = true) (hy : (Lit.int .i64 y).wf = true) : ∃ kl, keyOf Tryd.prog 62 (pk x y) = some kl := by
 have hk : Tryd.prog.keyType 62 = true := by kernel_rfl
 have hf : (pk x y).formed Tryd.prog 62 = true := by kernel_rfl
 have hm0 : 0 < Tryd.prog.types.size := of_decide_eq_true (by kernel_rfl)
 obtain ⟨m, hm⟩ : ∃ m, Tryd.prog.types.size = m + 1 := ⟨Tryd.prog.types.size - 1, by omega⟩
 have hc3 : Tryd.prog.cellsOf 3 = 1 := by kernel_rfl
 have hcP : Tryd.prog.cellsOf 62 = 2 := by kernel_rfl
 have hu := Tryd.underlying62
 have h3 := Tryd.underlying3
 refine ⟨.string (keyBytes [.int .i64 x, .int .i64 y]), ?_⟩
 unfold keyOf
 simp only [hu]
 rw [if_pos (by rw [hk, hf]; rfl), hm]
 simp [Program.keyLits, hu, h3, hc3, hcP, hx, hy, Value.cells]
set_option maxHeartbeats 8000000 in
set_option maxRecDepth 100000 in
theorem csane_yes (a0 a1 a2 a3 : Int) (A4 : Option Addr) (c4 : Nat) (l4 : List S62) (A5 : Option Addr) (c5 : Nat) (l5 : List S31) (w : World) (r : Bool) (h : headB a0 a1 a2 a3 l4 l5 = true)
  (hr4 : Kd.C k62 w A4 l4.length l4) (hr5 : Kd.C k31 w A5 l5.length l5)
  (hw4 : ∀ p ∈ l4, (Lit.int .i64 p.f0).wf = true ∧ (Lit.int .i64 p.f1).wf = true) (hw5 : ∀ s ∈ l5, (Lit.int .i64 s.f0).wf = true)
  (hR : ((ownsL l4 []).bind fun b => if b = true then sidesL l5 [a0] else some false) = some r) :
  Calls Tryd.prog 10 #[.agg (cC a0 a1 a2 a3 A4 c4 l4 A5 c5 l5)] w fun e w' => e = .returned (.bool r) ∧ Below w.heap.size w w' := by
 simp only [headB, Bool.and_eq_true] at h
 obtain ⟨h0, h1, h2, h3, h4, h5, h6⟩ := h
 have W0 := Aside0.mk (show conf_within.f a0 = some true by rw [within_eq, h0])
 have W1 := Aside0.mk (show conf_within.f a1 = some true by rw [within_eq, h1])
 have W2 := Aside0.mk (show conf_hold.f a2 = some true by rw [hold_eq, h2])
 have g3 : decide (a3 < 1) = false := decide_eq_false (by have := of_decide_eq_true h3; omega)
 have g4 : decide (1000 < a3) = false := decide_eq_false (by have := of_decide_eq_true h4; omega)
 have g5 : decide (8 < (l4.length : Int)) = false := decide_eq_false (by have := of_decide_eq_true h5; omega)
 have g6 : decide (8 < (l5.length : Int)) = false := decide_eq_false (by have := of_decide_eq_true h6; omega)
 have HL4 := Aside0.mk (of_decide_eq_true h5)
 have HL5 := Aside0.mk (of_decide_eq_true h6)
 have HA0 := Aside0.mk (show (Lit.int .i64 a0).wf = true from lit_wf' (by unfold withinB at h0; split at h0; have := of_decide_eq_true h0; omega; cases h0))
 have HR4 := Aside0.mk hr4
 have HR5 := Aside0.mk hr5
 have HW4 := Aside0.mk hw4
 have HW5 := Aside0.mk hw5
 have H := Aside0.mk hR
 have HW := Aside0.mk (heap_alloc_new w (.cells (cC a0 a1 a2 a3 A4 c4 l4 A5 c5 l5) 26))
 have hmk : ∀ W : World, (Instr.makeMap 60 none).run Tryd.prog W = .ok (.map (some W.heap.size)) (W.alloc (.map #[] 0)) := fun _ => rfl
 have hmk2 : ∀ W : World, (Instr.makeMap 64 none).run Tryd.prog W = .ok (.map (some W.heap.size)) (W.alloc (.map #[] 0)) := fun _ => rfl
 clear h0 h1 h2 h3 h4 h5 h6 hr4 hr5 hw4 hw5 hR
 go_enter Tryd.func10, Tryd.ntmps10
 go_wp2_with (first
   | (go_at_call 21; (with_reducible refine (conf_within.calls a0 true _ W0.out).mono ?_); rintro e w1 ⟨rfl, hd1⟩; have hB := Aside0.mk (below_step (below_alloc (Below.refl w.heap.size w) _) hd1.below); have hx := Aside0.mk (blk_below HW.out hd1.below); have u1 : w1.cell? ⟨w.heap.size, 1, none⟩ = some (.int .i64 a1) := (blk_cell hx.out 1).trans rfl; clear hd1)
   | (go_at_call 21; (with_reducible refine (conf_within.calls a1 true _ W1.out).mono ?_); rintro e w2 ⟨rfl, hd2⟩; have hB2 := Aside0.mk (below_step hB.out hd2.below); have hx2 := Aside0.mk (blk_below hx.out hd2.below); have u2 : w2.cell? ⟨w.heap.size, 2, none⟩ = some (.int .i64 a2) := (blk_cell hx2.out 2).trans rfl; clear hd2)
   | (go_at_call 22; (with_reducible refine (conf_hold.calls a2 true _ W2.out).mono ?_); rintro e w3 ⟨rfl, hd3⟩; have hB3 := Aside0.mk (below_step hB2.out hd3.below); have hx3 := Aside0.mk (blk_below hx2.out hd3.below); have u3 : w3.cell? ⟨w.heap.size, 3, none⟩ = some (.int .i64 a3) := (blk_cell hx3.out 3).trans rfl; have u4 : w3.cell? ⟨w.heap.size, 4, none⟩ = some (.slice A4 l4.length c4) := (blk_cell hx3.out 4).trans rfl; have u5 : w3.cell? ⟨w.heap.size, 5, none⟩ = some (.slice A5 l5.length c5) := (blk_cell hx3.out 5).trans rfl; have u0 : w3.cell? ⟨w.heap.size, 0, none⟩ = some (.int .i64 a0) := (blk_cell hx3.out 0).trans rfl; have hlt3 : w.heap.size < w3.heap.size := blk_lt hx3.out; clear hd3))
 have HS3 := Aside0.mk (show OSt w w3.heap.size (cC a0 a1 a2 a3 A4 c4 l4 A5 c5 l5) [] (w3.alloc (.map #[] 0)) from ⟨blk_alloc hx3.out _, SeenP.made _ _, below_alloc hB3.out _, blk_lt hx3.out⟩)
 clear hx hx2 hB hB2 hB3 g3 g4 g5 g6 hx3 u1 u2 HW
 go_loopg [51] l4.length (fun kq v51 w' => ∃ (i : Nat) (seen : List (Int × Int)), v51 = .int .i64 (i : Int) ∧ Aside0 (i + kq = l4.length ∧ seen.length = i ∧ ((ownsL (l4.drop i) seen).bind fun b => if b = true then sidesL l5 [a0] else some false) = some r ∧ OSt w w3.heap.size (cC a0 a1 a2 a3 A4 c4 l4 A5 c5 l5) seen w'))
 case atStart => exact ⟨0, [], rfl, ⟨Nat.zero_add _, rfl, H.out, HS3.out⟩⟩
 case round =>
  clear H HS3
  obtain ⟨i, seen, rfl, HI⟩ := hrel
  have hik := HI.out.1
  have hl := HL4.out
  have HST := Aside0.mk HI.out.2.2.2
  have v0_ : wr.cell? ⟨w.heap.size, 0, none⟩ = some (.int .i64 a0) := (blk_cell HST.out.1 0).trans rfl
  have v5_ : wr.cell? ⟨w.heap.size, 5, none⟩ = some (.slice A5 l5.length c5) := (blk_cell HST.out.1 5).trans rfl
  by_cases c1 : i < l4.length
  ·
   have d1 : decide ((i : Int) < (l4.length : Int)) = true := decide_eq_true (by omega)
   cases gk with
   | zero => omega
   | succ k1 =>
   have HJ := Aside0.mk HI.out.2.2.1
   have HIK := Aside0.mk hik
   have HSL := Aside0.mk HI.out.2.1
   obtain ⟨ad, e, x0, x1⟩ := at_T62 (Kd.C_below HR4.out HST.out.2.2.1) (i : Int) (by omega) (by omega)
   subst e
   have hrd : rd_T62 l4 (i : Int) = l4[i]'c1 := by simp [rd_T62, c1]
   have hdrop : l4.drop i = l4[i]'c1 :: l4.drop (i + 1) := List.drop_eq_getElem_cons c1
   obtain ⟨⟨px, py⟩, hp⟩ : ∃ p, p = l4[i]'c1 := ⟨_, rfl⟩
   rw [hrd, ← hp] at x0 x1
   rw [← hp] at hdrop
   have hwp := HW4.out _ (List.getElem_mem c1)
   rw [← hp] at hwp
   have HWP := Aside0.mk hwp
   obtain ⟨kl, hkl⟩ := keyP px py hwp.1 hwp.2
   simp only [Int.toNat_natCast] at x0 x1
   have HJ2 := Aside0.mk (show ((ownsL (⟨px, py⟩ :: l4.drop (i + 1)) seen).bind fun b => if b = true then sidesL l5 [a0] else some false) = some r from by rw [← hdrop]; exact HJ.out)
   obtain ⟨cn, hcn⟩ : ∃ cn : Nat, cn = seen.count (px, py) := ⟨_, rfl⟩
   have cb : (cn : Int) ≤ 100 := by have h1 := List.count_le_length (a := (px, py)) (l := seen); have h2 := HSL.out; omega
   have hwf2 : (Lit.int .i64 ((cn : Int) + 1)).wf = true := lit_wf' (by omega)
   have HS6 := HST.out.2.1.alloc (.cells #[.int .i64 px, .int .i64 py] 62)
   have hz3 : ∀ u : World, (zeroValue 3).run Tryd.prog u = .ok (.int .i64 0) u := fun u => rfl
   obtain ⟨v0, st, W7, W8, e1, e2, e3, hs8, hg7, hg8⟩ := SeenP.bump (T := 60) (W := (wr.alloc (.cells #[.int .i64 px, .int .i64 py] 62)).drew) (v := (cn : Int) + 1) HS6.drew klP rfl rfl hz3 (by have := HSL.out; simp only [maxLen]; omega) hkl hwf2
   have e0 := HS6.drew.look (T := 60) klP rfl rfl (hz3 _) hkl
   rw [← hcn] at e0 e2
   clear hrd hdrop hp hwp HJ HI hl hik
   have HU8 := Aside0.mk (OSt.put (HST.out.below (below_drew (below_alloc (Below.refl _ _) _))) hs8 (by rw [hcn]) hg8)
   have hz8 : W8.heap[wr.heap.size]? = some (.cells #[.int .i64 px, .int .i64 py] 62 (0, 0)) := (hg8.block wr.heap.size (by show wr.heap.size < (wr.alloc _).heap.size; rw [World.size_alloc]; omega) (fun e => by have := Option.some.inj e; have h1 := HST.out.2.1.lt; omega)).trans (heap_alloc_new wr _)
   have y0 : W8.cell? ⟨wr.heap.size, 0, none⟩ = some (.int .i64 px) := (blk_cell hz8 0).trans rfl
   have y1 : W8.cell? ⟨wr.heap.size, 1, none⟩ = some (.int .i64 py) := (blk_cell hz8 1).trans rfl
   have hl8 := HU8.out.2.1.look (T := 60) klP rfl rfl (hz3 _) hkl
   rw [List.count_cons_self, ← hcn] at hl8
   obtain ⟨c8, hc8⟩ : ∃ c8 : Int, c8 = ((cn + 1 : Nat) : Int) := ⟨_, rfl⟩
   rw [← hc8] at hl8
   have HC8 := Aside0.mk hc8
   have HZ8 := Aside0.mk hz8
   have HCN := Aside0.mk hcn
   clear hz8 hs8 hg7 hg8 HS6 hkl hcn hc8
   replace e3 : (Instr.entryStore 60 (.map (some w3.heap.size)) (.int .i64 st) (.int .i64 (IntKind.i64.wrap ((cn : Int) + 1)))).run Tryd.prog W7 = .ok () W8 := by
    rw [show IntKind.i64.wrap ((cn : Int) + 1) = (cn : Int) + 1 from by simp [IntKind.wrap, IntKind.bits, IntKind.signed]; omega]
    exact e3
   go_wp2
   go_region_with (fail)
   all_goals clear e0 e1 e2 e3
   ·
    by_cases m1 : (px, py) ∈ seen
    ·
     have cpos : (1 : Int) < c8 := by have h1 := List.count_pos_iff.2 m1; rw [← HCN.out] at h1; rw [HC8.out]; omega
     have e4 : decide ((1 : Int) < c8) = true := decide_eq_true cpos
     have er := Aside0.mk (show false = r by have h1 := HJ2.out; rw [ownsL, if_pos m1, Option.bind_some, if_neg (by decide)] at h1; exact Option.some.inj h1)
     clear m1 HJ2 cpos
     go_wp2
     go_ret
     exact ⟨by rw [← er.out]; rfl, HU8.out.2.2.1⟩
    ·
     have c0 : decide ((1 : Int) < c8) = false := decide_eq_false (by rw [HC8.out, HCN.out, List.count_eq_zero.2 m1]; decide)
     obtain ⟨bs, hbs⟩ : ∃ b, prefix_Sane.f px py = some b := by
      have h1 := HJ2.out; rw [ownsL, if_neg m1] at h1
      obtain ⟨b1, h2, _⟩ := Option.bind_eq_some_iff.mp h1
      obtain ⟨b, h3, _⟩ := Option.bind_eq_some_iff.mp h2
      exact ⟨b, h3⟩
     have HBS := Aside0.mk hbs
     cases bs
     ·
      have er := Aside0.mk (show false = r by have h1 := HJ2.out; rw [ownsL, if_neg m1, hbs, Option.bind_some, if_neg (by decide), Option.bind_some, if_neg (by decide)] at h1; exact Option.some.inj h1)
      clear m1 HJ2 hbs
      go_wp2_with (first | (go_at_call 23; (with_reducible refine (prefix_Sane.calls px py false _ HBS.out).mono ?_); rintro e w9 ⟨rfl, hb9⟩; have HB9 := Aside0.mk (below_step HU8.out.2.2.1 hb9); clear hb9))
      go_ret
      exact ⟨by rw [← er.out]; rfl, HB9.out⟩
     ·
      have HJ3 := Aside0.mk (show ((ownsL (l4.drop (i + 1)) ((px, py) :: seen)).bind fun b => if b = true then sidesL l5 [a0] else some false) = some r from by have h1 := HJ2.out; rw [ownsL, if_neg m1, hbs, Option.bind_some, if_pos rfl] at h1; exact h1)
      clear m1 HJ2 hbs
      go_wp2_with (first | (go_at_call 23; (with_reducible refine (prefix_Sane.calls px py true _ HBS.out).mono ?_); rintro e w9 ⟨rfl, hb9⟩; have HU9 := Aside0.mk (HU8.out.below hb9); clear hb9))
      go_roundg k1
      case measure => omega
      case rel => exact ⟨i + 1, (px, py) :: seen, by rw [show wrap64 ((i : Int) + 1) = ((i + 1 : Nat) : Int) from by have := HIK.out; have := HL4.out; unfold wrap64; omega], ⟨by have := HIK.out; omega, by have := HSL.out; simp only [List.length_cons]; omega, HJ3.out, HU9.out⟩⟩
   ·
    by_cases m1 : (px, py) ∈ seen
    ·
     have cpos : (1 : Int) < c8 := by have h1 := List.count_pos_iff.2 m1; rw [← HCN.out] at h1; rw [HC8.out]; omega
     have e4 : decide ((1 : Int) < c8) = true := decide_eq_true cpos
     have er := Aside0.mk (show false = r by have h1 := HJ2.out; rw [ownsL, if_pos m1, Option.bind_some, if_neg (by decide)] at h1; exact Option.some.inj h1)
     clear m1 HJ2 cpos
     go_wp2
     go_ret
     exact ⟨by rw [← er.out]; rfl, HU8.out.2.2.1⟩
    ·
     have c0 : decide ((1 : Int) < c8) = false := decide_eq_false (by rw [HC8.out, HCN.out, List.count_eq_zero.2 m1]; decide)
     obtain ⟨bs, hbs⟩ : ∃ b, prefix_Sane.f px py = some b := by
      have h1 := HJ2.out; rw [ownsL, if_neg m1] at h1
      obtain ⟨b1, h2, _⟩ := Option.bind_eq_some_iff.mp h1
      obtain ⟨b, h3, _⟩ := Option.bind_eq_some_iff.mp h2
      exact ⟨b, h3⟩
     have HBS := Aside0.mk hbs
     cases bs
     ·
      have er := Aside0.mk (show false = r by have h1 := HJ2.out; rw [ownsL, if_neg m1, hbs, Option.bind_some, if_neg (by decide), Option.bind_some, if_neg (by decide)] at h1; exact Option.some.inj h1)
      clear m1 HJ2 hbs
      go_wp2_with (first | (go_at_call 23; (with_reducible refine (prefix_Sane.calls px py false _ HBS.out).mono ?_); rintro e w9 ⟨rfl, hb9⟩; have HB9 := Aside0.mk (below_step HU8.out.2.2.1 hb9); clear hb9))
      go_ret
      exact ⟨by rw [← er.out]; rfl, HB9.out⟩
     ·
      have HJ3 := Aside0.mk (show ((ownsL (l4.drop (i + 1)) ((px, py) :: seen)).bind fun b => if b = true then sidesL l5 [a0] else some false) = some r from by have h1 := HJ2.out; rw [ownsL, if_neg m1, hbs, Option.bind_some, if_pos rfl] at h1; exact h1)
      clear m1 HJ2 hbs
      go_wp2_with (first | (go_at_call 23; (with_reducible refine (prefix_Sane.calls px py true _ HBS.out).mono ?_); rintro e w9 ⟨rfl, hb9⟩; have HU9 := Aside0.mk (HU8.out.below hb9); clear hb9))
      go_roundg k1
      case measure => omega
      case rel => exact ⟨i + 1, (px, py) :: seen, by rw [show wrap64 ((i : Int) + 1) = ((i + 1 : Nat) : Int) from by have := HIK.out; have := HL4.out; unfold wrap64; omega], ⟨by have := HIK.out; omega, by have := HSL.out; simp only [List.length_cons]; omega, HJ3.out, HU9.out⟩⟩
  ·
   have d1 : decide (i < l4.length) = false := decide_eq_false (by omega)
   have HJ := Aside0.mk (show sidesL l5 [a0] = some r from by have h1 := HI.out.2.2.1; rw [List.drop_eq_nil_of_le (by omega)] at h1; exact h1)
   have hltr : w.heap.size < wr.heap.size := blk_lt HST.out.1
   obtain ⟨wm, hput0, hsm, hgm⟩ := (SeenI.made (P := Tryd.prog) wr).put (T := 64) rfl rfl (by simp [maxLen]) HA0.out (v := 1) (by decide)
   have hput : (Instr.mapUpdate 64 (.map (some wr.heap.size)) (.int .i64 a0) (.int .i64 1)).run Tryd.prog (wr.alloc (.map #[] 0)) = .ok () wm := hput0
   have HSM := Aside0.mk (show SSt w wr.heap.size (cC a0 a1 a2 a3 A4 c4 l4 A5 c5 l5) [a0] wm from ⟨(hgm.block _ (by rw [World.size_alloc]; omega) (fun e => by have := Option.some.inj e; omega)).trans (blk_alloc HST.out.1 _), by
    have e : (fun u : Int => ((([a0] : List Int).count u : Nat) : Int)) = fun u => if u = a0 then 1 else 0 := by
     funext u
     rw [List.count_cons]
     by_cases c : u = a0
     ·
      subst c; simp
     ·
      rw [if_neg c, if_neg (by simpa using fun e : a0 = u => c e.symm)]; simp
    rw [e]
    exact hsm, (below_alloc HST.out.2.2.1 _).grown hgm (by rw [World.size_alloc]; omega) (fun k e => by have := Option.some.inj e; omega), hltr⟩)
   have u5m : wm.cell? ⟨w.heap.size, 5, none⟩ = some (.slice A5 l5.length c5) := (blk_cell HSM.out.1 5).trans rfl
   clear HI hl c1 hput0 hsm hgm HST
   obtain ⟨wA, hwA⟩ : ∃ x : World, x = wr := ⟨_, rfl⟩
   subst hwA
   go_wp2
   go_loopg [78] l5.length (fun kq v78 w' => ∃ (i : Nat) (seen : List Int), v78 = .int .i64 (i : Int) ∧ Aside0 (i + kq = l5.length ∧ seen.length = i + 1 ∧ sidesL (l5.drop i) seen = some r ∧ SSt w wA.heap.size (cC a0 a1 a2 a3 A4 c4 l4 A5 c5 l5) seen w'))
   case atStart => exact ⟨0, [a0], rfl, ⟨Nat.zero_add _, rfl, HJ.out, HSM.out⟩⟩
   case round =>
    clear HJ HSM
    obtain ⟨i, seen, rfl, HI⟩ := hrel
    have hik := HI.out.1
    have hl := HL5.out
    have HST := Aside0.mk HI.out.2.2.2
    by_cases c1 : i < l5.length
    ·
     have d1 : decide (i < l5.length) = true := decide_eq_true c1
     have hlen : (i : Int) < (l5.length : Int) := by omega
     cases gk with
     | zero => omega
     | succ k1 =>
     have HJ := Aside0.mk HI.out.2.2.1
     have HIK := Aside0.mk hik
     have HSL := Aside0.mk HI.out.2.1
     obtain ⟨ad, A2, c2, A3, c3, e, x0, x1, x2, x3, hc2, hr2, hc3, hr3⟩ := at_T31 HR5.out (i : Int) (by omega) (by omega)
     subst e
     have hrd : rd_T31 l5 (i : Int) = l5[i]'c1 := by simp [rd_T31, c1]
     have hdrop : l5.drop i = l5[i]'c1 :: l5.drop (i + 1) := List.drop_eq_getElem_cons c1
     obtain ⟨⟨px, py, pi, po⟩, hp⟩ : ∃ p, p = l5[i]'c1 := ⟨_, rfl⟩
     rw [hrd, ← hp] at x0 x1 x2 x3 hc2 hr2 hc3 hr3
     rw [← hp] at hdrop
     have hwp := HW5.out _ (List.getElem_mem c1)
     rw [← hp] at hwp
     dsimp only at x0 x1 x2 x3 hc2 hr2 hc3 hr3 hwp
     simp only [Int.toNat_natCast] at x0 x1 x2 x3
     replace x0 := pw_cell_below HST.out.2.2.1 x0
     replace x1 := pw_cell_below HST.out.2.2.1 x1
     replace x2 := pw_cell_below HST.out.2.2.1 x2
     replace x3 := pw_cell_below HST.out.2.2.1 x3
     have HRR := Aside0.mk (And.intro (And.intro hc2 hr2) (And.intro hc3 hr3))
     have HJ2 := Aside0.mk (show sidesL (⟨px, py, pi, po⟩ :: l5.drop (i + 1)) seen = some r from by rw [← hdrop]; exact HJ.out)
     obtain ⟨cn, hcn⟩ : ∃ cn : Nat, cn = seen.count px := ⟨_, rfl⟩
     have cb : (cn : Int) ≤ 100 := by have h1 := List.count_le_length (a := px) (l := seen); have h2 := HSL.out; omega
     have hwf2 : (Lit.int .i64 ((cn : Int) + 1)).wf = true := lit_wf' (by omega)
     obtain ⟨BX, hBX⟩ : ∃ o : Obj, o = .cells #[.int .i64 px, .int .i64 py, .slice A2 pi.length c2, .slice A3 po.length c3] 31 := ⟨_, rfl⟩
     have HS6 := HST.out.2.1.alloc BX
     have e0 := HS6.look (T := 64) rfl rfl rfl hwp
     rw [← hcn] at e0
     obtain ⟨W8, e1, hs8, hg8⟩ := HS6.put (T := 64) rfl rfl (by have := HSL.out; simp only [maxLen]; omega) hwp hwf2
     have HU8 := Aside0.mk (SSt.put (HST.out.below (below_alloc (Below.refl _ _) _)) hs8 (by rw [hcn]) hg8)
     have hz8 : W8.heap[wr.heap.size]? = some BX := (hg8.block wr.heap.size (by rw [World.size_alloc]; omega) (fun e => by have := Option.some.inj e; have h1 := HST.out.2.1.lt; omega)).trans (heap_alloc_new wr _)
     have hB8 := Aside0.mk ((below_alloc HST.out.2.2.1 BX).grown hg8 (by rw [World.size_alloc]; have := blk_lt HST.out.1; omega) (fun k e => by have := Option.some.inj e; have := HST.out.2.2.2; omega))
     rw [hBX] at e0 e1 hz8
     have e0' : (Instr.lookup 64 (.map (some wA.heap.size)) (.int .i64 px) false).run Tryd.prog (wr.alloc (.cells #[.int .i64 px, .int .i64 py, .slice A2 pi.length c2, .slice A3 po.length c3] 31)) = .ok (.int .i64 (cn : Int)) (wr.alloc (.cells #[.int .i64 px, .int .i64 py, .slice A2 pi.length c2, .slice A3 po.length c3] 31)) := e0
     have e1' : (Instr.mapUpdate 64 (.map (some wA.heap.size)) (.int .i64 px) (.int .i64 ((cn : Int) + 1))).run Tryd.prog (wr.alloc (.cells #[.int .i64 px, .int .i64 py, .slice A2 pi.length c2, .slice A3 po.length c3] 31)) = .ok () W8 := e1
     have y0 : W8.cell? ⟨wr.heap.size, 0, none⟩ = some (.int .i64 px) := (blk_cell hz8 0).trans rfl
     have y1 : W8.cell? ⟨wr.heap.size, 1, none⟩ = some (.int .i64 py) := (blk_cell hz8 1).trans rfl
     have y2 : W8.cell? ⟨wr.heap.size, 2, none⟩ = some (.slice A2 pi.length c2) := (blk_cell hz8 2).trans rfl
     have y3 : W8.cell? ⟨wr.heap.size, 3, none⟩ = some (.slice A3 po.length c3) := (blk_cell hz8 3).trans rfl
     obtain ⟨c8, hc8⟩ : ∃ c8 : Int, c8 = ((cn + 1 : Nat) : Int) := ⟨_, rfl⟩
     have hl8 : (Instr.lookup 64 (.map (some wA.heap.size)) (.int .i64 px) false).run Tryd.prog W8 = .ok (.int .i64 c8) W8 := by
      have h1 := HU8.out.2.1.look (T := 64) rfl rfl rfl hwp
      rw [List.count_cons_self, ← hcn, ← hc8] at h1
      exact h1
     have HC8 := Aside0.mk hc8
     have HCN := Aside0.mk hcn
     clear hc8 hcn hz8 hs8 hg8 HS6 hBX e0 e1 hwp hwf2 hrd hdrop hp HJ HI hl hik hc2 hr2 hc3 hr3
     by_cases m1 : px ∈ seen
     ·
      have cpos : (1 : Int) < c8 := by have h1 := List.count_pos_iff.2 m1; rw [← HCN.out] at h1; rw [HC8.out]; omega
      have e4 : decide ((1 : Int) < c8) = true := decide_eq_true cpos
      have er := Aside0.mk (show false = r by have h1 := HJ2.out; rw [sidesL, if_pos m1] at h1; exact Option.some.inj h1)
      clear m1 HJ2 cpos
      go_wp2
      go_ret
      exact ⟨by rw [← er.out]; rfl, HU8.out.2.2.1⟩
     ·
      have c0 : decide ((1 : Int) < c8) = false := decide_eq_false (by rw [HC8.out, HCN.out, List.count_eq_zero.2 m1]; decide)
      obtain ⟨bs, hbs⟩ : ∃ b, conf_side.f px py pi po = some b := by
       have h1 := HJ2.out; rw [sidesL, if_neg m1] at h1
       obtain ⟨b, h3, _⟩ := Option.bind_eq_some_iff.mp h1
       exact ⟨b, h3⟩
      have HBS := Aside0.mk hbs
      have hwb : Below w.heap.size w W8 := hB8.out
      have HR2 := Aside0.mk (show Kd.C k95 W8 A2 pi.length pi from Kd.C_below HRR.out.1.2 hwb)
      have HR3 := Aside0.mk (show Kd.C k95 W8 A3 po.length po from Kd.C_below HRR.out.2.2 hwb)
      have HCC := Aside0.mk (And.intro HRR.out.1.1 HRR.out.2.1)
      clear hwb
      cases bs
      ·
       have er := Aside0.mk (show false = r by have h1 := HJ2.out; rw [sidesL, if_neg m1, hbs, Option.bind_some, if_neg (by decide)] at h1; exact Option.some.inj h1)
       clear m1 HJ2 hbs
       go_wp2_with (first | (go_at_call 24; (with_reducible refine (conf_side.calls px py _ _ pi _ _ po false _ HR2.out HCC.out.1 HR3.out HCC.out.2 HBS.out).mono ?_); rintro e w9 ⟨rfl, hb9⟩; have HB9 := Aside0.mk (below_step HU8.out.2.2.1 hb9); clear hb9))
       go_ret
       exact ⟨by rw [← er.out]; rfl, HB9.out⟩
      ·
       have HJ3 := Aside0.mk (show sidesL (l5.drop (i + 1)) (px :: seen) = some r from by have h1 := HJ2.out; rw [sidesL, if_neg m1, hbs, Option.bind_some, if_pos rfl] at h1; exact h1)
       clear m1 HJ2 hbs
       go_wp2_with (first | (go_at_call 24; (with_reducible refine (conf_side.calls px py _ _ pi _ _ po true _ HR2.out HCC.out.1 HR3.out HCC.out.2 HBS.out).mono ?_); rintro e w9 ⟨rfl, hb9⟩; have HU9 := Aside0.mk (HU8.out.below hb9); clear hb9))
       go_roundg k1
       case measure => omega
       case rel => exact ⟨i + 1, px :: seen, by rw [show wrap64 ((i : Int) + 1) = ((i + 1 : Nat) : Int) from by have := HIK.out; have := HL5.out; unfold wrap64; omega], ⟨by have := HIK.out; omega, by have := HSL.out; simp only [List.length_cons]; omega, HJ3.out, HU9.out⟩⟩
    ·
     have d1 : decide (i < l5.length) = false := decide_eq_false c1
     have er := Aside0.mk (show true = r by have h1 := HI.out.2.2.1; rw [List.drop_eq_nil_of_le (by omega), sidesL] at h1; exact Option.some.inj h1)
     clear HI hl c1
     go_wp2
     go_ret
     exact ⟨by rw [← er.out]; rfl, HST.out.2.2.1⟩
set_option maxHeartbeats 8000000 in
theorem conf_Sane.calls (a0_0 : Int) (a0_1 : Int) (a0_2 : Int) (a0_3 : Int) (A0_4 : Option Addr) (c0_4 : Nat) (l0_4 : List S62) (A0_5 : Option Addr) (c0_5 : Nat) (l0_5 : List S31) (r : Bool) (w : World) (hr0_4 : Kd.C k62 w A0_4 l0_4.length l0_4) (hc0_4 : l0_4.length ≤ c0_4) (hr0_5 : Kd.C k31 w A0_5 l0_5.length l0_5) (hc0_5 : l0_5.length ≤ c0_5) (h : conf_Sane.f a0_0 a0_1 a0_2 a0_3 l0_4 l0_5 = some r) :
  Calls Tryd.prog 10 #[.agg #[.int .i64 a0_0, .int .i64 a0_1, .int .i64 a0_2, .int .i64 a0_3, .slice A0_4 l0_4.length c0_4, .slice A0_5 l0_5.length c0_5]] w fun e w' => e = .returned (.bool r) ∧ Below w.heap.size w w' := by
 unfold conf_Sane.f at h
 cases hh : headB a0_0 a0_1 a0_2 a0_3 l0_4 l0_5
 ·
  rw [hh, if_neg (by decide)] at h
  obtain rfl := Option.some.inj h
  exact csane_no _ _ _ _ _ _ _ _ _ _ _ hh
 ·
  rw [hh, if_pos rfl] at h
  by_cases hb : ((l0_4.all fun p => bigB p.f0 && bigB p.f1) && (l0_5.all fun s => bigB s.f0)) = true
  ·
   rw [if_pos hb] at h
   simp only [Bool.and_eq_true, List.all_eq_true, bigB, decide_eq_true_eq] at hb
   exact csane_yes _ _ _ _ _ _ _ _ _ _ _ r hh hr0_4 hr0_5 (fun p hp => ⟨lit_wf' (hb.1 p hp).1, lit_wf' (hb.1 p hp).2⟩) (fun s hs => lit_wf' (hb.2 s hs)) h
  ·
   rw [if_neg hb] at h
   cases h

/-! ### session_side: function 26 -/
def session_side.f (a0_0 : Int) (a0_1 : Int) (a0_2 : Int) (a0_3 : Int) (l0_4 : List (S62)) (l0_5 : List (S31)) (a1 : Int) : Option (Bool) := if a1 ≥ 0 then (if a1 < (l0_5.length : Int) then ((conf_Sane.f a0_0 a0_1 a0_2 a0_3 l0_4 l0_5).bind fun t148 => (some t148)) else (some false)) else (some false)
set_option maxHeartbeats 8000000 in
set_option maxRecDepth 100000 in
theorem session_side.calls (a0_0 : Int) (a0_1 : Int) (a0_2 : Int) (a0_3 : Int) (A0_4 : Option Addr) (c0_4 : Nat) (l0_4 : List (S62)) (A0_5 : Option Addr) (c0_5 : Nat) (l0_5 : List (S31)) (a1 : Int) (r : Bool) (w : World) (hr0_4 : Kd.C k62 w A0_4 l0_4.length l0_4) (hc0_4 : l0_4.length ≤ c0_4) (hr0_5 : Kd.C k31 w A0_5 l0_5.length l0_5) (hc0_5 : l0_5.length ≤ c0_5) (h : session_side.f a0_0 a0_1 a0_2 a0_3 l0_4 l0_5 a1 = some r) :
  Calls Tryd.prog 26 #[.agg #[.int .i64 a0_0, .int .i64 a0_1, .int .i64 a0_2, .int .i64 a0_3, .slice A0_4 l0_4.length c0_4, .slice A0_5 l0_5.length c0_5], .int .i64 a1] w fun e w' => e = .returned (.bool r) ∧ Below w.heap.size w w' := by
 have hu26 := Tryd.underlying26
 have HR0_4 := Aside0.mk hr0_4
 have HC0_4 := Aside0.mk hc0_4
 clear hr0_4 hc0_4
 have HR0_5 := Aside0.mk hr0_5
 have HC0_5 := Aside0.mk hc0_5
 clear hr0_5 hc0_5
 have HB := Aside0.mk (Below.refl w.heap.size w)
 have H : (if a1 ≥ 0 then (if a1 < (l0_5.length : Int) then ((conf_Sane.f a0_0 a0_1 a0_2 a0_3 l0_4 l0_5).bind fun t148 => (some t148)) else (some false)) else (some false)) = some r := h
 clear h
 by_cases c3 : a1 ≥ 0
 ·
  rw [if_pos c3] at H
  have c3b0 : decide (0 ≤ a1) = true := decide_eq_true c3
  clear c3
  by_cases c4 : a1 < (l0_5.length : Int)
  ·
   rw [if_pos c4] at H
   have c4b0 : decide (a1 < (l0_5.length : Int)) = true := decide_eq_true c4
   clear c4
   replace H := Option.bind_eq_some_iff.mp H
   obtain ⟨t148, A50, H⟩ := H
   replace H : (some t148) = some r := H
   have A5 := Aside0.mk A50
   clear A50
   obtain rfl := Option.some.inj H
   go_enter Tryd.func26, Tryd.ntmps26
   go_wp2_with (first | ((with_reducible refine gate_dst (N := 2) rfl ?_); (try (refine gate_guard (by rfl) ?_; dsimp only)); refine box_event ?hg (N := 2) ?hd (cs := #[.int .i64 a0_0, .int .i64 a0_1, .int .i64 a0_2, .int .i64 a0_3, .slice A0_4 l0_4.length c0_4, .slice A0_5 l0_5.length c0_5]) (t := 26) ?hr ?_; (case hd | hg => rfl); (case hr => first | (go_simp; done) | (go_simp; rfl)); intro gb147 hg w6 hbox hb; obtain ⟨hy, hz⟩ := bfst (by with_reducible repeat first | exact HB.out | apply bA | apply bN | apply bD) hb hg; replace HB := hy; have BK147 := Aside0.mk (hbox); have GE147 := hz; have GW147 := GE147; clear hy hz hb hbox hg; obtain ⟨hcz7_0, hcz7_1, hcz7_2, hcz7_3, hcz7_4, hcz7_5, hfz7_0, hfz7_1, hfz7_2, hfz7_3, hfz7_4, hfz7_5⟩ := bc6 BK147.out) | (go_at_call 10; (with_reducible refine (conf_Sane.calls a0_0 a0_1 a0_2 a0_3 _ _ l0_4 _ _ l0_5 t148 _ ?side1 ?side2 ?side3 ?side4 A5.out).mono ?_); (case side1 => repeat first | exact (Kd.C_below HR0_4.out HB.out) | with_reducible first | apply Kd.C_alloc | apply Kd.C_drewN | apply Kd.C_drew); (case side2 => exact HC0_4.out); (case side3 => repeat first | exact (Kd.C_below HR0_5.out HB.out) | with_reducible first | apply Kd.C_alloc | apply Kd.C_drewN | apply Kd.C_drew); (case side4 => exact HC0_5.out); rintro e w8 ⟨rfl, hb⟩; have hy := bQ BK147.out (by with_reducible repeat first | apply bA | apply bN | apply bD | exact Below.refl _ _) hb; replace BK147 := Aside0.mk (blk_below BK147.out hy); replace HB := Aside0.mk (below_step HB.out hy); clear hy; (try clear hb); (try clear hb2); (try clear hk); (try clear hi)))
   go_ret
   exact ⟨by first | rfl | (simp <;> rfl) | (simp [*] <;> rfl), by with_reducible repeat first | exact HB.out | apply bA | apply bN | apply bD | refine bS ?_ GE147.out⟩
  ·
   rw [if_neg c4] at H
   have c4b0 : decide (a1 < (l0_5.length : Int)) = false := decide_eq_false c4
   clear c4
   obtain rfl := Option.some.inj H
   go_enter Tryd.func26, Tryd.ntmps26
   go_wp2_with (first | ((with_reducible refine gate_dst (N := 2) rfl ?_); (try (refine gate_guard (by rfl) ?_; dsimp only)); refine box_event ?hg (N := 2) ?hd (cs := #[.int .i64 a0_0, .int .i64 a0_1, .int .i64 a0_2, .int .i64 a0_3, .slice A0_4 l0_4.length c0_4, .slice A0_5 l0_5.length c0_5]) (t := 26) ?hr ?_; (case hd | hg => rfl); (case hr => first | (go_simp; done) | (go_simp; rfl)); intro gb147 hg w9 hbox hb; obtain ⟨hy, hz⟩ := bfst (by with_reducible repeat first | exact HB.out | apply bA | apply bN | apply bD) hb hg; replace HB := hy; have BK147 := Aside0.mk (hbox); have GE147 := hz; have GW147 := GE147; clear hy hz hb hbox hg; obtain ⟨hcz10_0, hcz10_1, hcz10_2, hcz10_3, hcz10_4, hcz10_5, hfz10_0, hfz10_1, hfz10_2, hfz10_3, hfz10_4, hfz10_5⟩ := bc6 BK147.out))
   go_ret
   exact ⟨by first | rfl | (simp <;> rfl) | (simp [*] <;> rfl), by with_reducible repeat first | exact HB.out | apply bA | apply bN | apply bD | refine bS ?_ GE147.out⟩
 ·
  rw [if_neg c3] at H
  have c3b0 : decide (0 ≤ a1) = false := decide_eq_false c3
  clear c3
  obtain rfl := Option.some.inj H
  go_enter Tryd.func26, Tryd.ntmps26
  go_wp2_with (first | ((with_reducible refine gate_dst (N := 2) rfl ?_); (try (refine gate_guard (by rfl) ?_; dsimp only)); refine box_event ?hg (N := 2) ?hd (cs := #[.int .i64 a0_0, .int .i64 a0_1, .int .i64 a0_2, .int .i64 a0_3, .slice A0_4 l0_4.length c0_4, .slice A0_5 l0_5.length c0_5]) (t := 26) ?hr ?_; (case hd | hg => rfl); (case hr => first | (go_simp; done) | (go_simp; rfl)); intro gb147 hg w11 hbox hb; obtain ⟨hy, hz⟩ := bfst (by with_reducible repeat first | exact HB.out | apply bA | apply bN | apply bD) hb hg; replace HB := hy; have BK147 := Aside0.mk (hbox); have GE147 := hz; have GW147 := GE147; clear hy hz hb hbox hg))
  go_ret
  exact ⟨by first | rfl | (simp <;> rfl) | (simp [*] <;> rfl), by with_reducible repeat first | exact HB.out | apply bA | apply bN | apply bD | refine bS ?_ GE147.out⟩

/-! ### open_Sane: function 43 -/
def open_Sane.f (a0_0 : Int) (a0_1 : Int) (a0_2 : Int) (a0_3 : Int) : Option (Bool) := if a0_1 = 0 then (if a0_0 > 0 then (if a0_0 ≤ 4294967295 then (if a0_2 > 0 then (if a0_2 ≤ 4294967295 then (if a0_3 ≥ (-1) then (some (decide (a0_3 ≤ 4))) else (some false)) else (some false)) else (some false)) else (some false)) else (some false)) else (if a0_1 ≥ 3 then (if a0_1 ≤ 65535 then (if a0_0 > 0 then (if a0_0 ≤ 4294967295 then (if a0_2 > 0 then (if a0_2 ≤ 4294967295 then (if a0_3 ≥ (-1) then (some (decide (a0_3 ≤ 4))) else (some false)) else (some false)) else (some false)) else (some false)) else (some false)) else (some false)) else (some false))
set_option maxHeartbeats 8000000 in
set_option maxRecDepth 100000 in
theorem open_Sane.calls (a0_0 : Int) (a0_1 : Int) (a0_2 : Int) (a0_3 : Int) (r : Bool) (w : World) (h : open_Sane.f a0_0 a0_1 a0_2 a0_3 = some r) :
  Calls Tryd.prog 43 #[.agg #[.int .i64 a0_0, .int .i64 a0_1, .int .i64 a0_2, .int .i64 a0_3]] w fun e w' => e = .returned (.bool r) ∧ Below w.heap.size w w' := by
 have hu70 := Tryd.underlying70
 have HB := Aside0.mk (Below.refl w.heap.size w)
 have H : (if a0_1 = 0 then (if a0_0 > 0 then (if a0_0 ≤ 4294967295 then (if a0_2 > 0 then (if a0_2 ≤ 4294967295 then (if a0_3 ≥ (-1) then (some (decide (a0_3 ≤ 4))) else (some false)) else (some false)) else (some false)) else (some false)) else (some false)) else (if a0_1 ≥ 3 then (if a0_1 ≤ 65535 then (if a0_0 > 0 then (if a0_0 ≤ 4294967295 then (if a0_2 > 0 then (if a0_2 ≤ 4294967295 then (if a0_3 ≥ (-1) then (some (decide (a0_3 ≤ 4))) else (some false)) else (some false)) else (some false)) else (some false)) else (some false)) else (some false)) else (some false))) = some r := h
 clear h
 by_cases c2 : a0_1 = 0
 ·
  rw [if_pos c2] at H
  have c2b0 : (a0_1 == 0) = true := beq_iff_eq.mpr c2
  have c2b1 : (a0_1 != 0) = false := bne_eq_false_iff_eq.mpr c2
  clear c2
  by_cases c3 : a0_0 > 0
  ·
   rw [if_pos c3] at H
   have c3b0 : decide (0 < a0_0) = true := decide_eq_true c3
   clear c3
   by_cases c4 : a0_0 ≤ 4294967295
   ·
    rw [if_pos c4] at H
    have c4b0 : decide (a0_0 ≤ 4294967295) = true := decide_eq_true c4
    clear c4
    by_cases c5 : a0_2 > 0
    ·
     rw [if_pos c5] at H
     have c5b0 : decide (0 < a0_2) = true := decide_eq_true c5
     clear c5
     by_cases c6 : a0_2 ≤ 4294967295
     ·
      rw [if_pos c6] at H
      have c6b0 : decide (a0_2 ≤ 4294967295) = true := decide_eq_true c6
      clear c6
      by_cases c7 : a0_3 ≥ (-1)
      ·
       rw [if_pos c7] at H
       have c7b0 : decide ((-1) ≤ a0_3) = true := decide_eq_true c7
       clear c7
       obtain rfl := Option.some.inj H
       go_enter Tryd.func43, Tryd.ntmps43
       go_wp2_with (first | ((with_reducible refine gate_dst (N := 1) rfl ?_); refine box_event ?hg (N := 1) ?hd (cs := #[.int .i64 a0_0, .int .i64 a0_1, .int .i64 a0_2, .int .i64 a0_3]) (t := 70) ?hr ?_; (case hd | hg => rfl); (case hr => first | (go_simp; done) | (go_simp; rfl)); intro gb149 hg w8 hbox hb; obtain ⟨hy, hz⟩ := bfst (by with_reducible repeat first | exact HB.out | apply bA | apply bN | apply bD) hb hg; replace HB := hy; have BK149 := Aside0.mk (hbox); have GE149 := hz; have GW149 := GE149; clear hy hz hb hbox hg; obtain ⟨hcz9_0, hcz9_1, hcz9_2, hcz9_3, hfz9_0, hfz9_1, hfz9_2, hfz9_3⟩ := bc4 BK149.out))
       go_ret
       exact ⟨by first | rfl | (simp <;> rfl) | (simp [*] <;> rfl), by with_reducible repeat first | exact HB.out | apply bA | apply bN | apply bD | refine bS ?_ GE149.out⟩
      ·
       rw [if_neg c7] at H
       have c7b0 : decide ((-1) ≤ a0_3) = false := decide_eq_false c7
       clear c7
       obtain rfl := Option.some.inj H
       go_enter Tryd.func43, Tryd.ntmps43
       go_wp2_with (first | ((with_reducible refine gate_dst (N := 1) rfl ?_); refine box_event ?hg (N := 1) ?hd (cs := #[.int .i64 a0_0, .int .i64 a0_1, .int .i64 a0_2, .int .i64 a0_3]) (t := 70) ?hr ?_; (case hd | hg => rfl); (case hr => first | (go_simp; done) | (go_simp; rfl)); intro gb149 hg w10 hbox hb; obtain ⟨hy, hz⟩ := bfst (by with_reducible repeat first | exact HB.out | apply bA | apply bN | apply bD) hb hg; replace HB := hy; have BK149 := Aside0.mk (hbox); have GE149 := hz; have GW149 := GE149; clear hy hz hb hbox hg; obtain ⟨hcz11_0, hcz11_1, hcz11_2, hcz11_3, hfz11_0, hfz11_1, hfz11_2, hfz11_3⟩ := bc4 BK149.out))
       go_ret
       exact ⟨by first | rfl | (simp <;> rfl) | (simp [*] <;> rfl), by with_reducible repeat first | exact HB.out | apply bA | apply bN | apply bD | refine bS ?_ GE149.out⟩
     ·
      rw [if_neg c6] at H
      have c6b0 : decide (a0_2 ≤ 4294967295) = false := decide_eq_false c6
      clear c6
      obtain rfl := Option.some.inj H
      go_enter Tryd.func43, Tryd.ntmps43
      go_wp2_with (first | ((with_reducible refine gate_dst (N := 1) rfl ?_); refine box_event ?hg (N := 1) ?hd (cs := #[.int .i64 a0_0, .int .i64 a0_1, .int .i64 a0_2, .int .i64 a0_3]) (t := 70) ?hr ?_; (case hd | hg => rfl); (case hr => first | (go_simp; done) | (go_simp; rfl)); intro gb149 hg w12 hbox hb; obtain ⟨hy, hz⟩ := bfst (by with_reducible repeat first | exact HB.out | apply bA | apply bN | apply bD) hb hg; replace HB := hy; have BK149 := Aside0.mk (hbox); have GE149 := hz; have GW149 := GE149; clear hy hz hb hbox hg; obtain ⟨hcz13_0, hcz13_1, hcz13_2, hcz13_3, hfz13_0, hfz13_1, hfz13_2, hfz13_3⟩ := bc4 BK149.out))
      go_ret
      exact ⟨by first | rfl | (simp <;> rfl) | (simp [*] <;> rfl), by with_reducible repeat first | exact HB.out | apply bA | apply bN | apply bD | refine bS ?_ GE149.out⟩
    ·
     rw [if_neg c5] at H
     have c5b0 : decide (0 < a0_2) = false := decide_eq_false c5
     clear c5
     obtain rfl := Option.some.inj H
     go_enter Tryd.func43, Tryd.ntmps43
     go_wp2_with (first | ((with_reducible refine gate_dst (N := 1) rfl ?_); refine box_event ?hg (N := 1) ?hd (cs := #[.int .i64 a0_0, .int .i64 a0_1, .int .i64 a0_2, .int .i64 a0_3]) (t := 70) ?hr ?_; (case hd | hg => rfl); (case hr => first | (go_simp; done) | (go_simp; rfl)); intro gb149 hg w14 hbox hb; obtain ⟨hy, hz⟩ := bfst (by with_reducible repeat first | exact HB.out | apply bA | apply bN | apply bD) hb hg; replace HB := hy; have BK149 := Aside0.mk (hbox); have GE149 := hz; have GW149 := GE149; clear hy hz hb hbox hg; obtain ⟨hcz15_0, hcz15_1, hcz15_2, hcz15_3, hfz15_0, hfz15_1, hfz15_2, hfz15_3⟩ := bc4 BK149.out))
     go_ret
     exact ⟨by first | rfl | (simp <;> rfl) | (simp [*] <;> rfl), by with_reducible repeat first | exact HB.out | apply bA | apply bN | apply bD | refine bS ?_ GE149.out⟩
   ·
    rw [if_neg c4] at H
    have c4b0 : decide (a0_0 ≤ 4294967295) = false := decide_eq_false c4
    clear c4
    obtain rfl := Option.some.inj H
    go_enter Tryd.func43, Tryd.ntmps43
    go_wp2_with (first | ((with_reducible refine gate_dst (N := 1) rfl ?_); refine box_event ?hg (N := 1) ?hd (cs := #[.int .i64 a0_0, .int .i64 a0_1, .int .i64 a0_2, .int .i64 a0_3]) (t := 70) ?hr ?_; (case hd | hg => rfl); (case hr => first | (go_simp; done) | (go_simp; rfl)); intro gb149 hg w16 hbox hb; obtain ⟨hy, hz⟩ := bfst (by with_reducible repeat first | exact HB.out | apply bA | apply bN | apply bD) hb hg; replace HB := hy; have BK149 := Aside0.mk (hbox); have GE149 := hz; have GW149 := GE149; clear hy hz hb hbox hg; obtain ⟨hcz17_0, hcz17_1, hcz17_2, hcz17_3, hfz17_0, hfz17_1, hfz17_2, hfz17_3⟩ := bc4 BK149.out))
    go_ret
    exact ⟨by first | rfl | (simp <;> rfl) | (simp [*] <;> rfl), by with_reducible repeat first | exact HB.out | apply bA | apply bN | apply bD | refine bS ?_ GE149.out⟩
  ·
   rw [if_neg c3] at H
   have c3b0 : decide (0 < a0_0) = false := decide_eq_false c3
   clear c3
   obtain rfl := Option.some.inj H
   go_enter Tryd.func43, Tryd.ntmps43
   go_wp2_with (first | ((with_reducible refine gate_dst (N := 1) rfl ?_); refine box_event ?hg (N := 1) ?hd (cs := #[.int .i64 a0_0, .int .i64 a0_1, .int .i64 a0_2, .int .i64 a0_3]) (t := 70) ?hr ?_; (case hd | hg => rfl); (case hr => first | (go_simp; done) | (go_simp; rfl)); intro gb149 hg w18 hbox hb; obtain ⟨hy, hz⟩ := bfst (by with_reducible repeat first | exact HB.out | apply bA | apply bN | apply bD) hb hg; replace HB := hy; have BK149 := Aside0.mk (hbox); have GE149 := hz; have GW149 := GE149; clear hy hz hb hbox hg; obtain ⟨hcz19_0, hcz19_1, hcz19_2, hcz19_3, hfz19_0, hfz19_1, hfz19_2, hfz19_3⟩ := bc4 BK149.out))
   go_ret
   exact ⟨by first | rfl | (simp <;> rfl) | (simp [*] <;> rfl), by with_reducible repeat first | exact HB.out | apply bA | apply bN | apply bD | refine bS ?_ GE149.out⟩
 ·
  rw [if_neg c2] at H
  have c2b0 : (a0_1 == 0) = false := beq_eq_false_iff_ne.mpr c2
  have c2b1 : (a0_1 != 0) = true := bne_iff_ne.mpr c2
  by_cases c20 : a0_1 ≥ 3
  ·
   rw [if_pos c20] at H
   have c20b0 : decide (3 ≤ a0_1) = true := decide_eq_true c20
   clear c20
   by_cases c21 : a0_1 ≤ 65535
   ·
    rw [if_pos c21] at H
    have c21b0 : decide (a0_1 ≤ 65535) = true := decide_eq_true c21
    clear c21
    by_cases c22 : a0_0 > 0
    ·
     rw [if_pos c22] at H
     have c22b0 : decide (0 < a0_0) = true := decide_eq_true c22
     clear c22
     by_cases c23 : a0_0 ≤ 4294967295
     ·
      rw [if_pos c23] at H
      have c23b0 : decide (a0_0 ≤ 4294967295) = true := decide_eq_true c23
      clear c23
      by_cases c24 : a0_2 > 0
      ·
       rw [if_pos c24] at H
       have c24b0 : decide (0 < a0_2) = true := decide_eq_true c24
       clear c24
       by_cases c25 : a0_2 ≤ 4294967295
       ·
        rw [if_pos c25] at H
        have c25b0 : decide (a0_2 ≤ 4294967295) = true := decide_eq_true c25
        clear c25
        by_cases c26 : a0_3 ≥ (-1)
        ·
         rw [if_pos c26] at H
         have c26b0 : decide ((-1) ≤ a0_3) = true := decide_eq_true c26
         clear c26
         obtain rfl := Option.some.inj H
         go_enter Tryd.func43, Tryd.ntmps43
         go_wp2_with (first | ((with_reducible refine gate_dst (N := 1) rfl ?_); refine box_event ?hg (N := 1) ?hd (cs := #[.int .i64 a0_0, .int .i64 a0_1, .int .i64 a0_2, .int .i64 a0_3]) (t := 70) ?hr ?_; (case hd | hg => rfl); (case hr => first | (go_simp; done) | (go_simp; rfl)); intro gb149 hg w27 hbox hb; obtain ⟨hy, hz⟩ := bfst (by with_reducible repeat first | exact HB.out | apply bA | apply bN | apply bD) hb hg; replace HB := hy; have BK149 := Aside0.mk (hbox); have GE149 := hz; have GW149 := GE149; clear hy hz hb hbox hg; obtain ⟨hcz28_0, hcz28_1, hcz28_2, hcz28_3, hfz28_0, hfz28_1, hfz28_2, hfz28_3⟩ := bc4 BK149.out))
         go_ret
         exact ⟨by first | rfl | (simp <;> rfl) | (simp [*] <;> rfl), by with_reducible repeat first | exact HB.out | apply bA | apply bN | apply bD | refine bS ?_ GE149.out⟩
        ·
         rw [if_neg c26] at H
         have c26b0 : decide ((-1) ≤ a0_3) = false := decide_eq_false c26
         clear c26
         obtain rfl := Option.some.inj H
         go_enter Tryd.func43, Tryd.ntmps43
         go_wp2_with (first | ((with_reducible refine gate_dst (N := 1) rfl ?_); refine box_event ?hg (N := 1) ?hd (cs := #[.int .i64 a0_0, .int .i64 a0_1, .int .i64 a0_2, .int .i64 a0_3]) (t := 70) ?hr ?_; (case hd | hg => rfl); (case hr => first | (go_simp; done) | (go_simp; rfl)); intro gb149 hg w29 hbox hb; obtain ⟨hy, hz⟩ := bfst (by with_reducible repeat first | exact HB.out | apply bA | apply bN | apply bD) hb hg; replace HB := hy; have BK149 := Aside0.mk (hbox); have GE149 := hz; have GW149 := GE149; clear hy hz hb hbox hg; obtain ⟨hcz30_0, hcz30_1, hcz30_2, hcz30_3, hfz30_0, hfz30_1, hfz30_2, hfz30_3⟩ := bc4 BK149.out))
         go_ret
         exact ⟨by first | rfl | (simp <;> rfl) | (simp [*] <;> rfl), by with_reducible repeat first | exact HB.out | apply bA | apply bN | apply bD | refine bS ?_ GE149.out⟩
       ·
        rw [if_neg c25] at H
        have c25b0 : decide (a0_2 ≤ 4294967295) = false := decide_eq_false c25
        clear c25
        obtain rfl := Option.some.inj H
        go_enter Tryd.func43, Tryd.ntmps43
        go_wp2_with (first | ((with_reducible refine gate_dst (N := 1) rfl ?_); refine box_event ?hg (N := 1) ?hd (cs := #[.int .i64 a0_0, .int .i64 a0_1, .int .i64 a0_2, .int .i64 a0_3]) (t := 70) ?hr ?_; (case hd | hg => rfl); (case hr => first | (go_simp; done) | (go_simp; rfl)); intro gb149 hg w31 hbox hb; obtain ⟨hy, hz⟩ := bfst (by with_reducible repeat first | exact HB.out | apply bA | apply bN | apply bD) hb hg; replace HB := hy; have BK149 := Aside0.mk (hbox); have GE149 := hz; have GW149 := GE149; clear hy hz hb hbox hg; obtain ⟨hcz32_0, hcz32_1, hcz32_2, hcz32_3, hfz32_0, hfz32_1, hfz32_2, hfz32_3⟩ := bc4 BK149.out))
        go_ret
        exact ⟨by first | rfl | (simp <;> rfl) | (simp [*] <;> rfl), by with_reducible repeat first | exact HB.out | apply bA | apply bN | apply bD | refine bS ?_ GE149.out⟩
      ·
       rw [if_neg c24] at H
       have c24b0 : decide (0 < a0_2) = false := decide_eq_false c24
       clear c24
       obtain rfl := Option.some.inj H
       go_enter Tryd.func43, Tryd.ntmps43
       go_wp2_with (first | ((with_reducible refine gate_dst (N := 1) rfl ?_); refine box_event ?hg (N := 1) ?hd (cs := #[.int .i64 a0_0, .int .i64 a0_1, .int .i64 a0_2, .int .i64 a0_3]) (t := 70) ?hr ?_; (case hd | hg => rfl); (case hr => first | (go_simp; done) | (go_simp; rfl)); intro gb149 hg w33 hbox hb; obtain ⟨hy, hz⟩ := bfst (by with_reducible repeat first | exact HB.out | apply bA | apply bN | apply bD) hb hg; replace HB := hy; have BK149 := Aside0.mk (hbox); have GE149 := hz; have GW149 := GE149; clear hy hz hb hbox hg; obtain ⟨hcz34_0, hcz34_1, hcz34_2, hcz34_3, hfz34_0, hfz34_1, hfz34_2, hfz34_3⟩ := bc4 BK149.out))
       go_ret
       exact ⟨by first | rfl | (simp <;> rfl) | (simp [*] <;> rfl), by with_reducible repeat first | exact HB.out | apply bA | apply bN | apply bD | refine bS ?_ GE149.out⟩
     ·
      rw [if_neg c23] at H
      have c23b0 : decide (a0_0 ≤ 4294967295) = false := decide_eq_false c23
      clear c23
      obtain rfl := Option.some.inj H
      go_enter Tryd.func43, Tryd.ntmps43
      go_wp2_with (first | ((with_reducible refine gate_dst (N := 1) rfl ?_); refine box_event ?hg (N := 1) ?hd (cs := #[.int .i64 a0_0, .int .i64 a0_1, .int .i64 a0_2, .int .i64 a0_3]) (t := 70) ?hr ?_; (case hd | hg => rfl); (case hr => first | (go_simp; done) | (go_simp; rfl)); intro gb149 hg w35 hbox hb; obtain ⟨hy, hz⟩ := bfst (by with_reducible repeat first | exact HB.out | apply bA | apply bN | apply bD) hb hg; replace HB := hy; have BK149 := Aside0.mk (hbox); have GE149 := hz; have GW149 := GE149; clear hy hz hb hbox hg; obtain ⟨hcz36_0, hcz36_1, hcz36_2, hcz36_3, hfz36_0, hfz36_1, hfz36_2, hfz36_3⟩ := bc4 BK149.out))
      go_ret
      exact ⟨by first | rfl | (simp <;> rfl) | (simp [*] <;> rfl), by with_reducible repeat first | exact HB.out | apply bA | apply bN | apply bD | refine bS ?_ GE149.out⟩
    ·
     rw [if_neg c22] at H
     have c22b0 : decide (0 < a0_0) = false := decide_eq_false c22
     clear c22
     obtain rfl := Option.some.inj H
     go_enter Tryd.func43, Tryd.ntmps43
     go_wp2_with (first | ((with_reducible refine gate_dst (N := 1) rfl ?_); refine box_event ?hg (N := 1) ?hd (cs := #[.int .i64 a0_0, .int .i64 a0_1, .int .i64 a0_2, .int .i64 a0_3]) (t := 70) ?hr ?_; (case hd | hg => rfl); (case hr => first | (go_simp; done) | (go_simp; rfl)); intro gb149 hg w37 hbox hb; obtain ⟨hy, hz⟩ := bfst (by with_reducible repeat first | exact HB.out | apply bA | apply bN | apply bD) hb hg; replace HB := hy; have BK149 := Aside0.mk (hbox); have GE149 := hz; have GW149 := GE149; clear hy hz hb hbox hg; obtain ⟨hcz38_0, hcz38_1, hcz38_2, hcz38_3, hfz38_0, hfz38_1, hfz38_2, hfz38_3⟩ := bc4 BK149.out))
     go_ret
     exact ⟨by first | rfl | (simp <;> rfl) | (simp [*] <;> rfl), by with_reducible repeat first | exact HB.out | apply bA | apply bN | apply bD | refine bS ?_ GE149.out⟩
   ·
    rw [if_neg c21] at H
    have c21b0 : decide (a0_1 ≤ 65535) = false := decide_eq_false c21
    clear c21
    obtain rfl := Option.some.inj H
    go_enter Tryd.func43, Tryd.ntmps43
    go_wp2_with (first | ((with_reducible refine gate_dst (N := 1) rfl ?_); refine box_event ?hg (N := 1) ?hd (cs := #[.int .i64 a0_0, .int .i64 a0_1, .int .i64 a0_2, .int .i64 a0_3]) (t := 70) ?hr ?_; (case hd | hg => rfl); (case hr => first | (go_simp; done) | (go_simp; rfl)); intro gb149 hg w39 hbox hb; obtain ⟨hy, hz⟩ := bfst (by with_reducible repeat first | exact HB.out | apply bA | apply bN | apply bD) hb hg; replace HB := hy; have BK149 := Aside0.mk (hbox); have GE149 := hz; have GW149 := GE149; clear hy hz hb hbox hg; obtain ⟨hcz40_0, hcz40_1, hcz40_2, hcz40_3, hfz40_0, hfz40_1, hfz40_2, hfz40_3⟩ := bc4 BK149.out))
    go_ret
    exact ⟨by first | rfl | (simp <;> rfl) | (simp [*] <;> rfl), by with_reducible repeat first | exact HB.out | apply bA | apply bN | apply bD | refine bS ?_ GE149.out⟩
  ·
   rw [if_neg c20] at H
   have c20b0 : decide (3 ≤ a0_1) = false := decide_eq_false c20
   clear c20
   obtain rfl := Option.some.inj H
   go_enter Tryd.func43, Tryd.ntmps43
   go_wp2_with (first | ((with_reducible refine gate_dst (N := 1) rfl ?_); refine box_event ?hg (N := 1) ?hd (cs := #[.int .i64 a0_0, .int .i64 a0_1, .int .i64 a0_2, .int .i64 a0_3]) (t := 70) ?hr ?_; (case hd | hg => rfl); (case hr => first | (go_simp; done) | (go_simp; rfl)); intro gb149 hg w41 hbox hb; obtain ⟨hy, hz⟩ := bfst (by with_reducible repeat first | exact HB.out | apply bA | apply bN | apply bD) hb hg; replace HB := hy; have BK149 := Aside0.mk (hbox); have GE149 := hz; have GW149 := GE149; clear hy hz hb hbox hg; obtain ⟨hcz42_0, hcz42_1, hcz42_2, hcz42_3, hfz42_0, hfz42_1, hfz42_2, hfz42_3⟩ := bc4 BK149.out))
   go_ret
   exact ⟨by first | rfl | (simp <;> rfl) | (simp [*] <;> rfl), by with_reducible repeat first | exact HB.out | apply bA | apply bN | apply bD | refine bS ?_ GE149.out⟩

-- NOT PRINTED: function 66 (slices_Grow_byte_byte)

/-! ### slices_Concat_byte_byte: function 58 -/
set_option maxHeartbeats 8000000 in
set_option maxRecDepth 100000 in
theorem grow_nil (n : Nat) (hn : n ≤ 100000000000) (w0 w : World) (hB : Below w0.heap.size w0 w) :
  Calls Tryd.prog 66 #[.slice none 0 0, .int .i64 (n : Int)] w fun e w' => ∃ v, e = .returned v ∧ Kd.R (Kd.int .u8) 5 w' w0.heap.size (fun _ => True) v [] ∧ Below w0.heap.size w0 w' := by
 have HB := Aside0.mk hB
 clear hB
 by_cases h0 : n = 0
 ·
  subst h0
  go_enter Tryd.func66, Tryd.ntmps66
  go_wp2
  go_ret
  exact ⟨_, rfl, Kd.R_nil _ _ _ _ _, HB.out⟩
 ·
  have c0 : decide ((n : Int) < 0) = false := decide_eq_false (by omega)
  have c1 : decide (0 < (n : Int)) = true := decide_eq_true (by omega)
  have c2 : 0 < n := by omega
  have HN := Aside0.mk hn
  clear hn h0
  obtain ⟨i0, hi0, _⟩ := Option.map_eq_some_iff.1 info5
  have HI := Aside0.mk hi0
  clear hi0
  have b0 : (n : Int) ≤ 100000000000 := by have := HN.out; omega
  have b1 : (0 : Int) ≤ (n : Int) := by omega
  go_enter Tryd.func66, Tryd.ntmps66
  go_wp2_with (first | ((with_reducible refine gate_builtin (b := .append) (xs := #[.tmp 20, .tmp 21]) rfl ?_); at_builtin; refine Kd.R_append_zeros (Kd.int .u8) (kx := .i64) (w0 := w0) w0.heap.size rfl (.tmp 20) (.tmp 21) 39 3 5 (.int .u8 0) 1 rfl Tryd.underlying39 Tryd.underlying3 info5 rfl (by decide) (by decide) (.slice none 0 0) [] 0 (n : Int) (fun _ => True) ?aQ ?ax rfl (fun _ _ => trivial) (Kd.R_nil _ _ _ _ _) (by omega) HB.out (below_size HB.out) ?al ?_; (case aQ => rfl); (case ax => first | rfl | (simp [Act.eval]; done)); (case al => have := HN.out; simp only [List.length_nil]; omega); intro v1 w1 hR hb1 hg1 hat1; obtain ⟨A1, cc1, rfl, hlc, hC⟩ := Kd.R_reads hR; have hs1 := cut_to (P := Tryd.prog) 39 5 .i64 Tryd.underlying39 HI.out A1 ([] ++ List.replicate (n : Int).toNat (0 : Int)).length cc1 0 (by omega) (by omega) hlc; clear hC hg1 hat1))
  go_ret
  have h2 := Kd.R_take hR (m := 0) (by omega)
  exact ⟨_, rfl, h2, hb1⟩
theorem cat_at {w : World} {A : Option Addr} {n : Nat} {xs : List (List Int)} (h : Kd.C (Kd.slice 5 (Kd.int .u8)) w A n xs) (i : Int) (h0 : 0 ≤ i) (h1 : i < n) : ∃ ad A0 c0, A = some ad ∧ w.cell? (ad.add i.toNat) = some (.slice A0 (xs.getD i.toNat []).length c0) ∧ (xs.getD i.toNat []).length ≤ c0 ∧ (Kd.int .u8).C w A0 (xs.getD i.toNat []).length (xs.getD i.toNat []) := by
 obtain ⟨ad, c, e, _, hK, hc0⟩ := Kd.C_get h ([] : List Int) i h0 h1
 have hc : ∀ j u, c[j]? = some u → w.cell? (ad.add (i.toNat * 1 + j)) = some u := hc0
 obtain ⟨A0, c0, rfl, l0, g0⟩ := hK
 exact ⟨ad, A0, c0, e, by have hq := hc 0 _ rfl; rwa [Nat.mul_one, Nat.add_zero] at hq, l0, g0⟩
theorem flat_step (l : List (List Int)) (i : Nat) (h : i < l.length) : (l.take (i + 1)).flatten = (l.take i).flatten ++ l.getD i [] := by
 rw [List.take_succ_eq_append_getElem h, List.flatten_append]
 simp [h]
theorem flat_le (l : List (List Int)) (i : Nat) : (l.take i).flatten.length ≤ l.flatten.length := by
 have h : l.flatten = (l.take i).flatten ++ (l.drop i).flatten := by rw [← List.flatten_append, List.take_append_drop]
 rw [h, List.length_append]
 omega
def slices_Concat_byte_byte.f (l0 : List (List Int)) : Option (List Int) := if l0.length < 1000000 ∧ l0.flatten.length < 100000000000 then some l0.flatten else none
set_option maxHeartbeats 8000000 in
set_option maxRecDepth 100000 in
theorem slices_Concat_byte_byte.calls (A0 : Option Addr) (c0 : Nat) (l0 : List (List Int)) (r : List Int) (w : World) (hr0 : Kd.C (Kd.slice 5 (Kd.int .u8)) w A0 l0.length l0) (hc0 : l0.length ≤ c0) (h : slices_Concat_byte_byte.f l0 = some r) :
  Calls Tryd.prog 58 #[.slice A0 l0.length c0] w fun e w' => ∃ v0_ : Value, e = .returned (v0_) ∧ Kd.R (Kd.int .u8) 5 w' w.heap.size (fun _ => True) v0_ r ∧ Below w.heap.size w w' := by
 unfold slices_Concat_byte_byte.f at h
 by_cases hl : l0.length < 1000000 ∧ l0.flatten.length < 100000000000
 case neg => rw [if_neg hl] at h; cases h
 rw [if_pos hl] at h
 obtain rfl := Option.some.inj h
 have HR := Aside0.mk hr0
 have HL := Aside0.mk hl
 clear hr0 hc0 hl h
 go_enter Tryd.func58, Tryd.ntmps58
 go_wp2
 go_loopg [3, 11] l0.length (fun kq v3 v11 w2 => ∃ (i s : Nat), v3 = .int .i64 (s : Int) ∧ v11 = .int .i64 (i : Int) ∧ Aside0 (i + kq = l0.length) ∧ Aside0 (s = (l0.take i).flatten.length) ∧ Aside0 (Below w.heap.size w w2))
 case atStart => exact ⟨0, 0, rfl, rfl, ⟨by simp⟩, ⟨rfl⟩, ⟨Below.refl _ _⟩⟩
 case round =>
  obtain ⟨i, s, rfl, rfl, H1, H2, H3⟩ := hrel
  cases gk with
  | succ k1 =>
   have hlt : i < l0.length := by have := H1.out; omega
   have p1 : 0 ≤ (i : Int) := by omega
   have q1 : (i : Int) < (l0.length : Int) := by omega
   have c1 : decide ((i : Int) < (l0.length : Int)) = true := decide_eq_true q1
   obtain ⟨ad1, A1, cc1, e1, x0, hlc, hC⟩ := cat_at (Kd.C_below HR.out H3.out) (i : Int) p1 q1
   cases e1
   simp only [Int.toNat_natCast] at x0 hlc
   have hst := flat_step l0 i hlt
   have hle := flat_le l0 (i + 1)
   rw [hst, List.length_append] at hle
   have b0 : (s : Int) + ((l0.getD i []).length : Int) ≤ 100000000000 := by have := H2.out; have := HL.out.2; omega
   have H5 : Aside0 (s + (l0.getD i []).length = (l0.take (i + 1)).flatten.length) := ⟨by rw [hst, List.length_append, H2.out]⟩
   have b1 : (i : Int) ≤ 1000000 := by have := HL.out.1; omega
   clear hC hst hle hlc
   generalize (l0.getD i []).length = m at *
   go_wp2
   go_roundg k1
   case measure => omega
   case rel => exact ⟨i + 1, s + m, by simp, by simp, ⟨by have := H1.out; omega⟩, H5, H3⟩
  | zero =>
   have hi : i = l0.length := by have := H1.out; omega
   subst hi
   have hs : s = l0.flatten.length := by have := H2.out; rwa [List.take_length] at this
   have c1 : decide ((l0.length : Int) < (l0.length : Int)) = false := by simp
   have b0 : (s : Int) ≤ 100000000000 := by have := HL.out.2; omega
   have HG := Aside0.mk (grow_nil s (by omega) w wr H3.out)
   clear H1 H2 hs
   go_wp2_with (first | ((go_at_call 66; refine HG.out.mono ?_; rintro e w2 ⟨v6, rfl, hR, hB⟩)))
   clear HG b0 H3
   go_loopg [6, 27] l0.length (fun kq v6 v27 w2 => ∃ (i : Nat) (vv : Value), vv = v6 ∧ v27 = .int .i64 (i : Int) ∧ Aside0 (i + kq = l0.length) ∧ Aside0 (Kd.R (Kd.int .u8) 5 w2 w.heap.size (fun _ => True) v6 (l0.take i).flatten) ∧ Aside0 (Below w.heap.size w w2))
   case atStart => exact ⟨0, _, rfl, rfl, ⟨by simp⟩, ⟨by simpa using hR⟩, ⟨hB⟩⟩
   case round =>
    clear hR hB
    obtain ⟨i, vv, hvv, rfl, H1, H2, H3⟩ := hrel
    subst hvv
    cases gk with
    | succ k1 =>
     have hlt : i < l0.length := by have := H1.out; omega
     have p1 : 0 ≤ (i : Int) := by omega
     have q1 : (i : Int) < (l0.length : Int) := by omega
     have c1 : decide ((i : Int) < (l0.length : Int)) = true := decide_eq_true q1
     obtain ⟨ad1, A1, cc1, e1, x0, hlc, hC⟩ := cat_at (Kd.C_below HR.out H3.out) (i : Int) p1 q1
     cases e1
     simp only [Int.toNat_natCast] at x0 hlc hC
     have b1 : (i : Int) ≤ 1000000 := by have := HL.out.1; omega
     have H5 : Aside0 ((l0.take (i + 1)).flatten = (l0.take i).flatten ++ l0.getD i []) := ⟨flat_step l0 i hlt⟩
     have H6 : Aside0 (((l0.take i).flatten.length + (l0.getD i []).length) * 1 ≤ 140737488355328) := ⟨by have := flat_le l0 (i + 1); rw [H5.out, List.length_append] at this; have := HL.out.2; omega⟩
     have HC := Aside0.mk hC
     clear hC hlc
     generalize hx : l0.getD i [] = x at *
     clear hx
     generalize hy : (l0.take i).flatten = y at *
     clear hy
     go_wp2_with (first | ((with_reducible refine gate_builtin (b := .append) (xs := #[.tmp 31, .tmp 32]) rfl ?_); at_builtin; refine Kd.R_append_rows (Kd.int .u8) (w0 := w) w.heap.size rfl (.tmp 31) (.tmp 32) 39 5 (.int .u8 0) 1 rfl Tryd.underlying39 info5 rfl (by decide) (by omega) vv y x _ _ _ (fun _ => True) (fun _ => False) rfl rfl H2.out ?aR (fun _ _ h => h) (fun _ h => h.elim) (fun _ _ => trivial) H3.out (below_size H3.out) H6.out ?_; (case aR => exact HC.out); intro v2 w8 ho hb hg hat; clear hg hat))
     go_roundg k1
     case measure => omega
     case rel => exact ⟨i + 1, _, rfl, by simp, ⟨by have := H1.out; omega⟩, ⟨by rw [H5.out]; exact ho⟩, ⟨hb⟩⟩
    | zero =>
     have hi : i = l0.length := by have := H1.out; omega
     subst hi
     have c1 : decide ((l0.length : Int) < (l0.length : Int)) = false := by simp
     go_wp2
     go_ret
     exact ⟨_, rfl, by have := H2.out; rwa [List.take_length] at this, H3.out⟩

/-! ### open_tlv: function 44 -/
def open_tlv.f (a0 : Int) (l1 : List Int) : Option (List Int) := (slices_Concat_byte_byte.f (([(([(a0) % 256, ((l1.length : Int)) % 256] : List Int)), l1] : List (List Int)))).bind fun t156 => (some t156)
set_option maxHeartbeats 8000000 in
set_option maxRecDepth 100000 in
theorem open_tlv.calls (a0 : Int) (P1_ : Nat → Prop) (A1 : Option Addr) (c1 : Nat) (l1 : List Int) (r : List Int) (w : World) (hs1 : Kd.V (Kd.int .u8) 5 w w.heap.size (fun k_ => P1_ k_) (.slice A1 l1.length c1) l1) (h : open_tlv.f a0 l1 = some r) :
  Calls Tryd.prog 44 #[.int .i64 a0, .slice A1 l1.length c1] w fun e w' => ∃ v0_ : Value, e = .returned (v0_) ∧ Kd.R (Kd.int .u8) 5 w' w.heap.size (fun k_ => (w.heap.size ≤ k_)) v0_ r ∧ Below w.heap.size w w' := by
 have HO1 := Aside0.mk (show Kd.V (Kd.int .u8) 5 w w.heap.size (fun k_ => (P1_ k_ ∨ w.heap.size ≤ k_)) (.slice A1 l1.length c1) l1 from Kd.V_mono hs1 (fun k_ hk => .inl hk))
 have HB := Aside0.mk (Below.refl w.heap.size w)
 have H : ((slices_Concat_byte_byte.f (([(([(a0) % 256, ((l1.length : Int)) % 256] : List Int)), l1] : List (List Int)))).bind fun t156 => (some t156)) = some r := h
 clear h
 obtain ⟨y150, hy150⟩ : ∃ y_ : List Int, y_ = (([(a0) % 256, ((l1.length : Int)) % 256] : List Int)) := ⟨_, rfl⟩
 replace H : ((slices_Concat_byte_byte.f (([y150, l1] : List (List Int)))).bind fun t156 => (some t156)) = some r := by first | (rw [hy150]; with_reducible exact H) | (have H2_ := (Option.bind_some _ _).symm.trans H; rw [hy150]; with_reducible exact H2_) | (have H2_ := (Option.bind_some _ _).symm.trans H; with_reducible exact H2_) | with_reducible exact H | (rw [hy150]; exact H) | exact H
 have Ny150 := Aside0.mk hy150
 clear hy150
 obtain ⟨y153, hy153⟩ : ∃ y_ : List (List Int), y_ = (([y150, l1] : List (List Int))) := ⟨_, rfl⟩
 replace H : ((slices_Concat_byte_byte.f y153).bind fun t156 => (some t156)) = some r := by first | (rw [hy153]; with_reducible exact H) | (have H2_ := (Option.bind_some _ _).symm.trans H; rw [hy153]; with_reducible exact H2_) | (have H2_ := (Option.bind_some _ _).symm.trans H; with_reducible exact H2_) | with_reducible exact H | (rw [hy153]; exact H) | exact H
 have Ny153 := Aside0.mk hy153
 clear hy153
 replace H := Option.bind_eq_some_iff.mp H
 obtain ⟨t156, A30, H⟩ := H
 replace H : (some t156) = some r := H
 have A3 := Aside0.mk A30
 clear A30
 obtain rfl := Option.some.inj H
 go_enter Tryd.func44, Tryd.ntmps44
 go_wp2_with (first | ((with_reducible refine gate_dst (N := 10) rfl ?_); refine Kd.R_lit (Kd.int .u8) _ 5 ?hg (N := 10) ?hd (xs := ([(a0) % 256, ((l1.length : Int)) % 256] : List Int)) (inner := [.int .u8 ((a0) % 256), .int .u8 (((l1.length : Int)) % 256)]) (ok := fun _ => True) (okp := fun _ => True) ?hr ?hp (fun _ hk => hk) trivial (Below.refl _ _) (Nat.le_refl _) (by simp) ?_; (case hd | hg => rfl); (case hr => first | (go_simp; done) | (go_simp; rfl)); (case hp => exact (Reps.one (show Kd.M (Kd.int .u8) _ _ _ ((a0) % 256) [.int .u8 ((a0) % 256)] from rfl) (Reps.one (show Kd.M (Kd.int .u8) _ _ _ (((l1.length : Int)) % 256) [.int .u8 (((l1.length : Int)) % 256)] from rfl) (Reps.none _ _)))); intro v151 w4 ho5 hb hg_ hnew_; clear hg_ hnew_; (first | rw [← Ny150.out] at ho5 | (simp only [Int.reduceToNat] at ho5; rw [← Ny150.out] at ho5)); replace HO1 := Aside0.mk (Kd.V_elder' (by (with_reducible repeat (first | apply Kd.V_alloc | apply Kd.V_drewN | apply Kd.V_drew)); exact HO1.out) (Kd.R_base ho5) hb); have HO152 := Aside0.mk (Kd.R_lower (Kd.R_newM (M := fun k_ => (w.heap.size ≤ k_)) ho5 (below_size (by with_reducible repeat first | exact HB.out | apply bA | apply bN | apply bD)) (fun k_ h_ => h_)) (below_size (by with_reducible repeat first | exact HB.out | apply bA | apply bN | apply bD))); replace HB := Aside0.mk (below_step (by with_reducible repeat first | exact HB.out | apply bA | apply bN | apply bD) hb); clear hb ho5; obtain ⟨Ao6, co6, eo6⟩ := Kd.R_slice HO152.out; subst eo6) | ((with_reducible refine gate_dst (N := 12) rfl ?_); refine Kd.N_lit (Kd.slice 5 (Kd.int .u8)) _ 39 ?hg (N' := 12) ?hd (xs := ([y150, l1] : List (List Int))) (inner := [.slice Ao6 y150.length co6, .slice A1 l1.length c1]) (ok := (fun k_ => (P1_ k_ ∨ w.heap.size ≤ k_))) (okp := (fun k_ => (P1_ k_ ∨ w.heap.size ≤ k_))) ?hr ?hp (fun _ hk => hk) ((show ∀ k_, w4.heap.size ≤ k_ → (fun k_ => (P1_ k_ ∨ w.heap.size ≤ k_)) k_ from fun k_ hk => (.inr (Nat.le_trans (below_size (by with_reducible repeat first | exact HB.out | apply bA | apply bN | apply bD)) hk))) _ (Nat.le_refl _)) (Below.refl _ _) (Nat.le_refl _) (by simp) ?_; (case hd | hg => rfl); (case hr => first | (go_simp; done) | (go_simp; rfl)); (case hp => exact (Reps.one (show Kd.FK (Kd.slice 5 (Kd.int .u8)) _ _ y150 [.slice Ao6 y150.length co6] from (Kd.FK_slice_mk (Kd.R_reads' (Kd.R_mono (ok' := (fun k_ => (P1_ k_ ∨ w.heap.size ≤ k_))) (HO152.out) (fun k_ hk => (.inr (hk.1))))).2.1 (Kd.R_F (Kd.R_mono (ok' := (fun k_ => (P1_ k_ ∨ w.heap.size ≤ k_))) (HO152.out) (fun k_ hk => (.inr (hk.1))))))) (Reps.one (show Kd.FK (Kd.slice 5 (Kd.int .u8)) _ _ l1 [.slice A1 l1.length c1] from (Kd.FK_slice_mk (Kd.V_reads' (Kd.V_mono (ok' := (fun k_ => (P1_ k_ ∨ w.heap.size ≤ k_))) (HO1.out) (fun k_ hk => hk.1))).2.1 (Kd.V_F (Kd.V_mono (ok' := (fun k_ => (P1_ k_ ∨ w.heap.size ≤ k_))) (HO1.out) (fun k_ hk => hk.1))))) (Reps.none _ _)))); intro v154 w7 ho8 hb hg_ hnew_; clear hg_ hnew_; (first | rw [← Ny153.out] at ho8 | (simp only [Int.reduceToNat] at ho8; rw [← Ny153.out] at ho8)); replace HO1 := Aside0.mk (Kd.V_elder' (by (with_reducible repeat (first | apply Kd.V_alloc | apply Kd.V_drewN | apply Kd.V_drew)); exact HO1.out) (Kd.N_base ho8) hb); have HO155 := Aside0.mk (Kd.N_lower ho8 (below_size (by with_reducible repeat first | exact HB.out | apply bA | apply bN | apply bD))); replace HB := Aside0.mk (below_step (by with_reducible repeat first | exact HB.out | apply bA | apply bN | apply bD) hb); clear HO152 hb ho8; obtain ⟨Ao9, co9, eo9⟩ := Kd.N_slice HO155.out; subst eo9) | ((with_reducible refine gate_callee (f := 58) rfl ?_); refine goesL_ (some 13) rfl rfl Tryd.func58 (by kernel_rfl) rfl #[.slice Ao9 y153.length co9] rfl (by (try simp only [List.map_toArray, List.map_cons, List.map_nil]); first | done | rfl | (simp only [List.length_drop, List.length_take]; rfl) | (simp only [Ny153.out, List.length_set]; first | done | rfl)) ?_; (with_reducible refine (slices_Concat_byte_byte.calls _ _ y153 t156 _ ?side1 ?side2 A3.out).mono ?_); (case side1 => repeat (first | exact (Kd.N_reads' HO155.out).2.2 | (with_reducible refine Kd.C_alloc ?_ _) | (with_reducible refine Kd.C_drewN ?_ _) | (with_reducible refine Kd.C_drew ?_))); (case side2 => exact (Kd.N_reads' HO155.out).2.1); rintro e w10 ⟨v157, rfl, ho0, hb⟩; refine ⟨_, rfl, ?_⟩; replace HO1 := Aside0.mk (Kd.V_elder' (by (with_reducible repeat (first | apply Kd.V_alloc | apply Kd.V_drewN | apply Kd.V_drew)); exact HO1.out) (Kd.R_base ho0) hb); replace HO155 := Aside0.mk (Kd.N_elder' (by (with_reducible repeat (first | apply Kd.N_alloc | apply Kd.N_drewN | apply Kd.N_drew)); exact HO155.out) (Kd.R_base ho0) hb); have HO158 := Aside0.mk (Kd.R_lower (Kd.R_newM (M := fun k_ => (w.heap.size ≤ k_)) ho0 (below_size (by with_reducible repeat first | exact HB.out | apply bA | apply bN | apply bD)) (fun k_ h_ => h_)) (below_size (by with_reducible repeat first | exact HB.out | apply bA | apply bN | apply bD))); replace HB := Aside0.mk (below_step (by with_reducible repeat first | exact HB.out | apply bA | apply bN | apply bD) hb); (try clear hb); (try clear hb2); (try clear hk); (try clear hi); (try clear ho0)))
 go_ret
 exact ⟨_, by first | rfl | (simp <;> rfl) | (simp [*] <;> rfl), by (with_reducible repeat (first | apply Kd.R_alloc | apply Kd.R_drewN | apply Kd.R_drew)); exact Kd.R_mono HO158.out (fun _ hk => hk.1), by with_reducible repeat first | exact HB.out | apply bA | apply bN | apply bD⟩

end Go.Proofs.YtfbndolhocojiaaDoor.K
