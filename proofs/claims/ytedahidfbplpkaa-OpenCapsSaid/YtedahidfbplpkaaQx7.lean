/- Each call of a Go function comes to what the Lean function of its name answers (written out by wip/tools/xprint.py, checked by Lean); conditions: those in each statement. -/
import Derived.Test.YtedahidfbplpkaaQx0
import Derived.Test.YtedahidfbplpkaaQx1
import Derived.Test.YtedahidfbplpkaaQx3
import Derived.Test.YtedahidfbplpkaaQx4
import Derived.Test.YtedahidfbplpkaaQx5
import Derived.Test.YtedahidfbplpkaaXOpenC
import Derived.Test.YtedahidfbplpkaaXOpenA
import Derived.Test.YtedahidfbplpkaaXRow
import Derived.Test.YtedahidfbplpkaaXLaw
import Derived.Test.YtedahidfbplpkaaXLawB
import Derived.Test.YtedahidfbplpkaaXLawC
import Derived.Test.YtedahidfbplpkaaXLawE
import Derived.Deep.MidRow
namespace Go.Proofs.Ytedahidfbplpkaa.Q
open Go.RowKit Go.Proofs.YtedahidfbplpkaaW.PrintWords Go.Proofs.YtedahidfbplpkaaW.PrintLast Go.Proofs.YtedahidfbplpkaaW.PrintMore Go.Proofs.YtedahidfbplpkaaW.PrintX
attribute [local go_sem] max2_int min2_int max_two min_two max_three min_three max_four min_four   -- for this text's walks alone
set_option linter.unusedVariables false
set_option linter.unusedSimpArgs false

/-! ### ridgewaylaw06_OpenCaps: function 6 -/
open Classical in
noncomputable def ridgewaylaw06_OpenCaps.f (a h i r code : Int) (b : List Int) (kind : Int) : Option Bool := if Octs b ∧ 0 ≤ code ∧ code < 256 ∧ 0 ≤ kind ∧ kind < 256 then some true else none
set_option maxHeartbeats 8000000 in
set_option maxRecDepth 100000 in
theorem ridgewaylaw06_OpenCaps.off (a0_0 a0_1 a0_2 a0_3 a1 : Int) (A2_ : Option Addr) (c2_ : Nat) (l2 : List Int) (a3 : Int) (w : World) (hs : Pure.saneH a0_0 a0_1 a0_2 a0_3 = false) (hr2 : Kd.C (Kd.int .u8) w A2_ l2.length l2) (hc2 : l2.length ≤ c2_) :
  Calls Try.prog 6 #[.agg #[.int .i64 a0_0, .int .i64 a0_1, .int .i64 a0_2, .int .i64 a0_3], .int .u8 a1, .slice A2_ l2.length c2_, .int .u8 a3] w fun e w' => e = .returned (.bool true) ∧ Below w.heap.size w w' := by
 have HR2 := Aside0.mk hr2
 clear hr2 hc2
 have HU0 : ∀ {w1 : World}, Below (w.alloc (Obj.cells #[.int .i64 a0_0, .int .i64 a0_1, .int .i64 a0_2, .int .i64 a0_3] 23)).heap.size (w.alloc (Obj.cells #[.int .i64 a0_0, .int .i64 a0_1, .int .i64 a0_2, .int .i64 a0_3] 23)) w1 → w1.cell? ⟨w.heap.size, 0, none⟩ = some (.int .i64 a0_0) ∧ w1.cell? ⟨w.heap.size, 1, none⟩ = some (.int .i64 a0_1) ∧ w1.cell? ⟨w.heap.size, 2, none⟩ = some (.int .i64 a0_2) ∧ w1.cell? ⟨w.heap.size, 3, none⟩ = some (.int .i64 a0_3) ∧ Below w.heap.size w w1 := fun hb => by
  have hv := blk_below (heap_alloc_new w _) hb
  exact ⟨(blk_cell hv 0).trans rfl, (blk_cell hv 1).trans rfl, (blk_cell hv 2).trans rfl, (blk_cell hv 3).trans rfl, below_step (below_alloc (Below.refl _ _) _) hb⟩
 have HU := Aside0.mk @HU0
 clear HU0
 have SW : Aside0 (w.heap.size < (w.alloc (Obj.cells #[.int .i64 a0_0, .int .i64 a0_1, .int .i64 a0_2, .int .i64 a0_3] 23)).heap.size) := ⟨by simp only [World.alloc, Array.size_push]; omega⟩
 have hp := Pure.put_eq 8 a0_0 a0_1 a0_2 a0_3 (by omega)
 have hq := Pure.saneH_eq a0_0 a0_1 a0_2 a0_3
 rw [hs] at hp hq
 rw [if_neg (by decide)] at hp
 have HP := Aside0.mk hp
 have HS := Aside0.mk hq
 clear hp hq hs
 go_enter Try.func6, Try.ntmps6
 go_wp2_with (first
  | (go_at_call 8; (with_reducible refine (ridgewaylaw06_awake.calls true _ rfl).mono ?_); rintro e w1 ⟨rfl, hb1⟩; obtain ⟨hv0, hv1, hv2, hv3, hB1⟩ := HU.out hb1; have K1 := Aside0.mk hb1; clear hb1)
  | (go_at_call 15; (with_reducible refine (open_Put.calls 8 a0_0 a0_1 a0_2 a0_3 0 [] _ HP.out).mono ?_); rintro e w2 ⟨v2, rfl, hR2, hb2⟩; obtain ⟨A2, c2, rfl, hl2, hC2⟩ := Kd.R_reads hR2; simp only [List.length_nil]; have HC2 := Aside0.mk hC2; have HL2 := Aside0.mk hl2; have K2 := Aside0.mk (below_step K1.out hb2); clear hR2 hC2 hl2 hb2 hv0 hv1 hv2 hv3 hB1; obtain ⟨hv0, hv1, hv2, hv3, hB2⟩ := HU.out (below_alloc K2.out (Obj.cells #[.int .i64 0, .slice A2 0 c2] 26)))
  | (go_at_call 12; (with_reducible refine (open_Sane.calls a0_0 a0_1 a0_2 a0_3 false (w2.alloc (Obj.cells #[.int .i64 0, .slice A2 0 c2] 26)) HS.out).mono ?_); rintro e w3 ⟨rfl, hb3⟩; have K3 := Aside0.mk (below_step (below_alloc K2.out (Obj.cells #[.int .i64 0, .slice A2 0 c2] 26)) hb3); clear hv0 hv1 hv2 hv3 hB2; obtain ⟨hv0, hv1, hv2, hv3, hB2⟩ := HU.out K3.out; clear hb3)
  | (go_at_call 12; (with_reducible refine (open_Sane.calls a0_0 a0_1 a0_2 a0_3 false w3 HS.out).mono ?_); rintro e w4 ⟨rfl, hb4⟩; have K4 := Aside0.mk (below_step K3.out hb4); clear hv0 hv1 hv2 hv3 hB2; obtain ⟨hv0, hv1, hv2, hv3, hB2⟩ := HU.out K4.out; clear hb4))
 go_ret
 exact ⟨rfl, hB2⟩
set_option maxHeartbeats 8000000 in
set_option maxRecDepth 100000 in
theorem ridgewaylaw06_OpenCaps.long (a0_0 a0_1 a0_2 a0_3 a1 : Int) (A2_ : Option Addr) (c2_ : Nat) (l2 : List Int) (a3 : Int) (w : World) (hs : Pure.saneH a0_0 a0_1 a0_2 a0_3 = true) (g1 : (l2.length : Int) > 100) (hr2 : Kd.C (Kd.int .u8) w A2_ l2.length l2) (hc2 : l2.length ≤ c2_) :
  Calls Try.prog 6 #[.agg #[.int .i64 a0_0, .int .i64 a0_1, .int .i64 a0_2, .int .i64 a0_3], .int .u8 a1, .slice A2_ l2.length c2_, .int .u8 a3] w fun e w' => e = .returned (.bool true) ∧ Below w.heap.size w w' := by
 have HR2 := Aside0.mk hr2
 clear hr2 hc2
 have HU0 : ∀ {w1 : World}, Below (w.alloc (Obj.cells #[.int .i64 a0_0, .int .i64 a0_1, .int .i64 a0_2, .int .i64 a0_3] 23)).heap.size (w.alloc (Obj.cells #[.int .i64 a0_0, .int .i64 a0_1, .int .i64 a0_2, .int .i64 a0_3] 23)) w1 → w1.cell? ⟨w.heap.size, 0, none⟩ = some (.int .i64 a0_0) ∧ w1.cell? ⟨w.heap.size, 1, none⟩ = some (.int .i64 a0_1) ∧ w1.cell? ⟨w.heap.size, 2, none⟩ = some (.int .i64 a0_2) ∧ w1.cell? ⟨w.heap.size, 3, none⟩ = some (.int .i64 a0_3) ∧ Below w.heap.size w w1 := fun hb => by
  have hv := blk_below (heap_alloc_new w _) hb
  exact ⟨(blk_cell hv 0).trans rfl, (blk_cell hv 1).trans rfl, (blk_cell hv 2).trans rfl, (blk_cell hv 3).trans rfl, below_step (below_alloc (Below.refl _ _) _) hb⟩
 have HU := Aside0.mk @HU0
 clear HU0
 have SW : Aside0 (w.heap.size < (w.alloc (Obj.cells #[.int .i64 a0_0, .int .i64 a0_1, .int .i64 a0_2, .int .i64 a0_3] 23)).heap.size) := ⟨by simp only [World.alloc, Array.size_push]; omega⟩
 have hp := Pure.put_eq 8 a0_0 a0_1 a0_2 a0_3 (by omega)
 have hq := Pure.saneH_eq a0_0 a0_1 a0_2 a0_3
 rw [hs] at hp hq
 rw [if_pos rfl] at hp
 obtain ⟨B, hB⟩ : ∃ B, B = Pure.bodyH a0_0 a0_1 a0_2 a0_3 := ⟨_, rfl⟩
 have hbl := Pure.body_len a0_0 a0_1 a0_2 a0_3
 have htl := Pure.tail_len a0_0 a0_3
 have hbl2 : 18 ≤ (Pure.bodyH a0_0 a0_1 a0_2 a0_3).length ∧ (Pure.bodyH a0_0 a0_1 a0_2 a0_3).length ≤ 23 := by rw [hbl, htl]; split <;> omega
 have d1 : decide ((l2.length : Int) > 100) = true := decide_eq_true g1
 rw [← hB] at hp hbl2
 have q1 : (18 : Int) ≤ (B.length : Int) := by omega
 have HP := Aside0.mk hp
 have HS := Aside0.mk hq
 clear hp hq hs hB hbl htl hbl2
 go_enter Try.func6, Try.ntmps6
 go_wp2_with (first
  | (go_at_call 8; (with_reducible refine (ridgewaylaw06_awake.calls true _ rfl).mono ?_); rintro e w1 ⟨rfl, hb1⟩; obtain ⟨hv0, hv1, hv2, hv3, hB1⟩ := HU.out hb1; have K1 := Aside0.mk hb1; clear hb1)
  | (go_at_call 15; (with_reducible refine (open_Put.calls 8 a0_0 a0_1 a0_2 a0_3 1 B _ HP.out).mono ?_); rintro e w2 ⟨v2, rfl, hR2, hb2⟩; obtain ⟨A2, c2, rfl, hl2, hC2⟩ := Kd.R_reads hR2; have HC2 := Aside0.mk hC2; have HL2 := Aside0.mk hl2; have K2 := Aside0.mk (below_step K1.out hb2); clear hR2 hC2 hl2 hb2 hv0 hv1 hv2 hv3 hB1; obtain ⟨hv0, hv1, hv2, hv3, hB2⟩ := HU.out (below_alloc K2.out (Obj.cells #[.int .i64 1, .slice A2 B.length c2] 26)))
  | (go_at_call 12; (with_reducible refine (open_Sane.calls a0_0 a0_1 a0_2 a0_3 true (w2.alloc (Obj.cells #[.int .i64 1, .slice A2 B.length c2] 26)) HS.out).mono ?_); rintro e w3 ⟨rfl, hb3⟩; have K3 := Aside0.mk (below_step (below_alloc K2.out (Obj.cells #[.int .i64 1, .slice A2 B.length c2] 26)) hb3); clear hv0 hv1 hv2 hv3 hB2; have J3 := Aside0.mk hb3; obtain ⟨m0, m1⟩ : w3.cell? ⟨w2.heap.size, 0, none⟩ = some (.int .i64 1) ∧ w3.cell? ⟨w2.heap.size, 1, none⟩ = some (.slice A2 B.length c2) := ⟨(new1_cell hb3 0).trans rfl, (new1_cell hb3 1).trans rfl⟩; obtain ⟨hv0, hv1, hv2, hv3, hB2⟩ := HU.out K3.out; clear hb3)
  | (go_at_call 12; (with_reducible refine (open_Sane.calls a0_0 a0_1 a0_2 a0_3 true w3 HS.out).mono ?_); rintro e w4 ⟨rfl, hb4⟩; have K4 := Aside0.mk (below_step K3.out hb4); clear hv0 hv1 hv2 hv3 hB2; obtain ⟨m0, m1⟩ : w4.cell? ⟨w2.heap.size, 0, none⟩ = some (.int .i64 1) ∧ w4.cell? ⟨w2.heap.size, 1, none⟩ = some (.slice A2 B.length c2) := ⟨(new1_cell (below_step J3.out hb4) 0).trans rfl, (new1_cell (below_step J3.out hb4) 1).trans rfl⟩; obtain ⟨hv0, hv1, hv2, hv3, hB2⟩ := HU.out K4.out; clear hb4))
 go_ret
 exact ⟨rfl, hB2⟩
set_option maxHeartbeats 8000000 in
set_option maxRecDepth 100000 in
theorem ridgewaylaw06_OpenCaps.as (a0_0 a0_1 a0_2 a0_3 a1 : Int) (A2_ : Option Addr) (c2_ : Nat) (l2 : List Int) (a3 : Int) (w : World) (hs : Pure.saneH a0_0 a0_1 a0_2 a0_3 = true) (g1 : ¬ ((l2.length : Int) > 100)) (g2 : a1 = 65) (hr2 : Kd.C (Kd.int .u8) w A2_ l2.length l2) (hc2 : l2.length ≤ c2_) :
  Calls Try.prog 6 #[.agg #[.int .i64 a0_0, .int .i64 a0_1, .int .i64 a0_2, .int .i64 a0_3], .int .u8 a1, .slice A2_ l2.length c2_, .int .u8 a3] w fun e w' => e = .returned (.bool true) ∧ Below w.heap.size w w' := by
 have HR2 := Aside0.mk hr2
 clear hr2 hc2
 have HU0 : ∀ {w1 : World}, Below (w.alloc (Obj.cells #[.int .i64 a0_0, .int .i64 a0_1, .int .i64 a0_2, .int .i64 a0_3] 23)).heap.size (w.alloc (Obj.cells #[.int .i64 a0_0, .int .i64 a0_1, .int .i64 a0_2, .int .i64 a0_3] 23)) w1 → w1.cell? ⟨w.heap.size, 0, none⟩ = some (.int .i64 a0_0) ∧ w1.cell? ⟨w.heap.size, 1, none⟩ = some (.int .i64 a0_1) ∧ w1.cell? ⟨w.heap.size, 2, none⟩ = some (.int .i64 a0_2) ∧ w1.cell? ⟨w.heap.size, 3, none⟩ = some (.int .i64 a0_3) ∧ Below w.heap.size w w1 := fun hb => by
  have hv := blk_below (heap_alloc_new w _) hb
  exact ⟨(blk_cell hv 0).trans rfl, (blk_cell hv 1).trans rfl, (blk_cell hv 2).trans rfl, (blk_cell hv 3).trans rfl, below_step (below_alloc (Below.refl _ _) _) hb⟩
 have HU := Aside0.mk @HU0
 clear HU0
 have SW : Aside0 (w.heap.size < (w.alloc (Obj.cells #[.int .i64 a0_0, .int .i64 a0_1, .int .i64 a0_2, .int .i64 a0_3] 23)).heap.size) := ⟨by simp only [World.alloc, Array.size_push]; omega⟩
 have hp := Pure.put_eq 8 a0_0 a0_1 a0_2 a0_3 (by omega)
 have hq := Pure.saneH_eq a0_0 a0_1 a0_2 a0_3
 rw [hs] at hp hq
 rw [if_pos rfl] at hp
 obtain ⟨B, hB⟩ : ∃ B, B = Pure.bodyH a0_0 a0_1 a0_2 a0_3 := ⟨_, rfl⟩
 have hbl := Pure.body_len a0_0 a0_1 a0_2 a0_3
 have htl := Pure.tail_len a0_0 a0_3
 have hbl2 : 18 ≤ (Pure.bodyH a0_0 a0_1 a0_2 a0_3).length ∧ (Pure.bodyH a0_0 a0_1 a0_2 a0_3).length ≤ 23 := by rw [hbl, htl]; split <;> omega
 have d1 : decide ((l2.length : Int) > 100) = false := decide_eq_false g1
 have d2 : (a1 == 65) = true := by simp [g2]
 clear g2
 rw [← hB] at hp hbl2
 have q1 : (18 : Int) ≤ (B.length : Int) := by omega
 have HP := Aside0.mk hp
 have HS := Aside0.mk hq
 clear hp hq hs hB hbl htl hbl2
 go_enter Try.func6, Try.ntmps6
 go_wp2_with (first
  | (go_at_call 8; (with_reducible refine (ridgewaylaw06_awake.calls true _ rfl).mono ?_); rintro e w1 ⟨rfl, hb1⟩; obtain ⟨hv0, hv1, hv2, hv3, hB1⟩ := HU.out hb1; have K1 := Aside0.mk hb1; clear hb1)
  | (go_at_call 15; (with_reducible refine (open_Put.calls 8 a0_0 a0_1 a0_2 a0_3 1 B _ HP.out).mono ?_); rintro e w2 ⟨v2, rfl, hR2, hb2⟩; obtain ⟨A2, c2, rfl, hl2, hC2⟩ := Kd.R_reads hR2; have HC2 := Aside0.mk hC2; have HL2 := Aside0.mk hl2; have K2 := Aside0.mk (below_step K1.out hb2); clear hR2 hC2 hl2 hb2 hv0 hv1 hv2 hv3 hB1; obtain ⟨hv0, hv1, hv2, hv3, hB2⟩ := HU.out (below_alloc K2.out (Obj.cells #[.int .i64 1, .slice A2 B.length c2] 26)))
  | (go_at_call 12; (with_reducible refine (open_Sane.calls a0_0 a0_1 a0_2 a0_3 true (w2.alloc (Obj.cells #[.int .i64 1, .slice A2 B.length c2] 26)) HS.out).mono ?_); rintro e w3 ⟨rfl, hb3⟩; have K3 := Aside0.mk (below_step (below_alloc K2.out (Obj.cells #[.int .i64 1, .slice A2 B.length c2] 26)) hb3); clear hv0 hv1 hv2 hv3 hB2; have J3 := Aside0.mk hb3; obtain ⟨m0, m1⟩ : w3.cell? ⟨w2.heap.size, 0, none⟩ = some (.int .i64 1) ∧ w3.cell? ⟨w2.heap.size, 1, none⟩ = some (.slice A2 B.length c2) := ⟨(new1_cell hb3 0).trans rfl, (new1_cell hb3 1).trans rfl⟩; obtain ⟨hv0, hv1, hv2, hv3, hB2⟩ := HU.out K3.out; clear hb3)
  | (go_at_call 12; (with_reducible refine (open_Sane.calls a0_0 a0_1 a0_2 a0_3 true w3 HS.out).mono ?_); rintro e w4 ⟨rfl, hb4⟩; have K4 := Aside0.mk (below_step K3.out hb4); clear hv0 hv1 hv2 hv3 hB2; obtain ⟨m0, m1⟩ : w4.cell? ⟨w2.heap.size, 0, none⟩ = some (.int .i64 1) ∧ w4.cell? ⟨w2.heap.size, 1, none⟩ = some (.slice A2 B.length c2) := ⟨(new1_cell (below_step J3.out hb4) 0).trans rfl, (new1_cell (below_step J3.out hb4) 1).trans rfl⟩; obtain ⟨hv0, hv1, hv2, hv3, hB2⟩ := HU.out K4.out; clear hb4))
 go_ret
 exact ⟨rfl, hB2⟩
set_option maxHeartbeats 8000000 in
set_option maxRecDepth 100000 in
theorem ridgewaylaw06_OpenCaps.role (a0_0 a0_1 a0_2 a0_3 a1 : Int) (A2_ : Option Addr) (c2_ : Nat) (l2 : List Int) (a3 : Int) (w : World) (hs : Pure.saneH a0_0 a0_1 a0_2 a0_3 = true) (g1 : ¬ ((l2.length : Int) > 100)) (g2 : a1 = 9) (hr2 : Kd.C (Kd.int .u8) w A2_ l2.length l2) (hc2 : l2.length ≤ c2_) :
  Calls Try.prog 6 #[.agg #[.int .i64 a0_0, .int .i64 a0_1, .int .i64 a0_2, .int .i64 a0_3], .int .u8 a1, .slice A2_ l2.length c2_, .int .u8 a3] w fun e w' => e = .returned (.bool true) ∧ Below w.heap.size w w' := by
 have HR2 := Aside0.mk hr2
 clear hr2 hc2
 have HU0 : ∀ {w1 : World}, Below (w.alloc (Obj.cells #[.int .i64 a0_0, .int .i64 a0_1, .int .i64 a0_2, .int .i64 a0_3] 23)).heap.size (w.alloc (Obj.cells #[.int .i64 a0_0, .int .i64 a0_1, .int .i64 a0_2, .int .i64 a0_3] 23)) w1 → w1.cell? ⟨w.heap.size, 0, none⟩ = some (.int .i64 a0_0) ∧ w1.cell? ⟨w.heap.size, 1, none⟩ = some (.int .i64 a0_1) ∧ w1.cell? ⟨w.heap.size, 2, none⟩ = some (.int .i64 a0_2) ∧ w1.cell? ⟨w.heap.size, 3, none⟩ = some (.int .i64 a0_3) ∧ Below w.heap.size w w1 := fun hb => by
  have hv := blk_below (heap_alloc_new w _) hb
  exact ⟨(blk_cell hv 0).trans rfl, (blk_cell hv 1).trans rfl, (blk_cell hv 2).trans rfl, (blk_cell hv 3).trans rfl, below_step (below_alloc (Below.refl _ _) _) hb⟩
 have HU := Aside0.mk @HU0
 clear HU0
 have SW : Aside0 (w.heap.size < (w.alloc (Obj.cells #[.int .i64 a0_0, .int .i64 a0_1, .int .i64 a0_2, .int .i64 a0_3] 23)).heap.size) := ⟨by simp only [World.alloc, Array.size_push]; omega⟩
 have hp := Pure.put_eq 8 a0_0 a0_1 a0_2 a0_3 (by omega)
 have hq := Pure.saneH_eq a0_0 a0_1 a0_2 a0_3
 rw [hs] at hp hq
 rw [if_pos rfl] at hp
 obtain ⟨B, hB⟩ : ∃ B, B = Pure.bodyH a0_0 a0_1 a0_2 a0_3 := ⟨_, rfl⟩
 have hbl := Pure.body_len a0_0 a0_1 a0_2 a0_3
 have htl := Pure.tail_len a0_0 a0_3
 have hbl2 : 18 ≤ (Pure.bodyH a0_0 a0_1 a0_2 a0_3).length ∧ (Pure.bodyH a0_0 a0_1 a0_2 a0_3).length ≤ 23 := by rw [hbl, htl]; split <;> omega
 have d1 : decide ((l2.length : Int) > 100) = false := decide_eq_false g1
 have d2 : (a1 == 65) = false := by simp [g2]
 have d3 : (a1 == 9) = true := by simp [g2]
 clear g2
 rw [← hB] at hp hbl2
 have q1 : (18 : Int) ≤ (B.length : Int) := by omega
 have HP := Aside0.mk hp
 have HS := Aside0.mk hq
 clear hp hq hs hB hbl htl hbl2
 go_enter Try.func6, Try.ntmps6
 go_wp2_with (first
  | (go_at_call 8; (with_reducible refine (ridgewaylaw06_awake.calls true _ rfl).mono ?_); rintro e w1 ⟨rfl, hb1⟩; obtain ⟨hv0, hv1, hv2, hv3, hB1⟩ := HU.out hb1; have K1 := Aside0.mk hb1; clear hb1)
  | (go_at_call 15; (with_reducible refine (open_Put.calls 8 a0_0 a0_1 a0_2 a0_3 1 B _ HP.out).mono ?_); rintro e w2 ⟨v2, rfl, hR2, hb2⟩; obtain ⟨A2, c2, rfl, hl2, hC2⟩ := Kd.R_reads hR2; have HC2 := Aside0.mk hC2; have HL2 := Aside0.mk hl2; have K2 := Aside0.mk (below_step K1.out hb2); clear hR2 hC2 hl2 hb2 hv0 hv1 hv2 hv3 hB1; obtain ⟨hv0, hv1, hv2, hv3, hB2⟩ := HU.out (below_alloc K2.out (Obj.cells #[.int .i64 1, .slice A2 B.length c2] 26)))
  | (go_at_call 12; (with_reducible refine (open_Sane.calls a0_0 a0_1 a0_2 a0_3 true (w2.alloc (Obj.cells #[.int .i64 1, .slice A2 B.length c2] 26)) HS.out).mono ?_); rintro e w3 ⟨rfl, hb3⟩; have K3 := Aside0.mk (below_step (below_alloc K2.out (Obj.cells #[.int .i64 1, .slice A2 B.length c2] 26)) hb3); clear hv0 hv1 hv2 hv3 hB2; have J3 := Aside0.mk hb3; obtain ⟨m0, m1⟩ : w3.cell? ⟨w2.heap.size, 0, none⟩ = some (.int .i64 1) ∧ w3.cell? ⟨w2.heap.size, 1, none⟩ = some (.slice A2 B.length c2) := ⟨(new1_cell hb3 0).trans rfl, (new1_cell hb3 1).trans rfl⟩; obtain ⟨hv0, hv1, hv2, hv3, hB2⟩ := HU.out K3.out; clear hb3)
  | (go_at_call 12; (with_reducible refine (open_Sane.calls a0_0 a0_1 a0_2 a0_3 true w3 HS.out).mono ?_); rintro e w4 ⟨rfl, hb4⟩; have K4 := Aside0.mk (below_step K3.out hb4); clear hv0 hv1 hv2 hv3 hB2; obtain ⟨m0, m1⟩ : w4.cell? ⟨w2.heap.size, 0, none⟩ = some (.int .i64 1) ∧ w4.cell? ⟨w2.heap.size, 1, none⟩ = some (.slice A2 B.length c2) := ⟨(new1_cell (below_step J3.out hb4) 0).trans rfl, (new1_cell (below_step J3.out hb4) 1).trans rfl⟩; obtain ⟨hv0, hv1, hv2, hv3, hB2⟩ := HU.out K4.out; clear hb4))
 go_ret
 exact ⟨rfl, hB2⟩
section
attribute [local go_sem high] eqA23
set_option maxHeartbeats 8000000 in
set_option maxRecDepth 100000 in
theorem ridgewaylaw06_OpenCaps.on (a0_0 a0_1 a0_2 a0_3 a1 : Int) (A2_ : Option Addr) (c2_ : Nat) (l2 : List Int) (a3 : Int) (w : World) (hs : Pure.saneH a0_0 a0_1 a0_2 a0_3 = true) (g1 : ¬ ((l2.length : Int) > 100)) (g2 : a1 ≠ 65) (g3 : a1 ≠ 9) (ho : Octs l2) (h0 : 0 ≤ a1) (h1 : a1 < 256) (h2 : 0 ≤ a3) (h3 : a3 < 256) (hr2 : Kd.C (Kd.int .u8) w A2_ l2.length l2) (hc2 : l2.length ≤ c2_) :
  Calls Try.prog 6 #[.agg #[.int .i64 a0_0, .int .i64 a0_1, .int .i64 a0_2, .int .i64 a0_3], .int .u8 a1, .slice A2_ l2.length c2_, .int .u8 a3] w fun e w' => e = .returned (.bool true) ∧ Below w.heap.size w w' := by
 have HR2 := Aside0.mk hr2
 clear hr2 hc2
 have HU0 : ∀ {w1 : World}, Below (w.alloc (Obj.cells #[.int .i64 a0_0, .int .i64 a0_1, .int .i64 a0_2, .int .i64 a0_3] 23)).heap.size (w.alloc (Obj.cells #[.int .i64 a0_0, .int .i64 a0_1, .int .i64 a0_2, .int .i64 a0_3] 23)) w1 → w1.cell? ⟨w.heap.size, 0, none⟩ = some (.int .i64 a0_0) ∧ w1.cell? ⟨w.heap.size, 1, none⟩ = some (.int .i64 a0_1) ∧ w1.cell? ⟨w.heap.size, 2, none⟩ = some (.int .i64 a0_2) ∧ w1.cell? ⟨w.heap.size, 3, none⟩ = some (.int .i64 a0_3) ∧ Below w.heap.size w w1 := fun hb => by
  have hv := blk_below (heap_alloc_new w _) hb
  exact ⟨(blk_cell hv 0).trans rfl, (blk_cell hv 1).trans rfl, (blk_cell hv 2).trans rfl, (blk_cell hv 3).trans rfl, below_step (below_alloc (Below.refl _ _) _) hb⟩
 have HU := Aside0.mk @HU0
 clear HU0
 have SW : Aside0 (w.heap.size < (w.alloc (Obj.cells #[.int .i64 a0_0, .int .i64 a0_1, .int .i64 a0_2, .int .i64 a0_3] 23)).heap.size) := ⟨by simp only [World.alloc, Array.size_push]; omega⟩
 have hp := Pure.put_eq 8 a0_0 a0_1 a0_2 a0_3 (by omega)
 have hq := Pure.saneH_eq a0_0 a0_1 a0_2 a0_3
 rw [hs] at hp hq
 rw [if_pos rfl] at hp
 obtain ⟨B, hB⟩ : ∃ B, B = Pure.bodyH a0_0 a0_1 a0_2 a0_3 := ⟨_, rfl⟩
 have hbl := Pure.body_len a0_0 a0_1 a0_2 a0_3
 have htl := Pure.tail_len a0_0 a0_3
 have hbl2 : 18 ≤ (Pure.bodyH a0_0 a0_1 a0_2 a0_3).length ∧ (Pure.bodyH a0_0 a0_1 a0_2 a0_3).length ≤ 23 := by rw [hbl, htl]; split <;> omega
 have d1 : decide ((l2.length : Int) > 100) = false := decide_eq_false g1
 have d2 : (a1 == 65) = false := by simp [g2]
 have d3 : (a1 == 9) = false := by simp [g3]
 rw [← hB] at hp hbl2
 have HBL := Aside0.mk hbl2
 have HLL := Aside0.mk (show l2.length ≤ 100 by omega)
 have q1 : (18 : Int) ≤ (B.length : Int) := by omega
 have q2 : (l2.length : Int) ≤ 100 := by omega
 have HP := Aside0.mk hp
 have HS := Aside0.mk hq
 have HB := Aside0.mk hB
 have HS0 := Aside0.mk hs
 have HA := Aside0.mk (show Octs l2 ∧ 0 ≤ a1 ∧ a1 < 256 ∧ a1 ≠ 65 ∧ a1 ≠ 9 from ⟨ho, h0, h1, g2, g3⟩)
 clear hp hq hB hbl htl hbl2 g1 g2 g3 ho
 go_enter Try.func6, Try.ntmps6
 go_wp2_with (first
  | (go_at_call 8; (with_reducible refine (ridgewaylaw06_awake.calls true _ rfl).mono ?_); rintro e w1 ⟨rfl, hb1⟩; obtain ⟨hv0, hv1, hv2, hv3, hB1⟩ := HU.out hb1; have K1 := Aside0.mk hb1; clear hb1)
  | (go_at_call 15; (with_reducible refine (open_Put.calls 8 a0_0 a0_1 a0_2 a0_3 1 B _ HP.out).mono ?_); rintro e w2 ⟨v2, rfl, hR2, hb2⟩; obtain ⟨A2, c2, rfl, hl2, hC2⟩ := Kd.R_reads hR2; have hne2 : ¬ (c2 = 10) := (by have := HBL.out; omega); have q3 : (18 : Int) ≤ (c2 : Int) := (by have := HBL.out; omega); have HC2 := Aside0.mk hC2; have HL2 := Aside0.mk hl2; have K2 := Aside0.mk (below_step K1.out hb2); clear hR2 hC2 hl2 hb2 hv0 hv1 hv2 hv3 hB1; obtain ⟨hv0, hv1, hv2, hv3, hB2⟩ := HU.out (below_alloc K2.out (Obj.cells #[.int .i64 1, .slice A2 B.length c2] 26)))
  | (go_at_call 12; (with_reducible refine (open_Sane.calls a0_0 a0_1 a0_2 a0_3 true (w2.alloc (Obj.cells #[.int .i64 1, .slice A2 B.length c2] 26)) HS.out).mono ?_); rintro e w3 ⟨rfl, hb3⟩; have K3 := Aside0.mk (below_step (below_alloc K2.out (Obj.cells #[.int .i64 1, .slice A2 B.length c2] 26)) hb3); clear hv0 hv1 hv2 hv3 hB2; have J3 := Aside0.mk hb3; have HM : Aside0 (∀ W : World, Below (w2.alloc (Obj.cells #[.int .i64 1, .slice A2 B.length c2] 26)).heap.size (w2.alloc (Obj.cells #[.int .i64 1, .slice A2 B.length c2] 26)) W → W.cell? ⟨w2.heap.size, 0, none⟩ = some (.int .i64 1) ∧ W.cell? ⟨w2.heap.size, 1, none⟩ = some (.slice A2 B.length c2)) := ⟨fun W hb => ⟨(new1_cell hb 0).trans rfl, (new1_cell hb 1).trans rfl⟩⟩; obtain ⟨m0, m1⟩ := HM.out _ hb3; obtain ⟨hv0, hv1, hv2, hv3, hB2⟩ := HU.out K3.out; clear hb3)
  | ((with_reducible refine gate_builtin (b := .append) (xs := #[.tmp 63, .tmp 64]) rfl ?_); at_builtin; refine Kd.R_append_rows (Kd.int .u8) (w0 := w3) w3.heap.size rfl (.tmp 63) (.tmp 64) 24 5 (.int .u8 0) 1 rfl Try.underlying24 info5 rfl (by decide) (by omega) _ [a1, (l2.length : Int)] l2 _ _ _ (fun _ => True) (fun _ => False) rfl rfl ?aO ?aR (fun _ _ h => h) (fun _ h => h.elim) (fun _ _ => trivial) (below_alloc (Below.refl _ _) _) (below_alloc (Below.refl _ _) _).size ?aL ?_; (case aO => exact R_lit8 w3 _ 5 (Nat.le_refl _) [a1, (l2.length : Int)] (by simp)); (case aR => exact Kd.C_alloc (Kd.C_below HR2.out hB2) _); (case aL => have := HBL.out; have := HLL.out; (try simp only [List.length_append, List.length_cons, List.length_nil, List.length_take, List.length_drop]); omega); intro v4 w4 ho hb4 hg hat; clear hg hat; obtain ⟨P1, hP1⟩ : ∃ P1, P1 = [a1, (l2.length : Int)] ++ l2 := ⟨_, rfl⟩; have hL1 : P1.length = l2.length + 2 := (by rw [hP1]; simp only [List.length_append, List.length_cons, List.length_nil]; omega); rw [← hP1] at ho; have HP1 := Aside0.mk hP1; have HL1 := Aside0.mk hL1; clear hP1 hL1; obtain ⟨A4, c4, rfl, -, hC4⟩ := Kd.R_reads ho; have HC4 := Aside0.mk hC4; have J4 := Aside0.mk (below_step J3.out hb4); have q4 : (P1.length : Int) = (l2.length : Int) + 2 := (by have := HL1.out; omega); clear ho hb4 hC4; clear m0 m1; obtain ⟨m0, m1⟩ := HM.out _ J4.out)
  | ((with_reducible refine gate_builtin (b := .append) (xs := #[.tmp 69, .tmp 70]) rfl ?_); at_builtin; refine Kd.R_append_rows (Kd.int .u8) (w0 := w4) w4.heap.size rfl (.tmp 69) (.tmp 70) 24 5 (.int .u8 0) 1 rfl Try.underlying24 info5 rfl (by decide) (by omega) _ [2, (l2.length : Int) + 2] P1 _ _ _ (fun _ => True) (fun _ => False) rfl rfl ?aO ?aR (fun _ _ h => h) (fun _ h => h.elim) (fun _ _ => trivial) (below_alloc (Below.refl _ _) _) (below_alloc (Below.refl _ _) _).size ?aL ?_; (case aO => exact R_lit8 w4 _ 5 (Nat.le_refl _) [2, (l2.length : Int) + 2] (by simp)); (case aR => exact Kd.C_alloc HC4.out _); (case aL => have := HBL.out; have := HLL.out; have := HL1.out; (try simp only [List.length_append, List.length_cons, List.length_nil, List.length_take, List.length_drop]); omega); intro v5 w5 ho hb5 hg hat; clear hg hat q4; obtain ⟨P, hP⟩ : ∃ P, P = [2, (l2.length : Int) + 2] ++ P1 := ⟨_, rfl⟩; have hLP : P.length = l2.length + 4 := (by rw [hP]; have := HL1.out; simp only [List.length_append, List.length_cons, List.length_nil]; omega); rw [← hP] at ho; have HPE : Aside0 (P = Pure.capL a1 l2) := ⟨by rw [hP, HP1.out]; rfl⟩; have HLP := Aside0.mk hLP; clear hP hLP; obtain ⟨A5, c5, rfl, -, hC5⟩ := Kd.R_reads ho; have HC5 := Aside0.mk hC5; have J5 := Aside0.mk (below_step J4.out hb5); clear ho hb5 hC5; clear m0 m1; obtain ⟨m0, m1⟩ := HM.out _ J5.out; obtain ⟨-, m2⟩ := HM.out _ (below_alloc J5.out (Obj.cells #[] 5)))
  | ((with_reducible refine gate_builtin (b := .append) (xs := #[.tmp 72, .tmp 75]) rfl ?_); at_builtin; refine Kd.R_append_rows (Kd.int .u8) (w0 := w5) w5.heap.size rfl (.tmp 72) (.tmp 75) 24 5 (.int .u8 0) 1 rfl Try.underlying24 info5 rfl (by decide) (by omega) _ [] (B.take 10) _ _ _ (fun _ => True) (fun _ => False) rfl rfl ?aO ?aR (fun _ _ h => h) (fun _ h => h.elim) (fun _ _ => trivial) (below_alloc (Below.refl _ _) _) (below_alloc (Below.refl _ _) _).size ?aL ?_; (case aO => exact R_lit8 w5 _ 5 (Nat.le_refl _) [] (by simp)); (case aR => exact (by have h := Kd.C_take (m := 10) (Kd.C_alloc (Kd.C_below (Kd.C_alloc HC2.out _) J5.out) (Obj.cells #[] 5)) (by have := HBL.out; omega); rw [List.length_take, Nat.min_eq_left (by have := HBL.out; omega)] at h; exact h)); (case aL => have := HBL.out; have := HLL.out; (try simp only [List.length_append, List.length_cons, List.length_nil, List.length_take, List.length_drop]); omega); intro v6 w6 ho hb6 hg hat; clear hg hat m2; rw [List.nil_append] at ho; obtain ⟨T, hT⟩ : ∃ T, T = B.take 10 := ⟨_, rfl⟩; have hTl : T.length = 10 := (by rw [hT, List.length_take]; have := HBL.out; omega); rw [← hT] at ho; have HTE := Aside0.mk hT; have HTL := Aside0.mk hTl; clear hT hTl; obtain ⟨A6, c6, rfl, -, -⟩ := Kd.R_reads ho; have HX0 := Aside0.mk ho; have L6 := Aside0.mk hb6; have J6 := Aside0.mk (below_step J5.out hb6); clear ho hb6; clear m0 m1; obtain ⟨m0, m1⟩ := HM.out _ J6.out)
  | ((with_reducible refine gate_builtin (b := .append) (xs := #[.tmp 77, .tmp 78]) rfl ?_); at_builtin; refine Kd.R_append_rows (Kd.int .u8) (w0 := w5) w5.heap.size rfl (.tmp 77) (.tmp 78) 24 5 (.int .u8 0) 1 rfl Try.underlying24 info5 rfl (by decide) (by omega) _ T P _ _ _ (fun _ => True) (fun _ => False) rfl rfl ?aO ?aR (fun _ _ h => h) (fun _ h => h.elim) (fun _ _ => trivial) L6.out L6.out.size ?aL ?_; (case aO => exact HX0.out); (case aR => exact Kd.C_below HC5.out L6.out); (case aL => have := HBL.out; have := HLL.out; have := HLP.out; have := HTL.out; (try simp only [List.length_append, List.length_cons, List.length_nil, List.length_take, List.length_drop]); omega); intro v7 w7 ho hb7 hg hat; clear hg hat; obtain ⟨U, hU⟩ : ∃ U, U = T ++ P := ⟨_, rfl⟩; have hUl : U.length = 10 + (l2.length + 4) := (by rw [hU, List.length_append]; have := HTL.out; have := HLP.out; omega); rw [← hU] at ho; have HUE := Aside0.mk hU; have HUL := Aside0.mk hUl; clear hU hUl; obtain ⟨A7, c7, rfl, -, -⟩ := Kd.R_reads ho; have HX1 := Aside0.mk ho; have L7 := Aside0.mk hb7; have J7 := Aside0.mk (below_step J5.out hb7); clear ho hb7; clear m0 m1; obtain ⟨m0, m1⟩ := HM.out _ J7.out)
  | ((with_reducible refine gate_builtin (b := .append) (xs := #[.tmp 80, .tmp 83]) rfl ?_); at_builtin; refine Kd.R_append_rows (Kd.int .u8) (w0 := w5) w5.heap.size rfl (.tmp 80) (.tmp 83) 24 5 (.int .u8 0) 1 rfl Try.underlying24 info5 rfl (by decide) (by omega) _ U (B.drop 10) _ _ _ (fun _ => True) (fun _ => False) rfl rfl ?aO ?aR (fun _ _ h => h) (fun _ h => h.elim) (fun _ _ => trivial) L7.out L7.out.size ?aL ?_; (case aO => exact HX1.out); (case aR => exact (by have h := Kd.C_drop (m := 10) (c := c2) (Kd.C_below (Kd.C_alloc HC2.out _) J7.out) (by have := HBL.out; omega) HL2.out; rw [List.length_drop, show (Kd.int .u8).sz = 1 from rfl, if_neg hne2] at h; exact h)); (case aL => have := HBL.out; have := HLL.out; have := HUL.out; (try simp only [List.length_append, List.length_cons, List.length_nil, List.length_take, List.length_drop]); omega); intro v8 w8 ho hb8 hg hat; clear hg hat; obtain ⟨X0, hX0⟩ : ∃ X0, X0 = U ++ B.drop 10 := ⟨_, rfl⟩; have hLX : X0.length = B.length + (l2.length + 4) := (by rw [hX0]; have := HBL.out; have := HUL.out; simp only [List.length_append, List.length_drop]; omega); rw [← hX0] at ho; have HX0E : Aside0 (X0 = B.take 10 ++ P ++ B.drop 10) := ⟨by rw [hX0, HUE.out, HTE.out]⟩; have HLX := Aside0.mk hLX; clear hX0 hLX; obtain ⟨gx, cx, rfl, kx1, kx2, -⟩ := Kd.R_form ho (by have := HLX.out; omega); have HX := Aside0.mk (R_at8 ho); have KX := Aside0.mk (show w5.heap.size ≤ gx ∧ gx < w8.heap.size from ⟨kx1, kx2⟩); have J8 := Aside0.mk (below_step J5.out hb8); have x1 : (X0.length : Int) ≤ 127 := (by have := HLX.out; have := HBL.out; have := HLL.out; omega); have x2 : (22 : Int) ≤ (X0.length : Int) := (by have := HLX.out; have := HBL.out; omega); obtain ⟨ux0, ux1, -⟩ := R_cell8 HX.out (j := 9) (by have := HLX.out; have := HBL.out; omega); clear ho kx1 kx2; clear m0 m1; obtain ⟨m0, m1⟩ := HM.out _ J8.out; have L8 := Aside0.mk hb8; have J9 := Aside0.mk (show Below (w2.alloc (Obj.cells #[.int .i64 1, .slice A2 B.length c2] 26)).heap.size (w2.alloc (Obj.cells #[.int .i64 1, .slice A2 B.length c2] 26)) _ from set_below (g := gx) (j := 9) (.int .u8 ((X0.length : Int) - 10)) J8.out (by have := KX.out; have := J5.out.size; omega)); have N9 := Aside0.mk (show Below w5.heap.size w5 _ from set_below (g := gx) (j := 9) (.int .u8 ((X0.length : Int) - 10)) L8.out KX.out.1); obtain ⟨-, m9⟩ := HM.out _ (below_alloc J9.out (Obj.cells #[] 5)); have RX9 := Aside0.mk (R_set8 (j := 9) HX.out (by have := HLX.out; have := HBL.out; omega) ((X0.length : Int) - 10)); have HGX : Aside0 (open_Get.f 1 (X0.set 9 ((X0.length : Int) - 10)) a0_0 = some (a0_0, a0_1, a0_2, a0_3, 0, 0, [])) := ⟨by rw [HX0E.out, HPE.out, HB.out]; exact Pure.caps_x a0_0 a0_1 a0_2 a0_3 a1 _ l2 HS0.out HA.out.2.1 HA.out.2.2.1 HA.out.1 HLL.out HA.out.2.2.2.1 HA.out.2.2.2.2 rfl⟩; clear hb8)
  | ((with_reducible refine gate_builtin (b := .append) (xs := #[.tmp 91, .tmp 93]) rfl ?_); at_builtin; refine Kd.R_append_rows (Kd.int .u8) (w0 := (w8.setCell ⟨gx, 9, none⟩ (.int .u8 ((X0.length : Int) - 10)))) (w8.setCell ⟨gx, 9, none⟩ (.int .u8 ((X0.length : Int) - 10))).heap.size rfl (.tmp 91) (.tmp 93) 24 5 (.int .u8 0) 1 rfl Try.underlying24 info5 rfl (by decide) (by omega) _ [] B _ _ _ (fun _ => True) (fun _ => False) rfl rfl ?aO ?aR (fun _ _ h => h) (fun _ h => h.elim) (fun _ _ => trivial) (below_alloc (Below.refl _ _) _) (below_alloc (Below.refl _ _) _).size ?aL ?_; (case aO => exact R_lit8e (w8.setCell ⟨gx, 9, none⟩ (.int .u8 ((X0.length : Int) - 10))) _ 5 w8.heap.size (set_size _ _ _) (Nat.le_refl _) [] (by simp)); (case aR => exact Kd.C_alloc (Kd.C_below (Kd.C_alloc HC2.out _) J9.out) _); (case aL => have := HBL.out; have := HLL.out; (try simp only [List.length_append, List.length_cons, List.length_nil, List.length_take, List.length_drop]); omega); intro v10 w10 ho hb10 hg hat; clear hg hat m9 ux0 ux1; rw [List.nil_append] at ho; have HY0 := Aside0.mk ho; obtain ⟨A10, c10, rfl, -, -⟩ := Kd.R_reads ho; have L10 := Aside0.mk hb10; clear ho hb10)
  | ((with_reducible refine gate_builtin (b := .append) (xs := #[.tmp 95, .tmp 96]) rfl ?_); at_builtin; refine Kd.R_append_rows (Kd.int .u8) (w0 := (w8.setCell ⟨gx, 9, none⟩ (.int .u8 ((X0.length : Int) - 10)))) (w8.setCell ⟨gx, 9, none⟩ (.int .u8 ((X0.length : Int) - 10))).heap.size rfl (.tmp 95) (.tmp 96) 24 5 (.int .u8 0) 1 rfl Try.underlying24 info5 rfl (by decide) (by omega) _ B P _ _ _ (fun _ => True) (fun _ => False) rfl rfl ?aO ?aR (fun _ _ h => h) (fun _ h => h.elim) (fun _ _ => trivial) L10.out L10.out.size ?aL ?_; (case aO => exact HY0.out); (case aR => exact Kd.C_below HC5.out (below_step N9.out L10.out)); (case aL => have := HBL.out; have := HLL.out; have := HLP.out; (try simp only [List.length_append, List.length_cons, List.length_nil, List.length_take, List.length_drop]); omega); intro v11 w11 ho hb11 hg hat; clear hg hat x1 x2; obtain ⟨Y0, hY0⟩ : ∃ Y0, Y0 = B ++ P := ⟨_, rfl⟩; have hLY : Y0.length = B.length + (l2.length + 4) := (by rw [hY0]; have := HLP.out; simp only [List.length_append]; omega); rw [← hY0] at ho; have HY0E := Aside0.mk hY0; have HLY := Aside0.mk hLY; clear hY0 hLY; obtain ⟨gy, cy, rfl, ky1, ky2, -⟩ := Kd.R_form ho (by have := HLY.out; omega); have HY := Aside0.mk (R_at8 ho); have KY := Aside0.mk (show w8.heap.size ≤ gy ∧ gy < w11.heap.size from ⟨by rw [set_size] at ky1; exact ky1, ky2⟩); have L11 := Aside0.mk hb11; have J11 := Aside0.mk (below_step J9.out hb11); have x1 : (Y0.length : Int) ≤ 127 := (by have := HLY.out; have := HBL.out; have := HLL.out; omega); have x2 : (22 : Int) ≤ (Y0.length : Int) := (by have := HLY.out; have := HBL.out; omega); obtain ⟨uy0, uy1, -⟩ := R_cell8 HY.out (j := 9) (by have := HLY.out; have := HBL.out; omega); have J12 := Aside0.mk (show Below (w2.alloc (Obj.cells #[.int .i64 1, .slice A2 B.length c2] 26)).heap.size (w2.alloc (Obj.cells #[.int .i64 1, .slice A2 B.length c2] 26)) _ from set_below (g := gy) (j := 9) (.int .u8 ((Y0.length : Int) - 10)) J11.out (by have := KY.out; have := J8.out.size; omega)); have nxy : gx ≠ gy := (by have := KX.out; have := KY.out; omega); have RX12 := Aside0.mk (R_off8 (j := 9) (Kd.R_below RX9.out L11.out) nxy (.int .u8 ((Y0.length : Int) - 10))); have RY12 := Aside0.mk (R_set8 (j := 9) HY.out (by have := HLY.out; have := HBL.out; omega) ((Y0.length : Int) - 10)); clear ho ky1 ky2 hb11 nxy)
  | ((with_reducible refine gate_builtin (b := .append) (xs := #[.tmp 104, .tmp 105]) rfl ?_); at_builtin; refine Kd.R_append_rows (Kd.int .u8) (w0 := (w11.setCell ⟨gy, 9, none⟩ (.int .u8 ((Y0.length : Int) - 10)))) (w11.setCell ⟨gy, 9, none⟩ (.int .u8 ((Y0.length : Int) - 10))).heap.size rfl (.tmp 104) (.tmp 105) 24 5 (.int .u8 0) 1 rfl Try.underlying24 info5 rfl (by decide) (by omega) _ [] (Y0.set 9 ((Y0.length : Int) - 10)) _ _ _ (fun _ => True) (fun _ => False) rfl rfl ?aO ?aR (fun _ _ h => h) (fun _ h => h.elim) (fun _ _ => trivial) (below_alloc (Below.refl _ _) _) (below_alloc (Below.refl _ _) _).size ?aL ?_; (case aO => exact R_lit8e (w11.setCell ⟨gy, 9, none⟩ (.int .u8 ((Y0.length : Int) - 10))) _ 5 w11.heap.size (set_size _ _ _) (Nat.le_refl _) [] (by simp)); (case aR => exact (by have h := (Kd.R_reads' (Kd.R_alloc RY12.out (Obj.cells #[] 5))).2.2; rw [List.length_set] at h; exact h)); (case aL => have := HBL.out; have := HLL.out; have := HLY.out; (try simp only [List.length_append, List.length_cons, List.length_nil, List.length_take, List.length_drop]); omega); intro v13 w13 ho hb13 hg hat; clear hg hat x1 x2 uy0 uy1; rw [List.nil_append] at ho; obtain ⟨Y, hY⟩ : ∃ Y, Y = Y0.set 9 ((Y0.length : Int) - 10) := ⟨_, rfl⟩; have hL : Y.length = Y0.length := (by rw [hY, List.length_set]); rw [← hY] at ho; have HYE := Aside0.mk hY; have HLZ := Aside0.mk hL; clear hY hL; obtain ⟨gz, cz, rfl, kz1, kz2, -⟩ := Kd.R_form ho (by have := HLZ.out; have := HLY.out; omega); have HZ := Aside0.mk (R_at8 ho); have KZ := Aside0.mk (show w11.heap.size ≤ gz ∧ gz < w13.heap.size from ⟨by rw [set_size] at kz1; exact kz1, kz2⟩); have J13 := Aside0.mk (below_step J12.out hb13); obtain ⟨-, m13⟩ := HM.out _ J13.out; have z1 : (B.length : Int) < (Y.length : Int) := (by have := HLZ.out; have := HLY.out; omega); obtain ⟨uz0, uz1, -⟩ := R_cell8 HZ.out (j := B.length) (by have := HLZ.out; have := HLY.out; omega); have nxz : gx ≠ gz := (by have := KX.out; have := KY.out; have := KZ.out; have := L11.out.size; omega); have nyz : gy ≠ gz := (by have := KY.out; have := KZ.out; omega); have RX14 := Aside0.mk (R_off8 (j := B.length) (Kd.R_below RX12.out hb13) nxz (.int .u8 a3)); have RY14 := Aside0.mk (R_off8 (j := B.length) (Kd.R_below RY12.out hb13) nyz (.int .u8 a3)); have RZ14 := Aside0.mk (R_set8 (j := B.length) HZ.out (by have := HLZ.out; have := HLY.out; omega) a3); have J14 := Aside0.mk (show Below (w2.alloc (Obj.cells #[.int .i64 1, .slice A2 B.length c2] 26)).heap.size (w2.alloc (Obj.cells #[.int .i64 1, .slice A2 B.length c2] 26)) _ from set_below (g := gz) (j := B.length) (.int .u8 a3) J13.out (by have := KZ.out; have := J11.out.size; omega)); have TJ14 := Aside0.mk (below_step (below_alloc K2.out (Obj.cells #[.int .i64 1, .slice A2 B.length c2] 26)) J14.out); obtain ⟨hv0, hv1, hv2, hv3, hB14⟩ := HU.out TJ14.out; have HGY : Aside0 (open_Get.f 1 (Y0.set 9 ((Y0.length : Int) - 10)) a0_0 = some (a0_0, a0_1, a0_2, a0_3, 0, 0, [])) := ⟨by rw [HY0E.out, HPE.out, HB.out]; exact Pure.caps_y a0_0 a0_1 a0_2 a0_3 a1 _ l2 HS0.out HA.out.2.1 HA.out.2.2.1 HA.out.1 HLL.out HA.out.2.2.2.1 HA.out.2.2.2.2 rfl⟩; clear ho hb13 kz1 kz2 nxz nyz))
 have HAO := Aside0.mk (show Octs (Y.set B.length a3) ∧ (Y.set B.length a3).length ≤ 5000 by
  have hy := HLY.out
  have hb := HBL.out
  have hl := HLL.out
  refine ⟨Pure.setO ?_ _ h2 h3, by rw [List.length_set, HLZ.out]; omega⟩
  rw [HYE.out]
  refine Pure.setO ?_ 9 (by omega) (by omega)
  rw [HY0E.out, HPE.out, HB.out]
  exact (Pure.body_ok a0_0 a0_1 a0_2 a0_3 HS0.out).1.app (Pure.cap_octs a1 l2 HA.out.2.1 HA.out.2.2.1 HA.out.1 HLL.out))
 obtain ⟨z1, z2, z3, z4, z5, z6, z7, HGZ⟩ : ∃ z1 z2 z3 z4 z5 z6 z7, Aside0 (open_Get.f 1 (Y.set B.length a3) a0_0 = some (z1, z2, z3, z4, z5, z6, z7) ∧ (a3 = 2 ∨ (a3 == 2) = false ∧ z5 = 2 ∧ z6 = 4)) := by
  by_cases hk : a3 = 2
  ·
   obtain ⟨⟨z1, z2, z3, z4, z5, z6, z7⟩, hr, -⟩ := Pure.get_any 1 a0_0 _ HAO.out.1 HAO.out.2
   exact ⟨z1, z2, z3, z4, z5, z6, z7, ⟨hr, .inl hk⟩⟩
  ·
   have h := Pure.caps_z a0_0 a0_1 a0_2 a0_3 a1 _ a3 l2 HS0.out HA.out.2.1 HA.out.2.2.1 HA.out.1 HLL.out h2 h3 hk rfl
   rw [← HB.out, ← HPE.out, ← HY0E.out, ← HYE.out] at h
   exact ⟨_, _, _, _, _, _, _, ⟨h, .inr ⟨by simp [hk], rfl, rfl⟩⟩⟩
 go_wp2_with (first
  | (go_at_call 9; have hg := open_Get.calls 1 _ _ (X0.set 9 ((X0.length : Int) - 10)) a0_0 a0_0 a0_1 a0_2 a0_3 0 0 [] _ (Kd.R_reads' RX14.out).2.2 (by simp only [List.length_set]; exact (Kd.R_reads' RX14.out).2.1) HGX.out; simp only [List.length_set] at hg; (with_reducible refine hg.mono ?_); clear hg; rintro e w15 ⟨v15, rfl, hV15, hb15⟩; obtain ⟨A15, c15, rfl⟩ := Kd.V_slice hV15; simp only [List.length_nil]; have RY15 := Aside0.mk (Kd.R_alloc (Kd.R_alloc (Kd.R_below RY14.out hb15) (Obj.cells #[.int .i64 a0_0, .int .i64 a0_1, .int .i64 a0_2, .int .i64 a0_3] 23)) (Obj.cells #[.int .i64 0, .int .i64 0, .slice A15 0 c15] 29)); have RZ15 := Aside0.mk (Kd.R_alloc (Kd.R_alloc (Kd.R_below RZ14.out hb15) (Obj.cells #[.int .i64 a0_0, .int .i64 a0_1, .int .i64 a0_2, .int .i64 a0_3] 23)) (Obj.cells #[.int .i64 0, .int .i64 0, .slice A15 0 c15] 29)); have TJ15 := Aside0.mk (below_alloc (below_alloc (below_step TJ14.out hb15) (Obj.cells #[.int .i64 a0_0, .int .i64 a0_1, .int .i64 a0_2, .int .i64 a0_3] 23)) (Obj.cells #[.int .i64 0, .int .i64 0, .slice A15 0 c15] 29)); clear hV15 hb15 uz0 uz1 hv0 hv1 hv2 hv3 hB14; obtain ⟨hv0, hv1, hv2, hv3, hB15⟩ := HU.out TJ15.out)
  | (go_at_call 9; have hg := open_Get.calls 1 _ _ (Y0.set 9 ((Y0.length : Int) - 10)) a0_0 a0_0 a0_1 a0_2 a0_3 0 0 [] _ (Kd.R_reads' RY15.out).2.2 (by simp only [List.length_set]; exact (Kd.R_reads' RY15.out).2.1) HGY.out; simp only [List.length_set] at hg; (with_reducible refine hg.mono ?_); clear hg; rintro e w16 ⟨v16, rfl, hV16, hb16⟩; obtain ⟨A16, c16, rfl⟩ := Kd.V_slice hV16; simp only [List.length_nil]; have RZ16 := Aside0.mk (Kd.R_alloc (Kd.R_alloc (Kd.R_below RZ15.out hb16) (Obj.cells #[.int .i64 a0_0, .int .i64 a0_1, .int .i64 a0_2, .int .i64 a0_3] 23)) (Obj.cells #[.int .i64 0, .int .i64 0, .slice A16 0 c16] 29)); have TJ16 := Aside0.mk (below_alloc (below_alloc (below_step TJ15.out hb16) (Obj.cells #[.int .i64 a0_0, .int .i64 a0_1, .int .i64 a0_2, .int .i64 a0_3] 23)) (Obj.cells #[.int .i64 0, .int .i64 0, .slice A16 0 c16] 29)); have L16 := Aside0.mk (below_alloc (below_alloc hb16 (Obj.cells #[.int .i64 a0_0, .int .i64 a0_1, .int .i64 a0_2, .int .i64 a0_3] 23)) (Obj.cells #[.int .i64 0, .int .i64 0, .slice A16 0 c16] 29)); clear hV16 hb16 hv0 hv1 hv2 hv3 hB15; obtain ⟨hv0, hv1, hv2, hv3, hB16⟩ := HU.out TJ16.out))
 go_at_call 9; have hg := open_Get.calls 1 _ _ (Y.set B.length a3) a0_0 z1 z2 z3 z4 z5 z6 z7 _ (Kd.R_reads' RZ16.out).2.2 (by simp only [List.length_set]; exact (Kd.R_reads' RZ16.out).2.1) HGZ.out.1; simp only [List.length_set] at hg; (with_reducible refine hg.mono ?_); clear hg; rintro e w17 ⟨v17, rfl, hV17, hb17⟩; obtain ⟨A17, c17, rfl⟩ := Kd.V_slice hV17; have TJ17 := Aside0.mk (below_alloc (below_alloc (below_step TJ16.out hb17) (Obj.cells #[.int .i64 z1, .int .i64 z2, .int .i64 z3, .int .i64 z4] 23)) (Obj.cells #[.int .i64 z5, .int .i64 z6, .slice A17 z7.length c17] 29)); have L17 := Aside0.mk (below_alloc (below_alloc hb17 (Obj.cells #[.int .i64 z1, .int .i64 z2, .int .i64 z3, .int .i64 z4] 23)) (Obj.cells #[.int .i64 z5, .int .i64 z6, .slice A17 z7.length c17] 29)); have L17b := Aside0.mk (below_step L16.out L17.out); have p0 := (new2_cell L17b.out 0).trans rfl; have r0 := (new2_cell L17.out 0).trans rfl; have p1 := (new2_cell L17b.out 1).trans rfl; have r1 := (new2_cell L17.out 1).trans rfl; have p2 := (new2_cell L17b.out 2).trans rfl; have r2 := (new2_cell L17.out 2).trans rfl; have p3 := (new2_cell L17b.out 3).trans rfl; have r3 := (new2_cell L17.out 3).trans rfl; have pn := (new2b_cell L17b.out 0).trans rfl; have rn := (new2b_cell L17.out 0).trans rfl; clear hV17 hb17 hv0 hv1 hv2 hv3 hB16; obtain ⟨hv0, hv1, hv2, hv3, hB20⟩ := HU.out TJ17.out
 rcases HGZ.out.2 with rfl | ⟨hz, rfl, rfl⟩ <;> go_wp2 <;> (go_ret; exact ⟨rfl, hB20⟩)
end
theorem ridgewaylaw06_OpenCaps.calls (a0_0 a0_1 a0_2 a0_3 a1 : Int) (A2_ : Option Addr) (c2_ : Nat) (l2 : List Int) (a3 : Int) (w : World) (hr2 : Kd.C (Kd.int .u8) w A2_ l2.length l2) (hc2 : l2.length ≤ c2_) (h : ridgewaylaw06_OpenCaps.f a0_0 a0_1 a0_2 a0_3 a1 l2 a3 = some true) :
  Calls Try.prog 6 #[.agg #[.int .i64 a0_0, .int .i64 a0_1, .int .i64 a0_2, .int .i64 a0_3], .int .u8 a1, .slice A2_ l2.length c2_, .int .u8 a3] w fun e w' => e = .returned (.bool true) ∧ Below w.heap.size w w' := by
 unfold ridgewaylaw06_OpenCaps.f at h
 split at h
 case isFalse => cases h
 rename_i ho
 obtain ⟨ho, h0, h1, h2, h3⟩ := ho
 cases hs : Pure.saneH a0_0 a0_1 a0_2 a0_3
 ·
  exact ridgewaylaw06_OpenCaps.off a0_0 a0_1 a0_2 a0_3 a1 A2_ c2_ l2 a3 w hs hr2 hc2
 by_cases g1 : (l2.length : Int) > 100
 ·
  exact ridgewaylaw06_OpenCaps.long a0_0 a0_1 a0_2 a0_3 a1 A2_ c2_ l2 a3 w hs g1 hr2 hc2
 by_cases g2 : a1 = 65
 ·
  exact ridgewaylaw06_OpenCaps.as a0_0 a0_1 a0_2 a0_3 a1 A2_ c2_ l2 a3 w hs g1 g2 hr2 hc2
 by_cases g3 : a1 = 9
 ·
  exact ridgewaylaw06_OpenCaps.role a0_0 a0_1 a0_2 a0_3 a1 A2_ c2_ l2 a3 w hs g1 g3 hr2 hc2
 ·
  exact ridgewaylaw06_OpenCaps.on a0_0 a0_1 a0_2 a0_3 a1 A2_ c2_ l2 a3 w hs g1 g2 g3 ho h0 h1 h2 h3 hr2 hc2

/-- THE ONE PURE STATEMENT of ridgewaylaw06_OpenCaps. -/
def ridgewaylaw06_OpenCaps.Pure : Prop := ∀ (x0 : S23) (a1 : Int) (l2 : List Int) (a3 : Int), (wf23 x0) → ((Lit.int .u8 a1).wf = true) → (l2.length ≤ maxLen ∧ ∀ y ∈ l2, (Lit.int .u8 y).wf = true) → ((Lit.int .u8 a3).wf = true) → ridgewaylaw06_OpenCaps.f (x0.f0) (x0.f1) (x0.f2) (x0.f3) a1 l2 a3 = some true

end Go.Proofs.Ytedahidfbplpkaa.Q
