/- Each call of a Go function comes to what the Lean function of its name answers (written out by wip/tools/xprint.py, checked by Lean); conditions: those in each statement. -/
import Derived.Test.YthmlhimmgciakaaQx0
import Derived.Test.YthmlhimmgciakaaQx2
import Derived.Test.YthmlhimmgciakaaQx3
import Derived.Test.YthmlhimmgciakaaQx4
import Derived.Test.YthmlhimmgciakaaQx6
import Derived.Test.YthmlhimmgciakaaXMsgLaw
import Derived.Test.YthmlhimmgciakaaXMsgRef
import Derived.Test.YthmlhimmgciakaaXRow
import Derived.Test.YthmlhimmgciakaaXLaw
import Derived.Test.YthmlhimmgciakaaXLawB
import Derived.Deep.MidRow
import Derived.Deep.DrawnRows
namespace Go.Proofs.Ythmlhimmgciakaa.Q
open Go.RowKit Go.Proofs.YthmlhimmgciakaaW.PrintWords Go.Proofs.YthmlhimmgciakaaW.PrintLast Go.Proofs.YthmlhimmgciakaaW.PrintMore Go.Proofs.YthmlhimmgciakaaW.PrintX
attribute [local go_sem] max2_int min2_int max_two min_two max_three min_three max_four min_four   -- for this text's walks alone
set_option linter.unusedVariables false
set_option linter.unusedSimpArgs false

/-! ### ridgewaylaw03_MsgTwo: function 7 -/
open Classical in
noncomputable def ridgewaylaw03_MsgTwo.f (t : Int) (b : List Int) (t2 : Int) (b2 : List Int) : Option Bool := if Octs b ∧ Octs b2 then some true else none
set_option maxHeartbeats 8000000 in
set_option maxRecDepth 100000 in
theorem ridgewaylaw03_MsgTwo.calls (a0_0 : Int) (A0_1 : Option Addr) (c0_1 : Nat) (l0_1 : List Int) (a1_0 : Int) (A1_1 : Option Addr) (c1_1 : Nat) (l1_1 : List Int) (w : World) (hr0 : Kd.C (Kd.int .u8) w A0_1 l0_1.length l0_1) (hc0 : l0_1.length ≤ c0_1) (hr1 : Kd.C (Kd.int .u8) w A1_1 l1_1.length l1_1) (hc1 : l1_1.length ≤ c1_1) (h : ridgewaylaw03_MsgTwo.f a0_0 l0_1 a1_0 l1_1 = some true) :
  Calls Try.prog 7 #[.agg #[.int .i64 a0_0, .slice A0_1 l0_1.length c0_1], .agg #[.int .i64 a1_0, .slice A1_1 l1_1.length c1_1]] w fun e w' => e = .returned (.bool true) ∧ Below w.heap.size w w' := by
 unfold ridgewaylaw03_MsgTwo.f at h
 split at h
 case isFalse => cases h
 rename_i ho
 clear h
 have HR0 := Aside0.mk hr0
 have HR1 := Aside0.mk hr1
 have HC0 := Aside0.mk hc0
 have HC1 := Aside0.mk hc1
 have HO := Aside0.mk ho
 clear hr0 hr1 hc0 hc1 ho
 have HU0 : ∀ {w1 : World}, Below ((w.alloc (Obj.cells #[.int .i64 a0_0, .slice A0_1 l0_1.length c0_1] 24)).alloc (Obj.cells #[.int .i64 a1_0, .slice A1_1 l1_1.length c1_1] 24)).heap.size ((w.alloc (Obj.cells #[.int .i64 a0_0, .slice A0_1 l0_1.length c0_1] 24)).alloc (Obj.cells #[.int .i64 a1_0, .slice A1_1 l1_1.length c1_1] 24)) w1 → (fun w' : World => w'.cell? ⟨w.heap.size, 0, none⟩ = some (.int .i64 a0_0) ∧ w'.cell? ⟨w.heap.size, 1, none⟩ = some (.slice A0_1 l0_1.length c0_1) ∧ w'.cell? ⟨w.heap.size + 1, 0, none⟩ = some (.int .i64 a1_0) ∧ w'.cell? ⟨w.heap.size + 1, 1, none⟩ = some (.slice A1_1 l1_1.length c1_1) ∧ Below w.heap.size w w' ∧ Aside0 (Below ((w.alloc (Obj.cells #[.int .i64 a0_0, .slice A0_1 l0_1.length c0_1] 24)).alloc (Obj.cells #[.int .i64 a1_0, .slice A1_1 l1_1.length c1_1] 24)).heap.size ((w.alloc (Obj.cells #[.int .i64 a0_0, .slice A0_1 l0_1.length c0_1] 24)).alloc (Obj.cells #[.int .i64 a1_0, .slice A1_1 l1_1.length c1_1] 24)) w')) w1 := fun hb => by
  have hs : (w.alloc (Obj.cells #[.int .i64 a0_0, .slice A0_1 l0_1.length c0_1] 24)).heap.size = w.heap.size + 1 := by simp only [World.alloc, Array.size_push]
  have hv := blk_below (blk_alloc (heap_alloc_new w _) _) hb
  have hu := blk_below (heap_alloc_new (w.alloc (Obj.cells #[.int .i64 a0_0, .slice A0_1 l0_1.length c0_1] 24)) _) hb
  rw [hs] at hu
  exact ⟨(blk_cell hv 0).trans rfl, (blk_cell hv 1).trans rfl, (blk_cell hu 0).trans rfl, (blk_cell hu 1).trans rfl, below_step (below_alloc (below_alloc (Below.refl _ _) _) _) hb, ⟨hb⟩⟩
 have HT0 : ∀ w1 w2 : World, (fun w' : World => w'.cell? ⟨w.heap.size, 0, none⟩ = some (.int .i64 a0_0) ∧ w'.cell? ⟨w.heap.size, 1, none⟩ = some (.slice A0_1 l0_1.length c0_1) ∧ w'.cell? ⟨w.heap.size + 1, 0, none⟩ = some (.int .i64 a1_0) ∧ w'.cell? ⟨w.heap.size + 1, 1, none⟩ = some (.slice A1_1 l1_1.length c1_1) ∧ Below w.heap.size w w' ∧ Aside0 (Below ((w.alloc (Obj.cells #[.int .i64 a0_0, .slice A0_1 l0_1.length c0_1] 24)).alloc (Obj.cells #[.int .i64 a1_0, .slice A1_1 l1_1.length c1_1] 24)).heap.size ((w.alloc (Obj.cells #[.int .i64 a0_0, .slice A0_1 l0_1.length c0_1] 24)).alloc (Obj.cells #[.int .i64 a1_0, .slice A1_1 l1_1.length c1_1] 24)) w')) w1 → Below w1.heap.size w1 w2 → (fun w' : World => w'.cell? ⟨w.heap.size, 0, none⟩ = some (.int .i64 a0_0) ∧ w'.cell? ⟨w.heap.size, 1, none⟩ = some (.slice A0_1 l0_1.length c0_1) ∧ w'.cell? ⟨w.heap.size + 1, 0, none⟩ = some (.int .i64 a1_0) ∧ w'.cell? ⟨w.heap.size + 1, 1, none⟩ = some (.slice A1_1 l1_1.length c1_1) ∧ Below w.heap.size w w' ∧ Aside0 (Below ((w.alloc (Obj.cells #[.int .i64 a0_0, .slice A0_1 l0_1.length c0_1] 24)).alloc (Obj.cells #[.int .i64 a1_0, .slice A1_1 l1_1.length c1_1] 24)).heap.size ((w.alloc (Obj.cells #[.int .i64 a0_0, .slice A0_1 l0_1.length c0_1] 24)).alloc (Obj.cells #[.int .i64 a1_0, .slice A1_1 l1_1.length c1_1] 24)) w')) w2 := fun w1 w2 hs hb => HU0 (below_step hs.2.2.2.2.2.out hb)
 have HU := Aside0.mk @HU0
 have HT := Aside0.mk HT0
 clear HT0 HU0
 by_cases g1 : (l0_1.length : Int) > 5000
 ·
  have d1 : decide ((l0_1.length : Int) > 5000) = true := decide_eq_true g1
  go_enter Try.func7, Try.ntmps7
  go_wp2_with (first | (go_at_call 8; with_reducible refine (ridgewaylaw03_awake.calls true _ rfl).mono ?_; rintro e w1 ⟨rfl, hb1⟩; obtain ⟨hv0, hv1, hv2, hv3, hB1, hb1⟩ := HU.out hb1))
  go_ret
  exact ⟨rfl, hB1⟩
 have d1 : decide ((l0_1.length : Int) > 5000) = false := decide_eq_false g1
 by_cases g2 : (l1_1.length : Int) > 5000
 ·
  have d2 : decide ((l1_1.length : Int) > 5000) = true := decide_eq_true g2
  go_enter Try.func7, Try.ntmps7
  go_wp2_with (first | (go_at_call 8; with_reducible refine (ridgewaylaw03_awake.calls true _ rfl).mono ?_; rintro e w1 ⟨rfl, hb1⟩; obtain ⟨hv0, hv1, hv2, hv3, hB1, hb1⟩ := HU.out hb1))
  go_ret
  exact ⟨rfl, hB1⟩
 have d2 : decide ((l1_1.length : Int) > 5000) = false := decide_eq_false g2
 have hs0 := Pure.sane_eq a0_0 l0_1 (by omega)
 have hs1 := Pure.sane_eq a1_0 l1_1 (by omega)
 cases g3 : Pure.saneV a0_0 l0_1
 ·
  rw [g3] at hs0
  have HS0 := Aside0.mk hs0
  clear hs0 hs1 g3
  go_enter Try.func7, Try.ntmps7
  go_wp2_with (first
   | (go_at_call 8; with_reducible refine (ridgewaylaw03_awake.calls true _ rfl).mono ?_; rintro e w1 ⟨rfl, hb1⟩; obtain ⟨hv0, hv1, hv2, hv3, hB1, hb1⟩ := HU.out hb1)
   | (go_at_call 15; with_reducible refine (msg_Sane.calls _ _ _ l0_1 _ _ (Kd.C_below HR0.out hB1) HC0.out HS0.out).mono ?_; rintro e w2 ⟨rfl, hb2⟩; have hb2 := below_step hb1.out hb2; clear hv0 hv1 hv2 hv3 hb1; obtain ⟨hv0, hv1, hv2, hv3, hB2, hb2⟩ := HU.out hb2))
  go_ret
  exact ⟨rfl, hB2⟩
 rw [g3] at hs0
 have HS0 := Aside0.mk hs0
 clear hs0
 cases g4 : Pure.saneV a1_0 l1_1
 ·
  rw [g4] at hs1
  have HS1 := Aside0.mk hs1
  clear hs1 g3 g4
  go_enter Try.func7, Try.ntmps7
  go_wp2_with (first
   | (go_at_call 8; with_reducible refine (ridgewaylaw03_awake.calls true _ rfl).mono ?_; rintro e w1 ⟨rfl, hb1⟩; obtain ⟨hv0, hv1, hv2, hv3, hB1, hb1⟩ := HU.out hb1)
   | (go_at_call 15; with_reducible refine (msg_Sane.calls _ _ _ l0_1 _ _ (Kd.C_below HR0.out hB1) HC0.out HS0.out).mono ?_; rintro e w2 ⟨rfl, hb2⟩; have hb2 := below_step hb1.out hb2; clear hv0 hv1 hv2 hv3 hb1; obtain ⟨hv0, hv1, hv2, hv3, hB2, hb2⟩ := HU.out hb2)
   | (go_at_call 15; with_reducible refine (msg_Sane.calls _ _ _ l1_1 _ _ (Kd.C_below HR1.out hB2) HC1.out HS1.out).mono ?_; rintro e w3 ⟨rfl, hb3⟩; have hb3 := below_step hb2.out hb3; clear hv0 hv1 hv2 hv3 hb2; obtain ⟨hv0, hv1, hv2, hv3, hB3, hb3⟩ := HU.out hb3))
  go_ret
  exact ⟨rfl, hB3⟩
 rw [g4] at hs1
 have HS1 := Aside0.mk hs1
 clear hs1
 obtain ⟨E, hE⟩ : ∃ E, E = Pure.encM a0_0 l0_1 := ⟨_, rfl⟩
 obtain ⟨G, hG⟩ : ∃ G, G = E ++ Pure.encM a1_0 l1_1 := ⟨_, rfl⟩
 obtain ⟨z, hz⟩ : ∃ z : Int, z = 19 + (l1_1.length : Int) := ⟨_, rfl⟩
 have hEl : E.length = 19 + l0_1.length := by rw [hE]; exact Pure.encM_length _ _
 have hGl : G.length = E.length + (19 + l1_1.length) := by rw [hG, List.length_append, Pure.encM_length]
 have HPA := Aside0.mk (show msg_Put.f 100 [] a0_0 l0_1 = some E by
  rw [Pure.msg_put 100 [] a0_0 l0_1 (by omega) (by simp) (by omega)]
  unfold Pure.putV
  rw [if_pos g3, List.nil_append, hE])
 have HPB := Aside0.mk (show msg_Put.f 100 E a1_0 l1_1 = some G by
  rw [Pure.msg_put 100 E a1_0 l1_1 (by omega) (by omega) (by omega)]
  unfold Pure.putV
  rw [if_pos g4, hG])
 have oE : Octs E := by rw [hE]; exact Pure.encM_octs _ _ HO.out.1
 have HGA := Aside0.mk (show msg_Get.f 100 G = some (a0_0, l0_1, (E.length : Int), 0, 0, []) by
  rw [Pure.msg_get 100 G (by rw [hG]; exact oE.app (Pure.encM_octs _ _ HO.out.2)) (by omega) (by omega), hG, hE, Pure.get_enc _ _ _ g3, Pure.encM_length]
  simp)
 have HGB := Aside0.mk (show msg_Get.f 100 (G.drop E.length) = some (a1_0, l1_1, z, 0, 0, []) by
  have hd : G.drop E.length = Pure.encM a1_0 l1_1 ++ [] := by rw [hG, List.drop_left, List.append_nil]
  rw [hd, Pure.msg_get 100 _ (by rw [List.append_nil]; exact Pure.encM_octs _ _ HO.out.2) (by rw [List.append_nil, Pure.encM_length]; omega) (by omega), Pure.get_enc _ _ _ g4, hz])
 have h1E : (1 : Int) ≤ (E.length : Int) := by omega
 have hEG : (E.length : Int) ≤ (G.length : Int) := by omega
 have hEN := Aside0.mk (show E.length ≤ G.length by omega)
 have HZ := Aside0.mk (show (E.length : Int) + z = (G.length : Int) by omega)
 have HZ2 : (0 : Int) ≤ z := by omega
 have HZ3 : z ≤ 10000 := by omega
 have HZ4 : (E.length : Int) ≤ 10000 := by omega
 have hEGlt := Aside0.mk (show E.length < G.length by omega)
 clear g3 g4 hE hG hz hEl hGl oE
 go_enter Try.func7, Try.ntmps7
 go_wp2_with (first
  | (go_at_call 8; with_reducible refine (ridgewaylaw03_awake.calls true _ rfl).mono ?_; rintro e w1 ⟨rfl, hb1⟩; obtain ⟨hv0, hv1, hv2, hv3, hB1, hb1⟩ := HU.out hb1)
  | (go_at_call 15; with_reducible refine (msg_Sane.calls _ _ _ l0_1 _ _ (Kd.C_below HR0.out hB1) HC0.out HS0.out).mono ?_; rintro e w2 ⟨rfl, hb2⟩; have hb2 := below_step hb1.out hb2; clear hv0 hv1 hv2 hv3 hb1; obtain ⟨hv0, hv1, hv2, hv3, hB2, hb2⟩ := HU.out hb2)
  | (go_at_call 15; with_reducible refine (msg_Sane.calls _ _ _ l1_1 _ _ (Kd.C_below HR1.out hB2) HC1.out HS1.out).mono ?_; rintro e w3 ⟨rfl, hb3⟩; have hb3 := below_step hb2.out hb3; clear hv0 hv1 hv2 hv3 hb2; obtain ⟨hv0, hv1, hv2, hv3, hB3, hb3⟩ := HU.out hb3))
 go_region_held3 (fun w' : World => w'.cell? ⟨w.heap.size, 0, none⟩ = some (.int .i64 a0_0) ∧ w'.cell? ⟨w.heap.size, 1, none⟩ = some (.slice A0_1 l0_1.length c0_1) ∧ w'.cell? ⟨w.heap.size + 1, 0, none⟩ = some (.int .i64 a1_0) ∧ w'.cell? ⟨w.heap.size + 1, 1, none⟩ = some (.slice A1_1 l1_1.length c1_1) ∧ Below w.heap.size w w' ∧ Aside0 (Below ((w.alloc (Obj.cells #[.int .i64 a0_0, .slice A0_1 l0_1.length c0_1] 24)).alloc (Obj.cells #[.int .i64 a1_0, .slice A1_1 l1_1.length c1_1] 24)).heap.size ((w.alloc (Obj.cells #[.int .i64 a0_0, .slice A0_1 l0_1.length c0_1] 24)).alloc (Obj.cells #[.int .i64 a1_0, .slice A1_1 l1_1.length c1_1] 24)) w')) (first | exact HT.out _ _ (by assumption) hbP | exact HU.out (below_drew1 hb3.out)) (first
  | (go_at_call 17; with_reducible refine (msg_Put.calls 100 _ A4 c4 E _ _ _ l1_1 G _ (Kd.R_V hRP) (Kd.C_below HR1.out (show (fun w' : World => w'.cell? ⟨w.heap.size, 0, none⟩ = some (.int .i64 a0_0) ∧ w'.cell? ⟨w.heap.size, 1, none⟩ = some (.slice A0_1 l0_1.length c0_1) ∧ w'.cell? ⟨w.heap.size + 1, 0, none⟩ = some (.int .i64 a1_0) ∧ w'.cell? ⟨w.heap.size + 1, 1, none⟩ = some (.slice A1_1 l1_1.length c1_1) ∧ Below w.heap.size w w' ∧ Aside0 (Below ((w.alloc (Obj.cells #[.int .i64 a0_0, .slice A0_1 l0_1.length c0_1] 24)).alloc (Obj.cells #[.int .i64 a1_0, .slice A1_1 l1_1.length c1_1] 24)).heap.size ((w.alloc (Obj.cells #[.int .i64 a0_0, .slice A0_1 l0_1.length c0_1] 24)).alloc (Obj.cells #[.int .i64 a1_0, .slice A1_1 l1_1.length c1_1] 24)) w')) _ by assumption).2.2.2.2.1) HC1.out HPB.out).mono ?_; rintro e w5 ⟨v5, rfl, hRP, hbP⟩; obtain ⟨A5, c5, rfl, hl5, hC5⟩ := Kd.R_reads hRP)
  | (go_at_call 17; refine (msg_Put.calls 100 (fun _ => False) none 0 [] _ _ _ l0_1 E _ (Kd.V_nil _ _ _ _ _) (Kd.C_below HR0.out (show (fun w' : World => w'.cell? ⟨w.heap.size, 0, none⟩ = some (.int .i64 a0_0) ∧ w'.cell? ⟨w.heap.size, 1, none⟩ = some (.slice A0_1 l0_1.length c0_1) ∧ w'.cell? ⟨w.heap.size + 1, 0, none⟩ = some (.int .i64 a1_0) ∧ w'.cell? ⟨w.heap.size + 1, 1, none⟩ = some (.slice A1_1 l1_1.length c1_1) ∧ Below w.heap.size w w' ∧ Aside0 (Below ((w.alloc (Obj.cells #[.int .i64 a0_0, .slice A0_1 l0_1.length c0_1] 24)).alloc (Obj.cells #[.int .i64 a1_0, .slice A1_1 l1_1.length c1_1] 24)).heap.size ((w.alloc (Obj.cells #[.int .i64 a0_0, .slice A0_1 l0_1.length c0_1] 24)).alloc (Obj.cells #[.int .i64 a1_0, .slice A1_1 l1_1.length c1_1] 24)) w')) _ by assumption).2.2.2.2.1) HC0.out HPA.out).mono ?_; rintro e w4 ⟨v4, rfl, hRP, hbP⟩; obtain ⟨A4, c4, rfl, -, -⟩ := Kd.R_reads hRP))
 obtain ⟨hv0, hv1, hv2, hv3, hB5, hb5⟩ := (show (fun w' : World => w'.cell? ⟨w.heap.size, 0, none⟩ = some (.int .i64 a0_0) ∧ w'.cell? ⟨w.heap.size, 1, none⟩ = some (.slice A0_1 l0_1.length c0_1) ∧ w'.cell? ⟨w.heap.size + 1, 0, none⟩ = some (.int .i64 a1_0) ∧ w'.cell? ⟨w.heap.size + 1, 1, none⟩ = some (.slice A1_1 l1_1.length c1_1) ∧ Below w.heap.size w w' ∧ Aside0 (Below ((w.alloc (Obj.cells #[.int .i64 a0_0, .slice A0_1 l0_1.length c0_1] 24)).alloc (Obj.cells #[.int .i64 a1_0, .slice A1_1 l1_1.length c1_1] 24)).heap.size ((w.alloc (Obj.cells #[.int .i64 a0_0, .slice A0_1 l0_1.length c0_1] 24)).alloc (Obj.cells #[.int .i64 a1_0, .slice A1_1 l1_1.length c1_1] 24)) w')) w5 by assumption)
 have hC5 := Aside0.mk hC5
 have hL5 := Aside0.mk hl5
 have q5 : (G.length : Int) ≤ (c5 : Int) := by omega
 have hne : ¬ (c5 = E.length) := by have := hEGlt.out; omega
 clear hRP hbP hl5
 go_wp2_with (first
  | (go_at_call 9; with_reducible refine (msg_Get.calls 100 A5 c5 G _ _ _ _ _ _ w5 hC5.out hL5.out HGA.out).mono ?_; rintro e w6 ⟨v6, v7, rfl, hR6, hR7, hb6⟩; obtain ⟨A6, c6, rfl, hl6, hC6⟩ := Kd.R_reads hR6; obtain ⟨A7, c7, rfl, -, -⟩ := Kd.R_reads hR7; clear hR6 hR7; simp only [List.length_nil]; have hb7 := Aside0.mk (below_step hb5.out hb6); have hC7 := Aside0.mk (Kd.C_below hC5.out hb6); have hC6 := Aside0.mk hC6; have hl6 := Aside0.mk hl6; clear hb6 hv0 hv1 hv2 hv3 hB5)
  | (go_at_call 9; have hg := msg_Get.calls 100 _ _ (G.drop E.length) a1_0 l1_1 z 0 0 [] ((w6.alloc (Obj.cells #[.int .i64 a0_0, .slice A6 l0_1.length c6] 24)).alloc (Obj.cells #[.int .i64 0, .int .i64 0, .slice A7 0 c7] 27)) (Kd.C_drop (c := c5) (Kd.C_alloc (Kd.C_alloc hC7.out _) _) hEN.out hL5.out) (show (G.drop E.length).length ≤ c5 - E.length by rw [List.length_drop]; have := hL5.out; omega) HGB.out; rw [List.length_drop, show (Kd.int .u8).sz = 1 from rfl, Nat.mul_one, if_neg hne] at hg; with_reducible refine hg.mono ?_; clear hg; rintro e w8 ⟨v8, v9, rfl, hR8, hR9, hb8⟩; obtain ⟨A8, c8, rfl, hl8, hC8⟩ := Kd.R_reads hR8; obtain ⟨A9, c9, rfl, -, -⟩ := Kd.R_reads hR9; clear hR8 hR9; simp only [List.length_nil]; have hb9 := below_alloc (below_alloc (below_step (below_alloc (below_alloc hb7.out (Obj.cells #[.int .i64 a0_0, .slice A6 l0_1.length c6] 24)) (Obj.cells #[.int .i64 0, .int .i64 0, .slice A7 0 c7] 27)) hb8) (Obj.cells #[.int .i64 a1_0, .slice A8 l1_1.length c8] 24)) (Obj.cells #[.int .i64 0, .int .i64 0, .slice A9 0 c9] 27); obtain ⟨hv0, hv1, hv2, hv3, hB9, hb9⟩ := HU.out hb9; have hb10 := below_alloc (below_alloc hb8 (Obj.cells #[.int .i64 a1_0, .slice A8 l1_1.length c8] 24)) (Obj.cells #[.int .i64 0, .int .i64 0, .slice A9 0 c9] 27); have hx0 := (new2_cell hb10 0).trans rfl; have hx1 := (new2_cell hb10 1).trans rfl; have hCX := Aside0.mk (Kd.C_below (Kd.C_alloc (Kd.C_alloc hC6.out _) _) hb10); have hCY := Aside0.mk (Kd.C_alloc (Kd.C_alloc hC8 (Obj.cells #[.int .i64 a1_0, .slice A8 l1_1.length c8] 24)) (Obj.cells #[.int .i64 0, .int .i64 0, .slice A9 0 c9] 27)); have hl8 := Aside0.mk hl8; have HZ' := HZ.out; clear hb8 hb10 hC8)
  | (go_at_call 11; with_reducible refine (ridgewayref03_Same.calls _ A6 c6 l0_1 _ A0_1 c0_1 l0_1 true _ hCX.out hl6.out (Kd.C_below HR0.out hB9) HC0.out (Pure.same_self _ _)).mono ?_; rintro e w10 ⟨rfl, hb11⟩; have hCZ := Aside0.mk (Kd.C_below hCY.out hb11); have hB11 := below_step hB9 hb11; have hb12 := below_step hb9.out hb11; have hy0 := (new2_cell hb11 0).trans rfl; have hy1 := (new2_cell hb11 1).trans rfl; clear hb11 hv0 hv1 hv2 hv3 hx0 hx1 hB9 hB11; obtain ⟨hv0, hv1, hv2, hv3, hB11, -⟩ := HU.out hb12; clear hb12)
  | (go_at_call 11; with_reducible refine (ridgewayref03_Same.calls _ A8 c8 l1_1 _ A1_1 c1_1 l1_1 true _ hCZ.out hl8.out (Kd.C_below HR1.out hB11) HC1.out (Pure.same_self _ _)).mono ?_; rintro e w11 ⟨rfl, hb13⟩; have hB13 := below_step hB11 hb13)
  )
 go_ret
 exact ⟨rfl, hB13⟩

/-- THE ONE PURE STATEMENT of ridgewaylaw03_MsgTwo. -/
def ridgewaylaw03_MsgTwo.Pure : Prop := ∀ (x0 : S24) (x1 : S24), (wf24 x0) → (wf24 x1) → ridgewaylaw03_MsgTwo.f (x0.f0) (x0.f1) (x1.f0) (x1.f1) = some true

end Go.Proofs.Ythmlhimmgciakaa.Q
