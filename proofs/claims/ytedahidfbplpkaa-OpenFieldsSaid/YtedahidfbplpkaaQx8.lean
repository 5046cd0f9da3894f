/- Each call of a Go function comes to what the Lean function of its name answers (written out by wip/tools/xprint.py, checked by Lean); conditions: those in each statement. -/
import Derived.Test.YtedahidfbplpkaaQx0
import Derived.Test.YtedahidfbplpkaaQx3
import Derived.Test.YtedahidfbplpkaaQx4
import Derived.Test.YtedahidfbplpkaaQx5
import Derived.Test.YtedahidfbplpkaaXOpenF
import Derived.Test.YtedahidfbplpkaaXRow
import Derived.Test.YtedahidfbplpkaaXLaw
import Derived.Test.YtedahidfbplpkaaXLawB
import Derived.Test.YtedahidfbplpkaaXLawC
import Derived.Test.YtedahidfbplpkaaXLawD
import Derived.Deep.MidRow
namespace Go.Proofs.Ytedahidfbplpkaa.Q
open Go.RowKit Go.Proofs.YtedahidfbplpkaaW.PrintWords Go.Proofs.YtedahidfbplpkaaW.PrintLast Go.Proofs.YtedahidfbplpkaaW.PrintMore Go.Proofs.YtedahidfbplpkaaW.PrintX
attribute [local go_sem] max2_int min2_int max_two min_two max_three min_three max_four min_four   -- for this text's walks alone
set_option linter.unusedVariables false
set_option linter.unusedSimpArgs false

/-! ### ridgewaylaw06_OpenFields: function 7 -/
open Classical in
noncomputable def ridgewaylaw06_OpenFields.f (a h i r v : Int) : Option Bool := if 0 ≤ v ∧ v < 256 then some true else none
set_option maxHeartbeats 8000000 in
set_option maxRecDepth 100000 in
theorem ridgewaylaw06_OpenFields.off (a0_0 a0_1 a0_2 a0_3 a1 : Int) (w : World) (hs : Pure.saneH a0_0 a0_1 a0_2 a0_3 = false) :
  Calls Try.prog 7 #[.agg #[.int .i64 a0_0, .int .i64 a0_1, .int .i64 a0_2, .int .i64 a0_3], .int .u8 a1] w fun e w' => e = .returned (.bool true) ∧ Below w.heap.size w w' := by
 have HU0 : ∀ {w1 : World}, Below (w.alloc (Obj.cells #[.int .i64 a0_0, .int .i64 a0_1, .int .i64 a0_2, .int .i64 a0_3] 23)).heap.size (w.alloc (Obj.cells #[.int .i64 a0_0, .int .i64 a0_1, .int .i64 a0_2, .int .i64 a0_3] 23)) w1 → w1.cell? ⟨w.heap.size, 0, none⟩ = some (.int .i64 a0_0) ∧ w1.cell? ⟨w.heap.size, 1, none⟩ = some (.int .i64 a0_1) ∧ w1.cell? ⟨w.heap.size, 2, none⟩ = some (.int .i64 a0_2) ∧ w1.cell? ⟨w.heap.size, 3, none⟩ = some (.int .i64 a0_3) ∧ Below w.heap.size w w1 := fun hb => by
  have hv := blk_below (heap_alloc_new w _) hb
  exact ⟨(blk_cell hv 0).trans rfl, (blk_cell hv 1).trans rfl, (blk_cell hv 2).trans rfl, (blk_cell hv 3).trans rfl, below_step (below_alloc (Below.refl _ _) _) hb⟩
 have HU := Aside0.mk @HU0
 clear HU0
 have SW : Aside0 (w.heap.size < (w.alloc (Obj.cells #[.int .i64 a0_0, .int .i64 a0_1, .int .i64 a0_2, .int .i64 a0_3] 23)).heap.size) := ⟨by simp only [World.alloc, Array.size_push]; omega⟩
 have hp := Pure.put_eq 8 a0_0 a0_1 a0_2 a0_3 (by omega)
 have hq := Pure.saneH_eq a0_0 a0_1 a0_2 a0_3
 rw [hs] at hp hq
 rw [if_neg (by decide)] at hp
 have HP := Aside0.mk hp
 have HS := Aside0.mk hq
 clear hp hq hs
 go_enter Try.func7, Try.ntmps7
 go_wp2_with (first
  | (go_at_call 8; (with_reducible refine (ridgewaylaw06_awake.calls true _ rfl).mono ?_); rintro e w1 ⟨rfl, hb1⟩; obtain ⟨hv0, hv1, hv2, hv3, hB1⟩ := HU.out hb1; have K1 := Aside0.mk hb1; clear hb1)
  | (go_at_call 15; (with_reducible refine (open_Put.calls 8 a0_0 a0_1 a0_2 a0_3 0 [] _ HP.out).mono ?_); rintro e w2 ⟨v2, rfl, hR2, hb2⟩; obtain ⟨A2, c2, rfl, hl2, hC2⟩ := Kd.R_reads hR2; simp only [List.length_nil]; have HC2 := Aside0.mk hC2; have HL2 := Aside0.mk hl2; have K2 := Aside0.mk (below_step K1.out hb2); clear hR2 hC2 hl2 hb2 hv0 hv1 hv2 hv3 hB1; obtain ⟨hv0, hv1, hv2, hv3, hB2⟩ := HU.out (below_alloc K2.out (Obj.cells #[.int .i64 0, .slice A2 0 c2] 26)))
  | (go_at_call 12; (with_reducible refine (open_Sane.calls a0_0 a0_1 a0_2 a0_3 false (w2.alloc (Obj.cells #[.int .i64 0, .slice A2 0 c2] 26)) HS.out).mono ?_); rintro e w3 ⟨rfl, hb3⟩; have K3 := Aside0.mk (below_step (below_alloc K2.out (Obj.cells #[.int .i64 0, .slice A2 0 c2] 26)) hb3); clear hv0 hv1 hv2 hv3 hB2; obtain ⟨hv0, hv1, hv2, hv3, hB2⟩ := HU.out K3.out; clear hb3)
  | (go_at_call 12; (with_reducible refine (open_Sane.calls a0_0 a0_1 a0_2 a0_3 false w3 HS.out).mono ?_); rintro e w4 ⟨rfl, hb4⟩; have K4 := Aside0.mk (below_step K3.out hb4); clear hv0 hv1 hv2 hv3 hB2; obtain ⟨hv0, hv1, hv2, hv3, hB2⟩ := HU.out K4.out; clear hb4))
 go_ret
 exact ⟨rfl, hB2⟩
set_option maxHeartbeats 8000000 in
set_option maxRecDepth 100000 in
theorem ridgewaylaw06_OpenFields.on (a0_0 a0_1 a0_2 a0_3 a1 : Int) (w : World) (hs : Pure.saneH a0_0 a0_1 a0_2 a0_3 = true) (h0 : 0 ≤ a1) (h1 : a1 < 256) :
  Calls Try.prog 7 #[.agg #[.int .i64 a0_0, .int .i64 a0_1, .int .i64 a0_2, .int .i64 a0_3], .int .u8 a1] w fun e w' => e = .returned (.bool true) ∧ Below w.heap.size w w' := by
 have HU0 : ∀ {w1 : World}, Below (w.alloc (Obj.cells #[.int .i64 a0_0, .int .i64 a0_1, .int .i64 a0_2, .int .i64 a0_3] 23)).heap.size (w.alloc (Obj.cells #[.int .i64 a0_0, .int .i64 a0_1, .int .i64 a0_2, .int .i64 a0_3] 23)) w1 → w1.cell? ⟨w.heap.size, 0, none⟩ = some (.int .i64 a0_0) ∧ w1.cell? ⟨w.heap.size, 1, none⟩ = some (.int .i64 a0_1) ∧ w1.cell? ⟨w.heap.size, 2, none⟩ = some (.int .i64 a0_2) ∧ w1.cell? ⟨w.heap.size, 3, none⟩ = some (.int .i64 a0_3) ∧ Below w.heap.size w w1 := fun hb => by
  have hv := blk_below (heap_alloc_new w _) hb
  exact ⟨(blk_cell hv 0).trans rfl, (blk_cell hv 1).trans rfl, (blk_cell hv 2).trans rfl, (blk_cell hv 3).trans rfl, below_step (below_alloc (Below.refl _ _) _) hb⟩
 have HU := Aside0.mk @HU0
 clear HU0
 have SW : Aside0 (w.heap.size < (w.alloc (Obj.cells #[.int .i64 a0_0, .int .i64 a0_1, .int .i64 a0_2, .int .i64 a0_3] 23)).heap.size) := ⟨by simp only [World.alloc, Array.size_push]; omega⟩
 have hp := Pure.put_eq 8 a0_0 a0_1 a0_2 a0_3 (by omega)
 have hq := Pure.saneH_eq a0_0 a0_1 a0_2 a0_3
 rw [hs] at hp hq
 rw [if_pos rfl] at hp
 obtain ⟨B, hB⟩ : ∃ B, B = Pure.bodyH a0_0 a0_1 a0_2 a0_3 := ⟨_, rfl⟩
 obtain ⟨ho, hl⟩ := Pure.body_ok a0_0 a0_1 a0_2 a0_3 hs
 have hbl := Pure.body_len a0_0 a0_1 a0_2 a0_3
 obtain ⟨ev, hev, hev2⟩ : ∃ ev : Int, (1 + Go.bits .and .u8 a1 1) % 256 = ev ∧ (ev = 1 ∨ ev = 2) := by
  have h2 : Go.bits .and .u8 a1 1 = a1 % 2 := and8 a1 h0 h1
  refine ⟨_, rfl, ?_⟩
  rw [h2]
  omega
 obtain ⟨x1, x2, x3, x4, x5, x6, x7, HGX⟩ : ∃ x1 x2 x3 x4 x5 x6 x7, Aside0 (open_Get.f 1 (B.set 0 a1) a0_0 = some (x1, x2, x3, x4, x5, x6, x7) ∧ (a1 = 4 ∨ (a1 == 4) = false ∧ x5 = 2 ∧ x6 = 1 ∧ x7 = [0, 4])) := by
  by_cases hv : a1 = 4
  ·
   have e : B.set 0 a1 = B := by rw [hB, hv]; rfl
   rw [e, hB, Pure.get_put _ _ _ _ _ hs, if_pos rfl]
   exact ⟨_, _, _, _, _, _, _, ⟨rfl, .inl hv⟩⟩
  ·
   rw [hB, Pure.get_x _ _ _ _ a1 _ hs h0 h1 hv]
   exact ⟨_, _, _, _, _, _, _, ⟨rfl, .inr ⟨by simp [hv], rfl, rfl, rfl⟩⟩⟩
 have HGY := Aside0.mk (show open_Get.f 1 ((B.set 3 0).set 4 ev) a0_0 = some (0, 0, 0, 0, 2, 6, []) by rw [hB]; exact Pure.get_y _ _ _ _ ev hs hev2)
 have HGZ := Aside0.mk (show open_Get.f 1 ((((B.set 5 0).set 6 0).set 7 0).set 8 0) a0_0 = some (0, 0, 0, 0, 2, 3, []) by rw [hB]; exact Pure.get_z _ _ _ _ hs)
 rw [← hB] at hp hbl
 have HBL := Aside0.mk (show 10 ≤ B.length ∧ B.length ≤ 23 by omega)
 have q1 : (10 : Int) ≤ (B.length : Int) := by omega
 have HP := Aside0.mk hp
 have HS := Aside0.mk hq
 clear hp hq hs hB ho hl hbl hev2
 go_enter Try.func7, Try.ntmps7
 go_wp2_with (first
  | (go_at_call 8; (with_reducible refine (ridgewaylaw06_awake.calls true _ rfl).mono ?_); rintro e w1 ⟨rfl, hb1⟩; obtain ⟨hv0, hv1, hv2, hv3, hB1⟩ := HU.out hb1; have K1 := Aside0.mk hb1; clear hb1)
  | (go_at_call 15; (with_reducible refine (open_Put.calls 8 a0_0 a0_1 a0_2 a0_3 1 B _ HP.out).mono ?_); rintro e w2 ⟨v2, rfl, hR2, hb2⟩; obtain ⟨A2, c2, rfl, hl2, hC2⟩ := Kd.R_reads hR2; have HC2 := Aside0.mk hC2; have HL2 := Aside0.mk hl2; have K2 := Aside0.mk (below_step K1.out hb2); clear hR2 hC2 hl2 hb2 hv0 hv1 hv2 hv3 hB1; obtain ⟨hv0, hv1, hv2, hv3, hB2⟩ := HU.out (below_alloc K2.out (Obj.cells #[.int .i64 1, .slice A2 B.length c2] 26)))
  | (go_at_call 12; (with_reducible refine (open_Sane.calls a0_0 a0_1 a0_2 a0_3 true (w2.alloc (Obj.cells #[.int .i64 1, .slice A2 B.length c2] 26)) HS.out).mono ?_); rintro e w3 ⟨rfl, hb3⟩; have K3 := Aside0.mk (below_step (below_alloc K2.out (Obj.cells #[.int .i64 1, .slice A2 B.length c2] 26)) hb3); clear hv0 hv1 hv2 hv3 hB2; have J3 := Aside0.mk hb3; have HM : Aside0 (∀ W : World, Below (w2.alloc (Obj.cells #[.int .i64 1, .slice A2 B.length c2] 26)).heap.size (w2.alloc (Obj.cells #[.int .i64 1, .slice A2 B.length c2] 26)) W → W.cell? ⟨w2.heap.size, 0, none⟩ = some (.int .i64 1) ∧ W.cell? ⟨w2.heap.size, 1, none⟩ = some (.slice A2 B.length c2)) := ⟨fun W hb => ⟨(new1_cell hb 0).trans rfl, (new1_cell hb 1).trans rfl⟩⟩; obtain ⟨m0, m1⟩ := HM.out _ hb3; obtain ⟨-, m2⟩ := HM.out _ (below_alloc hb3 (Obj.cells #[] 5)); obtain ⟨hv0, hv1, hv2, hv3, hB2⟩ := HU.out K3.out; clear hb3)
  | ((with_reducible refine gate_builtin (b := .append) (xs := #[.tmp 34, .tmp 36]) rfl ?_); at_builtin; refine Kd.R_append_rows (Kd.int .u8) (w0 := w3) w3.heap.size rfl (.tmp 34) (.tmp 36) 24 5 (.int .u8 0) 1 rfl Try.underlying24 info5 rfl (by decide) (by omega) _ [] B _ _ _ (fun _ => True) (fun _ => False) rfl rfl ?aO ?aR (fun _ _ h => h) (fun _ h => h.elim) (fun _ _ => trivial) (below_alloc (Below.refl _ _) _) (below_alloc (Below.refl _ _) _).size ?aL ?_; (case aO => exact R_lit8 w3 _ 5 (Nat.le_refl _) [] (by simp)); (case aL => have := HBL.out; simp; omega); (case aR => exact Kd.C_alloc (Kd.C_below (Kd.C_alloc HC2.out _) J3.out) _); intro v4 w4 ho hb4 hg hat; clear hg hat; rw [List.nil_append] at ho; obtain ⟨gx, cx, rfl, kx1, kx2, -⟩ := Kd.R_form ho (by have := HBL.out; omega); have HX := Aside0.mk (R_at8 ho); have KX := Aside0.mk (show w3.heap.size ≤ gx ∧ gx < w4.heap.size from ⟨kx1, kx2⟩); have J4 := Aside0.mk (below_step J3.out hb4); clear ho kx1 kx2 m0 m1 m2 hb4; obtain ⟨m0, m1⟩ := HM.out _ J4.out; obtain ⟨-, m2⟩ := HM.out _ (below_alloc J4.out (Obj.cells #[] 5)))
  | ((with_reducible refine gate_builtin (b := .append) (xs := #[.tmp 38, .tmp 40]) rfl ?_); at_builtin; refine Kd.R_append_rows (Kd.int .u8) (w0 := w4) w4.heap.size rfl (.tmp 38) (.tmp 40) 24 5 (.int .u8 0) 1 rfl Try.underlying24 info5 rfl (by decide) (by omega) _ [] B _ _ _ (fun _ => True) (fun _ => False) rfl rfl ?aO ?aR (fun _ _ h => h) (fun _ h => h.elim) (fun _ _ => trivial) (below_alloc (Below.refl _ _) _) (below_alloc (Below.refl _ _) _).size ?aL ?_; (case aO => exact R_lit8 w4 _ 5 (Nat.le_refl _) [] (by simp)); (case aL => have := HBL.out; simp; omega); (case aR => exact Kd.C_alloc (Kd.C_below (Kd.C_alloc HC2.out _) J4.out) _); intro v5 w5 ho hb5 hg hat; clear hg hat; rw [List.nil_append] at ho; obtain ⟨gy, cy, rfl, ky1, ky2, -⟩ := Kd.R_form ho (by have := HBL.out; omega); have HY := Aside0.mk (R_at8 ho); have KY := Aside0.mk (show w4.heap.size ≤ gy ∧ gy < w5.heap.size from ⟨ky1, ky2⟩); have HX5 := Aside0.mk (Kd.R_below HX.out hb5); have J5 := Aside0.mk (below_step J4.out hb5); clear ho ky1 ky2 m0 m1 m2 hb5; obtain ⟨m0, m1⟩ := HM.out _ J5.out; obtain ⟨-, m2⟩ := HM.out _ (below_alloc J5.out (Obj.cells #[] 5)))
  | ((with_reducible refine gate_builtin (b := .append) (xs := #[.tmp 42, .tmp 44]) rfl ?_); at_builtin; refine Kd.R_append_rows (Kd.int .u8) (w0 := w5) w5.heap.size rfl (.tmp 42) (.tmp 44) 24 5 (.int .u8 0) 1 rfl Try.underlying24 info5 rfl (by decide) (by omega) _ [] B _ _ _ (fun _ => True) (fun _ => False) rfl rfl ?aO ?aR (fun _ _ h => h) (fun _ h => h.elim) (fun _ _ => trivial) (below_alloc (Below.refl _ _) _) (below_alloc (Below.refl _ _) _).size ?aL ?_; (case aO => exact R_lit8 w5 _ 5 (Nat.le_refl _) [] (by simp)); (case aL => have := HBL.out; simp; omega); (case aR => exact Kd.C_alloc (Kd.C_below (Kd.C_alloc HC2.out _) J5.out) _); intro v6 w6 ho hb6 hg hat; clear hg hat; rw [List.nil_append] at ho; obtain ⟨gz, cz, rfl, kz1, kz2, -⟩ := Kd.R_form ho (by have := HBL.out; omega); have HZ := Aside0.mk (R_at8 ho); have HX6 := Aside0.mk (Kd.R_below HX5.out hb6); have HY6 := Aside0.mk (Kd.R_below HY.out hb6); have J6 := Aside0.mk (below_step J5.out hb6); have KD : Aside0 ((w.alloc (Obj.cells #[.int .i64 a0_0, .int .i64 a0_1, .int .i64 a0_2, .int .i64 a0_3] 23)).heap.size ≤ gx ∧ gx < gy ∧ gy < gz) := ⟨by have := KX.out; have := KY.out; have := (below_step (below_alloc K2.out (Obj.cells #[.int .i64 1, .slice A2 B.length c2] 26)) J3.out).size; omega⟩; clear ho kz1 kz2 m0 m1 m2 hb6 hv0 hv1 hv2 hv3 hB2; obtain ⟨hv0, hv1, hv2, hv3, hB2⟩ := HU.out (below_step (below_alloc K2.out (Obj.cells #[.int .i64 1, .slice A2 B.length c2] 26)) J6.out); obtain ⟨ca0, ca1, -⟩ := R_cell8 HX6.out (j := 0) (by have := HBL.out; omega); obtain ⟨cb0, cb1, -⟩ := R_cell8 HY6.out (j := 3) (by have := HBL.out; omega); obtain ⟨cc0, cc1, -⟩ := R_cell8 HY6.out (j := 4) (by have := HBL.out; omega); obtain ⟨cd0, cd1, -⟩ := R_cell8 HZ.out (j := 5) (by have := HBL.out; omega); obtain ⟨ce0, ce1, -⟩ := R_cell8 HZ.out (j := 6) (by have := HBL.out; omega); obtain ⟨cf0, cf1, -⟩ := R_cell8 HZ.out (j := 7) (by have := HBL.out; omega); obtain ⟨cg0, cg1, -⟩ := R_cell8 HZ.out (j := 8) (by have := HBL.out; omega); have n1 : ¬ (gx = gy) := (by have := KD.out; omega); have n2 : ¬ (gx = gz) := (by have := KD.out; omega); have n3 : ¬ (gy = gz) := (by have := KD.out; omega); have n4 : ¬ (gy = gx) := (by have := KD.out; omega); have n5 : ¬ (gz = gx) := (by have := KD.out; omega); have n6 : ¬ (gz = gy) := (by have := KD.out; omega); have n7 : ¬ (gx = w.heap.size) := (by have := KD.out; have := SW.out; omega); have n8 : ¬ (gy = w.heap.size) := (by have := KD.out; have := SW.out; omega); have n9 : ¬ (gz = w.heap.size) := (by have := KD.out; have := SW.out; omega); have RX := Aside0.mk (R_off8 (j := 8) (R_off8 (j := 7) (R_off8 (j := 6) (R_off8 (j := 5) (R_off8 (j := 4) (R_off8 (j := 3) (R_set8 (j := 0) HX6.out (by  have := HBL.out; omega) a1) n1 (.int .u8 0)) n1 (.int .u8 ev)) n2 (.int .u8 0)) n2 (.int .u8 0)) n2 (.int .u8 0)) n2 (.int .u8 0)); have RY := Aside0.mk (R_off8 (j := 8) (R_off8 (j := 7) (R_off8 (j := 6) (R_off8 (j := 5) (R_set8 (j := 4) (R_set8 (j := 3) (R_off8 (j := 0) HY6.out n4 (.int .u8 a1)) (by  have := HBL.out; omega) 0) (by simp only [List.length_set]; have := HBL.out; omega) ev) n3 (.int .u8 0)) n3 (.int .u8 0)) n3 (.int .u8 0)) n3 (.int .u8 0)); have RZ := Aside0.mk (R_set8 (j := 8) (R_set8 (j := 7) (R_set8 (j := 6) (R_set8 (j := 5) (R_off8 (j := 4) (R_off8 (j := 3) (R_off8 (j := 0) HZ.out n5 (.int .u8 a1)) n6 (.int .u8 0)) n6 (.int .u8 ev)) (by  have := HBL.out; omega) 0) (by simp only [List.length_set]; have := HBL.out; omega) 0) (by simp only [List.length_set]; have := HBL.out; omega) 0) (by simp only [List.length_set]; have := HBL.out; omega) 0); have J7 := Aside0.mk (show Below (w.alloc (Obj.cells #[.int .i64 a0_0, .int .i64 a0_1, .int .i64 a0_2, .int .i64 a0_3] 23)).heap.size (w.alloc (Obj.cells #[.int .i64 a0_0, .int .i64 a0_1, .int .i64 a0_2, .int .i64 a0_3] 23)) _ from (set_below (g := gz) (j := 8) (.int .u8 0) (set_below (g := gz) (j := 7) (.int .u8 0) (set_below (g := gz) (j := 6) (.int .u8 0) (set_below (g := gz) (j := 5) (.int .u8 0) (set_below (g := gy) (j := 4) (.int .u8 ev) (set_below (g := gy) (j := 3) (.int .u8 0) (set_below (g := gx) (j := 0) (.int .u8 a1) (below_step (below_alloc K2.out (Obj.cells #[.int .i64 1, .slice A2 B.length c2] 26)) J6.out) (by have := KD.out; omega)) (by have := KD.out; omega)) (by have := KD.out; omega)) (by have := KD.out; omega)) (by have := KD.out; omega)) (by have := KD.out; omega)) (by have := KD.out; omega))); clear hv0 hv1 hv2 hv3 hB2; obtain ⟨hv0, hv1, hv2, hv3, hB2⟩ := HU.out J7.out)
  | (go_at_call 9; have hg := open_Get.calls 1 _ _ (B.set 0 a1) a0_0 x1 x2 x3 x4 x5 x6 x7 _ (Kd.R_reads' RX.out).2.2 (by simp only [List.length_set]; exact (Kd.R_reads' RX.out).2.1) HGX.out.1; simp only [List.length_set] at hg; (with_reducible refine hg.mono ?_); clear hg; rintro e w8 ⟨v8, rfl, hV8, hb8⟩; obtain ⟨A8, c8, rfl⟩ := Kd.V_slice hV8; have RY8 := Aside0.mk (Kd.R_alloc (Kd.R_alloc (Kd.R_below RY.out hb8) (Obj.cells #[.int .i64 x1, .int .i64 x2, .int .i64 x3, .int .i64 x4] 23)) (Obj.cells #[.int .i64 x5, .int .i64 x6, .slice A8 x7.length c8] 29)); have RZ8 := Aside0.mk (Kd.R_alloc (Kd.R_alloc (Kd.R_below RZ.out hb8) (Obj.cells #[.int .i64 x1, .int .i64 x2, .int .i64 x3, .int .i64 x4] 23)) (Obj.cells #[.int .i64 x5, .int .i64 x6, .slice A8 x7.length c8] 29)); have HC8 := Aside0.mk (Kd.V_reads' hV8).2.2; have J8 := Aside0.mk (below_alloc (below_alloc (below_step J7.out hb8) (Obj.cells #[.int .i64 x1, .int .i64 x2, .int .i64 x3, .int .i64 x4] 23)) (Obj.cells #[.int .i64 x5, .int .i64 x6, .slice A8 x7.length c8] 29)); clear hV8 hb8 ca0 ca1 cb0 cb1 cc0 cc1 cd0 cd1 ce0 ce1 cf0 cf1 cg0 cg1; clear hv0 hv1 hv2 hv3 hB2; obtain ⟨hv0, hv1, hv2, hv3, hB2⟩ := HU.out J8.out)
  | (go_at_call 9; have hg := open_Get.calls 1 _ _ ((B.set 3 0).set 4 ev) a0_0 0 0 0 0 2 6 [] _ (Kd.R_reads' RY8.out).2.2 (by simp only [List.length_set]; exact (Kd.R_reads' RY8.out).2.1) HGY.out; simp only [List.length_set] at hg; (with_reducible refine hg.mono ?_); clear hg; rintro e w9 ⟨v9, rfl, hV9, hb9⟩; obtain ⟨A9, c9, rfl⟩ := Kd.V_slice hV9; simp only [List.length_nil]; have RZ9 := Aside0.mk (Kd.R_alloc (Kd.R_alloc (Kd.R_below RZ8.out hb9) (Obj.cells #[.int .i64 0, .int .i64 0, .int .i64 0, .int .i64 0] 23)) (Obj.cells #[.int .i64 2, .int .i64 6, .slice A9 0 c9] 29)); have J9 := Aside0.mk (below_alloc (below_alloc (below_step J8.out hb9) (Obj.cells #[.int .i64 0, .int .i64 0, .int .i64 0, .int .i64 0] 23)) (Obj.cells #[.int .i64 2, .int .i64 6, .slice A9 0 c9] 29)); have L9 := Aside0.mk (below_alloc (below_alloc hb9 (Obj.cells #[.int .i64 0, .int .i64 0, .int .i64 0, .int .i64 0] 23)) (Obj.cells #[.int .i64 2, .int .i64 6, .slice A9 0 c9] 29)); clear hV9 hb9; clear hv0 hv1 hv2 hv3 hB2; obtain ⟨hv0, hv1, hv2, hv3, hB2⟩ := HU.out J9.out)
  )
 go_at_call 9; have hg := open_Get.calls 1 _ _ ((((B.set 5 0).set 6 0).set 7 0).set 8 0) a0_0 0 0 0 0 2 3 [] _ (Kd.R_reads' RZ9.out).2.2 (by simp only [List.length_set]; exact (Kd.R_reads' RZ9.out).2.1) HGZ.out; simp only [List.length_set] at hg; (with_reducible refine hg.mono ?_); clear hg; rintro e w10 ⟨v10, rfl, hV10, hb10⟩; obtain ⟨A10, c10, rfl⟩ := Kd.V_slice hV10; simp only [List.length_nil]; have J10 := Aside0.mk (below_alloc (below_alloc (below_step J9.out hb10) (Obj.cells #[.int .i64 0, .int .i64 0, .int .i64 0, .int .i64 0] 23)) (Obj.cells #[.int .i64 2, .int .i64 3, .slice A10 0 c10] 29)); have L10 := Aside0.mk (below_alloc (below_alloc hb10 (Obj.cells #[.int .i64 0, .int .i64 0, .int .i64 0, .int .i64 0] 23)) (Obj.cells #[.int .i64 2, .int .i64 3, .slice A10 0 c10] 29)); have L9b := Aside0.mk (below_step L9.out L10.out); have e0 := (new2b_cell L9b.out 0).trans rfl; have e1 := (new2b_cell L9b.out 1).trans rfl; have e2 := (new2b_cell L9b.out 2).trans rfl; have f0 := (new2b_cell L10.out 0).trans rfl; have f1 := (new2b_cell L10.out 1).trans rfl; clear hV10 hb10; clear hv0 hv1 hv2 hv3 hB2; obtain ⟨hv0, hv1, hv2, hv3, hB2⟩ := HU.out J10.out
 have HC10 := Aside0.mk (Kd.C_below (Kd.C_alloc (Kd.C_alloc HC8.out (Obj.cells #[.int .i64 x1, .int .i64 x2, .int .i64 x3, .int .i64 x4] 23)) (Obj.cells #[.int .i64 x5, .int .i64 x6, .slice A8 x7.length c8] 29)) L9b.out)
 clear HX6 HY6 HZ RX RY RZ
 rcases HGX.out.2 with rfl | ⟨hx, rfl, rfl, rfl⟩
 ·
  go_wp2
  go_ret
  exact ⟨rfl, hB2⟩
 ·
  have hcA := Kd.C_string (P := Try.prog) (c := c8) Try.underlying24 Try.underlying5 Try.underlying9 HC10.out
  have hcB := own_string (P := Try.prog) Try.underlying24 Try.underlying5 Try.underlying9 (Kd.own_of_R (R_lit8 ((w10.alloc (Obj.cells #[.int .i64 0, .int .i64 0, .int .i64 0, .int .i64 0] 23)).alloc (Obj.cells #[.int .i64 2, .int .i64 3, .slice A10 0 c10] 29)) _ 5 (Nat.le_refl _) [0, 4] (by simp)))
  have g0 := (new2b_cell (below_alloc L10.out (Obj.cells #[.int .u8 0, .int .u8 4] 5)) 0).trans rfl
  have g1 := (new2b_cell (below_alloc L10.out (Obj.cells #[.int .u8 0, .int .u8 4] 5)) 1).trans rfl
  simp only [List.length_cons, List.length_nil, Nat.reduceAdd, List.map_cons, List.map_nil] at hcA hcB e2
  rw [show ((w10.alloc (Obj.cells #[.int .i64 0, .int .i64 0, .int .i64 0, .int .i64 0] 23)).alloc (Obj.cells #[.int .i64 2, .int .i64 3, .slice A10 0 c10] 29)).heap.size = w10.heap.size + 1 + 1 by simp only [World.alloc, Array.size_push]] at hcB
  go_wp2
  go_ret
  exact ⟨rfl, below_alloc hB2 _⟩
theorem ridgewaylaw06_OpenFields.calls (a0_0 a0_1 a0_2 a0_3 a1 : Int) (w : World) (h : ridgewaylaw06_OpenFields.f a0_0 a0_1 a0_2 a0_3 a1 = some true) :
  Calls Try.prog 7 #[.agg #[.int .i64 a0_0, .int .i64 a0_1, .int .i64 a0_2, .int .i64 a0_3], .int .u8 a1] w fun e w' => e = .returned (.bool true) ∧ Below w.heap.size w w' := by
 unfold ridgewaylaw06_OpenFields.f at h
 split at h
 case isFalse => cases h
 rename_i ho
 cases hs : Pure.saneH a0_0 a0_1 a0_2 a0_3
 ·
  exact ridgewaylaw06_OpenFields.off a0_0 a0_1 a0_2 a0_3 a1 w hs
 ·
  exact ridgewaylaw06_OpenFields.on a0_0 a0_1 a0_2 a0_3 a1 w hs ho.1 ho.2

/-- THE ONE PURE STATEMENT of ridgewaylaw06_OpenFields. -/
def ridgewaylaw06_OpenFields.Pure : Prop := ∀ (x0 : S23) (a1 : Int), (wf23 x0) → ((Lit.int .u8 a1).wf = true) → ridgewaylaw06_OpenFields.f (x0.f0) (x0.f1) (x0.f2) (x0.f3) a1 = some true

end Go.Proofs.Ytedahidfbplpkaa.Q
