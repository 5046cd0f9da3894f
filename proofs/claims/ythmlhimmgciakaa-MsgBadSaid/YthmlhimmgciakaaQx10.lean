/- Each call of a Go function comes to what the Lean function of its name answers (written out by wip/tools/xprint.py, checked by Lean); conditions: those in each statement. -/
import Derived.Test.YthmlhimmgciakaaQx0
import Derived.Test.YthmlhimmgciakaaQx2
import Derived.Test.YthmlhimmgciakaaQx3
import Derived.Test.YthmlhimmgciakaaQx4
import Derived.Test.YthmlhimmgciakaaXMsgBadP
import Derived.Test.YthmlhimmgciakaaXRow
import Derived.Test.YthmlhimmgciakaaXLaw
import Derived.Test.YthmlhimmgciakaaXLawB
import Derived.Test.YthmlhimmgciakaaXLawC
import Derived.Deep.MidRow
namespace Go.Proofs.Ythmlhimmgciakaa.Q
open Go.RowKit Go.Proofs.YthmlhimmgciakaaW.PrintWords Go.Proofs.YthmlhimmgciakaaW.PrintLast Go.Proofs.YthmlhimmgciakaaW.PrintMore Go.Proofs.YthmlhimmgciakaaW.PrintX
attribute [local go_sem] max2_int min2_int max_two min_two max_three min_three max_four min_four   -- for this text's walks alone
set_option linter.unusedVariables false
set_option linter.unusedSimpArgs false

/-! ### ridgewaylaw03_MsgBad: function 6 -/
open Classical in
noncomputable def ridgewaylaw03_MsgBad.f (t : Int) (b : List Int) (i c n : Int) : Option Bool := if Octs b ∧ 0 ≤ c ∧ c < 256 then some true else none
set_option maxHeartbeats 8000000 in
set_option maxRecDepth 100000 in
theorem ridgewaylaw03_MsgBad.calls (a0_0 : Int) (A0_1 : Option Addr) (c0_1 : Nat) (l0_1 : List Int) (a1 a2 a3 : Int) (w : World) (hr0 : Kd.C (Kd.int .u8) w A0_1 l0_1.length l0_1) (hc0 : l0_1.length ≤ c0_1) (h : ridgewaylaw03_MsgBad.f a0_0 l0_1 a1 a2 a3 = some true) :
  Calls Try.prog 6 #[.agg #[.int .i64 a0_0, .slice A0_1 l0_1.length c0_1], .int .i64 a1, .int .u8 a2, .int .i64 a3] w fun e w' => e = .returned (.bool true) ∧ Below w.heap.size w w' := by
 unfold ridgewaylaw03_MsgBad.f at h
 split at h
 case isFalse => cases h
 rename_i ho
 clear h
 have HR0 := Aside0.mk hr0
 have HC0 := Aside0.mk hc0
 have HO := Aside0.mk ho
 clear hr0 hc0 ho
 have HU0 : ∀ {w1 : World}, Below (w.alloc (Obj.cells #[.int .i64 a0_0, .slice A0_1 l0_1.length c0_1] 24)).heap.size (w.alloc (Obj.cells #[.int .i64 a0_0, .slice A0_1 l0_1.length c0_1] 24)) w1 → w1.cell? ⟨w.heap.size, 0, none⟩ = some (.int .i64 a0_0) ∧ w1.cell? ⟨w.heap.size, 1, none⟩ = some (.slice A0_1 l0_1.length c0_1) ∧ Below w.heap.size w w1 := fun hb => by
  have hv := blk_below (heap_alloc_new w _) hb
  exact ⟨(blk_cell hv 0).trans rfl, (blk_cell hv 1).trans rfl, below_step (below_alloc (Below.refl _ _) _) hb⟩
 have HU := Aside0.mk @HU0
 clear HU0
 by_cases g1 : (l0_1.length : Int) > 5000
 ·
  have d1 : decide ((l0_1.length : Int) > 5000) = true := decide_eq_true g1
  go_enter Try.func6, Try.ntmps6
  go_wp2_with (first | (go_at_call 8; refine (ridgewaylaw03_awake.calls true _ rfl).mono ?_; rintro e w1 ⟨rfl, hb1⟩; obtain ⟨hv0, hv1, hB1⟩ := HU.out hb1; have hb := Aside0.mk hb1; clear hb1))
  go_ret
  exact ⟨rfl, hB1⟩
 have d1 : decide ((l0_1.length : Int) > 5000) = false := decide_eq_false g1
 have hs := Pure.sane_eq a0_0 l0_1 (by omega)
 cases g3 : Pure.saneV a0_0 l0_1
 ·
  rw [g3] at hs
  have HS := Aside0.mk hs
  clear hs g3
  go_enter Try.func6, Try.ntmps6
  go_wp2_with (first
   | (go_at_call 8; refine (ridgewaylaw03_awake.calls true _ rfl).mono ?_; rintro e w1 ⟨rfl, hb1⟩; obtain ⟨hv0, hv1, hB1⟩ := HU.out hb1; have hb := Aside0.mk hb1; clear hb1)
   | (go_at_call 15; with_reducible refine (msg_Sane.calls _ _ _ _ _ _ (Kd.C_below HR0.out hB1) HC0.out HS.out).mono ?_; rintro e w2 ⟨rfl, hb2⟩; have hb3 := Aside0.mk (below_step hb.out hb2); clear hv0 hv1 hB1 hb2; obtain ⟨hv0, hv1, hB2⟩ := HU.out hb3.out; obtain ⟨hv2, hv3, -⟩ := HU.out (below_alloc hb3.out (Obj.cells #[] 5))))
  go_ret
  exact ⟨rfl, hB2⟩
 rw [g3] at hs
 have HS := Aside0.mk hs
 obtain ⟨E, hE⟩ : ∃ E, E = Pure.encM a0_0 l0_1 := ⟨_, rfl⟩
 have HP := Aside0.mk (show msg_Put.f 100 [] a0_0 l0_1 = some E by
  rw [Pure.msg_put 100 [] a0_0 l0_1 (by omega) (by simp) (by omega)]
  unfold Pure.putV
  rw [if_pos g3, List.nil_append, hE])
 have hEl : E.length = 19 + l0_1.length := by rw [hE]; exact Pure.encM_length _ _
 have HEL := Aside0.mk (show 19 ≤ E.length ∧ E.length ≤ 6000 by omega)
 have oE : Octs E := by rw [hE]; exact Pure.encM_octs _ _ HO.out.1
 obtain ⟨j, hj, hj16⟩ : ∃ j : Nat, Go.bits .and .i64 a1 15 = (j : Int) ∧ j < 16 := by
  have h0 : Go.bits .and .i64 a1 15 = a1 % 16 := and_mask a1 4 (by decide)
  have h1 := Int.emod_nonneg a1 (show (16 : Int) ≠ 0 by decide)
  have h2 := Int.emod_lt_of_pos a1 (show (0 : Int) < 16 by decide)
  exact ⟨(a1 % 16).toNat, by rw [h0]; omega, by omega⟩
 have HJ := Aside0.mk (show j < E.length by omega)
 have q1 : (j : Int) < (E.length : Int) := by omega
 have q2 : (19 : Int) ≤ (E.length : Int) := by omega
 obtain ⟨s, hs0, hs1, hs2⟩ : ∃ s : Int, Go.bits .and .i64 a3 65535 = s ∧ 0 ≤ s ∧ s < 65536 := by
  have h0 : Go.bits .and .i64 a3 65535 = a3 % 65536 := and_mask a3 16 (by decide)
  have h1 := Int.emod_nonneg a3 (show (65536 : Int) ≠ 0 by decide)
  have h2 := Int.emod_lt_of_pos a3 (show (0 : Int) < 65536 by decide)
  exact ⟨a3 % 65536, h0, h1, h2⟩
 obtain ⟨v, hv, hv0, hv1, hv2⟩ : ∃ v : Int, Go.bits .or .u8 (Go.bits .and .i64 (a3 / 65536) 255 % 256) 4 = v ∧ 0 ≤ v ∧ v < 256 ∧ (v = 4 ∨ Pure.leastV v = 0) :=
  ⟨_, rfl, Pure.or4 _ (Int.emod_nonneg _ (by decide)) (Int.emod_lt_of_pos _ (by decide))⟩
 obtain ⟨x1, x2, x3, x4, x5, x6, HGX⟩ : ∃ x1 x2 x3 x4 x5 x6, Aside0 (msg_Get.f 100 (E.set j a2) = some (x1, x2, x3, x4, x5, x6) ∧ (a2 = 255 ∨ (a2 == 255) = false ∧ x4 = 1 ∧ x5 = 1)) := by
  have hg := Pure.msg_get 100 (E.set j a2) (Pure.Octs.setP oE j HO.out.2.1 HO.out.2.2) (by rw [List.length_set]; have := HEL.out; omega) (by omega)
  by_cases hc : a2 = 255
  ·
   rcases hgv : Pure.getV (E.set j a2) with ⟨x1, x2, x3, x4, x5, x6⟩
   rw [hgv] at hg
   exact ⟨x1, x2, x3, x4, x5, x6, ⟨hg, .inl hc⟩⟩
  ·
   rw [hE, Pure.bad_mark _ _ j a2 hj16 hc] at hg
   exact ⟨_, _, _, _, _, _, ⟨by rw [hE]; exact hg, .inr ⟨by simp [hc], rfl, rfl⟩⟩⟩
 obtain ⟨y1, y2, y3, y4, y5, y6, HGY⟩ : ∃ y1 y2 y3 y4 y5 y6, Aside0 (msg_Get.f 100 ((E.set 16 (s / 256)).set 17 (s % 256)) = some (y1, y2, y3, y4, y5, y6) ∧ (19 ≤ s ∧ s ≤ 4096 ∨ s < 19 ∧ y4 = 1 ∧ y5 = 2 ∨ s > 4096 ∧ y4 = 1 ∧ y5 = 2)) := by
  have hg := Pure.msg_get 100 ((E.set 16 (s / 256)).set 17 (s % 256)) (Pure.Octs.setP (Pure.Octs.setP oE 16 (by omega) (by omega)) 17 (by omega) (by omega)) (by rw [List.length_set, List.length_set]; have := HEL.out; omega) (by omega)
  by_cases hc : s < 19 ∨ s > 4096
  ·
   rw [hE, Pure.bad_size _ _ s g3 hc] at hg
   refine ⟨_, _, _, _, _, _, ⟨by rw [hE]; exact hg, ?_⟩⟩
   rcases hc with hc | hc
   ·
    exact .inr (.inl ⟨hc, rfl, rfl⟩)
   ·
    exact .inr (.inr ⟨hc, rfl, rfl⟩)
  ·
   rcases hgv : Pure.getV ((E.set 16 (s / 256)).set 17 (s % 256)) with ⟨y1, y2, y3, y4, y5, y6⟩
   rw [hgv] at hg
   exact ⟨y1, y2, y3, y4, y5, y6, ⟨hg, .inl ⟨by omega, by omega⟩⟩⟩
 obtain ⟨z1, z2, z3, z4, z5, z6, HGZ⟩ : ∃ z1 z2 z3 z4 z5 z6, Aside0 (msg_Get.f 100 (E.set 18 v) = some (z1, z2, z3, z4, z5, z6) ∧ (v = 4 ∨ (v == 4) = false ∧ z4 = 1 ∧ z5 = 3)) := by
  have hg := Pure.msg_get 100 (E.set 18 v) (Pure.Octs.setP oE 18 hv0 hv1) (by rw [List.length_set]; have := HEL.out; omega) (by omega)
  by_cases hc : v = 4
  ·
   rcases hgv : Pure.getV (E.set 18 v) with ⟨z1, z2, z3, z4, z5, z6⟩
   rw [hgv] at hg
   exact ⟨z1, z2, z3, z4, z5, z6, ⟨hg, .inl hc⟩⟩
  ·
   rw [hE, Pure.bad_type _ _ v g3 (hv2.resolve_left hc)] at hg
   exact ⟨_, _, _, _, _, _, ⟨by rw [hE]; exact hg, .inr ⟨by simp [hc], rfl, rfl⟩⟩⟩
 clear hs g1 hv0 hv1 hv2
 have G3 := Aside0.mk g3
 have HE := Aside0.mk hE
 clear g3 hE hEl oE
 go_enter Try.func6, Try.ntmps6
 go_wp2_with (first
  | (go_at_call 8; refine (ridgewaylaw03_awake.calls true _ rfl).mono ?_; rintro e w1 ⟨rfl, hb1⟩; obtain ⟨hv0, hv1, hB1⟩ := HU.out hb1; have hb := Aside0.mk hb1; clear hb1)
  | (go_at_call 15; with_reducible refine (msg_Sane.calls _ _ _ _ _ _ (Kd.C_below HR0.out hB1) HC0.out HS.out).mono ?_; rintro e w2 ⟨rfl, hb2⟩; have hb3 := Aside0.mk (below_step hb.out hb2); clear hv0 hv1 hB1 hb2; obtain ⟨hv0, hv1, hB2⟩ := HU.out hb3.out; obtain ⟨hv2, hv3, -⟩ := HU.out (below_alloc hb3.out (Obj.cells #[] 5)))
  | (go_at_call 17; refine (msg_Put.calls 100 (fun _ => False) none 0 [] _ _ _ _ _ _ (Kd.V_nil _ _ _ _ _) (Kd.C_alloc (Kd.C_below HR0.out hB2) _) HC0.out HP.out).mono ?_; rintro e w3 ⟨v3, rfl, hR3, hb4⟩; obtain ⟨A3, c3, rfl, hl3, hC3⟩ := Kd.R_reads hR3)
  | ((with_reducible refine gate_builtin (b := .append) (xs := #[.tmp 34, .tmp 36]) rfl ?_); at_builtin; refine Kd.R_append_rows (Kd.int .u8) (w0 := (w.alloc (Obj.cells #[.int .i64 a0_0, .slice A0_1 l0_1.length c0_1] 24))) (w.alloc (Obj.cells #[.int .i64 a0_0, .slice A0_1 l0_1.length c0_1] 24)).heap.size rfl (.tmp 34) (.tmp 36) 22 5 (.int .u8 0) 1 rfl Try.underlying22 info5 rfl (by decide) (by omega) _ [] E _ _ _ (fun _ => True) (fun _ => False) rfl rfl ?aO ?aR (fun _ _ h => h) (fun _ h => h.elim) (fun _ _ => trivial) ?aB ?aS ?aL ?_; (case aO => exact Kd.R_below (R_lit8 w2 _ 5 hb3.out.size [] (by simp)) hb4); (case aR => exact hC3); (case aB => exact below_step (below_alloc hb3.out _) hb4); (case aS => exact (below_step (below_alloc hb3.out _) hb4).size); (case aL => have := HEL.out; simp; omega); intro v4 w4 ho hb5 hg hat; clear hg hat hR3 hC3 hb4 hl3 hv0 hv1 hv2 hv3 hB2; have hb6 := Aside0.mk hb5; clear hb5; rw [List.nil_append] at ho; obtain ⟨gx, cx, rfl, kx1, kx2, -⟩ := Kd.R_form ho (by have := HEL.out; omega); have HX := Aside0.mk (R_at8 ho); have KX := Aside0.mk (show w.heap.size ≤ gx ∧ gx < w4.heap.size from ⟨Nat.le_trans (below_alloc (Below.refl _ _) _).size kx1, kx2⟩); clear ho kx1 kx2)
  | ((with_reducible refine gate_builtin (b := .append) (xs := #[.tmp 38, .tmp 39]) rfl ?_); at_builtin; refine Kd.R_append_rows (Kd.int .u8) (w0 := w4) w4.heap.size rfl (.tmp 38) (.tmp 39) 22 5 (.int .u8 0) 1 rfl Try.underlying22 info5 rfl (by decide) (by omega) _ [] E _ _ _ (fun _ => True) (fun _ => False) rfl rfl ?aO ?aR (fun _ _ h => h) (fun _ h => h.elim) (fun _ _ => trivial) ?aB ?aS ?aL ?_; (case aO => exact R_lit8 w4 _ 5 (Nat.le_refl _) [] (by simp)); (case aR => exact (Kd.R_reads' (Kd.R_alloc HX.out _)).2.2); (case aB => exact below_alloc (Below.refl _ _) _); (case aS => exact (below_alloc (Below.refl _ _) _).size); (case aL => have := HEL.out; simp; omega); intro v5 w5 ho hb7 hg hat; clear hg hat; rw [List.nil_append] at ho; obtain ⟨gy, cy, rfl, ky1, ky2, -⟩ := Kd.R_form ho (by have := HEL.out; omega); have HY := Aside0.mk (R_at8 ho); have KY := Aside0.mk (show w4.heap.size ≤ gy ∧ gy < w5.heap.size from ⟨ky1, ky2⟩); have HX5 := Aside0.mk (Kd.R_below HX.out hb7); have hb8 := Aside0.mk (below_step hb6.out hb7); clear ho ky1 ky2 hb7)
  | ((with_reducible refine gate_builtin (b := .append) (xs := #[.tmp 41, .tmp 42]) rfl ?_); at_builtin; refine Kd.R_append_rows (Kd.int .u8) (w0 := w5) w5.heap.size rfl (.tmp 41) (.tmp 42) 22 5 (.int .u8 0) 1 rfl Try.underlying22 info5 rfl (by decide) (by omega) _ [] E _ _ _ (fun _ => True) (fun _ => False) rfl rfl ?aO ?aR (fun _ _ h => h) (fun _ h => h.elim) (fun _ _ => trivial) ?aB ?aS ?aL ?_; (case aO => exact R_lit8 w5 _ 5 (Nat.le_refl _) [] (by simp)); (case aR => exact (Kd.R_reads' (Kd.R_alloc HX5.out _)).2.2); (case aB => exact below_alloc (Below.refl _ _) _); (case aS => exact (below_alloc (Below.refl _ _) _).size); (case aL => have := HEL.out; simp; omega); intro v6 w6 ho hb9 hg hat; clear hg hat; rw [List.nil_append] at ho; obtain ⟨gz, cz, rfl, kz1, kz2, -⟩ := Kd.R_form ho (by have := HEL.out; omega); have HZ := Aside0.mk (R_at8 ho); have HX6 := Aside0.mk (Kd.R_below HX5.out hb9); have HY6 := Aside0.mk (Kd.R_below HY.out hb9); have hb10 := Aside0.mk (below_step hb8.out hb9); have KD : Aside0 (w.heap.size ≤ gx ∧ gx < gy ∧ gy < gz) := ⟨by have := KX.out; have := KY.out; omega⟩; clear ho kz1 kz2 hb9; obtain ⟨cx0, cx1, -⟩ := R_cell8 HX6.out (j := j) HJ.out; obtain ⟨cy0, cy1, -⟩ := R_cell8 HY6.out (j := 16) (by have := HEL.out; omega); obtain ⟨cy2, cy3, -⟩ := R_cell8 HY6.out (j := 17) (by have := HEL.out; omega); obtain ⟨cz0, cz1, -⟩ := R_cell8 HZ.out (j := 18) (by have := HEL.out; omega); have n1 : ¬ (gx = gy) := (by have := KD.out; omega); have n2 : ¬ (gx = gz) := (by have := KD.out; omega); have n3 : ¬ (gy = gz) := (by have := KD.out; omega); have n4 : ¬ (gy = gx) := (by have := KD.out; omega); have n5 : ¬ (gz = gx) := (by have := KD.out; omega); have n6 : ¬ (gz = gy) := (by have := KD.out; omega); have RX := Aside0.mk (R_off8 (j := 18) (R_off8 (j := 17) (R_off8 (j := 16) (R_set8 HX6.out HJ.out a2) n1 (.int .u8 (s / 256))) n1 (.int .u8 (s % 256))) n2 (.int .u8 v)); have RY := Aside0.mk (R_off8 (j := 18) (R_set8 (j := 17) (R_set8 (j := 16) (R_off8 (j := j) HY6.out n4 (.int .u8 a2)) (by have := HEL.out; omega) (s / 256)) (by rw [List.length_set]; have := HEL.out; omega) (s % 256)) n3 (.int .u8 v)); have RZ := Aside0.mk (R_set8 (j := 18) (R_off8 (j := 17) (R_off8 (j := 16) (R_off8 (j := j) HZ.out n5 (.int .u8 a2)) n6 (.int .u8 (s / 256))) n6 (.int .u8 (s % 256))) (by have := HEL.out; omega) v); have hb11 := Aside0.mk (set_below (g := gz) (j := 18) (.int .u8 v) (set_below (g := gy) (j := 17) (.int .u8 (s % 256)) (set_below (g := gy) (j := 16) (.int .u8 (s / 256)) (set_below (g := gx) (j := j) (.int .u8 a2) (HU.out hb10.out).2.2 (by have := KD.out; omega)) (by have := KD.out; omega)) (by have := KD.out; omega)) (by have := KD.out; omega)))
  | (go_at_call 9; have hg := msg_Get.calls 100 _ _ (E.set j a2) _ _ _ _ _ _ _ (Kd.R_reads' RX.out).2.2 (by rw [List.length_set]; exact (Kd.R_reads' RX.out).2.1) HGX.out.1; rw [List.length_set] at hg; with_reducible refine hg.mono ?_; clear hg; rintro e w7 ⟨v7, v8, rfl, hR7, hR8, hb12⟩; obtain ⟨A7, c7, rfl, -, -⟩ := Kd.R_reads hR7; obtain ⟨A8, c8, rfl, -, -⟩ := Kd.R_reads hR8; clear hR7 hR8 cx0 cx1 cy0 cy1 cy2 cy3 cz0 cz1; have RY7 := Aside0.mk (Kd.R_alloc (Kd.R_alloc (Kd.R_below RY.out hb12) (Obj.cells #[.int .i64 x1, .slice A7 x2.length c7] 24)) (Obj.cells #[.int .i64 x4, .int .i64 x5, .slice A8 x6.length c8] 27)); have RZ7 := Aside0.mk (Kd.R_alloc (Kd.R_alloc (Kd.R_below RZ.out hb12) (Obj.cells #[.int .i64 x1, .slice A7 x2.length c7] 24)) (Obj.cells #[.int .i64 x4, .int .i64 x5, .slice A8 x6.length c8] 27)); have hb13 := Aside0.mk (below_alloc (below_alloc (below_step hb11.out hb12) (Obj.cells #[.int .i64 x1, .slice A7 x2.length c7] 24)) (Obj.cells #[.int .i64 x4, .int .i64 x5, .slice A8 x6.length c8] 27)); clear hb12)
  | (go_at_call 9; have hg := msg_Get.calls 100 _ _ ((E.set 16 (s / 256)).set 17 (s % 256)) _ _ _ _ _ _ _ (Kd.R_reads' RY7.out).2.2 (by rw [List.length_set, List.length_set]; exact (Kd.R_reads' RY7.out).2.1) HGY.out.1; rw [List.length_set, List.length_set] at hg; with_reducible refine hg.mono ?_; clear hg; rintro e w8 ⟨v9, v10, rfl, hR9, hR10, hb14⟩; obtain ⟨A9, c9, rfl, -, -⟩ := Kd.R_reads hR9; obtain ⟨A10, c10, rfl, -, -⟩ := Kd.R_reads hR10; clear hR9 hR10; have RZ8 := Aside0.mk (Kd.R_alloc (Kd.R_alloc (Kd.R_below RZ7.out hb14) (Obj.cells #[.int .i64 y1, .slice A9 y2.length c9] 24)) (Obj.cells #[.int .i64 y4, .int .i64 y5, .slice A10 y6.length c10] 27)); have hb15 := Aside0.mk (below_alloc (below_alloc (below_step hb13.out hb14) (Obj.cells #[.int .i64 y1, .slice A9 y2.length c9] 24)) (Obj.cells #[.int .i64 y4, .int .i64 y5, .slice A10 y6.length c10] 27)); have hb16 := Aside0.mk (below_alloc (below_alloc hb14 (Obj.cells #[.int .i64 y1, .slice A9 y2.length c9] 24)) (Obj.cells #[.int .i64 y4, .int .i64 y5, .slice A10 y6.length c10] 27)); clear hb14))
 go_at_call 9
 have hg := msg_Get.calls 100 _ _ (E.set 18 v) _ _ _ _ _ _ _ (Kd.R_reads' RZ8.out).2.2 (by rw [List.length_set]; exact (Kd.R_reads' RZ8.out).2.1) HGZ.out.1
 rw [List.length_set] at hg
 with_reducible refine hg.mono ?_
 clear hg
 rintro e w9 ⟨v11, v12, rfl, hR11, hR12, hb17⟩
 obtain ⟨A11, c11, rfl, -, -⟩ := Kd.R_reads hR11
 obtain ⟨A12, c12, rfl, -, -⟩ := Kd.R_reads hR12
 clear hR11 hR12
 have RZ9 := (Kd.R_alloc (Kd.R_alloc (Kd.R_below RZ8.out hb17) (Obj.cells #[.int .i64 z1, .slice A11 z2.length c11] 24)) (Obj.cells #[.int .i64 z4, .int .i64 z5, .slice A12 z6.length c12] 27))
 have hb18 := (below_alloc (below_alloc (below_step hb15.out hb17) (Obj.cells #[.int .i64 z1, .slice A11 z2.length c11] 24)) (Obj.cells #[.int .i64 z4, .int .i64 z5, .slice A12 z6.length c12] 27))
 have hb19 := (below_alloc (below_alloc hb17 (Obj.cells #[.int .i64 z1, .slice A11 z2.length c11] 24)) (Obj.cells #[.int .i64 z4, .int .i64 z5, .slice A12 z6.length c12] 27))
 have hb20 := below_step hb16.out hb19
 have e0 := (new2b_cell hb20 0).trans rfl
 have e1 := (new2b_cell hb20 1).trans rfl
 have f0 := (new2b_cell hb19 0).trans rfl
 have f1 := (new2b_cell hb19 1).trans rfl
 obtain ⟨cz0, -, -⟩ := R_cell8 RZ9 (j := 18) (by rw [List.length_set]; have := HEL.out; omega)
 have hrd : rd (E.set 18 v) ((18 : Nat) : Int) = v := by
  unfold rd
  rw [List.getD_eq_getElem?_getD, Int.toNat_natCast, List.getElem?_set_self (by have := HEL.out; omega)]
  rfl
 rw [hrd] at cz0
 have HB18 := Aside0.mk hb18
 clear hb17 hb18 hb19 hb20 RZ9 hrd
 rcases HGX.out.2 with rfl | ⟨hx, rfl, rfl⟩ <;> rcases HGY.out.2 with ⟨hy1, hy2⟩ | ⟨hy, rfl, rfl⟩ | ⟨hy, rfl, rfl⟩ <;> rcases HGZ.out.2 with hz | ⟨hz, rfl, rfl⟩ <;> go_wp2 <;> (go_ret; exact ⟨rfl, HB18.out⟩)

/-- THE ONE PURE STATEMENT of ridgewaylaw03_MsgBad. -/
def ridgewaylaw03_MsgBad.Pure : Prop := ∀ (x0 : S24) (a1 : Int) (a2 : Int) (a3 : Int), (wf24 x0) → ((Lit.int .i64 a1).wf = true) → ((Lit.int .u8 a2).wf = true) → ((Lit.int .i64 a3).wf = true) → ridgewaylaw03_MsgBad.f (x0.f0) (x0.f1) a1 a2 a3 = some true

end Go.Proofs.Ythmlhimmgciakaa.Q
