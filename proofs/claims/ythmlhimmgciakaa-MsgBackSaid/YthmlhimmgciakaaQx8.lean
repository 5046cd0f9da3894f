/- Each call of a Go function comes to what the Lean function of its name answers (written out by wip/tools/xprint.py, checked by Lean); conditions: those in each statement. -/
import Derived.Test.YthmlhimmgciakaaQx0
import Derived.Test.YthmlhimmgciakaaQx2
import Derived.Test.YthmlhimmgciakaaQx3
import Derived.Test.YthmlhimmgciakaaQx4
import Derived.Test.YthmlhimmgciakaaQx6
import Derived.Test.YthmlhimmgciakaaXMsgLaw
import Derived.Test.YthmlhimmgciakaaXMsgRef
import Derived.Test.YthmlhimmgciakaaXRow
import Derived.Test.YthmlhimmgciakaaXLaw
import Derived.Deep.MidRow
namespace Go.Proofs.Ythmlhimmgciakaa.Q
open Go.RowKit Go.Proofs.YthmlhimmgciakaaW.PrintWords Go.Proofs.YthmlhimmgciakaaW.PrintLast Go.Proofs.YthmlhimmgciakaaW.PrintMore Go.Proofs.YthmlhimmgciakaaW.PrintX
attribute [local go_sem] max2_int min2_int max_two min_two max_three min_three max_four min_four   -- for this text's walks alone
set_option linter.unusedVariables false
set_option linter.unusedSimpArgs false

/-! ### ridgewaylaw03_MsgBack: function 4 -/
open Classical in
noncomputable def ridgewaylaw03_MsgBack.f (t : Int) (b r : List Int) (k : Int) : Option Bool := if Octs b ∧ Octs r then some true else none
set_option maxHeartbeats 8000000 in
set_option maxRecDepth 100000 in
theorem ridgewaylaw03_MsgBack.calls (a0_0 : Int) (A0_1 : Option Addr) (c0_1 : Nat) (l0_1 : List Int) (A1 : Option Addr) (c1 : Nat) (l1 : List Int) (a2 : Int) (w : World) (hr0 : Kd.C (Kd.int .u8) w A0_1 l0_1.length l0_1) (hc0 : l0_1.length ≤ c0_1) (hr1 : Kd.C (Kd.int .u8) w A1 l1.length l1) (hc1 : l1.length ≤ c1) (h : ridgewaylaw03_MsgBack.f a0_0 l0_1 l1 a2 = some true) :
  Calls Try.prog 4 #[.agg #[.int .i64 a0_0, .slice A0_1 l0_1.length c0_1], .slice A1 l1.length c1, .int .i64 a2] w fun e w' => e = .returned (.bool true) ∧ Below w.heap.size w w' := by
 unfold ridgewaylaw03_MsgBack.f at h
 split at h
 case isFalse => cases h
 rename_i ho
 clear h
 have HR0 := Aside0.mk hr0
 have HR1 := Aside0.mk hr1
 have HC0 := Aside0.mk hc0
 have HC1 := Aside0.mk hc1
 have HO := Aside0.mk ho
 clear hr0 hr1 hc0 hc1 ho
 have HU0 : ∀ {w1 : World}, Below (w.alloc (Obj.cells #[.int .i64 a0_0, .slice A0_1 l0_1.length c0_1] 24)).heap.size (w.alloc (Obj.cells #[.int .i64 a0_0, .slice A0_1 l0_1.length c0_1] 24)) w1 → w1.cell? ⟨w.heap.size, 0, none⟩ = some (.int .i64 a0_0) ∧ w1.cell? ⟨w.heap.size, 1, none⟩ = some (.slice A0_1 l0_1.length c0_1) ∧ Below w.heap.size w w1 := fun hb => by
  have hv := blk_below (heap_alloc_new w _) hb
  exact ⟨(blk_cell hv 0).trans rfl, (blk_cell hv 1).trans rfl, below_step (below_alloc (Below.refl _ _) _) hb⟩
 have HU := Aside0.mk @HU0
 clear HU0
 by_cases g1 : (l0_1.length : Int) > 5000
 ·
  have d1 : decide ((l0_1.length : Int) > 5000) = true := decide_eq_true g1
  go_enter Try.func4, Try.ntmps4
  go_wp2_with (first | (go_at_call 8; with_reducible refine (ridgewaylaw03_awake.calls true _ rfl).mono ?_; rintro e w1 ⟨rfl, hb1⟩; obtain ⟨hv0, hv1, hB1⟩ := HU.out hb1))
  go_ret
  exact ⟨rfl, hB1⟩
 have d1 : decide ((l0_1.length : Int) > 5000) = false := decide_eq_false g1
 by_cases g2 : (l1.length : Int) > 400
 ·
  have d2 : decide ((l1.length : Int) > 400) = true := decide_eq_true g2
  go_enter Try.func4, Try.ntmps4
  go_wp2_with (first | (go_at_call 8; with_reducible refine (ridgewaylaw03_awake.calls true _ rfl).mono ?_; rintro e w1 ⟨rfl, hb1⟩; obtain ⟨hv0, hv1, hB1⟩ := HU.out hb1))
  go_ret
  exact ⟨rfl, hB1⟩
 have d2 : decide ((l1.length : Int) > 400) = false := decide_eq_false g2
 cases g3 : Pure.saneV a0_0 l0_1
 ·
  have hs := Pure.sane_eq a0_0 l0_1 (by omega)
  rw [g3] at hs
  have HS := Aside0.mk hs
  clear hs g3
  go_enter Try.func4, Try.ntmps4
  go_wp2_with (first
   | (go_at_call 8; with_reducible refine (ridgewaylaw03_awake.calls true _ rfl).mono ?_; rintro e w1 ⟨rfl, hb1⟩; obtain ⟨hv0, hv1, hB1⟩ := HU.out hb1)
   | (go_at_call 15; with_reducible refine (msg_Sane.calls _ _ _ _ _ _ (Kd.C_below HR0.out hB1) HC0.out HS.out).mono ?_; rintro e w2 ⟨rfl, hb2⟩; have hB2 := below_step hB1 hb2))
  go_ret
  exact ⟨rfl, hB2⟩
 have hs := Pure.sane_eq a0_0 l0_1 (by omega)
 rw [g3] at hs
 have HS := Aside0.mk hs
 have hp := Pure.msg_put 100 [] a0_0 l0_1 (by omega) (by simp) (by omega)
 unfold Pure.putV at hp
 rw [if_pos g3, List.nil_append] at hp
 have HP := Aside0.mk hp
 have G3 := Aside0.mk g3
 obtain ⟨E, hE⟩ : ∃ E, E = Pure.encM a0_0 l0_1 := ⟨_, rfl⟩
 have hEl : E.length = 19 + l0_1.length := by rw [hE]; exact Pure.encM_length _ _
 rw [← hE] at hp
 have HE := Aside0.mk hE
 have HEL := Aside0.mk hEl
 have HP := Aside0.mk hp
 obtain ⟨n, hn, hnl⟩ : ∃ n : Nat, (Go.bits .and .i64 a2 65535).tmod (E.length : Int) = (n : Int) ∧ n < E.length := by
  have h0 : Go.bits .and .i64 a2 65535 = a2 % 65536 := and_mask a2 16 (by decide)
  have h1 : 0 ≤ a2 % 65536 := Int.emod_nonneg _ (by decide)
  have hE0 : (0 : Int) < (E.length : Int) := by omega
  refine ⟨((a2 % 65536) % (E.length : Int)).toNat, ?_, ?_⟩
  ·
   rw [h0, Int.tmod_eq_emod_of_nonneg h1, Int.toNat_of_nonneg (Int.emod_nonneg _ (by omega))]
  ·
   have := Int.emod_lt_of_pos (a2 % 65536) hE0
   have := Int.emod_nonneg (a2 % 65536) (show (E.length : Int) ≠ 0 by omega)
   omega
 have h1E : (1 : Int) ≤ (E.length : Int) := by omega
 have hnE : (n : Int) < (E.length : Int) := by omega
 have HG5 := Aside0.mk (show msg_Get.f 100 (E.take n) = some (0, [], 0, 0, 0, []) by
  rw [Pure.msg_get 100 (E.take n) (by rw [hE]; exact (Pure.encM_octs _ _ HO.out.1).take n) (by rw [List.length_take]; omega) (by omega), hE, Pure.get_pre _ _ n g3 (by omega)])
 have HNL := Aside0.mk hnl
 obtain ⟨F, hF⟩ : ∃ F, F = E ++ l1 := ⟨_, rfl⟩
 have hFl : F.length ≤ 10000 := by rw [hF, List.length_append]; omega
 have HG7 := Aside0.mk (show msg_Get.f 100 F = some (a0_0, l0_1, (E.length : Int), 0, 0, []) by
  rw [Pure.msg_get 100 F (by rw [hF, hE]; exact (Pure.encM_octs _ _ HO.out.1).app HO.out.2) (by omega) (by omega), hF, hE, Pure.get_enc _ _ _ g3, Pure.encM_length]
  simp)
 have h19 := Aside0.mk (show (l0_1.length : Int) + 19 = (E.length : Int) by omega)
 have HF := Aside0.mk hF
 clear hF hFl
 clear hs g3 hp hE hEl hnl
 go_enter Try.func4, Try.ntmps4
 go_wp2_with (first
   | (go_at_call 8; with_reducible refine (ridgewaylaw03_awake.calls true _ rfl).mono ?_; rintro e w1 ⟨rfl, hb1⟩; obtain ⟨hv0, hv1, hB1⟩ := HU.out hb1; have hb := Aside0.mk hb1; clear hb1)
   | (go_at_call 15; with_reducible refine (msg_Sane.calls _ _ _ _ _ _ (Kd.C_below HR0.out hB1) HC0.out HS.out).mono ?_; rintro e w2 ⟨rfl, hb2⟩; have hb3 := Aside0.mk (below_step hb.out hb2); clear hv0 hv1 hB1; obtain ⟨hv0, hv1, hB2⟩ := HU.out hb3.out; obtain ⟨hv2, hv3, -⟩ := HU.out (below_alloc hb3.out (Obj.cells #[] 5)))
   | (go_at_call 17; refine (msg_Put.calls 100 (fun _ => False) none 0 [] _ _ _ _ _ _ (Kd.V_nil _ _ _ _ _) (Kd.C_alloc (Kd.C_below HR0.out hB2) _) HC0.out HP.out).mono ?_; rintro e w3 ⟨v3, rfl, hR3, hb4⟩; obtain ⟨A3, c3, rfl, hl3, hC3⟩ := Kd.R_reads hR3)
   | ((with_reducible refine gate_builtin (b := .append) (xs := #[.tmp 33, .tmp 35]) rfl ?_); at_builtin; refine Kd.R_append_rows (Kd.int .u8) (w0 := (w.alloc (Obj.cells #[.int .i64 a0_0, .slice A0_1 l0_1.length c0_1] 24))) (w.alloc (Obj.cells #[.int .i64 a0_0, .slice A0_1 l0_1.length c0_1] 24)).heap.size rfl (.tmp 33) (.tmp 35) 22 5 (.int .u8 0) 1 rfl Try.underlying22 info5 rfl (by decide) (by omega) _ [] E _ _ _ (fun _ => True) (fun _ => False) rfl rfl ?aO ?aR (fun _ _ h => h) (fun _ h => h.elim) (fun _ _ => trivial) ?aB ?aS ?aL ?_; (case aO => exact Kd.R_below (R_lit8 w2 _ 5 hb3.out.size [] (by simp)) hb4); (case aR => exact hC3); (case aB => exact below_step (below_alloc hb3.out _) hb4); (case aS => exact (below_step (below_alloc hb3.out _) hb4).size); (case aL => have := HEL.out; simp; omega); intro v4 w4 ho hb5 hg hat; clear hg hat; have hb6 := Aside0.mk hb5; rw [List.nil_append] at ho; obtain ⟨A4, c4, rfl, hl4, hC4⟩ := Kd.R_reads ho; have hR4 := Aside0.mk ho; have hC4 := Aside0.mk hC4; have q4 : (n : Int) ≤ (c4 : Int) := (by omega); have hL4 := Aside0.mk hl4; clear hl4; clear ho hC3 hR3 hv0 hv1 hv2 hv3 hB2; obtain ⟨hv0, hv1, hB4⟩ := HU.out hb5; clear hb5 hb4)
   | (go_at_call 9; have hg := msg_Get.calls 100 A4 c4 (E.take n) 0 [] 0 0 0 [] w4 (Kd.C_take hC4.out (Nat.le_of_lt HNL.out)) (by rw [List.length_take]; have := hL4.out; have := HNL.out; omega) HG5.out; rw [List.length_take, Nat.min_eq_left (Nat.le_of_lt HNL.out)] at hg; with_reducible refine hg.mono ?_; clear hg; rintro e w5 ⟨v5, v6, rfl, hR5, hR6, hb7⟩; obtain ⟨A5, c5, rfl, -, -⟩ := Kd.R_reads hR5; obtain ⟨A6, c6, rfl, -, -⟩ := Kd.R_reads hR6; clear hR5 hR6; simp only [List.length_nil]; have hb8 := Aside0.mk (below_step hb6.out hb7); have hb7 := Aside0.mk hb7; clear hv0 hv1 hB4; obtain ⟨hv0, hv1, hB5⟩ := HU.out hb8.out)
   | ((with_reducible refine gate_builtin (b := .append) (xs := #[.tmp 70, .tmp 71]) rfl ?_); at_builtin; refine Kd.R_append_rows (Kd.int .u8) (w0 := (w.alloc (Obj.cells #[.int .i64 a0_0, .slice A0_1 l0_1.length c0_1] 24))) (w.alloc (Obj.cells #[.int .i64 a0_0, .slice A0_1 l0_1.length c0_1] 24)).heap.size rfl (.tmp 70) (.tmp 71) 22 5 (.int .u8 0) 1 rfl Try.underlying22 info5 rfl (by decide) (by omega) _ E l1 _ _ _ (fun _ => True) (fun _ => False) rfl rfl ?aO ?aR (fun _ _ h => h) (fun _ h => h.elim) (fun _ _ => trivial) ?aB ?aS ?aL ?_; (case aO => exact Kd.R_alloc (Kd.R_alloc (Kd.R_below hR4.out hb7.out) _) _); (case aR => exact Kd.C_alloc (Kd.C_alloc (Kd.C_below HR1.out hB5) _) _); (case aB => exact below_alloc (below_alloc hb8.out _) _); (case aS => exact (below_alloc (below_alloc hb8.out _) _).size); (case aL => have := HEL.out; omega); intro v7 w7 ho hb9 hg hat; clear hg hat; have hb10 := Aside0.mk hb9; rw [← HF.out] at ho; obtain ⟨A7, c7, rfl, hl7, hC7⟩ := Kd.R_reads ho; clear ho hv0 hv1 hB5; obtain ⟨hv0, hv1, hB7⟩ := HU.out hb9; clear hb9)
   | (go_at_call 9; with_reducible refine (msg_Get.calls 100 A7 c7 F _ _ _ _ _ _ w7 hC7 hl7 HG7.out).mono ?_; rintro e w8 ⟨v8, v9, rfl, hR8, hR9, hb11⟩; obtain ⟨A8, c8, rfl, hl8, hC8⟩ := Kd.R_reads hR8; obtain ⟨A9, c9, rfl, -, -⟩ := Kd.R_reads hR9; clear hR8 hR9; simp only [List.length_nil]; have hb12 := Aside0.mk (below_step hb10.out hb11); clear hb11 hC7 hl7 hv0 hv1 hB7; have hC8 := Aside0.mk hC8; have hl8 := Aside0.mk hl8; obtain ⟨hv0, hv1, hB8⟩ := HU.out (below_alloc (below_alloc hb12.out (Obj.cells #[.int .i64 a0_0, .slice A8 l0_1.length c8] 24)) (Obj.cells #[.int .i64 0, .int .i64 0, .slice A9 0 c9] 27)); have h20 := h19.out)
   | (go_at_call 11; with_reducible refine (ridgewayref03_Same.calls _ A8 c8 l0_1 _ A0_1 c0_1 l0_1 true _ (Kd.C_alloc (Kd.C_alloc hC8.out _) _) hl8.out (Kd.C_below HR0.out hB8) HC0.out (Pure.same_self _ _)).mono ?_; rintro e w9 ⟨rfl, hb13⟩; have hB9 := below_step hB8 hb13)
   )
 go_ret
 exact ⟨rfl, hB9⟩

/-- THE ONE PURE STATEMENT of ridgewaylaw03_MsgBack. -/
def ridgewaylaw03_MsgBack.Pure : Prop := ∀ (x0 : S24) (l1 : List Int) (a2 : Int), (wf24 x0) → (l1.length ≤ maxLen ∧ ∀ y ∈ l1, (Lit.int .u8 y).wf = true) → ((Lit.int .i64 a2).wf = true) → ridgewaylaw03_MsgBack.f (x0.f0) (x0.f1) l1 a2 = some true

end Go.Proofs.Ythmlhimmgciakaa.Q
