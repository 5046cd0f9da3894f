/- Each call of a Go function comes to what the Lean function of its name answers (written out by wip/tools/xprint.py, checked by Lean); conditions: those in each statement. -/
import Derived.Test.YthmlhimmgciakaaQx0
import Derived.Test.YthmlhimmgciakaaQx1
import Derived.Test.YthmlhimmgciakaaQx2
import Derived.Test.YthmlhimmgciakaaQx3
namespace Go.Proofs.Ythmlhimmgciakaa.Q
open Go.RowKit Go.Proofs.YthmlhimmgciakaaW.PrintWords Go.Proofs.YthmlhimmgciakaaW.PrintLast Go.Proofs.YthmlhimmgciakaaW.PrintMore Go.Proofs.YthmlhimmgciakaaW.PrintX
attribute [local go_sem] max2_int min2_int max_two min_two max_three min_three max_four min_four   -- for this text's walks alone
set_option linter.unusedVariables false
set_option linter.unusedSimpArgs false

/-! ### ridgewaylaw03_awake: function 8 -/
def ridgewaylaw03_awake.g (k : Nat)  : Option (Bool) := (msg_Put.f k ([] : List Int) 4 ([] : List Int)).bind fun t170 => ((msg_Get.f k t170).bind fun bt173 => (if (t170.length : Int) = 19 then (if 0 < (t170.length : Int) then (if (rd t170 0) = 255 then (if 17 < (t170.length : Int) then (if (rd t170 17) = 19 then (if 18 < (t170.length : Int) then (if (rd t170 18) = 4 then (if bt173.2.2.1 = 19 then (if bt173.2.2.2.1 = 0 then (if bt173.1 = 4 then (if (bt173.2.1.length : Int) = 0 then ((msg_Sane.f bt173.1 bt173.2.1).bind fun t188 => (if t188 = true then ((msg_Least.f 1).bind fun t189 => (some (t189 == 29))) else (some false))) else (some false)) else (some false)) else (some false)) else (some false)) else (some false)) else (none)) else (some false)) else (none)) else (some false)) else (none)) else (some false)))
theorem ridgewaylaw03_awake.mono : ∀ k, LeO (ridgewaylaw03_awake.g k ) (ridgewaylaw03_awake.g (k + 1) ) := by
 intro  k
 unfold ridgewaylaw03_awake.g
 repeat' first
   | (with_reducible exact msg_Get.mono _ _)
   | (with_reducible exact msg_Put.mono _ _ _ _)
   | (with_reducible exact LeO.refl _)
   | (with_reducible exact LeO.none _)
   | (with_reducible refine LeO.ite ?_ ?_)
   | (with_reducible refine LeO.bind ?_ (fun _ => ?_))
   | exact msg_Get.mono _ _
   | exact msg_Put.mono _ _ _ _
   | exact LeO.none _
   | refine LeO.ite ?_ ?_
   | refine LeO.bind ?_ (fun _ => ?_)
set_option maxHeartbeats 8000000 in
set_option maxRecDepth 100000 in
theorem ridgewaylaw03_awake.callsT (k : Nat)  (w : World) (h : ridgewaylaw03_awake.g k  = some true) :
  Calls Try.prog 8 #[] w fun e w' => e = .returned (.bool true) ∧ Below w.heap.size w w' := by
 have hu24 := Try.underlying24
 have hu27 := Try.underlying27
 have HB := Aside0.mk (Below.refl w.heap.size w)
 have H : ((msg_Put.f k ([] : List Int) 4 ([] : List Int)).bind fun t170 => ((msg_Get.f k t170).bind fun bt173 => (if (t170.length : Int) = 19 then (if 0 < (t170.length : Int) then (if (rd t170 0) = 255 then (if 17 < (t170.length : Int) then (if (rd t170 17) = 19 then (if 18 < (t170.length : Int) then (if (rd t170 18) = 4 then (if bt173.2.2.1 = 19 then (if bt173.2.2.2.1 = 0 then (if bt173.1 = 4 then (if (bt173.2.1.length : Int) = 0 then ((msg_Sane.f bt173.1 bt173.2.1).bind fun t188 => (if t188 = true then ((msg_Least.f 1).bind fun t189 => (some (t189 == 29))) else (some false))) else (some false)) else (some false)) else (some false)) else (some false)) else (some false)) else (none)) else (some false)) else (none)) else (some false)) else (none)) else (some false)))) = some true := h
 clear h
 replace H := Option.bind_eq_some_iff.mp H
 obtain ⟨t170, A10, H⟩ := H
 replace H : ((msg_Get.f k t170).bind fun bt173 => (if (t170.length : Int) = 19 then (if 0 < (t170.length : Int) then (if (rd t170 0) = 255 then (if 17 < (t170.length : Int) then (if (rd t170 17) = 19 then (if 18 < (t170.length : Int) then (if (rd t170 18) = 4 then (if bt173.2.2.1 = 19 then (if bt173.2.2.2.1 = 0 then (if bt173.1 = 4 then (if (bt173.2.1.length : Int) = 0 then ((msg_Sane.f bt173.1 bt173.2.1).bind fun t188 => (if t188 = true then ((msg_Least.f 1).bind fun t189 => (some (t189 == 29))) else (some false))) else (some false)) else (some false)) else (some false)) else (some false)) else (some false)) else (none)) else (some false)) else (none)) else (some false)) else (none)) else (some false))) = some true := H
 have A1 := Aside0.mk A10
 clear A10
 replace H := Option.bind_eq_some_iff.mp H
 obtain ⟨⟨t173, t174, t177, t178, t179, t180⟩, A20, H⟩ := H
 replace H : (if (t170.length : Int) = 19 then (if 0 < (t170.length : Int) then (if (rd t170 0) = 255 then (if 17 < (t170.length : Int) then (if (rd t170 17) = 19 then (if 18 < (t170.length : Int) then (if (rd t170 18) = 4 then (if t177 = 19 then (if t178 = 0 then (if t173 = 4 then (if (t174.length : Int) = 0 then ((msg_Sane.f t173 t174).bind fun t188 => (if t188 = true then ((msg_Least.f 1).bind fun t189 => (some (t189 == 29))) else (some false))) else (some false)) else (some false)) else (some false)) else (some false)) else (some false)) else (none)) else (some false)) else (none)) else (some false)) else (none)) else (some false)) = some true := H
 have A2 := Aside0.mk A20
 clear A20
 by_cases c3 : (t170.length : Int) = 19
 ·
  rw [if_pos c3] at H
  have c3b0 : ((t170.length : Int) == 19) = true := beq_iff_eq.mpr c3
  have c3b1 : ((t170.length : Int) != 19) = false := bne_eq_false_iff_eq.mpr c3
  clear c3
  by_cases c4 : 0 < (t170.length : Int)
  ·
   rw [if_pos c4] at H
   have c4b0 : decide (0 < (t170.length : Int)) = true := decide_eq_true c4
   have c4b1 : decide (0 < t170.length) = true := decide_eq_true (by omega)
   clear c4
   by_cases c5 : (rd t170 0) = 255
   ·
    rw [if_pos c5] at H
    have c5b0 : ((rd t170 0) == 255) = true := beq_iff_eq.mpr c5
    have c5b1 : ((rd t170 0) != 255) = false := bne_eq_false_iff_eq.mpr c5
    clear c5
    by_cases c6 : 17 < (t170.length : Int)
    ·
     rw [if_pos c6] at H
     have c6b0 : decide (17 < (t170.length : Int)) = true := decide_eq_true c6
     have c6b1 : decide (17 < t170.length) = true := decide_eq_true (by omega)
     clear c6
     by_cases c7 : (rd t170 17) = 19
     ·
      rw [if_pos c7] at H
      have c7b0 : ((rd t170 17) == 19) = true := beq_iff_eq.mpr c7
      have c7b1 : ((rd t170 17) != 19) = false := bne_eq_false_iff_eq.mpr c7
      clear c7
      by_cases c8 : 18 < (t170.length : Int)
      ·
       rw [if_pos c8] at H
       have c8b0 : decide (18 < (t170.length : Int)) = true := decide_eq_true c8
       have c8b1 : decide (18 < t170.length) = true := decide_eq_true (by omega)
       clear c8
       by_cases c9 : (rd t170 18) = 4
       ·
        rw [if_pos c9] at H
        have c9b0 : ((rd t170 18) == 4) = true := beq_iff_eq.mpr c9
        have c9b1 : ((rd t170 18) != 4) = false := bne_eq_false_iff_eq.mpr c9
        clear c9
        by_cases c10 : t177 = 19
        ·
         rw [if_pos c10] at H
         have c10b0 : (t177 == 19) = true := beq_iff_eq.mpr c10
         have c10b1 : (t177 != 19) = false := bne_eq_false_iff_eq.mpr c10
         clear c10
         by_cases c11 : t178 = 0
         ·
          rw [if_pos c11] at H
          have c11b0 : (t178 == 0) = true := beq_iff_eq.mpr c11
          have c11b1 : (t178 != 0) = false := bne_eq_false_iff_eq.mpr c11
          clear c11
          by_cases c12 : t173 = 4
          ·
           rw [if_pos c12] at H
           have c12b0 : (t173 == 4) = true := beq_iff_eq.mpr c12
           have c12b1 : (t173 != 4) = false := bne_eq_false_iff_eq.mpr c12
           clear c12
           by_cases c13 : (t174.length : Int) = 0
           ·
            rw [if_pos c13] at H
            have c13b0 : ((t174.length : Int) == 0) = true := beq_iff_eq.mpr c13
            have c13b1 : ((t174.length : Int) != 0) = false := bne_eq_false_iff_eq.mpr c13
            clear c13
            replace H := Option.bind_eq_some_iff.mp H
            obtain ⟨t188, A140, H⟩ := H
            replace H : (if t188 = true then ((msg_Least.f 1).bind fun t189 => (some (t189 == 29))) else (some false)) = some true := H
            have A14 := Aside0.mk A140
            clear A140
            by_cases c15 : t188 = true
            ·
             subst c15
             have H1 : ((msg_Least.f 1).bind fun t189 => (some (t189 == 29))) = some true := by rw [if_pos rfl] at H; first | done | exact H
             clear H
             have H := H1
             clear H1
             replace H := Option.bind_eq_some_iff.mp H
             obtain ⟨t189, A160, H⟩ := H
             replace H : (some (t189 == 29)) = some true := H
             have A16 := Aside0.mk A160
             clear A160
             have HRL_ := Aside0.mk (Option.some.inj H)
             clear H
             go_enter Try.func8, Try.ntmps8
             go_wp2_with (first | ((with_reducible refine gate_callee (f := 17) rfl ?_); refine goesL_ (some 6) rfl rfl Try.func17 (by kernel_rfl) rfl #[.slice none 0 0, .agg #[.int .i64 4, .slice none 0 0]] rfl (by (try simp only [List.map_toArray, List.map_cons, List.map_nil]); first | done | rfl | (simp only [List.length_drop, List.length_take]; rfl)) ?_; (refine (msg_Put.calls k (fun k_ => False) _ _ ([] : List Int) 4 _ _ ([] : List Int) t170 _ ?side1 ?side2 ?side3 A1.out).mono ?_); (case side1 => exact Kd.V_nil _ _ _ _ _); (case side2 => exact Kd.C_nil _ _); (case side3 => exact Nat.le_refl _); rintro e w17 ⟨v171, rfl, ho0, hb⟩; refine ⟨_, rfl, ?_⟩; have n0_ := Aside0.mk (Kd.R_lower (Kd.R_mono (ok' := fun k_ => True) ho0 (fun _ hk_ => trivial)) (below_size (by repeat (first | (with_reducible first | exact HB.out | apply bA | apply bN | apply bD) | exact HB.out)))); have n1_ := Aside0.mk (below_step (by repeat (first | (with_reducible first | exact HB.out | apply bA | apply bN | apply bD) | exact HB.out)) hb); clear HB; have HO172 := n0_; have HB := n1_; clear n0_ n1_; (try clear hb); (try clear hb2); (try clear hk); (try clear hi); (try clear ho0); obtain ⟨Ao18, co18, eo18⟩ := Kd.R_slice HO172.out; subst eo18) | ((with_reducible refine gate_callee (f := 9) rfl ?_); refine goesL_ (some 9) rfl rfl Try.func9 (by kernel_rfl) rfl #[.slice Ao18 t170.length co18] rfl (by (try simp only [List.map_toArray, List.map_cons, List.map_nil]); first | done | rfl | (simp only [List.length_drop, List.length_take]; rfl)) ?_; (with_reducible refine (msg_Get.calls k _ _ t170 t173 t174 t177 t178 t179 t180 _ ?side1 ?side2 A2.out).mono ?_); (case side1 => repeat (first | exact (Kd.R_reads' HO172.out).2.2 | (with_reducible refine Kd.C_alloc ?_ _) | (with_reducible refine Kd.C_drewN ?_ _) | (with_reducible refine Kd.C_drew ?_))); (case side2 => exact (Kd.R_reads' HO172.out).2.1); rintro e w19 ⟨v175, v181, rfl, ho0, ho1, hb⟩; refine ⟨_, rfl, ?_⟩; have n0_ := Aside0.mk (Kd.R_mono (Kd.R_told (Kd.R_told (Kd.R_old (by (with_reducible repeat (first | apply Kd.R_alloc | apply Kd.R_drewN | apply Kd.R_drew)); exact HO172.out) hb) (Kd.R_base ho0)) (Kd.R_base ho1)) (fun _ h_ => h_.1)); have n1_ := Aside0.mk (Kd.R_lower (Kd.R_new' ho0 (Kd.R_lt (by (with_reducible repeat (first | apply Kd.R_alloc | apply Kd.R_drewN | apply Kd.R_drew)); exact HO172.out))) (below_size (by repeat (first | (with_reducible first | exact HB.out | apply bA | apply bN | apply bD) | exact HB.out)))); have n2_ := Aside0.mk (Kd.R_lower (Kd.R_new' ho1 (Kd.R_lt (by (with_reducible repeat (first | apply Kd.R_alloc | apply Kd.R_drewN | apply Kd.R_drew)); exact HO172.out))) (below_size (by repeat (first | (with_reducible first | exact HB.out | apply bA | apply bN | apply bD) | exact HB.out)))); have n3_ := Aside0.mk (below_step (by repeat (first | (with_reducible first | exact HB.out | apply bA | apply bN | apply bD) | exact HB.out)) hb); clear HO172; clear HB; have HO172 := n0_; have HO176 := n1_; have HO182 := n2_; have HB := n3_; clear n0_ n1_ n2_ n3_; (try clear hb); (try clear hb2); (try clear hk); (try clear hi); (try clear ho0); (try clear ho1)) | ((with_reducible refine gate_dst (N := 2) rfl ?_); (try (refine gate_guard (by rfl) ?_; dsimp only)); refine box_event ?hg (N := 2) ?hd (cs := #[.int .i64 0, .slice none 0 0]) (t := 24) ?hr ?_; (case hd => rfl); (case hg => rfl); (case hr => first | (go_simp; done) | (go_simp; rfl)); intro gb183 hg w20 hbox hb; have n0_ := Aside0.mk (Kd.R_below (by (with_reducible repeat (first | apply Kd.R_alloc | apply Kd.R_drewN | apply Kd.R_drew)); exact HO172.out) hb); have n1_ := Aside0.mk (Kd.R_below (by (with_reducible repeat (first | apply Kd.R_alloc | apply Kd.R_drewN | apply Kd.R_drew)); exact HO176.out) hb); have n2_ := Aside0.mk (Kd.R_below (by (with_reducible repeat (first | apply Kd.R_alloc | apply Kd.R_drewN | apply Kd.R_drew)); exact HO182.out) hb); have n3_ := Aside0.mk (below_step (by repeat (first | (with_reducible first | exact HB.out | apply bA | apply bN | apply bD) | exact HB.out)) hb); have n4_ := Aside0.mk (hbox); have n5_ := Aside0.mk ((by rw [hg]; exact (below_size (by repeat (first | (with_reducible first | exact HB.out | apply bA | apply bN | apply bD) | exact HB.out))) : w.heap.size ≤ gb183)); have n6_ := Aside0.mk ((by rw [hg]; exact (below_size (by repeat (first | (with_reducible first | exact HB.out | apply bA | apply bN | apply bD) | exact HB.out))) : w.heap.size ≤ gb183)); clear HO172; clear HO176; clear HO182; clear HB; have HO172 := n0_; have HO176 := n1_; have HO182 := n2_; have HB := n3_; have BK183 := n4_; have GW183 := n5_; have GE183 := n6_; clear n0_ n1_ n2_ n3_ n4_ n5_ n6_; clear hb hbox hg) | ((with_reducible refine gate_dst (N := 4) rfl ?_); (try (refine gate_guard (by rfl) ?_; dsimp only)); refine box_event ?hg (N := 4) ?hd (cs := #[.int .i64 0, .int .i64 0, .slice none 0 0]) (t := 27) ?hr ?_; (case hd => rfl); (case hg => rfl); (case hr => first | (go_simp; done) | (go_simp; rfl)); intro gb184 hg w21 hbox hb; have n0_ := Aside0.mk (Kd.R_below (by (with_reducible repeat (first | apply Kd.R_alloc | apply Kd.R_drewN | apply Kd.R_drew)); exact HO172.out) hb); have n1_ := Aside0.mk (Kd.R_below (by (with_reducible repeat (first | apply Kd.R_alloc | apply Kd.R_drewN | apply Kd.R_drew)); exact HO176.out) hb); have n2_ := Aside0.mk (Kd.R_below (by (with_reducible repeat (first | apply Kd.R_alloc | apply Kd.R_drewN | apply Kd.R_drew)); exact HO182.out) hb); have n3_ := Aside0.mk (blk_below (g := gb183) (o := .cells #[.int .i64 0, .slice none 0 0] 24 (0, 0)) (by (with_reducible repeat (first | refine kN ?_ _ | refine kD ?_ | refine kA ?_ _)); exact BK183.out) hb); have n4_ := Aside0.mk (below_step (by repeat (first | (with_reducible first | exact HB.out | apply bA | apply bN | apply bD | refine bS ?_ GE183.out) | exact HB.out)) hb); have n5_ := Aside0.mk (hbox); have n6_ := Aside0.mk ((by rw [hg]; exact (below_size (by repeat (first | (with_reducible first | exact HB.out | apply bA | apply bN | apply bD | refine bS ?_ GE183.out) | exact HB.out))) : w.heap.size ≤ gb184)); have n7_ := Aside0.mk ((by rw [hg]; exact (below_size (by repeat (first | (with_reducible first | exact HB.out | apply bA | apply bN | apply bD | refine bS ?_ GE183.out) | exact HB.out))) : w.heap.size ≤ gb184)); have n8_ := Aside0.mk ((by rw [hg]; exact Nat.ne_of_lt (blk_lt (g := gb183) (o := .cells #[.int .i64 0, .slice none 0 0] 24 (0, 0)) (by (with_reducible repeat (first | refine kN ?_ _ | refine kD ?_ | refine kA ?_ _)); exact BK183.out)) : gb183 ≠ gb184)); have n9_ := Aside0.mk ((by rw [hg]; exact Nat.ne_of_gt (blk_lt (g := gb183) (o := .cells #[.int .i64 0, .slice none 0 0] 24 (0, 0)) (by (with_reducible repeat (first | refine kN ?_ _ | refine kD ?_ | refine kA ?_ _)); exact BK183.out)) : gb184 ≠ gb183)); clear HO172; clear HO176; clear HO182; clear BK183; clear HB; have HO172 := n0_; have HO176 := n1_; have HO182 := n2_; have BK183 := n3_; have HB := n4_; have BK184 := n5_; have GW184 := n6_; have GE184 := n7_; have NB183_184 := n8_; have NB184_183 := n9_; clear n0_ n1_ n2_ n3_ n4_ n5_ n6_ n7_ n8_ n9_; clear hb hbox hg; have hnb22 := NB183_184.out; have hnc22 := NB184_183.out; have hcz23_0 : w21.cell? ⟨gb183, 0, none⟩ = some (.int .i64 0) := (blk_cell BK183.out 0).trans rfl; have hcz23_1 : w21.cell? ⟨gb183, 1, none⟩ = some (.slice none 0 0) := (blk_cell BK183.out 1).trans rfl; have hfz23_0 := blk_frozen BK183.out 0; have hfz23_1 := blk_frozen BK183.out 1; obtain ⟨Ao24, co24, eo24⟩ := Kd.R_slice HO176.out; subst eo24; have hcz25_0 : w21.cell? ⟨gb184, 0, none⟩ = some (.int .i64 0) := (blk_cell BK184.out 0).trans rfl; have hcz25_1 : w21.cell? ⟨gb184, 1, none⟩ = some (.int .i64 0) := (blk_cell BK184.out 1).trans rfl; have hcz25_2 : w21.cell? ⟨gb184, 2, none⟩ = some (.slice none 0 0) := (blk_cell BK184.out 2).trans rfl; have hfz25_0 := blk_frozen BK184.out 0; have hfz25_1 := blk_frozen BK184.out 1; have hfz25_2 := blk_frozen BK184.out 2; obtain ⟨Ao26, co26, eo26⟩ := Kd.R_slice HO182.out; subst eo26; have p185 : 0 ≤ (0 : Int) := (by omega); have q185 : 0 < (t170.length : Int) := of_decide_eq_true (by first | (with_reducible assumption) | assumption); obtain ⟨ad185, e185, hx185_0⟩ := Kd.at_int (Kd.R_reads' HO172.out).2.2 0 p185 q185; cases e185; have qi185 : (0 < t170.length) = True := eq_true (by omega); (try rw [show ((0 : Int)).toNat = 0 from rfl] at hx185_0); (try rw [Addr.add_zero'] at hx185_0); have hn185_0 : ad185.block ≠ gb183 := Kd.own_blk (Kd.R_ne HO172.out BK183.out (by decide)); have hn185_1 : ad185.block ≠ gb183 := Kd.own_blk (Kd.R_ne HO172.out BK183.out (by decide)); have hn185_2 : ad185.block ≠ gb184 := Kd.own_blk (Kd.R_ne HO172.out BK184.out (by decide)); have hn185_3 : ad185.block ≠ gb184 := Kd.own_blk (Kd.R_ne HO172.out BK184.out (by decide)); have hn185_4 : ad185.block ≠ gb184 := Kd.own_blk (Kd.R_ne HO172.out BK184.out (by decide)); replace hx185_0 := (cell_far (p := ⟨gb183, 0, none⟩) (by first | (rw [add_block]; exact hn185_0) | (show (Addr.add _ _).block ≠ _; rw [add_block]; exact hn185_0) | exact hn185_0) (.int .i64 t173)).trans hx185_0; replace hx185_0 := (cell_far (p := ⟨gb183, 1, none⟩) (by first | (rw [add_block]; exact hn185_1) | (show (Addr.add _ _).block ≠ _; rw [add_block]; exact hn185_1) | exact hn185_1) (.slice Ao24 t174.length co24)).trans hx185_0; replace hx185_0 := (cell_far (p := ⟨gb184, 0, none⟩) (by first | (rw [add_block]; exact hn185_2) | (show (Addr.add _ _).block ≠ _; rw [add_block]; exact hn185_2) | exact hn185_2) (.int .i64 t178)).trans hx185_0; replace hx185_0 := (cell_far (p := ⟨gb184, 1, none⟩) (by first | (rw [add_block]; exact hn185_3) | (show (Addr.add _ _).block ≠ _; rw [add_block]; exact hn185_3) | exact hn185_3) (.int .i64 t179)).trans hx185_0; replace hx185_0 := (cell_far (p := ⟨gb184, 2, none⟩) (by first | (rw [add_block]; exact hn185_4) | (show (Addr.add _ _).block ≠ _; rw [add_block]; exact hn185_4) | exact hn185_4) (.slice Ao26 t180.length co26)).trans hx185_0; clear hn185_0; clear hn185_1; clear hn185_2; clear hn185_3; clear hn185_4; replace p185 := eq_true p185; replace q185 := eq_true q185; have p186 : 0 ≤ (17 : Int) := (by omega); have q186 : 17 < (t170.length : Int) := of_decide_eq_true (by first | (with_reducible assumption) | assumption); obtain ⟨ad186, e186, hx186_0⟩ := Kd.at_int (Kd.R_reads' HO172.out).2.2 17 p186 q186; obtain rfl : ad185 = ad186 := (by injection e186); (try simp only [show (17 : Int).toNat = 17 from rfl, Nat.reduceMul, Nat.reduceEqDiff, Go.Addr.add, ↓reduceIte] at hx186_0); have qi186 : (17 < t170.length) = True := eq_true (by omega); (try rw [show ((17 : Int)).toNat = 17 from rfl] at hx186_0); have hn186_0 : ad185.block ≠ gb183 := Kd.own_blk (Kd.R_ne HO172.out BK183.out (by decide)); have hn186_1 : ad185.block ≠ gb183 := Kd.own_blk (Kd.R_ne HO172.out BK183.out (by decide)); have hn186_2 : ad185.block ≠ gb184 := Kd.own_blk (Kd.R_ne HO172.out BK184.out (by decide)); have hn186_3 : ad185.block ≠ gb184 := Kd.own_blk (Kd.R_ne HO172.out BK184.out (by decide)); have hn186_4 : ad185.block ≠ gb184 := Kd.own_blk (Kd.R_ne HO172.out BK184.out (by decide)); replace hx186_0 := (cell_far (p := ⟨gb183, 0, none⟩) (by first | (rw [add_block]; exact hn186_0) | (show (Addr.add _ _).block ≠ _; rw [add_block]; exact hn186_0) | exact hn186_0) (.int .i64 t173)).trans hx186_0; replace hx186_0 := (cell_far (p := ⟨gb183, 1, none⟩) (by first | (rw [add_block]; exact hn186_1) | (show (Addr.add _ _).block ≠ _; rw [add_block]; exact hn186_1) | exact hn186_1) (.slice Ao24 t174.length co24)).trans hx186_0; replace hx186_0 := (cell_far (p := ⟨gb184, 0, none⟩) (by first | (rw [add_block]; exact hn186_2) | (show (Addr.add _ _).block ≠ _; rw [add_block]; exact hn186_2) | exact hn186_2) (.int .i64 t178)).trans hx186_0; replace hx186_0 := (cell_far (p := ⟨gb184, 1, none⟩) (by first | (rw [add_block]; exact hn186_3) | (show (Addr.add _ _).block ≠ _; rw [add_block]; exact hn186_3) | exact hn186_3) (.int .i64 t179)).trans hx186_0; replace hx186_0 := (cell_far (p := ⟨gb184, 2, none⟩) (by first | (rw [add_block]; exact hn186_4) | (show (Addr.add _ _).block ≠ _; rw [add_block]; exact hn186_4) | exact hn186_4) (.slice Ao26 t180.length co26)).trans hx186_0; clear hn186_0; clear hn186_1; clear hn186_2; clear hn186_3; clear hn186_4; replace p186 := eq_true p186; replace q186 := eq_true q186; have p187 : 0 ≤ (18 : Int) := (by omega); have q187 : 18 < (t170.length : Int) := of_decide_eq_true (by first | (with_reducible assumption) | assumption); obtain ⟨ad187, e187, hx187_0⟩ := Kd.at_int (Kd.R_reads' HO172.out).2.2 18 p187 q187; obtain rfl : ad185 = ad187 := (by injection e187); (try simp only [show (18 : Int).toNat = 18 from rfl, Nat.reduceMul, Nat.reduceEqDiff, Go.Addr.add, ↓reduceIte] at hx187_0); have qi187 : (18 < t170.length) = True := eq_true (by omega); (try rw [show ((18 : Int)).toNat = 18 from rfl] at hx187_0); have hn187_0 : ad185.block ≠ gb183 := Kd.own_blk (Kd.R_ne HO172.out BK183.out (by decide)); have hn187_1 : ad185.block ≠ gb183 := Kd.own_blk (Kd.R_ne HO172.out BK183.out (by decide)); have hn187_2 : ad185.block ≠ gb184 := Kd.own_blk (Kd.R_ne HO172.out BK184.out (by decide)); have hn187_3 : ad185.block ≠ gb184 := Kd.own_blk (Kd.R_ne HO172.out BK184.out (by decide)); have hn187_4 : ad185.block ≠ gb184 := Kd.own_blk (Kd.R_ne HO172.out BK184.out (by decide)); replace hx187_0 := (cell_far (p := ⟨gb183, 0, none⟩) (by first | (rw [add_block]; exact hn187_0) | (show (Addr.add _ _).block ≠ _; rw [add_block]; exact hn187_0) | exact hn187_0) (.int .i64 t173)).trans hx187_0; replace hx187_0 := (cell_far (p := ⟨gb183, 1, none⟩) (by first | (rw [add_block]; exact hn187_1) | (show (Addr.add _ _).block ≠ _; rw [add_block]; exact hn187_1) | exact hn187_1) (.slice Ao24 t174.length co24)).trans hx187_0; replace hx187_0 := (cell_far (p := ⟨gb184, 0, none⟩) (by first | (rw [add_block]; exact hn187_2) | (show (Addr.add _ _).block ≠ _; rw [add_block]; exact hn187_2) | exact hn187_2) (.int .i64 t178)).trans hx187_0; replace hx187_0 := (cell_far (p := ⟨gb184, 1, none⟩) (by first | (rw [add_block]; exact hn187_3) | (show (Addr.add _ _).block ≠ _; rw [add_block]; exact hn187_3) | exact hn187_3) (.int .i64 t179)).trans hx187_0; replace hx187_0 := (cell_far (p := ⟨gb184, 2, none⟩) (by first | (rw [add_block]; exact hn187_4) | (show (Addr.add _ _).block ≠ _; rw [add_block]; exact hn187_4) | exact hn187_4) (.slice Ao26 t180.length co26)).trans hx187_0; clear hn187_0; clear hn187_1; clear hn187_2; clear hn187_3; clear hn187_4; replace p187 := eq_true p187; replace q187 := eq_true q187) | (go_at_call 15; (with_reducible refine (msg_Sane.calls t173 _ _ t174 true _ ?side1 ?side2 A14.out).mono ?_); (case side1 => refine (Kd.R_reads' (e := 5) (base := w.heap.size) (ok := fun k_ => (some k_ ≠ (.slice Ao26 t180.length co26 : Value).ownBlock ∧ some k_ ≠ (.slice (some ad185) t170.length co18 : Value).ownBlock)) (n := t174.length) (c := co24) ?_).2.2; exact (by (with_reducible repeat (first | apply Kd.R_alloc | apply Kd.R_drewN | apply Kd.R_drew)); exact (Kd.R_mono (Kd.R_mono (Kd.R_far (p := ⟨gb184, 2, none⟩) (Kd.R_far (p := ⟨gb184, 1, none⟩) (Kd.R_far (p := ⟨gb184, 0, none⟩) (Kd.R_far (p := ⟨gb183, 1, none⟩) (Kd.R_far (p := ⟨gb183, 0, none⟩) (Kd.R_types (Kd.R_types HO176.out BK183.out (by decide)) BK184.out (by decide)) (fun _ hk => hk.1.2) (.int .i64 t173)) (fun _ hk => hk.1.2) (.slice Ao24 t174.length co24)) (fun _ hk => hk.2) (.int .i64 t178)) (fun _ hk => hk.2) (.int .i64 t179)) (fun _ hk => hk.2) (.slice Ao26 t180.length co26)) (fun _ h_ => h_.1)) (fun _ h_ => h_.1)))); (case side2 => exact (Kd.R_reads' HO176.out).2.1); rintro e w27 ⟨rfl, hb⟩; have n0_ := Aside0.mk (Kd.R_below (by (with_reducible repeat (first | apply Kd.R_alloc | apply Kd.R_drewN | apply Kd.R_drew)); exact (Kd.R_mono (Kd.R_mono (Kd.R_far (p := ⟨gb184, 2, none⟩) (Kd.R_far (p := ⟨gb184, 1, none⟩) (Kd.R_far (p := ⟨gb184, 0, none⟩) (Kd.R_far (p := ⟨gb183, 1, none⟩) (Kd.R_far (p := ⟨gb183, 0, none⟩) (Kd.R_types (Kd.R_types HO172.out BK183.out (by decide)) BK184.out (by decide)) (fun _ hk => hk.1.2) (.int .i64 t173)) (fun _ hk => hk.1.2) (.slice Ao24 t174.length co24)) (fun _ hk => hk.2) (.int .i64 t178)) (fun _ hk => hk.2) (.int .i64 t179)) (fun _ hk => hk.2) (.slice Ao26 t180.length co26)) (fun _ h_ => h_.1)) (fun _ h_ => h_.1))) hb); have n1_ := Aside0.mk (Kd.R_below (by (with_reducible repeat (first | apply Kd.R_alloc | apply Kd.R_drewN | apply Kd.R_drew)); exact (Kd.R_mono (Kd.R_mono (Kd.R_far (p := ⟨gb184, 2, none⟩) (Kd.R_far (p := ⟨gb184, 1, none⟩) (Kd.R_far (p := ⟨gb184, 0, none⟩) (Kd.R_far (p := ⟨gb183, 1, none⟩) (Kd.R_far (p := ⟨gb183, 0, none⟩) (Kd.R_types (Kd.R_types HO176.out BK183.out (by decide)) BK184.out (by decide)) (fun _ hk => hk.1.2) (.int .i64 t173)) (fun _ hk => hk.1.2) (.slice Ao24 t174.length co24)) (fun _ hk => hk.2) (.int .i64 t178)) (fun _ hk => hk.2) (.int .i64 t179)) (fun _ hk => hk.2) (.slice Ao26 t180.length co26)) (fun _ h_ => h_.1)) (fun _ h_ => h_.1))) hb); have n2_ := Aside0.mk (Kd.R_below (by (with_reducible repeat (first | apply Kd.R_alloc | apply Kd.R_drewN | apply Kd.R_drew)); exact (Kd.R_mono (Kd.R_mono (Kd.R_far (p := ⟨gb184, 2, none⟩) (Kd.R_far (p := ⟨gb184, 1, none⟩) (Kd.R_far (p := ⟨gb184, 0, none⟩) (Kd.R_far (p := ⟨gb183, 1, none⟩) (Kd.R_far (p := ⟨gb183, 0, none⟩) (Kd.R_types (Kd.R_types HO182.out BK183.out (by decide)) BK184.out (by decide)) (fun _ hk => hk.1.2) (.int .i64 t173)) (fun _ hk => hk.1.2) (.slice Ao24 t174.length co24)) (fun _ hk => hk.2) (.int .i64 t178)) (fun _ hk => hk.2) (.int .i64 t179)) (fun _ hk => hk.2) (.slice Ao26 t180.length co26)) (fun _ h_ => h_.1)) (fun _ h_ => h_.1))) hb); have n3_ := Aside0.mk (blk_below (g := gb183) (o := .cells #[.int .i64 t173, .slice Ao24 t174.length co24] 24 (0, 0)) (by (with_reducible repeat (first | refine kN ?_ _ | refine kD ?_ | refine kA ?_ _)); refine blk_far ?_ NB183_184.out _; (with_reducible repeat (first | refine kN ?_ _ | refine kD ?_ | refine kA ?_ _)); refine blk_far ?_ NB183_184.out _; (with_reducible repeat (first | refine kN ?_ _ | refine kD ?_ | refine kA ?_ _)); refine blk_far ?_ NB183_184.out _; (with_reducible repeat (first | refine kN ?_ _ | refine kD ?_ | refine kA ?_ _)); refine blk_put (cs := #[.int .i64 t173, .slice none 0 0]) ?_ 1 _ rfl; (with_reducible repeat (first | refine kN ?_ _ | refine kD ?_ | refine kA ?_ _)); refine blk_put (cs := #[.int .i64 0, .slice none 0 0]) ?_ 0 _ rfl; (with_reducible repeat (first | refine kN ?_ _ | refine kD ?_ | refine kA ?_ _)); exact BK183.out) hb); have n4_ := Aside0.mk (blk_below (g := gb184) (o := .cells #[.int .i64 t178, .int .i64 t179, .slice Ao26 t180.length co26] 27 (0, 0)) (by (with_reducible repeat (first | refine kN ?_ _ | refine kD ?_ | refine kA ?_ _)); refine blk_put (cs := #[.int .i64 t178, .int .i64 t179, .slice none 0 0]) ?_ 2 _ rfl; (with_reducible repeat (first | refine kN ?_ _ | refine kD ?_ | refine kA ?_ _)); refine blk_put (cs := #[.int .i64 t178, .int .i64 0, .slice none 0 0]) ?_ 1 _ rfl; (with_reducible repeat (first | refine kN ?_ _ | refine kD ?_ | refine kA ?_ _)); refine blk_put (cs := #[.int .i64 0, .int .i64 0, .slice none 0 0]) ?_ 0 _ rfl; (with_reducible repeat (first | refine kN ?_ _ | refine kD ?_ | refine kA ?_ _)); refine blk_far ?_ NB184_183.out _; (with_reducible repeat (first | refine kN ?_ _ | refine kD ?_ | refine kA ?_ _)); refine blk_far ?_ NB184_183.out _; (with_reducible repeat (first | refine kN ?_ _ | refine kD ?_ | refine kA ?_ _)); exact BK184.out) hb); have n5_ := Aside0.mk (below_step (by repeat (first | (with_reducible first | exact HB.out | apply bA | apply bN | apply bD | refine bS ?_ GE183.out | refine bS ?_ GE184.out) | exact HB.out)) hb); clear HO172; clear HO176; clear HO182; clear BK183; clear BK184; clear HB; have HO172 := n0_; have HO176 := n1_; have HO182 := n2_; have BK183 := n3_; have BK184 := n4_; have HB := n5_; clear n0_ n1_ n2_ n3_ n4_ n5_; (try clear hb); (try clear hb2); (try clear hk); (try clear hi)) | (go_at_call 13; (with_reducible refine (msg_Least.calls 1 t189 _ A16.out).mono ?_); rintro e w' ⟨rfl, ⟨nd, rfl⟩⟩))
             all_goals first | (go_ret; refine ⟨?_, ?_⟩; (focus (first | rfl | (simp [errW_none, errW_some] <;> rfl) | (rw [HRL_.out] <;> rfl) | (simp only [HRL_.out] <;> rfl) | (have h_ := HRL_.out; simp at h_; simp [h_]; done) | (have h_ := HRL_.out; simp [*] at h_ ⊢; done) | (simp [*, errW_none, errW_some] <;> rfl))); (focus (repeat (first | (with_reducible first | exact HB.out | apply bA | apply bN | apply bD | refine bS ?_ GE183.out | refine bS ?_ GE184.out) | exact HB.out)))) | (exfalso; simp_all; done)
            ·
             replace c15 := Bool.eq_false_iff.mpr c15
             subst c15
             have H1 : (some false) = some true := by rw [if_neg (show ¬ (false = true) by decide)] at H; first | done | exact H
             clear H
             have H := H1
             clear H1
             exact absurd H (by simp)
           ·
            rw [if_neg c13] at H
            have c13b0 : ((t174.length : Int) == 0) = false := beq_eq_false_iff_ne.mpr c13
            have c13b1 : ((t174.length : Int) != 0) = true := bne_iff_ne.mpr c13
            have c13b2 : ¬ (t174 = []) := fun h_ => c13 (by rw [h_]; rfl)
            exact absurd H (by simp)
          ·
           rw [if_neg c12] at H
           have c12b0 : (t173 == 4) = false := beq_eq_false_iff_ne.mpr c12
           have c12b1 : (t173 != 4) = true := bne_iff_ne.mpr c12
           exact absurd H (by simp)
         ·
          rw [if_neg c11] at H
          have c11b0 : (t178 == 0) = false := beq_eq_false_iff_ne.mpr c11
          have c11b1 : (t178 != 0) = true := bne_iff_ne.mpr c11
          exact absurd H (by simp)
        ·
         rw [if_neg c10] at H
         have c10b0 : (t177 == 19) = false := beq_eq_false_iff_ne.mpr c10
         have c10b1 : (t177 != 19) = true := bne_iff_ne.mpr c10
         exact absurd H (by simp)
       ·
        rw [if_neg c9] at H
        have c9b0 : ((rd t170 18) == 4) = false := beq_eq_false_iff_ne.mpr c9
        have c9b1 : ((rd t170 18) != 4) = true := bne_iff_ne.mpr c9
        exact absurd H (by simp)
      ·
       rw [if_neg c8] at H
       exact absurd H (by simp)
     ·
      rw [if_neg c7] at H
      have c7b0 : ((rd t170 17) == 19) = false := beq_eq_false_iff_ne.mpr c7
      have c7b1 : ((rd t170 17) != 19) = true := bne_iff_ne.mpr c7
      exact absurd H (by simp)
    ·
     rw [if_neg c6] at H
     exact absurd H (by simp)
   ·
    rw [if_neg c5] at H
    have c5b0 : ((rd t170 0) == 255) = false := beq_eq_false_iff_ne.mpr c5
    have c5b1 : ((rd t170 0) != 255) = true := bne_iff_ne.mpr c5
    exact absurd H (by simp)
  ·
   rw [if_neg c4] at H
   exact absurd H (by simp)
 ·
  rw [if_neg c3] at H
  have c3b0 : ((t170.length : Int) == 19) = false := beq_eq_false_iff_ne.mpr c3
  have c3b1 : ((t170.length : Int) != 19) = true := bne_iff_ne.mpr c3
  exact absurd H (by simp)

/-- What ridgewaylaw03_awake reckons comes to true. -/
theorem ridgewaylaw03_awake.gt : ridgewaylaw03_awake.g 200 = some true := by first | rfl | kernel_rfl | decide
def ridgewaylaw03_awake.f : Option Bool := some true
theorem ridgewaylaw03_awake.calls (r : Bool) (w : World) (h : ridgewaylaw03_awake.f = some r) :
  Calls Try.prog 8 #[] w fun e w' => e = .returned (.bool r) ∧ Below w.heap.size w w' := by
 obtain rfl := Option.some.inj h
 exact ridgewaylaw03_awake.callsT 200 w ridgewaylaw03_awake.gt

/-! ### ridgewayref03_Least: function 14 -/
def ridgewayref03_Least.f (a0 : Int) : Option (Int) := if a0 = 1 then (some 29) else (if a0 = 2 then (some 23) else (if a0 = 3 then (some 21) else (if a0 = 4 then (some 19) else (some 0))))
set_option maxHeartbeats 8000000 in
set_option maxRecDepth 100000 in
theorem ridgewayref03_Least.calls (a0 : Int) (r : Int) (w : World) (h : ridgewayref03_Least.f a0 = some r) :
  Calls Try.prog 14 #[.int .i64 a0] w fun e w' => e = .returned (.int .i64 r) ∧ Drawn0 w w' := by
 have H : (if a0 = 1 then (some 29) else (if a0 = 2 then (some 23) else (if a0 = 3 then (some 21) else (if a0 = 4 then (some 19) else (some 0))))) = some r := h
 clear h
 by_cases c2 : a0 = 1
 ·
  rw [if_pos c2] at H
  have c2b0 : (a0 == 1) = true := beq_iff_eq.mpr c2
  have c2b1 : (a0 != 1) = false := bne_eq_false_iff_eq.mpr c2
  clear c2
  obtain rfl := Option.some.inj H
  go_enter Try.func14, Try.ntmps14
  go_wp2
  go_ret
  exact ⟨by first | rfl | (simp; done) | (simp [*]; done), by repeat (first | exact Drawn0.refl _ | apply Drawn0.step)⟩
 ·
  rw [if_neg c2] at H
  have c2b0 : (a0 == 1) = false := beq_eq_false_iff_ne.mpr c2
  have c2b1 : (a0 != 1) = true := bne_iff_ne.mpr c2
  by_cases c3 : a0 = 2
  ·
   rw [if_pos c3] at H
   have c3b0 : (a0 == 2) = true := beq_iff_eq.mpr c3
   have c3b1 : (a0 != 2) = false := bne_eq_false_iff_eq.mpr c3
   clear c3
   obtain rfl := Option.some.inj H
   go_enter Try.func14, Try.ntmps14
   go_wp2
   go_ret
   exact ⟨by first | rfl | (simp; done) | (simp [*]; done), by repeat (first | exact Drawn0.refl _ | apply Drawn0.step)⟩
  ·
   rw [if_neg c3] at H
   have c3b0 : (a0 == 2) = false := beq_eq_false_iff_ne.mpr c3
   have c3b1 : (a0 != 2) = true := bne_iff_ne.mpr c3
   by_cases c4 : a0 = 3
   ·
    rw [if_pos c4] at H
    have c4b0 : (a0 == 3) = true := beq_iff_eq.mpr c4
    have c4b1 : (a0 != 3) = false := bne_eq_false_iff_eq.mpr c4
    clear c4
    obtain rfl := Option.some.inj H
    go_enter Try.func14, Try.ntmps14
    go_wp2
    go_ret
    exact ⟨by first | rfl | (simp; done) | (simp [*]; done), by repeat (first | exact Drawn0.refl _ | apply Drawn0.step)⟩
   ·
    rw [if_neg c4] at H
    have c4b0 : (a0 == 3) = false := beq_eq_false_iff_ne.mpr c4
    have c4b1 : (a0 != 3) = true := bne_iff_ne.mpr c4
    by_cases c5 : a0 = 4
    ·
     rw [if_pos c5] at H
     have c5b0 : (a0 == 4) = true := beq_iff_eq.mpr c5
     have c5b1 : (a0 != 4) = false := bne_eq_false_iff_eq.mpr c5
     clear c5
     obtain rfl := Option.some.inj H
     go_enter Try.func14, Try.ntmps14
     go_wp2
     go_ret
     exact ⟨by first | rfl | (simp; done) | (simp [*]; done), by repeat (first | exact Drawn0.refl _ | apply Drawn0.step)⟩
    ·
     rw [if_neg c5] at H
     have c5b0 : (a0 == 4) = false := beq_eq_false_iff_ne.mpr c5
     have c5b1 : (a0 != 4) = true := bne_iff_ne.mpr c5
     obtain rfl := Option.some.inj H
     go_enter Try.func14, Try.ntmps14
     go_wp2
     go_ret
     exact ⟨by first | rfl | (simp; done) | (simp [*]; done), by repeat (first | exact Drawn0.refl _ | apply Drawn0.step)⟩

/-! ### ridgewayref03_fits: function 24 -/
def ridgewayref03_fits.f (a0 : Int) (a1 : Int) : Option (Bool) := (ridgewayref03_Least.f a0).bind fun t190 => (if t190 > 0 then ((ridgewayref03_Least.f a0).bind fun t191 => (if a1 ≥ t191 then (if a1 ≤ 4096 then (if a0 = 4 then (some (a1 == 19)) else (some true)) else (some false)) else (some false))) else (some false))
set_option maxHeartbeats 8000000 in
set_option maxRecDepth 100000 in
theorem ridgewayref03_fits.calls (a0 : Int) (a1 : Int) (r : Bool) (w : World) (h : ridgewayref03_fits.f a0 a1 = some r) :
  Calls Try.prog 24 #[.int .i64 a0, .int .i64 a1] w fun e w' => e = .returned (.bool r) ∧ Drawn0 w w' := by
 have H : ((ridgewayref03_Least.f a0).bind fun t190 => (if t190 > 0 then ((ridgewayref03_Least.f a0).bind fun t191 => (if a1 ≥ t191 then (if a1 ≤ 4096 then (if a0 = 4 then (some (a1 == 19)) else (some true)) else (some false)) else (some false))) else (some false))) = some r := h
 clear h
 replace H := Option.bind_eq_some_iff.mp H
 obtain ⟨t190, A30, H⟩ := H
 replace H : (if t190 > 0 then ((ridgewayref03_Least.f a0).bind fun t191 => (if a1 ≥ t191 then (if a1 ≤ 4096 then (if a0 = 4 then (some (a1 == 19)) else (some true)) else (some false)) else (some false))) else (some false)) = some r := H
 have A3 := Aside0.mk A30
 clear A30
 by_cases c4 : t190 > 0
 ·
  rw [if_pos c4] at H
  have c4b0 : decide (0 < t190) = true := decide_eq_true c4
  clear c4
  replace H := Option.bind_eq_some_iff.mp H
  obtain ⟨t191, A50, H⟩ := H
  replace H : (if a1 ≥ t191 then (if a1 ≤ 4096 then (if a0 = 4 then (some (a1 == 19)) else (some true)) else (some false)) else (some false)) = some r := H
  have A5 := Aside0.mk A50
  clear A50
  by_cases c6 : a1 ≥ t191
  ·
   rw [if_pos c6] at H
   have c6b0 : decide (t191 ≤ a1) = true := decide_eq_true c6
   clear c6
   by_cases c7 : a1 ≤ 4096
   ·
    rw [if_pos c7] at H
    have c7b0 : decide (a1 ≤ 4096) = true := decide_eq_true c7
    clear c7
    by_cases c8 : a0 = 4
    ·
     rw [if_pos c8] at H
     have c8b0 : (a0 == 4) = true := beq_iff_eq.mpr c8
     have c8b1 : (a0 != 4) = false := bne_eq_false_iff_eq.mpr c8
     clear c8
     obtain rfl := Option.some.inj H
     go_enter Try.func24, Try.ntmps24
     go_wp2_with (first | ((with_reducible refine gate_callee (f := 14) rfl ?_); refine goesL_ (some 6) rfl rfl Try.func14 (by kernel_rfl) rfl #[.int .i64 a0] rfl (by (try simp only [List.map_toArray, List.map_cons, List.map_nil]); first | done | rfl | (simp only [List.length_drop, List.length_take]; rfl)) ?_; (with_reducible refine (ridgewayref03_Least.calls a0 t190 _ A3.out).mono ?_); rintro e w' ⟨rfl, ⟨nd, rfl⟩⟩; refine ⟨_, rfl, ?_⟩) | (go_at_call 14; (with_reducible refine (ridgewayref03_Least.calls a0 t191 _ A5.out).mono ?_); rintro e w' ⟨rfl, ⟨nd, rfl⟩⟩))
     go_ret
     exact ⟨by first | rfl | (simp; done) | (simp [*]; done), by repeat (first | exact Drawn0.refl _ | apply Drawn0.step)⟩
    ·
     rw [if_neg c8] at H
     have c8b0 : (a0 == 4) = false := beq_eq_false_iff_ne.mpr c8
     have c8b1 : (a0 != 4) = true := bne_iff_ne.mpr c8
     obtain rfl := Option.some.inj H
     go_enter Try.func24, Try.ntmps24
     go_wp2_with (first | ((with_reducible refine gate_callee (f := 14) rfl ?_); refine goesL_ (some 6) rfl rfl Try.func14 (by kernel_rfl) rfl #[.int .i64 a0] rfl (by (try simp only [List.map_toArray, List.map_cons, List.map_nil]); first | done | rfl | (simp only [List.length_drop, List.length_take]; rfl)) ?_; (with_reducible refine (ridgewayref03_Least.calls a0 t190 _ A3.out).mono ?_); rintro e w' ⟨rfl, ⟨nd, rfl⟩⟩; refine ⟨_, rfl, ?_⟩) | (go_at_call 14; (with_reducible refine (ridgewayref03_Least.calls a0 t191 _ A5.out).mono ?_); rintro e w' ⟨rfl, ⟨nd, rfl⟩⟩))
     go_ret
     exact ⟨by first | rfl | (simp; done) | (simp [*]; done), by repeat (first | exact Drawn0.refl _ | apply Drawn0.step)⟩
   ·
    rw [if_neg c7] at H
    have c7b0 : decide (a1 ≤ 4096) = false := decide_eq_false c7
    clear c7
    obtain rfl := Option.some.inj H
    go_enter Try.func24, Try.ntmps24
    go_wp2_with (first | ((with_reducible refine gate_callee (f := 14) rfl ?_); refine goesL_ (some 6) rfl rfl Try.func14 (by kernel_rfl) rfl #[.int .i64 a0] rfl (by (try simp only [List.map_toArray, List.map_cons, List.map_nil]); first | done | rfl | (simp only [List.length_drop, List.length_take]; rfl)) ?_; (with_reducible refine (ridgewayref03_Least.calls a0 t190 _ A3.out).mono ?_); rintro e w' ⟨rfl, ⟨nd, rfl⟩⟩; refine ⟨_, rfl, ?_⟩) | (go_at_call 14; (with_reducible refine (ridgewayref03_Least.calls a0 t191 _ A5.out).mono ?_); rintro e w' ⟨rfl, ⟨nd, rfl⟩⟩))
    go_ret
    exact ⟨by first | rfl | (simp; done) | (simp [*]; done), by repeat (first | exact Drawn0.refl _ | apply Drawn0.step)⟩
  ·
   rw [if_neg c6] at H
   have c6b0 : decide (t191 ≤ a1) = false := decide_eq_false c6
   clear c6
   obtain rfl := Option.some.inj H
   go_enter Try.func24, Try.ntmps24
   go_wp2_with (first | ((with_reducible refine gate_callee (f := 14) rfl ?_); refine goesL_ (some 6) rfl rfl Try.func14 (by kernel_rfl) rfl #[.int .i64 a0] rfl (by (try simp only [List.map_toArray, List.map_cons, List.map_nil]); first | done | rfl | (simp only [List.length_drop, List.length_take]; rfl)) ?_; (with_reducible refine (ridgewayref03_Least.calls a0 t190 _ A3.out).mono ?_); rintro e w' ⟨rfl, ⟨nd, rfl⟩⟩; refine ⟨_, rfl, ?_⟩) | (go_at_call 14; (with_reducible refine (ridgewayref03_Least.calls a0 t191 _ A5.out).mono ?_); rintro e w' ⟨rfl, ⟨nd, rfl⟩⟩))
   go_ret
   exact ⟨by first | rfl | (simp; done) | (simp [*]; done), by repeat (first | exact Drawn0.refl _ | apply Drawn0.step)⟩
 ·
  rw [if_neg c4] at H
  have c4b0 : decide (0 < t190) = false := decide_eq_false c4
  clear c4
  obtain rfl := Option.some.inj H
  go_enter Try.func24, Try.ntmps24
  go_wp2_with (first | ((with_reducible refine gate_callee (f := 14) rfl ?_); refine goesL_ (some 6) rfl rfl Try.func14 (by kernel_rfl) rfl #[.int .i64 a0] rfl (by (try simp only [List.map_toArray, List.map_cons, List.map_nil]); first | done | rfl | (simp only [List.length_drop, List.length_take]; rfl)) ?_; (with_reducible refine (ridgewayref03_Least.calls a0 t190 _ A3.out).mono ?_); rintro e w' ⟨rfl, ⟨nd, rfl⟩⟩; refine ⟨_, rfl, ?_⟩))
  go_ret
  exact ⟨by first | rfl | (simp; done) | (simp [*]; done), by repeat (first | exact Drawn0.refl _ | apply Drawn0.step)⟩

end Go.Proofs.Ythmlhimmgciakaa.Q
