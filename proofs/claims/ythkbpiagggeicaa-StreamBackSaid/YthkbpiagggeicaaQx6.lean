/- Each call of a Go function comes to what the Lean function of its name answers (written out by wip/tools/xprint.py, checked by Lean); conditions: those in each statement. -/
import Derived.Test.YthkbpiagggeicaaQx0
import Derived.Test.YthkbpiagggeicaaQx2
import Derived.Test.YthkbpiagggeicaaQx4
import Derived.Test.YthkbpiagggeicaaQx5
namespace Go.Proofs.Ythkbpiagggeicaa.Q
open Go.RowKit Go.Proofs.YthkbpiagggeicaaW.PrintWords Go.Proofs.YthkbpiagggeicaaW.PrintLast Go.Proofs.YthkbpiagggeicaaW.PrintMore Go.Proofs.YthkbpiagggeicaaW.PrintX
attribute [local go_sem] max2_int min2_int max_two min_two max_three min_three max_four min_four   -- for this text's walks alone
set_option linter.unusedVariables false
set_option linter.unusedSimpArgs false

/-! ### ridgewaylaw04_awake: function 7 -/
def ridgewaylaw04_awake.g (k : Nat)  : Option (Bool) := (msg_Put.f k ([] : List Int) 4 ([] : List Int)).bind fun t183 => (if (t183.length : Int) = 19 then (if 9 ≤ (t183.length : Int) then ((stream_Feed.f ([] : List Int) false (t183.take 9)).bind fun bt191 => ((stream_Feed.f bt191.1 bt191.2.1 (t183.drop 9)).bind fun bt210 => (if (bt191.2.2.1.length : Int) = 0 then (if bt191.2.2.2.1 = 0 then (if (bt191.1.length : Int) = 9 then ((stream_Sane.f k bt191.1 bt191.2.1).bind fun t224 => (if t224 = true then (if (bt210.2.2.1.length : Int) = 1 then (if 0 < (bt210.2.2.1.length : Int) then (if ((rd_T43 bt210.2.2.1 0).f0) = 4 then (if bt210.2.2.2.1 = 0 then (some ((bt210.1.length : Int) == 0)) else (some false)) else (some false)) else (none)) else (some false)) else (some false))) else (some false)) else (some false)) else (some false)))) else (none)) else (some false))
theorem ridgewaylaw04_awake.mono : ∀ k, LeO (ridgewaylaw04_awake.g k ) (ridgewaylaw04_awake.g (k + 1) ) := by
 intro  k
 unfold ridgewaylaw04_awake.g
 repeat' first
   | (with_reducible exact msg_Put.mono _ _ _ _)
   | (with_reducible exact stream_Sane.mono _ _ _)
   | (with_reducible exact LeO.refl _)
   | (with_reducible exact LeO.none _)
   | (with_reducible refine LeO.ite ?_ ?_)
   | (with_reducible refine LeO.bind ?_ (fun _ => ?_))
   | exact msg_Put.mono _ _ _ _
   | exact stream_Sane.mono _ _ _
   | exact LeO.none _
   | refine LeO.ite ?_ ?_
   | refine LeO.bind ?_ (fun _ => ?_)
def ridgewaylaw04_awake.T5 : Bool × List (List Nat × List Nat) := (true, [([], []), ([], []), ([1], [1]), ([0, 2], [0, 2]), ([3], [3]), ([4], [4]), ([4], [4]), ([4], [4]), ([], []), ([], []), ([8, 5, 3, 0, 1, 2, 3, 4, 5, 8, 9], [5, 8]), ([6, 10, 0, 1, 2, 3, 4, 5, 6, 8, 9, 10], [6]), ([9, 7, 11, 0, 1, 2, 3, 4, 5, 6, 7, 8, 9, 10, 11], [7, 9])])
def ridgewaylaw04_awake.B5 : List Nat := [0, 0, 2, 7, 15, 31, 31, 31, 0, 0, 831, 1919, 4095]
theorem ridgewaylaw04_awake.tab5 : rtab .any (opsOf Try.f7 5) = ridgewaylaw04_awake.T5 := by kernel_rfl
theorem ridgewaylaw04_awake.bits5 : waitsOk ridgewaylaw04_awake.T5.2 ridgewaylaw04_awake.B5 = true := by kernel_rfl
set_option maxHeartbeats 8000000 in
set_option maxRecDepth 100000 in
theorem ridgewaylaw04_awake.callsT (k : Nat)  (w : World) (h : ridgewaylaw04_awake.g k  = some true) :
  Calls Try.prog 7 #[] w fun e w' => e = .returned (.bool true) ∧ Below w.heap.size w w' := by
 have hu43 := Try.underlying43
 have hu26 := Try.underlying26
 have hu29 := Try.underlying29
 have HB := Aside0.mk (Below.refl w.heap.size w)
 have H : ((msg_Put.f k ([] : List Int) 4 ([] : List Int)).bind fun t183 => (if (t183.length : Int) = 19 then (if 9 ≤ (t183.length : Int) then ((stream_Feed.f ([] : List Int) false (t183.take 9)).bind fun bt191 => ((stream_Feed.f bt191.1 bt191.2.1 (t183.drop 9)).bind fun bt210 => (if (bt191.2.2.1.length : Int) = 0 then (if bt191.2.2.2.1 = 0 then (if (bt191.1.length : Int) = 9 then ((stream_Sane.f k bt191.1 bt191.2.1).bind fun t224 => (if t224 = true then (if (bt210.2.2.1.length : Int) = 1 then (if 0 < (bt210.2.2.1.length : Int) then (if ((rd_T43 bt210.2.2.1 0).f0) = 4 then (if bt210.2.2.2.1 = 0 then (some ((bt210.1.length : Int) == 0)) else (some false)) else (some false)) else (none)) else (some false)) else (some false))) else (some false)) else (some false)) else (some false)))) else (none)) else (some false))) = some true := h
 clear h
 replace H := Option.bind_eq_some_iff.mp H
 obtain ⟨t183, A10, H⟩ := H
 replace H : (if (t183.length : Int) = 19 then (if 9 ≤ (t183.length : Int) then ((stream_Feed.f ([] : List Int) false (t183.take 9)).bind fun bt191 => ((stream_Feed.f bt191.1 bt191.2.1 (t183.drop 9)).bind fun bt210 => (if (bt191.2.2.1.length : Int) = 0 then (if bt191.2.2.2.1 = 0 then (if (bt191.1.length : Int) = 9 then ((stream_Sane.f k bt191.1 bt191.2.1).bind fun t224 => (if t224 = true then (if (bt210.2.2.1.length : Int) = 1 then (if 0 < (bt210.2.2.1.length : Int) then (if ((rd_T43 bt210.2.2.1 0).f0) = 4 then (if bt210.2.2.2.1 = 0 then (some ((bt210.1.length : Int) == 0)) else (some false)) else (some false)) else (none)) else (some false)) else (some false))) else (some false)) else (some false)) else (some false)))) else (none)) else (some false)) = some true := H
 have A1 := Aside0.mk A10
 clear A10
 by_cases c2 : (t183.length : Int) = 19
 ·
  rw [if_pos c2] at H
  have c2b0 : ((t183.length : Int) == 19) = true := beq_iff_eq.mpr c2
  have c2b1 : ((t183.length : Int) != 19) = false := bne_eq_false_iff_eq.mpr c2
  clear c2
  by_cases c3 : 9 ≤ (t183.length : Int)
  ·
   rw [if_pos c3] at H
   have c3b0 := eq_true c3
   have c3b1 : decide (9 ≤ (t183.length : Int)) = true := decide_eq_true c3
   clear c3
   obtain ⟨y186, hy186⟩ : ∃ y_ : List Int, y_ = (t183.take 9) := ⟨_, rfl⟩
   replace H : ((stream_Feed.f ([] : List Int) false y186).bind fun bt191 => ((stream_Feed.f bt191.1 bt191.2.1 (t183.drop 9)).bind fun bt210 => (if (bt191.2.2.1.length : Int) = 0 then (if bt191.2.2.2.1 = 0 then (if (bt191.1.length : Int) = 9 then ((stream_Sane.f k bt191.1 bt191.2.1).bind fun t224 => (if t224 = true then (if (bt210.2.2.1.length : Int) = 1 then (if 0 < (bt210.2.2.1.length : Int) then (if ((rd_T43 bt210.2.2.1 0).f0) = 4 then (if bt210.2.2.2.1 = 0 then (some ((bt210.1.length : Int) == 0)) else (some false)) else (some false)) else (none)) else (some false)) else (some false))) else (some false)) else (some false)) else (some false)))) = some true := by first | (rw [hy186]; with_reducible exact H) | (have H2_ := (Option.bind_some _ _).symm.trans H; rw [hy186]; with_reducible exact H2_) | (have H2_ := (Option.bind_some _ _).symm.trans H; with_reducible exact H2_) | with_reducible exact H | (rw [hy186]; exact H) | exact H
   have Ny186 := Aside0.mk hy186
   clear hy186
   replace H := Option.bind_eq_some_iff.mp H
   obtain ⟨⟨t191, t194, t195, t198, t199, t200⟩, A40, H⟩ := H
   replace H : ((stream_Feed.f t191 t194 (t183.drop 9)).bind fun bt210 => (if (t195.length : Int) = 0 then (if t198 = 0 then (if (t191.length : Int) = 9 then ((stream_Sane.f k t191 t194).bind fun t224 => (if t224 = true then (if (bt210.2.2.1.length : Int) = 1 then (if 0 < (bt210.2.2.1.length : Int) then (if ((rd_T43 bt210.2.2.1 0).f0) = 4 then (if bt210.2.2.2.1 = 0 then (some ((bt210.1.length : Int) == 0)) else (some false)) else (some false)) else (none)) else (some false)) else (some false))) else (some false)) else (some false)) else (some false))) = some true := H
   have A4 := Aside0.mk A40
   clear A40
   have c5b0 := eq_true (of_decide_eq_true (by first | (with_reducible assumption) | assumption) : 9 ≤ (t183.length : Int))
   obtain ⟨y205, hy205⟩ : ∃ y_ : List Int, y_ = (t183.drop 9) := ⟨_, rfl⟩
   replace H : ((stream_Feed.f t191 t194 y205).bind fun bt210 => (if (t195.length : Int) = 0 then (if t198 = 0 then (if (t191.length : Int) = 9 then ((stream_Sane.f k t191 t194).bind fun t224 => (if t224 = true then (if (bt210.2.2.1.length : Int) = 1 then (if 0 < (bt210.2.2.1.length : Int) then (if ((rd_T43 bt210.2.2.1 0).f0) = 4 then (if bt210.2.2.2.1 = 0 then (some ((bt210.1.length : Int) == 0)) else (some false)) else (some false)) else (none)) else (some false)) else (some false))) else (some false)) else (some false)) else (some false))) = some true := by first | (rw [hy205]; with_reducible exact H) | (have H2_ := (Option.bind_some _ _).symm.trans H; rw [hy205]; with_reducible exact H2_) | (have H2_ := (Option.bind_some _ _).symm.trans H; with_reducible exact H2_) | with_reducible exact H | (rw [hy205]; exact H) | exact H
   have Ny205 := Aside0.mk hy205
   clear hy205
   replace H := Option.bind_eq_some_iff.mp H
   obtain ⟨⟨t210, t213, t214, t217, t218, t219⟩, A60, H⟩ := H
   replace H : (if (t195.length : Int) = 0 then (if t198 = 0 then (if (t191.length : Int) = 9 then ((stream_Sane.f k t191 t194).bind fun t224 => (if t224 = true then (if (t214.length : Int) = 1 then (if 0 < (t214.length : Int) then (if ((rd_T43 t214 0).f0) = 4 then (if t217 = 0 then (some ((t210.length : Int) == 0)) else (some false)) else (some false)) else (none)) else (some false)) else (some false))) else (some false)) else (some false)) else (some false)) = some true := H
   have A6 := Aside0.mk A60
   clear A60
   by_cases c7 : (t195.length : Int) = 0
   ·
    rw [if_pos c7] at H
    have c7b0 : ((t195.length : Int) == 0) = true := beq_iff_eq.mpr c7
    have c7b1 : ((t195.length : Int) != 0) = false := bne_eq_false_iff_eq.mpr c7
    clear c7
    by_cases c8 : t198 = 0
    ·
     rw [if_pos c8] at H
     have c8b0 : (t198 == 0) = true := beq_iff_eq.mpr c8
     have c8b1 : (t198 != 0) = false := bne_eq_false_iff_eq.mpr c8
     clear c8
     by_cases c9 : (t191.length : Int) = 9
     ·
      rw [if_pos c9] at H
      have c9b0 : ((t191.length : Int) == 9) = true := beq_iff_eq.mpr c9
      have c9b1 : ((t191.length : Int) != 9) = false := bne_eq_false_iff_eq.mpr c9
      clear c9
      replace H := Option.bind_eq_some_iff.mp H
      obtain ⟨t224, A100, H⟩ := H
      replace H : (if t224 = true then (if (t214.length : Int) = 1 then (if 0 < (t214.length : Int) then (if ((rd_T43 t214 0).f0) = 4 then (if t217 = 0 then (some ((t210.length : Int) == 0)) else (some false)) else (some false)) else (none)) else (some false)) else (some false)) = some true := H
      have A10 := Aside0.mk A100
      clear A100
      by_cases c11 : t224 = true
      ·
       subst c11
       have H1 : (if (t214.length : Int) = 1 then (if 0 < (t214.length : Int) then (if ((rd_T43 t214 0).f0) = 4 then (if t217 = 0 then (some ((t210.length : Int) == 0)) else (some false)) else (some false)) else (none)) else (some false)) = some true := by rw [if_pos rfl] at H; first | done | exact H
       clear H
       have H := H1
       clear H1
       by_cases c12 : (t214.length : Int) = 1
       ·
        rw [if_pos c12] at H
        have c12b0 : ((t214.length : Int) == 1) = true := beq_iff_eq.mpr c12
        have c12b1 : ((t214.length : Int) != 1) = false := bne_eq_false_iff_eq.mpr c12
        clear c12
        by_cases c13 : 0 < (t214.length : Int)
        ·
         rw [if_pos c13] at H
         have c13b0 : decide (0 < (t214.length : Int)) = true := decide_eq_true c13
         have c13b1 : decide (0 < t214.length) = true := decide_eq_true (by omega)
         clear c13
         by_cases c14 : ((rd_T43 t214 0).f0) = 4
         ·
          rw [if_pos c14] at H
          have c14b0 : (((rd_T43 t214 0).f0) == 4) = true := beq_iff_eq.mpr c14
          have c14b1 : (((rd_T43 t214 0).f0) != 4) = false := bne_eq_false_iff_eq.mpr c14
          clear c14
          by_cases c15 : t217 = 0
          ·
           rw [if_pos c15] at H
           have c15b0 : (t217 == 0) = true := beq_iff_eq.mpr c15
           have c15b1 : (t217 != 0) = false := bne_eq_false_iff_eq.mpr c15
           clear c15
           have HRL_ := Aside0.mk (Option.some.inj H)
           clear H
           go_enter Try.func7, Try.ntmps7
           try go_wp2_with (first | ((with_reducible refine gate_callee (f := 16) rfl ?_); refine goesL_ (some 9) rfl rfl Try.func16 (by kernel_rfl) rfl #[.slice none 0 0, .agg #[.int .i64 4, .slice none 0 0]] rfl (by (try simp only [List.map_toArray, List.map_cons, List.map_nil]); first | done | rfl | (simp only [List.length_drop, List.length_take]; rfl)) ?_; (refine (msg_Put.calls k (fun k_ => False) _ _ ([] : List Int) 4 _ _ ([] : List Int) t183 _ ?side1 ?side2 ?side3 A1.out).mono ?_); (case side1 => exact Kd.V_nil _ _ _ _ _); (case side2 => exact Kd.C_nil _ _); (case side3 => exact Nat.le_refl _); rintro e w16 ⟨v184, rfl, ho0, hb⟩; refine ⟨_, rfl, ?_⟩; have n0_ := Aside0.mk (Kd.R_lower (Kd.R_mono (ok' := fun k_ => True) ho0 (fun _ hk_ => trivial)) (below_size (by repeat (first | (with_reducible first | exact HB.out | apply bA | apply bN | apply bD) | exact HB.out)))); have n1_ := Aside0.mk (below_step (by repeat (first | (with_reducible first | exact HB.out | apply bA | apply bN | apply bD) | exact HB.out)) hb); clear HB; have HO185 := n0_; have HB := n1_; clear n0_ n1_; (try clear hb); (try clear hb2); (try clear hk); (try clear hi); (try clear ho0); obtain ⟨Ao17, co17, eo17⟩ := Kd.R_slice HO185.out; subst eo17; have q18 : (9 : Int) ≤ ((t183.length : Int) : Int) := of_decide_eq_true (by first | (with_reducible assumption) | assumption); obtain ⟨i018, hi018, _, hsz18, _⟩ := info_parts info5; have hroom18 : t183.length ≤ co17 := (Kd.R_reads' HO185.out).2.1; have hC18 : Kd.F (Kd.int .u8) _ _ Ao17 t183.length t183 := (Kd.V_at (base := w.heap.size) (Kd.R_V HO185.out)).2.2; have hcut18 := cut_to (P := Try.prog) 22 5 .i64 Try.underlying22 hi018 Ao17 t183.length co17 9 (by omega) q18 hroom18; have hr18 := Kd.F_take (m := 9) hC18 (by omega); have hy18 : y186.length = (9 : Int).toNat := (by rw [Ny186.out, List.length_take]; omega); rw [← Ny186.out] at hr18; rw [← hy18] at hcut18; have HO190 := Aside0.mk (show Kd.V (Kd.int .u8) 5 _ w.heap.size _ (.slice Ao17 y186.length co17) y186 from Kd.V_mk (by omega) hr18); have HC190 := Aside0.mk (show y186.length ≤ co17 from by omega); clear hr18 hC18 hroom18 hi018 hsz18; have KY18 := Aside0.mk hy18; clear hy18; replace q18 := eq_true q18) | ((with_reducible refine gate_callee (f := 8) rfl ?_); refine goesL_ (some 17) rfl rfl Try.func8 (by kernel_rfl) rfl #[.agg #[.slice none 0 0, .bool false], .slice Ao17 y186.length co17] rfl (by (try simp only [List.map_toArray, List.map_cons, List.map_nil]); first | done | rfl | (simp only [List.length_drop, List.length_take]; rfl)) ?_; (refine (stream_Feed.calls _ _ ([] : List Int) false _ _ y186 t191 t194 t195 t198 t199 t200 _ ?side1 ?side2 ?side3 ?side4 A4.out).mono ?_); (case side1 => exact Kd.C_nil _ _); (case side2 => exact Nat.le_refl _); (case side3 => repeat (first | exact (Kd.V_reads' HO190.out).2.2 | (with_reducible refine Kd.C_alloc ?_ _) | (with_reducible refine Kd.C_drewN ?_ _) | (with_reducible refine Kd.C_drew ?_))); (case side4 => exact (Kd.V_reads' HO190.out).2.1); rintro e w19 ⟨v192, v196, v201, rfl, ho0, ho1, ho2, hb⟩; refine ⟨_, rfl, ?_⟩; have n0_ := Aside0.mk (Kd.R_below (by (with_reducible repeat (first | apply Kd.R_alloc | apply Kd.R_drewN | apply Kd.R_drew)); exact HO185.out) hb); have n1_ := Aside0.mk (Kd.V_elder' (by (with_reducible repeat (first | apply Kd.V_alloc | apply Kd.V_drewN | apply Kd.V_drew)); exact HO190.out) (Kd.N_base ho1) hb); have n2_ := Aside0.mk (Kd.V_lower (Kd.V_mono (ok' := fun k_ => some k_ ≠ (v196 : Value).ownBlock ∧ some k_ ≠ (.slice Ao17 t183.length co17 : Value).ownBlock) ho0 (fun k_ hk_ => ⟨hk_.2, (Kd.fresh' (Kd.R_lt (by (with_reducible repeat (first | apply Kd.R_alloc | apply Kd.R_drewN | apply Kd.R_drew)); exact HO185.out)) k_ hk_.1)⟩)) (below_size (by repeat (first | (with_reducible first | exact HB.out | apply bA | apply bN | apply bD) | exact HB.out)))); have n3_ := Aside0.mk (Kd.N_lower (Kd.N_mono (ok' := fun k_ => some k_ ≠ (.slice Ao17 t183.length co17 : Value).ownBlock) ho1 (fun k_ hk_ => (Kd.fresh' (Kd.R_lt (by (with_reducible repeat (first | apply Kd.R_alloc | apply Kd.R_drewN | apply Kd.R_drew)); exact HO185.out)) k_ hk_))) (below_size (by repeat (first | (with_reducible first | exact HB.out | apply bA | apply bN | apply bD) | exact HB.out)))); have n4_ := Aside0.mk (Kd.V_lower (Kd.V_mono (ok' := fun k_ => some k_ ≠ (v196 : Value).ownBlock ∧ some k_ ≠ (.slice Ao17 t183.length co17 : Value).ownBlock) ho2 (fun k_ hk_ => ⟨hk_.2, (Kd.fresh' (Kd.R_lt (by (with_reducible repeat (first | apply Kd.R_alloc | apply Kd.R_drewN | apply Kd.R_drew)); exact HO185.out)) k_ hk_.1)⟩)) (below_size (by repeat (first | (with_reducible first | exact HB.out | apply bA | apply bN | apply bD) | exact HB.out)))); have n5_ := Aside0.mk (below_step (by repeat (first | (with_reducible first | exact HB.out | apply bA | apply bN | apply bD) | exact HB.out)) hb); clear HO185; clear HO190; clear HB; have HO185 := n0_; have HO190 := n1_; have HO193 := n2_; have HO197 := n3_; have HO202 := n4_; have HB := n5_; clear n0_ n1_ n2_ n3_ n4_ n5_; (try clear hb); (try clear hb2); (try clear hk); (try clear hi); (try clear ho0); (try clear ho1); (try clear ho2)) | ((with_reducible refine gate_dst (N := 2) rfl ?_); (try (refine gate_guard (by rfl) ?_; dsimp only)); refine box_event ?hg (N := 2) ?hd (cs := #[.slice none 0 0, .bool false]) (t := 26) ?hr ?_; (case hd => rfl); (case hg => rfl); (case hr => first | (go_simp; done) | (go_simp; rfl)); intro gb203 hg w20 hbox hb; have n0_ := Aside0.mk (Kd.R_below (by (with_reducible repeat (first | apply Kd.R_alloc | apply Kd.R_drewN | apply Kd.R_drew)); exact HO185.out) hb); have n1_ := Aside0.mk (Kd.V_below (Kd.V_elderB (by (with_reducible repeat (first | apply Kd.V_alloc | apply Kd.V_drewN | apply Kd.V_drew)); exact HO190.out) gb203 (Nat.le_of_eq hg.symm)) hb); have n2_ := Aside0.mk (Kd.V_below (Kd.V_elderB (by (with_reducible repeat (first | apply Kd.V_alloc | apply Kd.V_drewN | apply Kd.V_drew)); exact HO193.out) gb203 (Nat.le_of_eq hg.symm)) hb); have n3_ := Aside0.mk (Kd.N_below (Kd.N_elderB (by (with_reducible repeat (first | apply Kd.N_alloc | apply Kd.N_drewN | apply Kd.N_drew)); exact HO197.out) gb203 (Nat.le_of_eq hg.symm)) hb); have n4_ := Aside0.mk (Kd.V_below (Kd.V_elderB (by (with_reducible repeat (first | apply Kd.V_alloc | apply Kd.V_drewN | apply Kd.V_drew)); exact HO202.out) gb203 (Nat.le_of_eq hg.symm)) hb); have n5_ := Aside0.mk (below_step (by repeat (first | (with_reducible first | exact HB.out | apply bA | apply bN | apply bD) | exact HB.out)) hb); have n6_ := Aside0.mk (hbox); have n7_ := Aside0.mk ((by rw [hg]; exact (below_size (by repeat (first | (with_reducible first | exact HB.out | apply bA | apply bN | apply bD) | exact HB.out))) : w.heap.size ≤ gb203)); have n8_ := Aside0.mk ((by rw [hg]; exact (below_size (by repeat (first | (with_reducible first | exact HB.out | apply bA | apply bN | apply bD) | exact HB.out))) : w.heap.size ≤ gb203)); clear HO185; clear HO190; clear HO193; clear HO197; clear HO202; clear HB; have HO185 := n0_; have HO190 := n1_; have HO193 := n2_; have HO197 := n3_; have HO202 := n4_; have HB := n5_; have BK203 := n6_; have GW203 := n7_; have GE203 := n8_; clear n0_ n1_ n2_ n3_ n4_ n5_ n6_ n7_ n8_; clear hb hbox hg) | ((with_reducible refine gate_dst (N := 4) rfl ?_); (try (refine gate_guard (by rfl) ?_; dsimp only)); refine box_event ?hg (N := 4) ?hd (cs := #[.int .i64 0, .int .i64 0, .slice none 0 0]) (t := 29) ?hr ?_; (case hd => rfl); (case hg => rfl); (case hr => first | (go_simp; done) | (go_simp; rfl)); intro gb204 hg w21 hbox hb; have n0_ := Aside0.mk (Kd.R_below (by (with_reducible repeat (first | apply Kd.R_alloc | apply Kd.R_drewN | apply Kd.R_drew)); exact HO185.out) hb); have n1_ := Aside0.mk (Kd.V_below (Kd.V_elderB (by (with_reducible repeat (first | apply Kd.V_alloc | apply Kd.V_drewN | apply Kd.V_drew)); exact HO190.out) gb204 (Nat.le_of_eq hg.symm)) hb); have n2_ := Aside0.mk (Kd.V_below (Kd.V_elderB (by (with_reducible repeat (first | apply Kd.V_alloc | apply Kd.V_drewN | apply Kd.V_drew)); exact HO193.out) gb204 (Nat.le_of_eq hg.symm)) hb); have n3_ := Aside0.mk (Kd.N_below (Kd.N_elderB (by (with_reducible repeat (first | apply Kd.N_alloc | apply Kd.N_drewN | apply Kd.N_drew)); exact HO197.out) gb204 (Nat.le_of_eq hg.symm)) hb); have n4_ := Aside0.mk (Kd.V_below (Kd.V_elderB (by (with_reducible repeat (first | apply Kd.V_alloc | apply Kd.V_drewN | apply Kd.V_drew)); exact HO202.out) gb204 (Nat.le_of_eq hg.symm)) hb); have n5_ := Aside0.mk (blk_below (g := gb203) (o := .cells #[.slice none 0 0, .bool false] 26 (0, 0)) (by (with_reducible repeat (first | refine kN ?_ _ | refine kD ?_ | refine kA ?_ _)); exact BK203.out) hb); have n6_ := Aside0.mk (below_step (by repeat (first | (with_reducible first | exact HB.out | apply bA | apply bN | apply bD | refine bS ?_ GE203.out) | exact HB.out)) hb); have n7_ := Aside0.mk (hbox); have n8_ := Aside0.mk ((by rw [hg]; exact (below_size (by repeat (first | (with_reducible first | exact HB.out | apply bA | apply bN | apply bD | refine bS ?_ GE203.out) | exact HB.out))) : w.heap.size ≤ gb204)); have n9_ := Aside0.mk ((by rw [hg]; exact (below_size (by repeat (first | (with_reducible first | exact HB.out | apply bA | apply bN | apply bD | refine bS ?_ GE203.out) | exact HB.out))) : w.heap.size ≤ gb204)); have n10_ := Aside0.mk ((by rw [hg]; exact Nat.ne_of_lt (blk_lt (g := gb203) (o := .cells #[.slice none 0 0, .bool false] 26 (0, 0)) (by (with_reducible repeat (first | refine kN ?_ _ | refine kD ?_ | refine kA ?_ _)); exact BK203.out)) : gb203 ≠ gb204)); have n11_ := Aside0.mk ((by rw [hg]; exact Nat.ne_of_gt (blk_lt (g := gb203) (o := .cells #[.slice none 0 0, .bool false] 26 (0, 0)) (by (with_reducible repeat (first | refine kN ?_ _ | refine kD ?_ | refine kA ?_ _)); exact BK203.out)) : gb204 ≠ gb203)); clear HO185; clear HO190; clear HO193; clear HO197; clear HO202; clear BK203; clear HB; have HO185 := n0_; have HO190 := n1_; have HO193 := n2_; have HO197 := n3_; have HO202 := n4_; have BK203 := n5_; have HB := n6_; have BK204 := n7_; have GW204 := n8_; have GE204 := n9_; have NB203_204 := n10_; have NB204_203 := n11_; clear n0_ n1_ n2_ n3_ n4_ n5_ n6_ n7_ n8_ n9_ n10_ n11_; clear hb hbox hg; obtain ⟨Ao22, co22, eo22⟩ := Kd.V_slice HO193.out; subst eo22; have hnb23 := NB203_204.out; have hnc23 := NB204_203.out; have hcz24_0 : w21.cell? ⟨gb203, 0, none⟩ = some (.slice none 0 0) := (blk_cell BK203.out 0).trans rfl; have hcz24_1 : w21.cell? ⟨gb203, 1, none⟩ = some (.bool false) := (blk_cell BK203.out 1).trans rfl; have hfz24_0 := blk_frozen BK203.out 0; have hfz24_1 := blk_frozen BK203.out 1; have hcz25_0 : w21.cell? ⟨gb204, 0, none⟩ = some (.int .i64 0) := (blk_cell BK204.out 0).trans rfl; have hcz25_1 : w21.cell? ⟨gb204, 1, none⟩ = some (.int .i64 0) := (blk_cell BK204.out 1).trans rfl; have hcz25_2 : w21.cell? ⟨gb204, 2, none⟩ = some (.slice none 0 0) := (blk_cell BK204.out 2).trans rfl; have hfz25_0 := blk_frozen BK204.out 0; have hfz25_1 := blk_frozen BK204.out 1; have hfz25_2 := blk_frozen BK204.out 2; obtain ⟨Ao26, co26, eo26⟩ := Kd.V_slice HO202.out; subst eo26))
           have n0_ : Aside0 (Kd.R (Kd.int .u8) 5 (((((w21.setCell ⟨gb203, 0, none⟩ (.slice Ao22 t191.length co22)).setCell ⟨gb203, 1, none⟩ (.bool t194)).setCell ⟨gb204, 0, none⟩ (.int .i64 t198)).setCell ⟨gb204, 1, none⟩ (.int .i64 t199)).setCell ⟨gb204, 2, none⟩ (.slice Ao26 t200.length co26)) w.heap.size (fun _ => True) (.slice Ao17 t183.length co17) t183) := ⟨by (with_reducible repeat (first | apply Kd.R_alloc | apply Kd.R_drewN | apply Kd.R_drew)); exact Kd.R_mono (Kd.R_far (p := ⟨gb204, 2, none⟩) (Kd.R_far (p := ⟨gb204, 1, none⟩) (Kd.R_far (p := ⟨gb204, 0, none⟩) (Kd.R_far (p := ⟨gb203, 1, none⟩) (Kd.R_far (p := ⟨gb203, 0, none⟩) (Kd.R_types (Kd.R_types HO185.out BK203.out (by decide)) BK204.out (by decide)) (fun _ hk => hk.1.2) (.slice Ao22 t191.length co22)) (fun _ hk => hk.1.2) (.bool t194)) (fun _ hk => hk.2) (.int .i64 t198)) (fun _ hk => hk.2) (.int .i64 t199)) (fun _ hk => hk.2) (.slice Ao26 t200.length co26)) (fun _ hk => trivial)⟩
           have n1_ : Aside0 (Kd.V (Kd.int .u8) 5 (((((w21.setCell ⟨gb203, 0, none⟩ (.slice Ao22 t191.length co22)).setCell ⟨gb203, 1, none⟩ (.bool t194)).setCell ⟨gb204, 0, none⟩ (.int .i64 t198)).setCell ⟨gb204, 1, none⟩ (.int .i64 t199)).setCell ⟨gb204, 2, none⟩ (.slice Ao26 t200.length co26)) w.heap.size (fun k_ => some k_ ≠ (v196 : Value).ownBlock ∧ k_ ≠ gb203 ∧ k_ ≠ gb204) (.slice Ao17 y186.length co17) y186) := ⟨by (with_reducible repeat (first | apply Kd.V_alloc | apply Kd.V_drewN | apply Kd.V_drew)); exact Kd.V_mono (Kd.V_far (p := ⟨gb204, 2, none⟩) (Kd.V_far (p := ⟨gb204, 1, none⟩) (Kd.V_far (p := ⟨gb204, 0, none⟩) (Kd.V_far (p := ⟨gb203, 1, none⟩) (Kd.V_far (p := ⟨gb203, 0, none⟩) (Kd.V_mono (Kd.V_mono HO190.out (fun k_ hk => (⟨hk, hk.1.2⟩ : _ ∧ k_ ≠ gb203))) (fun k_ hk => (⟨hk, hk.1.2⟩ : _ ∧ k_ ≠ gb204))) (fun _ hk => hk.1.2) (.slice Ao22 t191.length co22)) (fun _ hk => hk.1.2) (.bool t194)) (fun _ hk => hk.2) (.int .i64 t198)) (fun _ hk => hk.2) (.int .i64 t199)) (fun _ hk => hk.2) (.slice Ao26 t200.length co26)) (fun _ hk => ⟨hk.1.1.1.1.2, ⟨hk.1.1.1.2, hk.1.1.2⟩⟩)⟩
           have n2_ : Aside0 (Kd.V (Kd.int .u8) 5 (((((w21.setCell ⟨gb203, 0, none⟩ (.slice Ao22 t191.length co22)).setCell ⟨gb203, 1, none⟩ (.bool t194)).setCell ⟨gb204, 0, none⟩ (.int .i64 t198)).setCell ⟨gb204, 1, none⟩ (.int .i64 t199)).setCell ⟨gb204, 2, none⟩ (.slice Ao26 t200.length co26)) w.heap.size (fun k_ => some k_ ≠ (.slice Ao17 t183.length co17 : Value).ownBlock ∧ some k_ ≠ (v196 : Value).ownBlock ∧ k_ ≠ gb203 ∧ k_ ≠ gb204) (.slice Ao22 t191.length co22) t191) := ⟨by (with_reducible repeat (first | apply Kd.V_alloc | apply Kd.V_drewN | apply Kd.V_drew)); exact Kd.V_mono (Kd.V_far (p := ⟨gb204, 2, none⟩) (Kd.V_far (p := ⟨gb204, 1, none⟩) (Kd.V_far (p := ⟨gb204, 0, none⟩) (Kd.V_far (p := ⟨gb203, 1, none⟩) (Kd.V_far (p := ⟨gb203, 0, none⟩) (Kd.V_mono (Kd.V_mono HO193.out (fun k_ hk => (⟨hk, hk.1.2⟩ : _ ∧ k_ ≠ gb203))) (fun k_ hk => (⟨hk, hk.1.2⟩ : _ ∧ k_ ≠ gb204))) (fun _ hk => hk.1.2) (.slice Ao22 t191.length co22)) (fun _ hk => hk.1.2) (.bool t194)) (fun _ hk => hk.2) (.int .i64 t198)) (fun _ hk => hk.2) (.int .i64 t199)) (fun _ hk => hk.2) (.slice Ao26 t200.length co26)) (fun _ hk => ⟨hk.1.1.1.1.2, ⟨hk.1.1.1.1.1, ⟨hk.1.1.1.2, hk.1.1.2⟩⟩⟩)⟩
           have n3_ : Aside0 (Kd.N k43 43 (((((w21.setCell ⟨gb203, 0, none⟩ (.slice Ao22 t191.length co22)).setCell ⟨gb203, 1, none⟩ (.bool t194)).setCell ⟨gb204, 0, none⟩ (.int .i64 t198)).setCell ⟨gb204, 1, none⟩ (.int .i64 t199)).setCell ⟨gb204, 2, none⟩ (.slice Ao26 t200.length co26)) w.heap.size (fun k_ => some k_ ≠ (.slice Ao17 t183.length co17 : Value).ownBlock ∧ k_ ≠ gb203 ∧ k_ ≠ gb204) v196 t195) := ⟨by (with_reducible repeat (first | apply Kd.N_alloc | apply Kd.N_drewN | apply Kd.N_drew)); exact Kd.N_mono (Kd.N_far (p := ⟨gb204, 2, none⟩) (Kd.N_far (p := ⟨gb204, 1, none⟩) (Kd.N_far (p := ⟨gb204, 0, none⟩) (Kd.N_far (p := ⟨gb203, 1, none⟩) (Kd.N_far (p := ⟨gb203, 0, none⟩) (Kd.N_mono (Kd.N_mono HO197.out (fun k_ hk => (⟨hk, hk.1.2⟩ : _ ∧ k_ ≠ gb203))) (fun k_ hk => (⟨hk, hk.1.2⟩ : _ ∧ k_ ≠ gb204))) (fun _ hk => hk.1.2) (.slice Ao22 t191.length co22)) (fun _ hk => hk.1.2) (.bool t194)) (fun _ hk => hk.2) (.int .i64 t198)) (fun _ hk => hk.2) (.int .i64 t199)) (fun _ hk => hk.2) (.slice Ao26 t200.length co26)) (fun _ hk => ⟨hk.1.1.1.1, ⟨hk.1.1.1.2, hk.1.1.2⟩⟩)⟩
           have n4_ : Aside0 (Kd.V (Kd.int .u8) 5 (((((w21.setCell ⟨gb203, 0, none⟩ (.slice Ao22 t191.length co22)).setCell ⟨gb203, 1, none⟩ (.bool t194)).setCell ⟨gb204, 0, none⟩ (.int .i64 t198)).setCell ⟨gb204, 1, none⟩ (.int .i64 t199)).setCell ⟨gb204, 2, none⟩ (.slice Ao26 t200.length co26)) w.heap.size (fun k_ => some k_ ≠ (.slice Ao17 t183.length co17 : Value).ownBlock ∧ some k_ ≠ (v196 : Value).ownBlock ∧ k_ ≠ gb203 ∧ k_ ≠ gb204) (.slice Ao26 t200.length co26) t200) := ⟨by (with_reducible repeat (first | apply Kd.V_alloc | apply Kd.V_drewN | apply Kd.V_drew)); exact Kd.V_mono (Kd.V_far (p := ⟨gb204, 2, none⟩) (Kd.V_far (p := ⟨gb204, 1, none⟩) (Kd.V_far (p := ⟨gb204, 0, none⟩) (Kd.V_far (p := ⟨gb203, 1, none⟩) (Kd.V_far (p := ⟨gb203, 0, none⟩) (Kd.V_mono (Kd.V_mono HO202.out (fun k_ hk => (⟨hk, hk.1.2⟩ : _ ∧ k_ ≠ gb203))) (fun k_ hk => (⟨hk, hk.1.2⟩ : _ ∧ k_ ≠ gb204))) (fun _ hk => hk.1.2) (.slice Ao22 t191.length co22)) (fun _ hk => hk.1.2) (.bool t194)) (fun _ hk => hk.2) (.int .i64 t198)) (fun _ hk => hk.2) (.int .i64 t199)) (fun _ hk => hk.2) (.slice Ao26 t200.length co26)) (fun _ hk => ⟨hk.1.1.1.1.2, ⟨hk.1.1.1.1.1, ⟨hk.1.1.1.2, hk.1.1.2⟩⟩⟩)⟩
           have n5_ : Aside0 ((((((w21.setCell ⟨gb203, 0, none⟩ (.slice Ao22 t191.length co22)).setCell ⟨gb203, 1, none⟩ (.bool t194)).setCell ⟨gb204, 0, none⟩ (.int .i64 t198)).setCell ⟨gb204, 1, none⟩ (.int .i64 t199)).setCell ⟨gb204, 2, none⟩ (.slice Ao26 t200.length co26)).heap[gb203]? = some (.cells #[.slice Ao22 t191.length co22, .bool t194] 26 (0, 0))) := ⟨by (with_reducible repeat (first | refine kN ?_ _ | refine kD ?_ | refine kA ?_ _)); refine blk_far ?_ NB203_204.out _; (with_reducible repeat (first | refine kN ?_ _ | refine kD ?_ | refine kA ?_ _)); refine blk_far ?_ NB203_204.out _; (with_reducible repeat (first | refine kN ?_ _ | refine kD ?_ | refine kA ?_ _)); refine blk_far ?_ NB203_204.out _; (with_reducible repeat (first | refine kN ?_ _ | refine kD ?_ | refine kA ?_ _)); refine blk_put (cs := #[.slice Ao22 t191.length co22, .bool false]) ?_ 1 _ rfl; (with_reducible repeat (first | refine kN ?_ _ | refine kD ?_ | refine kA ?_ _)); refine blk_put (cs := #[.slice none 0 0, .bool false]) ?_ 0 _ rfl; (with_reducible repeat (first | refine kN ?_ _ | refine kD ?_ | refine kA ?_ _)); exact BK203.out⟩
           have n6_ : Aside0 ((((((w21.setCell ⟨gb203, 0, none⟩ (.slice Ao22 t191.length co22)).setCell ⟨gb203, 1, none⟩ (.bool t194)).setCell ⟨gb204, 0, none⟩ (.int .i64 t198)).setCell ⟨gb204, 1, none⟩ (.int .i64 t199)).setCell ⟨gb204, 2, none⟩ (.slice Ao26 t200.length co26)).heap[gb204]? = some (.cells #[.int .i64 t198, .int .i64 t199, .slice Ao26 t200.length co26] 29 (0, 0))) := ⟨by (with_reducible repeat (first | refine kN ?_ _ | refine kD ?_ | refine kA ?_ _)); refine blk_put (cs := #[.int .i64 t198, .int .i64 t199, .slice none 0 0]) ?_ 2 _ rfl; (with_reducible repeat (first | refine kN ?_ _ | refine kD ?_ | refine kA ?_ _)); refine blk_put (cs := #[.int .i64 t198, .int .i64 0, .slice none 0 0]) ?_ 1 _ rfl; (with_reducible repeat (first | refine kN ?_ _ | refine kD ?_ | refine kA ?_ _)); refine blk_put (cs := #[.int .i64 0, .int .i64 0, .slice none 0 0]) ?_ 0 _ rfl; (with_reducible repeat (first | refine kN ?_ _ | refine kD ?_ | refine kA ?_ _)); refine blk_far ?_ NB204_203.out _; (with_reducible repeat (first | refine kN ?_ _ | refine kD ?_ | refine kA ?_ _)); refine blk_far ?_ NB204_203.out _; (with_reducible repeat (first | refine kN ?_ _ | refine kD ?_ | refine kA ?_ _)); exact BK204.out⟩
           have n7_ : Aside0 (Below w.heap.size w (((((w21.setCell ⟨gb203, 0, none⟩ (.slice Ao22 t191.length co22)).setCell ⟨gb203, 1, none⟩ (.bool t194)).setCell ⟨gb204, 0, none⟩ (.int .i64 t198)).setCell ⟨gb204, 1, none⟩ (.int .i64 t199)).setCell ⟨gb204, 2, none⟩ (.slice Ao26 t200.length co26))) := ⟨by repeat (first | (with_reducible first | exact HB.out | apply bA | apply bN | apply bD | refine bS ?_ GE203.out | refine bS ?_ GE204.out) | exact HB.out)⟩
           (try clear HO185)
           (try clear HO190)
           (try clear HO193)
           (try clear HO197)
           (try clear HO202)
           (try clear BK203)
           (try clear BK204)
           (try clear HB)
           generalize (((((w21.setCell ⟨gb203, 0, none⟩ (.slice Ao22 t191.length co22)).setCell ⟨gb203, 1, none⟩ (.bool t194)).setCell ⟨gb204, 0, none⟩ (.int .i64 t198)).setCell ⟨gb204, 1, none⟩ (.int .i64 t199)).setCell ⟨gb204, 2, none⟩ (.slice Ao26 t200.length co26)) = w27 at n0_ n1_ n2_ n3_ n4_ n5_ n6_ n7_ ⊢
           have HO185 := n0_
           have HO190 := n1_
           have HO193 := n2_
           have HO197 := n3_
           have HO202 := n4_
           have BK203 := n5_
           have BK204 := n6_
           have HB := n7_
           clear n0_ n1_ n2_ n3_ n4_ n5_ n6_ n7_
           have n0_ := Aside0.mk (Kd.R_drew HO185.out)
           have n1_ := Aside0.mk (Kd.V_drew HO190.out)
           have n2_ := Aside0.mk (Kd.V_drew HO193.out)
           have n3_ := Aside0.mk (Kd.N_drew HO197.out)
           have n4_ := Aside0.mk (Kd.V_drew HO202.out)
           have n5_ := Aside0.mk (blk_drew BK203.out)
           have n6_ := Aside0.mk (blk_drew BK204.out)
           have n7_ := Aside0.mk (below_drew1 HB.out)
           clear HO185
           clear HO190
           clear HO193
           clear HO197
           clear HO202
           clear BK203
           clear BK204
           clear HB
           have HO185 := n0_
           have HO190 := n1_
           have HO193 := n2_
           have HO197 := n3_
           have HO202 := n4_
           have BK203 := n5_
           have BK204 := n6_
           have HB := n7_
           clear n0_ n1_ n2_ n3_ n4_ n5_ n6_ n7_
           have q29 : (9 : Int) ≤ ((t183.length : Int) : Int) := of_decide_eq_true (by first | (with_reducible assumption) | assumption)
           obtain ⟨i029, hi029, _, hsz29, _⟩ := info_parts info5
           have hroom29 : t183.length ≤ co17 := (Kd.R_reads' HO185.out).2.1
           have hC29 : Kd.F (Kd.int .u8) _ _ Ao17 t183.length t183 := (Kd.V_at (base := w.heap.size) (Kd.R_V (Kd.R_types (Kd.R_types (Kd.R_apart' (HO185.out) (Kd.N_typed HO197.out) (by decide)) BK203.out (by decide)) BK204.out (by decide)))).2.2
           have hcut29 := cut_from (P := Try.prog) 22 5 .i64 Try.underlying22 hi029 1 hsz29 Ao17 t183.length co17 9 (by omega) q29
           have hr29 := Kd.F_cut (m := (9 : Int).toNat) (c := co17) hC29 (by omega) hroom29
           obtain ⟨A29, hA29⟩ : ∃ A1, A1 = (if co17 = (9 : Int).toNat then Ao17 else (Ao17 : Option Addr).map (·.add ((9 : Int).toNat * 1))) := ⟨_, rfl⟩
           obtain ⟨c29, hc29⟩ : ∃ c1, c1 = co17 - (9 : Int).toNat := ⟨_, rfl⟩
           have hy29 : y205.length = t183.length - (9 : Int).toNat := (by rw [Ny205.out, List.length_drop] <;> omega)
           rw [show (t183).drop (9 : Int).toNat = y205 from Ny205.out.symm] at hr29
           replace hr29 : Kd.F (Kd.int .u8) _ _ A29 y205.length y205 := (by rw [hA29]; exact hr29)
           rw [← hy29, ← hA29, ← hc29] at hcut29
           have HO209 := Aside0.mk (show Kd.V (Kd.int .u8) 5 _ w.heap.size _ (.slice A29 y205.length c29) y205 from Kd.V_mk (by rw [hy29, hc29]; exact Nat.sub_le_sub_right hroom29 _) hr29)
           have HC209 := Aside0.mk (show y205.length ≤ c29 from by rw [hy29, hc29]; exact Nat.sub_le_sub_right hroom29 _)
           clear hr29 hC29 hroom29 hi029 hsz29 hc29
           have KY29 := Aside0.mk hy29
           have KA29 := Aside0.mk hA29
           clear hy29 hA29
           replace q29 := eq_true q29
           refine start_ (n := 13) (S := fun w' => w'.cell? ⟨gb203, 0, none⟩ = some (.slice Ao22 t191.length co22) ∧ w'.cell? ⟨gb203, 1, none⟩ = some (.bool t194)) (ds := []) #[false, false, false, false, false, false, false, false, false, false, false, false, false] (by kernel_rfl) rfl rfl ⟨(blk_cell BK203.out 0).trans rfl, (blk_cell BK203.out 1).trans rfl⟩ (fun hHeld => ?_); refine with_tabW ridgewaylaw04_awake.tab5 ridgewaylaw04_awake.bits5 (fun HT_ HW_ => ?_)
           generalize w27.drew = w28 at HO185 HO190 HO193 HO197 HO202 BK203 BK204 HB HO209 hHeld ⊢
           refine pure_ (i := 1) (N := some 23) (v := ?_) (a' := ?_) #[false, true, false, false, false, false, false, false, false, false, false, false, false] rfl rfl (any_of HT_.out (by kernel_rfl)) (fun _ _ _ h => h) (Or.inl ⟨by rfl, ?_⟩) ?_ ?_
           rotate_left
           ·
            intro w'
            go_simp
            with_reducible rfl
           rotate_left
           ·
            simp only [Act.put, sA, sB, sC, i64_w, i32_w]
            rfl
           refine pure_ (i := 2) (N := some 24) (v := ?_) (a' := ?_) #[false, true, true, false, false, false, false, false, false, false, false, false, false] rfl rfl (any_of HT_.out (by kernel_rfl)) (fun _ _ _ h => h) (Or.inl ⟨by rfl, ?_⟩) ?_ ?_
           rotate_left
           ·
            intro w'
            go_simp
            with_reducible rfl
           rotate_left
           ·
            simp only [Act.put, sA, sB, sC, i64_w, i32_w]
            rfl
           refine take_ (i := 0) (N := some 22) (v := ?_) (a' := ?_) #[true, true, true, false, false, false, false, false, false, false, false, false, false] rfl rfl (take_ofW HT_.out HW_.out (by kernel_rfl)) (fun _ _ _ h => h) (Or.inl ⟨by rfl, ?_⟩) hHeld ?_ ?_
           rotate_left
           ·
            rintro w' ⟨s0, s1⟩
            go_simp
            with_reducible rfl
           rotate_left
           ·
            simp only [Act.put, sA, sB, sC, i64_w, i32_w]
            rfl
           refine join_ (σ := Value × Value × Value × Nat × Nat) 3 #[true, true, true, true, true, true, true, true, true, true, false, false, false] (fun s_ => [(25, .tuple #[.agg #[s_.1, .bool t213], s_.2.1, .agg #[.int .i64 t217, .int .i64 t218, s_.2.2.1]]), (5, .pointer (some ⟨s_.2.2.2.1, 0, none⟩)), (7, .pointer (some ⟨s_.2.2.2.2, 0, none⟩)), (21, .tuple #[.agg #[s_.1, .bool t213], s_.2.1, .agg #[.int .i64 t217, .int .i64 t218, s_.2.2.1]]), (26, .agg #[s_.1, .bool t213]), (27, s_.2.1), (28, .agg #[.int .i64 t217, .int .i64 t218, s_.2.2.1])]) (fun s_ w' => (w'.cell? ⟨gb203, 0, none⟩ = some (.slice Ao22 t191.length co22) ∧ w'.cell? ⟨gb203, 1, none⟩ = some (.bool t194)) ∧ (Kd.R (Kd.int .u8) 5 w' w.heap.size (fun _ => True) (.slice Ao17 t183.length co17) t183) ∧ (Kd.V (Kd.int .u8) 5 w' w.heap.size (fun k_ => some k_ ≠ (v196 : Value).ownBlock ∧ some k_ ≠ (s_.2.1 : Value).ownBlock ∧ k_ ≠ gb203 ∧ k_ ≠ gb204 ∧ k_ ≠ s_.2.2.2.1 ∧ k_ ≠ s_.2.2.2.2) (.slice Ao17 y186.length co17) y186) ∧ (Kd.V (Kd.int .u8) 5 w' w.heap.size (fun k_ => some k_ ≠ (.slice Ao17 t183.length co17 : Value).ownBlock ∧ some k_ ≠ (v196 : Value).ownBlock ∧ some k_ ≠ (s_.2.1 : Value).ownBlock ∧ k_ ≠ gb203 ∧ k_ ≠ gb204 ∧ k_ ≠ s_.2.2.2.1 ∧ k_ ≠ s_.2.2.2.2) (.slice Ao22 t191.length co22) t191) ∧ (Kd.N k43 43 w' w.heap.size (fun k_ => some k_ ≠ (.slice Ao17 t183.length co17 : Value).ownBlock ∧ some k_ ≠ (s_.2.1 : Value).ownBlock ∧ k_ ≠ gb203 ∧ k_ ≠ gb204 ∧ k_ ≠ s_.2.2.2.1 ∧ k_ ≠ s_.2.2.2.2) v196 t195) ∧ (Kd.V (Kd.int .u8) 5 w' w.heap.size (fun k_ => some k_ ≠ (.slice Ao17 t183.length co17 : Value).ownBlock ∧ some k_ ≠ (v196 : Value).ownBlock ∧ some k_ ≠ (s_.2.1 : Value).ownBlock ∧ k_ ≠ gb203 ∧ k_ ≠ gb204 ∧ k_ ≠ s_.2.2.2.1 ∧ k_ ≠ s_.2.2.2.2) (.slice Ao26 t200.length co26) t200) ∧ (Kd.V (Kd.int .u8) 5 w' w.heap.size (fun k_ => some k_ ≠ (v196 : Value).ownBlock ∧ some k_ ≠ (s_.2.1 : Value).ownBlock ∧ k_ ≠ gb203 ∧ k_ ≠ gb204 ∧ k_ ≠ s_.2.2.2.1 ∧ k_ ≠ s_.2.2.2.2) (.slice A29 y205.length c29) y205) ∧ (Kd.V (Kd.int .u8) 5 w' w.heap.size (fun k_ => some k_ ≠ (.slice Ao17 t183.length co17 : Value).ownBlock ∧ some k_ ≠ (v196 : Value).ownBlock ∧ some k_ ≠ (s_.2.1 : Value).ownBlock ∧ k_ ≠ gb203 ∧ k_ ≠ gb204 ∧ k_ ≠ s_.2.2.2.1 ∧ k_ ≠ s_.2.2.2.2) s_.1 t210) ∧ (Kd.N k43 43 w' w.heap.size (fun k_ => some k_ ≠ (.slice Ao17 t183.length co17 : Value).ownBlock ∧ some k_ ≠ (v196 : Value).ownBlock ∧ k_ ≠ gb203 ∧ k_ ≠ gb204 ∧ k_ ≠ s_.2.2.2.1 ∧ k_ ≠ s_.2.2.2.2) s_.2.1 t214) ∧ (Kd.V (Kd.int .u8) 5 w' w.heap.size (fun k_ => some k_ ≠ (.slice Ao17 t183.length co17 : Value).ownBlock ∧ some k_ ≠ (v196 : Value).ownBlock ∧ some k_ ≠ (s_.2.1 : Value).ownBlock ∧ k_ ≠ gb203 ∧ k_ ≠ gb204 ∧ k_ ≠ s_.2.2.2.1 ∧ k_ ≠ s_.2.2.2.2) s_.2.2.1 t219) ∧ (w'.heap[gb203]? = some (.cells #[.slice Ao22 t191.length co22, .bool t194] 26 (0, 0))) ∧ (w'.heap[gb204]? = some (.cells #[.int .i64 t198, .int .i64 t199, .slice Ao26 t200.length co26] 29 (0, 0))) ∧ (w'.heap[s_.2.2.2.1]? = some (.cells #[.slice none 0 0, .bool false] 26 (0, 0))) ∧ (w'.heap[s_.2.2.2.2]? = some (.cells #[.int .i64 0, .int .i64 0, .slice none 0 0] 29 (0, 0))) ∧ (w.heap.size ≤ s_.2.2.2.1) ∧ (w.heap.size ≤ s_.2.2.2.1) ∧ (gb203 ≠ s_.2.2.2.1) ∧ (s_.2.2.2.1 ≠ gb203) ∧ (gb204 ≠ s_.2.2.2.1) ∧ (s_.2.2.2.1 ≠ gb204) ∧ (s_.2.2.2.2 ≠ s_.2.2.2.1) ∧ (s_.2.2.2.1 ≠ s_.2.2.2.2) ∧ (w.heap.size ≤ s_.2.2.2.2) ∧ (w.heap.size ≤ s_.2.2.2.2) ∧ (gb203 ≠ s_.2.2.2.2) ∧ (s_.2.2.2.2 ≠ gb203) ∧ (gb204 ≠ s_.2.2.2.2) ∧ (s_.2.2.2.2 ≠ gb204) ∧ (Below w.heap.size w w')) ?_ ?_
           rotate_left
           ·
            intro hJ3_8_9
            refine join_ (σ := Value × Value × Value × Nat) 4 #[true, true, true, true, true, true, true, true, true, false, false, false, false] (fun s_ => [(25, .tuple #[.agg #[s_.1, .bool t213], s_.2.1, .agg #[.int .i64 t217, .int .i64 t218, s_.2.2.1]]), (5, .pointer (some ⟨s_.2.2.2, 0, none⟩)), (21, .tuple #[.agg #[s_.1, .bool t213], s_.2.1, .agg #[.int .i64 t217, .int .i64 t218, s_.2.2.1]]), (26, .agg #[s_.1, .bool t213]), (27, s_.2.1), (28, .agg #[.int .i64 t217, .int .i64 t218, s_.2.2.1])]) (fun s_ w' => (w'.cell? ⟨gb203, 0, none⟩ = some (.slice Ao22 t191.length co22) ∧ w'.cell? ⟨gb203, 1, none⟩ = some (.bool t194)) ∧ (Kd.R (Kd.int .u8) 5 w' w.heap.size (fun _ => True) (.slice Ao17 t183.length co17) t183) ∧ (Kd.V (Kd.int .u8) 5 w' w.heap.size (fun k_ => some k_ ≠ (v196 : Value).ownBlock ∧ some k_ ≠ (s_.2.1 : Value).ownBlock ∧ k_ ≠ gb203 ∧ k_ ≠ gb204 ∧ k_ ≠ s_.2.2.2) (.slice Ao17 y186.length co17) y186) ∧ (Kd.V (Kd.int .u8) 5 w' w.heap.size (fun k_ => some k_ ≠ (.slice Ao17 t183.length co17 : Value).ownBlock ∧ some k_ ≠ (v196 : Value).ownBlock ∧ some k_ ≠ (s_.2.1 : Value).ownBlock ∧ k_ ≠ gb203 ∧ k_ ≠ gb204 ∧ k_ ≠ s_.2.2.2) (.slice Ao22 t191.length co22) t191) ∧ (Kd.N k43 43 w' w.heap.size (fun k_ => some k_ ≠ (.slice Ao17 t183.length co17 : Value).ownBlock ∧ some k_ ≠ (s_.2.1 : Value).ownBlock ∧ k_ ≠ gb203 ∧ k_ ≠ gb204 ∧ k_ ≠ s_.2.2.2) v196 t195) ∧ (Kd.V (Kd.int .u8) 5 w' w.heap.size (fun k_ => some k_ ≠ (.slice Ao17 t183.length co17 : Value).ownBlock ∧ some k_ ≠ (v196 : Value).ownBlock ∧ some k_ ≠ (s_.2.1 : Value).ownBlock ∧ k_ ≠ gb203 ∧ k_ ≠ gb204 ∧ k_ ≠ s_.2.2.2) (.slice Ao26 t200.length co26) t200) ∧ (Kd.V (Kd.int .u8) 5 w' w.heap.size (fun k_ => some k_ ≠ (v196 : Value).ownBlock ∧ some k_ ≠ (s_.2.1 : Value).ownBlock ∧ k_ ≠ gb203 ∧ k_ ≠ gb204 ∧ k_ ≠ s_.2.2.2) (.slice A29 y205.length c29) y205) ∧ (Kd.V (Kd.int .u8) 5 w' w.heap.size (fun k_ => some k_ ≠ (.slice Ao17 t183.length co17 : Value).ownBlock ∧ some k_ ≠ (v196 : Value).ownBlock ∧ some k_ ≠ (s_.2.1 : Value).ownBlock ∧ k_ ≠ gb203 ∧ k_ ≠ gb204 ∧ k_ ≠ s_.2.2.2) s_.1 t210) ∧ (Kd.N k43 43 w' w.heap.size (fun k_ => some k_ ≠ (.slice Ao17 t183.length co17 : Value).ownBlock ∧ some k_ ≠ (v196 : Value).ownBlock ∧ k_ ≠ gb203 ∧ k_ ≠ gb204 ∧ k_ ≠ s_.2.2.2) s_.2.1 t214) ∧ (Kd.V (Kd.int .u8) 5 w' w.heap.size (fun k_ => some k_ ≠ (.slice Ao17 t183.length co17 : Value).ownBlock ∧ some k_ ≠ (v196 : Value).ownBlock ∧ some k_ ≠ (s_.2.1 : Value).ownBlock ∧ k_ ≠ gb203 ∧ k_ ≠ gb204 ∧ k_ ≠ s_.2.2.2) s_.2.2.1 t219) ∧ (w'.heap[gb203]? = some (.cells #[.slice Ao22 t191.length co22, .bool t194] 26 (0, 0))) ∧ (w'.heap[gb204]? = some (.cells #[.int .i64 t198, .int .i64 t199, .slice Ao26 t200.length co26] 29 (0, 0))) ∧ (w'.heap[s_.2.2.2]? = some (.cells #[.slice none 0 0, .bool false] 26 (0, 0))) ∧ (w.heap.size ≤ s_.2.2.2) ∧ (w.heap.size ≤ s_.2.2.2) ∧ (gb203 ≠ s_.2.2.2) ∧ (s_.2.2.2 ≠ gb203) ∧ (gb204 ≠ s_.2.2.2) ∧ (s_.2.2.2 ≠ gb204) ∧ (Below w.heap.size w w')) ?_ ?_
            rotate_left
            ·
             intro hJ3_8
             refine join_ (σ := Value × Value × Value × Nat) 4 #[true, true, true, true, true, true, true, true, false, true, false, false, false] (fun s_ => [(25, .tuple #[.agg #[s_.1, .bool t213], s_.2.1, .agg #[.int .i64 t217, .int .i64 t218, s_.2.2.1]]), (7, .pointer (some ⟨s_.2.2.2, 0, none⟩)), (21, .tuple #[.agg #[s_.1, .bool t213], s_.2.1, .agg #[.int .i64 t217, .int .i64 t218, s_.2.2.1]]), (26, .agg #[s_.1, .bool t213]), (27, s_.2.1), (28, .agg #[.int .i64 t217, .int .i64 t218, s_.2.2.1])]) (fun s_ w' => (w'.cell? ⟨gb203, 0, none⟩ = some (.slice Ao22 t191.length co22) ∧ w'.cell? ⟨gb203, 1, none⟩ = some (.bool t194)) ∧ (Kd.R (Kd.int .u8) 5 w' w.heap.size (fun _ => True) (.slice Ao17 t183.length co17) t183) ∧ (Kd.V (Kd.int .u8) 5 w' w.heap.size (fun k_ => some k_ ≠ (v196 : Value).ownBlock ∧ some k_ ≠ (s_.2.1 : Value).ownBlock ∧ k_ ≠ gb203 ∧ k_ ≠ gb204 ∧ k_ ≠ s_.2.2.2) (.slice Ao17 y186.length co17) y186) ∧ (Kd.V (Kd.int .u8) 5 w' w.heap.size (fun k_ => some k_ ≠ (.slice Ao17 t183.length co17 : Value).ownBlock ∧ some k_ ≠ (v196 : Value).ownBlock ∧ some k_ ≠ (s_.2.1 : Value).ownBlock ∧ k_ ≠ gb203 ∧ k_ ≠ gb204 ∧ k_ ≠ s_.2.2.2) (.slice Ao22 t191.length co22) t191) ∧ (Kd.N k43 43 w' w.heap.size (fun k_ => some k_ ≠ (.slice Ao17 t183.length co17 : Value).ownBlock ∧ some k_ ≠ (s_.2.1 : Value).ownBlock ∧ k_ ≠ gb203 ∧ k_ ≠ gb204 ∧ k_ ≠ s_.2.2.2) v196 t195) ∧ (Kd.V (Kd.int .u8) 5 w' w.heap.size (fun k_ => some k_ ≠ (.slice Ao17 t183.length co17 : Value).ownBlock ∧ some k_ ≠ (v196 : Value).ownBlock ∧ some k_ ≠ (s_.2.1 : Value).ownBlock ∧ k_ ≠ gb203 ∧ k_ ≠ gb204 ∧ k_ ≠ s_.2.2.2) (.slice Ao26 t200.length co26) t200) ∧ (Kd.V (Kd.int .u8) 5 w' w.heap.size (fun k_ => some k_ ≠ (v196 : Value).ownBlock ∧ some k_ ≠ (s_.2.1 : Value).ownBlock ∧ k_ ≠ gb203 ∧ k_ ≠ gb204 ∧ k_ ≠ s_.2.2.2) (.slice A29 y205.length c29) y205) ∧ (Kd.V (Kd.int .u8) 5 w' w.heap.size (fun k_ => some k_ ≠ (.slice Ao17 t183.length co17 : Value).ownBlock ∧ some k_ ≠ (v196 : Value).ownBlock ∧ some k_ ≠ (s_.2.1 : Value).ownBlock ∧ k_ ≠ gb203 ∧ k_ ≠ gb204 ∧ k_ ≠ s_.2.2.2) s_.1 t210) ∧ (Kd.N k43 43 w' w.heap.size (fun k_ => some k_ ≠ (.slice Ao17 t183.length co17 : Value).ownBlock ∧ some k_ ≠ (v196 : Value).ownBlock ∧ k_ ≠ gb203 ∧ k_ ≠ gb204 ∧ k_ ≠ s_.2.2.2) s_.2.1 t214) ∧ (Kd.V (Kd.int .u8) 5 w' w.heap.size (fun k_ => some k_ ≠ (.slice Ao17 t183.length co17 : Value).ownBlock ∧ some k_ ≠ (v196 : Value).ownBlock ∧ some k_ ≠ (s_.2.1 : Value).ownBlock ∧ k_ ≠ gb203 ∧ k_ ≠ gb204 ∧ k_ ≠ s_.2.2.2) s_.2.2.1 t219) ∧ (w'.heap[gb203]? = some (.cells #[.slice Ao22 t191.length co22, .bool t194] 26 (0, 0))) ∧ (w'.heap[gb204]? = some (.cells #[.int .i64 t198, .int .i64 t199, .slice Ao26 t200.length co26] 29 (0, 0))) ∧ (w'.heap[s_.2.2.2]? = some (.cells #[.int .i64 0, .int .i64 0, .slice none 0 0] 29 (0, 0))) ∧ (w.heap.size ≤ s_.2.2.2) ∧ (w.heap.size ≤ s_.2.2.2) ∧ (gb203 ≠ s_.2.2.2) ∧ (s_.2.2.2 ≠ gb203) ∧ (gb204 ≠ s_.2.2.2) ∧ (s_.2.2.2 ≠ gb204) ∧ (Below w.heap.size w w')) ?_ ?_
             rotate_left
             ·
              intro hJ3_9
              refine join_ (σ := Nat × Nat) 8 #[true, true, true, false, false, false, false, false, true, true, false, false, false] (fun s_ => [(5, .pointer (some ⟨s_.1, 0, none⟩)), (7, .pointer (some ⟨s_.2, 0, none⟩))]) (fun s_ w' => (w'.cell? ⟨gb203, 0, none⟩ = some (.slice Ao22 t191.length co22) ∧ w'.cell? ⟨gb203, 1, none⟩ = some (.bool t194)) ∧ (Kd.R (Kd.int .u8) 5 w' w.heap.size (fun _ => True) (.slice Ao17 t183.length co17) t183) ∧ (Kd.V (Kd.int .u8) 5 w' w.heap.size (fun k_ => some k_ ≠ (v196 : Value).ownBlock ∧ k_ ≠ gb203 ∧ k_ ≠ gb204 ∧ k_ ≠ s_.1 ∧ k_ ≠ s_.2) (.slice Ao17 y186.length co17) y186) ∧ (Kd.V (Kd.int .u8) 5 w' w.heap.size (fun k_ => some k_ ≠ (.slice Ao17 t183.length co17 : Value).ownBlock ∧ some k_ ≠ (v196 : Value).ownBlock ∧ k_ ≠ gb203 ∧ k_ ≠ gb204 ∧ k_ ≠ s_.1 ∧ k_ ≠ s_.2) (.slice Ao22 t191.length co22) t191) ∧ (Kd.N k43 43 w' w.heap.size (fun k_ => some k_ ≠ (.slice Ao17 t183.length co17 : Value).ownBlock ∧ k_ ≠ gb203 ∧ k_ ≠ gb204 ∧ k_ ≠ s_.1 ∧ k_ ≠ s_.2) v196 t195) ∧ (Kd.V (Kd.int .u8) 5 w' w.heap.size (fun k_ => some k_ ≠ (.slice Ao17 t183.length co17 : Value).ownBlock ∧ some k_ ≠ (v196 : Value).ownBlock ∧ k_ ≠ gb203 ∧ k_ ≠ gb204 ∧ k_ ≠ s_.1 ∧ k_ ≠ s_.2) (.slice Ao26 t200.length co26) t200) ∧ (Kd.V (Kd.int .u8) 5 w' w.heap.size (fun k_ => some k_ ≠ (v196 : Value).ownBlock ∧ k_ ≠ gb203 ∧ k_ ≠ gb204 ∧ k_ ≠ s_.1 ∧ k_ ≠ s_.2) (.slice A29 y205.length c29) y205) ∧ (w'.heap[gb203]? = some (.cells #[.slice Ao22 t191.length co22, .bool t194] 26 (0, 0))) ∧ (w'.heap[gb204]? = some (.cells #[.int .i64 t198, .int .i64 t199, .slice Ao26 t200.length co26] 29 (0, 0))) ∧ (w'.heap[s_.1]? = some (.cells #[.slice none 0 0, .bool false] 26 (0, 0))) ∧ (w'.heap[s_.2]? = some (.cells #[.int .i64 0, .int .i64 0, .slice none 0 0] 29 (0, 0))) ∧ (w.heap.size ≤ s_.1) ∧ (w.heap.size ≤ s_.1) ∧ (gb203 ≠ s_.1) ∧ (s_.1 ≠ gb203) ∧ (gb204 ≠ s_.1) ∧ (s_.1 ≠ gb204) ∧ (s_.2 ≠ s_.1) ∧ (s_.1 ≠ s_.2) ∧ (w.heap.size ≤ s_.2) ∧ (w.heap.size ≤ s_.2) ∧ (gb203 ≠ s_.2) ∧ (s_.2 ≠ gb203) ∧ (gb204 ≠ s_.2) ∧ (s_.2 ≠ gb204) ∧ (Below w.heap.size w w')) ?_ ?_
              rotate_left
              ·
               intro hJ8_9
               refine join_ (σ := Value × Value × Value) 5 #[true, true, true, true, true, true, true, true, false, false, false, false, false] (fun s_ => [(25, .tuple #[.agg #[s_.1, .bool t213], s_.2.1, .agg #[.int .i64 t217, .int .i64 t218, s_.2.2]]), (21, .tuple #[.agg #[s_.1, .bool t213], s_.2.1, .agg #[.int .i64 t217, .int .i64 t218, s_.2.2]]), (26, .agg #[s_.1, .bool t213]), (27, s_.2.1), (28, .agg #[.int .i64 t217, .int .i64 t218, s_.2.2])]) (fun s_ w' => (w'.cell? ⟨gb203, 0, none⟩ = some (.slice Ao22 t191.length co22) ∧ w'.cell? ⟨gb203, 1, none⟩ = some (.bool t194)) ∧ (Kd.R (Kd.int .u8) 5 w' w.heap.size (fun _ => True) (.slice Ao17 t183.length co17) t183) ∧ (Kd.V (Kd.int .u8) 5 w' w.heap.size (fun k_ => some k_ ≠ (v196 : Value).ownBlock ∧ some k_ ≠ (s_.2.1 : Value).ownBlock ∧ k_ ≠ gb203 ∧ k_ ≠ gb204) (.slice Ao17 y186.length co17) y186) ∧ (Kd.V (Kd.int .u8) 5 w' w.heap.size (fun k_ => some k_ ≠ (.slice Ao17 t183.length co17 : Value).ownBlock ∧ some k_ ≠ (v196 : Value).ownBlock ∧ some k_ ≠ (s_.2.1 : Value).ownBlock ∧ k_ ≠ gb203 ∧ k_ ≠ gb204) (.slice Ao22 t191.length co22) t191) ∧ (Kd.N k43 43 w' w.heap.size (fun k_ => some k_ ≠ (.slice Ao17 t183.length co17 : Value).ownBlock ∧ some k_ ≠ (s_.2.1 : Value).ownBlock ∧ k_ ≠ gb203 ∧ k_ ≠ gb204) v196 t195) ∧ (Kd.V (Kd.int .u8) 5 w' w.heap.size (fun k_ => some k_ ≠ (.slice Ao17 t183.length co17 : Value).ownBlock ∧ some k_ ≠ (v196 : Value).ownBlock ∧ some k_ ≠ (s_.2.1 : Value).ownBlock ∧ k_ ≠ gb203 ∧ k_ ≠ gb204) (.slice Ao26 t200.length co26) t200) ∧ (Kd.V (Kd.int .u8) 5 w' w.heap.size (fun k_ => some k_ ≠ (v196 : Value).ownBlock ∧ some k_ ≠ (s_.2.1 : Value).ownBlock ∧ k_ ≠ gb203 ∧ k_ ≠ gb204) (.slice A29 y205.length c29) y205) ∧ (Kd.V (Kd.int .u8) 5 w' w.heap.size (fun k_ => some k_ ≠ (.slice Ao17 t183.length co17 : Value).ownBlock ∧ some k_ ≠ (v196 : Value).ownBlock ∧ some k_ ≠ (s_.2.1 : Value).ownBlock ∧ k_ ≠ gb203 ∧ k_ ≠ gb204) s_.1 t210) ∧ (Kd.N k43 43 w' w.heap.size (fun k_ => some k_ ≠ (.slice Ao17 t183.length co17 : Value).ownBlock ∧ some k_ ≠ (v196 : Value).ownBlock ∧ k_ ≠ gb203 ∧ k_ ≠ gb204) s_.2.1 t214) ∧ (Kd.V (Kd.int .u8) 5 w' w.heap.size (fun k_ => some k_ ≠ (.slice Ao17 t183.length co17 : Value).ownBlock ∧ some k_ ≠ (v196 : Value).ownBlock ∧ some k_ ≠ (s_.2.1 : Value).ownBlock ∧ k_ ≠ gb203 ∧ k_ ≠ gb204) s_.2.2 t219) ∧ (w'.heap[gb203]? = some (.cells #[.slice Ao22 t191.length co22, .bool t194] 26 (0, 0))) ∧ (w'.heap[gb204]? = some (.cells #[.int .i64 t198, .int .i64 t199, .slice Ao26 t200.length co26] 29 (0, 0))) ∧ (Below w.heap.size w w')) ?_ ?_
               rotate_left
               ·
                intro hJ3
                refine join_ (σ := Nat) 9 #[true, true, true, false, false, false, false, false, true, false, false, false, false] (fun s_ => [(5, .pointer (some ⟨s_, 0, none⟩))]) (fun s_ w' => (w'.cell? ⟨gb203, 0, none⟩ = some (.slice Ao22 t191.length co22) ∧ w'.cell? ⟨gb203, 1, none⟩ = some (.bool t194)) ∧ (Kd.R (Kd.int .u8) 5 w' w.heap.size (fun _ => True) (.slice Ao17 t183.length co17) t183) ∧ (Kd.V (Kd.int .u8) 5 w' w.heap.size (fun k_ => some k_ ≠ (v196 : Value).ownBlock ∧ k_ ≠ gb203 ∧ k_ ≠ gb204 ∧ k_ ≠ s_) (.slice Ao17 y186.length co17) y186) ∧ (Kd.V (Kd.int .u8) 5 w' w.heap.size (fun k_ => some k_ ≠ (.slice Ao17 t183.length co17 : Value).ownBlock ∧ some k_ ≠ (v196 : Value).ownBlock ∧ k_ ≠ gb203 ∧ k_ ≠ gb204 ∧ k_ ≠ s_) (.slice Ao22 t191.length co22) t191) ∧ (Kd.N k43 43 w' w.heap.size (fun k_ => some k_ ≠ (.slice Ao17 t183.length co17 : Value).ownBlock ∧ k_ ≠ gb203 ∧ k_ ≠ gb204 ∧ k_ ≠ s_) v196 t195) ∧ (Kd.V (Kd.int .u8) 5 w' w.heap.size (fun k_ => some k_ ≠ (.slice Ao17 t183.length co17 : Value).ownBlock ∧ some k_ ≠ (v196 : Value).ownBlock ∧ k_ ≠ gb203 ∧ k_ ≠ gb204 ∧ k_ ≠ s_) (.slice Ao26 t200.length co26) t200) ∧ (Kd.V (Kd.int .u8) 5 w' w.heap.size (fun k_ => some k_ ≠ (v196 : Value).ownBlock ∧ k_ ≠ gb203 ∧ k_ ≠ gb204 ∧ k_ ≠ s_) (.slice A29 y205.length c29) y205) ∧ (w'.heap[gb203]? = some (.cells #[.slice Ao22 t191.length co22, .bool t194] 26 (0, 0))) ∧ (w'.heap[gb204]? = some (.cells #[.int .i64 t198, .int .i64 t199, .slice Ao26 t200.length co26] 29 (0, 0))) ∧ (w'.heap[s_]? = some (.cells #[.slice none 0 0, .bool false] 26 (0, 0))) ∧ (w.heap.size ≤ s_) ∧ (w.heap.size ≤ s_) ∧ (gb203 ≠ s_) ∧ (s_ ≠ gb203) ∧ (gb204 ≠ s_) ∧ (s_ ≠ gb204) ∧ (Below w.heap.size w w')) ?_ ?_
                rotate_left
                ·
                 intro hJ8
                 refine join_ (σ := Nat) 9 #[true, true, true, false, false, false, false, false, false, true, false, false, false] (fun s_ => [(7, .pointer (some ⟨s_, 0, none⟩))]) (fun s_ w' => (w'.cell? ⟨gb203, 0, none⟩ = some (.slice Ao22 t191.length co22) ∧ w'.cell? ⟨gb203, 1, none⟩ = some (.bool t194)) ∧ (Kd.R (Kd.int .u8) 5 w' w.heap.size (fun _ => True) (.slice Ao17 t183.length co17) t183) ∧ (Kd.V (Kd.int .u8) 5 w' w.heap.size (fun k_ => some k_ ≠ (v196 : Value).ownBlock ∧ k_ ≠ gb203 ∧ k_ ≠ gb204 ∧ k_ ≠ s_) (.slice Ao17 y186.length co17) y186) ∧ (Kd.V (Kd.int .u8) 5 w' w.heap.size (fun k_ => some k_ ≠ (.slice Ao17 t183.length co17 : Value).ownBlock ∧ some k_ ≠ (v196 : Value).ownBlock ∧ k_ ≠ gb203 ∧ k_ ≠ gb204 ∧ k_ ≠ s_) (.slice Ao22 t191.length co22) t191) ∧ (Kd.N k43 43 w' w.heap.size (fun k_ => some k_ ≠ (.slice Ao17 t183.length co17 : Value).ownBlock ∧ k_ ≠ gb203 ∧ k_ ≠ gb204 ∧ k_ ≠ s_) v196 t195) ∧ (Kd.V (Kd.int .u8) 5 w' w.heap.size (fun k_ => some k_ ≠ (.slice Ao17 t183.length co17 : Value).ownBlock ∧ some k_ ≠ (v196 : Value).ownBlock ∧ k_ ≠ gb203 ∧ k_ ≠ gb204 ∧ k_ ≠ s_) (.slice Ao26 t200.length co26) t200) ∧ (Kd.V (Kd.int .u8) 5 w' w.heap.size (fun k_ => some k_ ≠ (v196 : Value).ownBlock ∧ k_ ≠ gb203 ∧ k_ ≠ gb204 ∧ k_ ≠ s_) (.slice A29 y205.length c29) y205) ∧ (w'.heap[gb203]? = some (.cells #[.slice Ao22 t191.length co22, .bool t194] 26 (0, 0))) ∧ (w'.heap[gb204]? = some (.cells #[.int .i64 t198, .int .i64 t199, .slice Ao26 t200.length co26] 29 (0, 0))) ∧ (w'.heap[s_]? = some (.cells #[.int .i64 0, .int .i64 0, .slice none 0 0] 29 (0, 0))) ∧ (w.heap.size ≤ s_) ∧ (w.heap.size ≤ s_) ∧ (gb203 ≠ s_) ∧ (s_ ≠ gb203) ∧ (gb204 ≠ s_) ∧ (s_ ≠ gb204) ∧ (Below w.heap.size w w')) ?_ ?_
                 rotate_left
                 ·
                  intro hJ9
                  refine three_ (i := 3) (j := 8) (k := 9) (Ni := some 25) (Nj := some 5) (Nk := some 7) #[true, true, true, true, false, false, false, false, false, false, false, false, false] #[true, true, true, false, false, false, false, false, true, false, false, false, false] #[true, true, true, false, false, false, false, false, false, true, false, false, false] rfl rfl rfl rfl rfl rfl (three_of HT_.out (by kernel_rfl)) (by decide) (by decide) (by decide) (fun K hK => ?_) (fun K hK => ?_) (fun K hK => ?_)
                  ·
                   skip
                   refine goes_ Try.func8 (by kernel_rfl) rfl #[.agg #[.slice Ao22 t191.length co22, .bool t194], .slice A29 y205.length c29] (by rfl) rfl rfl (by (try simp only [List.map_toArray, List.map_cons, List.map_nil]); first | done | rfl | (simp only [List.length_drop, List.length_take]; rfl)) ?_
                   with_reducible refine (stream_Feed.calls _ _ t191 t194 _ _ y205 t210 t213 t214 t217 t218 t219 _ ?side1 ?side2 ?side3 ?side4 A6.out).mono ?_
                   (case side1 => repeat (first | exact (Kd.V_reads' HO193.out).2.2 | (with_reducible refine Kd.C_alloc ?_ _) | (with_reducible refine Kd.C_drewN ?_ _) | (with_reducible refine Kd.C_drew ?_)))
                   (case side2 => exact (Kd.V_reads' HO193.out).2.1)
                   (case side3 => repeat (first | exact (Kd.V_reads' HO209.out).2.2 | (with_reducible refine Kd.C_alloc ?_ _) | (with_reducible refine Kd.C_drewN ?_ _) | (with_reducible refine Kd.C_drew ?_)))
                   (case side4 => exact (Kd.V_reads' HO209.out).2.1)
                   rintro e w30 ⟨v211, v215, v220, rfl, ho0, ho1, ho2, hb⟩
                   refine ⟨_, rfl, ?_⟩
                   have n0_ := Aside0.mk (Kd.R_below (by (with_reducible repeat (first | apply Kd.R_alloc | apply Kd.R_drewN | apply Kd.R_drew)); exact HO185.out) hb)
                   have n1_ := Aside0.mk (Kd.V_elder' (by (with_reducible repeat (first | apply Kd.V_alloc | apply Kd.V_drewN | apply Kd.V_drew)); exact HO190.out) (Kd.N_base ho1) hb)
                   have n2_ := Aside0.mk (Kd.V_elder' (by (with_reducible repeat (first | apply Kd.V_alloc | apply Kd.V_drewN | apply Kd.V_drew)); exact HO193.out) (Kd.N_base ho1) hb)
                   have n3_ := Aside0.mk (Kd.N_elder' (by (with_reducible repeat (first | apply Kd.N_alloc | apply Kd.N_drewN | apply Kd.N_drew)); exact HO197.out) (Kd.N_base ho1) hb)
                   have n4_ := Aside0.mk (Kd.V_elder' (by (with_reducible repeat (first | apply Kd.V_alloc | apply Kd.V_drewN | apply Kd.V_drew)); exact HO202.out) (Kd.N_base ho1) hb)
                   have n5_ := Aside0.mk (Kd.V_elder' (by (with_reducible repeat (first | apply Kd.V_alloc | apply Kd.V_drewN | apply Kd.V_drew)); exact HO209.out) (Kd.N_base ho1) hb)
                   have n6_ := Aside0.mk (Kd.V_lower (Kd.V_mono (ok' := fun k_ => some k_ ≠ (v215 : Value).ownBlock ∧ some k_ ≠ (.slice Ao17 t183.length co17 : Value).ownBlock ∧ some k_ ≠ (v196 : Value).ownBlock ∧ k_ ≠ gb203 ∧ k_ ≠ gb204) ho0 (fun k_ hk_ => ⟨hk_.2, (Kd.fresh' (Kd.R_lt (by (with_reducible repeat (first | apply Kd.R_alloc | apply Kd.R_drewN | apply Kd.R_drew)); exact HO185.out)) k_ hk_.1), (Kd.fresh' (Kd.N_lt (by (with_reducible repeat (first | apply Kd.N_alloc | apply Kd.N_drewN | apply Kd.N_drew)); exact HO197.out)) k_ hk_.1), (Kd.freshB (g := gb203) (o := .cells #[.slice Ao22 t191.length co22, .bool t194] 26 (0, 0)) (by (with_reducible repeat (first | refine kN ?_ _ | refine kD ?_ | refine kA ?_ _)); exact BK203.out) k_ hk_.1), (Kd.freshB (g := gb204) (o := .cells #[.int .i64 t198, .int .i64 t199, .slice Ao26 t200.length co26] 29 (0, 0)) (by (with_reducible repeat (first | refine kN ?_ _ | refine kD ?_ | refine kA ?_ _)); exact BK204.out) k_ hk_.1)⟩)) (below_size (by repeat (first | (with_reducible first | exact HB.out | apply bA | apply bN | apply bD | refine bS ?_ GE203.out | refine bS ?_ GE204.out) | exact HB.out))))
                   have n7_ := Aside0.mk (Kd.N_lower (Kd.N_mono (ok' := fun k_ => some k_ ≠ (.slice Ao17 t183.length co17 : Value).ownBlock ∧ some k_ ≠ (v196 : Value).ownBlock ∧ k_ ≠ gb203 ∧ k_ ≠ gb204) ho1 (fun k_ hk_ => ⟨(Kd.fresh' (Kd.R_lt (by (with_reducible repeat (first | apply Kd.R_alloc | apply Kd.R_drewN | apply Kd.R_drew)); exact HO185.out)) k_ hk_), (Kd.fresh' (Kd.N_lt (by (with_reducible repeat (first | apply Kd.N_alloc | apply Kd.N_drewN | apply Kd.N_drew)); exact HO197.out)) k_ hk_), (Kd.freshB (g := gb203) (o := .cells #[.slice Ao22 t191.length co22, .bool t194] 26 (0, 0)) (by (with_reducible repeat (first | refine kN ?_ _ | refine kD ?_ | refine kA ?_ _)); exact BK203.out) k_ hk_), (Kd.freshB (g := gb204) (o := .cells #[.int .i64 t198, .int .i64 t199, .slice Ao26 t200.length co26] 29 (0, 0)) (by (with_reducible repeat (first | refine kN ?_ _ | refine kD ?_ | refine kA ?_ _)); exact BK204.out) k_ hk_)⟩)) (below_size (by repeat (first | (with_reducible first | exact HB.out | apply bA | apply bN | apply bD | refine bS ?_ GE203.out | refine bS ?_ GE204.out) | exact HB.out))))
                   have n8_ := Aside0.mk (Kd.V_lower (Kd.V_mono (ok' := fun k_ => some k_ ≠ (v215 : Value).ownBlock ∧ some k_ ≠ (.slice Ao17 t183.length co17 : Value).ownBlock ∧ some k_ ≠ (v196 : Value).ownBlock ∧ k_ ≠ gb203 ∧ k_ ≠ gb204) ho2 (fun k_ hk_ => ⟨hk_.2, (Kd.fresh' (Kd.R_lt (by (with_reducible repeat (first | apply Kd.R_alloc | apply Kd.R_drewN | apply Kd.R_drew)); exact HO185.out)) k_ hk_.1), (Kd.fresh' (Kd.N_lt (by (with_reducible repeat (first | apply Kd.N_alloc | apply Kd.N_drewN | apply Kd.N_drew)); exact HO197.out)) k_ hk_.1), (Kd.freshB (g := gb203) (o := .cells #[.slice Ao22 t191.length co22, .bool t194] 26 (0, 0)) (by (with_reducible repeat (first | refine kN ?_ _ | refine kD ?_ | refine kA ?_ _)); exact BK203.out) k_ hk_.1), (Kd.freshB (g := gb204) (o := .cells #[.int .i64 t198, .int .i64 t199, .slice Ao26 t200.length co26] 29 (0, 0)) (by (with_reducible repeat (first | refine kN ?_ _ | refine kD ?_ | refine kA ?_ _)); exact BK204.out) k_ hk_.1)⟩)) (below_size (by repeat (first | (with_reducible first | exact HB.out | apply bA | apply bN | apply bD | refine bS ?_ GE203.out | refine bS ?_ GE204.out) | exact HB.out))))
                   have n9_ := Aside0.mk (blk_below (g := gb203) (o := .cells #[.slice Ao22 t191.length co22, .bool t194] 26 (0, 0)) (by (with_reducible repeat (first | refine kN ?_ _ | refine kD ?_ | refine kA ?_ _)); exact BK203.out) hb)
                   have n10_ := Aside0.mk (blk_below (g := gb204) (o := .cells #[.int .i64 t198, .int .i64 t199, .slice Ao26 t200.length co26] 29 (0, 0)) (by (with_reducible repeat (first | refine kN ?_ _ | refine kD ?_ | refine kA ?_ _)); exact BK204.out) hb)
                   have n11_ := Aside0.mk (below_step (by repeat (first | (with_reducible first | exact HB.out | apply bA | apply bN | apply bD | refine bS ?_ GE203.out | refine bS ?_ GE204.out) | exact HB.out)) hb)
                   clear HO185
                   clear HO190
                   clear HO193
                   clear HO197
                   clear HO202
                   clear HO209
                   clear BK203
                   clear BK204
                   clear HB
                   have HO185 := n0_
                   have HO190 := n1_
                   have HO193 := n2_
                   have HO197 := n3_
                   have HO202 := n4_
                   have HO209 := n5_
                   have HO212 := n6_
                   have HO216 := n7_
                   have HO221 := n8_
                   have BK203 := n9_
                   have BK204 := n10_
                   have HB := n11_
                   clear n0_ n1_ n2_ n3_ n4_ n5_ n6_ n7_ n8_ n9_ n10_ n11_
                   (try clear hb)
                   (try clear hb2)
                   (try clear hk)
                   (try clear hi)
                   (try clear ho0)
                   (try clear ho1)
                   (try clear ho2)
                   refine hK.out _ _ ⟨(blk_cell BK203.out 0).trans rfl, (blk_cell BK203.out 1).trans rfl⟩ (fun hHeld => ?_)
                   clear hK K
                   refine norm_ (a' := ?_) ?_ ?_
                   rotate_left
                   ·
                    show Act.put _ (some 25) _ = _
                    simp only [Act.put, sA, sB, sC, i64_w, i32_w]
                    rfl
                   refine pure_ (i := 4) (N := some 21) (v := ?_) (a' := ?_) #[true, true, true, true, true, false, false, false, false, false, false, false, false] rfl rfl (any_of HT_.out (by kernel_rfl)) (fun _ _ _ h => h) (Or.inl ⟨by rfl, ?_⟩) ?_ ?_
                   rotate_left
                   ·
                    intro w'
                    go_simp
                    with_reducible rfl
                   rotate_left
                   ·
                    simp only [Act.put, sA, sB, sC, i64_w, i32_w]
                    rfl
                   refine pure_ (i := 5) (N := some 26) (v := ?_) (a' := ?_) #[true, true, true, true, true, true, false, false, false, false, false, false, false] rfl rfl (any_of HT_.out (by kernel_rfl)) (fun _ _ _ h => h) (Or.inl ⟨by rfl, ?_⟩) ?_ ?_
                   rotate_left
                   ·
                    intro w'
                    go_simp
                    with_reducible rfl
                   rotate_left
                   ·
                    simp only [Act.put, sA, sB, sC, i64_w, i32_w]
                    rfl
                   refine pure_ (i := 6) (N := some 27) (v := ?_) (a' := ?_) #[true, true, true, true, true, true, true, false, false, false, false, false, false] rfl rfl (any_of HT_.out (by kernel_rfl)) (fun _ _ _ h => h) (Or.inl ⟨by rfl, ?_⟩) ?_ ?_
                   rotate_left
                   ·
                    intro w'
                    go_simp
                    with_reducible rfl
                   rotate_left
                   ·
                    simp only [Act.put, sA, sB, sC, i64_w, i32_w]
                    rfl
                   refine pure_ (i := 7) (N := some 28) (v := ?_) (a' := ?_) #[true, true, true, true, true, true, true, true, false, false, false, false, false] rfl rfl (any_of HT_.out (by kernel_rfl)) (fun _ _ _ h => h) (Or.inl ⟨by rfl, ?_⟩) ?_ ?_
                   rotate_left
                   ·
                    intro w'
                    go_simp
                    with_reducible rfl
                   rotate_left
                   ·
                    simp only [Act.put, sA, sB, sC, i64_w, i32_w]
                    rfl
                   exact norm_ (by first | (simp only [putAll, Act.put, sA, sB, sC]; done) | (simp only [putAll, Act.put, sA, sB, sC]; rfl)) (hJ3 (v211, v215, v220) _ ⟨hHeld, (by (with_reducible repeat (first | apply Kd.R_alloc | apply Kd.R_drewN | apply Kd.R_drew)); exact HO185.out), (by (with_reducible repeat (first | apply Kd.V_alloc | apply Kd.V_drewN | apply Kd.V_drew)); exact Kd.V_mono HO190.out (fun _ hk => ⟨hk.1.1, ⟨hk.2, ⟨hk.1.2.1, hk.1.2.2⟩⟩⟩)), (by (with_reducible repeat (first | apply Kd.V_alloc | apply Kd.V_drewN | apply Kd.V_drew)); exact Kd.V_mono HO193.out (fun _ hk => ⟨hk.1.1, ⟨hk.1.2.1, ⟨hk.2, ⟨hk.1.2.2.1, hk.1.2.2.2⟩⟩⟩⟩)), (by (with_reducible repeat (first | apply Kd.N_alloc | apply Kd.N_drewN | apply Kd.N_drew)); exact Kd.N_mono HO197.out (fun _ hk => ⟨hk.1.1, ⟨hk.2, ⟨hk.1.2.1, hk.1.2.2⟩⟩⟩)), (by (with_reducible repeat (first | apply Kd.V_alloc | apply Kd.V_drewN | apply Kd.V_drew)); exact Kd.V_mono HO202.out (fun _ hk => ⟨hk.1.1, ⟨hk.1.2.1, ⟨hk.2, ⟨hk.1.2.2.1, hk.1.2.2.2⟩⟩⟩⟩)), (by (with_reducible repeat (first | apply Kd.V_alloc | apply Kd.V_drewN | apply Kd.V_drew)); exact Kd.V_mono HO209.out (fun _ hk => ⟨hk.1.1.1.2, ⟨hk.2, ⟨hk.1.1.2, hk.1.2⟩⟩⟩)), (by (with_reducible repeat (first | apply Kd.V_alloc | apply Kd.V_drewN | apply Kd.V_drew)); exact Kd.V_mono HO212.out (fun _ hk => ⟨hk.2.1, ⟨hk.2.2.1, ⟨hk.1, ⟨hk.2.2.2.1, hk.2.2.2.2⟩⟩⟩⟩)), (by (with_reducible repeat (first | apply Kd.N_alloc | apply Kd.N_drewN | apply Kd.N_drew)); exact HO216.out), (by (with_reducible repeat (first | apply Kd.V_alloc | apply Kd.V_drewN | apply Kd.V_drew)); exact Kd.V_mono HO221.out (fun _ hk => ⟨hk.2.1, ⟨hk.2.2.1, ⟨hk.1, ⟨hk.2.2.2.1, hk.2.2.2.2⟩⟩⟩⟩)), (by (with_reducible repeat (first | refine kN ?_ _ | refine kD ?_ | refine kA ?_ _)); exact BK203.out), (by (with_reducible repeat (first | refine kN ?_ _ | refine kD ?_ | refine kA ?_ _)); exact BK204.out), (by repeat (first | (with_reducible first | exact HB.out | apply bA | apply bN | apply bD | refine bS ?_ GE203.out | refine bS ?_ GE204.out) | exact HB.out))⟩)
                  ·
                   skip
                   refine box_step ?hg (N := 5) ?hd (cs := #[.slice none 0 0, .bool false]) (t := 26) ?hr ?_; (case hd => rfl); (case hg => rfl); (case hr => first | (go_simp; done) | (go_simp; rfl))
                   intro gb222 hg w30 hbox hb
                   have n0_ := Aside0.mk (Kd.R_below (by (with_reducible repeat (first | apply Kd.R_alloc | apply Kd.R_drewN | apply Kd.R_drew)); exact HO185.out) hb)
                   have n1_ := Aside0.mk (Kd.V_below (Kd.V_elderB (by (with_reducible repeat (first | apply Kd.V_alloc | apply Kd.V_drewN | apply Kd.V_drew)); exact HO190.out) gb222 (Nat.le_of_eq hg.symm)) hb)
                   have n2_ := Aside0.mk (Kd.V_below (Kd.V_elderB (by (with_reducible repeat (first | apply Kd.V_alloc | apply Kd.V_drewN | apply Kd.V_drew)); exact HO193.out) gb222 (Nat.le_of_eq hg.symm)) hb)
                   have n3_ := Aside0.mk (Kd.N_below (Kd.N_elderB (by (with_reducible repeat (first | apply Kd.N_alloc | apply Kd.N_drewN | apply Kd.N_drew)); exact HO197.out) gb222 (Nat.le_of_eq hg.symm)) hb)
                   have n4_ := Aside0.mk (Kd.V_below (Kd.V_elderB (by (with_reducible repeat (first | apply Kd.V_alloc | apply Kd.V_drewN | apply Kd.V_drew)); exact HO202.out) gb222 (Nat.le_of_eq hg.symm)) hb)
                   have n5_ := Aside0.mk (Kd.V_below (Kd.V_elderB (by (with_reducible repeat (first | apply Kd.V_alloc | apply Kd.V_drewN | apply Kd.V_drew)); exact HO209.out) gb222 (Nat.le_of_eq hg.symm)) hb)
                   have n6_ := Aside0.mk (blk_below (g := gb203) (o := .cells #[.slice Ao22 t191.length co22, .bool t194] 26 (0, 0)) (by (with_reducible repeat (first | refine kN ?_ _ | refine kD ?_ | refine kA ?_ _)); exact BK203.out) hb)
                   have n7_ := Aside0.mk (blk_below (g := gb204) (o := .cells #[.int .i64 t198, .int .i64 t199, .slice Ao26 t200.length co26] 29 (0, 0)) (by (with_reducible repeat (first | refine kN ?_ _ | refine kD ?_ | refine kA ?_ _)); exact BK204.out) hb)
                   have n8_ := Aside0.mk (below_step (by repeat (first | (with_reducible first | exact HB.out | apply bA | apply bN | apply bD | refine bS ?_ GE203.out | refine bS ?_ GE204.out) | exact HB.out)) hb)
                   have n9_ := Aside0.mk (hbox)
                   have n10_ := Aside0.mk ((by rw [hg]; exact (below_size (by repeat (first | (with_reducible first | exact HB.out | apply bA | apply bN | apply bD | refine bS ?_ GE203.out | refine bS ?_ GE204.out) | exact HB.out))) : w.heap.size ≤ gb222))
                   have n11_ := Aside0.mk ((by rw [hg]; exact (below_size (by repeat (first | (with_reducible first | exact HB.out | apply bA | apply bN | apply bD | refine bS ?_ GE203.out | refine bS ?_ GE204.out) | exact HB.out))) : w.heap.size ≤ gb222))
                   have n12_ := Aside0.mk ((by rw [hg]; exact Nat.ne_of_lt (blk_lt (g := gb203) (o := .cells #[.slice Ao22 t191.length co22, .bool t194] 26 (0, 0)) (by (with_reducible repeat (first | refine kN ?_ _ | refine kD ?_ | refine kA ?_ _)); exact BK203.out)) : gb203 ≠ gb222))
                   have n13_ := Aside0.mk ((by rw [hg]; exact Nat.ne_of_gt (blk_lt (g := gb203) (o := .cells #[.slice Ao22 t191.length co22, .bool t194] 26 (0, 0)) (by (with_reducible repeat (first | refine kN ?_ _ | refine kD ?_ | refine kA ?_ _)); exact BK203.out)) : gb222 ≠ gb203))
                   have n14_ := Aside0.mk ((by rw [hg]; exact Nat.ne_of_lt (blk_lt (g := gb204) (o := .cells #[.int .i64 t198, .int .i64 t199, .slice Ao26 t200.length co26] 29 (0, 0)) (by (with_reducible repeat (first | refine kN ?_ _ | refine kD ?_ | refine kA ?_ _)); exact BK204.out)) : gb204 ≠ gb222))
                   have n15_ := Aside0.mk ((by rw [hg]; exact Nat.ne_of_gt (blk_lt (g := gb204) (o := .cells #[.int .i64 t198, .int .i64 t199, .slice Ao26 t200.length co26] 29 (0, 0)) (by (with_reducible repeat (first | refine kN ?_ _ | refine kD ?_ | refine kA ?_ _)); exact BK204.out)) : gb222 ≠ gb204))
                   clear HO185
                   clear HO190
                   clear HO193
                   clear HO197
                   clear HO202
                   clear HO209
                   clear BK203
                   clear BK204
                   clear HB
                   have HO185 := n0_
                   have HO190 := n1_
                   have HO193 := n2_
                   have HO197 := n3_
                   have HO202 := n4_
                   have HO209 := n5_
                   have BK203 := n6_
                   have BK204 := n7_
                   have HB := n8_
                   have BK222 := n9_
                   have GW222 := n10_
                   have GE222 := n11_
                   have NB203_222 := n12_
                   have NB222_203 := n13_
                   have NB204_222 := n14_
                   have NB222_204 := n15_
                   clear n0_ n1_ n2_ n3_ n4_ n5_ n6_ n7_ n8_ n9_ n10_ n11_ n12_ n13_ n14_ n15_
                   clear hb hbox hg
                   refine hK.out _ _ ⟨(blk_cell BK203.out 0).trans rfl, (blk_cell BK203.out 1).trans rfl⟩ (fun hHeld => ?_)
                   clear hK K
                   refine norm_ (a' := ?_) ?_ ?_
                   rotate_left
                   ·
                    show Act.put _ (some 5) _ = _
                    simp only [Act.put, sA, sB, sC, i64_w, i32_w]
                    rfl
                   exact norm_ (by first | (simp only [putAll, Act.put, sA, sB, sC]; done) | (simp only [putAll, Act.put, sA, sB, sC]; rfl)) (hJ8 (gb222) _ ⟨hHeld, (by (with_reducible repeat (first | apply Kd.R_alloc | apply Kd.R_drewN | apply Kd.R_drew)); exact HO185.out), (by (with_reducible repeat (first | apply Kd.V_alloc | apply Kd.V_drewN | apply Kd.V_drew)); exact Kd.V_mono HO190.out (fun _ hk => ⟨hk.1.1, ⟨hk.1.2.1, ⟨hk.1.2.2, hk.2⟩⟩⟩)), (by (with_reducible repeat (first | apply Kd.V_alloc | apply Kd.V_drewN | apply Kd.V_drew)); exact Kd.V_mono HO193.out (fun _ hk => ⟨hk.1.1, ⟨hk.1.2.1, ⟨hk.1.2.2.1, ⟨hk.1.2.2.2, hk.2⟩⟩⟩⟩)), (by (with_reducible repeat (first | apply Kd.N_alloc | apply Kd.N_drewN | apply Kd.N_drew)); exact Kd.N_mono HO197.out (fun _ hk => ⟨hk.1.1, ⟨hk.1.2.1, ⟨hk.1.2.2, hk.2⟩⟩⟩)), (by (with_reducible repeat (first | apply Kd.V_alloc | apply Kd.V_drewN | apply Kd.V_drew)); exact Kd.V_mono HO202.out (fun _ hk => ⟨hk.1.1, ⟨hk.1.2.1, ⟨hk.1.2.2.1, ⟨hk.1.2.2.2, hk.2⟩⟩⟩⟩)), (by (with_reducible repeat (first | apply Kd.V_alloc | apply Kd.V_drewN | apply Kd.V_drew)); exact Kd.V_mono HO209.out (fun _ hk => ⟨hk.1.1.1.2, ⟨hk.1.1.2, ⟨hk.1.2, hk.2⟩⟩⟩)), (by (with_reducible repeat (first | refine kN ?_ _ | refine kD ?_ | refine kA ?_ _)); exact BK203.out), (by (with_reducible repeat (first | refine kN ?_ _ | refine kD ?_ | refine kA ?_ _)); exact BK204.out), (by (with_reducible repeat (first | refine kN ?_ _ | refine kD ?_ | refine kA ?_ _)); exact BK222.out), GW222.out, GE222.out, NB203_222.out, NB222_203.out, NB204_222.out, NB222_204.out, (by repeat (first | (with_reducible first | exact HB.out | apply bA | apply bN | apply bD | refine bS ?_ GE203.out | refine bS ?_ GE204.out | refine bS ?_ GE222.out) | exact HB.out))⟩)
                  ·
                   skip
                   refine box_step ?hg (N := 7) ?hd (cs := #[.int .i64 0, .int .i64 0, .slice none 0 0]) (t := 29) ?hr ?_; (case hd => rfl); (case hg => rfl); (case hr => first | (go_simp; done) | (go_simp; rfl))
                   intro gb223 hg w30 hbox hb
                   have n0_ := Aside0.mk (Kd.R_below (by (with_reducible repeat (first | apply Kd.R_alloc | apply Kd.R_drewN | apply Kd.R_drew)); exact HO185.out) hb)
                   have n1_ := Aside0.mk (Kd.V_below (Kd.V_elderB (by (with_reducible repeat (first | apply Kd.V_alloc | apply Kd.V_drewN | apply Kd.V_drew)); exact HO190.out) gb223 (Nat.le_of_eq hg.symm)) hb)
                   have n2_ := Aside0.mk (Kd.V_below (Kd.V_elderB (by (with_reducible repeat (first | apply Kd.V_alloc | apply Kd.V_drewN | apply Kd.V_drew)); exact HO193.out) gb223 (Nat.le_of_eq hg.symm)) hb)
                   have n3_ := Aside0.mk (Kd.N_below (Kd.N_elderB (by (with_reducible repeat (first | apply Kd.N_alloc | apply Kd.N_drewN | apply Kd.N_drew)); exact HO197.out) gb223 (Nat.le_of_eq hg.symm)) hb)
                   have n4_ := Aside0.mk (Kd.V_below (Kd.V_elderB (by (with_reducible repeat (first | apply Kd.V_alloc | apply Kd.V_drewN | apply Kd.V_drew)); exact HO202.out) gb223 (Nat.le_of_eq hg.symm)) hb)
                   have n5_ := Aside0.mk (Kd.V_below (Kd.V_elderB (by (with_reducible repeat (first | apply Kd.V_alloc | apply Kd.V_drewN | apply Kd.V_drew)); exact HO209.out) gb223 (Nat.le_of_eq hg.symm)) hb)
                   have n6_ := Aside0.mk (blk_below (g := gb203) (o := .cells #[.slice Ao22 t191.length co22, .bool t194] 26 (0, 0)) (by (with_reducible repeat (first | refine kN ?_ _ | refine kD ?_ | refine kA ?_ _)); exact BK203.out) hb)
                   have n7_ := Aside0.mk (blk_below (g := gb204) (o := .cells #[.int .i64 t198, .int .i64 t199, .slice Ao26 t200.length co26] 29 (0, 0)) (by (with_reducible repeat (first | refine kN ?_ _ | refine kD ?_ | refine kA ?_ _)); exact BK204.out) hb)
                   have n8_ := Aside0.mk (below_step (by repeat (first | (with_reducible first | exact HB.out | apply bA | apply bN | apply bD | refine bS ?_ GE203.out | refine bS ?_ GE204.out) | exact HB.out)) hb)
                   have n9_ := Aside0.mk (hbox)
                   have n10_ := Aside0.mk ((by rw [hg]; exact (below_size (by repeat (first | (with_reducible first | exact HB.out | apply bA | apply bN | apply bD | refine bS ?_ GE203.out | refine bS ?_ GE204.out) | exact HB.out))) : w.heap.size ≤ gb223))
                   have n11_ := Aside0.mk ((by rw [hg]; exact (below_size (by repeat (first | (with_reducible first | exact HB.out | apply bA | apply bN | apply bD | refine bS ?_ GE203.out | refine bS ?_ GE204.out) | exact HB.out))) : w.heap.size ≤ gb223))
                   have n12_ := Aside0.mk ((by rw [hg]; exact Nat.ne_of_lt (blk_lt (g := gb203) (o := .cells #[.slice Ao22 t191.length co22, .bool t194] 26 (0, 0)) (by (with_reducible repeat (first | refine kN ?_ _ | refine kD ?_ | refine kA ?_ _)); exact BK203.out)) : gb203 ≠ gb223))
                   have n13_ := Aside0.mk ((by rw [hg]; exact Nat.ne_of_gt (blk_lt (g := gb203) (o := .cells #[.slice Ao22 t191.length co22, .bool t194] 26 (0, 0)) (by (with_reducible repeat (first | refine kN ?_ _ | refine kD ?_ | refine kA ?_ _)); exact BK203.out)) : gb223 ≠ gb203))
                   have n14_ := Aside0.mk ((by rw [hg]; exact Nat.ne_of_lt (blk_lt (g := gb204) (o := .cells #[.int .i64 t198, .int .i64 t199, .slice Ao26 t200.length co26] 29 (0, 0)) (by (with_reducible repeat (first | refine kN ?_ _ | refine kD ?_ | refine kA ?_ _)); exact BK204.out)) : gb204 ≠ gb223))
                   have n15_ := Aside0.mk ((by rw [hg]; exact Nat.ne_of_gt (blk_lt (g := gb204) (o := .cells #[.int .i64 t198, .int .i64 t199, .slice Ao26 t200.length co26] 29 (0, 0)) (by (with_reducible repeat (first | refine kN ?_ _ | refine kD ?_ | refine kA ?_ _)); exact BK204.out)) : gb223 ≠ gb204))
                   clear HO185
                   clear HO190
                   clear HO193
                   clear HO197
                   clear HO202
                   clear HO209
                   clear BK203
                   clear BK204
                   clear HB
                   have HO185 := n0_
                   have HO190 := n1_
                   have HO193 := n2_
                   have HO197 := n3_
                   have HO202 := n4_
                   have HO209 := n5_
                   have BK203 := n6_
                   have BK204 := n7_
                   have HB := n8_
                   have BK223 := n9_
                   have GW223 := n10_
                   have GE223 := n11_
                   have NB203_223 := n12_
                   have NB223_203 := n13_
                   have NB204_223 := n14_
                   have NB223_204 := n15_
                   clear n0_ n1_ n2_ n3_ n4_ n5_ n6_ n7_ n8_ n9_ n10_ n11_ n12_ n13_ n14_ n15_
                   clear hb hbox hg
                   refine hK.out _ _ ⟨(blk_cell BK203.out 0).trans rfl, (blk_cell BK203.out 1).trans rfl⟩ (fun hHeld => ?_)
                   clear hK K
                   refine norm_ (a' := ?_) ?_ ?_
                   rotate_left
                   ·
                    show Act.put _ (some 7) _ = _
                    simp only [Act.put, sA, sB, sC, i64_w, i32_w]
                    rfl
                   exact norm_ (by first | (simp only [putAll, Act.put, sA, sB, sC]; done) | (simp only [putAll, Act.put, sA, sB, sC]; rfl)) (hJ9 (gb223) _ ⟨hHeld, (by (with_reducible repeat (first | apply Kd.R_alloc | apply Kd.R_drewN | apply Kd.R_drew)); exact HO185.out), (by (with_reducible repeat (first | apply Kd.V_alloc | apply Kd.V_drewN | apply Kd.V_drew)); exact Kd.V_mono HO190.out (fun _ hk => ⟨hk.1.1, ⟨hk.1.2.1, ⟨hk.1.2.2, hk.2⟩⟩⟩)), (by (with_reducible repeat (first | apply Kd.V_alloc | apply Kd.V_drewN | apply Kd.V_drew)); exact Kd.V_mono HO193.out (fun _ hk => ⟨hk.1.1, ⟨hk.1.2.1, ⟨hk.1.2.2.1, ⟨hk.1.2.2.2, hk.2⟩⟩⟩⟩)), (by (with_reducible repeat (first | apply Kd.N_alloc | apply Kd.N_drewN | apply Kd.N_drew)); exact Kd.N_mono HO197.out (fun _ hk => ⟨hk.1.1, ⟨hk.1.2.1, ⟨hk.1.2.2, hk.2⟩⟩⟩)), (by (with_reducible repeat (first | apply Kd.V_alloc | apply Kd.V_drewN | apply Kd.V_drew)); exact Kd.V_mono HO202.out (fun _ hk => ⟨hk.1.1, ⟨hk.1.2.1, ⟨hk.1.2.2.1, ⟨hk.1.2.2.2, hk.2⟩⟩⟩⟩)), (by (with_reducible repeat (first | apply Kd.V_alloc | apply Kd.V_drewN | apply Kd.V_drew)); exact Kd.V_mono HO209.out (fun _ hk => ⟨hk.1.1.1.2, ⟨hk.1.1.2, ⟨hk.1.2, hk.2⟩⟩⟩)), (by (with_reducible repeat (first | refine kN ?_ _ | refine kD ?_ | refine kA ?_ _)); exact BK203.out), (by (with_reducible repeat (first | refine kN ?_ _ | refine kD ?_ | refine kA ?_ _)); exact BK204.out), (by (with_reducible repeat (first | refine kN ?_ _ | refine kD ?_ | refine kA ?_ _)); exact BK223.out), GW223.out, GE223.out, NB203_223.out, NB223_203.out, NB204_223.out, NB223_204.out, (by repeat (first | (with_reducible first | exact HB.out | apply bA | apply bN | apply bD | refine bS ?_ GE203.out | refine bS ?_ GE204.out | refine bS ?_ GE223.out) | exact HB.out))⟩)
                 ·
                  skip
                  rintro gb223 w31 ⟨hS_, h0_, h1_, h2_, h3_, h4_, h5_, h6_, h7_, h8_, h9_, h10_, h11_, h12_, h13_, h14_, h15_⟩
                  have n0_ : Aside0 (Kd.R (Kd.int .u8) 5 w31 w.heap.size (fun _ => True) (.slice Ao17 t183.length co17) t183) := ⟨h0_⟩
                  have n1_ : Aside0 (Kd.V (Kd.int .u8) 5 w31 w.heap.size (fun k_ => some k_ ≠ (v196 : Value).ownBlock ∧ k_ ≠ gb203 ∧ k_ ≠ gb204 ∧ k_ ≠ gb223) (.slice Ao17 y186.length co17) y186) := ⟨h1_⟩
                  have n2_ : Aside0 (Kd.V (Kd.int .u8) 5 w31 w.heap.size (fun k_ => some k_ ≠ (.slice Ao17 t183.length co17 : Value).ownBlock ∧ some k_ ≠ (v196 : Value).ownBlock ∧ k_ ≠ gb203 ∧ k_ ≠ gb204 ∧ k_ ≠ gb223) (.slice Ao22 t191.length co22) t191) := ⟨h2_⟩
                  have n3_ : Aside0 (Kd.N k43 43 w31 w.heap.size (fun k_ => some k_ ≠ (.slice Ao17 t183.length co17 : Value).ownBlock ∧ k_ ≠ gb203 ∧ k_ ≠ gb204 ∧ k_ ≠ gb223) v196 t195) := ⟨h3_⟩
                  have n4_ : Aside0 (Kd.V (Kd.int .u8) 5 w31 w.heap.size (fun k_ => some k_ ≠ (.slice Ao17 t183.length co17 : Value).ownBlock ∧ some k_ ≠ (v196 : Value).ownBlock ∧ k_ ≠ gb203 ∧ k_ ≠ gb204 ∧ k_ ≠ gb223) (.slice Ao26 t200.length co26) t200) := ⟨h4_⟩
                  have n5_ : Aside0 (Kd.V (Kd.int .u8) 5 w31 w.heap.size (fun k_ => some k_ ≠ (v196 : Value).ownBlock ∧ k_ ≠ gb203 ∧ k_ ≠ gb204 ∧ k_ ≠ gb223) (.slice A29 y205.length c29) y205) := ⟨h5_⟩
                  have n6_ : Aside0 (w31.heap[gb203]? = some (.cells #[.slice Ao22 t191.length co22, .bool t194] 26 (0, 0))) := ⟨h6_⟩
                  have n7_ : Aside0 (w31.heap[gb204]? = some (.cells #[.int .i64 t198, .int .i64 t199, .slice Ao26 t200.length co26] 29 (0, 0))) := ⟨h7_⟩
                  have n8_ : Aside0 (w31.heap[gb223]? = some (.cells #[.int .i64 0, .int .i64 0, .slice none 0 0] 29 (0, 0))) := ⟨h8_⟩
                  have n9_ : Aside0 (w.heap.size ≤ gb223) := ⟨h9_⟩
                  have n10_ : Aside0 (w.heap.size ≤ gb223) := ⟨h10_⟩
                  have n11_ : Aside0 (gb203 ≠ gb223) := ⟨h11_⟩
                  have n12_ : Aside0 (gb223 ≠ gb203) := ⟨h12_⟩
                  have n13_ : Aside0 (gb204 ≠ gb223) := ⟨h13_⟩
                  have n14_ : Aside0 (gb223 ≠ gb204) := ⟨h14_⟩
                  have n15_ : Aside0 (Below w.heap.size w w31) := ⟨h15_⟩
                  clear HO185
                  clear HO190
                  clear HO193
                  clear HO197
                  clear HO202
                  clear BK203
                  clear BK204
                  clear HB
                  clear h0_ h1_ h2_ h3_ h4_ h5_ h6_ h7_ h8_ h9_ h10_ h11_ h12_ h13_ h14_ h15_
                  have HO185 := n0_
                  have HO190 := n1_
                  have HO193 := n2_
                  have HO197 := n3_
                  have HO202 := n4_
                  have HO209 := n5_
                  have BK203 := n6_
                  have BK204 := n7_
                  have BK223 := n8_
                  have GW223 := n9_
                  have GE223 := n10_
                  have NB203_223 := n11_
                  have NB223_203 := n12_
                  have NB204_223 := n13_
                  have NB223_204 := n14_
                  have HB := n15_
                  clear n0_ n1_ n2_ n3_ n4_ n5_ n6_ n7_ n8_ n9_ n10_ n11_ n12_ n13_ n14_ n15_
                  have hHeld : w31.cell? ⟨gb203, 0, none⟩ = some (.slice Ao22 t191.length co22) ∧ w31.cell? ⟨gb203, 1, none⟩ = some (.bool t194) := hS_
                  refine norm_ (a' := ?_) ?_ ?_
                  rotate_left
                  ·
                   simp only [putAll, Act.put, sA, sB, sC]
                   rfl
                  refine two_ (i := 3) (j := 8) (Ni := some 25) (Nj := some 5) #[true, true, true, true, false, false, false, false, false, true, false, false, false] #[true, true, true, false, false, false, false, false, true, true, false, false, false] rfl rfl rfl rfl (two_of HT_.out (by kernel_rfl)) (by decide) (by decide) (fun K hK => ?_) (fun K hK => ?_)
                  ·
                   skip
                   refine goes_ Try.func8 (by kernel_rfl) rfl #[.agg #[.slice Ao22 t191.length co22, .bool t194], .slice A29 y205.length c29] (by rfl) rfl rfl (by (try simp only [List.map_toArray, List.map_cons, List.map_nil]); first | done | rfl | (simp only [List.length_drop, List.length_take]; rfl)) ?_
                   with_reducible refine (stream_Feed.calls _ _ t191 t194 _ _ y205 t210 t213 t214 t217 t218 t219 _ ?side1 ?side2 ?side3 ?side4 A6.out).mono ?_
                   (case side1 => repeat (first | exact (Kd.V_reads' HO193.out).2.2 | (with_reducible refine Kd.C_alloc ?_ _) | (with_reducible refine Kd.C_drewN ?_ _) | (with_reducible refine Kd.C_drew ?_)))
                   (case side2 => exact (Kd.V_reads' HO193.out).2.1)
                   (case side3 => repeat (first | exact (Kd.V_reads' HO209.out).2.2 | (with_reducible refine Kd.C_alloc ?_ _) | (with_reducible refine Kd.C_drewN ?_ _) | (with_reducible refine Kd.C_drew ?_)))
                   (case side4 => exact (Kd.V_reads' HO209.out).2.1)
                   rintro e w32 ⟨v211, v215, v220, rfl, ho0, ho1, ho2, hb⟩
                   refine ⟨_, rfl, ?_⟩
                   have n0_ := Aside0.mk (Kd.R_below (by (with_reducible repeat (first | apply Kd.R_alloc | apply Kd.R_drewN | apply Kd.R_drew)); exact HO185.out) hb)
                   have n1_ := Aside0.mk (Kd.V_elder' (by (with_reducible repeat (first | apply Kd.V_alloc | apply Kd.V_drewN | apply Kd.V_drew)); exact HO190.out) (Kd.N_base ho1) hb)
                   have n2_ := Aside0.mk (Kd.V_elder' (by (with_reducible repeat (first | apply Kd.V_alloc | apply Kd.V_drewN | apply Kd.V_drew)); exact HO193.out) (Kd.N_base ho1) hb)
                   have n3_ := Aside0.mk (Kd.N_elder' (by (with_reducible repeat (first | apply Kd.N_alloc | apply Kd.N_drewN | apply Kd.N_drew)); exact HO197.out) (Kd.N_base ho1) hb)
                   have n4_ := Aside0.mk (Kd.V_elder' (by (with_reducible repeat (first | apply Kd.V_alloc | apply Kd.V_drewN | apply Kd.V_drew)); exact HO202.out) (Kd.N_base ho1) hb)
                   have n5_ := Aside0.mk (Kd.V_elder' (by (with_reducible repeat (first | apply Kd.V_alloc | apply Kd.V_drewN | apply Kd.V_drew)); exact HO209.out) (Kd.N_base ho1) hb)
                   have n6_ := Aside0.mk (Kd.V_lower (Kd.V_mono (ok' := fun k_ => some k_ ≠ (v215 : Value).ownBlock ∧ some k_ ≠ (.slice Ao17 t183.length co17 : Value).ownBlock ∧ some k_ ≠ (v196 : Value).ownBlock ∧ k_ ≠ gb203 ∧ k_ ≠ gb204 ∧ k_ ≠ gb223) ho0 (fun k_ hk_ => ⟨hk_.2, (Kd.fresh' (Kd.R_lt (by (with_reducible repeat (first | apply Kd.R_alloc | apply Kd.R_drewN | apply Kd.R_drew)); exact HO185.out)) k_ hk_.1), (Kd.fresh' (Kd.N_lt (by (with_reducible repeat (first | apply Kd.N_alloc | apply Kd.N_drewN | apply Kd.N_drew)); exact HO197.out)) k_ hk_.1), (Kd.freshB (g := gb203) (o := .cells #[.slice Ao22 t191.length co22, .bool t194] 26 (0, 0)) (by (with_reducible repeat (first | refine kN ?_ _ | refine kD ?_ | refine kA ?_ _)); exact BK203.out) k_ hk_.1), (Kd.freshB (g := gb204) (o := .cells #[.int .i64 t198, .int .i64 t199, .slice Ao26 t200.length co26] 29 (0, 0)) (by (with_reducible repeat (first | refine kN ?_ _ | refine kD ?_ | refine kA ?_ _)); exact BK204.out) k_ hk_.1), (Kd.freshB (g := gb223) (o := .cells #[.int .i64 0, .int .i64 0, .slice none 0 0] 29 (0, 0)) (by (with_reducible repeat (first | refine kN ?_ _ | refine kD ?_ | refine kA ?_ _)); exact BK223.out) k_ hk_.1)⟩)) (below_size (by repeat (first | (with_reducible first | exact HB.out | apply bA | apply bN | apply bD | refine bS ?_ GE203.out | refine bS ?_ GE204.out | refine bS ?_ GE223.out) | exact HB.out))))
                   have n7_ := Aside0.mk (Kd.N_lower (Kd.N_mono (ok' := fun k_ => some k_ ≠ (.slice Ao17 t183.length co17 : Value).ownBlock ∧ some k_ ≠ (v196 : Value).ownBlock ∧ k_ ≠ gb203 ∧ k_ ≠ gb204 ∧ k_ ≠ gb223) ho1 (fun k_ hk_ => ⟨(Kd.fresh' (Kd.R_lt (by (with_reducible repeat (first | apply Kd.R_alloc | apply Kd.R_drewN | apply Kd.R_drew)); exact HO185.out)) k_ hk_), (Kd.fresh' (Kd.N_lt (by (with_reducible repeat (first | apply Kd.N_alloc | apply Kd.N_drewN | apply Kd.N_drew)); exact HO197.out)) k_ hk_), (Kd.freshB (g := gb203) (o := .cells #[.slice Ao22 t191.length co22, .bool t194] 26 (0, 0)) (by (with_reducible repeat (first | refine kN ?_ _ | refine kD ?_ | refine kA ?_ _)); exact BK203.out) k_ hk_), (Kd.freshB (g := gb204) (o := .cells #[.int .i64 t198, .int .i64 t199, .slice Ao26 t200.length co26] 29 (0, 0)) (by (with_reducible repeat (first | refine kN ?_ _ | refine kD ?_ | refine kA ?_ _)); exact BK204.out) k_ hk_), (Kd.freshB (g := gb223) (o := .cells #[.int .i64 0, .int .i64 0, .slice none 0 0] 29 (0, 0)) (by (with_reducible repeat (first | refine kN ?_ _ | refine kD ?_ | refine kA ?_ _)); exact BK223.out) k_ hk_)⟩)) (below_size (by repeat (first | (with_reducible first | exact HB.out | apply bA | apply bN | apply bD | refine bS ?_ GE203.out | refine bS ?_ GE204.out | refine bS ?_ GE223.out) | exact HB.out))))
                   have n8_ := Aside0.mk (Kd.V_lower (Kd.V_mono (ok' := fun k_ => some k_ ≠ (v215 : Value).ownBlock ∧ some k_ ≠ (.slice Ao17 t183.length co17 : Value).ownBlock ∧ some k_ ≠ (v196 : Value).ownBlock ∧ k_ ≠ gb203 ∧ k_ ≠ gb204 ∧ k_ ≠ gb223) ho2 (fun k_ hk_ => ⟨hk_.2, (Kd.fresh' (Kd.R_lt (by (with_reducible repeat (first | apply Kd.R_alloc | apply Kd.R_drewN | apply Kd.R_drew)); exact HO185.out)) k_ hk_.1), (Kd.fresh' (Kd.N_lt (by (with_reducible repeat (first | apply Kd.N_alloc | apply Kd.N_drewN | apply Kd.N_drew)); exact HO197.out)) k_ hk_.1), (Kd.freshB (g := gb203) (o := .cells #[.slice Ao22 t191.length co22, .bool t194] 26 (0, 0)) (by (with_reducible repeat (first | refine kN ?_ _ | refine kD ?_ | refine kA ?_ _)); exact BK203.out) k_ hk_.1), (Kd.freshB (g := gb204) (o := .cells #[.int .i64 t198, .int .i64 t199, .slice Ao26 t200.length co26] 29 (0, 0)) (by (with_reducible repeat (first | refine kN ?_ _ | refine kD ?_ | refine kA ?_ _)); exact BK204.out) k_ hk_.1), (Kd.freshB (g := gb223) (o := .cells #[.int .i64 0, .int .i64 0, .slice none 0 0] 29 (0, 0)) (by (with_reducible repeat (first | refine kN ?_ _ | refine kD ?_ | refine kA ?_ _)); exact BK223.out) k_ hk_.1)⟩)) (below_size (by repeat (first | (with_reducible first | exact HB.out | apply bA | apply bN | apply bD | refine bS ?_ GE203.out | refine bS ?_ GE204.out | refine bS ?_ GE223.out) | exact HB.out))))
                   have n9_ := Aside0.mk (blk_below (g := gb203) (o := .cells #[.slice Ao22 t191.length co22, .bool t194] 26 (0, 0)) (by (with_reducible repeat (first | refine kN ?_ _ | refine kD ?_ | refine kA ?_ _)); exact BK203.out) hb)
                   have n10_ := Aside0.mk (blk_below (g := gb204) (o := .cells #[.int .i64 t198, .int .i64 t199, .slice Ao26 t200.length co26] 29 (0, 0)) (by (with_reducible repeat (first | refine kN ?_ _ | refine kD ?_ | refine kA ?_ _)); exact BK204.out) hb)
                   have n11_ := Aside0.mk (blk_below (g := gb223) (o := .cells #[.int .i64 0, .int .i64 0, .slice none 0 0] 29 (0, 0)) (by (with_reducible repeat (first | refine kN ?_ _ | refine kD ?_ | refine kA ?_ _)); exact BK223.out) hb)
                   have n12_ := Aside0.mk (below_step (by repeat (first | (with_reducible first | exact HB.out | apply bA | apply bN | apply bD | refine bS ?_ GE203.out | refine bS ?_ GE204.out | refine bS ?_ GE223.out) | exact HB.out)) hb)
                   clear HO185
                   clear HO190
                   clear HO193
                   clear HO197
                   clear HO202
                   clear HO209
                   clear BK203
                   clear BK204
                   clear BK223
                   clear HB
                   have HO185 := n0_
                   have HO190 := n1_
                   have HO193 := n2_
                   have HO197 := n3_
                   have HO202 := n4_
                   have HO209 := n5_
                   have HO212 := n6_
                   have HO216 := n7_
                   have HO221 := n8_
                   have BK203 := n9_
                   have BK204 := n10_
                   have BK223 := n11_
                   have HB := n12_
                   clear n0_ n1_ n2_ n3_ n4_ n5_ n6_ n7_ n8_ n9_ n10_ n11_ n12_
                   (try clear hb)
                   (try clear hb2)
                   (try clear hk)
                   (try clear hi)
                   (try clear ho0)
                   (try clear ho1)
                   (try clear ho2)
                   refine hK.out _ _ ⟨(blk_cell BK203.out 0).trans rfl, (blk_cell BK203.out 1).trans rfl⟩ (fun hHeld => ?_)
                   clear hK K
                   refine norm_ (a' := ?_) ?_ ?_
                   rotate_left
                   ·
                    show Act.put _ (some 25) _ = _
                    simp only [Act.put, sA, sB, sC, i64_w, i32_w]
                    rfl
                   refine pure_ (i := 4) (N := some 21) (v := ?_) (a' := ?_) #[true, true, true, true, true, false, false, false, false, true, false, false, false] rfl rfl (any_of HT_.out (by kernel_rfl)) (fun _ _ _ h => h) (Or.inl ⟨by rfl, ?_⟩) ?_ ?_
                   rotate_left
                   ·
                    intro w'
                    go_simp
                    with_reducible rfl
                   rotate_left
                   ·
                    simp only [Act.put, sA, sB, sC, i64_w, i32_w]
                    rfl
                   refine pure_ (i := 5) (N := some 26) (v := ?_) (a' := ?_) #[true, true, true, true, true, true, false, false, false, true, false, false, false] rfl rfl (any_of HT_.out (by kernel_rfl)) (fun _ _ _ h => h) (Or.inl ⟨by rfl, ?_⟩) ?_ ?_
                   rotate_left
                   ·
                    intro w'
                    go_simp
                    with_reducible rfl
                   rotate_left
                   ·
                    simp only [Act.put, sA, sB, sC, i64_w, i32_w]
                    rfl
                   refine pure_ (i := 6) (N := some 27) (v := ?_) (a' := ?_) #[true, true, true, true, true, true, true, false, false, true, false, false, false] rfl rfl (any_of HT_.out (by kernel_rfl)) (fun _ _ _ h => h) (Or.inl ⟨by rfl, ?_⟩) ?_ ?_
                   rotate_left
                   ·
                    intro w'
                    go_simp
                    with_reducible rfl
                   rotate_left
                   ·
                    simp only [Act.put, sA, sB, sC, i64_w, i32_w]
                    rfl
                   refine pure_ (i := 7) (N := some 28) (v := ?_) (a' := ?_) #[true, true, true, true, true, true, true, true, false, true, false, false, false] rfl rfl (any_of HT_.out (by kernel_rfl)) (fun _ _ _ h => h) (Or.inl ⟨by rfl, ?_⟩) ?_ ?_
                   rotate_left
                   ·
                    intro w'
                    go_simp
                    with_reducible rfl
                   rotate_left
                   ·
                    simp only [Act.put, sA, sB, sC, i64_w, i32_w]
                    rfl
                   exact norm_ (by first | (simp only [putAll, Act.put, sA, sB, sC]; done) | (simp only [putAll, Act.put, sA, sB, sC]; rfl)) (hJ3_9 (v211, v215, v220, gb223) _ ⟨hHeld, (by (with_reducible repeat (first | apply Kd.R_alloc | apply Kd.R_drewN | apply Kd.R_drew)); exact HO185.out), (by (with_reducible repeat (first | apply Kd.V_alloc | apply Kd.V_drewN | apply Kd.V_drew)); exact Kd.V_mono HO190.out (fun _ hk => ⟨hk.1.1, ⟨hk.2, ⟨hk.1.2.1, ⟨hk.1.2.2.1, hk.1.2.2.2⟩⟩⟩⟩)), (by (with_reducible repeat (first | apply Kd.V_alloc | apply Kd.V_drewN | apply Kd.V_drew)); exact Kd.V_mono HO193.out (fun _ hk => ⟨hk.1.1, ⟨hk.1.2.1, ⟨hk.2, ⟨hk.1.2.2.1, ⟨hk.1.2.2.2.1, hk.1.2.2.2.2⟩⟩⟩⟩⟩)), (by (with_reducible repeat (first | apply Kd.N_alloc | apply Kd.N_drewN | apply Kd.N_drew)); exact Kd.N_mono HO197.out (fun _ hk => ⟨hk.1.1, ⟨hk.2, ⟨hk.1.2.1, ⟨hk.1.2.2.1, hk.1.2.2.2⟩⟩⟩⟩)), (by (with_reducible repeat (first | apply Kd.V_alloc | apply Kd.V_drewN | apply Kd.V_drew)); exact Kd.V_mono HO202.out (fun _ hk => ⟨hk.1.1, ⟨hk.1.2.1, ⟨hk.2, ⟨hk.1.2.2.1, ⟨hk.1.2.2.2.1, hk.1.2.2.2.2⟩⟩⟩⟩⟩)), (by (with_reducible repeat (first | apply Kd.V_alloc | apply Kd.V_drewN | apply Kd.V_drew)); exact Kd.V_mono HO209.out (fun _ hk => ⟨hk.1.1, ⟨hk.2, ⟨hk.1.2.1, ⟨hk.1.2.2.1, hk.1.2.2.2⟩⟩⟩⟩)), (by (with_reducible repeat (first | apply Kd.V_alloc | apply Kd.V_drewN | apply Kd.V_drew)); exact Kd.V_mono HO212.out (fun _ hk => ⟨hk.2.1, ⟨hk.2.2.1, ⟨hk.1, ⟨hk.2.2.2.1, ⟨hk.2.2.2.2.1, hk.2.2.2.2.2⟩⟩⟩⟩⟩)), (by (with_reducible repeat (first | apply Kd.N_alloc | apply Kd.N_drewN | apply Kd.N_drew)); exact HO216.out), (by (with_reducible repeat (first | apply Kd.V_alloc | apply Kd.V_drewN | apply Kd.V_drew)); exact Kd.V_mono HO221.out (fun _ hk => ⟨hk.2.1, ⟨hk.2.2.1, ⟨hk.1, ⟨hk.2.2.2.1, ⟨hk.2.2.2.2.1, hk.2.2.2.2.2⟩⟩⟩⟩⟩)), (by (with_reducible repeat (first | refine kN ?_ _ | refine kD ?_ | refine kA ?_ _)); exact BK203.out), (by (with_reducible repeat (first | refine kN ?_ _ | refine kD ?_ | refine kA ?_ _)); exact BK204.out), (by (with_reducible repeat (first | refine kN ?_ _ | refine kD ?_ | refine kA ?_ _)); exact BK223.out), GW223.out, GE223.out, NB203_223.out, NB223_203.out, NB204_223.out, NB223_204.out, (by repeat (first | (with_reducible first | exact HB.out | apply bA | apply bN | apply bD | refine bS ?_ GE203.out | refine bS ?_ GE204.out | refine bS ?_ GE223.out) | exact HB.out))⟩)
                  ·
                   skip
                   refine box_step ?hg (N := 5) ?hd (cs := #[.slice none 0 0, .bool false]) (t := 26) ?hr ?_; (case hd => rfl); (case hg => rfl); (case hr => first | (go_simp; done) | (go_simp; rfl))
                   intro gb222 hg w32 hbox hb
                   have n0_ := Aside0.mk (Kd.R_below (by (with_reducible repeat (first | apply Kd.R_alloc | apply Kd.R_drewN | apply Kd.R_drew)); exact HO185.out) hb)
                   have n1_ := Aside0.mk (Kd.V_below (Kd.V_elderB (by (with_reducible repeat (first | apply Kd.V_alloc | apply Kd.V_drewN | apply Kd.V_drew)); exact HO190.out) gb222 (Nat.le_of_eq hg.symm)) hb)
                   have n2_ := Aside0.mk (Kd.V_below (Kd.V_elderB (by (with_reducible repeat (first | apply Kd.V_alloc | apply Kd.V_drewN | apply Kd.V_drew)); exact HO193.out) gb222 (Nat.le_of_eq hg.symm)) hb)
                   have n3_ := Aside0.mk (Kd.N_below (Kd.N_elderB (by (with_reducible repeat (first | apply Kd.N_alloc | apply Kd.N_drewN | apply Kd.N_drew)); exact HO197.out) gb222 (Nat.le_of_eq hg.symm)) hb)
                   have n4_ := Aside0.mk (Kd.V_below (Kd.V_elderB (by (with_reducible repeat (first | apply Kd.V_alloc | apply Kd.V_drewN | apply Kd.V_drew)); exact HO202.out) gb222 (Nat.le_of_eq hg.symm)) hb)
                   have n5_ := Aside0.mk (Kd.V_below (Kd.V_elderB (by (with_reducible repeat (first | apply Kd.V_alloc | apply Kd.V_drewN | apply Kd.V_drew)); exact HO209.out) gb222 (Nat.le_of_eq hg.symm)) hb)
                   have n6_ := Aside0.mk (blk_below (g := gb203) (o := .cells #[.slice Ao22 t191.length co22, .bool t194] 26 (0, 0)) (by (with_reducible repeat (first | refine kN ?_ _ | refine kD ?_ | refine kA ?_ _)); exact BK203.out) hb)
                   have n7_ := Aside0.mk (blk_below (g := gb204) (o := .cells #[.int .i64 t198, .int .i64 t199, .slice Ao26 t200.length co26] 29 (0, 0)) (by (with_reducible repeat (first | refine kN ?_ _ | refine kD ?_ | refine kA ?_ _)); exact BK204.out) hb)
                   have n8_ := Aside0.mk (blk_below (g := gb223) (o := .cells #[.int .i64 0, .int .i64 0, .slice none 0 0] 29 (0, 0)) (by (with_reducible repeat (first | refine kN ?_ _ | refine kD ?_ | refine kA ?_ _)); exact BK223.out) hb)
                   have n9_ := Aside0.mk (below_step (by repeat (first | (with_reducible first | exact HB.out | apply bA | apply bN | apply bD | refine bS ?_ GE203.out | refine bS ?_ GE204.out | refine bS ?_ GE223.out) | exact HB.out)) hb)
                   have n10_ := Aside0.mk (hbox)
                   have n11_ := Aside0.mk ((by rw [hg]; exact (below_size (by repeat (first | (with_reducible first | exact HB.out | apply bA | apply bN | apply bD | refine bS ?_ GE203.out | refine bS ?_ GE204.out | refine bS ?_ GE223.out) | exact HB.out))) : w.heap.size ≤ gb222))
                   have n12_ := Aside0.mk ((by rw [hg]; exact (below_size (by repeat (first | (with_reducible first | exact HB.out | apply bA | apply bN | apply bD | refine bS ?_ GE203.out | refine bS ?_ GE204.out | refine bS ?_ GE223.out) | exact HB.out))) : w.heap.size ≤ gb222))
                   have n13_ := Aside0.mk ((by rw [hg]; exact Nat.ne_of_lt (blk_lt (g := gb203) (o := .cells #[.slice Ao22 t191.length co22, .bool t194] 26 (0, 0)) (by (with_reducible repeat (first | refine kN ?_ _ | refine kD ?_ | refine kA ?_ _)); exact BK203.out)) : gb203 ≠ gb222))
                   have n14_ := Aside0.mk ((by rw [hg]; exact Nat.ne_of_gt (blk_lt (g := gb203) (o := .cells #[.slice Ao22 t191.length co22, .bool t194] 26 (0, 0)) (by (with_reducible repeat (first | refine kN ?_ _ | refine kD ?_ | refine kA ?_ _)); exact BK203.out)) : gb222 ≠ gb203))
                   have n15_ := Aside0.mk ((by rw [hg]; exact Nat.ne_of_lt (blk_lt (g := gb204) (o := .cells #[.int .i64 t198, .int .i64 t199, .slice Ao26 t200.length co26] 29 (0, 0)) (by (with_reducible repeat (first | refine kN ?_ _ | refine kD ?_ | refine kA ?_ _)); exact BK204.out)) : gb204 ≠ gb222))
                   have n16_ := Aside0.mk ((by rw [hg]; exact Nat.ne_of_gt (blk_lt (g := gb204) (o := .cells #[.int .i64 t198, .int .i64 t199, .slice Ao26 t200.length co26] 29 (0, 0)) (by (with_reducible repeat (first | refine kN ?_ _ | refine kD ?_ | refine kA ?_ _)); exact BK204.out)) : gb222 ≠ gb204))
                   have n17_ := Aside0.mk ((by rw [hg]; exact Nat.ne_of_lt (blk_lt (g := gb223) (o := .cells #[.int .i64 0, .int .i64 0, .slice none 0 0] 29 (0, 0)) (by (with_reducible repeat (first | refine kN ?_ _ | refine kD ?_ | refine kA ?_ _)); exact BK223.out)) : gb223 ≠ gb222))
                   have n18_ := Aside0.mk ((by rw [hg]; exact Nat.ne_of_gt (blk_lt (g := gb223) (o := .cells #[.int .i64 0, .int .i64 0, .slice none 0 0] 29 (0, 0)) (by (with_reducible repeat (first | refine kN ?_ _ | refine kD ?_ | refine kA ?_ _)); exact BK223.out)) : gb222 ≠ gb223))
                   clear HO185
                   clear HO190
                   clear HO193
                   clear HO197
                   clear HO202
                   clear HO209
                   clear BK203
                   clear BK204
                   clear BK223
                   clear HB
                   have HO185 := n0_
                   have HO190 := n1_
                   have HO193 := n2_
                   have HO197 := n3_
                   have HO202 := n4_
                   have HO209 := n5_
                   have BK203 := n6_
                   have BK204 := n7_
                   have BK223 := n8_
                   have HB := n9_
                   have BK222 := n10_
                   have GW222 := n11_
                   have GE222 := n12_
                   have NB203_222 := n13_
                   have NB222_203 := n14_
                   have NB204_222 := n15_
                   have NB222_204 := n16_
                   have NB223_222 := n17_
                   have NB222_223 := n18_
                   clear n0_ n1_ n2_ n3_ n4_ n5_ n6_ n7_ n8_ n9_ n10_ n11_ n12_ n13_ n14_ n15_ n16_ n17_ n18_
                   clear hb hbox hg
                   refine hK.out _ _ ⟨(blk_cell BK203.out 0).trans rfl, (blk_cell BK203.out 1).trans rfl⟩ (fun hHeld => ?_)
                   clear hK K
                   refine norm_ (a' := ?_) ?_ ?_
                   rotate_left
                   ·
                    show Act.put _ (some 5) _ = _
                    simp only [Act.put, sA, sB, sC, i64_w, i32_w]
                    rfl
                   exact norm_ (by first | (simp only [putAll, Act.put, sA, sB, sC]; done) | (simp only [putAll, Act.put, sA, sB, sC]; rfl)) (hJ8_9 (gb222, gb223) _ ⟨hHeld, (by (with_reducible repeat (first | apply Kd.R_alloc | apply Kd.R_drewN | apply Kd.R_drew)); exact HO185.out), (by (with_reducible repeat (first | apply Kd.V_alloc | apply Kd.V_drewN | apply Kd.V_drew)); exact Kd.V_mono HO190.out (fun _ hk => ⟨hk.1.1, ⟨hk.1.2.1, ⟨hk.1.2.2.1, ⟨hk.2, hk.1.2.2.2⟩⟩⟩⟩)), (by (with_reducible repeat (first | apply Kd.V_alloc | apply Kd.V_drewN | apply Kd.V_drew)); exact Kd.V_mono HO193.out (fun _ hk => ⟨hk.1.1, ⟨hk.1.2.1, ⟨hk.1.2.2.1, ⟨hk.1.2.2.2.1, ⟨hk.2, hk.1.2.2.2.2⟩⟩⟩⟩⟩)), (by (with_reducible repeat (first | apply Kd.N_alloc | apply Kd.N_drewN | apply Kd.N_drew)); exact Kd.N_mono HO197.out (fun _ hk => ⟨hk.1.1, ⟨hk.1.2.1, ⟨hk.1.2.2.1, ⟨hk.2, hk.1.2.2.2⟩⟩⟩⟩)), (by (with_reducible repeat (first | apply Kd.V_alloc | apply Kd.V_drewN | apply Kd.V_drew)); exact Kd.V_mono HO202.out (fun _ hk => ⟨hk.1.1, ⟨hk.1.2.1, ⟨hk.1.2.2.1, ⟨hk.1.2.2.2.1, ⟨hk.2, hk.1.2.2.2.2⟩⟩⟩⟩⟩)), (by (with_reducible repeat (first | apply Kd.V_alloc | apply Kd.V_drewN | apply Kd.V_drew)); exact Kd.V_mono HO209.out (fun _ hk => ⟨hk.1.1, ⟨hk.1.2.1, ⟨hk.1.2.2.1, ⟨hk.2, hk.1.2.2.2⟩⟩⟩⟩)), (by (with_reducible repeat (first | refine kN ?_ _ | refine kD ?_ | refine kA ?_ _)); exact BK203.out), (by (with_reducible repeat (first | refine kN ?_ _ | refine kD ?_ | refine kA ?_ _)); exact BK204.out), (by (with_reducible repeat (first | refine kN ?_ _ | refine kD ?_ | refine kA ?_ _)); exact BK222.out), (by (with_reducible repeat (first | refine kN ?_ _ | refine kD ?_ | refine kA ?_ _)); exact BK223.out), GW222.out, GE222.out, NB203_222.out, NB222_203.out, NB204_222.out, NB222_204.out, NB223_222.out, NB222_223.out, GW223.out, GE223.out, NB203_223.out, NB223_203.out, NB204_223.out, NB223_204.out, (by repeat (first | (with_reducible first | exact HB.out | apply bA | apply bN | apply bD | refine bS ?_ GE203.out | refine bS ?_ GE204.out | refine bS ?_ GE223.out | refine bS ?_ GE222.out) | exact HB.out))⟩)
                ·
                 skip
                 rintro gb222 w31 ⟨hS_, h0_, h1_, h2_, h3_, h4_, h5_, h6_, h7_, h8_, h9_, h10_, h11_, h12_, h13_, h14_, h15_⟩
                 have n0_ : Aside0 (Kd.R (Kd.int .u8) 5 w31 w.heap.size (fun _ => True) (.slice Ao17 t183.length co17) t183) := ⟨h0_⟩
                 have n1_ : Aside0 (Kd.V (Kd.int .u8) 5 w31 w.heap.size (fun k_ => some k_ ≠ (v196 : Value).ownBlock ∧ k_ ≠ gb203 ∧ k_ ≠ gb204 ∧ k_ ≠ gb222) (.slice Ao17 y186.length co17) y186) := ⟨h1_⟩
                 have n2_ : Aside0 (Kd.V (Kd.int .u8) 5 w31 w.heap.size (fun k_ => some k_ ≠ (.slice Ao17 t183.length co17 : Value).ownBlock ∧ some k_ ≠ (v196 : Value).ownBlock ∧ k_ ≠ gb203 ∧ k_ ≠ gb204 ∧ k_ ≠ gb222) (.slice Ao22 t191.length co22) t191) := ⟨h2_⟩
                 have n3_ : Aside0 (Kd.N k43 43 w31 w.heap.size (fun k_ => some k_ ≠ (.slice Ao17 t183.length co17 : Value).ownBlock ∧ k_ ≠ gb203 ∧ k_ ≠ gb204 ∧ k_ ≠ gb222) v196 t195) := ⟨h3_⟩
                 have n4_ : Aside0 (Kd.V (Kd.int .u8) 5 w31 w.heap.size (fun k_ => some k_ ≠ (.slice Ao17 t183.length co17 : Value).ownBlock ∧ some k_ ≠ (v196 : Value).ownBlock ∧ k_ ≠ gb203 ∧ k_ ≠ gb204 ∧ k_ ≠ gb222) (.slice Ao26 t200.length co26) t200) := ⟨h4_⟩
                 have n5_ : Aside0 (Kd.V (Kd.int .u8) 5 w31 w.heap.size (fun k_ => some k_ ≠ (v196 : Value).ownBlock ∧ k_ ≠ gb203 ∧ k_ ≠ gb204 ∧ k_ ≠ gb222) (.slice A29 y205.length c29) y205) := ⟨h5_⟩
                 have n6_ : Aside0 (w31.heap[gb203]? = some (.cells #[.slice Ao22 t191.length co22, .bool t194] 26 (0, 0))) := ⟨h6_⟩
                 have n7_ : Aside0 (w31.heap[gb204]? = some (.cells #[.int .i64 t198, .int .i64 t199, .slice Ao26 t200.length co26] 29 (0, 0))) := ⟨h7_⟩
                 have n8_ : Aside0 (w31.heap[gb222]? = some (.cells #[.slice none 0 0, .bool false] 26 (0, 0))) := ⟨h8_⟩
                 have n9_ : Aside0 (w.heap.size ≤ gb222) := ⟨h9_⟩
                 have n10_ : Aside0 (w.heap.size ≤ gb222) := ⟨h10_⟩
                 have n11_ : Aside0 (gb203 ≠ gb222) := ⟨h11_⟩
                 have n12_ : Aside0 (gb222 ≠ gb203) := ⟨h12_⟩
                 have n13_ : Aside0 (gb204 ≠ gb222) := ⟨h13_⟩
                 have n14_ : Aside0 (gb222 ≠ gb204) := ⟨h14_⟩
                 have n15_ : Aside0 (Below w.heap.size w w31) := ⟨h15_⟩
                 clear HO185
                 clear HO190
                 clear HO193
                 clear HO197
                 clear HO202
                 clear BK203
                 clear BK204
                 clear HB
                 clear h0_ h1_ h2_ h3_ h4_ h5_ h6_ h7_ h8_ h9_ h10_ h11_ h12_ h13_ h14_ h15_
                 have HO185 := n0_
                 have HO190 := n1_
                 have HO193 := n2_
                 have HO197 := n3_
                 have HO202 := n4_
                 have HO209 := n5_
                 have BK203 := n6_
                 have BK204 := n7_
                 have BK222 := n8_
                 have GW222 := n9_
                 have GE222 := n10_
                 have NB203_222 := n11_
                 have NB222_203 := n12_
                 have NB204_222 := n13_
                 have NB222_204 := n14_
                 have HB := n15_
                 clear n0_ n1_ n2_ n3_ n4_ n5_ n6_ n7_ n8_ n9_ n10_ n11_ n12_ n13_ n14_ n15_
                 have hHeld : w31.cell? ⟨gb203, 0, none⟩ = some (.slice Ao22 t191.length co22) ∧ w31.cell? ⟨gb203, 1, none⟩ = some (.bool t194) := hS_
                 refine norm_ (a' := ?_) ?_ ?_
                 rotate_left
                 ·
                  simp only [putAll, Act.put, sA, sB, sC]
                  rfl
                 refine two_ (i := 3) (j := 9) (Ni := some 25) (Nj := some 7) #[true, true, true, true, false, false, false, false, true, false, false, false, false] #[true, true, true, false, false, false, false, false, true, true, false, false, false] rfl rfl rfl rfl (two_of HT_.out (by kernel_rfl)) (by decide) (by decide) (fun K hK => ?_) (fun K hK => ?_)
                 ·
                  skip
                  refine goes_ Try.func8 (by kernel_rfl) rfl #[.agg #[.slice Ao22 t191.length co22, .bool t194], .slice A29 y205.length c29] (by rfl) rfl rfl (by (try simp only [List.map_toArray, List.map_cons, List.map_nil]); first | done | rfl | (simp only [List.length_drop, List.length_take]; rfl)) ?_
                  with_reducible refine (stream_Feed.calls _ _ t191 t194 _ _ y205 t210 t213 t214 t217 t218 t219 _ ?side1 ?side2 ?side3 ?side4 A6.out).mono ?_
                  (case side1 => repeat (first | exact (Kd.V_reads' HO193.out).2.2 | (with_reducible refine Kd.C_alloc ?_ _) | (with_reducible refine Kd.C_drewN ?_ _) | (with_reducible refine Kd.C_drew ?_)))
                  (case side2 => exact (Kd.V_reads' HO193.out).2.1)
                  (case side3 => repeat (first | exact (Kd.V_reads' HO209.out).2.2 | (with_reducible refine Kd.C_alloc ?_ _) | (with_reducible refine Kd.C_drewN ?_ _) | (with_reducible refine Kd.C_drew ?_)))
                  (case side4 => exact (Kd.V_reads' HO209.out).2.1)
                  rintro e w32 ⟨v211, v215, v220, rfl, ho0, ho1, ho2, hb⟩
                  refine ⟨_, rfl, ?_⟩
                  have n0_ := Aside0.mk (Kd.R_below (by (with_reducible repeat (first | apply Kd.R_alloc | apply Kd.R_drewN | apply Kd.R_drew)); exact HO185.out) hb)
                  have n1_ := Aside0.mk (Kd.V_elder' (by (with_reducible repeat (first | apply Kd.V_alloc | apply Kd.V_drewN | apply Kd.V_drew)); exact HO190.out) (Kd.N_base ho1) hb)
                  have n2_ := Aside0.mk (Kd.V_elder' (by (with_reducible repeat (first | apply Kd.V_alloc | apply Kd.V_drewN | apply Kd.V_drew)); exact HO193.out) (Kd.N_base ho1) hb)
                  have n3_ := Aside0.mk (Kd.N_elder' (by (with_reducible repeat (first | apply Kd.N_alloc | apply Kd.N_drewN | apply Kd.N_drew)); exact HO197.out) (Kd.N_base ho1) hb)
                  have n4_ := Aside0.mk (Kd.V_elder' (by (with_reducible repeat (first | apply Kd.V_alloc | apply Kd.V_drewN | apply Kd.V_drew)); exact HO202.out) (Kd.N_base ho1) hb)
                  have n5_ := Aside0.mk (Kd.V_elder' (by (with_reducible repeat (first | apply Kd.V_alloc | apply Kd.V_drewN | apply Kd.V_drew)); exact HO209.out) (Kd.N_base ho1) hb)
                  have n6_ := Aside0.mk (Kd.V_lower (Kd.V_mono (ok' := fun k_ => some k_ ≠ (v215 : Value).ownBlock ∧ some k_ ≠ (.slice Ao17 t183.length co17 : Value).ownBlock ∧ some k_ ≠ (v196 : Value).ownBlock ∧ k_ ≠ gb203 ∧ k_ ≠ gb204 ∧ k_ ≠ gb222) ho0 (fun k_ hk_ => ⟨hk_.2, (Kd.fresh' (Kd.R_lt (by (with_reducible repeat (first | apply Kd.R_alloc | apply Kd.R_drewN | apply Kd.R_drew)); exact HO185.out)) k_ hk_.1), (Kd.fresh' (Kd.N_lt (by (with_reducible repeat (first | apply Kd.N_alloc | apply Kd.N_drewN | apply Kd.N_drew)); exact HO197.out)) k_ hk_.1), (Kd.freshB (g := gb203) (o := .cells #[.slice Ao22 t191.length co22, .bool t194] 26 (0, 0)) (by (with_reducible repeat (first | refine kN ?_ _ | refine kD ?_ | refine kA ?_ _)); exact BK203.out) k_ hk_.1), (Kd.freshB (g := gb204) (o := .cells #[.int .i64 t198, .int .i64 t199, .slice Ao26 t200.length co26] 29 (0, 0)) (by (with_reducible repeat (first | refine kN ?_ _ | refine kD ?_ | refine kA ?_ _)); exact BK204.out) k_ hk_.1), (Kd.freshB (g := gb222) (o := .cells #[.slice none 0 0, .bool false] 26 (0, 0)) (by (with_reducible repeat (first | refine kN ?_ _ | refine kD ?_ | refine kA ?_ _)); exact BK222.out) k_ hk_.1)⟩)) (below_size (by repeat (first | (with_reducible first | exact HB.out | apply bA | apply bN | apply bD | refine bS ?_ GE203.out | refine bS ?_ GE204.out | refine bS ?_ GE222.out) | exact HB.out))))
                  have n7_ := Aside0.mk (Kd.N_lower (Kd.N_mono (ok' := fun k_ => some k_ ≠ (.slice Ao17 t183.length co17 : Value).ownBlock ∧ some k_ ≠ (v196 : Value).ownBlock ∧ k_ ≠ gb203 ∧ k_ ≠ gb204 ∧ k_ ≠ gb222) ho1 (fun k_ hk_ => ⟨(Kd.fresh' (Kd.R_lt (by (with_reducible repeat (first | apply Kd.R_alloc | apply Kd.R_drewN | apply Kd.R_drew)); exact HO185.out)) k_ hk_), (Kd.fresh' (Kd.N_lt (by (with_reducible repeat (first | apply Kd.N_alloc | apply Kd.N_drewN | apply Kd.N_drew)); exact HO197.out)) k_ hk_), (Kd.freshB (g := gb203) (o := .cells #[.slice Ao22 t191.length co22, .bool t194] 26 (0, 0)) (by (with_reducible repeat (first | refine kN ?_ _ | refine kD ?_ | refine kA ?_ _)); exact BK203.out) k_ hk_), (Kd.freshB (g := gb204) (o := .cells #[.int .i64 t198, .int .i64 t199, .slice Ao26 t200.length co26] 29 (0, 0)) (by (with_reducible repeat (first | refine kN ?_ _ | refine kD ?_ | refine kA ?_ _)); exact BK204.out) k_ hk_), (Kd.freshB (g := gb222) (o := .cells #[.slice none 0 0, .bool false] 26 (0, 0)) (by (with_reducible repeat (first | refine kN ?_ _ | refine kD ?_ | refine kA ?_ _)); exact BK222.out) k_ hk_)⟩)) (below_size (by repeat (first | (with_reducible first | exact HB.out | apply bA | apply bN | apply bD | refine bS ?_ GE203.out | refine bS ?_ GE204.out | refine bS ?_ GE222.out) | exact HB.out))))
                  have n8_ := Aside0.mk (Kd.V_lower (Kd.V_mono (ok' := fun k_ => some k_ ≠ (v215 : Value).ownBlock ∧ some k_ ≠ (.slice Ao17 t183.length co17 : Value).ownBlock ∧ some k_ ≠ (v196 : Value).ownBlock ∧ k_ ≠ gb203 ∧ k_ ≠ gb204 ∧ k_ ≠ gb222) ho2 (fun k_ hk_ => ⟨hk_.2, (Kd.fresh' (Kd.R_lt (by (with_reducible repeat (first | apply Kd.R_alloc | apply Kd.R_drewN | apply Kd.R_drew)); exact HO185.out)) k_ hk_.1), (Kd.fresh' (Kd.N_lt (by (with_reducible repeat (first | apply Kd.N_alloc | apply Kd.N_drewN | apply Kd.N_drew)); exact HO197.out)) k_ hk_.1), (Kd.freshB (g := gb203) (o := .cells #[.slice Ao22 t191.length co22, .bool t194] 26 (0, 0)) (by (with_reducible repeat (first | refine kN ?_ _ | refine kD ?_ | refine kA ?_ _)); exact BK203.out) k_ hk_.1), (Kd.freshB (g := gb204) (o := .cells #[.int .i64 t198, .int .i64 t199, .slice Ao26 t200.length co26] 29 (0, 0)) (by (with_reducible repeat (first | refine kN ?_ _ | refine kD ?_ | refine kA ?_ _)); exact BK204.out) k_ hk_.1), (Kd.freshB (g := gb222) (o := .cells #[.slice none 0 0, .bool false] 26 (0, 0)) (by (with_reducible repeat (first | refine kN ?_ _ | refine kD ?_ | refine kA ?_ _)); exact BK222.out) k_ hk_.1)⟩)) (below_size (by repeat (first | (with_reducible first | exact HB.out | apply bA | apply bN | apply bD | refine bS ?_ GE203.out | refine bS ?_ GE204.out | refine bS ?_ GE222.out) | exact HB.out))))
                  have n9_ := Aside0.mk (blk_below (g := gb203) (o := .cells #[.slice Ao22 t191.length co22, .bool t194] 26 (0, 0)) (by (with_reducible repeat (first | refine kN ?_ _ | refine kD ?_ | refine kA ?_ _)); exact BK203.out) hb)
                  have n10_ := Aside0.mk (blk_below (g := gb204) (o := .cells #[.int .i64 t198, .int .i64 t199, .slice Ao26 t200.length co26] 29 (0, 0)) (by (with_reducible repeat (first | refine kN ?_ _ | refine kD ?_ | refine kA ?_ _)); exact BK204.out) hb)
                  have n11_ := Aside0.mk (blk_below (g := gb222) (o := .cells #[.slice none 0 0, .bool false] 26 (0, 0)) (by (with_reducible repeat (first | refine kN ?_ _ | refine kD ?_ | refine kA ?_ _)); exact BK222.out) hb)
                  have n12_ := Aside0.mk (below_step (by repeat (first | (with_reducible first | exact HB.out | apply bA | apply bN | apply bD | refine bS ?_ GE203.out | refine bS ?_ GE204.out | refine bS ?_ GE222.out) | exact HB.out)) hb)
                  clear HO185
                  clear HO190
                  clear HO193
                  clear HO197
                  clear HO202
                  clear HO209
                  clear BK203
                  clear BK204
                  clear BK222
                  clear HB
                  have HO185 := n0_
                  have HO190 := n1_
                  have HO193 := n2_
                  have HO197 := n3_
                  have HO202 := n4_
                  have HO209 := n5_
                  have HO212 := n6_
                  have HO216 := n7_
                  have HO221 := n8_
                  have BK203 := n9_
                  have BK204 := n10_
                  have BK222 := n11_
                  have HB := n12_
                  clear n0_ n1_ n2_ n3_ n4_ n5_ n6_ n7_ n8_ n9_ n10_ n11_ n12_
                  (try clear hb)
                  (try clear hb2)
                  (try clear hk)
                  (try clear hi)
                  (try clear ho0)
                  (try clear ho1)
                  (try clear ho2)
                  refine hK.out _ _ ⟨(blk_cell BK203.out 0).trans rfl, (blk_cell BK203.out 1).trans rfl⟩ (fun hHeld => ?_)
                  clear hK K
                  refine norm_ (a' := ?_) ?_ ?_
                  rotate_left
                  ·
                   show Act.put _ (some 25) _ = _
                   simp only [Act.put, sA, sB, sC, i64_w, i32_w]
                   rfl
                  refine pure_ (i := 4) (N := some 21) (v := ?_) (a' := ?_) #[true, true, true, true, true, false, false, false, true, false, false, false, false] rfl rfl (any_of HT_.out (by kernel_rfl)) (fun _ _ _ h => h) (Or.inl ⟨by rfl, ?_⟩) ?_ ?_
                  rotate_left
                  ·
                   intro w'
                   go_simp
                   with_reducible rfl
                  rotate_left
                  ·
                   simp only [Act.put, sA, sB, sC, i64_w, i32_w]
                   rfl
                  refine pure_ (i := 5) (N := some 26) (v := ?_) (a' := ?_) #[true, true, true, true, true, true, false, false, true, false, false, false, false] rfl rfl (any_of HT_.out (by kernel_rfl)) (fun _ _ _ h => h) (Or.inl ⟨by rfl, ?_⟩) ?_ ?_
                  rotate_left
                  ·
                   intro w'
                   go_simp
                   with_reducible rfl
                  rotate_left
                  ·
                   simp only [Act.put, sA, sB, sC, i64_w, i32_w]
                   rfl
                  refine pure_ (i := 6) (N := some 27) (v := ?_) (a' := ?_) #[true, true, true, true, true, true, true, false, true, false, false, false, false] rfl rfl (any_of HT_.out (by kernel_rfl)) (fun _ _ _ h => h) (Or.inl ⟨by rfl, ?_⟩) ?_ ?_
                  rotate_left
                  ·
                   intro w'
                   go_simp
                   with_reducible rfl
                  rotate_left
                  ·
                   simp only [Act.put, sA, sB, sC, i64_w, i32_w]
                   rfl
                  refine pure_ (i := 7) (N := some 28) (v := ?_) (a' := ?_) #[true, true, true, true, true, true, true, true, true, false, false, false, false] rfl rfl (any_of HT_.out (by kernel_rfl)) (fun _ _ _ h => h) (Or.inl ⟨by rfl, ?_⟩) ?_ ?_
                  rotate_left
                  ·
                   intro w'
                   go_simp
                   with_reducible rfl
                  rotate_left
                  ·
                   simp only [Act.put, sA, sB, sC, i64_w, i32_w]
                   rfl
                  exact norm_ (by first | (simp only [putAll, Act.put, sA, sB, sC]; done) | (simp only [putAll, Act.put, sA, sB, sC]; rfl)) (hJ3_8 (v211, v215, v220, gb222) _ ⟨hHeld, (by (with_reducible repeat (first | apply Kd.R_alloc | apply Kd.R_drewN | apply Kd.R_drew)); exact HO185.out), (by (with_reducible repeat (first | apply Kd.V_alloc | apply Kd.V_drewN | apply Kd.V_drew)); exact Kd.V_mono HO190.out (fun _ hk => ⟨hk.1.1, ⟨hk.2, ⟨hk.1.2.1, ⟨hk.1.2.2.1, hk.1.2.2.2⟩⟩⟩⟩)), (by (with_reducible repeat (first | apply Kd.V_alloc | apply Kd.V_drewN | apply Kd.V_drew)); exact Kd.V_mono HO193.out (fun _ hk => ⟨hk.1.1, ⟨hk.1.2.1, ⟨hk.2, ⟨hk.1.2.2.1, ⟨hk.1.2.2.2.1, hk.1.2.2.2.2⟩⟩⟩⟩⟩)), (by (with_reducible repeat (first | apply Kd.N_alloc | apply Kd.N_drewN | apply Kd.N_drew)); exact Kd.N_mono HO197.out (fun _ hk => ⟨hk.1.1, ⟨hk.2, ⟨hk.1.2.1, ⟨hk.1.2.2.1, hk.1.2.2.2⟩⟩⟩⟩)), (by (with_reducible repeat (first | apply Kd.V_alloc | apply Kd.V_drewN | apply Kd.V_drew)); exact Kd.V_mono HO202.out (fun _ hk => ⟨hk.1.1, ⟨hk.1.2.1, ⟨hk.2, ⟨hk.1.2.2.1, ⟨hk.1.2.2.2.1, hk.1.2.2.2.2⟩⟩⟩⟩⟩)), (by (with_reducible repeat (first | apply Kd.V_alloc | apply Kd.V_drewN | apply Kd.V_drew)); exact Kd.V_mono HO209.out (fun _ hk => ⟨hk.1.1, ⟨hk.2, ⟨hk.1.2.1, ⟨hk.1.2.2.1, hk.1.2.2.2⟩⟩⟩⟩)), (by (with_reducible repeat (first | apply Kd.V_alloc | apply Kd.V_drewN | apply Kd.V_drew)); exact Kd.V_mono HO212.out (fun _ hk => ⟨hk.2.1, ⟨hk.2.2.1, ⟨hk.1, ⟨hk.2.2.2.1, ⟨hk.2.2.2.2.1, hk.2.2.2.2.2⟩⟩⟩⟩⟩)), (by (with_reducible repeat (first | apply Kd.N_alloc | apply Kd.N_drewN | apply Kd.N_drew)); exact HO216.out), (by (with_reducible repeat (first | apply Kd.V_alloc | apply Kd.V_drewN | apply Kd.V_drew)); exact Kd.V_mono HO221.out (fun _ hk => ⟨hk.2.1, ⟨hk.2.2.1, ⟨hk.1, ⟨hk.2.2.2.1, ⟨hk.2.2.2.2.1, hk.2.2.2.2.2⟩⟩⟩⟩⟩)), (by (with_reducible repeat (first | refine kN ?_ _ | refine kD ?_ | refine kA ?_ _)); exact BK203.out), (by (with_reducible repeat (first | refine kN ?_ _ | refine kD ?_ | refine kA ?_ _)); exact BK204.out), (by (with_reducible repeat (first | refine kN ?_ _ | refine kD ?_ | refine kA ?_ _)); exact BK222.out), GW222.out, GE222.out, NB203_222.out, NB222_203.out, NB204_222.out, NB222_204.out, (by repeat (first | (with_reducible first | exact HB.out | apply bA | apply bN | apply bD | refine bS ?_ GE203.out | refine bS ?_ GE204.out | refine bS ?_ GE222.out) | exact HB.out))⟩)
                 ·
                  skip
                  refine box_step ?hg (N := 7) ?hd (cs := #[.int .i64 0, .int .i64 0, .slice none 0 0]) (t := 29) ?hr ?_; (case hd => rfl); (case hg => rfl); (case hr => first | (go_simp; done) | (go_simp; rfl))
                  intro gb223 hg w32 hbox hb
                  have n0_ := Aside0.mk (Kd.R_below (by (with_reducible repeat (first | apply Kd.R_alloc | apply Kd.R_drewN | apply Kd.R_drew)); exact HO185.out) hb)
                  have n1_ := Aside0.mk (Kd.V_below (Kd.V_elderB (by (with_reducible repeat (first | apply Kd.V_alloc | apply Kd.V_drewN | apply Kd.V_drew)); exact HO190.out) gb223 (Nat.le_of_eq hg.symm)) hb)
                  have n2_ := Aside0.mk (Kd.V_below (Kd.V_elderB (by (with_reducible repeat (first | apply Kd.V_alloc | apply Kd.V_drewN | apply Kd.V_drew)); exact HO193.out) gb223 (Nat.le_of_eq hg.symm)) hb)
                  have n3_ := Aside0.mk (Kd.N_below (Kd.N_elderB (by (with_reducible repeat (first | apply Kd.N_alloc | apply Kd.N_drewN | apply Kd.N_drew)); exact HO197.out) gb223 (Nat.le_of_eq hg.symm)) hb)
                  have n4_ := Aside0.mk (Kd.V_below (Kd.V_elderB (by (with_reducible repeat (first | apply Kd.V_alloc | apply Kd.V_drewN | apply Kd.V_drew)); exact HO202.out) gb223 (Nat.le_of_eq hg.symm)) hb)
                  have n5_ := Aside0.mk (Kd.V_below (Kd.V_elderB (by (with_reducible repeat (first | apply Kd.V_alloc | apply Kd.V_drewN | apply Kd.V_drew)); exact HO209.out) gb223 (Nat.le_of_eq hg.symm)) hb)
                  have n6_ := Aside0.mk (blk_below (g := gb203) (o := .cells #[.slice Ao22 t191.length co22, .bool t194] 26 (0, 0)) (by (with_reducible repeat (first | refine kN ?_ _ | refine kD ?_ | refine kA ?_ _)); exact BK203.out) hb)
                  have n7_ := Aside0.mk (blk_below (g := gb204) (o := .cells #[.int .i64 t198, .int .i64 t199, .slice Ao26 t200.length co26] 29 (0, 0)) (by (with_reducible repeat (first | refine kN ?_ _ | refine kD ?_ | refine kA ?_ _)); exact BK204.out) hb)
                  have n8_ := Aside0.mk (blk_below (g := gb222) (o := .cells #[.slice none 0 0, .bool false] 26 (0, 0)) (by (with_reducible repeat (first | refine kN ?_ _ | refine kD ?_ | refine kA ?_ _)); exact BK222.out) hb)
                  have n9_ := Aside0.mk (below_step (by repeat (first | (with_reducible first | exact HB.out | apply bA | apply bN | apply bD | refine bS ?_ GE203.out | refine bS ?_ GE204.out | refine bS ?_ GE222.out) | exact HB.out)) hb)
                  have n10_ := Aside0.mk (hbox)
                  have n11_ := Aside0.mk ((by rw [hg]; exact (below_size (by repeat (first | (with_reducible first | exact HB.out | apply bA | apply bN | apply bD | refine bS ?_ GE203.out | refine bS ?_ GE204.out | refine bS ?_ GE222.out) | exact HB.out))) : w.heap.size ≤ gb223))
                  have n12_ := Aside0.mk ((by rw [hg]; exact (below_size (by repeat (first | (with_reducible first | exact HB.out | apply bA | apply bN | apply bD | refine bS ?_ GE203.out | refine bS ?_ GE204.out | refine bS ?_ GE222.out) | exact HB.out))) : w.heap.size ≤ gb223))
                  have n13_ := Aside0.mk ((by rw [hg]; exact Nat.ne_of_lt (blk_lt (g := gb203) (o := .cells #[.slice Ao22 t191.length co22, .bool t194] 26 (0, 0)) (by (with_reducible repeat (first | refine kN ?_ _ | refine kD ?_ | refine kA ?_ _)); exact BK203.out)) : gb203 ≠ gb223))
                  have n14_ := Aside0.mk ((by rw [hg]; exact Nat.ne_of_gt (blk_lt (g := gb203) (o := .cells #[.slice Ao22 t191.length co22, .bool t194] 26 (0, 0)) (by (with_reducible repeat (first | refine kN ?_ _ | refine kD ?_ | refine kA ?_ _)); exact BK203.out)) : gb223 ≠ gb203))
                  have n15_ := Aside0.mk ((by rw [hg]; exact Nat.ne_of_lt (blk_lt (g := gb204) (o := .cells #[.int .i64 t198, .int .i64 t199, .slice Ao26 t200.length co26] 29 (0, 0)) (by (with_reducible repeat (first | refine kN ?_ _ | refine kD ?_ | refine kA ?_ _)); exact BK204.out)) : gb204 ≠ gb223))
                  have n16_ := Aside0.mk ((by rw [hg]; exact Nat.ne_of_gt (blk_lt (g := gb204) (o := .cells #[.int .i64 t198, .int .i64 t199, .slice Ao26 t200.length co26] 29 (0, 0)) (by (with_reducible repeat (first | refine kN ?_ _ | refine kD ?_ | refine kA ?_ _)); exact BK204.out)) : gb223 ≠ gb204))
                  have n17_ := Aside0.mk ((by rw [hg]; exact Nat.ne_of_lt (blk_lt (g := gb222) (o := .cells #[.slice none 0 0, .bool false] 26 (0, 0)) (by (with_reducible repeat (first | refine kN ?_ _ | refine kD ?_ | refine kA ?_ _)); exact BK222.out)) : gb222 ≠ gb223))
                  have n18_ := Aside0.mk ((by rw [hg]; exact Nat.ne_of_gt (blk_lt (g := gb222) (o := .cells #[.slice none 0 0, .bool false] 26 (0, 0)) (by (with_reducible repeat (first | refine kN ?_ _ | refine kD ?_ | refine kA ?_ _)); exact BK222.out)) : gb223 ≠ gb222))
                  clear HO185
                  clear HO190
                  clear HO193
                  clear HO197
                  clear HO202
                  clear HO209
                  clear BK203
                  clear BK204
                  clear BK222
                  clear HB
                  have HO185 := n0_
                  have HO190 := n1_
                  have HO193 := n2_
                  have HO197 := n3_
                  have HO202 := n4_
                  have HO209 := n5_
                  have BK203 := n6_
                  have BK204 := n7_
                  have BK222 := n8_
                  have HB := n9_
                  have BK223 := n10_
                  have GW223 := n11_
                  have GE223 := n12_
                  have NB203_223 := n13_
                  have NB223_203 := n14_
                  have NB204_223 := n15_
                  have NB223_204 := n16_
                  have NB222_223 := n17_
                  have NB223_222 := n18_
                  clear n0_ n1_ n2_ n3_ n4_ n5_ n6_ n7_ n8_ n9_ n10_ n11_ n12_ n13_ n14_ n15_ n16_ n17_ n18_
                  clear hb hbox hg
                  refine hK.out _ _ ⟨(blk_cell BK203.out 0).trans rfl, (blk_cell BK203.out 1).trans rfl⟩ (fun hHeld => ?_)
                  clear hK K
                  refine norm_ (a' := ?_) ?_ ?_
                  rotate_left
                  ·
                   show Act.put _ (some 7) _ = _
                   simp only [Act.put, sA, sB, sC, i64_w, i32_w]
                   rfl
                  exact norm_ (by first | (simp only [putAll, Act.put, sA, sB, sC]; done) | (simp only [putAll, Act.put, sA, sB, sC]; rfl)) (hJ8_9 (gb222, gb223) _ ⟨hHeld, (by (with_reducible repeat (first | apply Kd.R_alloc | apply Kd.R_drewN | apply Kd.R_drew)); exact HO185.out), (by (with_reducible repeat (first | apply Kd.V_alloc | apply Kd.V_drewN | apply Kd.V_drew)); exact Kd.V_mono HO190.out (fun _ hk => ⟨hk.1.1, ⟨hk.1.2.1, ⟨hk.1.2.2.1, ⟨hk.1.2.2.2, hk.2⟩⟩⟩⟩)), (by (with_reducible repeat (first | apply Kd.V_alloc | apply Kd.V_drewN | apply Kd.V_drew)); exact Kd.V_mono HO193.out (fun _ hk => ⟨hk.1.1, ⟨hk.1.2.1, ⟨hk.1.2.2.1, ⟨hk.1.2.2.2.1, ⟨hk.1.2.2.2.2, hk.2⟩⟩⟩⟩⟩)), (by (with_reducible repeat (first | apply Kd.N_alloc | apply Kd.N_drewN | apply Kd.N_drew)); exact Kd.N_mono HO197.out (fun _ hk => ⟨hk.1.1, ⟨hk.1.2.1, ⟨hk.1.2.2.1, ⟨hk.1.2.2.2, hk.2⟩⟩⟩⟩)), (by (with_reducible repeat (first | apply Kd.V_alloc | apply Kd.V_drewN | apply Kd.V_drew)); exact Kd.V_mono HO202.out (fun _ hk => ⟨hk.1.1, ⟨hk.1.2.1, ⟨hk.1.2.2.1, ⟨hk.1.2.2.2.1, ⟨hk.1.2.2.2.2, hk.2⟩⟩⟩⟩⟩)), (by (with_reducible repeat (first | apply Kd.V_alloc | apply Kd.V_drewN | apply Kd.V_drew)); exact Kd.V_mono HO209.out (fun _ hk => ⟨hk.1.1, ⟨hk.1.2.1, ⟨hk.1.2.2.1, ⟨hk.1.2.2.2, hk.2⟩⟩⟩⟩)), (by (with_reducible repeat (first | refine kN ?_ _ | refine kD ?_ | refine kA ?_ _)); exact BK203.out), (by (with_reducible repeat (first | refine kN ?_ _ | refine kD ?_ | refine kA ?_ _)); exact BK204.out), (by (with_reducible repeat (first | refine kN ?_ _ | refine kD ?_ | refine kA ?_ _)); exact BK222.out), (by (with_reducible repeat (first | refine kN ?_ _ | refine kD ?_ | refine kA ?_ _)); exact BK223.out), GW222.out, GE222.out, NB203_222.out, NB222_203.out, NB204_222.out, NB222_204.out, NB223_222.out, NB222_223.out, GW223.out, GE223.out, NB203_223.out, NB223_203.out, NB204_223.out, NB223_204.out, (by repeat (first | (with_reducible first | exact HB.out | apply bA | apply bN | apply bD | refine bS ?_ GE203.out | refine bS ?_ GE204.out | refine bS ?_ GE222.out | refine bS ?_ GE223.out) | exact HB.out))⟩)
               ·
                skip
                rintro ⟨v211, v215, v220⟩ w31 ⟨hS_, h0_, h1_, h2_, h3_, h4_, h5_, h6_, h7_, h8_, h9_, h10_, h11_⟩
                have n0_ : Aside0 (Kd.R (Kd.int .u8) 5 w31 w.heap.size (fun _ => True) (.slice Ao17 t183.length co17) t183) := ⟨h0_⟩
                have n1_ : Aside0 (Kd.V (Kd.int .u8) 5 w31 w.heap.size (fun k_ => some k_ ≠ (v196 : Value).ownBlock ∧ some k_ ≠ (v215 : Value).ownBlock ∧ k_ ≠ gb203 ∧ k_ ≠ gb204) (.slice Ao17 y186.length co17) y186) := ⟨h1_⟩
                have n2_ : Aside0 (Kd.V (Kd.int .u8) 5 w31 w.heap.size (fun k_ => some k_ ≠ (.slice Ao17 t183.length co17 : Value).ownBlock ∧ some k_ ≠ (v196 : Value).ownBlock ∧ some k_ ≠ (v215 : Value).ownBlock ∧ k_ ≠ gb203 ∧ k_ ≠ gb204) (.slice Ao22 t191.length co22) t191) := ⟨h2_⟩
                have n3_ : Aside0 (Kd.N k43 43 w31 w.heap.size (fun k_ => some k_ ≠ (.slice Ao17 t183.length co17 : Value).ownBlock ∧ some k_ ≠ (v215 : Value).ownBlock ∧ k_ ≠ gb203 ∧ k_ ≠ gb204) v196 t195) := ⟨h3_⟩
                have n4_ : Aside0 (Kd.V (Kd.int .u8) 5 w31 w.heap.size (fun k_ => some k_ ≠ (.slice Ao17 t183.length co17 : Value).ownBlock ∧ some k_ ≠ (v196 : Value).ownBlock ∧ some k_ ≠ (v215 : Value).ownBlock ∧ k_ ≠ gb203 ∧ k_ ≠ gb204) (.slice Ao26 t200.length co26) t200) := ⟨h4_⟩
                have n5_ : Aside0 (Kd.V (Kd.int .u8) 5 w31 w.heap.size (fun k_ => some k_ ≠ (v196 : Value).ownBlock ∧ some k_ ≠ (v215 : Value).ownBlock ∧ k_ ≠ gb203 ∧ k_ ≠ gb204) (.slice A29 y205.length c29) y205) := ⟨h5_⟩
                have n6_ : Aside0 (Kd.V (Kd.int .u8) 5 w31 w.heap.size (fun k_ => some k_ ≠ (.slice Ao17 t183.length co17 : Value).ownBlock ∧ some k_ ≠ (v196 : Value).ownBlock ∧ some k_ ≠ (v215 : Value).ownBlock ∧ k_ ≠ gb203 ∧ k_ ≠ gb204) v211 t210) := ⟨h6_⟩
                have n7_ : Aside0 (Kd.N k43 43 w31 w.heap.size (fun k_ => some k_ ≠ (.slice Ao17 t183.length co17 : Value).ownBlock ∧ some k_ ≠ (v196 : Value).ownBlock ∧ k_ ≠ gb203 ∧ k_ ≠ gb204) v215 t214) := ⟨h7_⟩
                have n8_ : Aside0 (Kd.V (Kd.int .u8) 5 w31 w.heap.size (fun k_ => some k_ ≠ (.slice Ao17 t183.length co17 : Value).ownBlock ∧ some k_ ≠ (v196 : Value).ownBlock ∧ some k_ ≠ (v215 : Value).ownBlock ∧ k_ ≠ gb203 ∧ k_ ≠ gb204) v220 t219) := ⟨h8_⟩
                have n9_ : Aside0 (w31.heap[gb203]? = some (.cells #[.slice Ao22 t191.length co22, .bool t194] 26 (0, 0))) := ⟨h9_⟩
                have n10_ : Aside0 (w31.heap[gb204]? = some (.cells #[.int .i64 t198, .int .i64 t199, .slice Ao26 t200.length co26] 29 (0, 0))) := ⟨h10_⟩
                have n11_ : Aside0 (Below w.heap.size w w31) := ⟨h11_⟩
                clear HO185
                clear HO190
                clear HO193
                clear HO197
                clear HO202
                clear BK203
                clear BK204
                clear HB
                clear h0_ h1_ h2_ h3_ h4_ h5_ h6_ h7_ h8_ h9_ h10_ h11_
                have HO185 := n0_
                have HO190 := n1_
                have HO193 := n2_
                have HO197 := n3_
                have HO202 := n4_
                have HO209 := n5_
                have HO212 := n6_
                have HO216 := n7_
                have HO221 := n8_
                have BK203 := n9_
                have BK204 := n10_
                have HB := n11_
                clear n0_ n1_ n2_ n3_ n4_ n5_ n6_ n7_ n8_ n9_ n10_ n11_
                have hHeld : w31.cell? ⟨gb203, 0, none⟩ = some (.slice Ao22 t191.length co22) ∧ w31.cell? ⟨gb203, 1, none⟩ = some (.bool t194) := hS_
                refine norm_ (a' := ?_) ?_ ?_
                rotate_left
                ·
                 simp only [putAll, Act.put, sA, sB, sC]
                 rfl
                refine two_ (i := 8) (j := 9) (Ni := some 5) (Nj := some 7) #[true, true, true, true, true, true, true, true, true, false, false, false, false] #[true, true, true, true, true, true, true, true, false, true, false, false, false] rfl rfl rfl rfl (two_of HT_.out (by kernel_rfl)) (by decide) (by decide) (fun K hK => ?_) (fun K hK => ?_)
                ·
                 skip
                 refine box_step ?hg (N := 5) ?hd (cs := #[.slice none 0 0, .bool false]) (t := 26) ?hr ?_; (case hd => rfl); (case hg => rfl); (case hr => first | (go_simp; done) | (go_simp; rfl))
                 intro gb222 hg w32 hbox hb
                 have n0_ := Aside0.mk (Kd.R_below (by (with_reducible repeat (first | apply Kd.R_alloc | apply Kd.R_drewN | apply Kd.R_drew)); exact HO185.out) hb)
                 have n1_ := Aside0.mk (Kd.V_below (Kd.V_elderB (by (with_reducible repeat (first | apply Kd.V_alloc | apply Kd.V_drewN | apply Kd.V_drew)); exact HO190.out) gb222 (Nat.le_of_eq hg.symm)) hb)
                 have n2_ := Aside0.mk (Kd.V_below (Kd.V_elderB (by (with_reducible repeat (first | apply Kd.V_alloc | apply Kd.V_drewN | apply Kd.V_drew)); exact HO193.out) gb222 (Nat.le_of_eq hg.symm)) hb)
                 have n3_ := Aside0.mk (Kd.N_below (Kd.N_elderB (by (with_reducible repeat (first | apply Kd.N_alloc | apply Kd.N_drewN | apply Kd.N_drew)); exact HO197.out) gb222 (Nat.le_of_eq hg.symm)) hb)
                 have n4_ := Aside0.mk (Kd.V_below (Kd.V_elderB (by (with_reducible repeat (first | apply Kd.V_alloc | apply Kd.V_drewN | apply Kd.V_drew)); exact HO202.out) gb222 (Nat.le_of_eq hg.symm)) hb)
                 have n5_ := Aside0.mk (Kd.V_below (Kd.V_elderB (by (with_reducible repeat (first | apply Kd.V_alloc | apply Kd.V_drewN | apply Kd.V_drew)); exact HO209.out) gb222 (Nat.le_of_eq hg.symm)) hb)
                 have n6_ := Aside0.mk (Kd.V_below (Kd.V_elderB (by (with_reducible repeat (first | apply Kd.V_alloc | apply Kd.V_drewN | apply Kd.V_drew)); exact HO212.out) gb222 (Nat.le_of_eq hg.symm)) hb)
                 have n7_ := Aside0.mk (Kd.N_below (Kd.N_elderB (by (with_reducible repeat (first | apply Kd.N_alloc | apply Kd.N_drewN | apply Kd.N_drew)); exact HO216.out) gb222 (Nat.le_of_eq hg.symm)) hb)
                 have n8_ := Aside0.mk (Kd.V_below (Kd.V_elderB (by (with_reducible repeat (first | apply Kd.V_alloc | apply Kd.V_drewN | apply Kd.V_drew)); exact HO221.out) gb222 (Nat.le_of_eq hg.symm)) hb)
                 have n9_ := Aside0.mk (blk_below (g := gb203) (o := .cells #[.slice Ao22 t191.length co22, .bool t194] 26 (0, 0)) (by (with_reducible repeat (first | refine kN ?_ _ | refine kD ?_ | refine kA ?_ _)); exact BK203.out) hb)
                 have n10_ := Aside0.mk (blk_below (g := gb204) (o := .cells #[.int .i64 t198, .int .i64 t199, .slice Ao26 t200.length co26] 29 (0, 0)) (by (with_reducible repeat (first | refine kN ?_ _ | refine kD ?_ | refine kA ?_ _)); exact BK204.out) hb)
                 have n11_ := Aside0.mk (below_step (by repeat (first | (with_reducible first | exact HB.out | apply bA | apply bN | apply bD | refine bS ?_ GE203.out | refine bS ?_ GE204.out) | exact HB.out)) hb)
                 have n12_ := Aside0.mk (hbox)
                 have n13_ := Aside0.mk ((by rw [hg]; exact (below_size (by repeat (first | (with_reducible first | exact HB.out | apply bA | apply bN | apply bD | refine bS ?_ GE203.out | refine bS ?_ GE204.out) | exact HB.out))) : w.heap.size ≤ gb222))
                 have n14_ := Aside0.mk ((by rw [hg]; exact (below_size (by repeat (first | (with_reducible first | exact HB.out | apply bA | apply bN | apply bD | refine bS ?_ GE203.out | refine bS ?_ GE204.out) | exact HB.out))) : w.heap.size ≤ gb222))
                 have n15_ := Aside0.mk ((by rw [hg]; exact Nat.ne_of_lt (blk_lt (g := gb203) (o := .cells #[.slice Ao22 t191.length co22, .bool t194] 26 (0, 0)) (by (with_reducible repeat (first | refine kN ?_ _ | refine kD ?_ | refine kA ?_ _)); exact BK203.out)) : gb203 ≠ gb222))
                 have n16_ := Aside0.mk ((by rw [hg]; exact Nat.ne_of_gt (blk_lt (g := gb203) (o := .cells #[.slice Ao22 t191.length co22, .bool t194] 26 (0, 0)) (by (with_reducible repeat (first | refine kN ?_ _ | refine kD ?_ | refine kA ?_ _)); exact BK203.out)) : gb222 ≠ gb203))
                 have n17_ := Aside0.mk ((by rw [hg]; exact Nat.ne_of_lt (blk_lt (g := gb204) (o := .cells #[.int .i64 t198, .int .i64 t199, .slice Ao26 t200.length co26] 29 (0, 0)) (by (with_reducible repeat (first | refine kN ?_ _ | refine kD ?_ | refine kA ?_ _)); exact BK204.out)) : gb204 ≠ gb222))
                 have n18_ := Aside0.mk ((by rw [hg]; exact Nat.ne_of_gt (blk_lt (g := gb204) (o := .cells #[.int .i64 t198, .int .i64 t199, .slice Ao26 t200.length co26] 29 (0, 0)) (by (with_reducible repeat (first | refine kN ?_ _ | refine kD ?_ | refine kA ?_ _)); exact BK204.out)) : gb222 ≠ gb204))
                 clear HO185
                 clear HO190
                 clear HO193
                 clear HO197
                 clear HO202
                 clear HO209
                 clear HO212
                 clear HO216
                 clear HO221
                 clear BK203
                 clear BK204
                 clear HB
                 have HO185 := n0_
                 have HO190 := n1_
                 have HO193 := n2_
                 have HO197 := n3_
                 have HO202 := n4_
                 have HO209 := n5_
                 have HO212 := n6_
                 have HO216 := n7_
                 have HO221 := n8_
                 have BK203 := n9_
                 have BK204 := n10_
                 have HB := n11_
                 have BK222 := n12_
                 have GW222 := n13_
                 have GE222 := n14_
                 have NB203_222 := n15_
                 have NB222_203 := n16_
                 have NB204_222 := n17_
                 have NB222_204 := n18_
                 clear n0_ n1_ n2_ n3_ n4_ n5_ n6_ n7_ n8_ n9_ n10_ n11_ n12_ n13_ n14_ n15_ n16_ n17_ n18_
                 clear hb hbox hg
                 refine hK.out _ _ ⟨(blk_cell BK203.out 0).trans rfl, (blk_cell BK203.out 1).trans rfl⟩ (fun hHeld => ?_)
                 clear hK K
                 refine norm_ (a' := ?_) ?_ ?_
                 rotate_left
                 ·
                  show Act.put _ (some 5) _ = _
                  simp only [Act.put, sA, sB, sC, i64_w, i32_w]
                  rfl
                 exact norm_ (by first | (simp only [putAll, Act.put, sA, sB, sC]; done) | (simp only [putAll, Act.put, sA, sB, sC]; rfl)) (hJ3_8 (v211, v215, v220, gb222) _ ⟨hHeld, (by (with_reducible repeat (first | apply Kd.R_alloc | apply Kd.R_drewN | apply Kd.R_drew)); exact HO185.out), (by (with_reducible repeat (first | apply Kd.V_alloc | apply Kd.V_drewN | apply Kd.V_drew)); exact Kd.V_mono HO190.out (fun _ hk => ⟨hk.1.1, ⟨hk.1.2.1, ⟨hk.1.2.2.1, ⟨hk.1.2.2.2, hk.2⟩⟩⟩⟩)), (by (with_reducible repeat (first | apply Kd.V_alloc | apply Kd.V_drewN | apply Kd.V_drew)); exact Kd.V_mono HO193.out (fun _ hk => ⟨hk.1.1, ⟨hk.1.2.1, ⟨hk.1.2.2.1, ⟨hk.1.2.2.2.1, ⟨hk.1.2.2.2.2, hk.2⟩⟩⟩⟩⟩)), (by (with_reducible repeat (first | apply Kd.N_alloc | apply Kd.N_drewN | apply Kd.N_drew)); exact Kd.N_mono HO197.out (fun _ hk => ⟨hk.1.1, ⟨hk.1.2.1, ⟨hk.1.2.2.1, ⟨hk.1.2.2.2, hk.2⟩⟩⟩⟩)), (by (with_reducible repeat (first | apply Kd.V_alloc | apply Kd.V_drewN | apply Kd.V_drew)); exact Kd.V_mono HO202.out (fun _ hk => ⟨hk.1.1, ⟨hk.1.2.1, ⟨hk.1.2.2.1, ⟨hk.1.2.2.2.1, ⟨hk.1.2.2.2.2, hk.2⟩⟩⟩⟩⟩)), (by (with_reducible repeat (first | apply Kd.V_alloc | apply Kd.V_drewN | apply Kd.V_drew)); exact Kd.V_mono HO209.out (fun _ hk => ⟨hk.1.1, ⟨hk.1.2.1, ⟨hk.1.2.2.1, ⟨hk.1.2.2.2, hk.2⟩⟩⟩⟩)), (by (with_reducible repeat (first | apply Kd.V_alloc | apply Kd.V_drewN | apply Kd.V_drew)); exact Kd.V_mono HO212.out (fun _ hk => ⟨hk.1.1, ⟨hk.1.2.1, ⟨hk.1.2.2.1, ⟨hk.1.2.2.2.1, ⟨hk.1.2.2.2.2, hk.2⟩⟩⟩⟩⟩)), (by (with_reducible repeat (first | apply Kd.N_alloc | apply Kd.N_drewN | apply Kd.N_drew)); exact Kd.N_mono HO216.out (fun _ hk => ⟨hk.1.1, ⟨hk.1.2.1, ⟨hk.1.2.2.1, ⟨hk.1.2.2.2, hk.2⟩⟩⟩⟩)), (by (with_reducible repeat (first | apply Kd.V_alloc | apply Kd.V_drewN | apply Kd.V_drew)); exact Kd.V_mono HO221.out (fun _ hk => ⟨hk.1.1, ⟨hk.1.2.1, ⟨hk.1.2.2.1, ⟨hk.1.2.2.2.1, ⟨hk.1.2.2.2.2, hk.2⟩⟩⟩⟩⟩)), (by (with_reducible repeat (first | refine kN ?_ _ | refine kD ?_ | refine kA ?_ _)); exact BK203.out), (by (with_reducible repeat (first | refine kN ?_ _ | refine kD ?_ | refine kA ?_ _)); exact BK204.out), (by (with_reducible repeat (first | refine kN ?_ _ | refine kD ?_ | refine kA ?_ _)); exact BK222.out), GW222.out, GE222.out, NB203_222.out, NB222_203.out, NB204_222.out, NB222_204.out, (by repeat (first | (with_reducible first | exact HB.out | apply bA | apply bN | apply bD | refine bS ?_ GE203.out | refine bS ?_ GE204.out | refine bS ?_ GE222.out) | exact HB.out))⟩)
                ·
                 skip
                 refine box_step ?hg (N := 7) ?hd (cs := #[.int .i64 0, .int .i64 0, .slice none 0 0]) (t := 29) ?hr ?_; (case hd => rfl); (case hg => rfl); (case hr => first | (go_simp; done) | (go_simp; rfl))
                 intro gb223 hg w32 hbox hb
                 have n0_ := Aside0.mk (Kd.R_below (by (with_reducible repeat (first | apply Kd.R_alloc | apply Kd.R_drewN | apply Kd.R_drew)); exact HO185.out) hb)
                 have n1_ := Aside0.mk (Kd.V_below (Kd.V_elderB (by (with_reducible repeat (first | apply Kd.V_alloc | apply Kd.V_drewN | apply Kd.V_drew)); exact HO190.out) gb223 (Nat.le_of_eq hg.symm)) hb)
                 have n2_ := Aside0.mk (Kd.V_below (Kd.V_elderB (by (with_reducible repeat (first | apply Kd.V_alloc | apply Kd.V_drewN | apply Kd.V_drew)); exact HO193.out) gb223 (Nat.le_of_eq hg.symm)) hb)
                 have n3_ := Aside0.mk (Kd.N_below (Kd.N_elderB (by (with_reducible repeat (first | apply Kd.N_alloc | apply Kd.N_drewN | apply Kd.N_drew)); exact HO197.out) gb223 (Nat.le_of_eq hg.symm)) hb)
                 have n4_ := Aside0.mk (Kd.V_below (Kd.V_elderB (by (with_reducible repeat (first | apply Kd.V_alloc | apply Kd.V_drewN | apply Kd.V_drew)); exact HO202.out) gb223 (Nat.le_of_eq hg.symm)) hb)
                 have n5_ := Aside0.mk (Kd.V_below (Kd.V_elderB (by (with_reducible repeat (first | apply Kd.V_alloc | apply Kd.V_drewN | apply Kd.V_drew)); exact HO209.out) gb223 (Nat.le_of_eq hg.symm)) hb)
                 have n6_ := Aside0.mk (Kd.V_below (Kd.V_elderB (by (with_reducible repeat (first | apply Kd.V_alloc | apply Kd.V_drewN | apply Kd.V_drew)); exact HO212.out) gb223 (Nat.le_of_eq hg.symm)) hb)
                 have n7_ := Aside0.mk (Kd.N_below (Kd.N_elderB (by (with_reducible repeat (first | apply Kd.N_alloc | apply Kd.N_drewN | apply Kd.N_drew)); exact HO216.out) gb223 (Nat.le_of_eq hg.symm)) hb)
                 have n8_ := Aside0.mk (Kd.V_below (Kd.V_elderB (by (with_reducible repeat (first | apply Kd.V_alloc | apply Kd.V_drewN | apply Kd.V_drew)); exact HO221.out) gb223 (Nat.le_of_eq hg.symm)) hb)
                 have n9_ := Aside0.mk (blk_below (g := gb203) (o := .cells #[.slice Ao22 t191.length co22, .bool t194] 26 (0, 0)) (by (with_reducible repeat (first | refine kN ?_ _ | refine kD ?_ | refine kA ?_ _)); exact BK203.out) hb)
                 have n10_ := Aside0.mk (blk_below (g := gb204) (o := .cells #[.int .i64 t198, .int .i64 t199, .slice Ao26 t200.length co26] 29 (0, 0)) (by (with_reducible repeat (first | refine kN ?_ _ | refine kD ?_ | refine kA ?_ _)); exact BK204.out) hb)
                 have n11_ := Aside0.mk (below_step (by repeat (first | (with_reducible first | exact HB.out | apply bA | apply bN | apply bD | refine bS ?_ GE203.out | refine bS ?_ GE204.out) | exact HB.out)) hb)
                 have n12_ := Aside0.mk (hbox)
                 have n13_ := Aside0.mk ((by rw [hg]; exact (below_size (by repeat (first | (with_reducible first | exact HB.out | apply bA | apply bN | apply bD | refine bS ?_ GE203.out | refine bS ?_ GE204.out) | exact HB.out))) : w.heap.size ≤ gb223))
                 have n14_ := Aside0.mk ((by rw [hg]; exact (below_size (by repeat (first | (with_reducible first | exact HB.out | apply bA | apply bN | apply bD | refine bS ?_ GE203.out | refine bS ?_ GE204.out) | exact HB.out))) : w.heap.size ≤ gb223))
                 have n15_ := Aside0.mk ((by rw [hg]; exact Nat.ne_of_lt (blk_lt (g := gb203) (o := .cells #[.slice Ao22 t191.length co22, .bool t194] 26 (0, 0)) (by (with_reducible repeat (first | refine kN ?_ _ | refine kD ?_ | refine kA ?_ _)); exact BK203.out)) : gb203 ≠ gb223))
                 have n16_ := Aside0.mk ((by rw [hg]; exact Nat.ne_of_gt (blk_lt (g := gb203) (o := .cells #[.slice Ao22 t191.length co22, .bool t194] 26 (0, 0)) (by (with_reducible repeat (first | refine kN ?_ _ | refine kD ?_ | refine kA ?_ _)); exact BK203.out)) : gb223 ≠ gb203))
                 have n17_ := Aside0.mk ((by rw [hg]; exact Nat.ne_of_lt (blk_lt (g := gb204) (o := .cells #[.int .i64 t198, .int .i64 t199, .slice Ao26 t200.length co26] 29 (0, 0)) (by (with_reducible repeat (first | refine kN ?_ _ | refine kD ?_ | refine kA ?_ _)); exact BK204.out)) : gb204 ≠ gb223))
                 have n18_ := Aside0.mk ((by rw [hg]; exact Nat.ne_of_gt (blk_lt (g := gb204) (o := .cells #[.int .i64 t198, .int .i64 t199, .slice Ao26 t200.length co26] 29 (0, 0)) (by (with_reducible repeat (first | refine kN ?_ _ | refine kD ?_ | refine kA ?_ _)); exact BK204.out)) : gb223 ≠ gb204))
                 clear HO185
                 clear HO190
                 clear HO193
                 clear HO197
                 clear HO202
                 clear HO209
                 clear HO212
                 clear HO216
                 clear HO221
                 clear BK203
                 clear BK204
                 clear HB
                 have HO185 := n0_
                 have HO190 := n1_
                 have HO193 := n2_
                 have HO197 := n3_
                 have HO202 := n4_
                 have HO209 := n5_
                 have HO212 := n6_
                 have HO216 := n7_
                 have HO221 := n8_
                 have BK203 := n9_
                 have BK204 := n10_
                 have HB := n11_
                 have BK223 := n12_
                 have GW223 := n13_
                 have GE223 := n14_
                 have NB203_223 := n15_
                 have NB223_203 := n16_
                 have NB204_223 := n17_
                 have NB223_204 := n18_
                 clear n0_ n1_ n2_ n3_ n4_ n5_ n6_ n7_ n8_ n9_ n10_ n11_ n12_ n13_ n14_ n15_ n16_ n17_ n18_
                 clear hb hbox hg
                 refine hK.out _ _ ⟨(blk_cell BK203.out 0).trans rfl, (blk_cell BK203.out 1).trans rfl⟩ (fun hHeld => ?_)
                 clear hK K
                 refine norm_ (a' := ?_) ?_ ?_
                 rotate_left
                 ·
                  show Act.put _ (some 7) _ = _
                  simp only [Act.put, sA, sB, sC, i64_w, i32_w]
                  rfl
                 exact norm_ (by first | (simp only [putAll, Act.put, sA, sB, sC]; done) | (simp only [putAll, Act.put, sA, sB, sC]; rfl)) (hJ3_9 (v211, v215, v220, gb223) _ ⟨hHeld, (by (with_reducible repeat (first | apply Kd.R_alloc | apply Kd.R_drewN | apply Kd.R_drew)); exact HO185.out), (by (with_reducible repeat (first | apply Kd.V_alloc | apply Kd.V_drewN | apply Kd.V_drew)); exact Kd.V_mono HO190.out (fun _ hk => ⟨hk.1.1, ⟨hk.1.2.1, ⟨hk.1.2.2.1, ⟨hk.1.2.2.2, hk.2⟩⟩⟩⟩)), (by (with_reducible repeat (first | apply Kd.V_alloc | apply Kd.V_drewN | apply Kd.V_drew)); exact Kd.V_mono HO193.out (fun _ hk => ⟨hk.1.1, ⟨hk.1.2.1, ⟨hk.1.2.2.1, ⟨hk.1.2.2.2.1, ⟨hk.1.2.2.2.2, hk.2⟩⟩⟩⟩⟩)), (by (with_reducible repeat (first | apply Kd.N_alloc | apply Kd.N_drewN | apply Kd.N_drew)); exact Kd.N_mono HO197.out (fun _ hk => ⟨hk.1.1, ⟨hk.1.2.1, ⟨hk.1.2.2.1, ⟨hk.1.2.2.2, hk.2⟩⟩⟩⟩)), (by (with_reducible repeat (first | apply Kd.V_alloc | apply Kd.V_drewN | apply Kd.V_drew)); exact Kd.V_mono HO202.out (fun _ hk => ⟨hk.1.1, ⟨hk.1.2.1, ⟨hk.1.2.2.1, ⟨hk.1.2.2.2.1, ⟨hk.1.2.2.2.2, hk.2⟩⟩⟩⟩⟩)), (by (with_reducible repeat (first | apply Kd.V_alloc | apply Kd.V_drewN | apply Kd.V_drew)); exact Kd.V_mono HO209.out (fun _ hk => ⟨hk.1.1, ⟨hk.1.2.1, ⟨hk.1.2.2.1, ⟨hk.1.2.2.2, hk.2⟩⟩⟩⟩)), (by (with_reducible repeat (first | apply Kd.V_alloc | apply Kd.V_drewN | apply Kd.V_drew)); exact Kd.V_mono HO212.out (fun _ hk => ⟨hk.1.1, ⟨hk.1.2.1, ⟨hk.1.2.2.1, ⟨hk.1.2.2.2.1, ⟨hk.1.2.2.2.2, hk.2⟩⟩⟩⟩⟩)), (by (with_reducible repeat (first | apply Kd.N_alloc | apply Kd.N_drewN | apply Kd.N_drew)); exact Kd.N_mono HO216.out (fun _ hk => ⟨hk.1.1, ⟨hk.1.2.1, ⟨hk.1.2.2.1, ⟨hk.1.2.2.2, hk.2⟩⟩⟩⟩)), (by (with_reducible repeat (first | apply Kd.V_alloc | apply Kd.V_drewN | apply Kd.V_drew)); exact Kd.V_mono HO221.out (fun _ hk => ⟨hk.1.1, ⟨hk.1.2.1, ⟨hk.1.2.2.1, ⟨hk.1.2.2.2.1, ⟨hk.1.2.2.2.2, hk.2⟩⟩⟩⟩⟩)), (by (with_reducible repeat (first | refine kN ?_ _ | refine kD ?_ | refine kA ?_ _)); exact BK203.out), (by (with_reducible repeat (first | refine kN ?_ _ | refine kD ?_ | refine kA ?_ _)); exact BK204.out), (by (with_reducible repeat (first | refine kN ?_ _ | refine kD ?_ | refine kA ?_ _)); exact BK223.out), GW223.out, GE223.out, NB203_223.out, NB223_203.out, NB204_223.out, NB223_204.out, (by repeat (first | (with_reducible first | exact HB.out | apply bA | apply bN | apply bD | refine bS ?_ GE203.out | refine bS ?_ GE204.out | refine bS ?_ GE223.out) | exact HB.out))⟩)
              ·
               skip
               rintro ⟨gb222, gb223⟩ w32 ⟨hS_, h0_, h1_, h2_, h3_, h4_, h5_, h6_, h7_, h8_, h9_, h10_, h11_, h12_, h13_, h14_, h15_, h16_, h17_, h18_, h19_, h20_, h21_, h22_, h23_, h24_⟩
               have n0_ : Aside0 (Kd.R (Kd.int .u8) 5 w32 w.heap.size (fun _ => True) (.slice Ao17 t183.length co17) t183) := ⟨h0_⟩
               have n1_ : Aside0 (Kd.V (Kd.int .u8) 5 w32 w.heap.size (fun k_ => some k_ ≠ (v196 : Value).ownBlock ∧ k_ ≠ gb203 ∧ k_ ≠ gb204 ∧ k_ ≠ gb222 ∧ k_ ≠ gb223) (.slice Ao17 y186.length co17) y186) := ⟨h1_⟩
               have n2_ : Aside0 (Kd.V (Kd.int .u8) 5 w32 w.heap.size (fun k_ => some k_ ≠ (.slice Ao17 t183.length co17 : Value).ownBlock ∧ some k_ ≠ (v196 : Value).ownBlock ∧ k_ ≠ gb203 ∧ k_ ≠ gb204 ∧ k_ ≠ gb222 ∧ k_ ≠ gb223) (.slice Ao22 t191.length co22) t191) := ⟨h2_⟩
               have n3_ : Aside0 (Kd.N k43 43 w32 w.heap.size (fun k_ => some k_ ≠ (.slice Ao17 t183.length co17 : Value).ownBlock ∧ k_ ≠ gb203 ∧ k_ ≠ gb204 ∧ k_ ≠ gb222 ∧ k_ ≠ gb223) v196 t195) := ⟨h3_⟩
               have n4_ : Aside0 (Kd.V (Kd.int .u8) 5 w32 w.heap.size (fun k_ => some k_ ≠ (.slice Ao17 t183.length co17 : Value).ownBlock ∧ some k_ ≠ (v196 : Value).ownBlock ∧ k_ ≠ gb203 ∧ k_ ≠ gb204 ∧ k_ ≠ gb222 ∧ k_ ≠ gb223) (.slice Ao26 t200.length co26) t200) := ⟨h4_⟩
               have n5_ : Aside0 (Kd.V (Kd.int .u8) 5 w32 w.heap.size (fun k_ => some k_ ≠ (v196 : Value).ownBlock ∧ k_ ≠ gb203 ∧ k_ ≠ gb204 ∧ k_ ≠ gb222 ∧ k_ ≠ gb223) (.slice A29 y205.length c29) y205) := ⟨h5_⟩
               have n6_ : Aside0 (w32.heap[gb203]? = some (.cells #[.slice Ao22 t191.length co22, .bool t194] 26 (0, 0))) := ⟨h6_⟩
               have n7_ : Aside0 (w32.heap[gb204]? = some (.cells #[.int .i64 t198, .int .i64 t199, .slice Ao26 t200.length co26] 29 (0, 0))) := ⟨h7_⟩
               have n8_ : Aside0 (w32.heap[gb222]? = some (.cells #[.slice none 0 0, .bool false] 26 (0, 0))) := ⟨h8_⟩
               have n9_ : Aside0 (w32.heap[gb223]? = some (.cells #[.int .i64 0, .int .i64 0, .slice none 0 0] 29 (0, 0))) := ⟨h9_⟩
               have n10_ : Aside0 (w.heap.size ≤ gb222) := ⟨h10_⟩
               have n11_ : Aside0 (w.heap.size ≤ gb222) := ⟨h11_⟩
               have n12_ : Aside0 (gb203 ≠ gb222) := ⟨h12_⟩
               have n13_ : Aside0 (gb222 ≠ gb203) := ⟨h13_⟩
               have n14_ : Aside0 (gb204 ≠ gb222) := ⟨h14_⟩
               have n15_ : Aside0 (gb222 ≠ gb204) := ⟨h15_⟩
               have n16_ : Aside0 (gb223 ≠ gb222) := ⟨h16_⟩
               have n17_ : Aside0 (gb222 ≠ gb223) := ⟨h17_⟩
               have n18_ : Aside0 (w.heap.size ≤ gb223) := ⟨h18_⟩
               have n19_ : Aside0 (w.heap.size ≤ gb223) := ⟨h19_⟩
               have n20_ : Aside0 (gb203 ≠ gb223) := ⟨h20_⟩
               have n21_ : Aside0 (gb223 ≠ gb203) := ⟨h21_⟩
               have n22_ : Aside0 (gb204 ≠ gb223) := ⟨h22_⟩
               have n23_ : Aside0 (gb223 ≠ gb204) := ⟨h23_⟩
               have n24_ : Aside0 (Below w.heap.size w w32) := ⟨h24_⟩
               clear HO185
               clear HO190
               clear HO193
               clear HO197
               clear HO202
               clear BK203
               clear BK204
               clear HB
               clear h0_ h1_ h2_ h3_ h4_ h5_ h6_ h7_ h8_ h9_ h10_ h11_ h12_ h13_ h14_ h15_ h16_ h17_ h18_ h19_ h20_ h21_ h22_ h23_ h24_
               have HO185 := n0_
               have HO190 := n1_
               have HO193 := n2_
               have HO197 := n3_
               have HO202 := n4_
               have HO209 := n5_
               have BK203 := n6_
               have BK204 := n7_
               have BK222 := n8_
               have BK223 := n9_
               have GW222 := n10_
               have GE222 := n11_
               have NB203_222 := n12_
               have NB222_203 := n13_
               have NB204_222 := n14_
               have NB222_204 := n15_
               have NB223_222 := n16_
               have NB222_223 := n17_
               have GW223 := n18_
               have GE223 := n19_
               have NB203_223 := n20_
               have NB223_203 := n21_
               have NB204_223 := n22_
               have NB223_204 := n23_
               have HB := n24_
               clear n0_ n1_ n2_ n3_ n4_ n5_ n6_ n7_ n8_ n9_ n10_ n11_ n12_ n13_ n14_ n15_ n16_ n17_ n18_ n19_ n20_ n21_ n22_ n23_ n24_
               have hHeld : w32.cell? ⟨gb203, 0, none⟩ = some (.slice Ao22 t191.length co22) ∧ w32.cell? ⟨gb203, 1, none⟩ = some (.bool t194) := hS_
               refine norm_ (a' := ?_) ?_ ?_
               rotate_left
               ·
                simp only [putAll, Act.put, sA, sB, sC]
                rfl
               refine one_ (i := 3) (N := some 25) #[true, true, true, true, false, false, false, false, true, true, false, false, false] rfl rfl (one_of HT_.out (by kernel_rfl)) (by decide) (fun K hK => ?_)
               refine goes_ Try.func8 (by kernel_rfl) rfl #[.agg #[.slice Ao22 t191.length co22, .bool t194], .slice A29 y205.length c29] (by rfl) rfl rfl (by (try simp only [List.map_toArray, List.map_cons, List.map_nil]); first | done | rfl | (simp only [List.length_drop, List.length_take]; rfl)) ?_
               with_reducible refine (stream_Feed.calls _ _ t191 t194 _ _ y205 t210 t213 t214 t217 t218 t219 _ ?side1 ?side2 ?side3 ?side4 A6.out).mono ?_
               (case side1 => repeat (first | exact (Kd.V_reads' HO193.out).2.2 | (with_reducible refine Kd.C_alloc ?_ _) | (with_reducible refine Kd.C_drewN ?_ _) | (with_reducible refine Kd.C_drew ?_)))
               (case side2 => exact (Kd.V_reads' HO193.out).2.1)
               (case side3 => repeat (first | exact (Kd.V_reads' HO209.out).2.2 | (with_reducible refine Kd.C_alloc ?_ _) | (with_reducible refine Kd.C_drewN ?_ _) | (with_reducible refine Kd.C_drew ?_)))
               (case side4 => exact (Kd.V_reads' HO209.out).2.1)
               rintro e w33 ⟨v211, v215, v220, rfl, ho0, ho1, ho2, hb⟩
               refine ⟨_, rfl, ?_⟩
               have n0_ := Aside0.mk (Kd.R_below (by (with_reducible repeat (first | apply Kd.R_alloc | apply Kd.R_drewN | apply Kd.R_drew)); exact HO185.out) hb)
               have n1_ := Aside0.mk (Kd.V_elder' (by (with_reducible repeat (first | apply Kd.V_alloc | apply Kd.V_drewN | apply Kd.V_drew)); exact HO190.out) (Kd.N_base ho1) hb)
               have n2_ := Aside0.mk (Kd.V_elder' (by (with_reducible repeat (first | apply Kd.V_alloc | apply Kd.V_drewN | apply Kd.V_drew)); exact HO193.out) (Kd.N_base ho1) hb)
               have n3_ := Aside0.mk (Kd.N_elder' (by (with_reducible repeat (first | apply Kd.N_alloc | apply Kd.N_drewN | apply Kd.N_drew)); exact HO197.out) (Kd.N_base ho1) hb)
               have n4_ := Aside0.mk (Kd.V_elder' (by (with_reducible repeat (first | apply Kd.V_alloc | apply Kd.V_drewN | apply Kd.V_drew)); exact HO202.out) (Kd.N_base ho1) hb)
               have n5_ := Aside0.mk (Kd.V_elder' (by (with_reducible repeat (first | apply Kd.V_alloc | apply Kd.V_drewN | apply Kd.V_drew)); exact HO209.out) (Kd.N_base ho1) hb)
               have n6_ := Aside0.mk (Kd.V_lower (Kd.V_mono (ok' := fun k_ => some k_ ≠ (v215 : Value).ownBlock ∧ some k_ ≠ (.slice Ao17 t183.length co17 : Value).ownBlock ∧ some k_ ≠ (v196 : Value).ownBlock ∧ k_ ≠ gb203 ∧ k_ ≠ gb204 ∧ k_ ≠ gb222 ∧ k_ ≠ gb223) ho0 (fun k_ hk_ => ⟨hk_.2, (Kd.fresh' (Kd.R_lt (by (with_reducible repeat (first | apply Kd.R_alloc | apply Kd.R_drewN | apply Kd.R_drew)); exact HO185.out)) k_ hk_.1), (Kd.fresh' (Kd.N_lt (by (with_reducible repeat (first | apply Kd.N_alloc | apply Kd.N_drewN | apply Kd.N_drew)); exact HO197.out)) k_ hk_.1), (Kd.freshB (g := gb203) (o := .cells #[.slice Ao22 t191.length co22, .bool t194] 26 (0, 0)) (by (with_reducible repeat (first | refine kN ?_ _ | refine kD ?_ | refine kA ?_ _)); exact BK203.out) k_ hk_.1), (Kd.freshB (g := gb204) (o := .cells #[.int .i64 t198, .int .i64 t199, .slice Ao26 t200.length co26] 29 (0, 0)) (by (with_reducible repeat (first | refine kN ?_ _ | refine kD ?_ | refine kA ?_ _)); exact BK204.out) k_ hk_.1), (Kd.freshB (g := gb222) (o := .cells #[.slice none 0 0, .bool false] 26 (0, 0)) (by (with_reducible repeat (first | refine kN ?_ _ | refine kD ?_ | refine kA ?_ _)); exact BK222.out) k_ hk_.1), (Kd.freshB (g := gb223) (o := .cells #[.int .i64 0, .int .i64 0, .slice none 0 0] 29 (0, 0)) (by (with_reducible repeat (first | refine kN ?_ _ | refine kD ?_ | refine kA ?_ _)); exact BK223.out) k_ hk_.1)⟩)) (below_size (by repeat (first | (with_reducible first | exact HB.out | apply bA | apply bN | apply bD | refine bS ?_ GE203.out | refine bS ?_ GE204.out | refine bS ?_ GE222.out | refine bS ?_ GE223.out) | exact HB.out))))
               have n7_ := Aside0.mk (Kd.N_lower (Kd.N_mono (ok' := fun k_ => some k_ ≠ (.slice Ao17 t183.length co17 : Value).ownBlock ∧ some k_ ≠ (v196 : Value).ownBlock ∧ k_ ≠ gb203 ∧ k_ ≠ gb204 ∧ k_ ≠ gb222 ∧ k_ ≠ gb223) ho1 (fun k_ hk_ => ⟨(Kd.fresh' (Kd.R_lt (by (with_reducible repeat (first | apply Kd.R_alloc | apply Kd.R_drewN | apply Kd.R_drew)); exact HO185.out)) k_ hk_), (Kd.fresh' (Kd.N_lt (by (with_reducible repeat (first | apply Kd.N_alloc | apply Kd.N_drewN | apply Kd.N_drew)); exact HO197.out)) k_ hk_), (Kd.freshB (g := gb203) (o := .cells #[.slice Ao22 t191.length co22, .bool t194] 26 (0, 0)) (by (with_reducible repeat (first | refine kN ?_ _ | refine kD ?_ | refine kA ?_ _)); exact BK203.out) k_ hk_), (Kd.freshB (g := gb204) (o := .cells #[.int .i64 t198, .int .i64 t199, .slice Ao26 t200.length co26] 29 (0, 0)) (by (with_reducible repeat (first | refine kN ?_ _ | refine kD ?_ | refine kA ?_ _)); exact BK204.out) k_ hk_), (Kd.freshB (g := gb222) (o := .cells #[.slice none 0 0, .bool false] 26 (0, 0)) (by (with_reducible repeat (first | refine kN ?_ _ | refine kD ?_ | refine kA ?_ _)); exact BK222.out) k_ hk_), (Kd.freshB (g := gb223) (o := .cells #[.int .i64 0, .int .i64 0, .slice none 0 0] 29 (0, 0)) (by (with_reducible repeat (first | refine kN ?_ _ | refine kD ?_ | refine kA ?_ _)); exact BK223.out) k_ hk_)⟩)) (below_size (by repeat (first | (with_reducible first | exact HB.out | apply bA | apply bN | apply bD | refine bS ?_ GE203.out | refine bS ?_ GE204.out | refine bS ?_ GE222.out | refine bS ?_ GE223.out) | exact HB.out))))
               have n8_ := Aside0.mk (Kd.V_lower (Kd.V_mono (ok' := fun k_ => some k_ ≠ (v215 : Value).ownBlock ∧ some k_ ≠ (.slice Ao17 t183.length co17 : Value).ownBlock ∧ some k_ ≠ (v196 : Value).ownBlock ∧ k_ ≠ gb203 ∧ k_ ≠ gb204 ∧ k_ ≠ gb222 ∧ k_ ≠ gb223) ho2 (fun k_ hk_ => ⟨hk_.2, (Kd.fresh' (Kd.R_lt (by (with_reducible repeat (first | apply Kd.R_alloc | apply Kd.R_drewN | apply Kd.R_drew)); exact HO185.out)) k_ hk_.1), (Kd.fresh' (Kd.N_lt (by (with_reducible repeat (first | apply Kd.N_alloc | apply Kd.N_drewN | apply Kd.N_drew)); exact HO197.out)) k_ hk_.1), (Kd.freshB (g := gb203) (o := .cells #[.slice Ao22 t191.length co22, .bool t194] 26 (0, 0)) (by (with_reducible repeat (first | refine kN ?_ _ | refine kD ?_ | refine kA ?_ _)); exact BK203.out) k_ hk_.1), (Kd.freshB (g := gb204) (o := .cells #[.int .i64 t198, .int .i64 t199, .slice Ao26 t200.length co26] 29 (0, 0)) (by (with_reducible repeat (first | refine kN ?_ _ | refine kD ?_ | refine kA ?_ _)); exact BK204.out) k_ hk_.1), (Kd.freshB (g := gb222) (o := .cells #[.slice none 0 0, .bool false] 26 (0, 0)) (by (with_reducible repeat (first | refine kN ?_ _ | refine kD ?_ | refine kA ?_ _)); exact BK222.out) k_ hk_.1), (Kd.freshB (g := gb223) (o := .cells #[.int .i64 0, .int .i64 0, .slice none 0 0] 29 (0, 0)) (by (with_reducible repeat (first | refine kN ?_ _ | refine kD ?_ | refine kA ?_ _)); exact BK223.out) k_ hk_.1)⟩)) (below_size (by repeat (first | (with_reducible first | exact HB.out | apply bA | apply bN | apply bD | refine bS ?_ GE203.out | refine bS ?_ GE204.out | refine bS ?_ GE222.out | refine bS ?_ GE223.out) | exact HB.out))))
               have n9_ := Aside0.mk (blk_below (g := gb203) (o := .cells #[.slice Ao22 t191.length co22, .bool t194] 26 (0, 0)) (by (with_reducible repeat (first | refine kN ?_ _ | refine kD ?_ | refine kA ?_ _)); exact BK203.out) hb)
               have n10_ := Aside0.mk (blk_below (g := gb204) (o := .cells #[.int .i64 t198, .int .i64 t199, .slice Ao26 t200.length co26] 29 (0, 0)) (by (with_reducible repeat (first | refine kN ?_ _ | refine kD ?_ | refine kA ?_ _)); exact BK204.out) hb)
               have n11_ := Aside0.mk (blk_below (g := gb222) (o := .cells #[.slice none 0 0, .bool false] 26 (0, 0)) (by (with_reducible repeat (first | refine kN ?_ _ | refine kD ?_ | refine kA ?_ _)); exact BK222.out) hb)
               have n12_ := Aside0.mk (blk_below (g := gb223) (o := .cells #[.int .i64 0, .int .i64 0, .slice none 0 0] 29 (0, 0)) (by (with_reducible repeat (first | refine kN ?_ _ | refine kD ?_ | refine kA ?_ _)); exact BK223.out) hb)
               have n13_ := Aside0.mk (below_step (by repeat (first | (with_reducible first | exact HB.out | apply bA | apply bN | apply bD | refine bS ?_ GE203.out | refine bS ?_ GE204.out | refine bS ?_ GE222.out | refine bS ?_ GE223.out) | exact HB.out)) hb)
               clear HO185
               clear HO190
               clear HO193
               clear HO197
               clear HO202
               clear HO209
               clear BK203
               clear BK204
               clear BK222
               clear BK223
               clear HB
               have HO185 := n0_
               have HO190 := n1_
               have HO193 := n2_
               have HO197 := n3_
               have HO202 := n4_
               have HO209 := n5_
               have HO212 := n6_
               have HO216 := n7_
               have HO221 := n8_
               have BK203 := n9_
               have BK204 := n10_
               have BK222 := n11_
               have BK223 := n12_
               have HB := n13_
               clear n0_ n1_ n2_ n3_ n4_ n5_ n6_ n7_ n8_ n9_ n10_ n11_ n12_ n13_
               (try clear hb)
               (try clear hb2)
               (try clear hk)
               (try clear hi)
               (try clear ho0)
               (try clear ho1)
               (try clear ho2)
               refine hK.out _ _ ⟨(blk_cell BK203.out 0).trans rfl, (blk_cell BK203.out 1).trans rfl⟩ (fun hHeld => ?_)
               clear hK K
               refine norm_ (a' := ?_) ?_ ?_
               rotate_left
               ·
                show Act.put _ (some 25) _ = _
                simp only [Act.put, sA, sB, sC, i64_w, i32_w]
                rfl
               refine pure_ (i := 4) (N := some 21) (v := ?_) (a' := ?_) #[true, true, true, true, true, false, false, false, true, true, false, false, false] rfl rfl (any_of HT_.out (by kernel_rfl)) (fun _ _ _ h => h) (Or.inl ⟨by rfl, ?_⟩) ?_ ?_
               rotate_left
               ·
                intro w'
                go_simp
                with_reducible rfl
               rotate_left
               ·
                simp only [Act.put, sA, sB, sC, i64_w, i32_w]
                rfl
               refine pure_ (i := 5) (N := some 26) (v := ?_) (a' := ?_) #[true, true, true, true, true, true, false, false, true, true, false, false, false] rfl rfl (any_of HT_.out (by kernel_rfl)) (fun _ _ _ h => h) (Or.inl ⟨by rfl, ?_⟩) ?_ ?_
               rotate_left
               ·
                intro w'
                go_simp
                with_reducible rfl
               rotate_left
               ·
                simp only [Act.put, sA, sB, sC, i64_w, i32_w]
                rfl
               refine pure_ (i := 6) (N := some 27) (v := ?_) (a' := ?_) #[true, true, true, true, true, true, true, false, true, true, false, false, false] rfl rfl (any_of HT_.out (by kernel_rfl)) (fun _ _ _ h => h) (Or.inl ⟨by rfl, ?_⟩) ?_ ?_
               rotate_left
               ·
                intro w'
                go_simp
                with_reducible rfl
               rotate_left
               ·
                simp only [Act.put, sA, sB, sC, i64_w, i32_w]
                rfl
               refine pure_ (i := 7) (N := some 28) (v := ?_) (a' := ?_) #[true, true, true, true, true, true, true, true, true, true, false, false, false] rfl rfl (any_of HT_.out (by kernel_rfl)) (fun _ _ _ h => h) (Or.inl ⟨by rfl, ?_⟩) ?_ ?_
               rotate_left
               ·
                intro w'
                go_simp
                with_reducible rfl
               rotate_left
               ·
                simp only [Act.put, sA, sB, sC, i64_w, i32_w]
                rfl
               exact norm_ (by first | (simp only [putAll, Act.put, sA, sB, sC]; done) | (simp only [putAll, Act.put, sA, sB, sC]; rfl)) (hJ3_8_9 (v211, v215, v220, gb222, gb223) _ ⟨hHeld, (by (with_reducible repeat (first | apply Kd.R_alloc | apply Kd.R_drewN | apply Kd.R_drew)); exact HO185.out), (by (with_reducible repeat (first | apply Kd.V_alloc | apply Kd.V_drewN | apply Kd.V_drew)); exact Kd.V_mono HO190.out (fun _ hk => ⟨hk.1.1, ⟨hk.2, ⟨hk.1.2.1, ⟨hk.1.2.2.1, ⟨hk.1.2.2.2.1, hk.1.2.2.2.2⟩⟩⟩⟩⟩)), (by (with_reducible repeat (first | apply Kd.V_alloc | apply Kd.V_drewN | apply Kd.V_drew)); exact Kd.V_mono HO193.out (fun _ hk => ⟨hk.1.1, ⟨hk.1.2.1, ⟨hk.2, ⟨hk.1.2.2.1, ⟨hk.1.2.2.2.1, ⟨hk.1.2.2.2.2.1, hk.1.2.2.2.2.2⟩⟩⟩⟩⟩⟩)), (by (with_reducible repeat (first | apply Kd.N_alloc | apply Kd.N_drewN | apply Kd.N_drew)); exact Kd.N_mono HO197.out (fun _ hk => ⟨hk.1.1, ⟨hk.2, ⟨hk.1.2.1, ⟨hk.1.2.2.1, ⟨hk.1.2.2.2.1, hk.1.2.2.2.2⟩⟩⟩⟩⟩)), (by (with_reducible repeat (first | apply Kd.V_alloc | apply Kd.V_drewN | apply Kd.V_drew)); exact Kd.V_mono HO202.out (fun _ hk => ⟨hk.1.1, ⟨hk.1.2.1, ⟨hk.2, ⟨hk.1.2.2.1, ⟨hk.1.2.2.2.1, ⟨hk.1.2.2.2.2.1, hk.1.2.2.2.2.2⟩⟩⟩⟩⟩⟩)), (by (with_reducible repeat (first | apply Kd.V_alloc | apply Kd.V_drewN | apply Kd.V_drew)); exact Kd.V_mono HO209.out (fun _ hk => ⟨hk.1.1, ⟨hk.2, ⟨hk.1.2.1, ⟨hk.1.2.2.1, ⟨hk.1.2.2.2.1, hk.1.2.2.2.2⟩⟩⟩⟩⟩)), (by (with_reducible repeat (first | apply Kd.V_alloc | apply Kd.V_drewN | apply Kd.V_drew)); exact Kd.V_mono HO212.out (fun _ hk => ⟨hk.2.1, ⟨hk.2.2.1, ⟨hk.1, ⟨hk.2.2.2.1, ⟨hk.2.2.2.2.1, ⟨hk.2.2.2.2.2.1, hk.2.2.2.2.2.2⟩⟩⟩⟩⟩⟩)), (by (with_reducible repeat (first | apply Kd.N_alloc | apply Kd.N_drewN | apply Kd.N_drew)); exact HO216.out), (by (with_reducible repeat (first | apply Kd.V_alloc | apply Kd.V_drewN | apply Kd.V_drew)); exact Kd.V_mono HO221.out (fun _ hk => ⟨hk.2.1, ⟨hk.2.2.1, ⟨hk.1, ⟨hk.2.2.2.1, ⟨hk.2.2.2.2.1, ⟨hk.2.2.2.2.2.1, hk.2.2.2.2.2.2⟩⟩⟩⟩⟩⟩)), (by (with_reducible repeat (first | refine kN ?_ _ | refine kD ?_ | refine kA ?_ _)); exact BK203.out), (by (with_reducible repeat (first | refine kN ?_ _ | refine kD ?_ | refine kA ?_ _)); exact BK204.out), (by (with_reducible repeat (first | refine kN ?_ _ | refine kD ?_ | refine kA ?_ _)); exact BK222.out), (by (with_reducible repeat (first | refine kN ?_ _ | refine kD ?_ | refine kA ?_ _)); exact BK223.out), GW222.out, GE222.out, NB203_222.out, NB222_203.out, NB204_222.out, NB222_204.out, NB223_222.out, NB222_223.out, GW223.out, GE223.out, NB203_223.out, NB223_203.out, NB204_223.out, NB223_204.out, (by repeat (first | (with_reducible first | exact HB.out | apply bA | apply bN | apply bD | refine bS ?_ GE203.out | refine bS ?_ GE204.out | refine bS ?_ GE222.out | refine bS ?_ GE223.out) | exact HB.out))⟩)
             ·
              skip
              rintro ⟨v211, v215, v220, gb223⟩ w32 ⟨hS_, h0_, h1_, h2_, h3_, h4_, h5_, h6_, h7_, h8_, h9_, h10_, h11_, h12_, h13_, h14_, h15_, h16_, h17_, h18_⟩
              have n0_ : Aside0 (Kd.R (Kd.int .u8) 5 w32 w.heap.size (fun _ => True) (.slice Ao17 t183.length co17) t183) := ⟨h0_⟩
              have n1_ : Aside0 (Kd.V (Kd.int .u8) 5 w32 w.heap.size (fun k_ => some k_ ≠ (v196 : Value).ownBlock ∧ some k_ ≠ (v215 : Value).ownBlock ∧ k_ ≠ gb203 ∧ k_ ≠ gb204 ∧ k_ ≠ gb223) (.slice Ao17 y186.length co17) y186) := ⟨h1_⟩
              have n2_ : Aside0 (Kd.V (Kd.int .u8) 5 w32 w.heap.size (fun k_ => some k_ ≠ (.slice Ao17 t183.length co17 : Value).ownBlock ∧ some k_ ≠ (v196 : Value).ownBlock ∧ some k_ ≠ (v215 : Value).ownBlock ∧ k_ ≠ gb203 ∧ k_ ≠ gb204 ∧ k_ ≠ gb223) (.slice Ao22 t191.length co22) t191) := ⟨h2_⟩
              have n3_ : Aside0 (Kd.N k43 43 w32 w.heap.size (fun k_ => some k_ ≠ (.slice Ao17 t183.length co17 : Value).ownBlock ∧ some k_ ≠ (v215 : Value).ownBlock ∧ k_ ≠ gb203 ∧ k_ ≠ gb204 ∧ k_ ≠ gb223) v196 t195) := ⟨h3_⟩
              have n4_ : Aside0 (Kd.V (Kd.int .u8) 5 w32 w.heap.size (fun k_ => some k_ ≠ (.slice Ao17 t183.length co17 : Value).ownBlock ∧ some k_ ≠ (v196 : Value).ownBlock ∧ some k_ ≠ (v215 : Value).ownBlock ∧ k_ ≠ gb203 ∧ k_ ≠ gb204 ∧ k_ ≠ gb223) (.slice Ao26 t200.length co26) t200) := ⟨h4_⟩
              have n5_ : Aside0 (Kd.V (Kd.int .u8) 5 w32 w.heap.size (fun k_ => some k_ ≠ (v196 : Value).ownBlock ∧ some k_ ≠ (v215 : Value).ownBlock ∧ k_ ≠ gb203 ∧ k_ ≠ gb204 ∧ k_ ≠ gb223) (.slice A29 y205.length c29) y205) := ⟨h5_⟩
              have n6_ : Aside0 (Kd.V (Kd.int .u8) 5 w32 w.heap.size (fun k_ => some k_ ≠ (.slice Ao17 t183.length co17 : Value).ownBlock ∧ some k_ ≠ (v196 : Value).ownBlock ∧ some k_ ≠ (v215 : Value).ownBlock ∧ k_ ≠ gb203 ∧ k_ ≠ gb204 ∧ k_ ≠ gb223) v211 t210) := ⟨h6_⟩
              have n7_ : Aside0 (Kd.N k43 43 w32 w.heap.size (fun k_ => some k_ ≠ (.slice Ao17 t183.length co17 : Value).ownBlock ∧ some k_ ≠ (v196 : Value).ownBlock ∧ k_ ≠ gb203 ∧ k_ ≠ gb204 ∧ k_ ≠ gb223) v215 t214) := ⟨h7_⟩
              have n8_ : Aside0 (Kd.V (Kd.int .u8) 5 w32 w.heap.size (fun k_ => some k_ ≠ (.slice Ao17 t183.length co17 : Value).ownBlock ∧ some k_ ≠ (v196 : Value).ownBlock ∧ some k_ ≠ (v215 : Value).ownBlock ∧ k_ ≠ gb203 ∧ k_ ≠ gb204 ∧ k_ ≠ gb223) v220 t219) := ⟨h8_⟩
              have n9_ : Aside0 (w32.heap[gb203]? = some (.cells #[.slice Ao22 t191.length co22, .bool t194] 26 (0, 0))) := ⟨h9_⟩
              have n10_ : Aside0 (w32.heap[gb204]? = some (.cells #[.int .i64 t198, .int .i64 t199, .slice Ao26 t200.length co26] 29 (0, 0))) := ⟨h10_⟩
              have n11_ : Aside0 (w32.heap[gb223]? = some (.cells #[.int .i64 0, .int .i64 0, .slice none 0 0] 29 (0, 0))) := ⟨h11_⟩
              have n12_ : Aside0 (w.heap.size ≤ gb223) := ⟨h12_⟩
              have n13_ : Aside0 (w.heap.size ≤ gb223) := ⟨h13_⟩
              have n14_ : Aside0 (gb203 ≠ gb223) := ⟨h14_⟩
              have n15_ : Aside0 (gb223 ≠ gb203) := ⟨h15_⟩
              have n16_ : Aside0 (gb204 ≠ gb223) := ⟨h16_⟩
              have n17_ : Aside0 (gb223 ≠ gb204) := ⟨h17_⟩
              have n18_ : Aside0 (Below w.heap.size w w32) := ⟨h18_⟩
              clear HO185
              clear HO190
              clear HO193
              clear HO197
              clear HO202
              clear BK203
              clear BK204
              clear HB
              clear h0_ h1_ h2_ h3_ h4_ h5_ h6_ h7_ h8_ h9_ h10_ h11_ h12_ h13_ h14_ h15_ h16_ h17_ h18_
              have HO185 := n0_
              have HO190 := n1_
              have HO193 := n2_
              have HO197 := n3_
              have HO202 := n4_
              have HO209 := n5_
              have HO212 := n6_
              have HO216 := n7_
              have HO221 := n8_
              have BK203 := n9_
              have BK204 := n10_
              have BK223 := n11_
              have GW223 := n12_
              have GE223 := n13_
              have NB203_223 := n14_
              have NB223_203 := n15_
              have NB204_223 := n16_
              have NB223_204 := n17_
              have HB := n18_
              clear n0_ n1_ n2_ n3_ n4_ n5_ n6_ n7_ n8_ n9_ n10_ n11_ n12_ n13_ n14_ n15_ n16_ n17_ n18_
              have hHeld : w32.cell? ⟨gb203, 0, none⟩ = some (.slice Ao22 t191.length co22) ∧ w32.cell? ⟨gb203, 1, none⟩ = some (.bool t194) := hS_
              refine norm_ (a' := ?_) ?_ ?_
              rotate_left
              ·
               simp only [putAll, Act.put, sA, sB, sC]
               rfl
              refine one_ (i := 8) (N := some 5) #[true, true, true, true, true, true, true, true, true, true, false, false, false] rfl rfl (one_of HT_.out (by kernel_rfl)) (by decide) (fun K hK => ?_)
              refine box_step ?hg (N := 5) ?hd (cs := #[.slice none 0 0, .bool false]) (t := 26) ?hr ?_; (case hd => rfl); (case hg => rfl); (case hr => first | (go_simp; done) | (go_simp; rfl))
              intro gb222 hg w33 hbox hb
              have n0_ := Aside0.mk (Kd.R_below (by (with_reducible repeat (first | apply Kd.R_alloc | apply Kd.R_drewN | apply Kd.R_drew)); exact HO185.out) hb)
              have n1_ := Aside0.mk (Kd.V_below (Kd.V_elderB (by (with_reducible repeat (first | apply Kd.V_alloc | apply Kd.V_drewN | apply Kd.V_drew)); exact HO190.out) gb222 (Nat.le_of_eq hg.symm)) hb)
              have n2_ := Aside0.mk (Kd.V_below (Kd.V_elderB (by (with_reducible repeat (first | apply Kd.V_alloc | apply Kd.V_drewN | apply Kd.V_drew)); exact HO193.out) gb222 (Nat.le_of_eq hg.symm)) hb)
              have n3_ := Aside0.mk (Kd.N_below (Kd.N_elderB (by (with_reducible repeat (first | apply Kd.N_alloc | apply Kd.N_drewN | apply Kd.N_drew)); exact HO197.out) gb222 (Nat.le_of_eq hg.symm)) hb)
              have n4_ := Aside0.mk (Kd.V_below (Kd.V_elderB (by (with_reducible repeat (first | apply Kd.V_alloc | apply Kd.V_drewN | apply Kd.V_drew)); exact HO202.out) gb222 (Nat.le_of_eq hg.symm)) hb)
              have n5_ := Aside0.mk (Kd.V_below (Kd.V_elderB (by (with_reducible repeat (first | apply Kd.V_alloc | apply Kd.V_drewN | apply Kd.V_drew)); exact HO209.out) gb222 (Nat.le_of_eq hg.symm)) hb)
              have n6_ := Aside0.mk (Kd.V_below (Kd.V_elderB (by (with_reducible repeat (first | apply Kd.V_alloc | apply Kd.V_drewN | apply Kd.V_drew)); exact HO212.out) gb222 (Nat.le_of_eq hg.symm)) hb)
              have n7_ := Aside0.mk (Kd.N_below (Kd.N_elderB (by (with_reducible repeat (first | apply Kd.N_alloc | apply Kd.N_drewN | apply Kd.N_drew)); exact HO216.out) gb222 (Nat.le_of_eq hg.symm)) hb)
              have n8_ := Aside0.mk (Kd.V_below (Kd.V_elderB (by (with_reducible repeat (first | apply Kd.V_alloc | apply Kd.V_drewN | apply Kd.V_drew)); exact HO221.out) gb222 (Nat.le_of_eq hg.symm)) hb)
              have n9_ := Aside0.mk (blk_below (g := gb203) (o := .cells #[.slice Ao22 t191.length co22, .bool t194] 26 (0, 0)) (by (with_reducible repeat (first | refine kN ?_ _ | refine kD ?_ | refine kA ?_ _)); exact BK203.out) hb)
              have n10_ := Aside0.mk (blk_below (g := gb204) (o := .cells #[.int .i64 t198, .int .i64 t199, .slice Ao26 t200.length co26] 29 (0, 0)) (by (with_reducible repeat (first | refine kN ?_ _ | refine kD ?_ | refine kA ?_ _)); exact BK204.out) hb)
              have n11_ := Aside0.mk (blk_below (g := gb223) (o := .cells #[.int .i64 0, .int .i64 0, .slice none 0 0] 29 (0, 0)) (by (with_reducible repeat (first | refine kN ?_ _ | refine kD ?_ | refine kA ?_ _)); exact BK223.out) hb)
              have n12_ := Aside0.mk (below_step (by repeat (first | (with_reducible first | exact HB.out | apply bA | apply bN | apply bD | refine bS ?_ GE203.out | refine bS ?_ GE204.out | refine bS ?_ GE223.out) | exact HB.out)) hb)
              have n13_ := Aside0.mk (hbox)
              have n14_ := Aside0.mk ((by rw [hg]; exact (below_size (by repeat (first | (with_reducible first | exact HB.out | apply bA | apply bN | apply bD | refine bS ?_ GE203.out | refine bS ?_ GE204.out | refine bS ?_ GE223.out) | exact HB.out))) : w.heap.size ≤ gb222))
              have n15_ := Aside0.mk ((by rw [hg]; exact (below_size (by repeat (first | (with_reducible first | exact HB.out | apply bA | apply bN | apply bD | refine bS ?_ GE203.out | refine bS ?_ GE204.out | refine bS ?_ GE223.out) | exact HB.out))) : w.heap.size ≤ gb222))
              have n16_ := Aside0.mk ((by rw [hg]; exact Nat.ne_of_lt (blk_lt (g := gb203) (o := .cells #[.slice Ao22 t191.length co22, .bool t194] 26 (0, 0)) (by (with_reducible repeat (first | refine kN ?_ _ | refine kD ?_ | refine kA ?_ _)); exact BK203.out)) : gb203 ≠ gb222))
              have n17_ := Aside0.mk ((by rw [hg]; exact Nat.ne_of_gt (blk_lt (g := gb203) (o := .cells #[.slice Ao22 t191.length co22, .bool t194] 26 (0, 0)) (by (with_reducible repeat (first | refine kN ?_ _ | refine kD ?_ | refine kA ?_ _)); exact BK203.out)) : gb222 ≠ gb203))
              have n18_ := Aside0.mk ((by rw [hg]; exact Nat.ne_of_lt (blk_lt (g := gb204) (o := .cells #[.int .i64 t198, .int .i64 t199, .slice Ao26 t200.length co26] 29 (0, 0)) (by (with_reducible repeat (first | refine kN ?_ _ | refine kD ?_ | refine kA ?_ _)); exact BK204.out)) : gb204 ≠ gb222))
              have n19_ := Aside0.mk ((by rw [hg]; exact Nat.ne_of_gt (blk_lt (g := gb204) (o := .cells #[.int .i64 t198, .int .i64 t199, .slice Ao26 t200.length co26] 29 (0, 0)) (by (with_reducible repeat (first | refine kN ?_ _ | refine kD ?_ | refine kA ?_ _)); exact BK204.out)) : gb222 ≠ gb204))
              have n20_ := Aside0.mk ((by rw [hg]; exact Nat.ne_of_lt (blk_lt (g := gb223) (o := .cells #[.int .i64 0, .int .i64 0, .slice none 0 0] 29 (0, 0)) (by (with_reducible repeat (first | refine kN ?_ _ | refine kD ?_ | refine kA ?_ _)); exact BK223.out)) : gb223 ≠ gb222))
              have n21_ := Aside0.mk ((by rw [hg]; exact Nat.ne_of_gt (blk_lt (g := gb223) (o := .cells #[.int .i64 0, .int .i64 0, .slice none 0 0] 29 (0, 0)) (by (with_reducible repeat (first | refine kN ?_ _ | refine kD ?_ | refine kA ?_ _)); exact BK223.out)) : gb222 ≠ gb223))
              clear HO185
              clear HO190
              clear HO193
              clear HO197
              clear HO202
              clear HO209
              clear HO212
              clear HO216
              clear HO221
              clear BK203
              clear BK204
              clear BK223
              clear HB
              have HO185 := n0_
              have HO190 := n1_
              have HO193 := n2_
              have HO197 := n3_
              have HO202 := n4_
              have HO209 := n5_
              have HO212 := n6_
              have HO216 := n7_
              have HO221 := n8_
              have BK203 := n9_
              have BK204 := n10_
              have BK223 := n11_
              have HB := n12_
              have BK222 := n13_
              have GW222 := n14_
              have GE222 := n15_
              have NB203_222 := n16_
              have NB222_203 := n17_
              have NB204_222 := n18_
              have NB222_204 := n19_
              have NB223_222 := n20_
              have NB222_223 := n21_
              clear n0_ n1_ n2_ n3_ n4_ n5_ n6_ n7_ n8_ n9_ n10_ n11_ n12_ n13_ n14_ n15_ n16_ n17_ n18_ n19_ n20_ n21_
              clear hb hbox hg
              refine hK.out _ _ ⟨(blk_cell BK203.out 0).trans rfl, (blk_cell BK203.out 1).trans rfl⟩ (fun hHeld => ?_)
              clear hK K
              refine norm_ (a' := ?_) ?_ ?_
              rotate_left
              ·
               show Act.put _ (some 5) _ = _
               simp only [Act.put, sA, sB, sC, i64_w, i32_w]
               rfl
              exact norm_ (by first | (simp only [putAll, Act.put, sA, sB, sC]; done) | (simp only [putAll, Act.put, sA, sB, sC]; rfl)) (hJ3_8_9 (v211, v215, v220, gb222, gb223) _ ⟨hHeld, (by (with_reducible repeat (first | apply Kd.R_alloc | apply Kd.R_drewN | apply Kd.R_drew)); exact HO185.out), (by (with_reducible repeat (first | apply Kd.V_alloc | apply Kd.V_drewN | apply Kd.V_drew)); exact Kd.V_mono HO190.out (fun _ hk => ⟨hk.1.1, ⟨hk.1.2.1, ⟨hk.1.2.2.1, ⟨hk.1.2.2.2.1, ⟨hk.2, hk.1.2.2.2.2⟩⟩⟩⟩⟩)), (by (with_reducible repeat (first | apply Kd.V_alloc | apply Kd.V_drewN | apply Kd.V_drew)); exact Kd.V_mono HO193.out (fun _ hk => ⟨hk.1.1, ⟨hk.1.2.1, ⟨hk.1.2.2.1, ⟨hk.1.2.2.2.1, ⟨hk.1.2.2.2.2.1, ⟨hk.2, hk.1.2.2.2.2.2⟩⟩⟩⟩⟩⟩)), (by (with_reducible repeat (first | apply Kd.N_alloc | apply Kd.N_drewN | apply Kd.N_drew)); exact Kd.N_mono HO197.out (fun _ hk => ⟨hk.1.1, ⟨hk.1.2.1, ⟨hk.1.2.2.1, ⟨hk.1.2.2.2.1, ⟨hk.2, hk.1.2.2.2.2⟩⟩⟩⟩⟩)), (by (with_reducible repeat (first | apply Kd.V_alloc | apply Kd.V_drewN | apply Kd.V_drew)); exact Kd.V_mono HO202.out (fun _ hk => ⟨hk.1.1, ⟨hk.1.2.1, ⟨hk.1.2.2.1, ⟨hk.1.2.2.2.1, ⟨hk.1.2.2.2.2.1, ⟨hk.2, hk.1.2.2.2.2.2⟩⟩⟩⟩⟩⟩)), (by (with_reducible repeat (first | apply Kd.V_alloc | apply Kd.V_drewN | apply Kd.V_drew)); exact Kd.V_mono HO209.out (fun _ hk => ⟨hk.1.1, ⟨hk.1.2.1, ⟨hk.1.2.2.1, ⟨hk.1.2.2.2.1, ⟨hk.2, hk.1.2.2.2.2⟩⟩⟩⟩⟩)), (by (with_reducible repeat (first | apply Kd.V_alloc | apply Kd.V_drewN | apply Kd.V_drew)); exact Kd.V_mono HO212.out (fun _ hk => ⟨hk.1.1, ⟨hk.1.2.1, ⟨hk.1.2.2.1, ⟨hk.1.2.2.2.1, ⟨hk.1.2.2.2.2.1, ⟨hk.2, hk.1.2.2.2.2.2⟩⟩⟩⟩⟩⟩)), (by (with_reducible repeat (first | apply Kd.N_alloc | apply Kd.N_drewN | apply Kd.N_drew)); exact Kd.N_mono HO216.out (fun _ hk => ⟨hk.1.1, ⟨hk.1.2.1, ⟨hk.1.2.2.1, ⟨hk.1.2.2.2.1, ⟨hk.2, hk.1.2.2.2.2⟩⟩⟩⟩⟩)), (by (with_reducible repeat (first | apply Kd.V_alloc | apply Kd.V_drewN | apply Kd.V_drew)); exact Kd.V_mono HO221.out (fun _ hk => ⟨hk.1.1, ⟨hk.1.2.1, ⟨hk.1.2.2.1, ⟨hk.1.2.2.2.1, ⟨hk.1.2.2.2.2.1, ⟨hk.2, hk.1.2.2.2.2.2⟩⟩⟩⟩⟩⟩)), (by (with_reducible repeat (first | refine kN ?_ _ | refine kD ?_ | refine kA ?_ _)); exact BK203.out), (by (with_reducible repeat (first | refine kN ?_ _ | refine kD ?_ | refine kA ?_ _)); exact BK204.out), (by (with_reducible repeat (first | refine kN ?_ _ | refine kD ?_ | refine kA ?_ _)); exact BK222.out), (by (with_reducible repeat (first | refine kN ?_ _ | refine kD ?_ | refine kA ?_ _)); exact BK223.out), GW222.out, GE222.out, NB203_222.out, NB222_203.out, NB204_222.out, NB222_204.out, NB223_222.out, NB222_223.out, GW223.out, GE223.out, NB203_223.out, NB223_203.out, NB204_223.out, NB223_204.out, (by repeat (first | (with_reducible first | exact HB.out | apply bA | apply bN | apply bD | refine bS ?_ GE203.out | refine bS ?_ GE204.out | refine bS ?_ GE223.out | refine bS ?_ GE222.out) | exact HB.out))⟩)
            ·
             skip
             rintro ⟨v211, v215, v220, gb222⟩ w32 ⟨hS_, h0_, h1_, h2_, h3_, h4_, h5_, h6_, h7_, h8_, h9_, h10_, h11_, h12_, h13_, h14_, h15_, h16_, h17_, h18_⟩
             have n0_ : Aside0 (Kd.R (Kd.int .u8) 5 w32 w.heap.size (fun _ => True) (.slice Ao17 t183.length co17) t183) := ⟨h0_⟩
             have n1_ : Aside0 (Kd.V (Kd.int .u8) 5 w32 w.heap.size (fun k_ => some k_ ≠ (v196 : Value).ownBlock ∧ some k_ ≠ (v215 : Value).ownBlock ∧ k_ ≠ gb203 ∧ k_ ≠ gb204 ∧ k_ ≠ gb222) (.slice Ao17 y186.length co17) y186) := ⟨h1_⟩
             have n2_ : Aside0 (Kd.V (Kd.int .u8) 5 w32 w.heap.size (fun k_ => some k_ ≠ (.slice Ao17 t183.length co17 : Value).ownBlock ∧ some k_ ≠ (v196 : Value).ownBlock ∧ some k_ ≠ (v215 : Value).ownBlock ∧ k_ ≠ gb203 ∧ k_ ≠ gb204 ∧ k_ ≠ gb222) (.slice Ao22 t191.length co22) t191) := ⟨h2_⟩
             have n3_ : Aside0 (Kd.N k43 43 w32 w.heap.size (fun k_ => some k_ ≠ (.slice Ao17 t183.length co17 : Value).ownBlock ∧ some k_ ≠ (v215 : Value).ownBlock ∧ k_ ≠ gb203 ∧ k_ ≠ gb204 ∧ k_ ≠ gb222) v196 t195) := ⟨h3_⟩
             have n4_ : Aside0 (Kd.V (Kd.int .u8) 5 w32 w.heap.size (fun k_ => some k_ ≠ (.slice Ao17 t183.length co17 : Value).ownBlock ∧ some k_ ≠ (v196 : Value).ownBlock ∧ some k_ ≠ (v215 : Value).ownBlock ∧ k_ ≠ gb203 ∧ k_ ≠ gb204 ∧ k_ ≠ gb222) (.slice Ao26 t200.length co26) t200) := ⟨h4_⟩
             have n5_ : Aside0 (Kd.V (Kd.int .u8) 5 w32 w.heap.size (fun k_ => some k_ ≠ (v196 : Value).ownBlock ∧ some k_ ≠ (v215 : Value).ownBlock ∧ k_ ≠ gb203 ∧ k_ ≠ gb204 ∧ k_ ≠ gb222) (.slice A29 y205.length c29) y205) := ⟨h5_⟩
             have n6_ : Aside0 (Kd.V (Kd.int .u8) 5 w32 w.heap.size (fun k_ => some k_ ≠ (.slice Ao17 t183.length co17 : Value).ownBlock ∧ some k_ ≠ (v196 : Value).ownBlock ∧ some k_ ≠ (v215 : Value).ownBlock ∧ k_ ≠ gb203 ∧ k_ ≠ gb204 ∧ k_ ≠ gb222) v211 t210) := ⟨h6_⟩
             have n7_ : Aside0 (Kd.N k43 43 w32 w.heap.size (fun k_ => some k_ ≠ (.slice Ao17 t183.length co17 : Value).ownBlock ∧ some k_ ≠ (v196 : Value).ownBlock ∧ k_ ≠ gb203 ∧ k_ ≠ gb204 ∧ k_ ≠ gb222) v215 t214) := ⟨h7_⟩
             have n8_ : Aside0 (Kd.V (Kd.int .u8) 5 w32 w.heap.size (fun k_ => some k_ ≠ (.slice Ao17 t183.length co17 : Value).ownBlock ∧ some k_ ≠ (v196 : Value).ownBlock ∧ some k_ ≠ (v215 : Value).ownBlock ∧ k_ ≠ gb203 ∧ k_ ≠ gb204 ∧ k_ ≠ gb222) v220 t219) := ⟨h8_⟩
             have n9_ : Aside0 (w32.heap[gb203]? = some (.cells #[.slice Ao22 t191.length co22, .bool t194] 26 (0, 0))) := ⟨h9_⟩
             have n10_ : Aside0 (w32.heap[gb204]? = some (.cells #[.int .i64 t198, .int .i64 t199, .slice Ao26 t200.length co26] 29 (0, 0))) := ⟨h10_⟩
             have n11_ : Aside0 (w32.heap[gb222]? = some (.cells #[.slice none 0 0, .bool false] 26 (0, 0))) := ⟨h11_⟩
             have n12_ : Aside0 (w.heap.size ≤ gb222) := ⟨h12_⟩
             have n13_ : Aside0 (w.heap.size ≤ gb222) := ⟨h13_⟩
             have n14_ : Aside0 (gb203 ≠ gb222) := ⟨h14_⟩
             have n15_ : Aside0 (gb222 ≠ gb203) := ⟨h15_⟩
             have n16_ : Aside0 (gb204 ≠ gb222) := ⟨h16_⟩
             have n17_ : Aside0 (gb222 ≠ gb204) := ⟨h17_⟩
             have n18_ : Aside0 (Below w.heap.size w w32) := ⟨h18_⟩
             clear HO185
             clear HO190
             clear HO193
             clear HO197
             clear HO202
             clear BK203
             clear BK204
             clear HB
             clear h0_ h1_ h2_ h3_ h4_ h5_ h6_ h7_ h8_ h9_ h10_ h11_ h12_ h13_ h14_ h15_ h16_ h17_ h18_
             have HO185 := n0_
             have HO190 := n1_
             have HO193 := n2_
             have HO197 := n3_
             have HO202 := n4_
             have HO209 := n5_
             have HO212 := n6_
             have HO216 := n7_
             have HO221 := n8_
             have BK203 := n9_
             have BK204 := n10_
             have BK222 := n11_
             have GW222 := n12_
             have GE222 := n13_
             have NB203_222 := n14_
             have NB222_203 := n15_
             have NB204_222 := n16_
             have NB222_204 := n17_
             have HB := n18_
             clear n0_ n1_ n2_ n3_ n4_ n5_ n6_ n7_ n8_ n9_ n10_ n11_ n12_ n13_ n14_ n15_ n16_ n17_ n18_
             have hHeld : w32.cell? ⟨gb203, 0, none⟩ = some (.slice Ao22 t191.length co22) ∧ w32.cell? ⟨gb203, 1, none⟩ = some (.bool t194) := hS_
             refine norm_ (a' := ?_) ?_ ?_
             rotate_left
             ·
              simp only [putAll, Act.put, sA, sB, sC]
              rfl
             refine one_ (i := 9) (N := some 7) #[true, true, true, true, true, true, true, true, true, true, false, false, false] rfl rfl (one_of HT_.out (by kernel_rfl)) (by decide) (fun K hK => ?_)
             refine box_step ?hg (N := 7) ?hd (cs := #[.int .i64 0, .int .i64 0, .slice none 0 0]) (t := 29) ?hr ?_; (case hd => rfl); (case hg => rfl); (case hr => first | (go_simp; done) | (go_simp; rfl))
             intro gb223 hg w33 hbox hb
             have n0_ := Aside0.mk (Kd.R_below (by (with_reducible repeat (first | apply Kd.R_alloc | apply Kd.R_drewN | apply Kd.R_drew)); exact HO185.out) hb)
             have n1_ := Aside0.mk (Kd.V_below (Kd.V_elderB (by (with_reducible repeat (first | apply Kd.V_alloc | apply Kd.V_drewN | apply Kd.V_drew)); exact HO190.out) gb223 (Nat.le_of_eq hg.symm)) hb)
             have n2_ := Aside0.mk (Kd.V_below (Kd.V_elderB (by (with_reducible repeat (first | apply Kd.V_alloc | apply Kd.V_drewN | apply Kd.V_drew)); exact HO193.out) gb223 (Nat.le_of_eq hg.symm)) hb)
             have n3_ := Aside0.mk (Kd.N_below (Kd.N_elderB (by (with_reducible repeat (first | apply Kd.N_alloc | apply Kd.N_drewN | apply Kd.N_drew)); exact HO197.out) gb223 (Nat.le_of_eq hg.symm)) hb)
             have n4_ := Aside0.mk (Kd.V_below (Kd.V_elderB (by (with_reducible repeat (first | apply Kd.V_alloc | apply Kd.V_drewN | apply Kd.V_drew)); exact HO202.out) gb223 (Nat.le_of_eq hg.symm)) hb)
             have n5_ := Aside0.mk (Kd.V_below (Kd.V_elderB (by (with_reducible repeat (first | apply Kd.V_alloc | apply Kd.V_drewN | apply Kd.V_drew)); exact HO209.out) gb223 (Nat.le_of_eq hg.symm)) hb)
             have n6_ := Aside0.mk (Kd.V_below (Kd.V_elderB (by (with_reducible repeat (first | apply Kd.V_alloc | apply Kd.V_drewN | apply Kd.V_drew)); exact HO212.out) gb223 (Nat.le_of_eq hg.symm)) hb)
             have n7_ := Aside0.mk (Kd.N_below (Kd.N_elderB (by (with_reducible repeat (first | apply Kd.N_alloc | apply Kd.N_drewN | apply Kd.N_drew)); exact HO216.out) gb223 (Nat.le_of_eq hg.symm)) hb)
             have n8_ := Aside0.mk (Kd.V_below (Kd.V_elderB (by (with_reducible repeat (first | apply Kd.V_alloc | apply Kd.V_drewN | apply Kd.V_drew)); exact HO221.out) gb223 (Nat.le_of_eq hg.symm)) hb)
             have n9_ := Aside0.mk (blk_below (g := gb203) (o := .cells #[.slice Ao22 t191.length co22, .bool t194] 26 (0, 0)) (by (with_reducible repeat (first | refine kN ?_ _ | refine kD ?_ | refine kA ?_ _)); exact BK203.out) hb)
             have n10_ := Aside0.mk (blk_below (g := gb204) (o := .cells #[.int .i64 t198, .int .i64 t199, .slice Ao26 t200.length co26] 29 (0, 0)) (by (with_reducible repeat (first | refine kN ?_ _ | refine kD ?_ | refine kA ?_ _)); exact BK204.out) hb)
             have n11_ := Aside0.mk (blk_below (g := gb222) (o := .cells #[.slice none 0 0, .bool false] 26 (0, 0)) (by (with_reducible repeat (first | refine kN ?_ _ | refine kD ?_ | refine kA ?_ _)); exact BK222.out) hb)
             have n12_ := Aside0.mk (below_step (by repeat (first | (with_reducible first | exact HB.out | apply bA | apply bN | apply bD | refine bS ?_ GE203.out | refine bS ?_ GE204.out | refine bS ?_ GE222.out) | exact HB.out)) hb)
             have n13_ := Aside0.mk (hbox)
             have n14_ := Aside0.mk ((by rw [hg]; exact (below_size (by repeat (first | (with_reducible first | exact HB.out | apply bA | apply bN | apply bD | refine bS ?_ GE203.out | refine bS ?_ GE204.out | refine bS ?_ GE222.out) | exact HB.out))) : w.heap.size ≤ gb223))
             have n15_ := Aside0.mk ((by rw [hg]; exact (below_size (by repeat (first | (with_reducible first | exact HB.out | apply bA | apply bN | apply bD | refine bS ?_ GE203.out | refine bS ?_ GE204.out | refine bS ?_ GE222.out) | exact HB.out))) : w.heap.size ≤ gb223))
             have n16_ := Aside0.mk ((by rw [hg]; exact Nat.ne_of_lt (blk_lt (g := gb203) (o := .cells #[.slice Ao22 t191.length co22, .bool t194] 26 (0, 0)) (by (with_reducible repeat (first | refine kN ?_ _ | refine kD ?_ | refine kA ?_ _)); exact BK203.out)) : gb203 ≠ gb223))
             have n17_ := Aside0.mk ((by rw [hg]; exact Nat.ne_of_gt (blk_lt (g := gb203) (o := .cells #[.slice Ao22 t191.length co22, .bool t194] 26 (0, 0)) (by (with_reducible repeat (first | refine kN ?_ _ | refine kD ?_ | refine kA ?_ _)); exact BK203.out)) : gb223 ≠ gb203))
             have n18_ := Aside0.mk ((by rw [hg]; exact Nat.ne_of_lt (blk_lt (g := gb204) (o := .cells #[.int .i64 t198, .int .i64 t199, .slice Ao26 t200.length co26] 29 (0, 0)) (by (with_reducible repeat (first | refine kN ?_ _ | refine kD ?_ | refine kA ?_ _)); exact BK204.out)) : gb204 ≠ gb223))
             have n19_ := Aside0.mk ((by rw [hg]; exact Nat.ne_of_gt (blk_lt (g := gb204) (o := .cells #[.int .i64 t198, .int .i64 t199, .slice Ao26 t200.length co26] 29 (0, 0)) (by (with_reducible repeat (first | refine kN ?_ _ | refine kD ?_ | refine kA ?_ _)); exact BK204.out)) : gb223 ≠ gb204))
             have n20_ := Aside0.mk ((by rw [hg]; exact Nat.ne_of_lt (blk_lt (g := gb222) (o := .cells #[.slice none 0 0, .bool false] 26 (0, 0)) (by (with_reducible repeat (first | refine kN ?_ _ | refine kD ?_ | refine kA ?_ _)); exact BK222.out)) : gb222 ≠ gb223))
             have n21_ := Aside0.mk ((by rw [hg]; exact Nat.ne_of_gt (blk_lt (g := gb222) (o := .cells #[.slice none 0 0, .bool false] 26 (0, 0)) (by (with_reducible repeat (first | refine kN ?_ _ | refine kD ?_ | refine kA ?_ _)); exact BK222.out)) : gb223 ≠ gb222))
             clear HO185
             clear HO190
             clear HO193
             clear HO197
             clear HO202
             clear HO209
             clear HO212
             clear HO216
             clear HO221
             clear BK203
             clear BK204
             clear BK222
             clear HB
             have HO185 := n0_
             have HO190 := n1_
             have HO193 := n2_
             have HO197 := n3_
             have HO202 := n4_
             have HO209 := n5_
             have HO212 := n6_
             have HO216 := n7_
             have HO221 := n8_
             have BK203 := n9_
             have BK204 := n10_
             have BK222 := n11_
             have HB := n12_
             have BK223 := n13_
             have GW223 := n14_
             have GE223 := n15_
             have NB203_223 := n16_
             have NB223_203 := n17_
             have NB204_223 := n18_
             have NB223_204 := n19_
             have NB222_223 := n20_
             have NB223_222 := n21_
             clear n0_ n1_ n2_ n3_ n4_ n5_ n6_ n7_ n8_ n9_ n10_ n11_ n12_ n13_ n14_ n15_ n16_ n17_ n18_ n19_ n20_ n21_
             clear hb hbox hg
             refine hK.out _ _ ⟨(blk_cell BK203.out 0).trans rfl, (blk_cell BK203.out 1).trans rfl⟩ (fun hHeld => ?_)
             clear hK K
             refine norm_ (a' := ?_) ?_ ?_
             rotate_left
             ·
              show Act.put _ (some 7) _ = _
              simp only [Act.put, sA, sB, sC, i64_w, i32_w]
              rfl
             exact norm_ (by first | (simp only [putAll, Act.put, sA, sB, sC]; done) | (simp only [putAll, Act.put, sA, sB, sC]; rfl)) (hJ3_8_9 (v211, v215, v220, gb222, gb223) _ ⟨hHeld, (by (with_reducible repeat (first | apply Kd.R_alloc | apply Kd.R_drewN | apply Kd.R_drew)); exact HO185.out), (by (with_reducible repeat (first | apply Kd.V_alloc | apply Kd.V_drewN | apply Kd.V_drew)); exact Kd.V_mono HO190.out (fun _ hk => ⟨hk.1.1, ⟨hk.1.2.1, ⟨hk.1.2.2.1, ⟨hk.1.2.2.2.1, ⟨hk.1.2.2.2.2, hk.2⟩⟩⟩⟩⟩)), (by (with_reducible repeat (first | apply Kd.V_alloc | apply Kd.V_drewN | apply Kd.V_drew)); exact Kd.V_mono HO193.out (fun _ hk => ⟨hk.1.1, ⟨hk.1.2.1, ⟨hk.1.2.2.1, ⟨hk.1.2.2.2.1, ⟨hk.1.2.2.2.2.1, ⟨hk.1.2.2.2.2.2, hk.2⟩⟩⟩⟩⟩⟩)), (by (with_reducible repeat (first | apply Kd.N_alloc | apply Kd.N_drewN | apply Kd.N_drew)); exact Kd.N_mono HO197.out (fun _ hk => ⟨hk.1.1, ⟨hk.1.2.1, ⟨hk.1.2.2.1, ⟨hk.1.2.2.2.1, ⟨hk.1.2.2.2.2, hk.2⟩⟩⟩⟩⟩)), (by (with_reducible repeat (first | apply Kd.V_alloc | apply Kd.V_drewN | apply Kd.V_drew)); exact Kd.V_mono HO202.out (fun _ hk => ⟨hk.1.1, ⟨hk.1.2.1, ⟨hk.1.2.2.1, ⟨hk.1.2.2.2.1, ⟨hk.1.2.2.2.2.1, ⟨hk.1.2.2.2.2.2, hk.2⟩⟩⟩⟩⟩⟩)), (by (with_reducible repeat (first | apply Kd.V_alloc | apply Kd.V_drewN | apply Kd.V_drew)); exact Kd.V_mono HO209.out (fun _ hk => ⟨hk.1.1, ⟨hk.1.2.1, ⟨hk.1.2.2.1, ⟨hk.1.2.2.2.1, ⟨hk.1.2.2.2.2, hk.2⟩⟩⟩⟩⟩)), (by (with_reducible repeat (first | apply Kd.V_alloc | apply Kd.V_drewN | apply Kd.V_drew)); exact Kd.V_mono HO212.out (fun _ hk => ⟨hk.1.1, ⟨hk.1.2.1, ⟨hk.1.2.2.1, ⟨hk.1.2.2.2.1, ⟨hk.1.2.2.2.2.1, ⟨hk.1.2.2.2.2.2, hk.2⟩⟩⟩⟩⟩⟩)), (by (with_reducible repeat (first | apply Kd.N_alloc | apply Kd.N_drewN | apply Kd.N_drew)); exact Kd.N_mono HO216.out (fun _ hk => ⟨hk.1.1, ⟨hk.1.2.1, ⟨hk.1.2.2.1, ⟨hk.1.2.2.2.1, ⟨hk.1.2.2.2.2, hk.2⟩⟩⟩⟩⟩)), (by (with_reducible repeat (first | apply Kd.V_alloc | apply Kd.V_drewN | apply Kd.V_drew)); exact Kd.V_mono HO221.out (fun _ hk => ⟨hk.1.1, ⟨hk.1.2.1, ⟨hk.1.2.2.1, ⟨hk.1.2.2.2.1, ⟨hk.1.2.2.2.2.1, ⟨hk.1.2.2.2.2.2, hk.2⟩⟩⟩⟩⟩⟩)), (by (with_reducible repeat (first | refine kN ?_ _ | refine kD ?_ | refine kA ?_ _)); exact BK203.out), (by (with_reducible repeat (first | refine kN ?_ _ | refine kD ?_ | refine kA ?_ _)); exact BK204.out), (by (with_reducible repeat (first | refine kN ?_ _ | refine kD ?_ | refine kA ?_ _)); exact BK222.out), (by (with_reducible repeat (first | refine kN ?_ _ | refine kD ?_ | refine kA ?_ _)); exact BK223.out), GW222.out, GE222.out, NB203_222.out, NB222_203.out, NB204_222.out, NB222_204.out, NB223_222.out, NB222_223.out, GW223.out, GE223.out, NB203_223.out, NB223_203.out, NB204_223.out, NB223_204.out, (by repeat (first | (with_reducible first | exact HB.out | apply bA | apply bN | apply bD | refine bS ?_ GE203.out | refine bS ?_ GE204.out | refine bS ?_ GE222.out | refine bS ?_ GE223.out) | exact HB.out))⟩)
           rintro ⟨v211, v215, v220, gb222, gb223⟩ w33 ⟨hS_, h0_, h1_, h2_, h3_, h4_, h5_, h6_, h7_, h8_, h9_, h10_, h11_, h12_, h13_, h14_, h15_, h16_, h17_, h18_, h19_, h20_, h21_, h22_, h23_, h24_, h25_, h26_, h27_⟩
           have n0_ : Aside0 (Kd.R (Kd.int .u8) 5 w33 w.heap.size (fun _ => True) (.slice Ao17 t183.length co17) t183) := ⟨h0_⟩
           have n1_ : Aside0 (Kd.V (Kd.int .u8) 5 w33 w.heap.size (fun k_ => some k_ ≠ (v196 : Value).ownBlock ∧ some k_ ≠ (v215 : Value).ownBlock ∧ k_ ≠ gb203 ∧ k_ ≠ gb204 ∧ k_ ≠ gb222 ∧ k_ ≠ gb223) (.slice Ao17 y186.length co17) y186) := ⟨h1_⟩
           have n2_ : Aside0 (Kd.V (Kd.int .u8) 5 w33 w.heap.size (fun k_ => some k_ ≠ (.slice Ao17 t183.length co17 : Value).ownBlock ∧ some k_ ≠ (v196 : Value).ownBlock ∧ some k_ ≠ (v215 : Value).ownBlock ∧ k_ ≠ gb203 ∧ k_ ≠ gb204 ∧ k_ ≠ gb222 ∧ k_ ≠ gb223) (.slice Ao22 t191.length co22) t191) := ⟨h2_⟩
           have n3_ : Aside0 (Kd.N k43 43 w33 w.heap.size (fun k_ => some k_ ≠ (.slice Ao17 t183.length co17 : Value).ownBlock ∧ some k_ ≠ (v215 : Value).ownBlock ∧ k_ ≠ gb203 ∧ k_ ≠ gb204 ∧ k_ ≠ gb222 ∧ k_ ≠ gb223) v196 t195) := ⟨h3_⟩
           have n4_ : Aside0 (Kd.V (Kd.int .u8) 5 w33 w.heap.size (fun k_ => some k_ ≠ (.slice Ao17 t183.length co17 : Value).ownBlock ∧ some k_ ≠ (v196 : Value).ownBlock ∧ some k_ ≠ (v215 : Value).ownBlock ∧ k_ ≠ gb203 ∧ k_ ≠ gb204 ∧ k_ ≠ gb222 ∧ k_ ≠ gb223) (.slice Ao26 t200.length co26) t200) := ⟨h4_⟩
           have n5_ : Aside0 (Kd.V (Kd.int .u8) 5 w33 w.heap.size (fun k_ => some k_ ≠ (v196 : Value).ownBlock ∧ some k_ ≠ (v215 : Value).ownBlock ∧ k_ ≠ gb203 ∧ k_ ≠ gb204 ∧ k_ ≠ gb222 ∧ k_ ≠ gb223) (.slice A29 y205.length c29) y205) := ⟨h5_⟩
           have n6_ : Aside0 (Kd.V (Kd.int .u8) 5 w33 w.heap.size (fun k_ => some k_ ≠ (.slice Ao17 t183.length co17 : Value).ownBlock ∧ some k_ ≠ (v196 : Value).ownBlock ∧ some k_ ≠ (v215 : Value).ownBlock ∧ k_ ≠ gb203 ∧ k_ ≠ gb204 ∧ k_ ≠ gb222 ∧ k_ ≠ gb223) v211 t210) := ⟨h6_⟩
           have n7_ : Aside0 (Kd.N k43 43 w33 w.heap.size (fun k_ => some k_ ≠ (.slice Ao17 t183.length co17 : Value).ownBlock ∧ some k_ ≠ (v196 : Value).ownBlock ∧ k_ ≠ gb203 ∧ k_ ≠ gb204 ∧ k_ ≠ gb222 ∧ k_ ≠ gb223) v215 t214) := ⟨h7_⟩
           have n8_ : Aside0 (Kd.V (Kd.int .u8) 5 w33 w.heap.size (fun k_ => some k_ ≠ (.slice Ao17 t183.length co17 : Value).ownBlock ∧ some k_ ≠ (v196 : Value).ownBlock ∧ some k_ ≠ (v215 : Value).ownBlock ∧ k_ ≠ gb203 ∧ k_ ≠ gb204 ∧ k_ ≠ gb222 ∧ k_ ≠ gb223) v220 t219) := ⟨h8_⟩
           have n9_ : Aside0 (w33.heap[gb203]? = some (.cells #[.slice Ao22 t191.length co22, .bool t194] 26 (0, 0))) := ⟨h9_⟩
           have n10_ : Aside0 (w33.heap[gb204]? = some (.cells #[.int .i64 t198, .int .i64 t199, .slice Ao26 t200.length co26] 29 (0, 0))) := ⟨h10_⟩
           have n11_ : Aside0 (w33.heap[gb222]? = some (.cells #[.slice none 0 0, .bool false] 26 (0, 0))) := ⟨h11_⟩
           have n12_ : Aside0 (w33.heap[gb223]? = some (.cells #[.int .i64 0, .int .i64 0, .slice none 0 0] 29 (0, 0))) := ⟨h12_⟩
           have n13_ : Aside0 (w.heap.size ≤ gb222) := ⟨h13_⟩
           have n14_ : Aside0 (w.heap.size ≤ gb222) := ⟨h14_⟩
           have n15_ : Aside0 (gb203 ≠ gb222) := ⟨h15_⟩
           have n16_ : Aside0 (gb222 ≠ gb203) := ⟨h16_⟩
           have n17_ : Aside0 (gb204 ≠ gb222) := ⟨h17_⟩
           have n18_ : Aside0 (gb222 ≠ gb204) := ⟨h18_⟩
           have n19_ : Aside0 (gb223 ≠ gb222) := ⟨h19_⟩
           have n20_ : Aside0 (gb222 ≠ gb223) := ⟨h20_⟩
           have n21_ : Aside0 (w.heap.size ≤ gb223) := ⟨h21_⟩
           have n22_ : Aside0 (w.heap.size ≤ gb223) := ⟨h22_⟩
           have n23_ : Aside0 (gb203 ≠ gb223) := ⟨h23_⟩
           have n24_ : Aside0 (gb223 ≠ gb203) := ⟨h24_⟩
           have n25_ : Aside0 (gb204 ≠ gb223) := ⟨h25_⟩
           have n26_ : Aside0 (gb223 ≠ gb204) := ⟨h26_⟩
           have n27_ : Aside0 (Below w.heap.size w w33) := ⟨h27_⟩
           clear HO185
           clear HO190
           clear HO193
           clear HO197
           clear HO202
           clear BK203
           clear BK204
           clear HB
           clear h0_ h1_ h2_ h3_ h4_ h5_ h6_ h7_ h8_ h9_ h10_ h11_ h12_ h13_ h14_ h15_ h16_ h17_ h18_ h19_ h20_ h21_ h22_ h23_ h24_ h25_ h26_ h27_
           have HO185 := n0_
           have HO190 := n1_
           have HO193 := n2_
           have HO197 := n3_
           have HO202 := n4_
           have HO209 := n5_
           have HO212 := n6_
           have HO216 := n7_
           have HO221 := n8_
           have BK203 := n9_
           have BK204 := n10_
           have BK222 := n11_
           have BK223 := n12_
           have GW222 := n13_
           have GE222 := n14_
           have NB203_222 := n15_
           have NB222_203 := n16_
           have NB204_222 := n17_
           have NB222_204 := n18_
           have NB223_222 := n19_
           have NB222_223 := n20_
           have GW223 := n21_
           have GE223 := n22_
           have NB203_223 := n23_
           have NB223_203 := n24_
           have NB204_223 := n25_
           have NB223_204 := n26_
           have HB := n27_
           clear n0_ n1_ n2_ n3_ n4_ n5_ n6_ n7_ n8_ n9_ n10_ n11_ n12_ n13_ n14_ n15_ n16_ n17_ n18_ n19_ n20_ n21_ n22_ n23_ n24_ n25_ n26_ n27_
           have hHeld : w33.cell? ⟨gb203, 0, none⟩ = some (.slice Ao22 t191.length co22) ∧ w33.cell? ⟨gb203, 1, none⟩ = some (.bool t194) := hS_
           obtain ⟨Ao34, co34, eo34⟩ := Kd.V_slice HO212.out
           (first | subst eo34 | (injection eo34 with f1_ f2_ f3_; have f4_ := f1_.symm; have f5_ := f3_.symm; clear f1_ f2_ f3_; subst f4_; subst f5_))
           obtain ⟨Ao39, co39, eo39⟩ := Kd.V_slice HO221.out
           (first | subst eo39 | (injection eo39 with f1_ f2_ f3_; have f4_ := f1_.symm; have f5_ := f3_.symm; clear f1_ f2_ f3_; subst f4_; subst f5_))
           refine norm_ (a' := ?_) ?_ ?_
           rotate_left
           ·
            simp only [putAll, Act.put, sA, sB, sC]
            rfl
           refine one_ (i := 10) (N := none) #[true, true, true, true, true, true, true, true, true, true, true, false, false] rfl rfl (one_of HT_.out (by kernel_rfl)) (by decide) (fun K hK => ?_)
           have hs35 : w33.cell? ⟨gb222, 0, none⟩ = some (.slice none 0 0) := (blk_cell BK222.out 0).trans rfl
           have hfs35 := blk_frozen BK222.out 0
           have hns35_0 := NB203_222.out
           have hns35_1 := NB204_222.out
           have hns35_3 := NB223_222.out
           have hms35_0 := NB222_203.out
           have hms35_1 := NB222_204.out
           have hms35_3 := NB222_223.out
           have hs36 : w33.cell? ⟨gb222, 1, none⟩ = some (.bool false) := (blk_cell BK222.out 1).trans rfl
           have hfs36 := blk_frozen BK222.out 1
           have hns36_0 := NB203_222.out
           have hns36_1 := NB204_222.out
           have hns36_3 := NB223_222.out
           have hms36_0 := NB222_203.out
           have hms36_1 := NB222_204.out
           have hms36_3 := NB222_223.out
           refine skip_ (w1 := ?_) (by rfl) rfl ?_ ?_
           rotate_left
           ·
            go_simp
            rfl
           refine hK.out _ _ ⟨((cell_far (p := ⟨gb222, _, none⟩) NB203_222.out _).trans (((cell_far (p := ⟨gb222, _, none⟩) NB203_222.out _).trans (hHeld.1)))), ((cell_far (p := ⟨gb222, _, none⟩) NB203_222.out _).trans (((cell_far (p := ⟨gb222, _, none⟩) NB203_222.out _).trans (hHeld.2))))⟩ (fun hHeld => ?_)
           clear hK K
           refine pure_ (i := 11) (N := some 6) (v := ?_) (a' := ?_) #[true, true, true, true, true, true, true, true, true, true, true, true, false] rfl rfl (any_of HT_.out (by kernel_rfl)) (fun _ _ _ h => h) (Or.inl ⟨by rfl, ?_⟩) ?_ ?_
           rotate_left
           ·
            intro w'
            go_simp
            with_reducible rfl
           rotate_left
           ·
            simp only [Act.put, sA, sB, sC, i64_w, i32_w]
            rfl
           refine one_ (i := 12) (N := none) #[true, true, true, true, true, true, true, true, true, true, true, true, true] rfl rfl (one_of HT_.out (by kernel_rfl)) (by decide) (fun K hK => ?_)
           have hs37 : w33.cell? ⟨gb223, 0, none⟩ = some (.int .i64 0) := (blk_cell BK223.out 0).trans rfl
           have hfs37 := blk_frozen BK223.out 0
           have hns37_0 := NB203_223.out
           have hns37_1 := NB204_223.out
           have hns37_2 := NB222_223.out
           have hms37_0 := NB223_203.out
           have hms37_1 := NB223_204.out
           have hms37_2 := NB223_222.out
           have hs38 : w33.cell? ⟨gb223, 1, none⟩ = some (.int .i64 0) := (blk_cell BK223.out 1).trans rfl
           have hfs38 := blk_frozen BK223.out 1
           have hns38_0 := NB203_223.out
           have hns38_1 := NB204_223.out
           have hns38_2 := NB222_223.out
           have hms38_0 := NB223_203.out
           have hms38_1 := NB223_204.out
           have hms38_2 := NB223_222.out
           have hs40 : w33.cell? ⟨gb223, 2, none⟩ = some (.slice none 0 0) := (blk_cell BK223.out 2).trans rfl
           have hfs40 := blk_frozen BK223.out 2
           have hns40_0 := NB203_223.out
           have hns40_1 := NB204_223.out
           have hns40_2 := NB222_223.out
           have hms40_0 := NB223_203.out
           have hms40_1 := NB223_204.out
           have hms40_2 := NB223_222.out
           refine skip_ (w1 := ?_) (by rfl) rfl ?_ ?_
           rotate_left
           ·
            go_simp
            rfl
           refine hK.out _ _ ⟨((cell_far (p := ⟨gb223, _, none⟩) NB203_223.out _).trans (((cell_far (p := ⟨gb223, _, none⟩) NB203_223.out _).trans (((cell_far (p := ⟨gb223, _, none⟩) NB203_223.out _).trans (hHeld.1)))))), ((cell_far (p := ⟨gb223, _, none⟩) NB203_223.out _).trans (((cell_far (p := ⟨gb223, _, none⟩) NB203_223.out _).trans (((cell_far (p := ⟨gb223, _, none⟩) NB203_223.out _).trans (hHeld.2))))))⟩ (fun hHeld => ?_)
           clear hK K
           refine done_ (done_of HT_.out (by kernel_rfl)) ?_
           obtain ⟨Ao41, co41, eo41⟩ := Kd.N_slice HO197.out
           subst eo41
           have hnb42 := NB204_222.out
           have hnc42 := NB222_204.out
           have hnb43 := NB204_223.out
           have hnc43 := NB223_204.out
           have hcz44_0 : w33.cell? ⟨gb204, 0, none⟩ = some (.int .i64 t198) := (blk_cell BK204.out 0).trans rfl
           have hcz44_1 : w33.cell? ⟨gb204, 1, none⟩ = some (.int .i64 t199) := (blk_cell BK204.out 1).trans rfl
           have hcz44_2 : w33.cell? ⟨gb204, 2, none⟩ = some (.slice Ao26 t200.length co26) := (blk_cell BK204.out 2).trans rfl
           have hfz44_0 := blk_frozen BK204.out 0
           have hfz44_1 := blk_frozen BK204.out 1
           have hfz44_2 := blk_frozen BK204.out 2
           have hnb45 := NB203_222.out
           have hnc45 := NB222_203.out
           have hnb46 := NB203_223.out
           have hnc46 := NB223_203.out
           have hcz47_0 : w33.cell? ⟨gb203, 0, none⟩ = some (.slice Ao22 t191.length co22) := (blk_cell BK203.out 0).trans rfl
           have hcz47_1 : w33.cell? ⟨gb203, 1, none⟩ = some (.bool t194) := (blk_cell BK203.out 1).trans rfl
           have hfz47_0 := blk_frozen BK203.out 0
           have hfz47_1 := blk_frozen BK203.out 1
           try go_wp2_with (first | (go_at_call 10; (with_reducible refine (stream_Sane.calls k _ _ t191 t194 true _ ?side1 ?side2 A10.out).mono ?_); (case side1 => refine (Kd.V_reads' (e := 5) (base := w.heap.size) (ok := fun k_ => (some k_ ≠ (.slice Ao17 t183.length co17 : Value).ownBlock ∧ (some k_ ≠ (.slice Ao41 t195.length co41 : Value).ownBlock ∧ (some k_ ≠ (v215 : Value).ownBlock ∧ (k_ ≠ gb203 ∧ (k_ ≠ gb204 ∧ (k_ ≠ gb222 ∧ k_ ≠ gb223))))))) (n := t191.length) (c := co22) ?_).2.2; exact (by (with_reducible repeat (first | apply Kd.V_alloc | apply Kd.V_drewN | apply Kd.V_drew)); exact (Kd.V_mono (Kd.V_mono (Kd.V_far (p := ⟨gb223, 2, none⟩) (Kd.V_far (p := ⟨gb223, 1, none⟩) (Kd.V_far (p := ⟨gb223, 0, none⟩) (Kd.V_far (p := ⟨gb222, 1, none⟩) (Kd.V_far (p := ⟨gb222, 0, none⟩) (Kd.V_mono (Kd.V_mono HO193.out (fun k_ hk => (⟨hk, hk.2.2.2.2.2.1⟩ : _ ∧ k_ ≠ gb222))) (fun k_ hk => (⟨hk, hk.1.2.2.2.2.2.2⟩ : _ ∧ k_ ≠ gb223))) (fun _ hk => hk.1.2) (.slice Ao34 t210.length co34)) (fun _ hk => hk.1.2) (.bool t213)) (fun _ hk => hk.2) (.int .i64 t217)) (fun _ hk => hk.2) (.int .i64 t218)) (fun _ hk => hk.2) (.slice Ao39 t219.length co39)) (fun _ h_ => h_.1)) (fun _ h_ => h_.1)))); (case side2 => exact (Kd.V_reads' HO193.out).2.1); rintro e w48 ⟨rfl, hb⟩; have n0_ := Aside0.mk (Kd.R_below (by (with_reducible repeat (first | apply Kd.R_alloc | apply Kd.R_drewN | apply Kd.R_drew)); exact (Kd.R_mono (Kd.R_mono (Kd.R_far (p := ⟨gb223, 2, none⟩) (Kd.R_far (p := ⟨gb223, 1, none⟩) (Kd.R_far (p := ⟨gb223, 0, none⟩) (Kd.R_far (p := ⟨gb222, 1, none⟩) (Kd.R_far (p := ⟨gb222, 0, none⟩) (Kd.R_types (Kd.R_types HO185.out BK222.out (by decide)) BK223.out (by decide)) (fun _ hk => hk.1.2) (.slice Ao34 t210.length co34)) (fun _ hk => hk.1.2) (.bool t213)) (fun _ hk => hk.2) (.int .i64 t217)) (fun _ hk => hk.2) (.int .i64 t218)) (fun _ hk => hk.2) (.slice Ao39 t219.length co39)) (fun _ h_ => h_.1)) (fun _ h_ => h_.1))) hb); have n1_ := Aside0.mk (Kd.V_below (by (with_reducible repeat (first | apply Kd.V_alloc | apply Kd.V_drewN | apply Kd.V_drew)); exact (Kd.V_mono (Kd.V_mono (Kd.V_far (p := ⟨gb223, 2, none⟩) (Kd.V_far (p := ⟨gb223, 1, none⟩) (Kd.V_far (p := ⟨gb223, 0, none⟩) (Kd.V_far (p := ⟨gb222, 1, none⟩) (Kd.V_far (p := ⟨gb222, 0, none⟩) (Kd.V_mono (Kd.V_mono HO190.out (fun k_ hk => (⟨hk, hk.2.2.2.2.1⟩ : _ ∧ k_ ≠ gb222))) (fun k_ hk => (⟨hk, hk.1.2.2.2.2.2⟩ : _ ∧ k_ ≠ gb223))) (fun _ hk => hk.1.2) (.slice Ao34 t210.length co34)) (fun _ hk => hk.1.2) (.bool t213)) (fun _ hk => hk.2) (.int .i64 t217)) (fun _ hk => hk.2) (.int .i64 t218)) (fun _ hk => hk.2) (.slice Ao39 t219.length co39)) (fun _ h_ => h_.1)) (fun _ h_ => h_.1))) hb); have n2_ := Aside0.mk (Kd.V_below (by (with_reducible repeat (first | apply Kd.V_alloc | apply Kd.V_drewN | apply Kd.V_drew)); exact (Kd.V_mono (Kd.V_mono (Kd.V_far (p := ⟨gb223, 2, none⟩) (Kd.V_far (p := ⟨gb223, 1, none⟩) (Kd.V_far (p := ⟨gb223, 0, none⟩) (Kd.V_far (p := ⟨gb222, 1, none⟩) (Kd.V_far (p := ⟨gb222, 0, none⟩) (Kd.V_mono (Kd.V_mono HO193.out (fun k_ hk => (⟨hk, hk.2.2.2.2.2.1⟩ : _ ∧ k_ ≠ gb222))) (fun k_ hk => (⟨hk, hk.1.2.2.2.2.2.2⟩ : _ ∧ k_ ≠ gb223))) (fun _ hk => hk.1.2) (.slice Ao34 t210.length co34)) (fun _ hk => hk.1.2) (.bool t213)) (fun _ hk => hk.2) (.int .i64 t217)) (fun _ hk => hk.2) (.int .i64 t218)) (fun _ hk => hk.2) (.slice Ao39 t219.length co39)) (fun _ h_ => h_.1)) (fun _ h_ => h_.1))) hb); have n3_ := Aside0.mk (Kd.N_below (by (with_reducible repeat (first | apply Kd.N_alloc | apply Kd.N_drewN | apply Kd.N_drew)); exact (Kd.N_mono (Kd.N_mono (Kd.N_far (p := ⟨gb223, 2, none⟩) (Kd.N_far (p := ⟨gb223, 1, none⟩) (Kd.N_far (p := ⟨gb223, 0, none⟩) (Kd.N_far (p := ⟨gb222, 1, none⟩) (Kd.N_far (p := ⟨gb222, 0, none⟩) (Kd.N_mono (Kd.N_mono HO197.out (fun k_ hk => (⟨hk, hk.2.2.2.2.1⟩ : _ ∧ k_ ≠ gb222))) (fun k_ hk => (⟨hk, hk.1.2.2.2.2.2⟩ : _ ∧ k_ ≠ gb223))) (fun _ hk => hk.1.2) (.slice Ao34 t210.length co34)) (fun _ hk => hk.1.2) (.bool t213)) (fun _ hk => hk.2) (.int .i64 t217)) (fun _ hk => hk.2) (.int .i64 t218)) (fun _ hk => hk.2) (.slice Ao39 t219.length co39)) (fun _ h_ => h_.1)) (fun _ h_ => h_.1))) hb); have n4_ := Aside0.mk (Kd.V_below (by (with_reducible repeat (first | apply Kd.V_alloc | apply Kd.V_drewN | apply Kd.V_drew)); exact (Kd.V_mono (Kd.V_mono (Kd.V_far (p := ⟨gb223, 2, none⟩) (Kd.V_far (p := ⟨gb223, 1, none⟩) (Kd.V_far (p := ⟨gb223, 0, none⟩) (Kd.V_far (p := ⟨gb222, 1, none⟩) (Kd.V_far (p := ⟨gb222, 0, none⟩) (Kd.V_mono (Kd.V_mono HO202.out (fun k_ hk => (⟨hk, hk.2.2.2.2.2.1⟩ : _ ∧ k_ ≠ gb222))) (fun k_ hk => (⟨hk, hk.1.2.2.2.2.2.2⟩ : _ ∧ k_ ≠ gb223))) (fun _ hk => hk.1.2) (.slice Ao34 t210.length co34)) (fun _ hk => hk.1.2) (.bool t213)) (fun _ hk => hk.2) (.int .i64 t217)) (fun _ hk => hk.2) (.int .i64 t218)) (fun _ hk => hk.2) (.slice Ao39 t219.length co39)) (fun _ h_ => h_.1)) (fun _ h_ => h_.1))) hb); have n5_ := Aside0.mk (Kd.V_below (by (with_reducible repeat (first | apply Kd.V_alloc | apply Kd.V_drewN | apply Kd.V_drew)); exact (Kd.V_mono (Kd.V_mono (Kd.V_far (p := ⟨gb223, 2, none⟩) (Kd.V_far (p := ⟨gb223, 1, none⟩) (Kd.V_far (p := ⟨gb223, 0, none⟩) (Kd.V_far (p := ⟨gb222, 1, none⟩) (Kd.V_far (p := ⟨gb222, 0, none⟩) (Kd.V_mono (Kd.V_mono HO209.out (fun k_ hk => (⟨hk, hk.2.2.2.2.1⟩ : _ ∧ k_ ≠ gb222))) (fun k_ hk => (⟨hk, hk.1.2.2.2.2.2⟩ : _ ∧ k_ ≠ gb223))) (fun _ hk => hk.1.2) (.slice Ao34 t210.length co34)) (fun _ hk => hk.1.2) (.bool t213)) (fun _ hk => hk.2) (.int .i64 t217)) (fun _ hk => hk.2) (.int .i64 t218)) (fun _ hk => hk.2) (.slice Ao39 t219.length co39)) (fun _ h_ => h_.1)) (fun _ h_ => h_.1))) hb); have n6_ := Aside0.mk (Kd.V_below (by (with_reducible repeat (first | apply Kd.V_alloc | apply Kd.V_drewN | apply Kd.V_drew)); exact (Kd.V_mono (Kd.V_mono (Kd.V_far (p := ⟨gb223, 2, none⟩) (Kd.V_far (p := ⟨gb223, 1, none⟩) (Kd.V_far (p := ⟨gb223, 0, none⟩) (Kd.V_far (p := ⟨gb222, 1, none⟩) (Kd.V_far (p := ⟨gb222, 0, none⟩) (Kd.V_mono (Kd.V_mono HO212.out (fun k_ hk => (⟨hk, hk.2.2.2.2.2.1⟩ : _ ∧ k_ ≠ gb222))) (fun k_ hk => (⟨hk, hk.1.2.2.2.2.2.2⟩ : _ ∧ k_ ≠ gb223))) (fun _ hk => hk.1.2) (.slice Ao34 t210.length co34)) (fun _ hk => hk.1.2) (.bool t213)) (fun _ hk => hk.2) (.int .i64 t217)) (fun _ hk => hk.2) (.int .i64 t218)) (fun _ hk => hk.2) (.slice Ao39 t219.length co39)) (fun _ h_ => h_.1)) (fun _ h_ => h_.1))) hb); have n7_ := Aside0.mk (Kd.N_below (by (with_reducible repeat (first | apply Kd.N_alloc | apply Kd.N_drewN | apply Kd.N_drew)); exact (Kd.N_mono (Kd.N_mono (Kd.N_far (p := ⟨gb223, 2, none⟩) (Kd.N_far (p := ⟨gb223, 1, none⟩) (Kd.N_far (p := ⟨gb223, 0, none⟩) (Kd.N_far (p := ⟨gb222, 1, none⟩) (Kd.N_far (p := ⟨gb222, 0, none⟩) (Kd.N_mono (Kd.N_mono HO216.out (fun k_ hk => (⟨hk, hk.2.2.2.2.1⟩ : _ ∧ k_ ≠ gb222))) (fun k_ hk => (⟨hk, hk.1.2.2.2.2.2⟩ : _ ∧ k_ ≠ gb223))) (fun _ hk => hk.1.2) (.slice Ao34 t210.length co34)) (fun _ hk => hk.1.2) (.bool t213)) (fun _ hk => hk.2) (.int .i64 t217)) (fun _ hk => hk.2) (.int .i64 t218)) (fun _ hk => hk.2) (.slice Ao39 t219.length co39)) (fun _ h_ => h_.1)) (fun _ h_ => h_.1))) hb); have n8_ := Aside0.mk (Kd.V_below (by (with_reducible repeat (first | apply Kd.V_alloc | apply Kd.V_drewN | apply Kd.V_drew)); exact (Kd.V_mono (Kd.V_mono (Kd.V_far (p := ⟨gb223, 2, none⟩) (Kd.V_far (p := ⟨gb223, 1, none⟩) (Kd.V_far (p := ⟨gb223, 0, none⟩) (Kd.V_far (p := ⟨gb222, 1, none⟩) (Kd.V_far (p := ⟨gb222, 0, none⟩) (Kd.V_mono (Kd.V_mono HO221.out (fun k_ hk => (⟨hk, hk.2.2.2.2.2.1⟩ : _ ∧ k_ ≠ gb222))) (fun k_ hk => (⟨hk, hk.1.2.2.2.2.2.2⟩ : _ ∧ k_ ≠ gb223))) (fun _ hk => hk.1.2) (.slice Ao34 t210.length co34)) (fun _ hk => hk.1.2) (.bool t213)) (fun _ hk => hk.2) (.int .i64 t217)) (fun _ hk => hk.2) (.int .i64 t218)) (fun _ hk => hk.2) (.slice Ao39 t219.length co39)) (fun _ h_ => h_.1)) (fun _ h_ => h_.1))) hb); have n9_ := Aside0.mk (blk_below (g := gb203) (o := .cells #[.slice Ao22 t191.length co22, .bool t194] 26 (0, 0)) (by (with_reducible repeat (first | refine kN ?_ _ | refine kD ?_ | refine kA ?_ _)); refine blk_far ?_ NB203_223.out _; (with_reducible repeat (first | refine kN ?_ _ | refine kD ?_ | refine kA ?_ _)); refine blk_far ?_ NB203_223.out _; (with_reducible repeat (first | refine kN ?_ _ | refine kD ?_ | refine kA ?_ _)); refine blk_far ?_ NB203_223.out _; (with_reducible repeat (first | refine kN ?_ _ | refine kD ?_ | refine kA ?_ _)); refine blk_far ?_ NB203_222.out _; (with_reducible repeat (first | refine kN ?_ _ | refine kD ?_ | refine kA ?_ _)); refine blk_far ?_ NB203_222.out _; (with_reducible repeat (first | refine kN ?_ _ | refine kD ?_ | refine kA ?_ _)); exact BK203.out) hb); have n10_ := Aside0.mk (blk_below (g := gb204) (o := .cells #[.int .i64 t198, .int .i64 t199, .slice Ao26 t200.length co26] 29 (0, 0)) (by (with_reducible repeat (first | refine kN ?_ _ | refine kD ?_ | refine kA ?_ _)); refine blk_far ?_ NB204_223.out _; (with_reducible repeat (first | refine kN ?_ _ | refine kD ?_ | refine kA ?_ _)); refine blk_far ?_ NB204_223.out _; (with_reducible repeat (first | refine kN ?_ _ | refine kD ?_ | refine kA ?_ _)); refine blk_far ?_ NB204_223.out _; (with_reducible repeat (first | refine kN ?_ _ | refine kD ?_ | refine kA ?_ _)); refine blk_far ?_ NB204_222.out _; (with_reducible repeat (first | refine kN ?_ _ | refine kD ?_ | refine kA ?_ _)); refine blk_far ?_ NB204_222.out _; (with_reducible repeat (first | refine kN ?_ _ | refine kD ?_ | refine kA ?_ _)); exact BK204.out) hb); have n11_ := Aside0.mk (blk_below (g := gb222) (o := .cells #[.slice Ao34 t210.length co34, .bool t213] 26 (0, 0)) (by (with_reducible repeat (first | refine kN ?_ _ | refine kD ?_ | refine kA ?_ _)); refine blk_far ?_ NB222_223.out _; (with_reducible repeat (first | refine kN ?_ _ | refine kD ?_ | refine kA ?_ _)); refine blk_far ?_ NB222_223.out _; (with_reducible repeat (first | refine kN ?_ _ | refine kD ?_ | refine kA ?_ _)); refine blk_far ?_ NB222_223.out _; (with_reducible repeat (first | refine kN ?_ _ | refine kD ?_ | refine kA ?_ _)); refine blk_put (cs := #[.slice Ao34 t210.length co34, .bool false]) ?_ 1 _ rfl; (with_reducible repeat (first | refine kN ?_ _ | refine kD ?_ | refine kA ?_ _)); refine blk_put (cs := #[.slice none 0 0, .bool false]) ?_ 0 _ rfl; (with_reducible repeat (first | refine kN ?_ _ | refine kD ?_ | refine kA ?_ _)); exact BK222.out) hb); have n12_ := Aside0.mk (blk_below (g := gb223) (o := .cells #[.int .i64 t217, .int .i64 t218, .slice Ao39 t219.length co39] 29 (0, 0)) (by (with_reducible repeat (first | refine kN ?_ _ | refine kD ?_ | refine kA ?_ _)); refine blk_put (cs := #[.int .i64 t217, .int .i64 t218, .slice none 0 0]) ?_ 2 _ rfl; (with_reducible repeat (first | refine kN ?_ _ | refine kD ?_ | refine kA ?_ _)); refine blk_put (cs := #[.int .i64 t217, .int .i64 0, .slice none 0 0]) ?_ 1 _ rfl; (with_reducible repeat (first | refine kN ?_ _ | refine kD ?_ | refine kA ?_ _)); refine blk_put (cs := #[.int .i64 0, .int .i64 0, .slice none 0 0]) ?_ 0 _ rfl; (with_reducible repeat (first | refine kN ?_ _ | refine kD ?_ | refine kA ?_ _)); refine blk_far ?_ NB223_222.out _; (with_reducible repeat (first | refine kN ?_ _ | refine kD ?_ | refine kA ?_ _)); refine blk_far ?_ NB223_222.out _; (with_reducible repeat (first | refine kN ?_ _ | refine kD ?_ | refine kA ?_ _)); exact BK223.out) hb); have n13_ := Aside0.mk (below_step (by repeat (first | (with_reducible first | exact HB.out | apply bA | apply bN | apply bD | refine bS ?_ GE203.out | refine bS ?_ GE204.out | refine bS ?_ GE222.out | refine bS ?_ GE223.out) | exact HB.out)) hb); clear HO185; clear HO190; clear HO193; clear HO197; clear HO202; clear HO209; clear HO212; clear HO216; clear HO221; clear BK203; clear BK204; clear BK222; clear BK223; clear HB; have HO185 := n0_; have HO190 := n1_; have HO193 := n2_; have HO197 := n3_; have HO202 := n4_; have HO209 := n5_; have HO212 := n6_; have HO216 := n7_; have HO221 := n8_; have BK203 := n9_; have BK204 := n10_; have BK222 := n11_; have BK223 := n12_; have HB := n13_; clear n0_ n1_ n2_ n3_ n4_ n5_ n6_ n7_ n8_ n9_ n10_ n11_ n12_ n13_; (try clear hb); (try clear hb2); (try clear hk); (try clear hi); obtain ⟨Ao49, co49, eo49⟩ := Kd.N_slice HO216.out; subst eo49; have p225 : 0 ≤ (0 : Int) := (by omega); have q225 : 0 < (t214.length : Int) := of_decide_eq_true (by first | (with_reducible assumption) | assumption); obtain ⟨ad225, A225_1, c225_1, e225, hx225_0, hx225_1, hl225_1, hi225_1⟩ := at_T43 (Kd.N_reads' HO216.out).2.2 0 p225 q225; cases e225; obtain ⟨ce225, hce225, hMe225, hcc225⟩ := Kd.N_get HO216.out z43 0 p225 (by first | exact q225 | exact of_decide_eq_true (by first | (with_reducible assumption) | assumption) | (have e_ := (Kd.N_reads' HO216.out).1; omega)); obtain ⟨ua225_1, uc225_1, rfl, ul225_1, ge225_1⟩ := k43_openF hMe225; have hv225_1 := hcc225 1 _ rfl; rw [add_field _ _ 1 (by omega)] at hv225_1; replace hv225_1 := Option.some.inj (hv225_1.symm.trans hx225_1); injection hv225_1 with hva_ hvn_ hvc_; rw [hva_] at ge225_1; rw [hvc_] at ul225_1; have HL225_1 := Aside0.mk (show Kd.V (Kd.int .u8) 5 _ w.heap.size _ _ ((rd_T43 t214 0).f1) from Kd.V_mk ul225_1 ge225_1); clear hva_ hvn_ hvc_ ge225_1 ul225_1; clear hcc225 hce225; have qi225 : (0 < t214.length) = True := eq_true (by omega); (try rw [show ((0 : Int)).toNat = 0 from rfl] at hx225_0); (try rw [show 0 * 2 = 0 from rfl] at hx225_0); (try rw [Addr.add_zero'] at hx225_0); (try rw [show ((0 : Int)).toNat = 0 from rfl] at hx225_1); (try rw [show 0 * 2 = 0 from rfl] at hx225_1); (try rw [Addr.add_zero'] at hx225_1); have HR225_1 := Aside0.mk hi225_1; have HC225_1 := Aside0.mk hl225_1; clear hi225_1 hl225_1; replace p225 := eq_true p225; replace q225 := eq_true q225; have hnb50 := NB223_222.out; have hnc50 := NB222_223.out; have hcz51_0 : w48.cell? ⟨gb223, 0, none⟩ = some (.int .i64 t217) := (blk_cell BK223.out 0).trans rfl; have hcz51_1 : w48.cell? ⟨gb223, 1, none⟩ = some (.int .i64 t218) := (blk_cell BK223.out 1).trans rfl; have hcz51_2 : w48.cell? ⟨gb223, 2, none⟩ = some (.slice Ao39 t219.length co39) := (blk_cell BK223.out 2).trans rfl; have hfz51_0 := blk_frozen BK223.out 0; have hfz51_1 := blk_frozen BK223.out 1; have hfz51_2 := blk_frozen BK223.out 2; have hcz52_0 : w48.cell? ⟨gb222, 0, none⟩ = some (.slice Ao34 t210.length co34) := (blk_cell BK222.out 0).trans rfl; have hcz52_1 : w48.cell? ⟨gb222, 1, none⟩ = some (.bool t213) := (blk_cell BK222.out 1).trans rfl; have hfz52_0 := blk_frozen BK222.out 0; have hfz52_1 := blk_frozen BK222.out 1))
           all_goals first | (go_ret; refine ⟨?_, ?_⟩; (focus (first | rfl | (simp [errW_none, errW_some] <;> rfl) | (rw [HRL_.out] <;> rfl) | (simp only [HRL_.out] <;> rfl) | (have h_ := HRL_.out; simp at h_; simp [h_]; done) | (have h_ := HRL_.out; simp [*] at h_ ⊢; done) | (simp [*, errW_none, errW_some] <;> rfl))); (focus (repeat (first | (with_reducible first | exact HB.out | apply bA | apply bN | apply bD | refine bS ?_ GE203.out | refine bS ?_ GE204.out | refine bS ?_ GE222.out | refine bS ?_ GE223.out) | exact HB.out)))) | (exfalso; simp_all; done)
          ·
           rw [if_neg c15] at H
           have c15b0 : (t217 == 0) = false := beq_eq_false_iff_ne.mpr c15
           have c15b1 : (t217 != 0) = true := bne_iff_ne.mpr c15
           exact absurd H (by simp)
         ·
          rw [if_neg c14] at H
          have c14b0 : (((rd_T43 t214 0).f0) == 4) = false := beq_eq_false_iff_ne.mpr c14
          have c14b1 : (((rd_T43 t214 0).f0) != 4) = true := bne_iff_ne.mpr c14
          exact absurd H (by simp)
        ·
         rw [if_neg c13] at H
         exact absurd H (by simp)
       ·
        rw [if_neg c12] at H
        have c12b0 : ((t214.length : Int) == 1) = false := beq_eq_false_iff_ne.mpr c12
        have c12b1 : ((t214.length : Int) != 1) = true := bne_iff_ne.mpr c12
        exact absurd H (by simp)
      ·
       replace c11 := Bool.eq_false_iff.mpr c11
       subst c11
       have H1 : (some false) = some true := by rw [if_neg (show ¬ (false = true) by decide)] at H; first | done | exact H
       clear H
       have H := H1
       clear H1
       exact absurd H (by simp)
     ·
      rw [if_neg c9] at H
      have c9b0 : ((t191.length : Int) == 9) = false := beq_eq_false_iff_ne.mpr c9
      have c9b1 : ((t191.length : Int) != 9) = true := bne_iff_ne.mpr c9
      exact absurd H (by simp)
    ·
     rw [if_neg c8] at H
     have c8b0 : (t198 == 0) = false := beq_eq_false_iff_ne.mpr c8
     have c8b1 : (t198 != 0) = true := bne_iff_ne.mpr c8
     exact absurd H (by simp)
   ·
    rw [if_neg c7] at H
    have c7b0 : ((t195.length : Int) == 0) = false := beq_eq_false_iff_ne.mpr c7
    have c7b1 : ((t195.length : Int) != 0) = true := bne_iff_ne.mpr c7
    have c7b2 : ¬ (t195 = []) := fun h_ => c7 (by rw [h_]; rfl)
    exact absurd H (by simp)
  ·
   rw [if_neg c3] at H
   exact absurd H (by simp)
 ·
  rw [if_neg c2] at H
  have c2b0 : ((t183.length : Int) == 19) = false := beq_eq_false_iff_ne.mpr c2
  have c2b1 : ((t183.length : Int) != 19) = true := bne_iff_ne.mpr c2
  exact absurd H (by simp)

/-- What ridgewaylaw04_awake reckons comes to true. -/
theorem ridgewaylaw04_awake.gt : ridgewaylaw04_awake.g 200 = some true := by first | rfl | kernel_rfl | decide
def ridgewaylaw04_awake.f : Option Bool := some true
theorem ridgewaylaw04_awake.calls (r : Bool) (w : World) (h : ridgewaylaw04_awake.f = some r) :
  Calls Try.prog 7 #[] w fun e w' => e = .returned (.bool r) ∧ Below w.heap.size w w' := by
 obtain rfl := Option.some.inj h
 exact ridgewaylaw04_awake.callsT 200 w ridgewaylaw04_awake.gt

end Go.Proofs.Ythkbpiagggeicaa.Q
