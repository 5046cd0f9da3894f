/- Each call of a Go function comes to what the Lean function of its name answers (written out by wip/tools/xprint.py, checked by Lean); conditions: those in each statement. -/
import Derived.Test.YthaiiglklgchlaaQx0
import Derived.Test.YthaiiglklgchlaaQx1
namespace Go.Proofs.Ythaiiglklgchlaa.Q
open Go.RowKit Go.Proofs.YthaiiglklgchlaaW.PrintWords Go.Proofs.YthaiiglklgchlaaW.PrintLast Go.Proofs.YthaiiglklgchlaaW.PrintMore Go.Proofs.YthaiiglklgchlaaW.PrintX
attribute [local go_sem] max2_int min2_int max_two min_two max_three min_three max_four min_four   -- for this text's walks alone
set_option linter.unusedVariables false
set_option linter.unusedSimpArgs false

/-! ### ridgewaylaw01_OctetSplit: function 6 -/
def ridgewaylaw01_OctetSplit.f (k : Nat) (a0 : Int) : Option (Bool) := (ridgewaylaw01_awake.f k).bind fun t246 => ((octet_Put.f k ([] : List Int) a0 4).bind fun t247 => ((octet_Put.f k ([] : List Int) (a0 / 65536) 2).bind fun t250 => ((octet_Put.f k t250 a0 2).bind fun t253 => ((octet_Put.f k ([] : List Int) (a0 / 65536) 1).bind fun t256 => ((octet_Put.f k t256 (a0 / 256) 1).bind fun t259 => ((octet_Put.f k t259 a0 1).bind fun t262 => (if t246 = true then (if (strOfNums t247).toList = (strOfNums t253).toList then ((octet_Put.f k ([] : List Int) a0 3).bind fun t265 => (if (strOfNums t265).toList = (strOfNums t262).toList then (some ((t247.length : Int) == 4)) else (some false))) else (some false)) else (some false))))))))
theorem ridgewaylaw01_OctetSplit.mono : ∀ a0 k, LeO (ridgewaylaw01_OctetSplit.f k a0) (ridgewaylaw01_OctetSplit.f (k + 1) a0) := by
  intro a0 k
  unfold ridgewaylaw01_OctetSplit.f
  repeat' first
      | (with_reducible exact octet_Put.mono _ _ _ _)
      | (with_reducible exact ridgewaylaw01_awake.mono _)
      | (with_reducible exact LeO.refl _)
      | (with_reducible exact LeO.none _)
      | (with_reducible refine LeO.ite ?_ ?_)
      | (with_reducible refine LeO.bind ?_ (fun _ => ?_))
      | exact octet_Put.mono _ _ _ _
      | exact ridgewaylaw01_awake.mono _
      | exact LeO.none _
      | refine LeO.ite ?_ ?_
      | refine LeO.bind ?_ (fun _ => ?_)
def ridgewaylaw01_OctetSplit.T5 : Bool × List (List Nat × List Nat) := (true, [([], []), ([0], [0]), ([1], [1]), ([2, 1], [1, 2]), ([1], [1]), ([4, 1], [1, 4]), ([3, 5, 1], [1, 3, 5]), ([1, 6], [1, 6]), ([7, 1], [7]), ([8], [8]), ([9, 8, 8], [8, 9]), ([10, 8], [8, 10]), ([8], [8]), ([12, 8], [8, 12]), ([11, 13, 8], [8, 11, 13]), ([8, 14], [8, 14]), ([15, 10], [15]), ([16], [16]), ([17, 16], [16, 17]), ([18, 16], [16, 18]), ([16, 19], [16, 19]), ([20, 16, 0, 1, 2, 3, 4, 5, 6, 7, 8, 9, 10, 11, 12, 13, 14, 15, 16, 17, 18, 19, 20], [20])])
def ridgewaylaw01_OctetSplit.B5 : List Nat := [0, 1, 3, 7, 3, 19, 63, 127, 255, 511, 1023, 2047, 511, 4607, 16383, 32767, 65535, 131071, 262143, 524287, 1048575, 2097151]
theorem ridgewaylaw01_OctetSplit.tab5 : rtab .any (opsOf Try.f6 5) = ridgewaylaw01_OctetSplit.T5 := by kernel_rfl
theorem ridgewaylaw01_OctetSplit.bits5 : waitsOk ridgewaylaw01_OctetSplit.T5.2 ridgewaylaw01_OctetSplit.B5 = true := by kernel_rfl
set_option maxHeartbeats 8000000 in
set_option maxRecDepth 100000 in
theorem ridgewaylaw01_OctetSplit.calls (k : Nat) (a0 : Int) (w : World) (h : ridgewaylaw01_OctetSplit.f k a0 = some true) :
    Calls Try.prog 6 #[.int .i64 a0] w fun e w' => e = .returned (.bool true) ∧ Below w.heap.size w w' := by
  have HB := Aside0.mk (Below.refl w.heap.size w)
  have H : ((ridgewaylaw01_awake.f k).bind fun t246 => ((octet_Put.f k ([] : List Int) a0 4).bind fun t247 => ((octet_Put.f k ([] : List Int) (a0 / 65536) 2).bind fun t250 => ((octet_Put.f k t250 a0 2).bind fun t253 => ((octet_Put.f k ([] : List Int) (a0 / 65536) 1).bind fun t256 => ((octet_Put.f k t256 (a0 / 256) 1).bind fun t259 => ((octet_Put.f k t259 a0 1).bind fun t262 => (if t246 = true then (if (strOfNums t247).toList = (strOfNums t253).toList then ((octet_Put.f k ([] : List Int) a0 3).bind fun t265 => (if (strOfNums t265).toList = (strOfNums t262).toList then (some ((t247.length : Int) == 4)) else (some false))) else (some false)) else (some false))))))))) = some true := h
  clear h
  replace H := Option.bind_eq_some_iff.mp H
  obtain ⟨t246, A20, H⟩ := H
  replace H : ((octet_Put.f k ([] : List Int) a0 4).bind fun t247 => ((octet_Put.f k ([] : List Int) (a0 / 65536) 2).bind fun t250 => ((octet_Put.f k t250 a0 2).bind fun t253 => ((octet_Put.f k ([] : List Int) (a0 / 65536) 1).bind fun t256 => ((octet_Put.f k t256 (a0 / 256) 1).bind fun t259 => ((octet_Put.f k t259 a0 1).bind fun t262 => (if t246 = true then (if (strOfNums t247).toList = (strOfNums t253).toList then ((octet_Put.f k ([] : List Int) a0 3).bind fun t265 => (if (strOfNums t265).toList = (strOfNums t262).toList then (some ((t247.length : Int) == 4)) else (some false))) else (some false)) else (some false)))))))) = some true := H
  have A2 := Aside0.mk A20
  clear A20
  replace H := Option.bind_eq_some_iff.mp H
  obtain ⟨t247, A30, H⟩ := H
  replace H : ((octet_Put.f k ([] : List Int) (a0 / 65536) 2).bind fun t250 => ((octet_Put.f k t250 a0 2).bind fun t253 => ((octet_Put.f k ([] : List Int) (a0 / 65536) 1).bind fun t256 => ((octet_Put.f k t256 (a0 / 256) 1).bind fun t259 => ((octet_Put.f k t259 a0 1).bind fun t262 => (if t246 = true then (if (strOfNums t247).toList = (strOfNums t253).toList then ((octet_Put.f k ([] : List Int) a0 3).bind fun t265 => (if (strOfNums t265).toList = (strOfNums t262).toList then (some ((t247.length : Int) == 4)) else (some false))) else (some false)) else (some false))))))) = some true := H
  have A3 := Aside0.mk A30
  clear A30
  replace H := Option.bind_eq_some_iff.mp H
  obtain ⟨t250, A40, H⟩ := H
  replace H : ((octet_Put.f k t250 a0 2).bind fun t253 => ((octet_Put.f k ([] : List Int) (a0 / 65536) 1).bind fun t256 => ((octet_Put.f k t256 (a0 / 256) 1).bind fun t259 => ((octet_Put.f k t259 a0 1).bind fun t262 => (if t246 = true then (if (strOfNums t247).toList = (strOfNums t253).toList then ((octet_Put.f k ([] : List Int) a0 3).bind fun t265 => (if (strOfNums t265).toList = (strOfNums t262).toList then (some ((t247.length : Int) == 4)) else (some false))) else (some false)) else (some false)))))) = some true := H
  have A4 := Aside0.mk A40
  clear A40
  replace H := Option.bind_eq_some_iff.mp H
  obtain ⟨t253, A50, H⟩ := H
  replace H : ((octet_Put.f k ([] : List Int) (a0 / 65536) 1).bind fun t256 => ((octet_Put.f k t256 (a0 / 256) 1).bind fun t259 => ((octet_Put.f k t259 a0 1).bind fun t262 => (if t246 = true then (if (strOfNums t247).toList = (strOfNums t253).toList then ((octet_Put.f k ([] : List Int) a0 3).bind fun t265 => (if (strOfNums t265).toList = (strOfNums t262).toList then (some ((t247.length : Int) == 4)) else (some false))) else (some false)) else (some false))))) = some true := H
  have A5 := Aside0.mk A50
  clear A50
  replace H := Option.bind_eq_some_iff.mp H
  obtain ⟨t256, A60, H⟩ := H
  replace H : ((octet_Put.f k t256 (a0 / 256) 1).bind fun t259 => ((octet_Put.f k t259 a0 1).bind fun t262 => (if t246 = true then (if (strOfNums t247).toList = (strOfNums t253).toList then ((octet_Put.f k ([] : List Int) a0 3).bind fun t265 => (if (strOfNums t265).toList = (strOfNums t262).toList then (some ((t247.length : Int) == 4)) else (some false))) else (some false)) else (some false)))) = some true := H
  have A6 := Aside0.mk A60
  clear A60
  replace H := Option.bind_eq_some_iff.mp H
  obtain ⟨t259, A70, H⟩ := H
  replace H : ((octet_Put.f k t259 a0 1).bind fun t262 => (if t246 = true then (if (strOfNums t247).toList = (strOfNums t253).toList then ((octet_Put.f k ([] : List Int) a0 3).bind fun t265 => (if (strOfNums t265).toList = (strOfNums t262).toList then (some ((t247.length : Int) == 4)) else (some false))) else (some false)) else (some false))) = some true := H
  have A7 := Aside0.mk A70
  clear A70
  replace H := Option.bind_eq_some_iff.mp H
  obtain ⟨t262, A80, H⟩ := H
  replace H : (if t246 = true then (if (strOfNums t247).toList = (strOfNums t253).toList then ((octet_Put.f k ([] : List Int) a0 3).bind fun t265 => (if (strOfNums t265).toList = (strOfNums t262).toList then (some ((t247.length : Int) == 4)) else (some false))) else (some false)) else (some false)) = some true := H
  have A8 := Aside0.mk A80
  clear A80
  by_cases c9 : t246 = true
  · subst c9
    have H1 : (if (strOfNums t247).toList = (strOfNums t253).toList then ((octet_Put.f k ([] : List Int) a0 3).bind fun t265 => (if (strOfNums t265).toList = (strOfNums t262).toList then (some ((t247.length : Int) == 4)) else (some false))) else (some false)) = some true := by rw [if_pos rfl] at H; exact H
    clear H
    have H := H1
    clear H1
    by_cases c10 : (strOfNums t247).toList = (strOfNums t253).toList
    · rw [if_pos c10] at H
      have c10b0 : ((strOfNums t247).toList == (strOfNums t253).toList) = true := beq_iff_eq.mpr c10
      have c10b1 : ((strOfNums t247).toList != (strOfNums t253).toList) = false := bne_eq_false_iff_eq.mpr c10
      clear c10
      replace H := Option.bind_eq_some_iff.mp H
      obtain ⟨t265, A110, H⟩ := H
      replace H : (if (strOfNums t265).toList = (strOfNums t262).toList then (some ((t247.length : Int) == 4)) else (some false)) = some true := H
      have A11 := Aside0.mk A110
      clear A110
      by_cases c12 : (strOfNums t265).toList = (strOfNums t262).toList
      · rw [if_pos c12] at H
        have c12b0 : ((strOfNums t265).toList == (strOfNums t262).toList) = true := beq_iff_eq.mpr c12
        have c12b1 : ((strOfNums t265).toList != (strOfNums t262).toList) = false := bne_eq_false_iff_eq.mpr c12
        clear c12
        have HRL_ := Aside0.mk (Option.some.inj H)
        clear H
        go_enter Try.func6, Try.ntmps6
        try go_wp2_with (first | ((with_reducible refine gate_callee (f := 7) rfl ?_); refine goesL_ (some 7) rfl rfl Try.func7 (by kernel_rfl) rfl #[] rfl (by (try simp only [List.map_toArray, List.map_cons, List.map_nil]); first | done | rfl | (simp only [List.length_drop, List.length_take]; rfl)) ?_; (with_reducible refine (ridgewaylaw01_awake.calls k  true _ A2.out).mono ?_); rintro e w13 ⟨rfl, hb⟩; refine ⟨_, rfl, ?_⟩; have n0_ := Aside0.mk (below_step (by repeat (first | (with_reducible first | exact HB.out | apply below_alloc | apply pw_below_drewN | apply below_drew1) | exact HB.out)) hb); clear HB; have HB := n0_; clear n0_; (try clear hb); (try clear hb2); (try clear hk); (try clear hi)) | ((with_reducible refine gate_callee (f := 12) rfl ?_); refine goesL_ (some 9) rfl rfl Try.func12 (by kernel_rfl) rfl #[.slice none 0 0, .int .i64 a0, .int .i64 4] rfl (by (try simp only [List.map_toArray, List.map_cons, List.map_nil]); first | done | rfl | (simp only [List.length_drop, List.length_take]; rfl)) ?_; (refine (octet_Put.calls k _ _ ([] : List Int) a0 4 t247 _ ?side1 ?side2 A3.out).mono ?_); (case side1 => exact Kd.C_nil _ _); (case side2 => exact Nat.le_refl _); rintro e w14 ⟨v248, rfl, ho0, hb⟩; refine ⟨_, rfl, ?_⟩; have n0_ := Aside0.mk (Kd.R_lower ho0 (below_size (by repeat (first | (with_reducible first | exact HB.out | apply below_alloc | apply pw_below_drewN | apply below_drew1) | exact HB.out)))); have n1_ := Aside0.mk (below_step (by repeat (first | (with_reducible first | exact HB.out | apply below_alloc | apply pw_below_drewN | apply below_drew1) | exact HB.out)) hb); clear HB; have HO249 := n0_; have HB := n1_; clear n0_ n1_; (try clear hb); (try clear hb2); (try clear hk); (try clear hi); (try clear ho0)) | ((with_reducible refine gate_callee (f := 12) rfl ?_); refine goesL_ (some 12) rfl rfl Try.func12 (by kernel_rfl) rfl #[.slice none 0 0, .int .i64 (a0 / 65536), .int .i64 2] rfl (by (try simp only [List.map_toArray, List.map_cons, List.map_nil]); first | done | rfl | (simp only [List.length_drop, List.length_take]; rfl)) ?_; (refine (octet_Put.calls k _ _ ([] : List Int) (a0 / 65536) 2 t250 _ ?side1 ?side2 A4.out).mono ?_); (case side1 => exact Kd.C_nil _ _); (case side2 => exact Nat.le_refl _); rintro e w15 ⟨v251, rfl, ho0, hb⟩; refine ⟨_, rfl, ?_⟩; have n0_ := Aside0.mk (Kd.R_elder' (by (with_reducible repeat (first | apply Kd.R_alloc | apply Kd.R_drewN | apply Kd.R_drew)); exact HO249.out) (Kd.R_base ho0) hb); have n1_ := Aside0.mk (Kd.R_lower (Kd.R_new' ho0 (Kd.R_lt (by (with_reducible repeat (first | apply Kd.R_alloc | apply Kd.R_drewN | apply Kd.R_drew)); exact HO249.out))) (below_size (by repeat (first | (with_reducible first | exact HB.out | apply below_alloc | apply pw_below_drewN | apply below_drew1) | exact HB.out)))); have n2_ := Aside0.mk (below_step (by repeat (first | (with_reducible first | exact HB.out | apply below_alloc | apply pw_below_drewN | apply below_drew1) | exact HB.out)) hb); clear HO249; clear HB; have HO249 := n0_; have HO252 := n1_; have HB := n2_; clear n0_ n1_ n2_; (try clear hb); (try clear hb2); (try clear hk); (try clear hi); (try clear ho0); obtain ⟨Ao16, co16, eo16⟩ := Kd.R_slice HO252.out; subst eo16) | ((with_reducible refine gate_callee (f := 12) rfl ?_); refine goesL_ (some 14) rfl rfl Try.func12 (by kernel_rfl) rfl #[.slice Ao16 t250.length co16, .int .i64 a0, .int .i64 2] rfl (by (try simp only [List.map_toArray, List.map_cons, List.map_nil]); first | done | rfl | (simp only [List.length_drop, List.length_take]; rfl)) ?_; (with_reducible refine (octet_Put.calls k _ _ t250 a0 2 t253 _ ?side1 ?side2 A5.out).mono ?_); (case side1 => repeat (first | exact (Kd.R_reads' HO252.out).2.2 | (with_reducible refine Kd.C_alloc ?_ _) | (with_reducible refine Kd.C_drewN ?_ _) | (with_reducible refine Kd.C_drew ?_))); (case side2 => exact (Kd.R_reads' HO252.out).2.1); rintro e w17 ⟨v254, rfl, ho0, hb⟩; refine ⟨_, rfl, ?_⟩; have n0_ := Aside0.mk (Kd.R_elder' (by (with_reducible repeat (first | apply Kd.R_alloc | apply Kd.R_drewN | apply Kd.R_drew)); exact HO249.out) (Kd.R_base ho0) hb); have n1_ := Aside0.mk (Kd.R_elder' (by (with_reducible repeat (first | apply Kd.R_alloc | apply Kd.R_drewN | apply Kd.R_drew)); exact HO252.out) (Kd.R_base ho0) hb); have n2_ := Aside0.mk (Kd.R_lower (Kd.R_new' (Kd.R_new' ho0 (Kd.R_lt (by (with_reducible repeat (first | apply Kd.R_alloc | apply Kd.R_drewN | apply Kd.R_drew)); exact HO249.out))) (Kd.R_lt (by (with_reducible repeat (first | apply Kd.R_alloc | apply Kd.R_drewN | apply Kd.R_drew)); exact HO252.out))) (below_size (by repeat (first | (with_reducible first | exact HB.out | apply below_alloc | apply pw_below_drewN | apply below_drew1) | exact HB.out)))); have n3_ := Aside0.mk (below_step (by repeat (first | (with_reducible first | exact HB.out | apply below_alloc | apply pw_below_drewN | apply below_drew1) | exact HB.out)) hb); clear HO249; clear HO252; clear HB; have HO249 := n0_; have HO252 := n1_; have HO255 := n2_; have HB := n3_; clear n0_ n1_ n2_ n3_; (try clear hb); (try clear hb2); (try clear hk); (try clear hi); (try clear ho0)) | ((with_reducible refine gate_callee (f := 12) rfl ?_); refine goesL_ (some 17) rfl rfl Try.func12 (by kernel_rfl) rfl #[.slice none 0 0, .int .i64 (a0 / 65536), .int .i64 1] rfl (by (try simp only [List.map_toArray, List.map_cons, List.map_nil]); first | done | rfl | (simp only [List.length_drop, List.length_take]; rfl)) ?_; (refine (octet_Put.calls k _ _ ([] : List Int) (a0 / 65536) 1 t256 _ ?side1 ?side2 A6.out).mono ?_); (case side1 => exact Kd.C_nil _ _); (case side2 => exact Nat.le_refl _); rintro e w18 ⟨v257, rfl, ho0, hb⟩; refine ⟨_, rfl, ?_⟩; have n0_ := Aside0.mk (Kd.R_elder' (by (with_reducible repeat (first | apply Kd.R_alloc | apply Kd.R_drewN | apply Kd.R_drew)); exact HO249.out) (Kd.R_base ho0) hb); have n1_ := Aside0.mk (Kd.R_elder' (by (with_reducible repeat (first | apply Kd.R_alloc | apply Kd.R_drewN | apply Kd.R_drew)); exact HO252.out) (Kd.R_base ho0) hb); have n2_ := Aside0.mk (Kd.R_elder' (by (with_reducible repeat (first | apply Kd.R_alloc | apply Kd.R_drewN | apply Kd.R_drew)); exact HO255.out) (Kd.R_base ho0) hb); have n3_ := Aside0.mk (Kd.R_lower (Kd.R_new' (Kd.R_new' (Kd.R_new' ho0 (Kd.R_lt (by (with_reducible repeat (first | apply Kd.R_alloc | apply Kd.R_drewN | apply Kd.R_drew)); exact HO249.out))) (Kd.R_lt (by (with_reducible repeat (first | apply Kd.R_alloc | apply Kd.R_drewN | apply Kd.R_drew)); exact HO252.out))) (Kd.R_lt (by (with_reducible repeat (first | apply Kd.R_alloc | apply Kd.R_drewN | apply Kd.R_drew)); exact HO255.out))) (below_size (by repeat (first | (with_reducible first | exact HB.out | apply below_alloc | apply pw_below_drewN | apply below_drew1) | exact HB.out)))); have n4_ := Aside0.mk (below_step (by repeat (first | (with_reducible first | exact HB.out | apply below_alloc | apply pw_below_drewN | apply below_drew1) | exact HB.out)) hb); clear HO249; clear HO252; clear HO255; clear HB; have HO249 := n0_; have HO252 := n1_; have HO255 := n2_; have HO258 := n3_; have HB := n4_; clear n0_ n1_ n2_ n3_ n4_; (try clear hb); (try clear hb2); (try clear hk); (try clear hi); (try clear ho0); obtain ⟨Ao19, co19, eo19⟩ := Kd.R_slice HO258.out; subst eo19) | ((with_reducible refine gate_callee (f := 12) rfl ?_); refine goesL_ (some 20) rfl rfl Try.func12 (by kernel_rfl) rfl #[.slice Ao19 t256.length co19, .int .i64 (a0 / 256), .int .i64 1] rfl (by (try simp only [List.map_toArray, List.map_cons, List.map_nil]); first | done | rfl | (simp only [List.length_drop, List.length_take]; rfl)) ?_; (with_reducible refine (octet_Put.calls k _ _ t256 (a0 / 256) 1 t259 _ ?side1 ?side2 A7.out).mono ?_); (case side1 => repeat (first | exact (Kd.R_reads' HO258.out).2.2 | (with_reducible refine Kd.C_alloc ?_ _) | (with_reducible refine Kd.C_drewN ?_ _) | (with_reducible refine Kd.C_drew ?_))); (case side2 => exact (Kd.R_reads' HO258.out).2.1); rintro e w20 ⟨v260, rfl, ho0, hb⟩; refine ⟨_, rfl, ?_⟩; have n0_ := Aside0.mk (Kd.R_elder' (by (with_reducible repeat (first | apply Kd.R_alloc | apply Kd.R_drewN | apply Kd.R_drew)); exact HO249.out) (Kd.R_base ho0) hb); have n1_ := Aside0.mk (Kd.R_elder' (by (with_reducible repeat (first | apply Kd.R_alloc | apply Kd.R_drewN | apply Kd.R_drew)); exact HO252.out) (Kd.R_base ho0) hb); have n2_ := Aside0.mk (Kd.R_elder' (by (with_reducible repeat (first | apply Kd.R_alloc | apply Kd.R_drewN | apply Kd.R_drew)); exact HO255.out) (Kd.R_base ho0) hb); have n3_ := Aside0.mk (Kd.R_elder' (by (with_reducible repeat (first | apply Kd.R_alloc | apply Kd.R_drewN | apply Kd.R_drew)); exact HO258.out) (Kd.R_base ho0) hb); have n4_ := Aside0.mk (Kd.R_lower (Kd.R_new' (Kd.R_new' (Kd.R_new' (Kd.R_new' ho0 (Kd.R_lt (by (with_reducible repeat (first | apply Kd.R_alloc | apply Kd.R_drewN | apply Kd.R_drew)); exact HO249.out))) (Kd.R_lt (by (with_reducible repeat (first | apply Kd.R_alloc | apply Kd.R_drewN | apply Kd.R_drew)); exact HO252.out))) (Kd.R_lt (by (with_reducible repeat (first | apply Kd.R_alloc | apply Kd.R_drewN | apply Kd.R_drew)); exact HO255.out))) (Kd.R_lt (by (with_reducible repeat (first | apply Kd.R_alloc | apply Kd.R_drewN | apply Kd.R_drew)); exact HO258.out))) (below_size (by repeat (first | (with_reducible first | exact HB.out | apply below_alloc | apply pw_below_drewN | apply below_drew1) | exact HB.out)))); have n5_ := Aside0.mk (below_step (by repeat (first | (with_reducible first | exact HB.out | apply below_alloc | apply pw_below_drewN | apply below_drew1) | exact HB.out)) hb); clear HO249; clear HO252; clear HO255; clear HO258; clear HB; have HO249 := n0_; have HO252 := n1_; have HO255 := n2_; have HO258 := n3_; have HO261 := n4_; have HB := n5_; clear n0_ n1_ n2_ n3_ n4_ n5_; (try clear hb); (try clear hb2); (try clear hk); (try clear hi); (try clear ho0); obtain ⟨Ao21, co21, eo21⟩ := Kd.R_slice HO261.out; subst eo21) | ((with_reducible refine gate_callee (f := 12) rfl ?_); refine goesL_ (some 22) rfl rfl Try.func12 (by kernel_rfl) rfl #[.slice Ao21 t259.length co21, .int .i64 a0, .int .i64 1] rfl (by (try simp only [List.map_toArray, List.map_cons, List.map_nil]); first | done | rfl | (simp only [List.length_drop, List.length_take]; rfl)) ?_; (with_reducible refine (octet_Put.calls k _ _ t259 a0 1 t262 _ ?side1 ?side2 A8.out).mono ?_); (case side1 => repeat (first | exact (Kd.R_reads' HO261.out).2.2 | (with_reducible refine Kd.C_alloc ?_ _) | (with_reducible refine Kd.C_drewN ?_ _) | (with_reducible refine Kd.C_drew ?_))); (case side2 => exact (Kd.R_reads' HO261.out).2.1); rintro e w22 ⟨v263, rfl, ho0, hb⟩; refine ⟨_, rfl, ?_⟩; have n0_ := Aside0.mk (Kd.R_elder' (by (with_reducible repeat (first | apply Kd.R_alloc | apply Kd.R_drewN | apply Kd.R_drew)); exact HO249.out) (Kd.R_base ho0) hb); have n1_ := Aside0.mk (Kd.R_elder' (by (with_reducible repeat (first | apply Kd.R_alloc | apply Kd.R_drewN | apply Kd.R_drew)); exact HO252.out) (Kd.R_base ho0) hb); have n2_ := Aside0.mk (Kd.R_elder' (by (with_reducible repeat (first | apply Kd.R_alloc | apply Kd.R_drewN | apply Kd.R_drew)); exact HO255.out) (Kd.R_base ho0) hb); have n3_ := Aside0.mk (Kd.R_elder' (by (with_reducible repeat (first | apply Kd.R_alloc | apply Kd.R_drewN | apply Kd.R_drew)); exact HO258.out) (Kd.R_base ho0) hb); have n4_ := Aside0.mk (Kd.R_elder' (by (with_reducible repeat (first | apply Kd.R_alloc | apply Kd.R_drewN | apply Kd.R_drew)); exact HO261.out) (Kd.R_base ho0) hb); have n5_ := Aside0.mk (Kd.R_lower (Kd.R_new' (Kd.R_new' (Kd.R_new' (Kd.R_new' (Kd.R_new' ho0 (Kd.R_lt (by (with_reducible repeat (first | apply Kd.R_alloc | apply Kd.R_drewN | apply Kd.R_drew)); exact HO249.out))) (Kd.R_lt (by (with_reducible repeat (first | apply Kd.R_alloc | apply Kd.R_drewN | apply Kd.R_drew)); exact HO252.out))) (Kd.R_lt (by (with_reducible repeat (first | apply Kd.R_alloc | apply Kd.R_drewN | apply Kd.R_drew)); exact HO255.out))) (Kd.R_lt (by (with_reducible repeat (first | apply Kd.R_alloc | apply Kd.R_drewN | apply Kd.R_drew)); exact HO258.out))) (Kd.R_lt (by (with_reducible repeat (first | apply Kd.R_alloc | apply Kd.R_drewN | apply Kd.R_drew)); exact HO261.out))) (below_size (by repeat (first | (with_reducible first | exact HB.out | apply below_alloc | apply pw_below_drewN | apply below_drew1) | exact HB.out)))); have n6_ := Aside0.mk (below_step (by repeat (first | (with_reducible first | exact HB.out | apply below_alloc | apply pw_below_drewN | apply below_drew1) | exact HB.out)) hb); clear HO249; clear HO252; clear HO255; clear HO258; clear HO261; clear HB; have HO249 := n0_; have HO252 := n1_; have HO255 := n2_; have HO258 := n3_; have HO261 := n4_; have HO264 := n5_; have HB := n6_; clear n0_ n1_ n2_ n3_ n4_ n5_ n6_; (try clear hb); (try clear hb2); (try clear hk); (try clear hi); (try clear ho0); obtain ⟨Ao23, co23, eo23⟩ := Kd.R_slice HO249.out; subst eo23; obtain ⟨Ao24, co24, eo24⟩ := Kd.R_slice HO255.out; subst eo24; obtain ⟨Ao25, co25, eo25⟩ := Kd.R_slice HO264.out; subst eo25))
        have n0_ := Aside0.mk (Kd.R_drew HO249.out)
        have n1_ := Aside0.mk (Kd.R_drew HO252.out)
        have n2_ := Aside0.mk (Kd.R_drew HO255.out)
        have n3_ := Aside0.mk (Kd.R_drew HO258.out)
        have n4_ := Aside0.mk (Kd.R_drew HO261.out)
        have n5_ := Aside0.mk (Kd.R_drew HO264.out)
        have n6_ := Aside0.mk (below_drew1 HB.out)
        clear HO249
        clear HO252
        clear HO255
        clear HO258
        clear HO261
        clear HO264
        clear HB
        have HO249 := n0_
        have HO252 := n1_
        have HO255 := n2_
        have HO258 := n3_
        have HO261 := n4_
        have HO264 := n5_
        have HB := n6_
        clear n0_ n1_ n2_ n3_ n4_ n5_ n6_
        refine start_ (n := 22) (S := fun w' => True) (ds := []) #[false, false, false, false, false, false, false, false, false, false, false, false, false, false, false, false, false, false, false, false, false, false] (by kernel_rfl) rfl rfl trivial (fun hHeld => ?_); refine with_tabW ridgewaylaw01_OctetSplit.tab5 ridgewaylaw01_OctetSplit.bits5 (fun HT_ HW_ => ?_)
        generalize w22.drew = w26 at HO249 HO252 HO255 HO258 HO261 HO264 HB hHeld ⊢
        refine pure_ (i := 0) (N := some 23) (v := ?_) (a' := ?_) #[true, false, false, false, false, false, false, false, false, false, false, false, false, false, false, false, false, false, false, false, false, false] rfl rfl (any_of HT_.out (by kernel_rfl)) (fun _ _ _ h => h) (Or.inl ⟨by rfl, ?_⟩) ?_ ?_
        rotate_left
        · intro w'
          go_simp
          with_reducible rfl
        rotate_left
        · simp only [Act.put, List.setIfInBounds_toArray, List.set_cons_zero, List.set_cons_succ, i64_w, i32_w]
          rfl
        refine pure_ (i := 1) (N := some 24) (v := ?_) (a' := ?_) #[true, true, false, false, false, false, false, false, false, false, false, false, false, false, false, false, false, false, false, false, false, false] rfl rfl (any_of HT_.out (by kernel_rfl)) (fun _ _ _ h => h) (Or.inl ⟨by rfl, ?_⟩) ?_ ?_
        rotate_left
        · intro w'
          go_simp
          with_reducible rfl
        rotate_left
        · simp only [Act.put, List.setIfInBounds_toArray, List.set_cons_zero, List.set_cons_succ, i64_w, i32_w]
          rfl
        refine pure_ (i := 2) (N := some 25) (v := ?_) (a' := ?_) #[true, true, true, false, false, false, false, false, false, false, false, false, false, false, false, false, false, false, false, false, false, false] rfl rfl (any_of HT_.out (by kernel_rfl)) (fun _ _ _ h => h) (Or.inl ⟨by rfl, ?_⟩) ?_ ?_
        rotate_left
        · intro w'
          go_simp
          with_reducible rfl
        rotate_left
        · simp only [Act.put, List.setIfInBounds_toArray, List.set_cons_zero, List.set_cons_succ, i64_w, i32_w]
          rfl
        refine pure_ (i := 4) (N := some 27) (v := ?_) (a' := ?_) #[true, true, true, false, true, false, false, false, false, false, false, false, false, false, false, false, false, false, false, false, false, false] rfl rfl (any_of HT_.out (by kernel_rfl)) (fun _ _ _ h => h) (Or.inl ⟨by rfl, ?_⟩) ?_ ?_
        rotate_left
        · intro w'
          go_simp
          with_reducible rfl
        rotate_left
        · simp only [Act.put, List.setIfInBounds_toArray, List.set_cons_zero, List.set_cons_succ, i64_w, i32_w]
          rfl
        refine inv_at [3, 5, 6, 7, 8, 9, 10, 11, 12, 13, 14, 15, 16, 17, 18, 19, 20, 21] (fun a0_ b a w' => ∃ (v266 : Value), a = putSel a0_ b [(3, 26, .string (strOfNums t247)), (5, 28, .string (strOfNums t253)), (6, 29, .bool ((strOfNums t247).toList == (strOfNums t253).toList)), (7, 30, .bool ((strOfNums t247).toList == (strOfNums t253).toList)), (8, 31, .bool ((strOfNums t247).toList == (strOfNums t253).toList)), (9, 32, .int .i64 a0), (10, 33, v266), (11, 34, .string (strOfNums t265)), (12, 35, .slice Ao25 t262.length co25), (13, 36, .string (strOfNums t262)), (14, 37, .bool ((strOfNums t265).toList == (strOfNums t262).toList)), (15, 38, .bool ((strOfNums t265).toList == (strOfNums t262).toList)), (16, 39, .bool ((strOfNums t265).toList == (strOfNums t262).toList)), (17, 40, .slice Ao23 t247.length co23), (18, 41, .int .i64 (t247.length : Int)), (19, 42, .bool ((t247.length : Int) == 4)), (20, 43, .bool ((t247.length : Int) == 4)), (21, 2, .bool ((t247.length : Int) == 4))] ∧ (Kd.R (Kd.int .u8) 5 w' w.heap.size (fun k_ => some k_ ≠ (.slice Ao16 t250.length co16 : Value).ownBlock ∧ some k_ ≠ (.slice Ao24 t253.length co24 : Value).ownBlock ∧ some k_ ≠ (.slice Ao19 t256.length co19 : Value).ownBlock ∧ some k_ ≠ (.slice Ao21 t259.length co21 : Value).ownBlock ∧ some k_ ≠ (.slice Ao25 t262.length co25 : Value).ownBlock) (.slice Ao23 t247.length co23) t247) ∧ (Kd.R (Kd.int .u8) 5 w' w.heap.size (fun k_ => some k_ ≠ (.slice Ao23 t247.length co23 : Value).ownBlock ∧ some k_ ≠ (.slice Ao24 t253.length co24 : Value).ownBlock ∧ some k_ ≠ (.slice Ao19 t256.length co19 : Value).ownBlock ∧ some k_ ≠ (.slice Ao21 t259.length co21 : Value).ownBlock ∧ some k_ ≠ (.slice Ao25 t262.length co25 : Value).ownBlock) (.slice Ao16 t250.length co16) t250) ∧ (Kd.R (Kd.int .u8) 5 w' w.heap.size (fun k_ => some k_ ≠ (.slice Ao23 t247.length co23 : Value).ownBlock ∧ some k_ ≠ (.slice Ao16 t250.length co16 : Value).ownBlock ∧ some k_ ≠ (.slice Ao19 t256.length co19 : Value).ownBlock ∧ some k_ ≠ (.slice Ao21 t259.length co21 : Value).ownBlock ∧ some k_ ≠ (.slice Ao25 t262.length co25 : Value).ownBlock) (.slice Ao24 t253.length co24) t253) ∧ (Kd.R (Kd.int .u8) 5 w' w.heap.size (fun k_ => some k_ ≠ (.slice Ao23 t247.length co23 : Value).ownBlock ∧ some k_ ≠ (.slice Ao16 t250.length co16 : Value).ownBlock ∧ some k_ ≠ (.slice Ao24 t253.length co24 : Value).ownBlock ∧ some k_ ≠ (.slice Ao21 t259.length co21 : Value).ownBlock ∧ some k_ ≠ (.slice Ao25 t262.length co25 : Value).ownBlock) (.slice Ao19 t256.length co19) t256) ∧ (Kd.R (Kd.int .u8) 5 w' w.heap.size (fun k_ => some k_ ≠ (.slice Ao23 t247.length co23 : Value).ownBlock ∧ some k_ ≠ (.slice Ao16 t250.length co16 : Value).ownBlock ∧ some k_ ≠ (.slice Ao24 t253.length co24 : Value).ownBlock ∧ some k_ ≠ (.slice Ao19 t256.length co19 : Value).ownBlock ∧ some k_ ≠ (.slice Ao25 t262.length co25 : Value).ownBlock) (.slice Ao21 t259.length co21) t259) ∧ (Kd.R (Kd.int .u8) 5 w' w.heap.size (fun k_ => some k_ ≠ (.slice Ao23 t247.length co23 : Value).ownBlock ∧ some k_ ≠ (.slice Ao16 t250.length co16 : Value).ownBlock ∧ some k_ ≠ (.slice Ao24 t253.length co24 : Value).ownBlock ∧ some k_ ≠ (.slice Ao19 t256.length co19 : Value).ownBlock ∧ some k_ ≠ (.slice Ao21 t259.length co21 : Value).ownBlock) (.slice Ao25 t262.length co25) t262) ∧ (Below w.heap.size w w') ∧ (b 10 = true → Kd.R (Kd.int .u8) 5 w' w.heap.size (fun k_ => some k_ ≠ (.slice Ao23 t247.length co23 : Value).ownBlock ∧ some k_ ≠ (.slice Ao16 t250.length co16 : Value).ownBlock ∧ some k_ ≠ (.slice Ao24 t253.length co24 : Value).ownBlock ∧ some k_ ≠ (.slice Ao19 t256.length co19 : Value).ownBlock ∧ some k_ ≠ (.slice Ao21 t259.length co21 : Value).ownBlock ∧ some k_ ≠ (.slice Ao25 t262.length co25 : Value).ownBlock) v266 t265)) HT_.out HW_.out (by kernel_rfl) (by kernel_rfl) ?_ ?_ ?_
        · exact ⟨.bool false, by simp only [putSel, Bool.false_eq_true, if_false], (by first | exact HO249.out | exact (by (with_reducible repeat (first | apply Kd.R_alloc | apply Kd.R_drewN | apply Kd.R_drew)); exact Kd.R_mono HO249.out (by intro _ hk; first | exact ⟨hk.1.1.1.1.2, ⟨hk.1.1.1.2, ⟨hk.1.1.2, ⟨hk.1.2, hk.2⟩⟩⟩⟩ | exact hk | trivial | (simp only [true_and, and_true, and_assoc] at hk ⊢; first | exact hk | trivial) | simp_all))), (by first | exact HO252.out | exact (by (with_reducible repeat (first | apply Kd.R_alloc | apply Kd.R_drewN | apply Kd.R_drew)); exact Kd.R_mono HO252.out (by intro _ hk; first | exact ⟨hk.1.1.1.1.2, ⟨hk.1.1.1.2, ⟨hk.1.1.2, ⟨hk.1.2, hk.2⟩⟩⟩⟩ | exact hk | trivial | (simp only [true_and, and_true, and_assoc] at hk ⊢; first | exact hk | trivial) | simp_all))), (by first | exact HO255.out | exact (by (with_reducible repeat (first | apply Kd.R_alloc | apply Kd.R_drewN | apply Kd.R_drew)); exact Kd.R_mono HO255.out (by intro _ hk; first | exact ⟨hk.1.1.1.1.2, ⟨hk.1.1.1.2, ⟨hk.1.1.2, ⟨hk.1.2, hk.2⟩⟩⟩⟩ | exact hk | trivial | (simp only [true_and, and_true, and_assoc] at hk ⊢; first | exact hk | trivial) | simp_all))), (by first | exact HO258.out | exact (by (with_reducible repeat (first | apply Kd.R_alloc | apply Kd.R_drewN | apply Kd.R_drew)); exact Kd.R_mono HO258.out (by intro _ hk; first | exact ⟨hk.1.1.1.1.2, ⟨hk.1.1.1.2, ⟨hk.1.1.2, ⟨hk.1.2, hk.2⟩⟩⟩⟩ | exact hk | trivial | (simp only [true_and, and_true, and_assoc] at hk ⊢; first | exact hk | trivial) | simp_all))), (by first | exact HO261.out | exact (by (with_reducible repeat (first | apply Kd.R_alloc | apply Kd.R_drewN | apply Kd.R_drew)); exact Kd.R_mono HO261.out (by intro _ hk; first | exact ⟨hk.1.1.1.1.2, ⟨hk.1.1.1.2, ⟨hk.1.1.2, ⟨hk.1.2, hk.2⟩⟩⟩⟩ | exact hk | trivial | (simp only [true_and, and_true, and_assoc] at hk ⊢; first | exact hk | trivial) | simp_all))), (by first | exact HO264.out | exact (by (with_reducible repeat (first | apply Kd.R_alloc | apply Kd.R_drewN | apply Kd.R_drew)); exact Kd.R_mono HO264.out (by intro _ hk; first | exact ⟨hk.1.1.1.1.2, ⟨hk.1.1.1.2, ⟨hk.1.1.2, ⟨hk.1.2, hk.2⟩⟩⟩⟩ | exact hk | trivial | (simp only [true_and, and_true, and_assoc] at hk ⊢; first | exact hk | trivial) | simp_all))), (by first | exact HB.out | exact (by repeat (first | (with_reducible first | exact HB.out | apply below_alloc | apply pw_below_drewN | apply below_drew1) | exact HB.out))), fun h_ => absurd h_ (by decide)⟩
        · skip
          clear HB HO249 HO252 HO255 HO258 HO261 HO264
          refine steps_cons ?_ ?_
          · rintro b a w' ⟨v266, ha, Q_HO249, Q_HO252, Q_HO255, Q_HO258, Q_HO261, Q_HO264, Q_HB, Q_HO267⟩ hb_ hon hoff
            refine ⟨_, rfl, fun K hK => ?_⟩
            have e25 : a.tmps[25]? = some (.slice Ao23 t247.length co23) := by rw [ha]; exact (putSel_off rfl).trans rfl
            have e24 : a.tmps[24]? = some (.bool true) := by rw [ha]; exact (putSel_off rfl).trans rfl
            replace ha := Aside0.mk ha
            have HO249 := Aside0.mk Q_HO249
            have HO252 := Aside0.mk Q_HO252
            have HO255 := Aside0.mk Q_HO255
            have HO258 := Aside0.mk Q_HO258
            have HO261 := Aside0.mk Q_HO261
            have HO264 := Aside0.mk Q_HO264
            have HB := Aside0.mk Q_HB
            have hcv3_ := own_string (P := Try.prog) Try.underlying22 Try.underlying5 Try.underlying9 (Kd.own_of_R HO249.out)
            refine value_ (w1 := w') (v := .string (strOfNums t247)) (wanted_on rfl rfl rfl (e24.trans (by first | rfl | (simp [*]; done)))) rfl ?_ ?_
            · go_simp
              (try simp only [i64_w])
              try rfl
              all_goals (first | rfl | (simp [bne]; done))
            refine hK.out _ _ ⟨v266, (by rw [ha.out]; exact putSel_upk 0 hb_ rfl rfl rfl), Q_HO249, Q_HO252, Q_HO255, Q_HO258, Q_HO261, Q_HO264, Q_HB, fun h0_ => absurd ((hoff 10 (by kernel_rfl)).symm.trans h0_) (by decide)⟩
          refine steps_cons ?_ ?_
          · rintro b a w' ⟨v266, ha, Q_HO249, Q_HO252, Q_HO255, Q_HO258, Q_HO261, Q_HO264, Q_HB, Q_HO267⟩ hb_ hon hoff
            refine ⟨_, rfl, fun K hK => ?_⟩
            have e27 : a.tmps[27]? = some (.slice Ao24 t253.length co24) := by rw [ha]; exact (putSel_off rfl).trans rfl
            have e24 : a.tmps[24]? = some (.bool true) := by rw [ha]; exact (putSel_off rfl).trans rfl
            replace ha := Aside0.mk ha
            have HO249 := Aside0.mk Q_HO249
            have HO252 := Aside0.mk Q_HO252
            have HO255 := Aside0.mk Q_HO255
            have HO258 := Aside0.mk Q_HO258
            have HO261 := Aside0.mk Q_HO261
            have HO264 := Aside0.mk Q_HO264
            have HB := Aside0.mk Q_HB
            have hcv5_ := own_string (P := Try.prog) Try.underlying22 Try.underlying5 Try.underlying9 (Kd.own_of_R HO255.out)
            refine value_ (w1 := w') (v := .string (strOfNums t253)) (wanted_on rfl rfl rfl (e24.trans (by first | rfl | (simp [*]; done)))) rfl ?_ ?_
            · go_simp
              (try simp only [i64_w])
              try rfl
              all_goals (first | rfl | (simp [bne]; done))
            refine hK.out _ _ ⟨v266, (by rw [ha.out]; exact putSel_upk 1 hb_ rfl rfl rfl), Q_HO249, Q_HO252, Q_HO255, Q_HO258, Q_HO261, Q_HO264, Q_HB, fun h0_ => absurd ((hoff 10 (by kernel_rfl)).symm.trans h0_) (by decide)⟩
          refine steps_cons ?_ ?_
          · rintro b a w' ⟨v266, ha, Q_HO249, Q_HO252, Q_HO255, Q_HO258, Q_HO261, Q_HO264, Q_HB, Q_HO267⟩ hb_ hon hoff
            refine ⟨_, rfl, fun K hK => ?_⟩
            have e26 : a.tmps[26]? = some (.string (strOfNums t247)) := by rw [ha]; exact putSel_on (e := (3, 26, .string (strOfNums t247))) 0 rfl rfl (hon 3 (by kernel_rfl)) rfl
            have e28 : a.tmps[28]? = some (.string (strOfNums t253)) := by rw [ha]; exact putSel_on (e := (5, 28, .string (strOfNums t253))) 1 rfl rfl (hon 5 (by kernel_rfl)) rfl
            have e24 : a.tmps[24]? = some (.bool true) := by rw [ha]; exact (putSel_off rfl).trans rfl
            replace ha := Aside0.mk ha
            have HO249 := Aside0.mk Q_HO249
            have HO252 := Aside0.mk Q_HO252
            have HO255 := Aside0.mk Q_HO255
            have HO258 := Aside0.mk Q_HO258
            have HO261 := Aside0.mk Q_HO261
            have HO264 := Aside0.mk Q_HO264
            have HB := Aside0.mk Q_HB
            refine value_ (w1 := w') (v := .bool ((strOfNums t247).toList == (strOfNums t253).toList)) (wanted_on rfl rfl rfl (e24.trans (by first | rfl | (simp [*]; done)))) rfl ?_ ?_
            · go_simp
              (try simp only [i64_w])
              try rfl
              all_goals (first | rfl | (simp [bne]; done))
            refine hK.out _ _ ⟨v266, (by rw [ha.out]; exact putSel_upk 2 hb_ rfl rfl rfl), Q_HO249, Q_HO252, Q_HO255, Q_HO258, Q_HO261, Q_HO264, Q_HB, fun h0_ => absurd ((hoff 10 (by kernel_rfl)).symm.trans h0_) (by decide)⟩
          refine steps_cons ?_ ?_
          · rintro b a w' ⟨v266, ha, Q_HO249, Q_HO252, Q_HO255, Q_HO258, Q_HO261, Q_HO264, Q_HB, Q_HO267⟩ hb_ hon hoff
            refine ⟨_, rfl, fun K hK => ?_⟩
            have e24 : a.tmps[24]? = some (.bool true) := by rw [ha]; exact (putSel_off rfl).trans rfl
            have e29 : a.tmps[29]? = some (.bool ((strOfNums t247).toList == (strOfNums t253).toList)) := by rw [ha]; exact putSel_on (e := (6, 29, .bool ((strOfNums t247).toList == (strOfNums t253).toList))) 2 rfl rfl (hon 6 (by kernel_rfl)) rfl
            replace ha := Aside0.mk ha
            have HO249 := Aside0.mk Q_HO249
            have HO252 := Aside0.mk Q_HO252
            have HO255 := Aside0.mk Q_HO255
            have HO258 := Aside0.mk Q_HO258
            have HO261 := Aside0.mk Q_HO261
            have HO264 := Aside0.mk Q_HO264
            have HB := Aside0.mk Q_HB
            refine value_ (w1 := w') (v := .bool ((strOfNums t247).toList == (strOfNums t253).toList)) (by rfl) rfl ?_ ?_
            · go_simp
              (try simp only [i64_w])
              try rfl
              all_goals (first | rfl | (simp [bne]; done))
            refine hK.out _ _ ⟨v266, (by rw [ha.out]; exact putSel_upk 3 hb_ rfl rfl rfl), Q_HO249, Q_HO252, Q_HO255, Q_HO258, Q_HO261, Q_HO264, Q_HB, fun h0_ => absurd ((hoff 10 (by kernel_rfl)).symm.trans h0_) (by decide)⟩
          refine steps_cons ?_ ?_
          · rintro b a w' ⟨v266, ha, Q_HO249, Q_HO252, Q_HO255, Q_HO258, Q_HO261, Q_HO264, Q_HB, Q_HO267⟩ hb_ hon hoff
            refine ⟨_, rfl, fun K hK => ?_⟩
            have e30 : a.tmps[30]? = some (.bool ((strOfNums t247).toList == (strOfNums t253).toList)) := by rw [ha]; exact putSel_on (e := (7, 30, .bool ((strOfNums t247).toList == (strOfNums t253).toList))) 3 rfl rfl (hon 7 (by kernel_rfl)) rfl
            replace ha := Aside0.mk ha
            have HO249 := Aside0.mk Q_HO249
            have HO252 := Aside0.mk Q_HO252
            have HO255 := Aside0.mk Q_HO255
            have HO258 := Aside0.mk Q_HO258
            have HO261 := Aside0.mk Q_HO261
            have HO264 := Aside0.mk Q_HO264
            have HB := Aside0.mk Q_HB
            refine value_ (w1 := w') (v := .bool ((strOfNums t247).toList == (strOfNums t253).toList)) (by rfl) rfl ?_ ?_
            · go_simp
              (try simp only [i64_w])
              try rfl
              all_goals (first | rfl | (simp [bne]; done))
            refine hK.out _ _ ⟨v266, (by rw [ha.out]; exact putSel_upk 4 hb_ rfl rfl rfl), Q_HO249, Q_HO252, Q_HO255, Q_HO258, Q_HO261, Q_HO264, Q_HB, fun h0_ => absurd ((hoff 10 (by kernel_rfl)).symm.trans h0_) (by decide)⟩
          refine steps_cons ?_ ?_
          · rintro b a w' ⟨v266, ha, Q_HO249, Q_HO252, Q_HO255, Q_HO258, Q_HO261, Q_HO264, Q_HB, Q_HO267⟩ hb_ hon hoff
            refine ⟨_, rfl, fun K hK => ?_⟩
            have e0 : a.tmps[0]? = some (.int .i64 a0) := by rw [ha]; exact (putSel_off rfl).trans rfl
            have e31 : a.tmps[31]? = some (.bool ((strOfNums t247).toList == (strOfNums t253).toList)) := by rw [ha]; exact putSel_on (e := (8, 31, .bool ((strOfNums t247).toList == (strOfNums t253).toList))) 4 rfl rfl (hon 8 (by kernel_rfl)) rfl
            replace ha := Aside0.mk ha
            have HO249 := Aside0.mk Q_HO249
            have HO252 := Aside0.mk Q_HO252
            have HO255 := Aside0.mk Q_HO255
            have HO258 := Aside0.mk Q_HO258
            have HO261 := Aside0.mk Q_HO261
            have HO264 := Aside0.mk Q_HO264
            have HB := Aside0.mk Q_HB
            refine value_ (w1 := w') (v := .int .i64 a0) (wanted_on rfl rfl rfl (e31.trans (by first | rfl | (simp [*]; done)))) rfl ?_ ?_
            · go_simp
              (try simp only [i64_w])
              try rfl
              all_goals (first | rfl | (simp [bne]; done))
            refine hK.out _ _ ⟨v266, (by rw [ha.out]; exact putSel_upk 5 hb_ rfl rfl rfl), Q_HO249, Q_HO252, Q_HO255, Q_HO258, Q_HO261, Q_HO264, Q_HB, fun h0_ => absurd ((hoff 10 (by kernel_rfl)).symm.trans h0_) (by decide)⟩
          refine steps_cons ?_ ?_
          · rintro b a w' ⟨v266, ha, Q_HO249, Q_HO252, Q_HO255, Q_HO258, Q_HO261, Q_HO264, Q_HB, Q_HO267⟩ hb_ hon hoff
            refine ⟨_, rfl, fun K hK => ?_⟩
            have e32 : a.tmps[32]? = some (.int .i64 a0) := by rw [ha]; exact putSel_on (e := (9, 32, .int .i64 a0)) 5 rfl rfl (hon 9 (by kernel_rfl)) rfl
            have e31 : a.tmps[31]? = some (.bool ((strOfNums t247).toList == (strOfNums t253).toList)) := by rw [ha]; exact putSel_on (e := (8, 31, .bool ((strOfNums t247).toList == (strOfNums t253).toList))) 4 rfl rfl (hon 8 (by kernel_rfl)) rfl
            replace ha := Aside0.mk ha
            have HO249 := Aside0.mk Q_HO249
            have HO252 := Aside0.mk Q_HO252
            have HO255 := Aside0.mk Q_HO255
            have HO258 := Aside0.mk Q_HO258
            have HO261 := Aside0.mk Q_HO261
            have HO264 := Aside0.mk Q_HO264
            have HB := Aside0.mk Q_HB
            refine goes_ Try.func12 (by kernel_rfl) rfl #[.slice none 0 0, .int .i64 a0, .int .i64 3] (wanted_on rfl rfl rfl (e31.trans (by first | rfl | (simp [*]; done)))) rfl rfl (by first | (simp only [List.map_toArray, List.map_cons, List.map_nil, Act.eval, Array.getD_eq_getD_getElem?, Option.getD_some, e32, e31]; done) | (simp only [List.map_toArray, List.map_cons, List.map_nil, Act.eval, Array.getD_eq_getD_getElem?, Option.getD_some, e32, e31]; rfl)) ?_
            refine (octet_Put.calls k _ _ ([] : List Int) a0 3 t265 _ ?side1 ?side2 A11.out).mono ?_
            (case side1 => exact Kd.C_nil _ _)
            (case side2 => exact Nat.le_refl _)
            rintro e w30 ⟨v266, rfl, ho0, hb⟩
            refine ⟨_, rfl, ?_⟩
            have n0_ := Aside0.mk (Kd.R_elder' (by (with_reducible repeat (first | apply Kd.R_alloc | apply Kd.R_drewN | apply Kd.R_drew)); first | exact HO249.out | exact Kd.R_mono HO249.out (by intro k_ hk; first | exact hk | trivial | (simp only [true_and, and_true, and_assoc] at hk ⊢; first | exact hk | trivial) | simp_all)) (Kd.R_base ho0) hb)
            have n1_ := Aside0.mk (Kd.R_elder' (by (with_reducible repeat (first | apply Kd.R_alloc | apply Kd.R_drewN | apply Kd.R_drew)); first | exact HO252.out | exact Kd.R_mono HO252.out (by intro k_ hk; first | exact hk | trivial | (simp only [true_and, and_true, and_assoc] at hk ⊢; first | exact hk | trivial) | simp_all)) (Kd.R_base ho0) hb)
            have n2_ := Aside0.mk (Kd.R_elder' (by (with_reducible repeat (first | apply Kd.R_alloc | apply Kd.R_drewN | apply Kd.R_drew)); first | exact HO255.out | exact Kd.R_mono HO255.out (by intro k_ hk; first | exact hk | trivial | (simp only [true_and, and_true, and_assoc] at hk ⊢; first | exact hk | trivial) | simp_all)) (Kd.R_base ho0) hb)
            have n3_ := Aside0.mk (Kd.R_elder' (by (with_reducible repeat (first | apply Kd.R_alloc | apply Kd.R_drewN | apply Kd.R_drew)); first | exact HO258.out | exact Kd.R_mono HO258.out (by intro k_ hk; first | exact hk | trivial | (simp only [true_and, and_true, and_assoc] at hk ⊢; first | exact hk | trivial) | simp_all)) (Kd.R_base ho0) hb)
            have n4_ := Aside0.mk (Kd.R_elder' (by (with_reducible repeat (first | apply Kd.R_alloc | apply Kd.R_drewN | apply Kd.R_drew)); first | exact HO261.out | exact Kd.R_mono HO261.out (by intro k_ hk; first | exact hk | trivial | (simp only [true_and, and_true, and_assoc] at hk ⊢; first | exact hk | trivial) | simp_all)) (Kd.R_base ho0) hb)
            have n5_ := Aside0.mk (Kd.R_elder' (by (with_reducible repeat (first | apply Kd.R_alloc | apply Kd.R_drewN | apply Kd.R_drew)); first | exact HO264.out | exact Kd.R_mono HO264.out (by intro k_ hk; first | exact hk | trivial | (simp only [true_and, and_true, and_assoc] at hk ⊢; first | exact hk | trivial) | simp_all)) (Kd.R_base ho0) hb)
            have n6_ := Aside0.mk (Kd.R_lower (Kd.R_new' (Kd.R_new' (Kd.R_new' (Kd.R_new' (Kd.R_new' (Kd.R_new' ho0 (Kd.R_lt (by (with_reducible repeat (first | apply Kd.R_alloc | apply Kd.R_drewN | apply Kd.R_drew)); first | exact HO249.out | exact Kd.R_mono HO249.out (by intro k_ hk; first | exact hk | trivial | (simp only [true_and, and_true, and_assoc] at hk ⊢; first | exact hk | trivial) | simp_all)))) (Kd.R_lt (by (with_reducible repeat (first | apply Kd.R_alloc | apply Kd.R_drewN | apply Kd.R_drew)); first | exact HO252.out | exact Kd.R_mono HO252.out (by intro k_ hk; first | exact hk | trivial | (simp only [true_and, and_true, and_assoc] at hk ⊢; first | exact hk | trivial) | simp_all)))) (Kd.R_lt (by (with_reducible repeat (first | apply Kd.R_alloc | apply Kd.R_drewN | apply Kd.R_drew)); first | exact HO255.out | exact Kd.R_mono HO255.out (by intro k_ hk; first | exact hk | trivial | (simp only [true_and, and_true, and_assoc] at hk ⊢; first | exact hk | trivial) | simp_all)))) (Kd.R_lt (by (with_reducible repeat (first | apply Kd.R_alloc | apply Kd.R_drewN | apply Kd.R_drew)); first | exact HO258.out | exact Kd.R_mono HO258.out (by intro k_ hk; first | exact hk | trivial | (simp only [true_and, and_true, and_assoc] at hk ⊢; first | exact hk | trivial) | simp_all)))) (Kd.R_lt (by (with_reducible repeat (first | apply Kd.R_alloc | apply Kd.R_drewN | apply Kd.R_drew)); first | exact HO261.out | exact Kd.R_mono HO261.out (by intro k_ hk; first | exact hk | trivial | (simp only [true_and, and_true, and_assoc] at hk ⊢; first | exact hk | trivial) | simp_all)))) (Kd.R_lt (by (with_reducible repeat (first | apply Kd.R_alloc | apply Kd.R_drewN | apply Kd.R_drew)); first | exact HO264.out | exact Kd.R_mono HO264.out (by intro k_ hk; first | exact hk | trivial | (simp only [true_and, and_true, and_assoc] at hk ⊢; first | exact hk | trivial) | simp_all)))) (below_size (by repeat (first | (with_reducible first | exact HB.out | apply below_alloc | apply pw_below_drewN | apply below_drew1) | exact HB.out))))
            have n7_ := Aside0.mk (below_step (by repeat (first | (with_reducible first | exact HB.out | apply below_alloc | apply pw_below_drewN | apply below_drew1) | exact HB.out)) hb)
            clear HO249
            clear HO252
            clear HO255
            clear HO258
            clear HO261
            clear HO264
            clear HB
            have HO249 := n0_
            have HO252 := n1_
            have HO255 := n2_
            have HO258 := n3_
            have HO261 := n4_
            have HO264 := n5_
            have HO267 := n6_
            have HB := n7_
            clear n0_ n1_ n2_ n3_ n4_ n5_ n6_ n7_
            (try clear hb)
            (try clear hb2)
            (try clear hk)
            (try clear hi)
            (try clear ho0)
            refine hK.out _ _ ⟨v266, (by rw [ha.out]; exact putSel_upk 6 hb_ rfl rfl rfl), (by (with_reducible repeat (first | apply Kd.R_alloc | apply Kd.R_drewN | apply Kd.R_drew)); exact Kd.R_mono HO249.out (by intro _ hk; first | exact ⟨hk.1.1.1.1.1.2, ⟨hk.1.1.1.1.2, ⟨hk.1.1.1.2, ⟨hk.1.1.2, ⟨hk.1.2, hk.2⟩⟩⟩⟩⟩ | exact hk | trivial | (simp only [true_and, and_true, and_assoc] at hk ⊢; first | exact hk | trivial) | simp_all)), (by (with_reducible repeat (first | apply Kd.R_alloc | apply Kd.R_drewN | apply Kd.R_drew)); exact Kd.R_mono HO252.out (by intro _ hk; first | exact ⟨hk.1.1.1.1.1.2, ⟨hk.1.1.1.1.2, ⟨hk.1.1.1.2, ⟨hk.1.1.2, ⟨hk.1.2, hk.2⟩⟩⟩⟩⟩ | exact hk | trivial | (simp only [true_and, and_true, and_assoc] at hk ⊢; first | exact hk | trivial) | simp_all)), (by (with_reducible repeat (first | apply Kd.R_alloc | apply Kd.R_drewN | apply Kd.R_drew)); exact Kd.R_mono HO255.out (by intro _ hk; first | exact ⟨hk.1.1.1.1.1.2, ⟨hk.1.1.1.1.2, ⟨hk.1.1.1.2, ⟨hk.1.1.2, ⟨hk.1.2, hk.2⟩⟩⟩⟩⟩ | exact hk | trivial | (simp only [true_and, and_true, and_assoc] at hk ⊢; first | exact hk | trivial) | simp_all)), (by (with_reducible repeat (first | apply Kd.R_alloc | apply Kd.R_drewN | apply Kd.R_drew)); exact Kd.R_mono HO258.out (by intro _ hk; first | exact ⟨hk.1.1.1.1.1.2, ⟨hk.1.1.1.1.2, ⟨hk.1.1.1.2, ⟨hk.1.1.2, ⟨hk.1.2, hk.2⟩⟩⟩⟩⟩ | exact hk | trivial | (simp only [true_and, and_true, and_assoc] at hk ⊢; first | exact hk | trivial) | simp_all)), (by (with_reducible repeat (first | apply Kd.R_alloc | apply Kd.R_drewN | apply Kd.R_drew)); exact Kd.R_mono HO261.out (by intro _ hk; first | exact ⟨hk.1.1.1.1.1.2, ⟨hk.1.1.1.1.2, ⟨hk.1.1.1.2, ⟨hk.1.1.2, ⟨hk.1.2, hk.2⟩⟩⟩⟩⟩ | exact hk | trivial | (simp only [true_and, and_true, and_assoc] at hk ⊢; first | exact hk | trivial) | simp_all)), (by (with_reducible repeat (first | apply Kd.R_alloc | apply Kd.R_drewN | apply Kd.R_drew)); exact Kd.R_mono HO264.out (by intro _ hk; first | exact ⟨hk.1.1.1.1.1.2, ⟨hk.1.1.1.1.2, ⟨hk.1.1.1.2, ⟨hk.1.1.2, ⟨hk.1.2, hk.2⟩⟩⟩⟩⟩ | exact hk | trivial | (simp only [true_and, and_true, and_assoc] at hk ⊢; first | exact hk | trivial) | simp_all)), (by repeat (first | (with_reducible first | exact HB.out | apply below_alloc | apply pw_below_drewN | apply below_drew1) | exact HB.out)), fun _ => (by (with_reducible repeat (first | apply Kd.R_alloc | apply Kd.R_drewN | apply Kd.R_drew)); exact Kd.R_mono HO267.out (by intro _ hk; first | exact ⟨hk.1.1.1.1.1.2, ⟨hk.1.1.1.1.2, ⟨hk.1.1.1.2, ⟨hk.1.1.2, ⟨hk.1.2, hk.2⟩⟩⟩⟩⟩ | exact hk | trivial | (simp only [true_and, and_true, and_assoc] at hk ⊢; first | exact hk | trivial) | simp_all))⟩
          refine steps_cons ?_ ?_
          · rintro b a w' ⟨v266, ha, Q_HO249, Q_HO252, Q_HO255, Q_HO258, Q_HO261, Q_HO264, Q_HB, Q_HO267⟩ hb_ hon hoff
            refine ⟨_, rfl, fun K hK => ?_⟩
            have e33 : a.tmps[33]? = some (v266) := by rw [ha]; exact putSel_on (e := (10, 33, v266)) 6 rfl rfl (hon 10 (by kernel_rfl)) rfl
            have e31 : a.tmps[31]? = some (.bool ((strOfNums t247).toList == (strOfNums t253).toList)) := by rw [ha]; exact putSel_on (e := (8, 31, .bool ((strOfNums t247).toList == (strOfNums t253).toList))) 4 rfl rfl (hon 8 (by kernel_rfl)) rfl
            replace ha := Aside0.mk ha
            have HO249 := Aside0.mk Q_HO249
            have HO252 := Aside0.mk Q_HO252
            have HO255 := Aside0.mk Q_HO255
            have HO258 := Aside0.mk Q_HO258
            have HO261 := Aside0.mk Q_HO261
            have HO264 := Aside0.mk Q_HO264
            have HB := Aside0.mk Q_HB
            have HO267 := Aside0.mk (Q_HO267 (hon 10 (by kernel_rfl)))
            obtain ⟨Ao11_0, co11_0, eo_⟩ := Kd.R_slice HO267.out
            subst eo_
            have hcv11_ := own_string (P := Try.prog) Try.underlying22 Try.underlying5 Try.underlying9 (Kd.own_of_R HO267.out)
            refine value_ (w1 := w') (v := .string (strOfNums t265)) (wanted_on rfl rfl rfl (e31.trans (by first | rfl | (simp [*]; done)))) rfl ?_ ?_
            · go_simp
              (try simp only [i64_w])
              try rfl
              all_goals (first | rfl | (simp [bne]; done))
            refine hK.out _ _ ⟨.slice Ao11_0 t265.length co11_0, (by rw [ha.out]; exact putSel_upk 7 hb_ rfl rfl rfl), Q_HO249, Q_HO252, Q_HO255, Q_HO258, Q_HO261, Q_HO264, Q_HB, Q_HO267⟩
          refine steps_cons ?_ ?_
          · rintro b a w' ⟨v266, ha, Q_HO249, Q_HO252, Q_HO255, Q_HO258, Q_HO261, Q_HO264, Q_HB, Q_HO267⟩ hb_ hon hoff
            refine ⟨_, rfl, fun K hK => ?_⟩
            have e6 : a.tmps[6]? = some (.slice Ao25 t262.length co25) := by rw [ha]; exact (putSel_off rfl).trans rfl
            have e31 : a.tmps[31]? = some (.bool ((strOfNums t247).toList == (strOfNums t253).toList)) := by rw [ha]; exact putSel_on (e := (8, 31, .bool ((strOfNums t247).toList == (strOfNums t253).toList))) 4 rfl rfl (hon 8 (by kernel_rfl)) rfl
            replace ha := Aside0.mk ha
            have HO249 := Aside0.mk Q_HO249
            have HO252 := Aside0.mk Q_HO252
            have HO255 := Aside0.mk Q_HO255
            have HO258 := Aside0.mk Q_HO258
            have HO261 := Aside0.mk Q_HO261
            have HO264 := Aside0.mk Q_HO264
            have HB := Aside0.mk Q_HB
            refine value_ (w1 := w') (v := .slice Ao25 t262.length co25) (wanted_on rfl rfl rfl (e31.trans (by first | rfl | (simp [*]; done)))) rfl ?_ ?_
            · go_simp
              (try simp only [i64_w])
              try rfl
              all_goals (first | rfl | (simp [bne]; done))
            refine hK.out _ _ ⟨v266, (by rw [ha.out]; exact putSel_upk 8 hb_ rfl rfl rfl), Q_HO249, Q_HO252, Q_HO255, Q_HO258, Q_HO261, Q_HO264, Q_HB, Q_HO267⟩
          refine steps_cons ?_ ?_
          · rintro b a w' ⟨v266, ha, Q_HO249, Q_HO252, Q_HO255, Q_HO258, Q_HO261, Q_HO264, Q_HB, Q_HO267⟩ hb_ hon hoff
            refine ⟨_, rfl, fun K hK => ?_⟩
            have e35 : a.tmps[35]? = some (.slice Ao25 t262.length co25) := by rw [ha]; exact putSel_on (e := (12, 35, .slice Ao25 t262.length co25)) 8 rfl rfl (hon 12 (by kernel_rfl)) rfl
            have e31 : a.tmps[31]? = some (.bool ((strOfNums t247).toList == (strOfNums t253).toList)) := by rw [ha]; exact putSel_on (e := (8, 31, .bool ((strOfNums t247).toList == (strOfNums t253).toList))) 4 rfl rfl (hon 8 (by kernel_rfl)) rfl
            replace ha := Aside0.mk ha
            have HO249 := Aside0.mk Q_HO249
            have HO252 := Aside0.mk Q_HO252
            have HO255 := Aside0.mk Q_HO255
            have HO258 := Aside0.mk Q_HO258
            have HO261 := Aside0.mk Q_HO261
            have HO264 := Aside0.mk Q_HO264
            have HB := Aside0.mk Q_HB
            have hcv13_ := own_string (P := Try.prog) Try.underlying22 Try.underlying5 Try.underlying9 (Kd.own_of_R HO264.out)
            refine value_ (w1 := w') (v := .string (strOfNums t262)) (wanted_on rfl rfl rfl (e31.trans (by first | rfl | (simp [*]; done)))) rfl ?_ ?_
            · go_simp
              (try simp only [i64_w])
              try rfl
              all_goals (first | rfl | (simp [bne]; done))
            refine hK.out _ _ ⟨v266, (by rw [ha.out]; exact putSel_upk 9 hb_ rfl rfl rfl), Q_HO249, Q_HO252, Q_HO255, Q_HO258, Q_HO261, Q_HO264, Q_HB, Q_HO267⟩
          refine steps_cons ?_ ?_
          · rintro b a w' ⟨v266, ha, Q_HO249, Q_HO252, Q_HO255, Q_HO258, Q_HO261, Q_HO264, Q_HB, Q_HO267⟩ hb_ hon hoff
            refine ⟨_, rfl, fun K hK => ?_⟩
            have e34 : a.tmps[34]? = some (.string (strOfNums t265)) := by rw [ha]; exact putSel_on (e := (11, 34, .string (strOfNums t265))) 7 rfl rfl (hon 11 (by kernel_rfl)) rfl
            have e36 : a.tmps[36]? = some (.string (strOfNums t262)) := by rw [ha]; exact putSel_on (e := (13, 36, .string (strOfNums t262))) 9 rfl rfl (hon 13 (by kernel_rfl)) rfl
            have e31 : a.tmps[31]? = some (.bool ((strOfNums t247).toList == (strOfNums t253).toList)) := by rw [ha]; exact putSel_on (e := (8, 31, .bool ((strOfNums t247).toList == (strOfNums t253).toList))) 4 rfl rfl (hon 8 (by kernel_rfl)) rfl
            replace ha := Aside0.mk ha
            have HO249 := Aside0.mk Q_HO249
            have HO252 := Aside0.mk Q_HO252
            have HO255 := Aside0.mk Q_HO255
            have HO258 := Aside0.mk Q_HO258
            have HO261 := Aside0.mk Q_HO261
            have HO264 := Aside0.mk Q_HO264
            have HB := Aside0.mk Q_HB
            have HO267 := Aside0.mk (Q_HO267 (hon 10 (by kernel_rfl)))
            refine value_ (w1 := w') (v := .bool ((strOfNums t265).toList == (strOfNums t262).toList)) (wanted_on rfl rfl rfl (e31.trans (by first | rfl | (simp [*]; done)))) rfl ?_ ?_
            · go_simp
              (try simp only [i64_w])
              try rfl
              all_goals (first | rfl | (simp [bne]; done))
            refine hK.out _ _ ⟨v266, (by rw [ha.out]; exact putSel_upk 10 hb_ rfl rfl rfl), Q_HO249, Q_HO252, Q_HO255, Q_HO258, Q_HO261, Q_HO264, Q_HB, Q_HO267⟩
          refine steps_cons ?_ ?_
          · rintro b a w' ⟨v266, ha, Q_HO249, Q_HO252, Q_HO255, Q_HO258, Q_HO261, Q_HO264, Q_HB, Q_HO267⟩ hb_ hon hoff
            refine ⟨_, rfl, fun K hK => ?_⟩
            have e31 : a.tmps[31]? = some (.bool ((strOfNums t247).toList == (strOfNums t253).toList)) := by rw [ha]; exact putSel_on (e := (8, 31, .bool ((strOfNums t247).toList == (strOfNums t253).toList))) 4 rfl rfl (hon 8 (by kernel_rfl)) rfl
            have e37 : a.tmps[37]? = some (.bool ((strOfNums t265).toList == (strOfNums t262).toList)) := by rw [ha]; exact putSel_on (e := (14, 37, .bool ((strOfNums t265).toList == (strOfNums t262).toList))) 10 rfl rfl (hon 14 (by kernel_rfl)) rfl
            replace ha := Aside0.mk ha
            have HO249 := Aside0.mk Q_HO249
            have HO252 := Aside0.mk Q_HO252
            have HO255 := Aside0.mk Q_HO255
            have HO258 := Aside0.mk Q_HO258
            have HO261 := Aside0.mk Q_HO261
            have HO264 := Aside0.mk Q_HO264
            have HB := Aside0.mk Q_HB
            have HO267 := Aside0.mk (Q_HO267 (hon 10 (by kernel_rfl)))
            refine value_ (w1 := w') (v := .bool ((strOfNums t265).toList == (strOfNums t262).toList)) (by rfl) rfl ?_ ?_
            · go_simp
              (try simp only [i64_w])
              try rfl
              all_goals (first | rfl | (simp [bne]; done))
            refine hK.out _ _ ⟨v266, (by rw [ha.out]; exact putSel_upk 11 hb_ rfl rfl rfl), Q_HO249, Q_HO252, Q_HO255, Q_HO258, Q_HO261, Q_HO264, Q_HB, Q_HO267⟩
          refine steps_cons ?_ ?_
          · rintro b a w' ⟨v266, ha, Q_HO249, Q_HO252, Q_HO255, Q_HO258, Q_HO261, Q_HO264, Q_HB, Q_HO267⟩ hb_ hon hoff
            refine ⟨_, rfl, fun K hK => ?_⟩
            have e38 : a.tmps[38]? = some (.bool ((strOfNums t265).toList == (strOfNums t262).toList)) := by rw [ha]; exact putSel_on (e := (15, 38, .bool ((strOfNums t265).toList == (strOfNums t262).toList))) 11 rfl rfl (hon 15 (by kernel_rfl)) rfl
            replace ha := Aside0.mk ha
            have HO249 := Aside0.mk Q_HO249
            have HO252 := Aside0.mk Q_HO252
            have HO255 := Aside0.mk Q_HO255
            have HO258 := Aside0.mk Q_HO258
            have HO261 := Aside0.mk Q_HO261
            have HO264 := Aside0.mk Q_HO264
            have HB := Aside0.mk Q_HB
            have HO267 := Aside0.mk (Q_HO267 (hon 10 (by kernel_rfl)))
            refine value_ (w1 := w') (v := .bool ((strOfNums t265).toList == (strOfNums t262).toList)) (by rfl) rfl ?_ ?_
            · go_simp
              (try simp only [i64_w])
              try rfl
              all_goals (first | rfl | (simp [bne]; done))
            refine hK.out _ _ ⟨v266, (by rw [ha.out]; exact putSel_upk 12 hb_ rfl rfl rfl), Q_HO249, Q_HO252, Q_HO255, Q_HO258, Q_HO261, Q_HO264, Q_HB, Q_HO267⟩
          refine steps_cons ?_ ?_
          · rintro b a w' ⟨v266, ha, Q_HO249, Q_HO252, Q_HO255, Q_HO258, Q_HO261, Q_HO264, Q_HB, Q_HO267⟩ hb_ hon hoff
            refine ⟨_, rfl, fun K hK => ?_⟩
            have e4 : a.tmps[4]? = some (.slice Ao23 t247.length co23) := by rw [ha]; exact (putSel_off rfl).trans rfl
            have e39 : a.tmps[39]? = some (.bool ((strOfNums t265).toList == (strOfNums t262).toList)) := by rw [ha]; exact putSel_on (e := (16, 39, .bool ((strOfNums t265).toList == (strOfNums t262).toList))) 12 rfl rfl (hon 16 (by kernel_rfl)) rfl
            replace ha := Aside0.mk ha
            have HO249 := Aside0.mk Q_HO249
            have HO252 := Aside0.mk Q_HO252
            have HO255 := Aside0.mk Q_HO255
            have HO258 := Aside0.mk Q_HO258
            have HO261 := Aside0.mk Q_HO261
            have HO264 := Aside0.mk Q_HO264
            have HB := Aside0.mk Q_HB
            have HO267 := Aside0.mk (Q_HO267 (hon 10 (by kernel_rfl)))
            refine value_ (w1 := w') (v := .slice Ao23 t247.length co23) (wanted_on rfl rfl rfl (e39.trans (by first | rfl | (simp [*]; done)))) rfl ?_ ?_
            · go_simp
              (try simp only [i64_w])
              try rfl
              all_goals (first | rfl | (simp [bne]; done))
            refine hK.out _ _ ⟨v266, (by rw [ha.out]; exact putSel_upk 13 hb_ rfl rfl rfl), Q_HO249, Q_HO252, Q_HO255, Q_HO258, Q_HO261, Q_HO264, Q_HB, Q_HO267⟩
          refine steps_cons ?_ ?_
          · rintro b a w' ⟨v266, ha, Q_HO249, Q_HO252, Q_HO255, Q_HO258, Q_HO261, Q_HO264, Q_HB, Q_HO267⟩ hb_ hon hoff
            refine ⟨_, rfl, fun K hK => ?_⟩
            have e40 : a.tmps[40]? = some (.slice Ao23 t247.length co23) := by rw [ha]; exact putSel_on (e := (17, 40, .slice Ao23 t247.length co23)) 13 rfl rfl (hon 17 (by kernel_rfl)) rfl
            have e39 : a.tmps[39]? = some (.bool ((strOfNums t265).toList == (strOfNums t262).toList)) := by rw [ha]; exact putSel_on (e := (16, 39, .bool ((strOfNums t265).toList == (strOfNums t262).toList))) 12 rfl rfl (hon 16 (by kernel_rfl)) rfl
            replace ha := Aside0.mk ha
            have HO249 := Aside0.mk Q_HO249
            have HO252 := Aside0.mk Q_HO252
            have HO255 := Aside0.mk Q_HO255
            have HO258 := Aside0.mk Q_HO258
            have HO261 := Aside0.mk Q_HO261
            have HO264 := Aside0.mk Q_HO264
            have HB := Aside0.mk Q_HB
            have HO267 := Aside0.mk (Q_HO267 (hon 10 (by kernel_rfl)))
            refine value_ (w1 := w') (v := .int .i64 (t247.length : Int)) (wanted_on rfl rfl rfl (e39.trans (by first | rfl | (simp [*]; done)))) rfl ?_ ?_
            · go_simp
              (try simp only [i64_w])
              try rfl
              all_goals (first | rfl | (simp [bne]; done))
            refine hK.out _ _ ⟨v266, (by rw [ha.out]; exact putSel_upk 14 hb_ rfl rfl rfl), Q_HO249, Q_HO252, Q_HO255, Q_HO258, Q_HO261, Q_HO264, Q_HB, Q_HO267⟩
          refine steps_cons ?_ ?_
          · rintro b a w' ⟨v266, ha, Q_HO249, Q_HO252, Q_HO255, Q_HO258, Q_HO261, Q_HO264, Q_HB, Q_HO267⟩ hb_ hon hoff
            refine ⟨_, rfl, fun K hK => ?_⟩
            have e41 : a.tmps[41]? = some (.int .i64 (t247.length : Int)) := by rw [ha]; exact putSel_on (e := (18, 41, .int .i64 (t247.length : Int))) 14 rfl rfl (hon 18 (by kernel_rfl)) rfl
            have e39 : a.tmps[39]? = some (.bool ((strOfNums t265).toList == (strOfNums t262).toList)) := by rw [ha]; exact putSel_on (e := (16, 39, .bool ((strOfNums t265).toList == (strOfNums t262).toList))) 12 rfl rfl (hon 16 (by kernel_rfl)) rfl
            replace ha := Aside0.mk ha
            have HO249 := Aside0.mk Q_HO249
            have HO252 := Aside0.mk Q_HO252
            have HO255 := Aside0.mk Q_HO255
            have HO258 := Aside0.mk Q_HO258
            have HO261 := Aside0.mk Q_HO261
            have HO264 := Aside0.mk Q_HO264
            have HB := Aside0.mk Q_HB
            have HO267 := Aside0.mk (Q_HO267 (hon 10 (by kernel_rfl)))
            refine value_ (w1 := w') (v := .bool ((t247.length : Int) == 4)) (wanted_on rfl rfl rfl (e39.trans (by first | rfl | (simp [*]; done)))) rfl ?_ ?_
            · go_simp
              (try simp only [i64_w])
              try rfl
              all_goals (first | rfl | (simp [bne]; done))
            refine hK.out _ _ ⟨v266, (by rw [ha.out]; exact putSel_upk 15 hb_ rfl rfl rfl), Q_HO249, Q_HO252, Q_HO255, Q_HO258, Q_HO261, Q_HO264, Q_HB, Q_HO267⟩
          refine steps_cons ?_ ?_
          · rintro b a w' ⟨v266, ha, Q_HO249, Q_HO252, Q_HO255, Q_HO258, Q_HO261, Q_HO264, Q_HB, Q_HO267⟩ hb_ hon hoff
            refine ⟨_, rfl, fun K hK => ?_⟩
            have e39 : a.tmps[39]? = some (.bool ((strOfNums t265).toList == (strOfNums t262).toList)) := by rw [ha]; exact putSel_on (e := (16, 39, .bool ((strOfNums t265).toList == (strOfNums t262).toList))) 12 rfl rfl (hon 16 (by kernel_rfl)) rfl
            have e42 : a.tmps[42]? = some (.bool ((t247.length : Int) == 4)) := by rw [ha]; exact putSel_on (e := (19, 42, .bool ((t247.length : Int) == 4))) 15 rfl rfl (hon 19 (by kernel_rfl)) rfl
            replace ha := Aside0.mk ha
            have HO249 := Aside0.mk Q_HO249
            have HO252 := Aside0.mk Q_HO252
            have HO255 := Aside0.mk Q_HO255
            have HO258 := Aside0.mk Q_HO258
            have HO261 := Aside0.mk Q_HO261
            have HO264 := Aside0.mk Q_HO264
            have HB := Aside0.mk Q_HB
            have HO267 := Aside0.mk (Q_HO267 (hon 10 (by kernel_rfl)))
            refine value_ (w1 := w') (v := .bool ((t247.length : Int) == 4)) (by rfl) rfl ?_ ?_
            · go_simp
              (try simp only [i64_w])
              try rfl
              all_goals (first | rfl | (simp [bne]; done))
            refine hK.out _ _ ⟨v266, (by rw [ha.out]; exact putSel_upk 16 hb_ rfl rfl rfl), Q_HO249, Q_HO252, Q_HO255, Q_HO258, Q_HO261, Q_HO264, Q_HB, Q_HO267⟩
          refine steps_cons ?_ ?_
          · rintro b a w' ⟨v266, ha, Q_HO249, Q_HO252, Q_HO255, Q_HO258, Q_HO261, Q_HO264, Q_HB, Q_HO267⟩ hb_ hon hoff
            refine ⟨_, rfl, fun K hK => ?_⟩
            have e43 : a.tmps[43]? = some (.bool ((t247.length : Int) == 4)) := by rw [ha]; exact putSel_on (e := (20, 43, .bool ((t247.length : Int) == 4))) 16 rfl rfl (hon 20 (by kernel_rfl)) rfl
            replace ha := Aside0.mk ha
            have HO249 := Aside0.mk Q_HO249
            have HO252 := Aside0.mk Q_HO252
            have HO255 := Aside0.mk Q_HO255
            have HO258 := Aside0.mk Q_HO258
            have HO261 := Aside0.mk Q_HO261
            have HO264 := Aside0.mk Q_HO264
            have HB := Aside0.mk Q_HB
            have HO267 := Aside0.mk (Q_HO267 (hon 10 (by kernel_rfl)))
            refine value_ (w1 := w') (v := .bool ((t247.length : Int) == 4)) (by rfl) rfl ?_ ?_
            · go_simp
              (try simp only [i64_w])
              try rfl
              all_goals (first | rfl | (simp [bne]; done))
            refine hK.out _ _ ⟨v266, (by rw [ha.out]; exact putSel_upk 17 hb_ rfl rfl rfl), Q_HO249, Q_HO252, Q_HO255, Q_HO258, Q_HO261, Q_HO264, Q_HB, Q_HO267⟩
          exact steps_nil
        rintro b a w28 hall ⟨v266, ha, Q_HO249, Q_HO252, Q_HO255, Q_HO258, Q_HO261, Q_HO264, Q_HB, Q_HO267⟩
        clear HB HO249 HO252 HO255 HO258 HO261 HO264
        have hb3_ := hall 3 (by kernel_rfl)
        have hb5_ := hall 5 (by kernel_rfl)
        have hb6_ := hall 6 (by kernel_rfl)
        have hb7_ := hall 7 (by kernel_rfl)
        have hb8_ := hall 8 (by kernel_rfl)
        have hb9_ := hall 9 (by kernel_rfl)
        have hb10_ := hall 10 (by kernel_rfl)
        have hb11_ := hall 11 (by kernel_rfl)
        have hb12_ := hall 12 (by kernel_rfl)
        have hb13_ := hall 13 (by kernel_rfl)
        have hb14_ := hall 14 (by kernel_rfl)
        have hb15_ := hall 15 (by kernel_rfl)
        have hb16_ := hall 16 (by kernel_rfl)
        have hb17_ := hall 17 (by kernel_rfl)
        have hb18_ := hall 18 (by kernel_rfl)
        have hb19_ := hall 19 (by kernel_rfl)
        have hb20_ := hall 20 (by kernel_rfl)
        have hb21_ := hall 21 (by kernel_rfl)
        subst ha
        simp only [putSel, hb3_, hb5_, hb6_, hb7_, hb8_, hb9_, hb10_, hb11_, hb12_, hb13_, hb14_, hb15_, hb16_, hb17_, hb18_, hb19_, hb20_, hb21_, if_true, Act.put, List.setIfInBounds_toArray, List.set_cons_zero, List.set_cons_succ]
        have HO249 := Aside0.mk Q_HO249
        clear Q_HO249
        have HO252 := Aside0.mk Q_HO252
        clear Q_HO252
        have HO255 := Aside0.mk Q_HO255
        clear Q_HO255
        have HO258 := Aside0.mk Q_HO258
        clear Q_HO258
        have HO261 := Aside0.mk Q_HO261
        clear Q_HO261
        have HO264 := Aside0.mk Q_HO264
        clear Q_HO264
        have HB := Aside0.mk Q_HB
        clear Q_HB
        have HO267 := Aside0.mk (Q_HO267 hb10_)
        clear Q_HO267
        clear hall hb3_ hb5_ hb6_ hb7_ hb8_ hb9_ hb10_ hb11_ hb12_ hb13_ hb14_ hb15_ hb16_ hb17_ hb18_ hb19_ hb20_ hb21_
        try go_wp2
        go_ret
        exact ⟨by first | rfl | (simp [errW_none, errW_some] <;> rfl) | (rw [HRL_.out] <;> rfl) | (simp only [HRL_.out] <;> rfl) | (simp [*, errW_none, errW_some] <;> rfl), by repeat (first | (with_reducible first | exact HB.out | apply below_alloc | apply pw_below_drewN | apply below_drew1) | exact HB.out)⟩
      · rw [if_neg c12] at H
        have c12b0 : ((strOfNums t265).toList == (strOfNums t262).toList) = false := beq_eq_false_iff_ne.mpr c12
        have c12b1 : ((strOfNums t265).toList != (strOfNums t262).toList) = true := bne_iff_ne.mpr c12
        exact absurd H (by simp)
    · rw [if_neg c10] at H
      have c10b0 : ((strOfNums t247).toList == (strOfNums t253).toList) = false := beq_eq_false_iff_ne.mpr c10
      have c10b1 : ((strOfNums t247).toList != (strOfNums t253).toList) = true := bne_iff_ne.mpr c10
      exact absurd H (by simp)
  · replace c9 := Bool.eq_false_iff.mpr c9
    subst c9
    have H1 : (some false) = some true := by rw [if_neg (show ¬ (false = true) by decide)] at H; exact H
    clear H
    have H := H1
    clear H1
    exact absurd H (by simp)

/-- THE ONE PURE STATEMENT of ridgewaylaw01_OctetSplit: yours. -/
def ridgewaylaw01_OctetSplit.Pure : Prop := ∀ (a0 : Int), (Lit.int .i64 a0).wf = true → ∃ k, ridgewaylaw01_OctetSplit.f k a0 = some true
theorem ridgewaylaw01_OctetSplit.walk (P : ridgewaylaw01_OctetSplit.Pure) (a0 : Int) (w : World) (w0 : (Lit.int .i64 a0).wf = true) :
    Calls Try.prog 6 #[.int .i64 a0] w fun e w' => e = .returned (.bool true) ∧ Below w.heap.size w w' := by
  obtain ⟨k, h⟩ := P a0 w0
  refine (ridgewaylaw01_OctetSplit.calls k a0 w h).mono ?_
  rintro e w' ⟨rfl, hd⟩
  exact ⟨rfl, hd⟩

end Go.Proofs.Ythaiiglklgchlaa.Q
