/- Each call of a Go function comes to what the Lean function of its name answers (written out by wip/tools/xprint.py, checked by Lean); conditions: those in each statement. -/
import Derived.Test.YthaiiglklgchlaaQx0
import Derived.Test.YthaiiglklgchlaaQx1
namespace Go.Proofs.Ythaiiglklgchlaa.Q
open Go.RowKit Go.Proofs.YthaiiglklgchlaaW.PrintWords Go.Proofs.YthaiiglklgchlaaW.PrintLast Go.Proofs.YthaiiglklgchlaaW.PrintMore Go.Proofs.YthaiiglklgchlaaW.PrintX
attribute [local go_sem] max2_int min2_int max_two min_two max_three min_three max_four min_four   -- for this text's walks alone
set_option linter.unusedVariables false
set_option linter.unusedSimpArgs false

/-! ### ridgewaylaw01_OctetTake: function 5 -/
mutual
def ridgewaylaw01_OctetTake.j0 : Nat → List Int → Int → Bool → List Int → List Int → Bool → Bool → Option (Bool)
  | 0, _, _, _, _, _, _, _ => none
  | k + 1, x0, x1, x5, x6, x7, x8, x33 => if x33 = true then (some false) else ((octet_Get.f k x0 x1).bind fun bt238 => (if x8 = true then (if x1 ≥ 1 then (ridgewaylaw01_OctetTake.j1 k x0 x1 x5 x6 x7 x8 bt238.1 bt238.2.1 bt238.2.2 (bt238.2.2 != (decide (x1 ≤ 4)))) else (ridgewaylaw01_OctetTake.j1 k x0 x1 x5 x6 x7 x8 bt238.1 bt238.2.1 bt238.2.2 (bt238.2.2 != false))) else (ridgewaylaw01_OctetTake.j1 k x0 x1 x5 x6 x7 x8 bt238.1 bt238.2.1 bt238.2.2 (bt238.2.2 != false))))
def ridgewaylaw01_OctetTake.j1 : Nat → List Int → Int → Bool → List Int → List Int → Bool → Int → List Int → Bool → Bool → Option (Bool)
  | 0, _, _, _, _, _, _, _, _, _, _ => none
  | k + 1, x0, x1, x5, x6, x7, x8, x9, x10, x11, x51 => if x51 = true then (some false) else (if x11 = true then ((octet_Put.f k ([] : List Int) x9 x1).bind fun t243 => (if (strOfNums t243).toList = (strOfNums x6).toList then (ridgewaylaw01_OctetTake.j2 k x0 x1 x5 x6 x7 x8 x9 ((strOfNums x10).toList != (strOfNums x7).toList)) else (ridgewaylaw01_OctetTake.j2 k x0 x1 x5 x6 x7 x8 x9 true))) else (ridgewaylaw01_OctetTake.j2 k x0 x1 x5 x6 x7 x8 x9 false))
def ridgewaylaw01_OctetTake.j2 : Nat → List Int → Int → Bool → List Int → List Int → Bool → Int → Bool → Option (Bool)
  | 0, _, _, _, _, _, _, _, _ => none
  | k + 1, x0, x1, x5, x6, x7, x8, x9, x68 => if x68 = true then (some false) else (if x8 = true then (if x5 = true then (if (x6.length : Int) = x1 then (if (strOfNums x6).size + (strOfNums x7).size ≤ 9223372036854775807 then (some (((strOfNums x6) ++ (strOfNums x7)).toList == (strOfNums x0).toList)) else (none)) else (some false)) else (some false)) else (if x5 = true then (if (x6.length : Int) = 0 then (if (x7.length : Int) = 0 then (some (x9 == 0)) else (some false)) else (some false)) else (some false)))
end
def ridgewaylaw01_OctetTake.f (k : Nat) (l0 : List Int) (a1 : Int) : Option (Bool) := (ridgewaylaw01_awake.f k).bind fun t230 => (if (l0.length : Int) > 400 then (some t230) else ((octet_Take.f l0 a1).bind fun bt231 => (if a1 ≥ 0 then (ridgewaylaw01_OctetTake.j0 k l0 a1 t230 bt231.1 bt231.2.1 bt231.2.2 (bt231.2.2 != (decide (a1 ≤ (l0.length : Int))))) else (ridgewaylaw01_OctetTake.j0 k l0 a1 t230 bt231.1 bt231.2.1 bt231.2.2 (bt231.2.2 != false)))))
theorem ridgewaylaw01_OctetTake.mono_l : ∀ k, (∀ y0 y1 y2 y3 y4 y5 y6, LeO (ridgewaylaw01_OctetTake.j0 k y0 y1 y2 y3 y4 y5 y6) (ridgewaylaw01_OctetTake.j0 (k + 1) y0 y1 y2 y3 y4 y5 y6)) ∧ (∀ y0 y1 y2 y3 y4 y5 y6 y7 y8 y9, LeO (ridgewaylaw01_OctetTake.j1 k y0 y1 y2 y3 y4 y5 y6 y7 y8 y9) (ridgewaylaw01_OctetTake.j1 (k + 1) y0 y1 y2 y3 y4 y5 y6 y7 y8 y9)) ∧ (∀ y0 y1 y2 y3 y4 y5 y6 y7, LeO (ridgewaylaw01_OctetTake.j2 k y0 y1 y2 y3 y4 y5 y6 y7) (ridgewaylaw01_OctetTake.j2 (k + 1) y0 y1 y2 y3 y4 y5 y6 y7))
  | 0 => ⟨fun _ _ _ _ _ _ _ r h => by simp [ridgewaylaw01_OctetTake.j0] at h, fun _ _ _ _ _ _ _ _ _ _ r h => by simp [ridgewaylaw01_OctetTake.j1] at h, fun _ _ _ _ _ _ _ _ r h => by simp [ridgewaylaw01_OctetTake.j2] at h⟩
  | k + 1 => by
    obtain ⟨ih0, ih1, ih2⟩ := ridgewaylaw01_OctetTake.mono_l k
    refine ⟨?_, ?_, ?_⟩
    · intro y0 y1 y2 y3 y4 y5 y6
      unfold ridgewaylaw01_OctetTake.j0
      repeat' first
      | (with_reducible exact ih0 _ _ _ _ _ _ _)
      | (with_reducible exact ih1 _ _ _ _ _ _ _ _ _ _)
      | (with_reducible exact ih2 _ _ _ _ _ _ _ _)
      | (with_reducible exact octet_Get.mono _ _ _)
      | (with_reducible exact octet_Put.mono _ _ _ _)
      | (with_reducible exact ridgewaylaw01_awake.mono _)
      | (with_reducible exact LeO.refl _)
      | (with_reducible exact LeO.none _)
      | (with_reducible refine LeO.ite ?_ ?_)
      | (with_reducible refine LeO.bind ?_ (fun _ => ?_))
      | exact ih0 _ _ _ _ _ _ _
      | exact ih1 _ _ _ _ _ _ _ _ _ _
      | exact ih2 _ _ _ _ _ _ _ _
      | exact octet_Get.mono _ _ _
      | exact octet_Put.mono _ _ _ _
      | exact ridgewaylaw01_awake.mono _
      | exact LeO.none _
      | refine LeO.ite ?_ ?_
      | refine LeO.bind ?_ (fun _ => ?_)
    · intro y0 y1 y2 y3 y4 y5 y6 y7 y8 y9
      unfold ridgewaylaw01_OctetTake.j1
      repeat' first
      | (with_reducible exact ih0 _ _ _ _ _ _ _)
      | (with_reducible exact ih1 _ _ _ _ _ _ _ _ _ _)
      | (with_reducible exact ih2 _ _ _ _ _ _ _ _)
      | (with_reducible exact octet_Get.mono _ _ _)
      | (with_reducible exact octet_Put.mono _ _ _ _)
      | (with_reducible exact ridgewaylaw01_awake.mono _)
      | (with_reducible exact LeO.refl _)
      | (with_reducible exact LeO.none _)
      | (with_reducible refine LeO.ite ?_ ?_)
      | (with_reducible refine LeO.bind ?_ (fun _ => ?_))
      | exact ih0 _ _ _ _ _ _ _
      | exact ih1 _ _ _ _ _ _ _ _ _ _
      | exact ih2 _ _ _ _ _ _ _ _
      | exact octet_Get.mono _ _ _
      | exact octet_Put.mono _ _ _ _
      | exact ridgewaylaw01_awake.mono _
      | exact LeO.none _
      | refine LeO.ite ?_ ?_
      | refine LeO.bind ?_ (fun _ => ?_)
    · intro y0 y1 y2 y3 y4 y5 y6 y7
      unfold ridgewaylaw01_OctetTake.j2
      repeat' first
      | (with_reducible exact ih0 _ _ _ _ _ _ _)
      | (with_reducible exact ih1 _ _ _ _ _ _ _ _ _ _)
      | (with_reducible exact ih2 _ _ _ _ _ _ _ _)
      | (with_reducible exact octet_Get.mono _ _ _)
      | (with_reducible exact octet_Put.mono _ _ _ _)
      | (with_reducible exact ridgewaylaw01_awake.mono _)
      | (with_reducible exact LeO.refl _)
      | (with_reducible exact LeO.none _)
      | (with_reducible refine LeO.ite ?_ ?_)
      | (with_reducible refine LeO.bind ?_ (fun _ => ?_))
      | exact ih0 _ _ _ _ _ _ _
      | exact ih1 _ _ _ _ _ _ _ _ _ _
      | exact ih2 _ _ _ _ _ _ _ _
      | exact octet_Get.mono _ _ _
      | exact octet_Put.mono _ _ _ _
      | exact ridgewaylaw01_awake.mono _
      | exact LeO.none _
      | refine LeO.ite ?_ ?_
      | refine LeO.bind ?_ (fun _ => ?_)
theorem ridgewaylaw01_OctetTake.mono : ∀ a0 a1 k, LeO (ridgewaylaw01_OctetTake.f k a0 a1) (ridgewaylaw01_OctetTake.f (k + 1) a0 a1) := by
  intro a0 a1 k
  obtain ⟨ih0, ih1, ih2⟩ := ridgewaylaw01_OctetTake.mono_l k
  unfold ridgewaylaw01_OctetTake.f
  repeat' first
      | (with_reducible exact ih0 _ _ _ _ _ _ _)
      | (with_reducible exact ih1 _ _ _ _ _ _ _ _ _ _)
      | (with_reducible exact ih2 _ _ _ _ _ _ _ _)
      | (with_reducible exact octet_Get.mono _ _ _)
      | (with_reducible exact octet_Put.mono _ _ _ _)
      | (with_reducible exact ridgewaylaw01_awake.mono _)
      | (with_reducible exact LeO.refl _)
      | (with_reducible exact LeO.none _)
      | (with_reducible refine LeO.ite ?_ ?_)
      | (with_reducible refine LeO.bind ?_ (fun _ => ?_))
      | exact ih0 _ _ _ _ _ _ _
      | exact ih1 _ _ _ _ _ _ _ _ _ _
      | exact ih2 _ _ _ _ _ _ _ _
      | exact octet_Get.mono _ _ _
      | exact octet_Put.mono _ _ _ _
      | exact ridgewaylaw01_awake.mono _
      | exact LeO.none _
      | refine LeO.ite ?_ ?_
      | refine LeO.bind ?_ (fun _ => ?_)
def ridgewaylaw01_OctetTake.T10 : Bool × List (List Nat × List Nat) := (true, [([], []), ([0], [0]), ([1], [1]), ([1], [1]), ([2, 3, 1, 1], [1, 2, 3]), ([4, 1], [1, 4]), ([1], [1]), ([6, 1], [1, 6]), ([5, 7, 1], [1, 5, 7]), ([8, 4, 1], [1, 8]), ([9], [9]), ([10, 9], [9, 10]), ([9], [9]), ([12, 9], [9, 12]), ([11, 13, 9], [9, 11, 13]), ([9, 14, 1], [1, 9, 14]), ([1, 15], [1, 15])])
def ridgewaylaw01_OctetTake.B10 : List Nat := [0, 1, 3, 3, 15, 31, 3, 67, 255, 511, 1023, 2047, 1023, 5119, 16383, 32767, 65535]
theorem ridgewaylaw01_OctetTake.tab10 : rtab .any (opsOf Try.f5 10) = ridgewaylaw01_OctetTake.T10 := by kernel_rfl
theorem ridgewaylaw01_OctetTake.bits10 : waitsOk ridgewaylaw01_OctetTake.T10.2 ridgewaylaw01_OctetTake.B10 = true := by kernel_rfl
set_option maxHeartbeats 8000000 in
set_option maxRecDepth 100000 in
theorem ridgewaylaw01_OctetTake.calls (k : Nat) (A0 : Option Addr) (c0 : Nat) (l0 : List Int) (a1 : Int) (w : World) (hr0 : Kd.C (Kd.int .u8) w A0 l0.length l0) (hc0 : l0.length ≤ c0) (h : ridgewaylaw01_OctetTake.f k l0 a1 = some true) :
    Calls Try.prog 5 #[.slice A0 l0.length c0, .int .i64 a1] w fun e w' => e = .returned (.bool true) ∧ Below w.heap.size w w' := by
  have HR0 := Aside0.mk hr0
  have HC0 := Aside0.mk hc0
  clear hr0 hc0
  have HB := Aside0.mk (Below.refl w.heap.size w)
  have H : ((ridgewaylaw01_awake.f k).bind fun t230 => (if (l0.length : Int) > 400 then (some t230) else ((octet_Take.f l0 a1).bind fun bt231 => (if a1 ≥ 0 then (ridgewaylaw01_OctetTake.j0 k l0 a1 t230 bt231.1 bt231.2.1 bt231.2.2 (bt231.2.2 != (decide (a1 ≤ (l0.length : Int))))) else (ridgewaylaw01_OctetTake.j0 k l0 a1 t230 bt231.1 bt231.2.1 bt231.2.2 (bt231.2.2 != false)))))) = some true := h
  clear h
  replace H := Option.bind_eq_some_iff.mp H
  obtain ⟨t230, A30, H⟩ := H
  replace H : (if (l0.length : Int) > 400 then (some t230) else ((octet_Take.f l0 a1).bind fun bt231 => (if a1 ≥ 0 then (ridgewaylaw01_OctetTake.j0 k l0 a1 t230 bt231.1 bt231.2.1 bt231.2.2 (bt231.2.2 != (decide (a1 ≤ (l0.length : Int))))) else (ridgewaylaw01_OctetTake.j0 k l0 a1 t230 bt231.1 bt231.2.1 bt231.2.2 (bt231.2.2 != false))))) = some true := H
  have A3 := Aside0.mk A30
  clear A30
  by_cases c4 : (l0.length : Int) > 400
  · rw [if_pos c4] at H
    have c4b0 : decide (400 < (l0.length : Int)) = true := decide_eq_true c4
    have c4b1 : decide (400 < l0.length) = true := decide_eq_true (by omega)
    clear c4
    have HRL_ := Aside0.mk (Option.some.inj H)
    clear H
    go_enter Try.func5, Try.ntmps5
    go_wp2_with (first | ((with_reducible refine gate_callee (f := 7) rfl ?_); refine goesL_ (some 12) rfl rfl Try.func7 (by kernel_rfl) rfl #[] rfl (by (try simp only [List.map_toArray, List.map_cons, List.map_nil]); first | done | rfl | (simp only [List.length_drop, List.length_take]; rfl)) ?_; (with_reducible refine (ridgewaylaw01_awake.calls k  t230 _ A3.out).mono ?_); rintro e w5 ⟨rfl, hb⟩; refine ⟨_, rfl, ?_⟩; have n0_ := Aside0.mk (below_step (by repeat (first | (with_reducible first | exact HB.out | apply below_alloc | apply pw_below_drewN | apply below_drew1) | exact HB.out)) hb); clear HB; have HB := n0_; clear n0_; (try clear hb); (try clear hb2); (try clear hk); (try clear hi)))
    go_ret
    exact ⟨by first | rfl | (simp [errW_none, errW_some] <;> rfl) | (rw [HRL_.out] <;> rfl) | (simp only [HRL_.out] <;> rfl) | (simp [*, errW_none, errW_some] <;> rfl), by repeat (first | (with_reducible first | exact HB.out | apply below_alloc | apply pw_below_drewN | apply below_drew1) | exact HB.out)⟩
  · rw [if_neg c4] at H
    have c4b0 : decide (400 < (l0.length : Int)) = false := decide_eq_false c4
    have c4b1 : decide (400 < l0.length) = false := decide_eq_false (by omega)
    clear c4
    replace H := Option.bind_eq_some_iff.mp H
    obtain ⟨⟨t231, t234, t237⟩, A60, H⟩ := H
    replace H : (if a1 ≥ 0 then (ridgewaylaw01_OctetTake.j0 k l0 a1 t230 t231 t234 t237 (t237 != (decide (a1 ≤ (l0.length : Int))))) else (ridgewaylaw01_OctetTake.j0 k l0 a1 t230 t231 t234 t237 (t237 != false))) = some true := H
    have A6 := Aside0.mk A60
    clear A60
    have HC7 := Aside0.mk H
    clear H
    go_enter Try.func5, Try.ntmps5
    go_upto_region 5 with (first | ((with_reducible refine gate_callee (f := 7) rfl ?_); refine goesL_ (some 12) rfl rfl Try.func7 (by kernel_rfl) rfl #[] rfl (by (try simp only [List.map_toArray, List.map_cons, List.map_nil]); first | done | rfl | (simp only [List.length_drop, List.length_take]; rfl)) ?_; (with_reducible refine (ridgewaylaw01_awake.calls k  t230 _ A3.out).mono ?_); rintro e w8 ⟨rfl, hb⟩; refine ⟨_, rfl, ?_⟩; have n0_ := Aside0.mk (below_step (by repeat (first | (with_reducible first | exact HB.out | apply below_alloc | apply pw_below_drewN | apply below_drew1) | exact HB.out)) hb); clear HB; have HB := n0_; clear n0_; (try clear hb); (try clear hb2); (try clear hk); (try clear hi)) | ((with_reducible refine gate_callee (f := 10) rfl ?_); refine goesL_ (some 20) rfl rfl Try.func10 (by kernel_rfl) rfl #[.slice A0 l0.length c0, .int .i64 a1] rfl (by (try simp only [List.map_toArray, List.map_cons, List.map_nil]); first | done | rfl | (simp only [List.length_drop, List.length_take]; rfl)) ?_; (with_reducible refine (octet_Take.calls (fun k_ => k_ < w.heap.size) _ _ l0 a1 t231 t234 t237 _ ?side1 A6.out).mono ?_); (case side1 => exact Kd.V_mk HC0.out (Kd.F_below (Kd.C_F (Kd.heap_int .u8) HR0.out) (by repeat (first | (with_reducible first | exact HB.out | apply below_alloc | apply pw_below_drewN | apply below_drew1) | exact HB.out)))); rintro e w9 ⟨v232, v235, rfl, ho0, ho1, hb⟩; refine ⟨_, rfl, ?_⟩; have n0_ := Aside0.mk (Kd.V_lower (Kd.V_mono (ok' := fun k_ => True) ho0 (fun k_ hk_ => trivial)) (below_size (by repeat (first | (with_reducible first | exact HB.out | apply below_alloc | apply pw_below_drewN | apply below_drew1) | exact HB.out)))); have n1_ := Aside0.mk (Kd.V_lower (Kd.V_mono (ok' := fun k_ => True) ho1 (fun k_ hk_ => trivial)) (below_size (by repeat (first | (with_reducible first | exact HB.out | apply below_alloc | apply pw_below_drewN | apply below_drew1) | exact HB.out)))); have n2_ := Aside0.mk (below_step (by repeat (first | (with_reducible first | exact HB.out | apply below_alloc | apply pw_below_drewN | apply below_drew1) | exact HB.out)) hb); clear HB; have HO233 := n0_; have HO236 := n1_; have HB := n2_; clear n0_ n1_ n2_; (try clear hb); (try clear hb2); (try clear hk); (try clear hi); (try clear ho0); (try clear ho1)))
    (try simp only [Act.put, List.setIfInBounds_toArray, List.set_cons_zero, List.set_cons_succ])
    go_cut [33] (fun v33 wc => ∃ (kq : Nat) (x33_6 : Bool), v33 = .bool x33_6 ∧ Aside0 (ridgewaylaw01_OctetTake.j0 kq l0 a1 t230 t231 t234 t237 x33_6 = some true) ∧ Aside0 (kq ≤ k) ∧ Aside0 (Kd.V (Kd.int .u8) 5 wc w.heap.size (fun _ => True) v232 t231) ∧ Aside0 (Kd.V (Kd.int .u8) 5 wc w.heap.size (fun _ => True) v235 t234) ∧ Aside0 (Below w.heap.size w wc))
    case first =>
      have H := HC7.out
      clear HC7
      by_cases c10 : a1 ≥ 0
      · rw [if_pos c10] at H
        have c10b0 : decide (0 ≤ a1) = true := decide_eq_true c10
        clear c10
        (first | rw [c10b0] | (simp only [i64_w, i32_w]; rw [c10b0]) | skip)
        have H' := Aside0.mk H
        clear H
        go_wp2
        go_meet
        case rel => exact ⟨_, ((t237 != (decide (a1 ≤ (l0.length : Int))))), (by first | rfl | (simp; done) | (simp [*]; done)), H', ⟨by first | omega | exact Nat.le_refl _⟩, ⟨by (with_reducible repeat (first | apply Kd.V_alloc | apply Kd.V_drewN | apply Kd.V_drew)); exact HO233.out⟩, ⟨by (with_reducible repeat (first | apply Kd.V_alloc | apply Kd.V_drewN | apply Kd.V_drew)); exact HO236.out⟩, ⟨by repeat (first | (with_reducible first | exact HB.out | apply below_alloc | apply pw_below_drewN | apply below_drew1) | exact HB.out)⟩⟩
      · rw [if_neg c10] at H
        have c10b0 : decide (0 ≤ a1) = false := decide_eq_false c10
        clear c10
        (first | rw [c10b0] | (simp only [i64_w, i32_w]; rw [c10b0]) | skip)
        have H' := Aside0.mk H
        clear H
        go_wp2
        go_meet
        case rel => exact ⟨_, ((t237 != false)), (by first | rfl | (simp; done) | (simp [*]; done)), H', ⟨by first | omega | exact Nat.le_refl _⟩, ⟨by (with_reducible repeat (first | apply Kd.V_alloc | apply Kd.V_drewN | apply Kd.V_drew)); exact HO233.out⟩, ⟨by (with_reducible repeat (first | apply Kd.V_alloc | apply Kd.V_drewN | apply Kd.V_drew)); exact HO236.out⟩, ⟨by repeat (first | (with_reducible first | exact HB.out | apply below_alloc | apply pw_below_drewN | apply below_drew1) | exact HB.out)⟩⟩
    case rest =>
      clear HC7
      try clear c1
      try clear p2
      try clear c4
      try clear c4b0
      try clear c4b1
      try clear c5
      try clear c7
      try clear c10
      try clear c10b0
      obtain ⟨kq, x33_6, rfl, HA, HJ6, HO_6, HO_7, HB⟩ := hcut
      cases kq with
      | zero => exact absurd HA.out (by simp [ridgewaylaw01_OctetTake.j0])
      | succ kj6 =>
        have H := HA.out
        clear HA
        simp only [ridgewaylaw01_OctetTake.j0] at H
        by_cases c11 : x33_6 = true
        · subst c11
          have H1 : (some false) = some true := by rw [if_pos rfl] at H; exact H
          clear H
          have H := H1
          clear H1
          exact absurd H (by simp)
        · replace c11 := Bool.eq_false_iff.mpr c11
          subst c11
          have H1 : ((octet_Get.f kj6 l0 a1).bind fun bt238 => (if t237 = true then (if a1 ≥ 1 then (ridgewaylaw01_OctetTake.j1 kj6 l0 a1 t230 t231 t234 t237 bt238.1 bt238.2.1 bt238.2.2 (bt238.2.2 != (decide (a1 ≤ 4)))) else (ridgewaylaw01_OctetTake.j1 kj6 l0 a1 t230 t231 t234 t237 bt238.1 bt238.2.1 bt238.2.2 (bt238.2.2 != false))) else (ridgewaylaw01_OctetTake.j1 kj6 l0 a1 t230 t231 t234 t237 bt238.1 bt238.2.1 bt238.2.2 (bt238.2.2 != false)))) = some true := by rw [if_neg (show ¬ (false = true) by decide)] at H; exact H
          clear H
          have H := H1
          clear H1
          replace H := Option.bind_eq_some_iff.mp H
          obtain ⟨⟨t238, t239, t242⟩, A120, H⟩ := H
          replace H : (if t237 = true then (if a1 ≥ 1 then (ridgewaylaw01_OctetTake.j1 kj6 l0 a1 t230 t231 t234 t237 t238 t239 t242 (t242 != (decide (a1 ≤ 4)))) else (ridgewaylaw01_OctetTake.j1 kj6 l0 a1 t230 t231 t234 t237 t238 t239 t242 (t242 != false))) else (ridgewaylaw01_OctetTake.j1 kj6 l0 a1 t230 t231 t234 t237 t238 t239 t242 (t242 != false))) = some true := H
          have A12 := Aside0.mk A120
          clear A120
          have HC13 := Aside0.mk H
          clear H
          go_upto_region 8 with (first | ((with_reducible refine gate_callee (f := 8) rfl ?_); refine goesL_ (some 37) rfl rfl Try.func8 (by kernel_rfl) rfl #[.slice A0 l0.length c0, .int .i64 a1] rfl (by (try simp only [List.map_toArray, List.map_cons, List.map_nil]); first | done | rfl | (simp only [List.length_drop, List.length_take]; rfl)) ?_; (with_reducible refine (octet_Get.calls kj6 (fun k_ => k_ < w.heap.size) _ _ l0 a1 t238 t239 t242 _ ?side1 A12.out).mono ?_); (case side1 => exact Kd.V_mk HC0.out (Kd.F_below (Kd.C_F (Kd.heap_int .u8) HR0.out) (by repeat (first | (with_reducible first | exact HB.out | apply below_alloc | apply pw_below_drewN | apply below_drew1) | exact HB.out)))); rintro e w14 ⟨v240, rfl, ho0, hb⟩; refine ⟨_, rfl, ?_⟩; have n0_ := Aside0.mk (Kd.V_below (by (with_reducible repeat (first | apply Kd.V_alloc | apply Kd.V_drewN | apply Kd.V_drew)); exact HO_6.out) hb); have n1_ := Aside0.mk (Kd.V_below (by (with_reducible repeat (first | apply Kd.V_alloc | apply Kd.V_drewN | apply Kd.V_drew)); exact HO_7.out) hb); have n2_ := Aside0.mk (Kd.V_lower (Kd.V_mono (ok' := fun k_ => True) ho0 (fun k_ hk_ => trivial)) (below_size (by repeat (first | (with_reducible first | exact HB.out | apply below_alloc | apply pw_below_drewN | apply below_drew1) | exact HB.out)))); have n3_ := Aside0.mk (below_step (by repeat (first | (with_reducible first | exact HB.out | apply below_alloc | apply pw_below_drewN | apply below_drew1) | exact HB.out)) hb); clear HO_6; clear HO_7; clear HB; have HO_6 := n0_; have HO_7 := n1_; have HO241 := n2_; have HB := n3_; clear n0_ n1_ n2_ n3_; (try clear hb); (try clear hb2); (try clear hk); (try clear hi); (try clear ho0)))
          (try simp only [Act.put, List.setIfInBounds_toArray, List.set_cons_zero, List.set_cons_succ])
          go_cut [51] (fun v51 wc => ∃ (kq : Nat) (x51_12 : Bool), v51 = .bool x51_12 ∧ Aside0 (ridgewaylaw01_OctetTake.j1 kq l0 a1 t230 t231 t234 t237 t238 t239 t242 x51_12 = some true) ∧ Aside0 (kq ≤ kj6) ∧ Aside0 (Kd.V (Kd.int .u8) 5 wc w.heap.size (fun _ => True) v232 t231) ∧ Aside0 (Kd.V (Kd.int .u8) 5 wc w.heap.size (fun _ => True) v235 t234) ∧ Aside0 (Kd.V (Kd.int .u8) 5 wc w.heap.size (fun _ => True) v240 t239) ∧ Aside0 (Below w.heap.size w wc))
          case first =>
            have H := HC13.out
            clear HC13
            by_cases c15 : t237 = true
            · subst c15
              have H1 : (if a1 ≥ 1 then (ridgewaylaw01_OctetTake.j1 kj6 l0 a1 t230 t231 t234 true t238 t239 t242 (t242 != (decide (a1 ≤ 4)))) else (ridgewaylaw01_OctetTake.j1 kj6 l0 a1 t230 t231 t234 true t238 t239 t242 (t242 != false))) = some true := by rw [if_pos rfl] at H; exact H
              clear H
              have H := H1
              clear H1
              by_cases c16 : a1 ≥ 1
              · rw [if_pos c16] at H
                have c16b0 : decide (1 ≤ a1) = true := decide_eq_true c16
                clear c16
                (first | rw [c16b0] | (simp only [i64_w, i32_w]; rw [c16b0]) | skip)
                have H' := Aside0.mk H
                clear H
                go_wp2
                go_meet
                case rel => exact ⟨_, ((t242 != (decide (a1 ≤ 4)))), (by first | rfl | (simp; done) | (simp [*]; done)), H', ⟨by have := HJ6.out; first | omega | exact Nat.le_refl _⟩, ⟨by (with_reducible repeat (first | apply Kd.V_alloc | apply Kd.V_drewN | apply Kd.V_drew)); exact HO_6.out⟩, ⟨by (with_reducible repeat (first | apply Kd.V_alloc | apply Kd.V_drewN | apply Kd.V_drew)); exact HO_7.out⟩, ⟨by (with_reducible repeat (first | apply Kd.V_alloc | apply Kd.V_drewN | apply Kd.V_drew)); exact HO241.out⟩, ⟨by repeat (first | (with_reducible first | exact HB.out | apply below_alloc | apply pw_below_drewN | apply below_drew1) | exact HB.out)⟩⟩
              · rw [if_neg c16] at H
                have c16b0 : decide (1 ≤ a1) = false := decide_eq_false c16
                clear c16
                (first | rw [c16b0] | (simp only [i64_w, i32_w]; rw [c16b0]) | skip)
                have H' := Aside0.mk H
                clear H
                go_wp2
                go_meet
                case rel => exact ⟨_, ((t242 != false)), (by first | rfl | (simp; done) | (simp [*]; done)), H', ⟨by have := HJ6.out; first | omega | exact Nat.le_refl _⟩, ⟨by (with_reducible repeat (first | apply Kd.V_alloc | apply Kd.V_drewN | apply Kd.V_drew)); exact HO_6.out⟩, ⟨by (with_reducible repeat (first | apply Kd.V_alloc | apply Kd.V_drewN | apply Kd.V_drew)); exact HO_7.out⟩, ⟨by (with_reducible repeat (first | apply Kd.V_alloc | apply Kd.V_drewN | apply Kd.V_drew)); exact HO241.out⟩, ⟨by repeat (first | (with_reducible first | exact HB.out | apply below_alloc | apply pw_below_drewN | apply below_drew1) | exact HB.out)⟩⟩
            · replace c15 := Bool.eq_false_iff.mpr c15
              subst c15
              have H1 : (ridgewaylaw01_OctetTake.j1 kj6 l0 a1 t230 t231 t234 false t238 t239 t242 (t242 != false)) = some true := by rw [if_neg (show ¬ (false = true) by decide)] at H; exact H
              clear H
              have H := H1
              clear H1
              have H' := Aside0.mk H
              clear H
              go_wp2
              go_meet
              case rel => exact ⟨_, ((t242 != false)), (by first | rfl | (simp; done) | (simp [*]; done)), H', ⟨by have := HJ6.out; first | omega | exact Nat.le_refl _⟩, ⟨by (with_reducible repeat (first | apply Kd.V_alloc | apply Kd.V_drewN | apply Kd.V_drew)); exact HO_6.out⟩, ⟨by (with_reducible repeat (first | apply Kd.V_alloc | apply Kd.V_drewN | apply Kd.V_drew)); exact HO_7.out⟩, ⟨by (with_reducible repeat (first | apply Kd.V_alloc | apply Kd.V_drewN | apply Kd.V_drew)); exact HO241.out⟩, ⟨by repeat (first | (with_reducible first | exact HB.out | apply below_alloc | apply pw_below_drewN | apply below_drew1) | exact HB.out)⟩⟩
          case rest =>
            clear HC13
            try clear c1
            try clear p2
            try clear c4
            try clear c4b0
            try clear c4b1
            try clear c5
            try clear c7
            try clear c8
            try clear c10
            try clear c10b0
            try clear c11
            try clear c15
            try clear c16
            try clear c16b0
            try clear p2
            obtain ⟨kq, x51_12, rfl, HA, HJ12, HO_6, HO_7, HO_10, HB⟩ := hcut
            cases kq with
            | zero => exact absurd HA.out (by simp [ridgewaylaw01_OctetTake.j1])
            | succ kj12 =>
              have H := HA.out
              clear HA
              simp only [ridgewaylaw01_OctetTake.j1] at H
              by_cases c17 : x51_12 = true
              · subst c17
                have H1 : (some false) = some true := by rw [if_pos rfl] at H; exact H
                clear H
                have H := H1
                clear H1
                exact absurd H (by simp)
              · replace c17 := Bool.eq_false_iff.mpr c17
                subst c17
                have H1 : (if t242 = true then ((octet_Put.f kj12 ([] : List Int) t238 a1).bind fun t243 => (if (strOfNums t243).toList = (strOfNums t231).toList then (ridgewaylaw01_OctetTake.j2 kj12 l0 a1 t230 t231 t234 t237 t238 ((strOfNums t239).toList != (strOfNums t234).toList)) else (ridgewaylaw01_OctetTake.j2 kj12 l0 a1 t230 t231 t234 t237 t238 true))) else (ridgewaylaw01_OctetTake.j2 kj12 l0 a1 t230 t231 t234 t237 t238 false)) = some true := by rw [if_neg (show ¬ (false = true) by decide)] at H; exact H
                clear H
                have H := H1
                clear H1
                have HC18 := Aside0.mk H
                clear H
                go_upto_region 10 with (fail)
                go_cut [68] (fun v68 wc => ∃ (kq : Nat) (x68_17 : Bool), v68 = .bool x68_17 ∧ Aside0 (ridgewaylaw01_OctetTake.j2 kq l0 a1 t230 t231 t234 t237 t238 x68_17 = some true) ∧ Aside0 (kq ≤ kj12) ∧ Aside0 (Kd.V (Kd.int .u8) 5 wc w.heap.size (fun _ => True) v232 t231) ∧ Aside0 (Kd.V (Kd.int .u8) 5 wc w.heap.size (fun _ => True) v235 t234) ∧ Aside0 (Below w.heap.size w wc))
                case first =>
                  have H := HC18.out
                  clear HC18
                  by_cases c19 : t242 = true
                  · subst c19
                    have H1 : ((octet_Put.f kj12 ([] : List Int) t238 a1).bind fun t243 => (if (strOfNums t243).toList = (strOfNums t231).toList then (ridgewaylaw01_OctetTake.j2 kj12 l0 a1 t230 t231 t234 t237 t238 ((strOfNums t239).toList != (strOfNums t234).toList)) else (ridgewaylaw01_OctetTake.j2 kj12 l0 a1 t230 t231 t234 t237 t238 true))) = some true := by rw [if_pos rfl] at H; exact H
                    clear H
                    have H := H1
                    clear H1
                    replace H := Option.bind_eq_some_iff.mp H
                    obtain ⟨t243, A200, H⟩ := H
                    replace H : (if (strOfNums t243).toList = (strOfNums t231).toList then (ridgewaylaw01_OctetTake.j2 kj12 l0 a1 t230 t231 t234 t237 t238 ((strOfNums t239).toList != (strOfNums t234).toList)) else (ridgewaylaw01_OctetTake.j2 kj12 l0 a1 t230 t231 t234 t237 t238 true)) = some true := H
                    have A20 := Aside0.mk A200
                    clear A200
                    by_cases c21 : (strOfNums t243).toList = (strOfNums t231).toList
                    · rw [if_pos c21] at H
                      have c21b0 : ((strOfNums t243).toList == (strOfNums t231).toList) = true := beq_iff_eq.mpr c21
                      have c21b1 : ((strOfNums t243).toList != (strOfNums t231).toList) = false := bne_eq_false_iff_eq.mpr c21
                      clear c21
                      (first | rw [c21b0] | (simp only [i64_w, i32_w]; rw [c21b0]) | skip)
                      have H' := Aside0.mk H
                      clear H
                      obtain ⟨Ao22, co22, eo22⟩ := Kd.V_slice HO_6.out
                      subst eo22
                      obtain ⟨Ao23, co23, eo23⟩ := Kd.V_slice HO_10.out
                      subst eo23
                      obtain ⟨Ao24, co24, eo24⟩ := Kd.V_slice HO_7.out
                      subst eo24
                      try go_wp2
                      have n0_ := Aside0.mk (Kd.V_drew HO_6.out)
                      have n1_ := Aside0.mk (Kd.V_drew HO_7.out)
                      have n2_ := Aside0.mk (Kd.V_drew HO_10.out)
                      have n3_ := Aside0.mk (below_drew1 HB.out)
                      clear HO_6
                      clear HO_7
                      clear HO_10
                      clear HB
                      have HO_6 := n0_
                      have HO_7 := n1_
                      have HO_10 := n2_
                      have HB := n3_
                      clear n0_ n1_ n2_ n3_
                      refine start_ (n := 17) (S := fun w' => True) (ds := []) #[false, false, false, false, false, false, false, false, false, false, false, false, false, false, false, false, false] (by kernel_rfl) rfl rfl trivial (fun hHeld => ?_); refine with_tabW ridgewaylaw01_OctetTake.tab10 ridgewaylaw01_OctetTake.bits10 (fun HT_ HW_ => ?_)
                      generalize wc.drew = w25 at HO_6 HO_7 HO_10 HB hHeld ⊢
                      refine pure_ (i := 0) (N := some 52) (v := ?_) (a' := ?_) #[true, false, false, false, false, false, false, false, false, false, false, false, false, false, false, false, false] rfl rfl (any_of HT_.out (by kernel_rfl)) (fun _ _ _ h => h) (Or.inl ⟨by rfl, ?_⟩) ?_ ?_
                      rotate_left
                      · intro w'
                        go_simp
                        with_reducible rfl
                      rotate_left
                      · simp only [Act.put, List.setIfInBounds_toArray, List.set_cons_zero, List.set_cons_succ, i64_w, i32_w]
                        rfl
                      refine pure_ (i := 1) (N := some 53) (v := ?_) (a' := ?_) #[true, true, false, false, false, false, false, false, false, false, false, false, false, false, false, false, false] rfl rfl (any_of HT_.out (by kernel_rfl)) (fun _ _ _ h => h) (Or.inl ⟨by rfl, ?_⟩) ?_ ?_
                      rotate_left
                      · intro w'
                        go_simp
                        with_reducible rfl
                      rotate_left
                      · simp only [Act.put, List.setIfInBounds_toArray, List.set_cons_zero, List.set_cons_succ, i64_w, i32_w]
                        rfl
                      refine pure_ (i := 2) (N := some 54) (v := ?_) (a' := ?_) #[true, true, true, false, false, false, false, false, false, false, false, false, false, false, false, false, false] rfl rfl (any_of HT_.out (by kernel_rfl)) (fun _ _ _ h => h) (Or.inl ⟨by rfl, ?_⟩) ?_ ?_
                      rotate_left
                      · intro w'
                        go_simp
                        with_reducible rfl
                      rotate_left
                      · simp only [Act.put, List.setIfInBounds_toArray, List.set_cons_zero, List.set_cons_succ, i64_w, i32_w]
                        rfl
                      refine pure_ (i := 3) (N := some 55) (v := ?_) (a' := ?_) #[true, true, true, true, false, false, false, false, false, false, false, false, false, false, false, false, false] rfl rfl (any_of HT_.out (by kernel_rfl)) (fun _ _ _ h => h) (Or.inl ⟨by rfl, ?_⟩) ?_ ?_
                      rotate_left
                      · intro w'
                        go_simp
                        with_reducible rfl
                      rotate_left
                      · simp only [Act.put, List.setIfInBounds_toArray, List.set_cons_zero, List.set_cons_succ, i64_w, i32_w]
                        rfl
                      refine pure_ (i := 6) (N := some 58) (v := ?_) (a' := ?_) #[true, true, true, true, false, false, true, false, false, false, false, false, false, false, false, false, false] rfl rfl (any_of HT_.out (by kernel_rfl)) (fun _ _ _ h => h) (Or.inl ⟨by rfl, ?_⟩) ?_ ?_
                      rotate_left
                      · intro w'
                        go_simp
                        with_reducible rfl
                      rotate_left
                      · simp only [Act.put, List.setIfInBounds_toArray, List.set_cons_zero, List.set_cons_succ, i64_w, i32_w]
                        rfl
                      refine inv_at [4, 5, 7, 8, 9, 10, 11, 12, 13, 14, 15, 16] (fun a0_ b a w' => ∃ (v244 : Value), a = putSel a0_ b [(4, 56, v244), (5, 57, .string (strOfNums t243)), (7, 59, .string (strOfNums t231)), (8, 60, .bool ((strOfNums t243).toList != (strOfNums t231).toList)), (9, 61, .bool ((strOfNums t243).toList != (strOfNums t231).toList)), (10, 62, .slice Ao23 t239.length co23), (11, 63, .string (strOfNums t239)), (12, 64, .slice Ao24 t234.length co24), (13, 65, .string (strOfNums t234)), (14, 66, .bool ((strOfNums t239).toList != (strOfNums t234).toList)), (15, 67, .bool ((strOfNums t239).toList != (strOfNums t234).toList)), (16, 68, .bool ((strOfNums t239).toList != (strOfNums t234).toList))] ∧ (Kd.V (Kd.int .u8) 5 w' w.heap.size (fun _ => True) (.slice Ao23 t239.length co23) t239) ∧ (Kd.V (Kd.int .u8) 5 w' w.heap.size (fun _ => True) (.slice Ao22 t231.length co22) t231) ∧ (Kd.V (Kd.int .u8) 5 w' w.heap.size (fun _ => True) (.slice Ao24 t234.length co24) t234) ∧ (Below w.heap.size w w') ∧ (b 4 = true → Kd.R (Kd.int .u8) 5 w' w.heap.size (fun _ => True) v244 t243)) HT_.out HW_.out (by kernel_rfl) (by kernel_rfl) ?_ ?_ ?_
                      · exact ⟨.bool false, by simp only [putSel, Bool.false_eq_true, if_false], (by first | exact HO_10.out | exact (by (with_reducible repeat (first | apply Kd.V_alloc | apply Kd.V_drewN | apply Kd.V_drew)); first | exact HO_10.out | exact Kd.V_mono HO_10.out (by intro k_ hk; first | exact hk | trivial | (simp only [true_and, and_true, and_assoc] at hk ⊢; first | exact hk | trivial) | simp_all))), (by first | exact HO_6.out | exact (by (with_reducible repeat (first | apply Kd.V_alloc | apply Kd.V_drewN | apply Kd.V_drew)); first | exact HO_6.out | exact Kd.V_mono HO_6.out (by intro k_ hk; first | exact hk | trivial | (simp only [true_and, and_true, and_assoc] at hk ⊢; first | exact hk | trivial) | simp_all))), (by first | exact HO_7.out | exact (by (with_reducible repeat (first | apply Kd.V_alloc | apply Kd.V_drewN | apply Kd.V_drew)); first | exact HO_7.out | exact Kd.V_mono HO_7.out (by intro k_ hk; first | exact hk | trivial | (simp only [true_and, and_true, and_assoc] at hk ⊢; first | exact hk | trivial) | simp_all))), (by first | exact HB.out | exact (by repeat (first | (with_reducible first | exact HB.out | apply below_alloc | apply pw_below_drewN | apply below_drew1) | exact HB.out))), fun h_ => absurd h_ (by decide)⟩
                      · skip
                        clear HB HO_10 HO_6 HO_7
                        refine steps_cons ?_ ?_
                        · rintro b a w' ⟨v244, ha, Q_HO_10, Q_HO_6, Q_HO_7, Q_HB, Q_HO245⟩ hb_ hon hoff
                          refine ⟨_, rfl, fun K hK => ?_⟩
                          have e54 : a.tmps[54]? = some (.int .i64 t238) := by rw [ha]; exact (putSel_off rfl).trans rfl
                          have e55 : a.tmps[55]? = some (.int .i64 a1) := by rw [ha]; exact (putSel_off rfl).trans rfl
                          have e53 : a.tmps[53]? = some (.bool true) := by rw [ha]; exact (putSel_off rfl).trans rfl
                          replace ha := Aside0.mk ha
                          have HO_10 := Aside0.mk Q_HO_10
                          have HO_6 := Aside0.mk Q_HO_6
                          have HO_7 := Aside0.mk Q_HO_7
                          have HB := Aside0.mk Q_HB
                          refine goes_ Try.func12 (by kernel_rfl) rfl #[.slice none 0 0, .int .i64 t238, .int .i64 a1] (wanted_on rfl rfl rfl (e53.trans (by first | rfl | (simp [*]; done)))) rfl rfl (by first | (simp only [List.map_toArray, List.map_cons, List.map_nil, Act.eval, Array.getD_eq_getD_getElem?, Option.getD_some, e54, e55, e53]; done) | (simp only [List.map_toArray, List.map_cons, List.map_nil, Act.eval, Array.getD_eq_getD_getElem?, Option.getD_some, e54, e55, e53]; rfl)) ?_
                          refine (octet_Put.calls kj12 _ _ ([] : List Int) t238 a1 t243 _ ?side1 ?side2 A20.out).mono ?_
                          (case side1 => exact Kd.C_nil _ _)
                          (case side2 => exact Nat.le_refl _)
                          rintro e w27 ⟨v244, rfl, ho0, hb⟩
                          refine ⟨_, rfl, ?_⟩
                          have n0_ := Aside0.mk (Kd.V_elder' (by (with_reducible repeat (first | apply Kd.V_alloc | apply Kd.V_drewN | apply Kd.V_drew)); first | exact HO_6.out | exact Kd.V_mono HO_6.out (by intro k_ hk; first | exact hk | trivial | (simp only [true_and, and_true, and_assoc] at hk ⊢; first | exact hk | trivial) | simp_all)) (Kd.R_base ho0) hb)
                          have n1_ := Aside0.mk (Kd.V_elder' (by (with_reducible repeat (first | apply Kd.V_alloc | apply Kd.V_drewN | apply Kd.V_drew)); first | exact HO_7.out | exact Kd.V_mono HO_7.out (by intro k_ hk; first | exact hk | trivial | (simp only [true_and, and_true, and_assoc] at hk ⊢; first | exact hk | trivial) | simp_all)) (Kd.R_base ho0) hb)
                          have n2_ := Aside0.mk (Kd.V_elder' (by (with_reducible repeat (first | apply Kd.V_alloc | apply Kd.V_drewN | apply Kd.V_drew)); first | exact HO_10.out | exact Kd.V_mono HO_10.out (by intro k_ hk; first | exact hk | trivial | (simp only [true_and, and_true, and_assoc] at hk ⊢; first | exact hk | trivial) | simp_all)) (Kd.R_base ho0) hb)
                          have n3_ := Aside0.mk (Kd.R_lower ho0 (below_size (by repeat (first | (with_reducible first | exact HB.out | apply below_alloc | apply pw_below_drewN | apply below_drew1) | exact HB.out))))
                          have n4_ := Aside0.mk (below_step (by repeat (first | (with_reducible first | exact HB.out | apply below_alloc | apply pw_below_drewN | apply below_drew1) | exact HB.out)) hb)
                          clear HO_6
                          clear HO_7
                          clear HO_10
                          clear HB
                          have HO_6 := n0_
                          have HO_7 := n1_
                          have HO_10 := n2_
                          have HO245 := n3_
                          have HB := n4_
                          clear n0_ n1_ n2_ n3_ n4_
                          (try clear hb)
                          (try clear hb2)
                          (try clear hk)
                          (try clear hi)
                          (try clear ho0)
                          refine hK.out _ _ ⟨v244, (by rw [ha.out]; exact putSel_upk 0 hb_ rfl rfl rfl), (by (with_reducible repeat (first | apply Kd.V_alloc | apply Kd.V_drewN | apply Kd.V_drew)); exact Kd.V_mono HO_10.out (by intro _ hk; first | exact hk.2 | exact hk | trivial | (simp only [true_and, and_true, and_assoc] at hk ⊢; first | exact hk | trivial) | simp_all)), (by (with_reducible repeat (first | apply Kd.V_alloc | apply Kd.V_drewN | apply Kd.V_drew)); exact Kd.V_mono HO_6.out (by intro _ hk; first | exact hk.2 | exact hk | trivial | (simp only [true_and, and_true, and_assoc] at hk ⊢; first | exact hk | trivial) | simp_all)), (by (with_reducible repeat (first | apply Kd.V_alloc | apply Kd.V_drewN | apply Kd.V_drew)); exact Kd.V_mono HO_7.out (by intro _ hk; first | exact hk.2 | exact hk | trivial | (simp only [true_and, and_true, and_assoc] at hk ⊢; first | exact hk | trivial) | simp_all)), (by repeat (first | (with_reducible first | exact HB.out | apply below_alloc | apply pw_below_drewN | apply below_drew1) | exact HB.out)), fun _ => (by (with_reducible repeat (first | apply Kd.R_alloc | apply Kd.R_drewN | apply Kd.R_drew)); first | exact HO245.out | exact Kd.R_mono HO245.out (by intro k_ hk; first | exact hk | trivial | (simp only [true_and, and_true, and_assoc] at hk ⊢; first | exact hk | trivial) | simp_all))⟩
                        refine steps_cons ?_ ?_
                        · rintro b a w' ⟨v244, ha, Q_HO_10, Q_HO_6, Q_HO_7, Q_HB, Q_HO245⟩ hb_ hon hoff
                          refine ⟨_, rfl, fun K hK => ?_⟩
                          have e56 : a.tmps[56]? = some (v244) := by rw [ha]; exact putSel_on (e := (4, 56, v244)) 0 rfl rfl (hon 4 (by kernel_rfl)) rfl
                          have e53 : a.tmps[53]? = some (.bool true) := by rw [ha]; exact (putSel_off rfl).trans rfl
                          replace ha := Aside0.mk ha
                          have HO_10 := Aside0.mk Q_HO_10
                          have HO_6 := Aside0.mk Q_HO_6
                          have HO_7 := Aside0.mk Q_HO_7
                          have HB := Aside0.mk Q_HB
                          have HO245 := Aside0.mk (Q_HO245 (hon 4 (by kernel_rfl)))
                          obtain ⟨Ao5_0, co5_0, eo_⟩ := Kd.R_slice HO245.out
                          subst eo_
                          have hcv5_ := own_string (P := Try.prog) Try.underlying22 Try.underlying5 Try.underlying9 (Kd.own_of_R HO245.out)
                          refine value_ (w1 := w') (v := .string (strOfNums t243)) (wanted_on rfl rfl rfl (e53.trans (by first | rfl | (simp [*]; done)))) rfl ?_ ?_
                          · go_simp
                            (try simp only [i64_w])
                            try rfl
                            all_goals (first | rfl | (simp [bne]; done))
                          refine hK.out _ _ ⟨.slice Ao5_0 t243.length co5_0, (by rw [ha.out]; exact putSel_upk 1 hb_ rfl rfl rfl), Q_HO_10, Q_HO_6, Q_HO_7, Q_HB, Q_HO245⟩
                        refine steps_cons ?_ ?_
                        · rintro b a w' ⟨v244, ha, Q_HO_10, Q_HO_6, Q_HO_7, Q_HB, Q_HO245⟩ hb_ hon hoff
                          refine ⟨_, rfl, fun K hK => ?_⟩
                          have e58 : a.tmps[58]? = some (.slice Ao22 t231.length co22) := by rw [ha]; exact (putSel_off rfl).trans rfl
                          have e53 : a.tmps[53]? = some (.bool true) := by rw [ha]; exact (putSel_off rfl).trans rfl
                          replace ha := Aside0.mk ha
                          have HO_10 := Aside0.mk Q_HO_10
                          have HO_6 := Aside0.mk Q_HO_6
                          have HO_7 := Aside0.mk Q_HO_7
                          have HB := Aside0.mk Q_HB
                          have hcv7_ := V_string (P := Try.prog) Try.underlying22 Try.underlying5 Try.underlying9 HO_6.out
                          refine value_ (w1 := w') (v := .string (strOfNums t231)) (wanted_on rfl rfl rfl (e53.trans (by first | rfl | (simp [*]; done)))) rfl ?_ ?_
                          · go_simp
                            (try simp only [i64_w])
                            try rfl
                            all_goals (first | rfl | (simp [bne]; done))
                          refine hK.out _ _ ⟨v244, (by rw [ha.out]; exact putSel_upk 2 hb_ rfl rfl rfl), Q_HO_10, Q_HO_6, Q_HO_7, Q_HB, Q_HO245⟩
                        refine steps_cons ?_ ?_
                        · rintro b a w' ⟨v244, ha, Q_HO_10, Q_HO_6, Q_HO_7, Q_HB, Q_HO245⟩ hb_ hon hoff
                          refine ⟨_, rfl, fun K hK => ?_⟩
                          have e57 : a.tmps[57]? = some (.string (strOfNums t243)) := by rw [ha]; exact putSel_on (e := (5, 57, .string (strOfNums t243))) 1 rfl rfl (hon 5 (by kernel_rfl)) rfl
                          have e59 : a.tmps[59]? = some (.string (strOfNums t231)) := by rw [ha]; exact putSel_on (e := (7, 59, .string (strOfNums t231))) 2 rfl rfl (hon 7 (by kernel_rfl)) rfl
                          have e53 : a.tmps[53]? = some (.bool true) := by rw [ha]; exact (putSel_off rfl).trans rfl
                          replace ha := Aside0.mk ha
                          have HO_10 := Aside0.mk Q_HO_10
                          have HO_6 := Aside0.mk Q_HO_6
                          have HO_7 := Aside0.mk Q_HO_7
                          have HB := Aside0.mk Q_HB
                          have HO245 := Aside0.mk (Q_HO245 (hon 4 (by kernel_rfl)))
                          refine value_ (w1 := w') (v := .bool ((strOfNums t243).toList != (strOfNums t231).toList)) (wanted_on rfl rfl rfl (e53.trans (by first | rfl | (simp [*]; done)))) rfl ?_ ?_
                          · go_simp
                            (try simp only [i64_w])
                            try rfl
                            all_goals (first | rfl | (simp [bne]; done))
                          refine hK.out _ _ ⟨v244, (by rw [ha.out]; exact putSel_upk 3 hb_ rfl rfl rfl), Q_HO_10, Q_HO_6, Q_HO_7, Q_HB, Q_HO245⟩
                        refine steps_cons ?_ ?_
                        · rintro b a w' ⟨v244, ha, Q_HO_10, Q_HO_6, Q_HO_7, Q_HB, Q_HO245⟩ hb_ hon hoff
                          refine ⟨_, rfl, fun K hK => ?_⟩
                          have e60 : a.tmps[60]? = some (.bool ((strOfNums t243).toList != (strOfNums t231).toList)) := by rw [ha]; exact putSel_on (e := (8, 60, .bool ((strOfNums t243).toList != (strOfNums t231).toList))) 3 rfl rfl (hon 8 (by kernel_rfl)) rfl
                          have e53 : a.tmps[53]? = some (.bool true) := by rw [ha]; exact (putSel_off rfl).trans rfl
                          replace ha := Aside0.mk ha
                          have HO_10 := Aside0.mk Q_HO_10
                          have HO_6 := Aside0.mk Q_HO_6
                          have HO_7 := Aside0.mk Q_HO_7
                          have HB := Aside0.mk Q_HB
                          have HO245 := Aside0.mk (Q_HO245 (hon 4 (by kernel_rfl)))
                          refine value_ (w1 := w') (v := .bool ((strOfNums t243).toList != (strOfNums t231).toList)) (wanted_on rfl rfl rfl (e53.trans (by first | rfl | (simp [*]; done)))) rfl ?_ ?_
                          · go_simp
                            (try simp only [i64_w])
                            try rfl
                            all_goals (first | rfl | (simp [bne]; done))
                          refine hK.out _ _ ⟨v244, (by rw [ha.out]; exact putSel_upk 4 hb_ rfl rfl rfl), Q_HO_10, Q_HO_6, Q_HO_7, Q_HB, Q_HO245⟩
                        refine steps_cons ?_ ?_
                        · rintro b a w' ⟨v244, ha, Q_HO_10, Q_HO_6, Q_HO_7, Q_HB, Q_HO245⟩ hb_ hon hoff
                          refine ⟨_, rfl, fun K hK => ?_⟩
                          have e10 : a.tmps[10]? = some (.slice Ao23 t239.length co23) := by rw [ha]; exact (putSel_off rfl).trans rfl
                          have e61 : a.tmps[61]? = some (.bool ((strOfNums t243).toList != (strOfNums t231).toList)) := by rw [ha]; exact putSel_on (e := (9, 61, .bool ((strOfNums t243).toList != (strOfNums t231).toList))) 4 rfl rfl (hon 9 (by kernel_rfl)) rfl
                          replace ha := Aside0.mk ha
                          have HO_10 := Aside0.mk Q_HO_10
                          have HO_6 := Aside0.mk Q_HO_6
                          have HO_7 := Aside0.mk Q_HO_7
                          have HB := Aside0.mk Q_HB
                          have HO245 := Aside0.mk (Q_HO245 (hon 4 (by kernel_rfl)))
                          refine value_ (w1 := w') (v := .slice Ao23 t239.length co23) (wanted_on rfl rfl rfl (e61.trans (by first | rfl | (simp [*]; done)))) rfl ?_ ?_
                          · go_simp
                            (try simp only [i64_w])
                            try rfl
                            all_goals (first | rfl | (simp [bne]; done))
                          refine hK.out _ _ ⟨v244, (by rw [ha.out]; exact putSel_upk 5 hb_ rfl rfl rfl), Q_HO_10, Q_HO_6, Q_HO_7, Q_HB, Q_HO245⟩
                        refine steps_cons ?_ ?_
                        · rintro b a w' ⟨v244, ha, Q_HO_10, Q_HO_6, Q_HO_7, Q_HB, Q_HO245⟩ hb_ hon hoff
                          refine ⟨_, rfl, fun K hK => ?_⟩
                          have e62 : a.tmps[62]? = some (.slice Ao23 t239.length co23) := by rw [ha]; exact putSel_on (e := (10, 62, .slice Ao23 t239.length co23)) 5 rfl rfl (hon 10 (by kernel_rfl)) rfl
                          have e61 : a.tmps[61]? = some (.bool ((strOfNums t243).toList != (strOfNums t231).toList)) := by rw [ha]; exact putSel_on (e := (9, 61, .bool ((strOfNums t243).toList != (strOfNums t231).toList))) 4 rfl rfl (hon 9 (by kernel_rfl)) rfl
                          replace ha := Aside0.mk ha
                          have HO_10 := Aside0.mk Q_HO_10
                          have HO_6 := Aside0.mk Q_HO_6
                          have HO_7 := Aside0.mk Q_HO_7
                          have HB := Aside0.mk Q_HB
                          have HO245 := Aside0.mk (Q_HO245 (hon 4 (by kernel_rfl)))
                          have hcv11_ := V_string (P := Try.prog) Try.underlying22 Try.underlying5 Try.underlying9 HO_10.out
                          refine value_ (w1 := w') (v := .string (strOfNums t239)) (wanted_on rfl rfl rfl (e61.trans (by first | rfl | (simp [*]; done)))) rfl ?_ ?_
                          · go_simp
                            (try simp only [i64_w])
                            try rfl
                            all_goals (first | rfl | (simp [bne]; done))
                          refine hK.out _ _ ⟨v244, (by rw [ha.out]; exact putSel_upk 6 hb_ rfl rfl rfl), Q_HO_10, Q_HO_6, Q_HO_7, Q_HB, Q_HO245⟩
                        refine steps_cons ?_ ?_
                        · rintro b a w' ⟨v244, ha, Q_HO_10, Q_HO_6, Q_HO_7, Q_HB, Q_HO245⟩ hb_ hon hoff
                          refine ⟨_, rfl, fun K hK => ?_⟩
                          have e7 : a.tmps[7]? = some (.slice Ao24 t234.length co24) := by rw [ha]; exact (putSel_off rfl).trans rfl
                          have e61 : a.tmps[61]? = some (.bool ((strOfNums t243).toList != (strOfNums t231).toList)) := by rw [ha]; exact putSel_on (e := (9, 61, .bool ((strOfNums t243).toList != (strOfNums t231).toList))) 4 rfl rfl (hon 9 (by kernel_rfl)) rfl
                          replace ha := Aside0.mk ha
                          have HO_10 := Aside0.mk Q_HO_10
                          have HO_6 := Aside0.mk Q_HO_6
                          have HO_7 := Aside0.mk Q_HO_7
                          have HB := Aside0.mk Q_HB
                          have HO245 := Aside0.mk (Q_HO245 (hon 4 (by kernel_rfl)))
                          refine value_ (w1 := w') (v := .slice Ao24 t234.length co24) (wanted_on rfl rfl rfl (e61.trans (by first | rfl | (simp [*]; done)))) rfl ?_ ?_
                          · go_simp
                            (try simp only [i64_w])
                            try rfl
                            all_goals (first | rfl | (simp [bne]; done))
                          refine hK.out _ _ ⟨v244, (by rw [ha.out]; exact putSel_upk 7 hb_ rfl rfl rfl), Q_HO_10, Q_HO_6, Q_HO_7, Q_HB, Q_HO245⟩
                        refine steps_cons ?_ ?_
                        · rintro b a w' ⟨v244, ha, Q_HO_10, Q_HO_6, Q_HO_7, Q_HB, Q_HO245⟩ hb_ hon hoff
                          refine ⟨_, rfl, fun K hK => ?_⟩
                          have e64 : a.tmps[64]? = some (.slice Ao24 t234.length co24) := by rw [ha]; exact putSel_on (e := (12, 64, .slice Ao24 t234.length co24)) 7 rfl rfl (hon 12 (by kernel_rfl)) rfl
                          have e61 : a.tmps[61]? = some (.bool ((strOfNums t243).toList != (strOfNums t231).toList)) := by rw [ha]; exact putSel_on (e := (9, 61, .bool ((strOfNums t243).toList != (strOfNums t231).toList))) 4 rfl rfl (hon 9 (by kernel_rfl)) rfl
                          replace ha := Aside0.mk ha
                          have HO_10 := Aside0.mk Q_HO_10
                          have HO_6 := Aside0.mk Q_HO_6
                          have HO_7 := Aside0.mk Q_HO_7
                          have HB := Aside0.mk Q_HB
                          have HO245 := Aside0.mk (Q_HO245 (hon 4 (by kernel_rfl)))
                          have hcv13_ := V_string (P := Try.prog) Try.underlying22 Try.underlying5 Try.underlying9 HO_7.out
                          refine value_ (w1 := w') (v := .string (strOfNums t234)) (wanted_on rfl rfl rfl (e61.trans (by first | rfl | (simp [*]; done)))) rfl ?_ ?_
                          · go_simp
                            (try simp only [i64_w])
                            try rfl
                            all_goals (first | rfl | (simp [bne]; done))
                          refine hK.out _ _ ⟨v244, (by rw [ha.out]; exact putSel_upk 8 hb_ rfl rfl rfl), Q_HO_10, Q_HO_6, Q_HO_7, Q_HB, Q_HO245⟩
                        refine steps_cons ?_ ?_
                        · rintro b a w' ⟨v244, ha, Q_HO_10, Q_HO_6, Q_HO_7, Q_HB, Q_HO245⟩ hb_ hon hoff
                          refine ⟨_, rfl, fun K hK => ?_⟩
                          have e63 : a.tmps[63]? = some (.string (strOfNums t239)) := by rw [ha]; exact putSel_on (e := (11, 63, .string (strOfNums t239))) 6 rfl rfl (hon 11 (by kernel_rfl)) rfl
                          have e65 : a.tmps[65]? = some (.string (strOfNums t234)) := by rw [ha]; exact putSel_on (e := (13, 65, .string (strOfNums t234))) 8 rfl rfl (hon 13 (by kernel_rfl)) rfl
                          have e61 : a.tmps[61]? = some (.bool ((strOfNums t243).toList != (strOfNums t231).toList)) := by rw [ha]; exact putSel_on (e := (9, 61, .bool ((strOfNums t243).toList != (strOfNums t231).toList))) 4 rfl rfl (hon 9 (by kernel_rfl)) rfl
                          replace ha := Aside0.mk ha
                          have HO_10 := Aside0.mk Q_HO_10
                          have HO_6 := Aside0.mk Q_HO_6
                          have HO_7 := Aside0.mk Q_HO_7
                          have HB := Aside0.mk Q_HB
                          have HO245 := Aside0.mk (Q_HO245 (hon 4 (by kernel_rfl)))
                          refine value_ (w1 := w') (v := .bool ((strOfNums t239).toList != (strOfNums t234).toList)) (wanted_on rfl rfl rfl (e61.trans (by first | rfl | (simp [*]; done)))) rfl ?_ ?_
                          · go_simp
                            (try simp only [i64_w])
                            try rfl
                            all_goals (first | rfl | (simp [bne]; done))
                          refine hK.out _ _ ⟨v244, (by rw [ha.out]; exact putSel_upk 9 hb_ rfl rfl rfl), Q_HO_10, Q_HO_6, Q_HO_7, Q_HB, Q_HO245⟩
                        refine steps_cons ?_ ?_
                        · rintro b a w' ⟨v244, ha, Q_HO_10, Q_HO_6, Q_HO_7, Q_HB, Q_HO245⟩ hb_ hon hoff
                          refine ⟨_, rfl, fun K hK => ?_⟩
                          have e61 : a.tmps[61]? = some (.bool ((strOfNums t243).toList != (strOfNums t231).toList)) := by rw [ha]; exact putSel_on (e := (9, 61, .bool ((strOfNums t243).toList != (strOfNums t231).toList))) 4 rfl rfl (hon 9 (by kernel_rfl)) rfl
                          have e66 : a.tmps[66]? = some (.bool ((strOfNums t239).toList != (strOfNums t234).toList)) := by rw [ha]; exact putSel_on (e := (14, 66, .bool ((strOfNums t239).toList != (strOfNums t234).toList))) 9 rfl rfl (hon 14 (by kernel_rfl)) rfl
                          have e53 : a.tmps[53]? = some (.bool true) := by rw [ha]; exact (putSel_off rfl).trans rfl
                          replace ha := Aside0.mk ha
                          have HO_10 := Aside0.mk Q_HO_10
                          have HO_6 := Aside0.mk Q_HO_6
                          have HO_7 := Aside0.mk Q_HO_7
                          have HB := Aside0.mk Q_HB
                          have HO245 := Aside0.mk (Q_HO245 (hon 4 (by kernel_rfl)))
                          refine value_ (w1 := w') (v := .bool ((strOfNums t239).toList != (strOfNums t234).toList)) (wanted_on rfl rfl rfl (e53.trans (by first | rfl | (simp [*]; done)))) rfl ?_ ?_
                          · go_simp
                            (try simp only [i64_w])
                            try rfl
                            all_goals (first | rfl | (simp [bne]; done))
                          refine hK.out _ _ ⟨v244, (by rw [ha.out]; exact putSel_upk 10 hb_ rfl rfl rfl), Q_HO_10, Q_HO_6, Q_HO_7, Q_HB, Q_HO245⟩
                        refine steps_cons ?_ ?_
                        · rintro b a w' ⟨v244, ha, Q_HO_10, Q_HO_6, Q_HO_7, Q_HB, Q_HO245⟩ hb_ hon hoff
                          refine ⟨_, rfl, fun K hK => ?_⟩
                          have e53 : a.tmps[53]? = some (.bool true) := by rw [ha]; exact (putSel_off rfl).trans rfl
                          have e67 : a.tmps[67]? = some (.bool ((strOfNums t239).toList != (strOfNums t234).toList)) := by rw [ha]; exact putSel_on (e := (15, 67, .bool ((strOfNums t239).toList != (strOfNums t234).toList))) 10 rfl rfl (hon 15 (by kernel_rfl)) rfl
                          replace ha := Aside0.mk ha
                          have HO_10 := Aside0.mk Q_HO_10
                          have HO_6 := Aside0.mk Q_HO_6
                          have HO_7 := Aside0.mk Q_HO_7
                          have HB := Aside0.mk Q_HB
                          have HO245 := Aside0.mk (Q_HO245 (hon 4 (by kernel_rfl)))
                          refine value_ (w1 := w') (v := .bool ((strOfNums t239).toList != (strOfNums t234).toList)) (by rfl) rfl ?_ ?_
                          · go_simp
                            (try simp only [i64_w])
                            try rfl
                            all_goals (first | rfl | (simp [bne]; done))
                          refine hK.out _ _ ⟨v244, (by rw [ha.out]; exact putSel_upk 11 hb_ rfl rfl rfl), Q_HO_10, Q_HO_6, Q_HO_7, Q_HB, Q_HO245⟩
                        exact steps_nil
                      rintro b a w27 hall ⟨v244, ha, Q_HO_10, Q_HO_6, Q_HO_7, Q_HB, Q_HO245⟩
                      clear HB HO_10 HO_6 HO_7
                      have hb4_ := hall 4 (by kernel_rfl)
                      have hb5_ := hall 5 (by kernel_rfl)
                      have hb7_ := hall 7 (by kernel_rfl)
                      have hb8_ := hall 8 (by kernel_rfl)
                      have hb9_ := hall 9 (by kernel_rfl)
                      have hb10_ := hall 10 (by kernel_rfl)
                      have hb11_ := hall 11 (by kernel_rfl)
                      have hb12_ := hall 12 (by kernel_rfl)
                      have hb13_ := hall 13 (by kernel_rfl)
                      have hb14_ := hall 14 (by kernel_rfl)
                      have hb15_ := hall 15 (by kernel_rfl)
                      have hb16_ := hall 16 (by kernel_rfl)
                      subst ha
                      simp only [putSel, hb4_, hb5_, hb7_, hb8_, hb9_, hb10_, hb11_, hb12_, hb13_, hb14_, hb15_, hb16_, if_true, Act.put, List.setIfInBounds_toArray, List.set_cons_zero, List.set_cons_succ]
                      have HO_10 := Aside0.mk Q_HO_10
                      clear Q_HO_10
                      have HO_6 := Aside0.mk Q_HO_6
                      clear Q_HO_6
                      have HO_7 := Aside0.mk Q_HO_7
                      clear Q_HO_7
                      have HB := Aside0.mk Q_HB
                      clear Q_HB
                      have HO245 := Aside0.mk (Q_HO245 hb4_)
                      clear Q_HO245
                      clear hall hb4_ hb5_ hb7_ hb8_ hb9_ hb10_ hb11_ hb12_ hb13_ hb14_ hb15_ hb16_
                      try go_wp2
                      go_meet
                      case rel => exact ⟨_, (((strOfNums t239).toList != (strOfNums t234).toList)), (by first | rfl | (simp; done) | (simp [*]; done)), H', ⟨by have := HJ6.out; have := HJ12.out; first | omega | exact Nat.le_refl _⟩, ⟨by (with_reducible repeat (first | apply Kd.V_alloc | apply Kd.V_drewN | apply Kd.V_drew)); exact Kd.V_mono HO_6.out (fun _ hk => trivial)⟩, ⟨by (with_reducible repeat (first | apply Kd.V_alloc | apply Kd.V_drewN | apply Kd.V_drew)); exact Kd.V_mono HO_7.out (fun _ hk => trivial)⟩, ⟨by repeat (first | (with_reducible first | exact HB.out | apply below_alloc | apply pw_below_drewN | apply below_drew1) | exact HB.out)⟩⟩
                    · rw [if_neg c21] at H
                      have c21b0 : ((strOfNums t243).toList == (strOfNums t231).toList) = false := beq_eq_false_iff_ne.mpr c21
                      have c21b1 : ((strOfNums t243).toList != (strOfNums t231).toList) = true := bne_iff_ne.mpr c21
                      (first | rw [c21b0] | (simp only [i64_w, i32_w]; rw [c21b0]) | skip)
                      have H' := Aside0.mk H
                      clear H
                      obtain ⟨Ao28, co28, eo28⟩ := Kd.V_slice HO_6.out
                      subst eo28
                      try go_wp2
                      have n0_ := Aside0.mk (Kd.V_drew HO_6.out)
                      have n1_ := Aside0.mk (Kd.V_drew HO_7.out)
                      have n2_ := Aside0.mk (Kd.V_drew HO_10.out)
                      have n3_ := Aside0.mk (below_drew1 HB.out)
                      clear HO_6
                      clear HO_7
                      clear HO_10
                      clear HB
                      have HO_6 := n0_
                      have HO_7 := n1_
                      have HO_10 := n2_
                      have HB := n3_
                      clear n0_ n1_ n2_ n3_
                      refine start_ (n := 17) (S := fun w' => True) (ds := []) #[false, false, false, false, false, false, false, false, false, false, false, false, false, false, false, false, false] (by kernel_rfl) rfl rfl trivial (fun hHeld => ?_); refine with_tabW ridgewaylaw01_OctetTake.tab10 ridgewaylaw01_OctetTake.bits10 (fun HT_ HW_ => ?_)
                      generalize wc.drew = w29 at HO_6 HO_7 HO_10 HB hHeld ⊢
                      refine pure_ (i := 0) (N := some 52) (v := ?_) (a' := ?_) #[true, false, false, false, false, false, false, false, false, false, false, false, false, false, false, false, false] rfl rfl (any_of HT_.out (by kernel_rfl)) (fun _ _ _ h => h) (Or.inl ⟨by rfl, ?_⟩) ?_ ?_
                      rotate_left
                      · intro w'
                        go_simp
                        with_reducible rfl
                      rotate_left
                      · simp only [Act.put, List.setIfInBounds_toArray, List.set_cons_zero, List.set_cons_succ, i64_w, i32_w]
                        rfl
                      refine pure_ (i := 1) (N := some 53) (v := ?_) (a' := ?_) #[true, true, false, false, false, false, false, false, false, false, false, false, false, false, false, false, false] rfl rfl (any_of HT_.out (by kernel_rfl)) (fun _ _ _ h => h) (Or.inl ⟨by rfl, ?_⟩) ?_ ?_
                      rotate_left
                      · intro w'
                        go_simp
                        with_reducible rfl
                      rotate_left
                      · simp only [Act.put, List.setIfInBounds_toArray, List.set_cons_zero, List.set_cons_succ, i64_w, i32_w]
                        rfl
                      refine pure_ (i := 2) (N := some 54) (v := ?_) (a' := ?_) #[true, true, true, false, false, false, false, false, false, false, false, false, false, false, false, false, false] rfl rfl (any_of HT_.out (by kernel_rfl)) (fun _ _ _ h => h) (Or.inl ⟨by rfl, ?_⟩) ?_ ?_
                      rotate_left
                      · intro w'
                        go_simp
                        with_reducible rfl
                      rotate_left
                      · simp only [Act.put, List.setIfInBounds_toArray, List.set_cons_zero, List.set_cons_succ, i64_w, i32_w]
                        rfl
                      refine pure_ (i := 3) (N := some 55) (v := ?_) (a' := ?_) #[true, true, true, true, false, false, false, false, false, false, false, false, false, false, false, false, false] rfl rfl (any_of HT_.out (by kernel_rfl)) (fun _ _ _ h => h) (Or.inl ⟨by rfl, ?_⟩) ?_ ?_
                      rotate_left
                      · intro w'
                        go_simp
                        with_reducible rfl
                      rotate_left
                      · simp only [Act.put, List.setIfInBounds_toArray, List.set_cons_zero, List.set_cons_succ, i64_w, i32_w]
                        rfl
                      refine pure_ (i := 6) (N := some 58) (v := ?_) (a' := ?_) #[true, true, true, true, false, false, true, false, false, false, false, false, false, false, false, false, false] rfl rfl (any_of HT_.out (by kernel_rfl)) (fun _ _ _ h => h) (Or.inl ⟨by rfl, ?_⟩) ?_ ?_
                      rotate_left
                      · intro w'
                        go_simp
                        with_reducible rfl
                      rotate_left
                      · simp only [Act.put, List.setIfInBounds_toArray, List.set_cons_zero, List.set_cons_succ, i64_w, i32_w]
                        rfl
                      refine inv_at [4, 5, 7, 8, 9, 10, 11, 12, 13, 14, 15, 16] (fun a0_ b a w' => ∃ (v244 : Value), a = putSel a0_ b [(4, 56, v244), (5, 57, .string (strOfNums t243)), (7, 59, .string (strOfNums t231)), (8, 60, .bool ((strOfNums t243).toList != (strOfNums t231).toList)), (9, 61, .bool ((strOfNums t243).toList != (strOfNums t231).toList)), (10, 62, undef), (11, 63, undef), (12, 64, undef), (13, 65, undef), (14, 66, undef), (15, 67, .bool true), (16, 68, .bool true)] ∧ (Kd.V (Kd.int .u8) 5 w' w.heap.size (fun _ => True) v240 t239) ∧ (Kd.V (Kd.int .u8) 5 w' w.heap.size (fun _ => True) (.slice Ao28 t231.length co28) t231) ∧ (Kd.V (Kd.int .u8) 5 w' w.heap.size (fun _ => True) v235 t234) ∧ (Below w.heap.size w w') ∧ (b 4 = true → Kd.R (Kd.int .u8) 5 w' w.heap.size (fun _ => True) v244 t243)) HT_.out HW_.out (by kernel_rfl) (by kernel_rfl) ?_ ?_ ?_
                      · exact ⟨.bool false, by simp only [putSel, Bool.false_eq_true, if_false], (by first | exact HO_10.out | exact (by (with_reducible repeat (first | apply Kd.V_alloc | apply Kd.V_drewN | apply Kd.V_drew)); first | exact HO_10.out | exact Kd.V_mono HO_10.out (by intro k_ hk; first | exact hk | trivial | (simp only [true_and, and_true, and_assoc] at hk ⊢; first | exact hk | trivial) | simp_all))), (by first | exact HO_6.out | exact (by (with_reducible repeat (first | apply Kd.V_alloc | apply Kd.V_drewN | apply Kd.V_drew)); first | exact HO_6.out | exact Kd.V_mono HO_6.out (by intro k_ hk; first | exact hk | trivial | (simp only [true_and, and_true, and_assoc] at hk ⊢; first | exact hk | trivial) | simp_all))), (by first | exact HO_7.out | exact (by (with_reducible repeat (first | apply Kd.V_alloc | apply Kd.V_drewN | apply Kd.V_drew)); first | exact HO_7.out | exact Kd.V_mono HO_7.out (by intro k_ hk; first | exact hk | trivial | (simp only [true_and, and_true, and_assoc] at hk ⊢; first | exact hk | trivial) | simp_all))), (by first | exact HB.out | exact (by repeat (first | (with_reducible first | exact HB.out | apply below_alloc | apply pw_below_drewN | apply below_drew1) | exact HB.out))), fun h_ => absurd h_ (by decide)⟩
                      · skip
                        clear HB HO_10 HO_6 HO_7
                        refine steps_cons ?_ ?_
                        · rintro b a w' ⟨v244, ha, Q_HO_10, Q_HO_6, Q_HO_7, Q_HB, Q_HO245⟩ hb_ hon hoff
                          refine ⟨_, rfl, fun K hK => ?_⟩
                          have e54 : a.tmps[54]? = some (.int .i64 t238) := by rw [ha]; exact (putSel_off rfl).trans rfl
                          have e55 : a.tmps[55]? = some (.int .i64 a1) := by rw [ha]; exact (putSel_off rfl).trans rfl
                          have e53 : a.tmps[53]? = some (.bool true) := by rw [ha]; exact (putSel_off rfl).trans rfl
                          replace ha := Aside0.mk ha
                          have HO_10 := Aside0.mk Q_HO_10
                          have HO_6 := Aside0.mk Q_HO_6
                          have HO_7 := Aside0.mk Q_HO_7
                          have HB := Aside0.mk Q_HB
                          refine goes_ Try.func12 (by kernel_rfl) rfl #[.slice none 0 0, .int .i64 t238, .int .i64 a1] (wanted_on rfl rfl rfl (e53.trans (by first | rfl | (simp [*]; done)))) rfl rfl (by first | (simp only [List.map_toArray, List.map_cons, List.map_nil, Act.eval, Array.getD_eq_getD_getElem?, Option.getD_some, e54, e55, e53]; done) | (simp only [List.map_toArray, List.map_cons, List.map_nil, Act.eval, Array.getD_eq_getD_getElem?, Option.getD_some, e54, e55, e53]; rfl)) ?_
                          refine (octet_Put.calls kj12 _ _ ([] : List Int) t238 a1 t243 _ ?side1 ?side2 A20.out).mono ?_
                          (case side1 => exact Kd.C_nil _ _)
                          (case side2 => exact Nat.le_refl _)
                          rintro e w31 ⟨v244, rfl, ho0, hb⟩
                          refine ⟨_, rfl, ?_⟩
                          have n0_ := Aside0.mk (Kd.V_elder' (by (with_reducible repeat (first | apply Kd.V_alloc | apply Kd.V_drewN | apply Kd.V_drew)); first | exact HO_6.out | exact Kd.V_mono HO_6.out (by intro k_ hk; first | exact hk | trivial | (simp only [true_and, and_true, and_assoc] at hk ⊢; first | exact hk | trivial) | simp_all)) (Kd.R_base ho0) hb)
                          have n1_ := Aside0.mk (Kd.V_elder' (by (with_reducible repeat (first | apply Kd.V_alloc | apply Kd.V_drewN | apply Kd.V_drew)); first | exact HO_7.out | exact Kd.V_mono HO_7.out (by intro k_ hk; first | exact hk | trivial | (simp only [true_and, and_true, and_assoc] at hk ⊢; first | exact hk | trivial) | simp_all)) (Kd.R_base ho0) hb)
                          have n2_ := Aside0.mk (Kd.V_elder' (by (with_reducible repeat (first | apply Kd.V_alloc | apply Kd.V_drewN | apply Kd.V_drew)); first | exact HO_10.out | exact Kd.V_mono HO_10.out (by intro k_ hk; first | exact hk | trivial | (simp only [true_and, and_true, and_assoc] at hk ⊢; first | exact hk | trivial) | simp_all)) (Kd.R_base ho0) hb)
                          have n3_ := Aside0.mk (Kd.R_lower ho0 (below_size (by repeat (first | (with_reducible first | exact HB.out | apply below_alloc | apply pw_below_drewN | apply below_drew1) | exact HB.out))))
                          have n4_ := Aside0.mk (below_step (by repeat (first | (with_reducible first | exact HB.out | apply below_alloc | apply pw_below_drewN | apply below_drew1) | exact HB.out)) hb)
                          clear HO_6
                          clear HO_7
                          clear HO_10
                          clear HB
                          have HO_6 := n0_
                          have HO_7 := n1_
                          have HO_10 := n2_
                          have HO245 := n3_
                          have HB := n4_
                          clear n0_ n1_ n2_ n3_ n4_
                          (try clear hb)
                          (try clear hb2)
                          (try clear hk)
                          (try clear hi)
                          (try clear ho0)
                          refine hK.out _ _ ⟨v244, (by rw [ha.out]; exact putSel_upk 0 hb_ rfl rfl rfl), (by (with_reducible repeat (first | apply Kd.V_alloc | apply Kd.V_drewN | apply Kd.V_drew)); exact Kd.V_mono HO_10.out (by intro _ hk; first | exact hk.2 | exact hk | trivial | (simp only [true_and, and_true, and_assoc] at hk ⊢; first | exact hk | trivial) | simp_all)), (by (with_reducible repeat (first | apply Kd.V_alloc | apply Kd.V_drewN | apply Kd.V_drew)); exact Kd.V_mono HO_6.out (by intro _ hk; first | exact hk.2 | exact hk | trivial | (simp only [true_and, and_true, and_assoc] at hk ⊢; first | exact hk | trivial) | simp_all)), (by (with_reducible repeat (first | apply Kd.V_alloc | apply Kd.V_drewN | apply Kd.V_drew)); exact Kd.V_mono HO_7.out (by intro _ hk; first | exact hk.2 | exact hk | trivial | (simp only [true_and, and_true, and_assoc] at hk ⊢; first | exact hk | trivial) | simp_all)), (by repeat (first | (with_reducible first | exact HB.out | apply below_alloc | apply pw_below_drewN | apply below_drew1) | exact HB.out)), fun _ => (by (with_reducible repeat (first | apply Kd.R_alloc | apply Kd.R_drewN | apply Kd.R_drew)); first | exact HO245.out | exact Kd.R_mono HO245.out (by intro k_ hk; first | exact hk | trivial | (simp only [true_and, and_true, and_assoc] at hk ⊢; first | exact hk | trivial) | simp_all))⟩
                        refine steps_cons ?_ ?_
                        · rintro b a w' ⟨v244, ha, Q_HO_10, Q_HO_6, Q_HO_7, Q_HB, Q_HO245⟩ hb_ hon hoff
                          refine ⟨_, rfl, fun K hK => ?_⟩
                          have e56 : a.tmps[56]? = some (v244) := by rw [ha]; exact putSel_on (e := (4, 56, v244)) 0 rfl rfl (hon 4 (by kernel_rfl)) rfl
                          have e53 : a.tmps[53]? = some (.bool true) := by rw [ha]; exact (putSel_off rfl).trans rfl
                          replace ha := Aside0.mk ha
                          have HO_10 := Aside0.mk Q_HO_10
                          have HO_6 := Aside0.mk Q_HO_6
                          have HO_7 := Aside0.mk Q_HO_7
                          have HB := Aside0.mk Q_HB
                          have HO245 := Aside0.mk (Q_HO245 (hon 4 (by kernel_rfl)))
                          obtain ⟨Ao5_0, co5_0, eo_⟩ := Kd.R_slice HO245.out
                          subst eo_
                          have hcv5_ := own_string (P := Try.prog) Try.underlying22 Try.underlying5 Try.underlying9 (Kd.own_of_R HO245.out)
                          refine value_ (w1 := w') (v := .string (strOfNums t243)) (wanted_on rfl rfl rfl (e53.trans (by first | rfl | (simp [*]; done)))) rfl ?_ ?_
                          · go_simp
                            (try simp only [i64_w])
                            try rfl
                            all_goals (first | rfl | (simp [bne]; done))
                          refine hK.out _ _ ⟨.slice Ao5_0 t243.length co5_0, (by rw [ha.out]; exact putSel_upk 1 hb_ rfl rfl rfl), Q_HO_10, Q_HO_6, Q_HO_7, Q_HB, Q_HO245⟩
                        refine steps_cons ?_ ?_
                        · rintro b a w' ⟨v244, ha, Q_HO_10, Q_HO_6, Q_HO_7, Q_HB, Q_HO245⟩ hb_ hon hoff
                          refine ⟨_, rfl, fun K hK => ?_⟩
                          have e58 : a.tmps[58]? = some (.slice Ao28 t231.length co28) := by rw [ha]; exact (putSel_off rfl).trans rfl
                          have e53 : a.tmps[53]? = some (.bool true) := by rw [ha]; exact (putSel_off rfl).trans rfl
                          replace ha := Aside0.mk ha
                          have HO_10 := Aside0.mk Q_HO_10
                          have HO_6 := Aside0.mk Q_HO_6
                          have HO_7 := Aside0.mk Q_HO_7
                          have HB := Aside0.mk Q_HB
                          have hcv7_ := V_string (P := Try.prog) Try.underlying22 Try.underlying5 Try.underlying9 HO_6.out
                          refine value_ (w1 := w') (v := .string (strOfNums t231)) (wanted_on rfl rfl rfl (e53.trans (by first | rfl | (simp [*]; done)))) rfl ?_ ?_
                          · go_simp
                            (try simp only [i64_w])
                            try rfl
                            all_goals (first | rfl | (simp [bne]; done))
                          refine hK.out _ _ ⟨v244, (by rw [ha.out]; exact putSel_upk 2 hb_ rfl rfl rfl), Q_HO_10, Q_HO_6, Q_HO_7, Q_HB, Q_HO245⟩
                        refine steps_cons ?_ ?_
                        · rintro b a w' ⟨v244, ha, Q_HO_10, Q_HO_6, Q_HO_7, Q_HB, Q_HO245⟩ hb_ hon hoff
                          refine ⟨_, rfl, fun K hK => ?_⟩
                          have e57 : a.tmps[57]? = some (.string (strOfNums t243)) := by rw [ha]; exact putSel_on (e := (5, 57, .string (strOfNums t243))) 1 rfl rfl (hon 5 (by kernel_rfl)) rfl
                          have e59 : a.tmps[59]? = some (.string (strOfNums t231)) := by rw [ha]; exact putSel_on (e := (7, 59, .string (strOfNums t231))) 2 rfl rfl (hon 7 (by kernel_rfl)) rfl
                          have e53 : a.tmps[53]? = some (.bool true) := by rw [ha]; exact (putSel_off rfl).trans rfl
                          replace ha := Aside0.mk ha
                          have HO_10 := Aside0.mk Q_HO_10
                          have HO_6 := Aside0.mk Q_HO_6
                          have HO_7 := Aside0.mk Q_HO_7
                          have HB := Aside0.mk Q_HB
                          have HO245 := Aside0.mk (Q_HO245 (hon 4 (by kernel_rfl)))
                          refine value_ (w1 := w') (v := .bool ((strOfNums t243).toList != (strOfNums t231).toList)) (wanted_on rfl rfl rfl (e53.trans (by first | rfl | (simp [*]; done)))) rfl ?_ ?_
                          · go_simp
                            (try simp only [i64_w])
                            try rfl
                            all_goals (first | rfl | (simp [bne]; done))
                          refine hK.out _ _ ⟨v244, (by rw [ha.out]; exact putSel_upk 3 hb_ rfl rfl rfl), Q_HO_10, Q_HO_6, Q_HO_7, Q_HB, Q_HO245⟩
                        refine steps_cons ?_ ?_
                        · rintro b a w' ⟨v244, ha, Q_HO_10, Q_HO_6, Q_HO_7, Q_HB, Q_HO245⟩ hb_ hon hoff
                          refine ⟨_, rfl, fun K hK => ?_⟩
                          have e60 : a.tmps[60]? = some (.bool ((strOfNums t243).toList != (strOfNums t231).toList)) := by rw [ha]; exact putSel_on (e := (8, 60, .bool ((strOfNums t243).toList != (strOfNums t231).toList))) 3 rfl rfl (hon 8 (by kernel_rfl)) rfl
                          have e53 : a.tmps[53]? = some (.bool true) := by rw [ha]; exact (putSel_off rfl).trans rfl
                          replace ha := Aside0.mk ha
                          have HO_10 := Aside0.mk Q_HO_10
                          have HO_6 := Aside0.mk Q_HO_6
                          have HO_7 := Aside0.mk Q_HO_7
                          have HB := Aside0.mk Q_HB
                          have HO245 := Aside0.mk (Q_HO245 (hon 4 (by kernel_rfl)))
                          refine value_ (w1 := w') (v := .bool ((strOfNums t243).toList != (strOfNums t231).toList)) (wanted_on rfl rfl rfl (e53.trans (by first | rfl | (simp [*]; done)))) rfl ?_ ?_
                          · go_simp
                            (try simp only [i64_w])
                            try rfl
                            all_goals (first | rfl | (simp [bne]; done))
                          refine hK.out _ _ ⟨v244, (by rw [ha.out]; exact putSel_upk 4 hb_ rfl rfl rfl), Q_HO_10, Q_HO_6, Q_HO_7, Q_HB, Q_HO245⟩
                        refine steps_cons ?_ ?_
                        · rintro b a w' ⟨v244, ha, Q_HO_10, Q_HO_6, Q_HO_7, Q_HB, Q_HO245⟩ hb_ hon hoff
                          refine ⟨_, rfl, fun K hK => ?_⟩
                          have e61 : a.tmps[61]? = some (.bool ((strOfNums t243).toList != (strOfNums t231).toList)) := by rw [ha]; exact putSel_on (e := (9, 61, .bool ((strOfNums t243).toList != (strOfNums t231).toList))) 4 rfl rfl (hon 9 (by kernel_rfl)) rfl
                          replace ha := Aside0.mk ha
                          have HO_10 := Aside0.mk Q_HO_10
                          have HO_6 := Aside0.mk Q_HO_6
                          have HO_7 := Aside0.mk Q_HO_7
                          have HB := Aside0.mk Q_HB
                          have HO245 := Aside0.mk (Q_HO245 (hon 4 (by kernel_rfl)))
                          refine off_ (wanted_off rfl rfl rfl (e61.trans (by first | rfl | (simp [*]; done)))) ?_
                          refine hK.out _ _ ⟨v244, (by rw [ha.out]; exact putSel_upk 5 hb_ rfl rfl rfl), Q_HO_10, Q_HO_6, Q_HO_7, Q_HB, Q_HO245⟩
                        refine steps_cons ?_ ?_
                        · rintro b a w' ⟨v244, ha, Q_HO_10, Q_HO_6, Q_HO_7, Q_HB, Q_HO245⟩ hb_ hon hoff
                          refine ⟨_, rfl, fun K hK => ?_⟩
                          have e61 : a.tmps[61]? = some (.bool ((strOfNums t243).toList != (strOfNums t231).toList)) := by rw [ha]; exact putSel_on (e := (9, 61, .bool ((strOfNums t243).toList != (strOfNums t231).toList))) 4 rfl rfl (hon 9 (by kernel_rfl)) rfl
                          replace ha := Aside0.mk ha
                          have HO_10 := Aside0.mk Q_HO_10
                          have HO_6 := Aside0.mk Q_HO_6
                          have HO_7 := Aside0.mk Q_HO_7
                          have HB := Aside0.mk Q_HB
                          have HO245 := Aside0.mk (Q_HO245 (hon 4 (by kernel_rfl)))
                          refine off_ (wanted_off rfl rfl rfl (e61.trans (by first | rfl | (simp [*]; done)))) ?_
                          refine hK.out _ _ ⟨v244, (by rw [ha.out]; exact putSel_upk 6 hb_ rfl rfl rfl), Q_HO_10, Q_HO_6, Q_HO_7, Q_HB, Q_HO245⟩
                        refine steps_cons ?_ ?_
                        · rintro b a w' ⟨v244, ha, Q_HO_10, Q_HO_6, Q_HO_7, Q_HB, Q_HO245⟩ hb_ hon hoff
                          refine ⟨_, rfl, fun K hK => ?_⟩
                          have e61 : a.tmps[61]? = some (.bool ((strOfNums t243).toList != (strOfNums t231).toList)) := by rw [ha]; exact putSel_on (e := (9, 61, .bool ((strOfNums t243).toList != (strOfNums t231).toList))) 4 rfl rfl (hon 9 (by kernel_rfl)) rfl
                          replace ha := Aside0.mk ha
                          have HO_10 := Aside0.mk Q_HO_10
                          have HO_6 := Aside0.mk Q_HO_6
                          have HO_7 := Aside0.mk Q_HO_7
                          have HB := Aside0.mk Q_HB
                          have HO245 := Aside0.mk (Q_HO245 (hon 4 (by kernel_rfl)))
                          refine off_ (wanted_off rfl rfl rfl (e61.trans (by first | rfl | (simp [*]; done)))) ?_
                          refine hK.out _ _ ⟨v244, (by rw [ha.out]; exact putSel_upk 7 hb_ rfl rfl rfl), Q_HO_10, Q_HO_6, Q_HO_7, Q_HB, Q_HO245⟩
                        refine steps_cons ?_ ?_
                        · rintro b a w' ⟨v244, ha, Q_HO_10, Q_HO_6, Q_HO_7, Q_HB, Q_HO245⟩ hb_ hon hoff
                          refine ⟨_, rfl, fun K hK => ?_⟩
                          have e61 : a.tmps[61]? = some (.bool ((strOfNums t243).toList != (strOfNums t231).toList)) := by rw [ha]; exact putSel_on (e := (9, 61, .bool ((strOfNums t243).toList != (strOfNums t231).toList))) 4 rfl rfl (hon 9 (by kernel_rfl)) rfl
                          replace ha := Aside0.mk ha
                          have HO_10 := Aside0.mk Q_HO_10
                          have HO_6 := Aside0.mk Q_HO_6
                          have HO_7 := Aside0.mk Q_HO_7
                          have HB := Aside0.mk Q_HB
                          have HO245 := Aside0.mk (Q_HO245 (hon 4 (by kernel_rfl)))
                          refine off_ (wanted_off rfl rfl rfl (e61.trans (by first | rfl | (simp [*]; done)))) ?_
                          refine hK.out _ _ ⟨v244, (by rw [ha.out]; exact putSel_upk 8 hb_ rfl rfl rfl), Q_HO_10, Q_HO_6, Q_HO_7, Q_HB, Q_HO245⟩
                        refine steps_cons ?_ ?_
                        · rintro b a w' ⟨v244, ha, Q_HO_10, Q_HO_6, Q_HO_7, Q_HB, Q_HO245⟩ hb_ hon hoff
                          refine ⟨_, rfl, fun K hK => ?_⟩
                          have e61 : a.tmps[61]? = some (.bool ((strOfNums t243).toList != (strOfNums t231).toList)) := by rw [ha]; exact putSel_on (e := (9, 61, .bool ((strOfNums t243).toList != (strOfNums t231).toList))) 4 rfl rfl (hon 9 (by kernel_rfl)) rfl
                          replace ha := Aside0.mk ha
                          have HO_10 := Aside0.mk Q_HO_10
                          have HO_6 := Aside0.mk Q_HO_6
                          have HO_7 := Aside0.mk Q_HO_7
                          have HB := Aside0.mk Q_HB
                          have HO245 := Aside0.mk (Q_HO245 (hon 4 (by kernel_rfl)))
                          refine off_ (wanted_off rfl rfl rfl (e61.trans (by first | rfl | (simp [*]; done)))) ?_
                          refine hK.out _ _ ⟨v244, (by rw [ha.out]; exact putSel_upk 9 hb_ rfl rfl rfl), Q_HO_10, Q_HO_6, Q_HO_7, Q_HB, Q_HO245⟩
                        refine steps_cons ?_ ?_
                        · rintro b a w' ⟨v244, ha, Q_HO_10, Q_HO_6, Q_HO_7, Q_HB, Q_HO245⟩ hb_ hon hoff
                          refine ⟨_, rfl, fun K hK => ?_⟩
                          have e61 : a.tmps[61]? = some (.bool ((strOfNums t243).toList != (strOfNums t231).toList)) := by rw [ha]; exact putSel_on (e := (9, 61, .bool ((strOfNums t243).toList != (strOfNums t231).toList))) 4 rfl rfl (hon 9 (by kernel_rfl)) rfl
                          have e66 : a.tmps[66]? = some (undef) := by rw [ha]; exact putSel_on (e := (14, 66, undef)) 9 rfl rfl (hon 14 (by kernel_rfl)) rfl
                          have e53 : a.tmps[53]? = some (.bool true) := by rw [ha]; exact (putSel_off rfl).trans rfl
                          replace ha := Aside0.mk ha
                          have HO_10 := Aside0.mk Q_HO_10
                          have HO_6 := Aside0.mk Q_HO_6
                          have HO_7 := Aside0.mk Q_HO_7
                          have HB := Aside0.mk Q_HB
                          have HO245 := Aside0.mk (Q_HO245 (hon 4 (by kernel_rfl)))
                          refine value_ (w1 := w') (v := .bool true) (wanted_on rfl rfl rfl (e53.trans (by first | rfl | (simp [*]; done)))) rfl ?_ ?_
                          · go_simp
                            (try simp only [i64_w])
                            try rfl
                            all_goals (first | rfl | (simp [bne]; done))
                          refine hK.out _ _ ⟨v244, (by rw [ha.out]; exact putSel_upk 10 hb_ rfl rfl rfl), Q_HO_10, Q_HO_6, Q_HO_7, Q_HB, Q_HO245⟩
                        refine steps_cons ?_ ?_
                        · rintro b a w' ⟨v244, ha, Q_HO_10, Q_HO_6, Q_HO_7, Q_HB, Q_HO245⟩ hb_ hon hoff
                          refine ⟨_, rfl, fun K hK => ?_⟩
                          have e53 : a.tmps[53]? = some (.bool true) := by rw [ha]; exact (putSel_off rfl).trans rfl
                          have e67 : a.tmps[67]? = some (.bool true) := by rw [ha]; exact putSel_on (e := (15, 67, .bool true)) 10 rfl rfl (hon 15 (by kernel_rfl)) rfl
                          replace ha := Aside0.mk ha
                          have HO_10 := Aside0.mk Q_HO_10
                          have HO_6 := Aside0.mk Q_HO_6
                          have HO_7 := Aside0.mk Q_HO_7
                          have HB := Aside0.mk Q_HB
                          have HO245 := Aside0.mk (Q_HO245 (hon 4 (by kernel_rfl)))
                          refine value_ (w1 := w') (v := .bool true) (by rfl) rfl ?_ ?_
                          · go_simp
                            (try simp only [i64_w])
                            try rfl
                            all_goals (first | rfl | (simp [bne]; done))
                          refine hK.out _ _ ⟨v244, (by rw [ha.out]; exact putSel_upk 11 hb_ rfl rfl rfl), Q_HO_10, Q_HO_6, Q_HO_7, Q_HB, Q_HO245⟩
                        exact steps_nil
                      rintro b a w31 hall ⟨v244, ha, Q_HO_10, Q_HO_6, Q_HO_7, Q_HB, Q_HO245⟩
                      clear HB HO_10 HO_6 HO_7
                      have hb4_ := hall 4 (by kernel_rfl)
                      have hb5_ := hall 5 (by kernel_rfl)
                      have hb7_ := hall 7 (by kernel_rfl)
                      have hb8_ := hall 8 (by kernel_rfl)
                      have hb9_ := hall 9 (by kernel_rfl)
                      have hb10_ := hall 10 (by kernel_rfl)
                      have hb11_ := hall 11 (by kernel_rfl)
                      have hb12_ := hall 12 (by kernel_rfl)
                      have hb13_ := hall 13 (by kernel_rfl)
                      have hb14_ := hall 14 (by kernel_rfl)
                      have hb15_ := hall 15 (by kernel_rfl)
                      have hb16_ := hall 16 (by kernel_rfl)
                      subst ha
                      simp only [putSel, hb4_, hb5_, hb7_, hb8_, hb9_, hb10_, hb11_, hb12_, hb13_, hb14_, hb15_, hb16_, if_true, Act.put, List.setIfInBounds_toArray, List.set_cons_zero, List.set_cons_succ]
                      have HO_10 := Aside0.mk Q_HO_10
                      clear Q_HO_10
                      have HO_6 := Aside0.mk Q_HO_6
                      clear Q_HO_6
                      have HO_7 := Aside0.mk Q_HO_7
                      clear Q_HO_7
                      have HB := Aside0.mk Q_HB
                      clear Q_HB
                      have HO245 := Aside0.mk (Q_HO245 hb4_)
                      clear Q_HO245
                      clear hall hb4_ hb5_ hb7_ hb8_ hb9_ hb10_ hb11_ hb12_ hb13_ hb14_ hb15_ hb16_
                      try go_wp2
                      go_meet
                      case rel => exact ⟨_, (true), (by first | rfl | (simp; done) | (simp [*]; done)), H', ⟨by have := HJ6.out; have := HJ12.out; first | omega | exact Nat.le_refl _⟩, ⟨by (with_reducible repeat (first | apply Kd.V_alloc | apply Kd.V_drewN | apply Kd.V_drew)); exact Kd.V_mono HO_6.out (fun _ hk => trivial)⟩, ⟨by (with_reducible repeat (first | apply Kd.V_alloc | apply Kd.V_drewN | apply Kd.V_drew)); exact Kd.V_mono HO_7.out (fun _ hk => trivial)⟩, ⟨by repeat (first | (with_reducible first | exact HB.out | apply below_alloc | apply pw_below_drewN | apply below_drew1) | exact HB.out)⟩⟩
                  · replace c19 := Bool.eq_false_iff.mpr c19
                    subst c19
                    have H1 : (ridgewaylaw01_OctetTake.j2 kj12 l0 a1 t230 t231 t234 t237 t238 false) = some true := by rw [if_neg (show ¬ (false = true) by decide)] at H; exact H
                    clear H
                    have H := H1
                    clear H1
                    have H' := Aside0.mk H
                    clear H
                    try go_wp2
                    have n0_ := Aside0.mk (Kd.V_drew HO_6.out)
                    have n1_ := Aside0.mk (Kd.V_drew HO_7.out)
                    have n2_ := Aside0.mk (Kd.V_drew HO_10.out)
                    have n3_ := Aside0.mk (below_drew1 HB.out)
                    clear HO_6
                    clear HO_7
                    clear HO_10
                    clear HB
                    have HO_6 := n0_
                    have HO_7 := n1_
                    have HO_10 := n2_
                    have HB := n3_
                    clear n0_ n1_ n2_ n3_
                    refine start_ (n := 17) (S := fun w' => True) (ds := []) #[false, false, false, false, false, false, false, false, false, false, false, false, false, false, false, false, false] (by kernel_rfl) rfl rfl trivial (fun hHeld => ?_); refine with_tabW ridgewaylaw01_OctetTake.tab10 ridgewaylaw01_OctetTake.bits10 (fun HT_ HW_ => ?_)
                    generalize wc.drew = w32 at HO_6 HO_7 HO_10 HB hHeld ⊢
                    refine pure_ (i := 0) (N := some 52) (v := ?_) (a' := ?_) #[true, false, false, false, false, false, false, false, false, false, false, false, false, false, false, false, false] rfl rfl (any_of HT_.out (by kernel_rfl)) (fun _ _ _ h => h) (Or.inl ⟨by rfl, ?_⟩) ?_ ?_
                    rotate_left
                    · intro w'
                      go_simp
                      with_reducible rfl
                    rotate_left
                    · simp only [Act.put, List.setIfInBounds_toArray, List.set_cons_zero, List.set_cons_succ, i64_w, i32_w]
                      rfl
                    refine pure_ (i := 1) (N := some 53) (v := ?_) (a' := ?_) #[true, true, false, false, false, false, false, false, false, false, false, false, false, false, false, false, false] rfl rfl (any_of HT_.out (by kernel_rfl)) (fun _ _ _ h => h) (Or.inl ⟨by rfl, ?_⟩) ?_ ?_
                    rotate_left
                    · intro w'
                      go_simp
                      with_reducible rfl
                    rotate_left
                    · simp only [Act.put, List.setIfInBounds_toArray, List.set_cons_zero, List.set_cons_succ, i64_w, i32_w]
                      rfl
                    refine pure_ (i := 2) (N := some 54) (v := undef) (a' := ?_) #[true, true, true, false, false, false, false, false, false, false, false, false, false, false, false, false, false] rfl rfl (any_of HT_.out (by kernel_rfl)) (fun _ _ _ h => h) (Or.inr ⟨by rfl, rfl⟩) ?_ ?_
                    rotate_left
                    · simp only [Act.put, List.setIfInBounds_toArray, List.set_cons_zero, List.set_cons_succ, i64_w, i32_w]
                      rfl
                    refine pure_ (i := 3) (N := some 55) (v := undef) (a' := ?_) #[true, true, true, true, false, false, false, false, false, false, false, false, false, false, false, false, false] rfl rfl (any_of HT_.out (by kernel_rfl)) (fun _ _ _ h => h) (Or.inr ⟨by rfl, rfl⟩) ?_ ?_
                    rotate_left
                    · simp only [Act.put, List.setIfInBounds_toArray, List.set_cons_zero, List.set_cons_succ, i64_w, i32_w]
                      rfl
                    refine pure_ (i := 4) (N := some 56) (v := undef) (a' := ?_) #[true, true, true, true, true, false, false, false, false, false, false, false, false, false, false, false, false] rfl rfl (any_of HT_.out (by kernel_rfl)) (fun _ _ _ h => h) (Or.inr ⟨by rfl, rfl⟩) ?_ ?_
                    rotate_left
                    · simp only [Act.put, List.setIfInBounds_toArray, List.set_cons_zero, List.set_cons_succ, i64_w, i32_w]
                      rfl
                    refine pure_ (i := 5) (N := some 57) (v := undef) (a' := ?_) #[true, true, true, true, true, true, false, false, false, false, false, false, false, false, false, false, false] rfl rfl (any_of HT_.out (by kernel_rfl)) (fun _ _ _ h => h) (Or.inr ⟨by rfl, rfl⟩) ?_ ?_
                    rotate_left
                    · simp only [Act.put, List.setIfInBounds_toArray, List.set_cons_zero, List.set_cons_succ, i64_w, i32_w]
                      rfl
                    refine pure_ (i := 6) (N := some 58) (v := undef) (a' := ?_) #[true, true, true, true, true, true, true, false, false, false, false, false, false, false, false, false, false] rfl rfl (any_of HT_.out (by kernel_rfl)) (fun _ _ _ h => h) (Or.inr ⟨by rfl, rfl⟩) ?_ ?_
                    rotate_left
                    · simp only [Act.put, List.setIfInBounds_toArray, List.set_cons_zero, List.set_cons_succ, i64_w, i32_w]
                      rfl
                    refine pure_ (i := 7) (N := some 59) (v := undef) (a' := ?_) #[true, true, true, true, true, true, true, true, false, false, false, false, false, false, false, false, false] rfl rfl (any_of HT_.out (by kernel_rfl)) (fun _ _ _ h => h) (Or.inr ⟨by rfl, rfl⟩) ?_ ?_
                    rotate_left
                    · simp only [Act.put, List.setIfInBounds_toArray, List.set_cons_zero, List.set_cons_succ, i64_w, i32_w]
                      rfl
                    refine pure_ (i := 8) (N := some 60) (v := undef) (a' := ?_) #[true, true, true, true, true, true, true, true, true, false, false, false, false, false, false, false, false] rfl rfl (any_of HT_.out (by kernel_rfl)) (fun _ _ _ h => h) (Or.inr ⟨by rfl, rfl⟩) ?_ ?_
                    rotate_left
                    · simp only [Act.put, List.setIfInBounds_toArray, List.set_cons_zero, List.set_cons_succ, i64_w, i32_w]
                      rfl
                    refine pure_ (i := 9) (N := some 61) (v := undef) (a' := ?_) #[true, true, true, true, true, true, true, true, true, true, false, false, false, false, false, false, false] rfl rfl (any_of HT_.out (by kernel_rfl)) (fun _ _ _ h => h) (Or.inr ⟨by rfl, rfl⟩) ?_ ?_
                    rotate_left
                    · simp only [Act.put, List.setIfInBounds_toArray, List.set_cons_zero, List.set_cons_succ, i64_w, i32_w]
                      rfl
                    refine pure_ (i := 10) (N := some 62) (v := undef) (a' := ?_) #[true, true, true, true, true, true, true, true, true, true, true, false, false, false, false, false, false] rfl rfl (any_of HT_.out (by kernel_rfl)) (fun _ _ _ h => h) (Or.inr ⟨by rfl, rfl⟩) ?_ ?_
                    rotate_left
                    · simp only [Act.put, List.setIfInBounds_toArray, List.set_cons_zero, List.set_cons_succ, i64_w, i32_w]
                      rfl
                    refine pure_ (i := 11) (N := some 63) (v := undef) (a' := ?_) #[true, true, true, true, true, true, true, true, true, true, true, true, false, false, false, false, false] rfl rfl (any_of HT_.out (by kernel_rfl)) (fun _ _ _ h => h) (Or.inr ⟨by rfl, rfl⟩) ?_ ?_
                    rotate_left
                    · simp only [Act.put, List.setIfInBounds_toArray, List.set_cons_zero, List.set_cons_succ, i64_w, i32_w]
                      rfl
                    refine pure_ (i := 12) (N := some 64) (v := undef) (a' := ?_) #[true, true, true, true, true, true, true, true, true, true, true, true, true, false, false, false, false] rfl rfl (any_of HT_.out (by kernel_rfl)) (fun _ _ _ h => h) (Or.inr ⟨by rfl, rfl⟩) ?_ ?_
                    rotate_left
                    · simp only [Act.put, List.setIfInBounds_toArray, List.set_cons_zero, List.set_cons_succ, i64_w, i32_w]
                      rfl
                    refine pure_ (i := 13) (N := some 65) (v := undef) (a' := ?_) #[true, true, true, true, true, true, true, true, true, true, true, true, true, true, false, false, false] rfl rfl (any_of HT_.out (by kernel_rfl)) (fun _ _ _ h => h) (Or.inr ⟨by rfl, rfl⟩) ?_ ?_
                    rotate_left
                    · simp only [Act.put, List.setIfInBounds_toArray, List.set_cons_zero, List.set_cons_succ, i64_w, i32_w]
                      rfl
                    refine pure_ (i := 14) (N := some 66) (v := undef) (a' := ?_) #[true, true, true, true, true, true, true, true, true, true, true, true, true, true, true, false, false] rfl rfl (any_of HT_.out (by kernel_rfl)) (fun _ _ _ h => h) (Or.inr ⟨by rfl, rfl⟩) ?_ ?_
                    rotate_left
                    · simp only [Act.put, List.setIfInBounds_toArray, List.set_cons_zero, List.set_cons_succ, i64_w, i32_w]
                      rfl
                    refine pure_ (i := 15) (N := some 67) (v := undef) (a' := ?_) #[true, true, true, true, true, true, true, true, true, true, true, true, true, true, true, true, false] rfl rfl (any_of HT_.out (by kernel_rfl)) (fun _ _ _ h => h) (Or.inr ⟨by rfl, rfl⟩) ?_ ?_
                    rotate_left
                    · simp only [Act.put, List.setIfInBounds_toArray, List.set_cons_zero, List.set_cons_succ, i64_w, i32_w]
                      rfl
                    refine pure_ (i := 16) (N := some 68) (v := ?_) (a' := ?_) #[true, true, true, true, true, true, true, true, true, true, true, true, true, true, true, true, true] rfl rfl (any_of HT_.out (by kernel_rfl)) (fun _ _ _ h => h) (Or.inl ⟨by rfl, ?_⟩) ?_ ?_
                    rotate_left
                    · intro w'
                      go_simp
                      with_reducible rfl
                    rotate_left
                    · simp only [Act.put, List.setIfInBounds_toArray, List.set_cons_zero, List.set_cons_succ, i64_w, i32_w]
                      rfl
                    refine done_ (done_of HT_.out (by kernel_rfl)) ?_
                    try go_wp2
                    go_meet
                    case rel => exact ⟨_, (false), (by first | rfl | (simp; done) | (simp [*]; done)), H', ⟨by have := HJ6.out; have := HJ12.out; first | omega | exact Nat.le_refl _⟩, ⟨by (with_reducible repeat (first | apply Kd.V_alloc | apply Kd.V_drewN | apply Kd.V_drew)); exact HO_6.out⟩, ⟨by (with_reducible repeat (first | apply Kd.V_alloc | apply Kd.V_drewN | apply Kd.V_drew)); exact HO_7.out⟩, ⟨by repeat (first | (with_reducible first | exact HB.out | apply below_alloc | apply pw_below_drewN | apply below_drew1) | exact HB.out)⟩⟩
                case rest =>
                  clear HC18
                  try clear c1
                  try clear hcv1
                  try clear c2
                  try clear p2
                  try clear hcv5
                  try clear hcv7
                  try clear hcv11
                  try clear c12
                  try clear hcv13
                  try clear c19
                  try clear c21
                  try clear c21b0
                  try clear c21b1
                  obtain ⟨kq, x68_17, rfl, HA, HJ17, HO_6, HO_7, HB⟩ := hcut
                  cases kq with
                  | zero => exact absurd HA.out (by simp [ridgewaylaw01_OctetTake.j2])
                  | succ kj17 =>
                    have H := HA.out
                    clear HA
                    simp only [ridgewaylaw01_OctetTake.j2] at H
                    by_cases c33 : x68_17 = true
                    · subst c33
                      have H1 : (some false) = some true := by rw [if_pos rfl] at H; exact H
                      clear H
                      have H := H1
                      clear H1
                      exact absurd H (by simp)
                    · replace c33 := Bool.eq_false_iff.mpr c33
                      subst c33
                      have H1 : (if t237 = true then (if t230 = true then (if (t231.length : Int) = a1 then (if (strOfNums t231).size + (strOfNums t234).size ≤ 9223372036854775807 then (some (((strOfNums t231) ++ (strOfNums t234)).toList == (strOfNums l0).toList)) else (none)) else (some false)) else (some false)) else (if t230 = true then (if (t231.length : Int) = 0 then (if (t234.length : Int) = 0 then (some (t238 == 0)) else (some false)) else (some false)) else (some false))) = some true := by rw [if_neg (show ¬ (false = true) by decide)] at H; exact H
                      clear H
                      have H := H1
                      clear H1
                      by_cases c34 : t237 = true
                      · subst c34
                        have H1 : (if t230 = true then (if (t231.length : Int) = a1 then (if (strOfNums t231).size + (strOfNums t234).size ≤ 9223372036854775807 then (some (((strOfNums t231) ++ (strOfNums t234)).toList == (strOfNums l0).toList)) else (none)) else (some false)) else (some false)) = some true := by rw [if_pos rfl] at H; exact H
                        clear H
                        have H := H1
                        clear H1
                        by_cases c35 : t230 = true
                        · subst c35
                          have H1 : (if (t231.length : Int) = a1 then (if (strOfNums t231).size + (strOfNums t234).size ≤ 9223372036854775807 then (some (((strOfNums t231) ++ (strOfNums t234)).toList == (strOfNums l0).toList)) else (none)) else (some false)) = some true := by rw [if_pos rfl] at H; exact H
                          clear H
                          have H := H1
                          clear H1
                          by_cases c36 : (t231.length : Int) = a1
                          · rw [if_pos c36] at H
                            have c36b0 : ((t231.length : Int) == a1) = true := beq_iff_eq.mpr c36
                            have c36b1 : ((t231.length : Int) != a1) = false := bne_eq_false_iff_eq.mpr c36
                            clear c36
                            by_cases c37 : (strOfNums t231).size + (strOfNums t234).size ≤ 9223372036854775807
                            · rw [if_pos c37] at H
                              have c37b0 := eq_true c37
                              have c37b1 : decide ((strOfNums t231).size + (strOfNums t234).size ≤ 9223372036854775807) = true := decide_eq_true c37
                              try have c37b2 : (9223372036854775807 < (strOfNums t231).size + (strOfNums t234).size) = False := eq_false (Nat.not_lt.2 c37)
                              have HRL_ := Aside0.mk (Option.some.inj H)
                              clear H
                              obtain ⟨Ao38, co38, eo38⟩ := Kd.V_slice HO_6.out
                              subst eo38
                              have hcv39 := V_string (P := Try.prog) Try.underlying22 Try.underlying5 Try.underlying9 HO_6.out
                              have hcv40 := V_string (P := Try.prog) Try.underlying22 Try.underlying5 Try.underlying9 HO_7.out
                              have hcv41 := Kd.C_string (P := Try.prog) (A := A0) (c := c0) Try.underlying22 Try.underlying5 Try.underlying9 (Kd.C_below HR0.out HB.out)
                              go_wp2
                              go_ret
                              exact ⟨by first | rfl | (simp [errW_none, errW_some] <;> rfl) | (rw [HRL_.out] <;> rfl) | (simp only [HRL_.out] <;> rfl) | (simp [*, errW_none, errW_some] <;> rfl), by repeat (first | (with_reducible first | exact HB.out | apply below_alloc | apply pw_below_drewN | apply below_drew1) | exact HB.out)⟩
                            · rw [if_neg c37] at H
                              exact absurd H (by simp)
                          · rw [if_neg c36] at H
                            have c36b0 : ((t231.length : Int) == a1) = false := beq_eq_false_iff_ne.mpr c36
                            have c36b1 : ((t231.length : Int) != a1) = true := bne_iff_ne.mpr c36
                            exact absurd H (by simp)
                        · replace c35 := Bool.eq_false_iff.mpr c35
                          subst c35
                          have H1 : (some false) = some true := by rw [if_neg (show ¬ (false = true) by decide)] at H; exact H
                          clear H
                          have H := H1
                          clear H1
                          exact absurd H (by simp)
                      · replace c34 := Bool.eq_false_iff.mpr c34
                        subst c34
                        have H1 : (if t230 = true then (if (t231.length : Int) = 0 then (if (t234.length : Int) = 0 then (some (t238 == 0)) else (some false)) else (some false)) else (some false)) = some true := by rw [if_neg (show ¬ (false = true) by decide)] at H; exact H
                        clear H
                        have H := H1
                        clear H1
                        by_cases c42 : t230 = true
                        · subst c42
                          have H1 : (if (t231.length : Int) = 0 then (if (t234.length : Int) = 0 then (some (t238 == 0)) else (some false)) else (some false)) = some true := by rw [if_pos rfl] at H; exact H
                          clear H
                          have H := H1
                          clear H1
                          by_cases c43 : (t231.length : Int) = 0
                          · rw [if_pos c43] at H
                            have c43b0 : ((t231.length : Int) == 0) = true := beq_iff_eq.mpr c43
                            have c43b1 : ((t231.length : Int) != 0) = false := bne_eq_false_iff_eq.mpr c43
                            clear c43
                            by_cases c44 : (t234.length : Int) = 0
                            · rw [if_pos c44] at H
                              have c44b0 : ((t234.length : Int) == 0) = true := beq_iff_eq.mpr c44
                              have c44b1 : ((t234.length : Int) != 0) = false := bne_eq_false_iff_eq.mpr c44
                              clear c44
                              have HRL_ := Aside0.mk (Option.some.inj H)
                              clear H
                              obtain ⟨Ao45, co45, eo45⟩ := Kd.V_slice HO_6.out
                              subst eo45
                              obtain ⟨Ao46, co46, eo46⟩ := Kd.V_slice HO_7.out
                              subst eo46
                              go_wp2
                              go_ret
                              exact ⟨by first | rfl | (simp [errW_none, errW_some] <;> rfl) | (rw [HRL_.out] <;> rfl) | (simp only [HRL_.out] <;> rfl) | (simp [*, errW_none, errW_some] <;> rfl), by repeat (first | (with_reducible first | exact HB.out | apply below_alloc | apply pw_below_drewN | apply below_drew1) | exact HB.out)⟩
                            · rw [if_neg c44] at H
                              have c44b0 : ((t234.length : Int) == 0) = false := beq_eq_false_iff_ne.mpr c44
                              have c44b1 : ((t234.length : Int) != 0) = true := bne_iff_ne.mpr c44
                              have c44b2 : ¬ (t234 = []) := fun h_ => c44 (by rw [h_]; rfl)
                              exact absurd H (by simp)
                          · rw [if_neg c43] at H
                            have c43b0 : ((t231.length : Int) == 0) = false := beq_eq_false_iff_ne.mpr c43
                            have c43b1 : ((t231.length : Int) != 0) = true := bne_iff_ne.mpr c43
                            have c43b2 : ¬ (t231 = []) := fun h_ => c43 (by rw [h_]; rfl)
                            exact absurd H (by simp)
                        · replace c42 := Bool.eq_false_iff.mpr c42
                          subst c42
                          have H1 : (some false) = some true := by rw [if_neg (show ¬ (false = true) by decide)] at H; exact H
                          clear H
                          have H := H1
                          clear H1
                          exact absurd H (by simp)

/-- THE ONE PURE STATEMENT of ridgewaylaw01_OctetTake: yours. -/
def ridgewaylaw01_OctetTake.Pure : Prop := ∀ (l0 : List Int) (a1 : Int), l0.length ≤ maxLen → l0.length * 1 ≤ 140737488351232 → (∀ x ∈ l0, (Lit.int .u8 x).wf = true) → (Lit.int .i64 a1).wf = true → ∃ k, ridgewaylaw01_OctetTake.f k l0 a1 = some true
theorem ridgewaylaw01_OctetTake.walk (P : ridgewaylaw01_OctetTake.Pure) (a0 : Option Addr) (len0 cap0 : Nat) (z0 : List Int) (a1 : Int) (w : World) (w0 : (a0 = none ∧ len0 = 0 ∧ cap0 = 0 ∧ z0 = []) ∨ ∃ x, a0 = some x ∧ len0 ≤ cap0 ∧ cap0 ≤ maxLen ∧ z0.length = cap0 ∧ (∀ i, i < z0.length → w.cell? (x.add i) = some (.int .u8 (z0.getD i 0))) ∧ ∀ n ∈ z0, (Lit.int .u8 n).wf = true) (y0 : len0 * 1 ≤ 140737488351232) (w1 : (Lit.int .i64 a1).wf = true) :
    Calls Try.prog 5 #[.slice a0 len0 cap0, .int .i64 a1] w fun e w' => e = .returned (.bool true) ∧ Below w.heap.size w w' := by
  obtain ⟨l0, rfl, hr0, hm0, hw0, hc0⟩ := ReadsInt.ofRowC w0
  obtain ⟨k, h⟩ := P l0 a1 hm0 y0 hw0 w1
  refine (ridgewaylaw01_OctetTake.calls k _ _ l0 a1 w (Kd.C_of_reads (d := (0 : Int)) (h1 := fun _ => rfl) hr0) hc0 h).mono ?_
  rintro e w' ⟨rfl, hd⟩
  exact ⟨rfl, hd⟩

end Go.Proofs.Ythaiiglklgchlaa.Q
