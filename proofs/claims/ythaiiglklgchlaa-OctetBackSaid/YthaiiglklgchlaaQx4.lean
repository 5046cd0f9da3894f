/- Each call of a Go function comes to what the Lean function of its name answers (written out by wip/tools/xprint.py, checked by Lean); conditions: those in each statement. -/
import Derived.Test.YthaiiglklgchlaaQx0
import Derived.Test.YthaiiglklgchlaaQx1
namespace Go.Proofs.Ythaiiglklgchlaa.Q
open Go.RowKit Go.Proofs.YthaiiglklgchlaaW.PrintWords Go.Proofs.YthaiiglklgchlaaW.PrintLast Go.Proofs.YthaiiglklgchlaaW.PrintMore Go.Proofs.YthaiiglklgchlaaW.PrintX
attribute [local go_sem] max2_int min2_int max_two min_two max_three min_three max_four min_four   -- for this text's walks alone
set_option linter.unusedVariables false
set_option linter.unusedSimpArgs false

/-! ### ridgewaylaw01_OctetBack: function 4 -/
def ridgewaylaw01_OctetBack.f (k : Nat) (a0 : Int) (a1 : Int) (l2 : List Int) : Option (Bool) := (ridgewaylaw01_awake.f k).bind fun t202 => (if (l2.length : Int) > 400 then (some t202) else (if 0 ≤ (IntKind.u64.wrap (wrap64 (8 * (wrap64 (1 + (Go.bits .and .i64 a1 3)))))) then ((octet_Put.f k ([] : List Int) a0 (wrap64 (1 + (Go.bits .and .i64 a1 3)))).bind fun t203 => ((some (([] : List Int) : List Int)).bind fun y206 => (if y206.length + t203.length < 140737488355328 then ((some (y206 ++ t203 : List Int)).bind fun y209 => (if y209.length + l2.length < 140737488355328 then ((octet_Get.f k (y209 ++ l2) (wrap64 (1 + (Go.bits .and .i64 a1 3)))).bind fun bt215 => (if 0 ≤ (mx 0 (wrap64 ((t203.length : Int) - 1))) then (if (mx 0 (wrap64 ((t203.length : Int) - 1))) ≤ (t203.length : Int) then ((octet_Get.f k (t203.take ((mx 0 (wrap64 ((t203.length : Int) - 1))) : Int).toNat) (wrap64 (1 + (Go.bits .and .i64 a1 3)))).bind fun bt225 => (if t202 = true then (if (t203.length : Int) = (wrap64 (1 + (Go.bits .and .i64 a1 3))) then (if bt215.2.2 = true then (if bt215.1 = (Go.bits .and .i64 a0 (wrap64 ((shl .i64 1 (IntKind.u64.wrap (wrap64 (8 * (wrap64 (1 + (Go.bits .and .i64 a1 3))))))) - 1))) then (if (strOfNums bt215.2.1).toList = (strOfNums l2).toList then (some (!bt225.2.2)) else (some false)) else (some false)) else (some false)) else (some false)) else (some false))) else (none)) else (none))) else (none))) else (none)))) else (none)))
theorem ridgewaylaw01_OctetBack.mono : ∀ a0 a1 a2 k, LeO (ridgewaylaw01_OctetBack.f k a0 a1 a2) (ridgewaylaw01_OctetBack.f (k + 1) a0 a1 a2) := by
  intro a0 a1 a2 k
  unfold ridgewaylaw01_OctetBack.f
  repeat' first
      | (with_reducible exact octet_Get.mono _ _ _)
      | (with_reducible exact octet_Put.mono _ _ _ _)
      | (with_reducible exact ridgewaylaw01_awake.mono _)
      | (with_reducible exact LeO.refl _)
      | (with_reducible exact LeO.none _)
      | (with_reducible refine LeO.ite ?_ ?_)
      | (with_reducible refine LeO.bind ?_ (fun _ => ?_))
      | exact octet_Get.mono _ _ _
      | exact octet_Put.mono _ _ _ _
      | exact ridgewaylaw01_awake.mono _
      | exact LeO.none _
      | refine LeO.ite ?_ ?_
      | refine LeO.bind ?_ (fun _ => ?_)
set_option maxHeartbeats 8000000 in
set_option maxRecDepth 100000 in
theorem ridgewaylaw01_OctetBack.calls (k : Nat) (a0 : Int) (a1 : Int) (A2 : Option Addr) (c2 : Nat) (l2 : List Int) (w : World) (hr2 : Kd.C (Kd.int .u8) w A2 l2.length l2) (hc2 : l2.length ≤ c2) (h : ridgewaylaw01_OctetBack.f k a0 a1 l2 = some true) :
    Calls Try.prog 4 #[.int .i64 a0, .int .i64 a1, .slice A2 l2.length c2] w fun e w' => e = .returned (.bool true) ∧ Below w.heap.size w w' := by
  have HR2 := Aside0.mk hr2
  have HC2 := Aside0.mk hc2
  clear hr2 hc2
  have HB := Aside0.mk (Below.refl w.heap.size w)
  have H : ((ridgewaylaw01_awake.f k).bind fun t202 => (if (l2.length : Int) > 400 then (some t202) else (if 0 ≤ (IntKind.u64.wrap (wrap64 (8 * (wrap64 (1 + (Go.bits .and .i64 a1 3)))))) then ((octet_Put.f k ([] : List Int) a0 (wrap64 (1 + (Go.bits .and .i64 a1 3)))).bind fun t203 => ((some (([] : List Int) : List Int)).bind fun y206 => (if y206.length + t203.length < 140737488355328 then ((some (y206 ++ t203 : List Int)).bind fun y209 => (if y209.length + l2.length < 140737488355328 then ((octet_Get.f k (y209 ++ l2) (wrap64 (1 + (Go.bits .and .i64 a1 3)))).bind fun bt215 => (if 0 ≤ (mx 0 (wrap64 ((t203.length : Int) - 1))) then (if (mx 0 (wrap64 ((t203.length : Int) - 1))) ≤ (t203.length : Int) then ((octet_Get.f k (t203.take ((mx 0 (wrap64 ((t203.length : Int) - 1))) : Int).toNat) (wrap64 (1 + (Go.bits .and .i64 a1 3)))).bind fun bt225 => (if t202 = true then (if (t203.length : Int) = (wrap64 (1 + (Go.bits .and .i64 a1 3))) then (if bt215.2.2 = true then (if bt215.1 = (Go.bits .and .i64 a0 (wrap64 ((shl .i64 1 (IntKind.u64.wrap (wrap64 (8 * (wrap64 (1 + (Go.bits .and .i64 a1 3))))))) - 1))) then (if (strOfNums bt215.2.1).toList = (strOfNums l2).toList then (some (!bt225.2.2)) else (some false)) else (some false)) else (some false)) else (some false)) else (some false))) else (none)) else (none))) else (none))) else (none)))) else (none)))) = some true := h
  clear h
  replace H := Option.bind_eq_some_iff.mp H
  obtain ⟨t202, A40, H⟩ := H
  replace H : (if (l2.length : Int) > 400 then (some t202) else (if 0 ≤ (IntKind.u64.wrap (wrap64 (8 * (wrap64 (1 + (Go.bits .and .i64 a1 3)))))) then ((octet_Put.f k ([] : List Int) a0 (wrap64 (1 + (Go.bits .and .i64 a1 3)))).bind fun t203 => ((some (([] : List Int) : List Int)).bind fun y206 => (if y206.length + t203.length < 140737488355328 then ((some (y206 ++ t203 : List Int)).bind fun y209 => (if y209.length + l2.length < 140737488355328 then ((octet_Get.f k (y209 ++ l2) (wrap64 (1 + (Go.bits .and .i64 a1 3)))).bind fun bt215 => (if 0 ≤ (mx 0 (wrap64 ((t203.length : Int) - 1))) then (if (mx 0 (wrap64 ((t203.length : Int) - 1))) ≤ (t203.length : Int) then ((octet_Get.f k (t203.take ((mx 0 (wrap64 ((t203.length : Int) - 1))) : Int).toNat) (wrap64 (1 + (Go.bits .and .i64 a1 3)))).bind fun bt225 => (if t202 = true then (if (t203.length : Int) = (wrap64 (1 + (Go.bits .and .i64 a1 3))) then (if bt215.2.2 = true then (if bt215.1 = (Go.bits .and .i64 a0 (wrap64 ((shl .i64 1 (IntKind.u64.wrap (wrap64 (8 * (wrap64 (1 + (Go.bits .and .i64 a1 3))))))) - 1))) then (if (strOfNums bt215.2.1).toList = (strOfNums l2).toList then (some (!bt225.2.2)) else (some false)) else (some false)) else (some false)) else (some false)) else (some false))) else (none)) else (none))) else (none))) else (none)))) else (none))) = some true := H
  have A4 := Aside0.mk A40
  clear A40
  by_cases c5 : (l2.length : Int) > 400
  · rw [if_pos c5] at H
    have c5b0 : decide (400 < (l2.length : Int)) = true := decide_eq_true c5
    have c5b1 : decide (400 < l2.length) = true := decide_eq_true (by omega)
    clear c5
    have HRL_ := Aside0.mk (Option.some.inj H)
    clear H
    go_enter Try.func4, Try.ntmps4
    go_wp2_with (first | ((with_reducible refine gate_callee (f := 7) rfl ?_); refine goesL_ (some 18) rfl rfl Try.func7 (by kernel_rfl) rfl #[] rfl (by (try simp only [List.map_toArray, List.map_cons, List.map_nil]); first | done | rfl | (simp only [List.length_drop, List.length_take]; rfl)) ?_; (with_reducible refine (ridgewaylaw01_awake.calls k  t202 _ A4.out).mono ?_); rintro e w6 ⟨rfl, hb⟩; refine ⟨_, rfl, ?_⟩; have n0_ := Aside0.mk (below_step (by repeat (first | (with_reducible first | exact HB.out | apply below_alloc | apply pw_below_drewN | apply below_drew1) | exact HB.out)) hb); clear HB; have HB := n0_; clear n0_; (try clear hb); (try clear hb2); (try clear hk); (try clear hi)))
    go_ret
    exact ⟨by first | rfl | (simp [errW_none, errW_some] <;> rfl) | (rw [HRL_.out] <;> rfl) | (simp only [HRL_.out] <;> rfl) | (simp [*, errW_none, errW_some] <;> rfl), by repeat (first | (with_reducible first | exact HB.out | apply below_alloc | apply pw_below_drewN | apply below_drew1) | exact HB.out)⟩
  · rw [if_neg c5] at H
    have c5b0 : decide (400 < (l2.length : Int)) = false := decide_eq_false c5
    have c5b1 : decide (400 < l2.length) = false := decide_eq_false (by omega)
    clear c5
    obtain ⟨ji7, hji7⟩ : ∃ j_ : Int, (IntKind.u64.wrap (wrap64 (8 * (wrap64 (1 + (Go.bits .and .i64 a1 3)))))) = j_ := ⟨_, rfl⟩
    replace H : (if 0 ≤ (ji7) then ((octet_Put.f k ([] : List Int) a0 (wrap64 (1 + (Go.bits .and .i64 a1 3)))).bind fun t203 => ((some (([] : List Int) : List Int)).bind fun y206 => (if y206.length + t203.length < 140737488355328 then ((some (y206 ++ t203 : List Int)).bind fun y209 => (if y209.length + l2.length < 140737488355328 then ((octet_Get.f k (y209 ++ l2) (wrap64 (1 + (Go.bits .and .i64 a1 3)))).bind fun bt215 => (if 0 ≤ (mx 0 (wrap64 ((t203.length : Int) - 1))) then (if (mx 0 (wrap64 ((t203.length : Int) - 1))) ≤ (t203.length : Int) then ((octet_Get.f k (t203.take ((mx 0 (wrap64 ((t203.length : Int) - 1))) : Int).toNat) (wrap64 (1 + (Go.bits .and .i64 a1 3)))).bind fun bt225 => (if t202 = true then (if (t203.length : Int) = (wrap64 (1 + (Go.bits .and .i64 a1 3))) then (if bt215.2.2 = true then (if bt215.1 = (Go.bits .and .i64 a0 (wrap64 ((shl .i64 1 (ji7)) - 1))) then (if (strOfNums bt215.2.1).toList = (strOfNums l2).toList then (some (!bt225.2.2)) else (some false)) else (some false)) else (some false)) else (some false)) else (some false))) else (none)) else (none))) else (none))) else (none)))) else (none)) = some true := by first | (rw [hji7] at H; exact H) | (simp only [hji7] at H ⊢; exact H)
    (try rw [hji7] at A4)
    by_cases c8 : 0 ≤ (ji7)
    · rw [if_pos c8] at H
      have c8b0 := eq_true c8
      have c8b1 : decide (0 ≤ (ji7)) = true := decide_eq_true c8
      clear c8
      obtain ⟨ji9, hji9⟩ : ∃ j_ : Int, (shl .i64 1 (ji7)) = j_ := ⟨_, rfl⟩
      replace H : ((octet_Put.f k ([] : List Int) a0 (wrap64 (1 + (Go.bits .and .i64 a1 3)))).bind fun t203 => ((some (([] : List Int) : List Int)).bind fun y206 => (if y206.length + t203.length < 140737488355328 then ((some (y206 ++ t203 : List Int)).bind fun y209 => (if y209.length + l2.length < 140737488355328 then ((octet_Get.f k (y209 ++ l2) (wrap64 (1 + (Go.bits .and .i64 a1 3)))).bind fun bt215 => (if 0 ≤ (mx 0 (wrap64 ((t203.length : Int) - 1))) then (if (mx 0 (wrap64 ((t203.length : Int) - 1))) ≤ (t203.length : Int) then ((octet_Get.f k (t203.take ((mx 0 (wrap64 ((t203.length : Int) - 1))) : Int).toNat) (wrap64 (1 + (Go.bits .and .i64 a1 3)))).bind fun bt225 => (if t202 = true then (if (t203.length : Int) = (wrap64 (1 + (Go.bits .and .i64 a1 3))) then (if bt215.2.2 = true then (if bt215.1 = (Go.bits .and .i64 a0 (wrap64 ((ji9) - 1))) then (if (strOfNums bt215.2.1).toList = (strOfNums l2).toList then (some (!bt225.2.2)) else (some false)) else (some false)) else (some false)) else (some false)) else (some false))) else (none)) else (none))) else (none))) else (none)))) = some true := by first | (rw [hji9] at H; exact H) | (simp only [hji9] at H ⊢; exact H)
      (try rw [hji9] at A4)
      have hji9_ : (IntKind.i64.wrap (1 * 2 ^ min (ji7).toNat 64)) = ji9 := hji9
      have hji9z : (ji7) ≤ 64 → (IntKind.i64.wrap (1 * 2 ^ (ji7).toNat)) = ji9 := shl_small hji9
      have hji9u : (IntKind.i64.wrap (2 ^ min (ji7).toNat 64)) = ji9 := by have h_ := hji9_; rw [Int.one_mul] at h_; exact h_
      have hji9v : (ji7) ≤ 64 → (IntKind.i64.wrap (2 ^ (ji7).toNat)) = ji9 := fun hle_ => by have h_ := hji9z hle_; rw [Int.one_mul] at h_; exact h_
      have hji9y : (wrap64 (1 * 2 ^ min (ji7).toNat 64)) = ji9 := (i64_w _).symm.trans hji9_
      have hji9x : (ji7) ≤ 64 → (wrap64 (1 * 2 ^ (ji7).toNat)) = ji9 := fun h_ => (i64_w _).symm.trans (hji9z h_)
      replace H := Option.bind_eq_some_iff.mp H
      obtain ⟨t203, A100, H⟩ := H
      replace H : ((some (([] : List Int) : List Int)).bind fun y206 => (if y206.length + t203.length < 140737488355328 then ((some (y206 ++ t203 : List Int)).bind fun y209 => (if y209.length + l2.length < 140737488355328 then ((octet_Get.f k (y209 ++ l2) (wrap64 (1 + (Go.bits .and .i64 a1 3)))).bind fun bt215 => (if 0 ≤ (mx 0 (wrap64 ((t203.length : Int) - 1))) then (if (mx 0 (wrap64 ((t203.length : Int) - 1))) ≤ (t203.length : Int) then ((octet_Get.f k (t203.take ((mx 0 (wrap64 ((t203.length : Int) - 1))) : Int).toNat) (wrap64 (1 + (Go.bits .and .i64 a1 3)))).bind fun bt225 => (if t202 = true then (if (t203.length : Int) = (wrap64 (1 + (Go.bits .and .i64 a1 3))) then (if bt215.2.2 = true then (if bt215.1 = (Go.bits .and .i64 a0 (wrap64 ((ji9) - 1))) then (if (strOfNums bt215.2.1).toList = (strOfNums l2).toList then (some (!bt225.2.2)) else (some false)) else (some false)) else (some false)) else (some false)) else (some false))) else (none)) else (none))) else (none))) else (none))) = some true := H
      have A10 := Aside0.mk A100
      clear A100
      obtain ⟨y206, hy206⟩ : ∃ y_ : List Int, y_ = (([] : List Int)) := ⟨_, rfl⟩
      replace H : (if y206.length + t203.length < 140737488355328 then ((some (y206 ++ t203 : List Int)).bind fun y209 => (if y209.length + l2.length < 140737488355328 then ((octet_Get.f k (y209 ++ l2) (wrap64 (1 + (Go.bits .and .i64 a1 3)))).bind fun bt215 => (if 0 ≤ (mx 0 (wrap64 ((t203.length : Int) - 1))) then (if (mx 0 (wrap64 ((t203.length : Int) - 1))) ≤ (t203.length : Int) then ((octet_Get.f k (t203.take ((mx 0 (wrap64 ((t203.length : Int) - 1))) : Int).toNat) (wrap64 (1 + (Go.bits .and .i64 a1 3)))).bind fun bt225 => (if t202 = true then (if (t203.length : Int) = (wrap64 (1 + (Go.bits .and .i64 a1 3))) then (if bt215.2.2 = true then (if bt215.1 = (Go.bits .and .i64 a0 (wrap64 ((ji9) - 1))) then (if (strOfNums bt215.2.1).toList = (strOfNums l2).toList then (some (!bt225.2.2)) else (some false)) else (some false)) else (some false)) else (some false)) else (some false))) else (none)) else (none))) else (none))) else (none)) = some true := by first | (rw [hy206]; with_reducible exact H) | (have H2_ := (Option.bind_some _ _).symm.trans H; rw [hy206]; with_reducible exact H2_) | (have H2_ := (Option.bind_some _ _).symm.trans H; with_reducible exact H2_) | with_reducible exact H | (rw [hy206]; exact H) | exact H
      have Ny206 := Aside0.mk hy206
      clear hy206
      by_cases c11 : y206.length + t203.length < 140737488355328
      · rw [if_pos c11] at H
        have LMc11 := Aside0.mk c11
        clear c11
        obtain ⟨y209, hy209⟩ : ∃ y_ : List Int, y_ = (y206 ++ t203) := ⟨_, rfl⟩
        replace H : (if y209.length + l2.length < 140737488355328 then ((octet_Get.f k (y209 ++ l2) (wrap64 (1 + (Go.bits .and .i64 a1 3)))).bind fun bt215 => (if 0 ≤ (mx 0 (wrap64 ((t203.length : Int) - 1))) then (if (mx 0 (wrap64 ((t203.length : Int) - 1))) ≤ (t203.length : Int) then ((octet_Get.f k (t203.take ((mx 0 (wrap64 ((t203.length : Int) - 1))) : Int).toNat) (wrap64 (1 + (Go.bits .and .i64 a1 3)))).bind fun bt225 => (if t202 = true then (if (t203.length : Int) = (wrap64 (1 + (Go.bits .and .i64 a1 3))) then (if bt215.2.2 = true then (if bt215.1 = (Go.bits .and .i64 a0 (wrap64 ((ji9) - 1))) then (if (strOfNums bt215.2.1).toList = (strOfNums l2).toList then (some (!bt225.2.2)) else (some false)) else (some false)) else (some false)) else (some false)) else (some false))) else (none)) else (none))) else (none)) = some true := by first | (rw [hy209]; with_reducible exact H) | (have H2_ := (Option.bind_some _ _).symm.trans H; rw [hy209]; with_reducible exact H2_) | (have H2_ := (Option.bind_some _ _).symm.trans H; with_reducible exact H2_) | with_reducible exact H | (rw [hy209]; exact H) | exact H
        have Ny209 := Aside0.mk hy209
        clear hy209
        by_cases c12 : y209.length + l2.length < 140737488355328
        · rw [if_pos c12] at H
          have LMc12 := Aside0.mk c12
          clear c12
          obtain ⟨y212, hy212⟩ : ∃ y_ : List Int, y_ = (y209 ++ l2) := ⟨_, rfl⟩
          replace H : ((octet_Get.f k y212 (wrap64 (1 + (Go.bits .and .i64 a1 3)))).bind fun bt215 => (if 0 ≤ (mx 0 (wrap64 ((t203.length : Int) - 1))) then (if (mx 0 (wrap64 ((t203.length : Int) - 1))) ≤ (t203.length : Int) then ((octet_Get.f k (t203.take ((mx 0 (wrap64 ((t203.length : Int) - 1))) : Int).toNat) (wrap64 (1 + (Go.bits .and .i64 a1 3)))).bind fun bt225 => (if t202 = true then (if (t203.length : Int) = (wrap64 (1 + (Go.bits .and .i64 a1 3))) then (if bt215.2.2 = true then (if bt215.1 = (Go.bits .and .i64 a0 (wrap64 ((ji9) - 1))) then (if (strOfNums bt215.2.1).toList = (strOfNums l2).toList then (some (!bt225.2.2)) else (some false)) else (some false)) else (some false)) else (some false)) else (some false))) else (none)) else (none))) = some true := by first | (rw [hy212]; with_reducible exact H) | (have H2_ := (Option.bind_some _ _).symm.trans H; rw [hy212]; with_reducible exact H2_) | (have H2_ := (Option.bind_some _ _).symm.trans H; with_reducible exact H2_) | with_reducible exact H | (rw [hy212]; exact H) | exact H
          have Ny212 := Aside0.mk hy212
          clear hy212
          replace H := Option.bind_eq_some_iff.mp H
          obtain ⟨⟨t215, t216, t219⟩, A130, H⟩ := H
          replace H : (if 0 ≤ (mx 0 (wrap64 ((t203.length : Int) - 1))) then (if (mx 0 (wrap64 ((t203.length : Int) - 1))) ≤ (t203.length : Int) then ((octet_Get.f k (t203.take ((mx 0 (wrap64 ((t203.length : Int) - 1))) : Int).toNat) (wrap64 (1 + (Go.bits .and .i64 a1 3)))).bind fun bt225 => (if t202 = true then (if (t203.length : Int) = (wrap64 (1 + (Go.bits .and .i64 a1 3))) then (if t219 = true then (if t215 = (Go.bits .and .i64 a0 (wrap64 ((ji9) - 1))) then (if (strOfNums t216).toList = (strOfNums l2).toList then (some (!bt225.2.2)) else (some false)) else (some false)) else (some false)) else (some false)) else (some false))) else (none)) else (none)) = some true := H
          have A13 := Aside0.mk A130
          clear A130
          obtain ⟨ji14, hji14⟩ : ∃ j_ : Int, (mx 0 (wrap64 ((t203.length : Int) - 1))) = j_ := ⟨_, rfl⟩
          replace H : (if 0 ≤ (ji14) then (if (ji14) ≤ (t203.length : Int) then ((octet_Get.f k (t203.take ((ji14) : Int).toNat) (wrap64 (1 + (Go.bits .and .i64 a1 3)))).bind fun bt225 => (if t202 = true then (if (t203.length : Int) = (wrap64 (1 + (Go.bits .and .i64 a1 3))) then (if t219 = true then (if t215 = (Go.bits .and .i64 a0 (wrap64 ((ji9) - 1))) then (if (strOfNums t216).toList = (strOfNums l2).toList then (some (!bt225.2.2)) else (some false)) else (some false)) else (some false)) else (some false)) else (some false))) else (none)) else (none)) = some true := by first | (rw [hji14] at H; exact H) | (simp only [hji14] at H ⊢; exact H)
          (try rw [hji14] at A4)
          (try rw [hji14] at A10)
          (try rw [hji14] at A13)
          (try (have hji14l : 0 ≤ ji14 := by (rw [← hji14]; unfold mx; (repeat' split) <;> omega)))
          (try (have hji14m : 0 ≤ ji14 := by omega))
          have hji14_ : (if 0 < (wrap64 ((t203.length : Int) - 1)) then (wrap64 ((t203.length : Int) - 1)) else 0) = ji14 := hji14
          by_cases c15 : 0 ≤ (ji14)
          · rw [if_pos c15] at H
            have c15b0 := eq_true c15
            have c15b1 : decide (0 ≤ (ji14)) = true := decide_eq_true c15
            clear c15
            by_cases c16 : (ji14) ≤ (t203.length : Int)
            · rw [if_pos c16] at H
              have c16b0 := eq_true c16
              have c16b1 : decide ((ji14) ≤ (t203.length : Int)) = true := decide_eq_true c16
              clear c16
              obtain ⟨y220, hy220⟩ : ∃ y_ : List Int, y_ = (t203.take ((ji14) : Int).toNat) := ⟨_, rfl⟩
              replace H : ((octet_Get.f k y220 (wrap64 (1 + (Go.bits .and .i64 a1 3)))).bind fun bt225 => (if t202 = true then (if (t203.length : Int) = (wrap64 (1 + (Go.bits .and .i64 a1 3))) then (if t219 = true then (if t215 = (Go.bits .and .i64 a0 (wrap64 ((ji9) - 1))) then (if (strOfNums t216).toList = (strOfNums l2).toList then (some (!bt225.2.2)) else (some false)) else (some false)) else (some false)) else (some false)) else (some false))) = some true := by first | (rw [hy220]; with_reducible exact H) | (have H2_ := (Option.bind_some _ _).symm.trans H; rw [hy220]; with_reducible exact H2_) | (have H2_ := (Option.bind_some _ _).symm.trans H; with_reducible exact H2_) | with_reducible exact H | (rw [hy220]; exact H) | exact H
              have Ny220 := Aside0.mk hy220
              clear hy220
              replace H := Option.bind_eq_some_iff.mp H
              obtain ⟨⟨t225, t226, t229⟩, A170, H⟩ := H
              replace H : (if t202 = true then (if (t203.length : Int) = (wrap64 (1 + (Go.bits .and .i64 a1 3))) then (if t219 = true then (if t215 = (Go.bits .and .i64 a0 (wrap64 ((ji9) - 1))) then (if (strOfNums t216).toList = (strOfNums l2).toList then (some (!t229)) else (some false)) else (some false)) else (some false)) else (some false)) else (some false)) = some true := H
              have A17 := Aside0.mk A170
              clear A170
              by_cases c18 : t202 = true
              · subst c18
                have H1 : (if (t203.length : Int) = (wrap64 (1 + (Go.bits .and .i64 a1 3))) then (if t219 = true then (if t215 = (Go.bits .and .i64 a0 (wrap64 ((ji9) - 1))) then (if (strOfNums t216).toList = (strOfNums l2).toList then (some (!t229)) else (some false)) else (some false)) else (some false)) else (some false)) = some true := by rw [if_pos rfl] at H; exact H
                clear H
                have H := H1
                clear H1
                by_cases c19 : (t203.length : Int) = (wrap64 (1 + (Go.bits .and .i64 a1 3)))
                · rw [if_pos c19] at H
                  have c19b0 : ((t203.length : Int) == (wrap64 (1 + (Go.bits .and .i64 a1 3)))) = true := beq_iff_eq.mpr c19
                  have c19b1 : ((t203.length : Int) != (wrap64 (1 + (Go.bits .and .i64 a1 3)))) = false := bne_eq_false_iff_eq.mpr c19
                  clear c19
                  by_cases c20 : t219 = true
                  · subst c20
                    have H1 : (if t215 = (Go.bits .and .i64 a0 (wrap64 ((ji9) - 1))) then (if (strOfNums t216).toList = (strOfNums l2).toList then (some (!t229)) else (some false)) else (some false)) = some true := by rw [if_pos rfl] at H; exact H
                    clear H
                    have H := H1
                    clear H1
                    by_cases c21 : t215 = (Go.bits .and .i64 a0 (wrap64 ((ji9) - 1)))
                    · rw [if_pos c21] at H
                      have c21b0 : (t215 == (Go.bits .and .i64 a0 (wrap64 ((ji9) - 1)))) = true := beq_iff_eq.mpr c21
                      have c21b1 : (t215 != (Go.bits .and .i64 a0 (wrap64 ((ji9) - 1)))) = false := bne_eq_false_iff_eq.mpr c21
                      clear c21
                      by_cases c22 : (strOfNums t216).toList = (strOfNums l2).toList
                      · rw [if_pos c22] at H
                        have c22b0 : ((strOfNums t216).toList == (strOfNums l2).toList) = true := beq_iff_eq.mpr c22
                        have c22b1 : ((strOfNums t216).toList != (strOfNums l2).toList) = false := bne_eq_false_iff_eq.mpr c22
                        clear c22
                        have HRL_ := Aside0.mk (Option.some.inj H)
                        clear H
                        go_enter Try.func4, Try.ntmps4
                        go_wp2_with (first | ((with_reducible refine gate_callee (f := 7) rfl ?_); refine goesL_ (some 18) rfl rfl Try.func7 (by kernel_rfl) rfl #[] rfl (by (try simp only [List.map_toArray, List.map_cons, List.map_nil]); first | done | rfl | (simp only [List.length_drop, List.length_take]; rfl)) ?_; (with_reducible refine (ridgewaylaw01_awake.calls k  true _ A4.out).mono ?_); rintro e w23 ⟨rfl, hb⟩; refine ⟨_, rfl, ?_⟩; have n0_ := Aside0.mk (below_step (by repeat (first | (with_reducible first | exact HB.out | apply below_alloc | apply pw_below_drewN | apply below_drew1) | exact HB.out)) hb); clear HB; have HB := n0_; clear n0_; (try clear hb); (try clear hb2); (try clear hk); (try clear hi)) | ((with_reducible refine gate_callee (f := 12) rfl ?_); refine goesL_ (some 35) rfl rfl Try.func12 (by kernel_rfl) rfl #[.slice none 0 0, .int .i64 a0, .int .i64 (wrap64 (1 + (Go.bits .and .i64 a1 3)))] rfl (by (try simp only [List.map_toArray, List.map_cons, List.map_nil]); first | done | rfl | (simp only [List.length_drop, List.length_take]; rfl)) ?_; (refine (octet_Put.calls k _ _ ([] : List Int) a0 (wrap64 (1 + (Go.bits .and .i64 a1 3))) t203 _ ?side1 ?side2 A10.out).mono ?_); (case side1 => exact Kd.C_nil _ _); (case side2 => exact Nat.le_refl _); rintro e w24 ⟨v204, rfl, ho0, hb⟩; refine ⟨_, rfl, ?_⟩; have n0_ := Aside0.mk (Kd.R_lower ho0 (below_size (by repeat (first | (with_reducible first | exact HB.out | apply below_alloc | apply pw_below_drewN | apply below_drew1) | exact HB.out)))); have n1_ := Aside0.mk (below_step (by repeat (first | (with_reducible first | exact HB.out | apply below_alloc | apply pw_below_drewN | apply below_drew1) | exact HB.out)) hb); clear HB; have HO205 := n0_; have HB := n1_; clear n0_ n1_; (try clear hb); (try clear hb2); (try clear hk); (try clear hi); (try clear ho0)) | ((with_reducible refine gate_dst (N := 36) rfl ?_); (try (refine gate_guard (by rfl) ?_; dsimp only)); refine Kd.R_lit (Kd.int .u8) _ 5 ?hg (N := 36) ?hd (xs := ([] : List Int)) (inner := []) (ok := fun _ => True) (okp := fun _ => True) ?hr ?hp (fun _ hk => hk) trivial (Below.refl _ _) (Nat.le_refl _) (by simp) ?_; (case hd => rfl); (case hg => rfl); (case hr => first | (go_simp; done) | (go_simp; rfl)); (case hp => exact (Reps.none _ _)); intro v207 w25 ho26 hb hg_ hnew_; clear hg_ hnew_; (first | rw [← Ny206.out] at ho26 | (simp only [Int.reduceToNat] at ho26; rw [← Ny206.out] at ho26)); have n0_ := Aside0.mk (Kd.R_elder' (by (with_reducible repeat (first | apply Kd.R_alloc | apply Kd.R_drewN | apply Kd.R_drew)); exact HO205.out) (Kd.R_base ho26) hb); have n1_ := Aside0.mk (Kd.R_lower (Kd.R_new' ho26 (Kd.R_lt (by (with_reducible repeat (first | apply Kd.R_alloc | apply Kd.R_drewN | apply Kd.R_drew)); exact HO205.out))) (below_size (by repeat (first | (with_reducible first | exact HB.out | apply below_alloc | apply pw_below_drewN | apply below_drew1) | exact HB.out)))); have n2_ := Aside0.mk (below_step (by repeat (first | (with_reducible first | exact HB.out | apply below_alloc | apply pw_below_drewN | apply below_drew1) | exact HB.out)) hb); clear HO205; clear HB; have HO205 := n0_; have HO208 := n1_; have HB := n2_; clear n0_ n1_ n2_; clear hb ho26; obtain ⟨Ao28, co28, eo28⟩ := Kd.R_slice HO205.out; subst eo28) | ((with_reducible refine gate_builtin (b := .append) (xs := #[.tmp 36, .tmp 37]) rfl ?_); (try (refine gate_guard (by rfl) ?_; dsimp only)); at_builtin; refine Kd.R_append_rows (Kd.int .u8) (w0 := w) w.heap.size rfl (.tmp 36) (.tmp 37) 22 5 (.int .u8 0) 1 rfl Try.underlying22 info5 rfl (by decide) (by omega) v207 y206 t203 _ _ _ (fun k_ => some k_ ≠ (.slice Ao28 t203.length co28 : Value).ownBlock) (fun _ => False) rfl rfl ?aO ?aR (fun _ _ h => h) (fun _ h => h.elim) ?aF ?aB ?aS ?aL ?_; (case aR => repeat (first | exact (Kd.R_reads' HO205.out).2.2 | (with_reducible refine Kd.C_alloc ?_ _) | (with_reducible refine Kd.C_drewN ?_ _) | (with_reducible refine Kd.C_drew ?_))); (case aB => exact (by repeat (first | (with_reducible first | exact HB.out | apply below_alloc | apply pw_below_drewN | apply below_drew1) | exact HB.out))); (case aF => exact (fun k_ hk => Kd.fresh' (Kd.R_lt (by (with_reducible repeat (first | apply Kd.R_alloc | apply Kd.R_drewN | apply Kd.R_drew)); exact HO205.out)) k_ hk)); (case aO => exact (by (with_reducible repeat (first | apply Kd.R_alloc | apply Kd.R_drewN | apply Kd.R_drew)); exact Kd.R_mono HO208.out (fun _ hk => hk.2))); (case aS => exact (below_size (by repeat (first | (with_reducible first | exact HB.out | apply below_alloc | apply pw_below_drewN | apply below_drew1) | exact HB.out)))); (case aL => have := LMc11.out; omega); intro v210 w27 ho hb hg hat; rw [← Ny209.out] at ho; have n0_ := Aside0.mk (Kd.R_after (ok := (fun _ => True)) (by (with_reducible repeat (first | apply Kd.R_alloc | apply Kd.R_drewN | apply Kd.R_drew)); exact HO205.out) hg hat); have n1_ := Aside0.mk (hb); have n2_ := Aside0.mk (ho); clear HO205; clear HB; clear HO208; have HO205 := n0_; have HB := n1_; have HO211 := n2_; clear n0_ n1_ n2_; clear ho hb hg hat) | ((with_reducible refine gate_builtin (b := .append) (xs := #[.tmp 39, .tmp 40]) rfl ?_); (try (refine gate_guard (by rfl) ?_; dsimp only)); at_builtin; refine Kd.R_append_rows (Kd.int .u8) (w0 := w) w.heap.size rfl (.tmp 39) (.tmp 40) 22 5 (.int .u8 0) 1 rfl Try.underlying22 info5 rfl (by decide) (by omega) v210 y209 l2 _ _ _ (fun k_ => some k_ ≠ (.slice Ao28 t203.length co28 : Value).ownBlock) (fun _ => False) rfl rfl ?aO ?aR (fun _ _ h => h) (fun _ h => h.elim) ?aF ?aB ?aS ?aL ?_; (case aR => repeat (first | exact (Kd.C_below HR2.out HB.out) | (with_reducible refine Kd.C_alloc ?_ _) | (with_reducible refine Kd.C_drewN ?_ _) | (with_reducible refine Kd.C_drew ?_))); (case aB => exact (by repeat (first | (with_reducible first | exact HB.out | apply below_alloc | apply pw_below_drewN | apply below_drew1) | exact HB.out))); (case aF => exact (fun k_ hk => Kd.fresh' (Kd.R_lt (by (with_reducible repeat (first | apply Kd.R_alloc | apply Kd.R_drewN | apply Kd.R_drew)); exact HO205.out)) k_ hk)); (case aO => exact (by (with_reducible repeat (first | apply Kd.R_alloc | apply Kd.R_drewN | apply Kd.R_drew)); exact HO211.out)); (case aS => exact (below_size (by repeat (first | (with_reducible first | exact HB.out | apply below_alloc | apply pw_below_drewN | apply below_drew1) | exact HB.out)))); (case aL => have := LMc12.out; omega); intro v213 w29 ho hb hg hat; rw [← Ny212.out] at ho; have n0_ := Aside0.mk (Kd.R_after (ok := (fun _ => True)) (by (with_reducible repeat (first | apply Kd.R_alloc | apply Kd.R_drewN | apply Kd.R_drew)); exact HO205.out) hg hat); have n1_ := Aside0.mk (hb); have n2_ := Aside0.mk (ho); clear HO205; clear HB; clear HO211; have HO205 := n0_; have HB := n1_; have HO214 := n2_; clear n0_ n1_ n2_; clear ho hb hg hat; obtain ⟨Ao30, co30, eo30⟩ := Kd.R_slice HO214.out; subst eo30) | ((with_reducible refine gate_callee (f := 8) rfl ?_); refine goesL_ (some 45) rfl rfl Try.func8 (by kernel_rfl) rfl #[.slice Ao30 y212.length co30, .int .i64 (wrap64 (1 + (Go.bits .and .i64 a1 3)))] rfl (by (try simp only [List.map_toArray, List.map_cons, List.map_nil]); first | done | rfl | (simp only [List.length_drop, List.length_take]; rfl)) ?_; (with_reducible refine (octet_Get.calls k (fun k_ => some k_ = (.slice Ao30 y212.length co30 : Value).ownBlock) _ _ y212 (wrap64 (1 + (Go.bits .and .i64 a1 3))) t215 t216 true _ ?side1 A13.out).mono ?_); (case side1 => exact Kd.R_V (Kd.R_tight rfl (HO214.out))); rintro e w31 ⟨v217, rfl, ho0, hb⟩; refine ⟨_, rfl, ?_⟩; have n0_ := Aside0.mk (Kd.R_below (by (with_reducible repeat (first | apply Kd.R_alloc | apply Kd.R_drewN | apply Kd.R_drew)); exact HO205.out) hb); have n1_ := Aside0.mk (Kd.R_below (by (with_reducible repeat (first | apply Kd.R_alloc | apply Kd.R_drewN | apply Kd.R_drew)); exact HO214.out) hb); have n2_ := Aside0.mk (Kd.V_lower (Kd.V_mono (ok' := fun k_ => some k_ ≠ (.slice Ao28 t203.length co28 : Value).ownBlock) ho0 (fun k_ hk_ => Or.elim hk_ (fun hs_ => ((HO214.out).1 k_ hs_.symm)) (fun hn_ => (Kd.fresh' (Kd.R_lt (by (with_reducible repeat (first | apply Kd.R_alloc | apply Kd.R_drewN | apply Kd.R_drew)); exact HO205.out)) k_ hn_)))) (below_size (by repeat (first | (with_reducible first | exact HB.out | apply below_alloc | apply pw_below_drewN | apply below_drew1) | exact HB.out)))); have n3_ := Aside0.mk (below_step (by repeat (first | (with_reducible first | exact HB.out | apply below_alloc | apply pw_below_drewN | apply below_drew1) | exact HB.out)) hb); clear HO205; clear HO214; clear HB; have HO205 := n0_; have HO214 := n1_; have HO218 := n2_; have HB := n3_; clear n0_ n1_ n2_ n3_; (try clear hb); (try clear hb2); (try clear hk); (try clear hi); (try clear ho0); have q32 : ((ji14) : Int) ≤ ((t203.length : Int) : Int) := of_decide_eq_true (by first | (with_reducible assumption) | assumption); obtain ⟨i032, hi032, _, hsz32, _⟩ := info_parts info5; have hroom32 : t203.length ≤ co28 := (Kd.R_reads' HO205.out).2.1; have hC32 : Kd.F (Kd.int .u8) _ _ Ao28 t203.length t203 := (Kd.V_at (base := w.heap.size) (Kd.R_V HO205.out)).2.2; have hcut32 := cut_to (P := Try.prog) 22 5 .i64 Try.underlying22 hi032 Ao28 t203.length co28 (ji14) (of_decide_eq_true (by first | (with_reducible assumption) | assumption)) q32 hroom32; have hr32 := Kd.F_take (m := ((ji14) : Int).toNat) hC32 (by omega); have hy32 : y220.length = ((ji14) : Int).toNat := (by rw [Ny220.out, List.length_take]; omega); rw [← Ny220.out] at hr32; rw [← hy32] at hcut32; have HO224 := Aside0.mk (show Kd.V (Kd.int .u8) 5 _ w.heap.size _ (.slice Ao28 y220.length co28) y220 from Kd.V_mk (by omega) hr32); have HC224 := Aside0.mk (show y220.length ≤ co28 from by omega); clear hr32 hC32 hroom32 hi032 hsz32; have KY32 := Aside0.mk hy32; clear hy32; replace q32 := eq_true q32) | ((with_reducible refine gate_callee (f := 8) rfl ?_); refine goesL_ (some 57) rfl rfl Try.func8 (by kernel_rfl) rfl #[.slice Ao28 y220.length co28, .int .i64 (wrap64 (1 + (Go.bits .and .i64 a1 3)))] rfl (by (try simp only [List.map_toArray, List.map_cons, List.map_nil]); first | done | rfl | (simp only [List.length_drop, List.length_take]; rfl)) ?_; (with_reducible refine (octet_Get.calls k (fun k_ => (True ∧ some k_ ≠ (.slice Ao30 y212.length co30 : Value).ownBlock)) _ _ y220 (wrap64 (1 + (Go.bits .and .i64 a1 3))) t225 t226 t229 _ ?side1 A17.out).mono ?_); (case side1 => exact HO224.out); rintro e w33 ⟨v227, rfl, ho0, hb⟩; refine ⟨_, rfl, ?_⟩; have n0_ := Aside0.mk (Kd.R_below (by (with_reducible repeat (first | apply Kd.R_alloc | apply Kd.R_drewN | apply Kd.R_drew)); exact HO205.out) hb); have n1_ := Aside0.mk (Kd.R_below (by (with_reducible repeat (first | apply Kd.R_alloc | apply Kd.R_drewN | apply Kd.R_drew)); exact HO214.out) hb); have n2_ := Aside0.mk (Kd.V_below (by (with_reducible repeat (first | apply Kd.V_alloc | apply Kd.V_drewN | apply Kd.V_drew)); exact HO218.out) hb); have n3_ := Aside0.mk (Kd.V_below (by (with_reducible repeat (first | apply Kd.V_alloc | apply Kd.V_drewN | apply Kd.V_drew)); exact HO224.out) hb); have n4_ := Aside0.mk (Kd.V_lower (Kd.V_mono (ok' := fun k_ => some k_ ≠ (.slice Ao30 y212.length co30 : Value).ownBlock) ho0 (fun k_ hk_ => Or.elim hk_ (fun hs_ => hs_.2) (fun hn_ => (Kd.fresh' (Kd.R_lt (by (with_reducible repeat (first | apply Kd.R_alloc | apply Kd.R_drewN | apply Kd.R_drew)); exact HO214.out)) k_ hn_)))) (below_size (by repeat (first | (with_reducible first | exact HB.out | apply below_alloc | apply pw_below_drewN | apply below_drew1) | exact HB.out)))); have n5_ := Aside0.mk (below_step (by repeat (first | (with_reducible first | exact HB.out | apply below_alloc | apply pw_below_drewN | apply below_drew1) | exact HB.out)) hb); clear HO205; clear HO214; clear HO218; clear HO224; clear HB; have HO205 := n0_; have HO214 := n1_; have HO218 := n2_; have HO224 := n3_; have HO228 := n4_; have HB := n5_; clear n0_ n1_ n2_ n3_ n4_ n5_; (try clear hb); (try clear hb2); (try clear hk); (try clear hi); (try clear ho0); have hcv34 := V_string (P := Try.prog) Try.underlying22 Try.underlying5 Try.underlying9 HO218.out; have hcv35 := Kd.C_string (P := Try.prog) (A := A2) (c := c2) Try.underlying22 Try.underlying5 Try.underlying9 (Kd.C_below HR2.out HB.out)))
                        go_ret
                        exact ⟨by first | rfl | (simp [errW_none, errW_some] <;> rfl) | (rw [HRL_.out] <;> rfl) | (simp only [HRL_.out] <;> rfl) | (simp only [← hji7, ← hji9, ← hji14]; first | rfl | (simp [errW_none, errW_some] <;> rfl)) | (simp [*, errW_none, errW_some] <;> rfl), by repeat (first | (with_reducible first | exact HB.out | apply below_alloc | apply pw_below_drewN | apply below_drew1) | exact HB.out)⟩
                      · rw [if_neg c22] at H
                        have c22b0 : ((strOfNums t216).toList == (strOfNums l2).toList) = false := beq_eq_false_iff_ne.mpr c22
                        have c22b1 : ((strOfNums t216).toList != (strOfNums l2).toList) = true := bne_iff_ne.mpr c22
                        exact absurd H (by simp)
                    · rw [if_neg c21] at H
                      have c21b0 : (t215 == (Go.bits .and .i64 a0 (wrap64 ((ji9) - 1)))) = false := beq_eq_false_iff_ne.mpr c21
                      have c21b1 : (t215 != (Go.bits .and .i64 a0 (wrap64 ((ji9) - 1)))) = true := bne_iff_ne.mpr c21
                      exact absurd H (by simp)
                  · replace c20 := Bool.eq_false_iff.mpr c20
                    subst c20
                    have H1 : (some false) = some true := by rw [if_neg (show ¬ (false = true) by decide)] at H; exact H
                    clear H
                    have H := H1
                    clear H1
                    exact absurd H (by simp)
                · rw [if_neg c19] at H
                  have c19b0 : ((t203.length : Int) == (wrap64 (1 + (Go.bits .and .i64 a1 3)))) = false := beq_eq_false_iff_ne.mpr c19
                  have c19b1 : ((t203.length : Int) != (wrap64 (1 + (Go.bits .and .i64 a1 3)))) = true := bne_iff_ne.mpr c19
                  exact absurd H (by simp)
              · replace c18 := Bool.eq_false_iff.mpr c18
                subst c18
                have H1 : (some false) = some true := by rw [if_neg (show ¬ (false = true) by decide)] at H; exact H
                clear H
                have H := H1
                clear H1
                exact absurd H (by simp)
            · rw [if_neg c16] at H
              exact absurd H (by simp)
          · rw [if_neg c15] at H
            exact absurd H (by simp)
        · rw [if_neg c12] at H
          exact absurd H (by simp)
      · rw [if_neg c11] at H
        exact absurd H (by simp)
    · rw [if_neg c8] at H
      exact absurd H (by simp)

/-- THE ONE PURE STATEMENT of ridgewaylaw01_OctetBack: yours. -/
def ridgewaylaw01_OctetBack.Pure : Prop := ∀ (a0 : Int) (a1 : Int) (l2 : List Int), (Lit.int .i64 a0).wf = true → (Lit.int .i64 a1).wf = true → l2.length ≤ maxLen → l2.length * 1 ≤ 140737488351232 → (∀ x ∈ l2, (Lit.int .u8 x).wf = true) → ∃ k, ridgewaylaw01_OctetBack.f k a0 a1 l2 = some true
theorem ridgewaylaw01_OctetBack.walk (P : ridgewaylaw01_OctetBack.Pure) (a0 : Int) (a1 : Int) (a2 : Option Addr) (len2 cap2 : Nat) (z2 : List Int) (w : World) (w0 : (Lit.int .i64 a0).wf = true) (w1 : (Lit.int .i64 a1).wf = true) (w2 : (a2 = none ∧ len2 = 0 ∧ cap2 = 0 ∧ z2 = []) ∨ ∃ x, a2 = some x ∧ len2 ≤ cap2 ∧ cap2 ≤ maxLen ∧ z2.length = cap2 ∧ (∀ i, i < z2.length → w.cell? (x.add i) = some (.int .u8 (z2.getD i 0))) ∧ ∀ n ∈ z2, (Lit.int .u8 n).wf = true) (y2 : len2 * 1 ≤ 140737488351232) :
    Calls Try.prog 4 #[.int .i64 a0, .int .i64 a1, .slice a2 len2 cap2] w fun e w' => e = .returned (.bool true) ∧ Below w.heap.size w w' := by
  obtain ⟨l2, rfl, hr2, hm2, hw2, hc2⟩ := ReadsInt.ofRowC w2
  obtain ⟨k, h⟩ := P a0 a1 l2 w0 w1 hm2 y2 hw2
  refine (ridgewaylaw01_OctetBack.calls k a0 a1 _ _ l2 w (Kd.C_of_reads (d := (0 : Int)) (h1 := fun _ => rfl) hr2) hc2 h).mono ?_
  rintro e w' ⟨rfl, hd⟩
  exact ⟨rfl, hd⟩

end Go.Proofs.Ythaiiglklgchlaa.Q
