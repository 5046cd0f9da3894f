/- Each call of a Go function comes to what the Lean function of its name answers (written out by wip/tools/xprint.py, checked by Lean); conditions: those in each statement. -/
import Derived.Test.YtjifgkimcepakaaDoorQx0
import Derived.Test.YtjifgkimcepakaaDoorQx1
namespace Go.Proofs.YtjifgkimcepakaaDoor.Q
open Go.RowKit Go.Proofs.YtjifgkimcepakaaDoorW.PrintWords Go.Proofs.YtjifgkimcepakaaDoorW.PrintLast Go.Proofs.YtjifgkimcepakaaDoorW.PrintMore Go.Proofs.YtjifgkimcepakaaDoorW.PrintX
attribute [local go_sem] max2_int min2_int max_two min_two max_three min_three max_four min_four   -- for this text's walks alone
set_option linter.unusedVariables false
set_option linter.unusedSimpArgs false

/-! ### ridgewaylaw13_RolePairs: function 6 -/
mutual
def ridgewaylaw13_RolePairs.l0 : Nat → Int → Int → Int → Int → Bool → Int → Int → Option (Bool)
  | 0, _, _, _, _, _, _, _ => none
  | k + 1, x0, x1, x2, x3, x9, x10, x11 => if x11 ≤ 7 then ((role_Pairs.f x0 x11).bind fun t137 => (if t137 = true then (ridgewaylaw13_RolePairs.l0 k x0 x1 x2 x3 x9 (wrap64 (x10 + 1)) (wrap64 (x11 + 1))) else (ridgewaylaw13_RolePairs.l0 k x0 x1 x2 x3 x9 x10 (wrap64 (x11 + 1))))) else (if x0 ≥ 0 then (ridgewaylaw13_RolePairs.j1 k x0 x1 x2 x3 x9 x10 0 (decide (x0 ≤ 4))) else (ridgewaylaw13_RolePairs.j1 k x0 x1 x2 x3 x9 x10 0 false))
def ridgewaylaw13_RolePairs.j1 : Nat → Int → Int → Int → Int → Bool → Int → Int → Bool → Option (Bool)
  | 0, _, _, _, _, _, _, _, _ => none
  | k + 1, x0, x1, x2, x3, x9, x10, x12, x29 => if x29 = true then (ridgewaylaw13_RolePairs.j2 k x0 x1 x2 x3 x9 x10 1) else (ridgewaylaw13_RolePairs.j2 k x0 x1 x2 x3 x9 x10 x12)
def ridgewaylaw13_RolePairs.j2 : Nat → Int → Int → Int → Int → Bool → Int → Int → Option (Bool)
  | 0, _, _, _, _, _, _, _ => none
  | k + 1, x0, x1, x2, x3, x9, x10, x12 => (role_Pairs.f x0 x1).bind fun t138 => ((role_Pairs.f x1 x0).bind fun t139 => (if (t138 != t139) = true then (ridgewaylaw13_RolePairs.j3 k x2 x3 x9 true) else (if x10 = x12 then ((role_Pairs.f x0 x1).bind fun t140 => (if t140 = true then (if x1 < 0 then (ridgewaylaw13_RolePairs.j3 k x2 x3 x9 true) else (ridgewaylaw13_RolePairs.j3 k x2 x3 x9 (decide (x1 > 4)))) else (ridgewaylaw13_RolePairs.j3 k x2 x3 x9 false))) else (ridgewaylaw13_RolePairs.j3 k x2 x3 x9 true))))
def ridgewaylaw13_RolePairs.j3 : Nat → Int → Int → Bool → Bool → Option (Bool)
  | 0, _, _, _, _ => none
  | k + 1, x2, x3, x9, x54 => if x54 = true then (some false) else (if x2 ≥ 1 then (if x2 ≤ 3 then (if x3 ≥ 1 then (if x9 = true then ((role_Mine.f x2).bind fun t141 => ((role_Mine.f x3).bind fun t142 => ((role_Pairs.f t141 t142).bind fun t143 => (if x3 ≤ 3 then (some (t143 == ((wrap64 (x2 + x3)) == 4))) else (some (t143 == false)))))) else (some false)) else (if x9 = true then ((role_Mine.f x2).bind fun t144 => ((role_Mine.f x3).bind fun t145 => ((role_Pairs.f t144 t145).bind fun t146 => (some (t146 == false))))) else (some false))) else (if x9 = true then ((role_Mine.f x2).bind fun t147 => ((role_Mine.f x3).bind fun t148 => ((role_Pairs.f t147 t148).bind fun t149 => (some (t149 == false))))) else (some false))) else (if x9 = true then ((role_Mine.f x2).bind fun t150 => ((role_Mine.f x3).bind fun t151 => ((role_Pairs.f t150 t151).bind fun t152 => (some (t152 == false))))) else (some false)))
end
def ridgewaylaw13_RolePairs.f (k : Nat) (a0 : Int) (a1 : Int) (a2 : Int) (a3 : Int) : Option (Bool) := (ridgewaylaw13_awake.f k).bind fun t136 => (ridgewaylaw13_RolePairs.l0 k a0 a1 a2 a3 t136 0 (-2))
theorem ridgewaylaw13_RolePairs.mono_l : ∀ k, (∀ y0 y1 y2 y3 y4 y5 y6, LeO (ridgewaylaw13_RolePairs.l0 k y0 y1 y2 y3 y4 y5 y6) (ridgewaylaw13_RolePairs.l0 (k + 1) y0 y1 y2 y3 y4 y5 y6)) ∧ (∀ y0 y1 y2 y3 y4 y5 y6 y7, LeO (ridgewaylaw13_RolePairs.j1 k y0 y1 y2 y3 y4 y5 y6 y7) (ridgewaylaw13_RolePairs.j1 (k + 1) y0 y1 y2 y3 y4 y5 y6 y7)) ∧ (∀ y0 y1 y2 y3 y4 y5 y6, LeO (ridgewaylaw13_RolePairs.j2 k y0 y1 y2 y3 y4 y5 y6) (ridgewaylaw13_RolePairs.j2 (k + 1) y0 y1 y2 y3 y4 y5 y6)) ∧ (∀ y0 y1 y2 y3, LeO (ridgewaylaw13_RolePairs.j3 k y0 y1 y2 y3) (ridgewaylaw13_RolePairs.j3 (k + 1) y0 y1 y2 y3))
  | 0 => ⟨fun _ _ _ _ _ _ _ r h => by simp [ridgewaylaw13_RolePairs.l0] at h, fun _ _ _ _ _ _ _ _ r h => by simp [ridgewaylaw13_RolePairs.j1] at h, fun _ _ _ _ _ _ _ r h => by simp [ridgewaylaw13_RolePairs.j2] at h, fun _ _ _ _ r h => by simp [ridgewaylaw13_RolePairs.j3] at h⟩
  | k + 1 => by
    obtain ⟨ih0, ih1, ih2, ih3⟩ := ridgewaylaw13_RolePairs.mono_l k
    refine ⟨?_, ?_, ?_, ?_⟩
    · intro y0 y1 y2 y3 y4 y5 y6
      unfold ridgewaylaw13_RolePairs.l0
      repeat' first
      | (with_reducible exact ih0 _ _ _ _ _ _ _)
      | (with_reducible exact ih1 _ _ _ _ _ _ _ _)
      | (with_reducible exact ih2 _ _ _ _ _ _ _)
      | (with_reducible exact ih3 _ _ _ _)
      | (with_reducible exact ridgewaylaw13_awake.mono _)
      | (with_reducible exact LeO.refl _)
      | (with_reducible exact LeO.none _)
      | (with_reducible refine LeO.ite ?_ ?_)
      | (with_reducible refine LeO.bind ?_ (fun _ => ?_))
      | exact ih0 _ _ _ _ _ _ _
      | exact ih1 _ _ _ _ _ _ _ _
      | exact ih2 _ _ _ _ _ _ _
      | exact ih3 _ _ _ _
      | exact ridgewaylaw13_awake.mono _
      | exact LeO.none _
      | refine LeO.ite ?_ ?_
      | refine LeO.bind ?_ (fun _ => ?_)
    · intro y0 y1 y2 y3 y4 y5 y6 y7
      unfold ridgewaylaw13_RolePairs.j1
      repeat' first
      | (with_reducible exact ih0 _ _ _ _ _ _ _)
      | (with_reducible exact ih1 _ _ _ _ _ _ _ _)
      | (with_reducible exact ih2 _ _ _ _ _ _ _)
      | (with_reducible exact ih3 _ _ _ _)
      | (with_reducible exact ridgewaylaw13_awake.mono _)
      | (with_reducible exact LeO.refl _)
      | (with_reducible exact LeO.none _)
      | (with_reducible refine LeO.ite ?_ ?_)
      | (with_reducible refine LeO.bind ?_ (fun _ => ?_))
      | exact ih0 _ _ _ _ _ _ _
      | exact ih1 _ _ _ _ _ _ _ _
      | exact ih2 _ _ _ _ _ _ _
      | exact ih3 _ _ _ _
      | exact ridgewaylaw13_awake.mono _
      | exact LeO.none _
      | refine LeO.ite ?_ ?_
      | refine LeO.bind ?_ (fun _ => ?_)
    · intro y0 y1 y2 y3 y4 y5 y6
      unfold ridgewaylaw13_RolePairs.j2
      repeat' first
      | (with_reducible exact ih0 _ _ _ _ _ _ _)
      | (with_reducible exact ih1 _ _ _ _ _ _ _ _)
      | (with_reducible exact ih2 _ _ _ _ _ _ _)
      | (with_reducible exact ih3 _ _ _ _)
      | (with_reducible exact ridgewaylaw13_awake.mono _)
      | (with_reducible exact LeO.refl _)
      | (with_reducible exact LeO.none _)
      | (with_reducible refine LeO.ite ?_ ?_)
      | (with_reducible refine LeO.bind ?_ (fun _ => ?_))
      | exact ih0 _ _ _ _ _ _ _
      | exact ih1 _ _ _ _ _ _ _ _
      | exact ih2 _ _ _ _ _ _ _
      | exact ih3 _ _ _ _
      | exact ridgewaylaw13_awake.mono _
      | exact LeO.none _
      | refine LeO.ite ?_ ?_
      | refine LeO.bind ?_ (fun _ => ?_)
    · intro y0 y1 y2 y3
      unfold ridgewaylaw13_RolePairs.j3
      repeat' first
      | (with_reducible exact ih0 _ _ _ _ _ _ _)
      | (with_reducible exact ih1 _ _ _ _ _ _ _ _)
      | (with_reducible exact ih2 _ _ _ _ _ _ _)
      | (with_reducible exact ih3 _ _ _ _)
      | (with_reducible exact ridgewaylaw13_awake.mono _)
      | (with_reducible exact LeO.refl _)
      | (with_reducible exact LeO.none _)
      | (with_reducible refine LeO.ite ?_ ?_)
      | (with_reducible refine LeO.bind ?_ (fun _ => ?_))
      | exact ih0 _ _ _ _ _ _ _
      | exact ih1 _ _ _ _ _ _ _ _
      | exact ih2 _ _ _ _ _ _ _
      | exact ih3 _ _ _ _
      | exact ridgewaylaw13_awake.mono _
      | exact LeO.none _
      | refine LeO.ite ?_ ?_
      | refine LeO.bind ?_ (fun _ => ?_)
theorem ridgewaylaw13_RolePairs.mono : ∀ a0 a1 a2 a3 k, LeO (ridgewaylaw13_RolePairs.f k a0 a1 a2 a3) (ridgewaylaw13_RolePairs.f (k + 1) a0 a1 a2 a3) := by
  intro a0 a1 a2 a3 k
  obtain ⟨ih0, ih1, ih2, ih3⟩ := ridgewaylaw13_RolePairs.mono_l k
  unfold ridgewaylaw13_RolePairs.f
  repeat' first
      | (with_reducible exact ih0 _ _ _ _ _ _ _)
      | (with_reducible exact ih1 _ _ _ _ _ _ _ _)
      | (with_reducible exact ih2 _ _ _ _ _ _ _)
      | (with_reducible exact ih3 _ _ _ _)
      | (with_reducible exact ridgewaylaw13_awake.mono _)
      | (with_reducible exact LeO.refl _)
      | (with_reducible exact LeO.none _)
      | (with_reducible refine LeO.ite ?_ ?_)
      | (with_reducible refine LeO.bind ?_ (fun _ => ?_))
      | exact ih0 _ _ _ _ _ _ _
      | exact ih1 _ _ _ _ _ _ _ _
      | exact ih2 _ _ _ _ _ _ _
      | exact ih3 _ _ _ _
      | exact ridgewaylaw13_awake.mono _
      | exact LeO.none _
      | refine LeO.ite ?_ ?_
      | refine LeO.bind ?_ (fun _ => ?_)
set_option maxHeartbeats 8000000 in
set_option maxRecDepth 100000 in
theorem ridgewaylaw13_RolePairs.calls (k : Nat) (a0 : Int) (a1 : Int) (a2 : Int) (a3 : Int) (w : World) (hG : GOK w) (h : ridgewaylaw13_RolePairs.f k a0 a1 a2 a3 = some true) :
    Calls Tryd.prog 6 #[.int .i64 a0, .int .i64 a1, .int .i64 a2, .int .i64 a3] w fun e w' => e = .returned (.bool true) ∧ Drawn0 w w' := by
  have HG := Aside0.mk hG
  clear hG
  have H : ((ridgewaylaw13_awake.f k).bind fun t136 => (ridgewaylaw13_RolePairs.l0 k a0 a1 a2 a3 t136 0 (-2))) = some true := h
  clear h
  replace H := Option.bind_eq_some_iff.mp H
  obtain ⟨t136, A50, H⟩ := H
  replace H : (ridgewaylaw13_RolePairs.l0 k a0 a1 a2 a3 t136 0 (-2)) = some true := H
  have A5 := Aside0.mk A50
  clear A50
  have H' := Aside0.mk H
  clear H
  go_enter Tryd.func6, Tryd.ntmps6
  go_wp2_with (first | ((with_reducible refine gate_callee (f := 8) rfl ?_); refine goesL_ (some 14) rfl rfl Tryd.func8 (by kernel_rfl) rfl #[] rfl (by (try simp only [List.map_toArray, List.map_cons, List.map_nil]); first | done | rfl | (simp only [List.length_drop, List.length_take]; rfl)) ?_; (with_reducible refine (ridgewaylaw13_awake.calls k  t136 _ ?side1 A5.out).mono ?_); (case side1 => first | exact HG.out | exact GOK.drawn HG.out _); rintro e w' ⟨rfl, ⟨nd, rfl⟩⟩; refine ⟨_, rfl, ?_⟩))
  go_loopg [10, 11] k (fun kq v10 v11 w' => ∃ (x10_1 : Int) (x11_1 : Int), v10 = .int .i64 x10_1 ∧ v11 = .int .i64 x11_1 ∧ Aside0 (ridgewaylaw13_RolePairs.l0 kq a0 a1 a2 a3 t136 x10_1 x11_1 = some true) ∧ Aside0 (kq ≤ k) ∧ Drawn0 w w')
  case atStart => exact ⟨(0), ((-2)), (by first | rfl | (simp; done) | (simp [*]; done)), (by first | rfl | (simp; done) | (simp [*]; done)), H', ⟨Nat.le_refl _⟩, by repeat (first | exact Drawn0.refl _ | apply Drawn0.step)⟩
  case round =>
    clear H'
    try clear p2
    obtain ⟨x10_1, x11_1, rfl, rfl, HA, HK1, ⟨m1, rfl⟩⟩ := hrel
    cases gk with
    | zero => exact absurd HA.out (by simp [ridgewaylaw13_RolePairs.l0])
    | succ k1 =>
      have H := HA.out
      clear HA
      simp only [ridgewaylaw13_RolePairs.l0] at H
      by_cases c6 : x11_1 ≤ 7
      · rw [if_pos c6] at H
        have c6b0 : decide (x11_1 ≤ 7) = true := decide_eq_true c6
        clear c6
        replace H := Option.bind_eq_some_iff.mp H
        obtain ⟨t137, A70, H⟩ := H
        replace H : (if t137 = true then (ridgewaylaw13_RolePairs.l0 k1 a0 a1 a2 a3 t136 (wrap64 (x10_1 + 1)) (wrap64 (x11_1 + 1))) else (ridgewaylaw13_RolePairs.l0 k1 a0 a1 a2 a3 t136 x10_1 (wrap64 (x11_1 + 1)))) = some true := H
        have A7 := Aside0.mk A70
        clear A70
        by_cases c8 : t137 = true
        · subst c8
          have H1 : (ridgewaylaw13_RolePairs.l0 k1 a0 a1 a2 a3 t136 (wrap64 (x10_1 + 1)) (wrap64 (x11_1 + 1))) = some true := by rw [if_pos rfl] at H; first | done | exact H
          clear H
          have H := H1
          clear H1
          have H' := Aside0.mk H
          clear H
          go_wp2_with (first | ((with_reducible refine gate_callee (f := 15) rfl ?_); refine goesL_ (some 21) rfl rfl Tryd.func15 (by kernel_rfl) rfl #[.int .i64 a0, .int .i64 x11_1] rfl (by (try simp only [List.map_toArray, List.map_cons, List.map_nil]); first | done | rfl | (simp only [List.length_drop, List.length_take]; rfl)) ?_; (with_reducible refine (role_Pairs.calls a0 x11_1 true _ ?side1 A7.out).mono ?_); (case side1 => first | exact HG.out | exact GOK.drawn HG.out _); rintro e w' ⟨rfl, ⟨nd, rfl⟩⟩; refine ⟨_, rfl, ?_⟩))
          go_roundg k1
          case measure => have := HK1.out; omega
          case rel => exact ⟨(wrap64 (x10_1 + 1)), (wrap64 (x11_1 + 1)), (by first | rfl | (simp; done) | (simp [*]; done)), (by first | rfl | (simp; done) | (simp [*]; done)), H', ⟨by have := HK1.out; omega⟩, by repeat (first | exact Drawn0.refl _ | apply Drawn0.step)⟩
        · replace c8 := Bool.eq_false_iff.mpr c8
          subst c8
          have H1 : (ridgewaylaw13_RolePairs.l0 k1 a0 a1 a2 a3 t136 x10_1 (wrap64 (x11_1 + 1))) = some true := by rw [if_neg (show ¬ (false = true) by decide)] at H; first | done | exact H
          clear H
          have H := H1
          clear H1
          have H' := Aside0.mk H
          clear H
          go_wp2_with (first | ((with_reducible refine gate_callee (f := 15) rfl ?_); refine goesL_ (some 21) rfl rfl Tryd.func15 (by kernel_rfl) rfl #[.int .i64 a0, .int .i64 x11_1] rfl (by (try simp only [List.map_toArray, List.map_cons, List.map_nil]); first | done | rfl | (simp only [List.length_drop, List.length_take]; rfl)) ?_; (with_reducible refine (role_Pairs.calls a0 x11_1 false _ ?side1 A7.out).mono ?_); (case side1 => first | exact HG.out | exact GOK.drawn HG.out _); rintro e w' ⟨rfl, ⟨nd, rfl⟩⟩; refine ⟨_, rfl, ?_⟩))
          go_roundg k1
          case measure => have := HK1.out; omega
          case rel => exact ⟨(x10_1), (wrap64 (x11_1 + 1)), (by first | rfl | (simp; done) | (simp [*]; done)), (by first | rfl | (simp; done) | (simp [*]; done)), H', ⟨by have := HK1.out; omega⟩, by repeat (first | exact Drawn0.refl _ | apply Drawn0.step)⟩
      · rw [if_neg c6] at H
        have c6b0 : decide (x11_1 ≤ 7) = false := decide_eq_false c6
        clear c6
        have HC9 := Aside0.mk H
        clear H
        go_upto_region 9 with (fail)
        go_cut [29] (fun v29 wc => ∃ (kq : Nat) (x29_8 : Bool), v29 = .bool x29_8 ∧ Aside0 (ridgewaylaw13_RolePairs.j1 kq a0 a1 a2 a3 t136 x10_1 0 x29_8 = some true) ∧ Aside0 (kq ≤ k1) ∧ Drawn0 w wc)
        case first =>
          have H := HC9.out
          clear HC9
          by_cases c10 : a0 ≥ 0
          · rw [if_pos c10] at H
            have c10b0 : decide (0 ≤ a0) = true := decide_eq_true c10
            clear c10
            (first | rw [c10b0] | (simp only [i64_w, i32_w]; rw [c10b0]) | skip)
            have H' := Aside0.mk H
            clear H
            go_wp2
            go_meet
            case rel => exact ⟨_, (decide (a0 ≤ 4)), (by first | rfl | (simp; done) | (simp [*]; done)), H', ⟨by have := HK1.out; first | omega | exact Nat.le_refl _⟩, by repeat (first | exact Drawn0.refl _ | apply Drawn0.step)⟩
          · rw [if_neg c10] at H
            have c10b0 : decide (0 ≤ a0) = false := decide_eq_false c10
            clear c10
            (first | rw [c10b0] | (simp only [i64_w, i32_w]; rw [c10b0]) | skip)
            have H' := Aside0.mk H
            clear H
            go_wp2
            go_meet
            case rel => exact ⟨_, (false), (by first | rfl | (simp; done) | (simp [*]; done)), H', ⟨by have := HK1.out; first | omega | exact Nat.le_refl _⟩, by repeat (first | exact Drawn0.refl _ | apply Drawn0.step)⟩
        case rest =>
          clear HC9
          try clear c1
          try clear p2
          try clear c6
          try clear c6b0
          try clear p6
          try clear c8
          try clear c10
          try clear c10b0
          try clear p2
          obtain ⟨kq, x29_8, rfl, HA, HJ8, ⟨mc8, rfl⟩⟩ := hcut
          cases kq with
          | zero => exact absurd HA.out (by simp [ridgewaylaw13_RolePairs.j1])
          | succ kj8 =>
            have H := HA.out
            clear HA
            simp only [ridgewaylaw13_RolePairs.j1] at H
            have HC11 := Aside0.mk H
            clear H
            go_upto_if 29 with (fail)
            go_cut [12] (fun v12 wc => ∃ (kq : Nat) (x12_10 : Int), v12 = .int .i64 x12_10 ∧ Aside0 (ridgewaylaw13_RolePairs.j2 kq a0 a1 a2 a3 t136 x10_1 x12_10 = some true) ∧ Aside0 (kq ≤ kj8) ∧ Drawn0 w wc)
            case first =>
              have H := HC11.out
              clear HC11
              by_cases c12 : x29_8 = true
              · subst c12
                have H1 : (ridgewaylaw13_RolePairs.j2 kj8 a0 a1 a2 a3 t136 x10_1 1) = some true := by rw [if_pos rfl] at H; first | done | exact H
                clear H
                have H := H1
                clear H1
                have H' := Aside0.mk H
                clear H
                go_wp2
                go_meet
                case rel => exact ⟨_, (1), (by first | rfl | (simp; done) | (simp [*]; done)), H', ⟨by have := HK1.out; have := HJ8.out; first | omega | exact Nat.le_refl _⟩, by repeat (first | exact Drawn0.refl _ | apply Drawn0.step)⟩
              · replace c12 := Bool.eq_false_iff.mpr c12
                subst c12
                have H1 : (ridgewaylaw13_RolePairs.j2 kj8 a0 a1 a2 a3 t136 x10_1 0) = some true := by rw [if_neg (show ¬ (false = true) by decide)] at H; first | done | exact H
                clear H
                have H := H1
                clear H1
                have H' := Aside0.mk H
                clear H
                go_wp2
                go_meet
                case rel => exact ⟨_, (0), (by first | rfl | (simp; done) | (simp [*]; done)), H', ⟨by have := HK1.out; have := HJ8.out; first | omega | exact Nat.le_refl _⟩, by repeat (first | exact Drawn0.refl _ | apply Drawn0.step)⟩
            case rest =>
              clear HC11
              try clear c1
              try clear p2
              try clear c6
              try clear c6b0
              try clear p6
              try clear c8
              try clear c10
              try clear c10b0
              try clear c12
              try clear p2
              try clear p6
              obtain ⟨kq, x12_10, rfl, HA, HJ10, ⟨mc10, rfl⟩⟩ := hcut
              cases kq with
              | zero => exact absurd HA.out (by simp [ridgewaylaw13_RolePairs.j2])
              | succ kj10 =>
                have H := HA.out
                clear HA
                simp only [ridgewaylaw13_RolePairs.j2] at H
                have HC13 := Aside0.mk H
                clear H
                go_upto_region 11 with (fail)
                go_cut [54] (fun v54 wc => ∃ (kq : Nat) (x54_12 : Bool), v54 = .bool x54_12 ∧ Aside0 (ridgewaylaw13_RolePairs.j3 kq a2 a3 t136 x54_12 = some true) ∧ Aside0 (kq ≤ kj10) ∧ Drawn0 w wc)
                case first =>
                  have H := HC13.out
                  clear HC13
                  replace H := Option.bind_eq_some_iff.mp H
                  obtain ⟨t138, A140, H⟩ := H
                  replace H : ((role_Pairs.f a1 a0).bind fun t139 => (if (t138 != t139) = true then (ridgewaylaw13_RolePairs.j3 kj10 a2 a3 t136 true) else (if x10_1 = x12_10 then ((role_Pairs.f a0 a1).bind fun t140 => (if t140 = true then (if a1 < 0 then (ridgewaylaw13_RolePairs.j3 kj10 a2 a3 t136 true) else (ridgewaylaw13_RolePairs.j3 kj10 a2 a3 t136 (decide (a1 > 4)))) else (ridgewaylaw13_RolePairs.j3 kj10 a2 a3 t136 false))) else (ridgewaylaw13_RolePairs.j3 kj10 a2 a3 t136 true)))) = some true := H
                  have A14 := Aside0.mk A140
                  clear A140
                  replace H := Option.bind_eq_some_iff.mp H
                  obtain ⟨t139, A150, H⟩ := H
                  replace H : (if (t138 != t139) = true then (ridgewaylaw13_RolePairs.j3 kj10 a2 a3 t136 true) else (if x10_1 = x12_10 then ((role_Pairs.f a0 a1).bind fun t140 => (if t140 = true then (if a1 < 0 then (ridgewaylaw13_RolePairs.j3 kj10 a2 a3 t136 true) else (ridgewaylaw13_RolePairs.j3 kj10 a2 a3 t136 (decide (a1 > 4)))) else (ridgewaylaw13_RolePairs.j3 kj10 a2 a3 t136 false))) else (ridgewaylaw13_RolePairs.j3 kj10 a2 a3 t136 true))) = some true := H
                  have A15 := Aside0.mk A150
                  clear A150
                  by_cases c16 : (t138 != t139) = true
                  · rw [if_pos c16] at H
                    have c16b0 : (t138 != t139) = true := c16
                    (try (have c16b1 : decide (t138 = t139) = false := by simpa using c16))
                    (try (have c16b2 : (t138 == t139) = false := by simpa using c16))
                    (try (have c16b3 : ¬ (t138 = t139) := by simpa using c16))
                    clear c16
                    (first | rw [c16b0] | (simp only [i64_w, i32_w]; rw [c16b0]) | skip)
                    have H' := Aside0.mk H
                    clear H
                    go_wp2_with (first | ((with_reducible refine gate_callee (f := 15) rfl ?_); refine goesL_ (some 32) rfl rfl Tryd.func15 (by kernel_rfl) rfl #[.int .i64 a0, .int .i64 a1] rfl (by (try simp only [List.map_toArray, List.map_cons, List.map_nil]); first | done | rfl | (simp only [List.length_drop, List.length_take]; rfl)) ?_; (with_reducible refine (role_Pairs.calls a0 a1 t138 _ ?side1 A14.out).mono ?_); (case side1 => first | exact HG.out | exact GOK.drawn HG.out _); rintro e w' ⟨rfl, ⟨nd, rfl⟩⟩; refine ⟨_, rfl, ?_⟩) | ((with_reducible refine gate_callee (f := 15) rfl ?_); refine goesL_ (some 35) rfl rfl Tryd.func15 (by kernel_rfl) rfl #[.int .i64 a1, .int .i64 a0] rfl (by (try simp only [List.map_toArray, List.map_cons, List.map_nil]); first | done | rfl | (simp only [List.length_drop, List.length_take]; rfl)) ?_; (with_reducible refine (role_Pairs.calls a1 a0 t139 _ ?side1 A15.out).mono ?_); (case side1 => first | exact HG.out | exact GOK.drawn HG.out _); rintro e w' ⟨rfl, ⟨nd, rfl⟩⟩; refine ⟨_, rfl, ?_⟩))
                    go_meet
                    case rel => exact ⟨_, (true), (by first | rfl | (simp; done) | (simp [*]; done)), H', ⟨by have := HK1.out; have := HJ8.out; have := HJ10.out; first | omega | exact Nat.le_refl _⟩, by repeat (first | exact Drawn0.refl _ | apply Drawn0.step)⟩
                  · rw [if_neg c16] at H
                    have c16b0 : (t138 != t139) = false := by simpa using c16
                    (try (have c16b1 : decide (t138 = t139) = true := by simpa using c16))
                    (try (have c16b2 : (t138 == t139) = true := by simpa using c16))
                    clear c16
                    (first | rw [c16b0] | (simp only [i64_w, i32_w]; rw [c16b0]) | skip)
                    by_cases c17 : x10_1 = x12_10
                    · rw [if_pos c17] at H
                      have c17b0 : (x10_1 == x12_10) = true := beq_iff_eq.mpr c17
                      have c17b1 : (x10_1 != x12_10) = false := bne_eq_false_iff_eq.mpr c17
                      clear c17
                      replace H := Option.bind_eq_some_iff.mp H
                      obtain ⟨t140, A180, H⟩ := H
                      replace H : (if t140 = true then (if a1 < 0 then (ridgewaylaw13_RolePairs.j3 kj10 a2 a3 t136 true) else (ridgewaylaw13_RolePairs.j3 kj10 a2 a3 t136 (decide (a1 > 4)))) else (ridgewaylaw13_RolePairs.j3 kj10 a2 a3 t136 false)) = some true := H
                      have A18 := Aside0.mk A180
                      clear A180
                      by_cases c19 : t140 = true
                      · subst c19
                        have H1 : (if a1 < 0 then (ridgewaylaw13_RolePairs.j3 kj10 a2 a3 t136 true) else (ridgewaylaw13_RolePairs.j3 kj10 a2 a3 t136 (decide (a1 > 4)))) = some true := by rw [if_pos rfl] at H; first | done | exact H
                        clear H
                        have H := H1
                        clear H1
                        by_cases c20 : a1 < 0
                        · rw [if_pos c20] at H
                          have c20b0 : decide (a1 < 0) = true := decide_eq_true c20
                          clear c20
                          have H' := Aside0.mk H
                          clear H
                          go_wp2_with (first | ((with_reducible refine gate_callee (f := 15) rfl ?_); refine goesL_ (some 32) rfl rfl Tryd.func15 (by kernel_rfl) rfl #[.int .i64 a0, .int .i64 a1] rfl (by (try simp only [List.map_toArray, List.map_cons, List.map_nil]); first | done | rfl | (simp only [List.length_drop, List.length_take]; rfl)) ?_; (with_reducible refine (role_Pairs.calls a0 a1 t138 _ ?side1 A14.out).mono ?_); (case side1 => first | exact HG.out | exact GOK.drawn HG.out _); rintro e w' ⟨rfl, ⟨nd, rfl⟩⟩; refine ⟨_, rfl, ?_⟩) | ((with_reducible refine gate_callee (f := 15) rfl ?_); refine goesL_ (some 35) rfl rfl Tryd.func15 (by kernel_rfl) rfl #[.int .i64 a1, .int .i64 a0] rfl (by (try simp only [List.map_toArray, List.map_cons, List.map_nil]); first | done | rfl | (simp only [List.length_drop, List.length_take]; rfl)) ?_; (with_reducible refine (role_Pairs.calls a1 a0 t139 _ ?side1 A15.out).mono ?_); (case side1 => first | exact HG.out | exact GOK.drawn HG.out _); rintro e w' ⟨rfl, ⟨nd, rfl⟩⟩; refine ⟨_, rfl, ?_⟩) | (go_at_call 15; (with_reducible refine (role_Pairs.calls a0 a1 true _ ?side1 A18.out).mono ?_); (case side1 => first | exact HG.out | exact GOK.drawn HG.out _); rintro e w' ⟨rfl, ⟨nd, rfl⟩⟩))
                          go_meet
                          case rel => exact ⟨_, (true), (by first | rfl | (simp; done) | (simp [*]; done)), H', ⟨by have := HK1.out; have := HJ8.out; have := HJ10.out; first | omega | exact Nat.le_refl _⟩, by repeat (first | exact Drawn0.refl _ | apply Drawn0.step)⟩
                        · rw [if_neg c20] at H
                          have c20b0 : decide (a1 < 0) = false := decide_eq_false c20
                          clear c20
                          have H' := Aside0.mk H
                          clear H
                          go_wp2_with (first | ((with_reducible refine gate_callee (f := 15) rfl ?_); refine goesL_ (some 32) rfl rfl Tryd.func15 (by kernel_rfl) rfl #[.int .i64 a0, .int .i64 a1] rfl (by (try simp only [List.map_toArray, List.map_cons, List.map_nil]); first | done | rfl | (simp only [List.length_drop, List.length_take]; rfl)) ?_; (with_reducible refine (role_Pairs.calls a0 a1 t138 _ ?side1 A14.out).mono ?_); (case side1 => first | exact HG.out | exact GOK.drawn HG.out _); rintro e w' ⟨rfl, ⟨nd, rfl⟩⟩; refine ⟨_, rfl, ?_⟩) | ((with_reducible refine gate_callee (f := 15) rfl ?_); refine goesL_ (some 35) rfl rfl Tryd.func15 (by kernel_rfl) rfl #[.int .i64 a1, .int .i64 a0] rfl (by (try simp only [List.map_toArray, List.map_cons, List.map_nil]); first | done | rfl | (simp only [List.length_drop, List.length_take]; rfl)) ?_; (with_reducible refine (role_Pairs.calls a1 a0 t139 _ ?side1 A15.out).mono ?_); (case side1 => first | exact HG.out | exact GOK.drawn HG.out _); rintro e w' ⟨rfl, ⟨nd, rfl⟩⟩; refine ⟨_, rfl, ?_⟩) | (go_at_call 15; (with_reducible refine (role_Pairs.calls a0 a1 true _ ?side1 A18.out).mono ?_); (case side1 => first | exact HG.out | exact GOK.drawn HG.out _); rintro e w' ⟨rfl, ⟨nd, rfl⟩⟩))
                          go_meet
                          case rel => exact ⟨_, (decide (a1 > 4)), (by first | rfl | (simp; done) | (simp [*]; done)), H', ⟨by have := HK1.out; have := HJ8.out; have := HJ10.out; first | omega | exact Nat.le_refl _⟩, by repeat (first | exact Drawn0.refl _ | apply Drawn0.step)⟩
                      · replace c19 := Bool.eq_false_iff.mpr c19
                        subst c19
                        have H1 : (ridgewaylaw13_RolePairs.j3 kj10 a2 a3 t136 false) = some true := by rw [if_neg (show ¬ (false = true) by decide)] at H; first | done | exact H
                        clear H
                        have H := H1
                        clear H1
                        have H' := Aside0.mk H
                        clear H
                        go_wp2_with (first | ((with_reducible refine gate_callee (f := 15) rfl ?_); refine goesL_ (some 32) rfl rfl Tryd.func15 (by kernel_rfl) rfl #[.int .i64 a0, .int .i64 a1] rfl (by (try simp only [List.map_toArray, List.map_cons, List.map_nil]); first | done | rfl | (simp only [List.length_drop, List.length_take]; rfl)) ?_; (with_reducible refine (role_Pairs.calls a0 a1 t138 _ ?side1 A14.out).mono ?_); (case side1 => first | exact HG.out | exact GOK.drawn HG.out _); rintro e w' ⟨rfl, ⟨nd, rfl⟩⟩; refine ⟨_, rfl, ?_⟩) | ((with_reducible refine gate_callee (f := 15) rfl ?_); refine goesL_ (some 35) rfl rfl Tryd.func15 (by kernel_rfl) rfl #[.int .i64 a1, .int .i64 a0] rfl (by (try simp only [List.map_toArray, List.map_cons, List.map_nil]); first | done | rfl | (simp only [List.length_drop, List.length_take]; rfl)) ?_; (with_reducible refine (role_Pairs.calls a1 a0 t139 _ ?side1 A15.out).mono ?_); (case side1 => first | exact HG.out | exact GOK.drawn HG.out _); rintro e w' ⟨rfl, ⟨nd, rfl⟩⟩; refine ⟨_, rfl, ?_⟩) | (go_at_call 15; (with_reducible refine (role_Pairs.calls a0 a1 false _ ?side1 A18.out).mono ?_); (case side1 => first | exact HG.out | exact GOK.drawn HG.out _); rintro e w' ⟨rfl, ⟨nd, rfl⟩⟩))
                        go_meet
                        case rel => exact ⟨_, (false), (by first | rfl | (simp; done) | (simp [*]; done)), H', ⟨by have := HK1.out; have := HJ8.out; have := HJ10.out; first | omega | exact Nat.le_refl _⟩, by repeat (first | exact Drawn0.refl _ | apply Drawn0.step)⟩
                    · rw [if_neg c17] at H
                      have c17b0 : (x10_1 == x12_10) = false := beq_eq_false_iff_ne.mpr c17
                      have c17b1 : (x10_1 != x12_10) = true := bne_iff_ne.mpr c17
                      have H' := Aside0.mk H
                      clear H
                      go_wp2_with (first | ((with_reducible refine gate_callee (f := 15) rfl ?_); refine goesL_ (some 32) rfl rfl Tryd.func15 (by kernel_rfl) rfl #[.int .i64 a0, .int .i64 a1] rfl (by (try simp only [List.map_toArray, List.map_cons, List.map_nil]); first | done | rfl | (simp only [List.length_drop, List.length_take]; rfl)) ?_; (with_reducible refine (role_Pairs.calls a0 a1 t138 _ ?side1 A14.out).mono ?_); (case side1 => first | exact HG.out | exact GOK.drawn HG.out _); rintro e w' ⟨rfl, ⟨nd, rfl⟩⟩; refine ⟨_, rfl, ?_⟩) | ((with_reducible refine gate_callee (f := 15) rfl ?_); refine goesL_ (some 35) rfl rfl Tryd.func15 (by kernel_rfl) rfl #[.int .i64 a1, .int .i64 a0] rfl (by (try simp only [List.map_toArray, List.map_cons, List.map_nil]); first | done | rfl | (simp only [List.length_drop, List.length_take]; rfl)) ?_; (with_reducible refine (role_Pairs.calls a1 a0 t139 _ ?side1 A15.out).mono ?_); (case side1 => first | exact HG.out | exact GOK.drawn HG.out _); rintro e w' ⟨rfl, ⟨nd, rfl⟩⟩; refine ⟨_, rfl, ?_⟩))
                      go_meet
                      case rel => exact ⟨_, (true), (by first | rfl | (simp; done) | (simp [*]; done)), H', ⟨by have := HK1.out; have := HJ8.out; have := HJ10.out; first | omega | exact Nat.le_refl _⟩, by repeat (first | exact Drawn0.refl _ | apply Drawn0.step)⟩
                case rest =>
                  clear HC13
                  try clear c1
                  try clear c2
                  try clear p2
                  try clear c6
                  try clear c6b0
                  try clear p6
                  try clear c8
                  try clear c10
                  try clear c10b0
                  try clear c12
                  try clear c15
                  try clear c16
                  try clear c16b0
                  try clear c16b1
                  try clear c16b2
                  try clear c17
                  try clear c17b0
                  try clear c17b1
                  try clear c19
                  try clear c20
                  try clear c20b0
                  try clear p2
                  try clear p6
                  obtain ⟨kq, x54_12, rfl, HA, HJ12, ⟨mc12, rfl⟩⟩ := hcut
                  cases kq with
                  | zero => exact absurd HA.out (by simp [ridgewaylaw13_RolePairs.j3])
                  | succ kj12 =>
                    have H := HA.out
                    clear HA
                    simp only [ridgewaylaw13_RolePairs.j3] at H
                    by_cases c21 : x54_12 = true
                    · subst c21
                      have H1 : (some false) = some true := by rw [if_pos rfl] at H; first | done | exact H
                      clear H
                      have H := H1
                      clear H1
                      exact absurd H (by simp)
                    · replace c21 := Bool.eq_false_iff.mpr c21
                      subst c21
                      have H1 : (if a2 ≥ 1 then (if a2 ≤ 3 then (if a3 ≥ 1 then (if t136 = true then ((role_Mine.f a2).bind fun t141 => ((role_Mine.f a3).bind fun t142 => ((role_Pairs.f t141 t142).bind fun t143 => (if a3 ≤ 3 then (some (t143 == ((wrap64 (a2 + a3)) == 4))) else (some (t143 == false)))))) else (some false)) else (if t136 = true then ((role_Mine.f a2).bind fun t144 => ((role_Mine.f a3).bind fun t145 => ((role_Pairs.f t144 t145).bind fun t146 => (some (t146 == false))))) else (some false))) else (if t136 = true then ((role_Mine.f a2).bind fun t147 => ((role_Mine.f a3).bind fun t148 => ((role_Pairs.f t147 t148).bind fun t149 => (some (t149 == false))))) else (some false))) else (if t136 = true then ((role_Mine.f a2).bind fun t150 => ((role_Mine.f a3).bind fun t151 => ((role_Pairs.f t150 t151).bind fun t152 => (some (t152 == false))))) else (some false))) = some true := by rw [if_neg (show ¬ (false = true) by decide)] at H; first | done | exact H
                      clear H
                      have H := H1
                      clear H1
                      by_cases c22 : a2 ≥ 1
                      · rw [if_pos c22] at H
                        have c22b0 : decide (1 ≤ a2) = true := decide_eq_true c22
                        clear c22
                        by_cases c23 : a2 ≤ 3
                        · rw [if_pos c23] at H
                          have c23b0 : decide (a2 ≤ 3) = true := decide_eq_true c23
                          clear c23
                          by_cases c24 : a3 ≥ 1
                          · rw [if_pos c24] at H
                            have c24b0 : decide (1 ≤ a3) = true := decide_eq_true c24
                            clear c24
                            by_cases c25 : t136 = true
                            · subst c25
                              have H1 : ((role_Mine.f a2).bind fun t141 => ((role_Mine.f a3).bind fun t142 => ((role_Pairs.f t141 t142).bind fun t143 => (if a3 ≤ 3 then (some (t143 == ((wrap64 (a2 + a3)) == 4))) else (some (t143 == false)))))) = some true := by rw [if_pos rfl] at H; first | done | exact H
                              clear H
                              have H := H1
                              clear H1
                              replace H := Option.bind_eq_some_iff.mp H
                              obtain ⟨t141, A260, H⟩ := H
                              replace H : ((role_Mine.f a3).bind fun t142 => ((role_Pairs.f t141 t142).bind fun t143 => (if a3 ≤ 3 then (some (t143 == ((wrap64 (a2 + a3)) == 4))) else (some (t143 == false))))) = some true := H
                              have A26 := Aside0.mk A260
                              clear A260
                              replace H := Option.bind_eq_some_iff.mp H
                              obtain ⟨t142, A270, H⟩ := H
                              replace H : ((role_Pairs.f t141 t142).bind fun t143 => (if a3 ≤ 3 then (some (t143 == ((wrap64 (a2 + a3)) == 4))) else (some (t143 == false)))) = some true := H
                              have A27 := Aside0.mk A270
                              clear A270
                              replace H := Option.bind_eq_some_iff.mp H
                              obtain ⟨t143, A280, H⟩ := H
                              replace H : (if a3 ≤ 3 then (some (t143 == ((wrap64 (a2 + a3)) == 4))) else (some (t143 == false))) = some true := H
                              have A28 := Aside0.mk A280
                              clear A280
                              by_cases c29 : a3 ≤ 3
                              · rw [if_pos c29] at H
                                have c29b0 : decide (a3 ≤ 3) = true := decide_eq_true c29
                                clear c29
                                have HRL_ := Aside0.mk (Option.some.inj H)
                                clear H
                                go_wp2_with (first | (go_at_call 13; (with_reducible refine (role_Mine.calls a2 t141 _ A26.out).mono ?_); rintro e w' ⟨rfl, ⟨nd, rfl⟩⟩) | (go_at_call 13; (with_reducible refine (role_Mine.calls a3 t142 _ A27.out).mono ?_); rintro e w' ⟨rfl, ⟨nd, rfl⟩⟩) | (go_at_call 15; (with_reducible refine (role_Pairs.calls t141 t142 t143 _ ?side1 A28.out).mono ?_); (case side1 => first | exact HG.out | exact GOK.drawn HG.out _); rintro e w' ⟨rfl, ⟨nd, rfl⟩⟩))
                                all_goals first | (go_ret; refine ⟨?_, ?_⟩; (focus (first | rfl | (rw [HRL_.out] <;> rfl) | (simp only [HRL_.out] <;> rfl) | (have h_ := HRL_.out; simp at h_; simp [h_]; done) | (have h_ := HRL_.out; simp [*] at h_ ⊢; done) | (simp; done) | (simp [*]; done))); (focus (repeat (first | exact Drawn0.refl _ | apply Drawn0.step)))) | (exfalso; simp_all; done)
                              · rw [if_neg c29] at H
                                have c29b0 : decide (a3 ≤ 3) = false := decide_eq_false c29
                                clear c29
                                have HRL_ := Aside0.mk (Option.some.inj H)
                                clear H
                                go_wp2_with (first | (go_at_call 13; (with_reducible refine (role_Mine.calls a2 t141 _ A26.out).mono ?_); rintro e w' ⟨rfl, ⟨nd, rfl⟩⟩) | (go_at_call 13; (with_reducible refine (role_Mine.calls a3 t142 _ A27.out).mono ?_); rintro e w' ⟨rfl, ⟨nd, rfl⟩⟩) | (go_at_call 15; (with_reducible refine (role_Pairs.calls t141 t142 t143 _ ?side1 A28.out).mono ?_); (case side1 => first | exact HG.out | exact GOK.drawn HG.out _); rintro e w' ⟨rfl, ⟨nd, rfl⟩⟩))
                                all_goals first | (go_ret; refine ⟨?_, ?_⟩; (focus (first | rfl | (rw [HRL_.out] <;> rfl) | (simp only [HRL_.out] <;> rfl) | (have h_ := HRL_.out; simp at h_; simp [h_]; done) | (have h_ := HRL_.out; simp [*] at h_ ⊢; done) | (simp; done) | (simp [*]; done))); (focus (repeat (first | exact Drawn0.refl _ | apply Drawn0.step)))) | (exfalso; simp_all; done)
                            · replace c25 := Bool.eq_false_iff.mpr c25
                              subst c25
                              have H1 : (some false) = some true := by rw [if_neg (show ¬ (false = true) by decide)] at H; first | done | exact H
                              clear H
                              have H := H1
                              clear H1
                              exact absurd H (by simp)
                          · rw [if_neg c24] at H
                            have c24b0 : decide (1 ≤ a3) = false := decide_eq_false c24
                            clear c24
                            by_cases c30 : t136 = true
                            · subst c30
                              have H1 : ((role_Mine.f a2).bind fun t144 => ((role_Mine.f a3).bind fun t145 => ((role_Pairs.f t144 t145).bind fun t146 => (some (t146 == false))))) = some true := by rw [if_pos rfl] at H; first | done | exact H
                              clear H
                              have H := H1
                              clear H1
                              replace H := Option.bind_eq_some_iff.mp H
                              obtain ⟨t144, A310, H⟩ := H
                              replace H : ((role_Mine.f a3).bind fun t145 => ((role_Pairs.f t144 t145).bind fun t146 => (some (t146 == false)))) = some true := H
                              have A31 := Aside0.mk A310
                              clear A310
                              replace H := Option.bind_eq_some_iff.mp H
                              obtain ⟨t145, A320, H⟩ := H
                              replace H : ((role_Pairs.f t144 t145).bind fun t146 => (some (t146 == false))) = some true := H
                              have A32 := Aside0.mk A320
                              clear A320
                              replace H := Option.bind_eq_some_iff.mp H
                              obtain ⟨t146, A330, H⟩ := H
                              replace H : (some (t146 == false)) = some true := H
                              have A33 := Aside0.mk A330
                              clear A330
                              have HRL_ := Aside0.mk (Option.some.inj H)
                              clear H
                              go_wp2_with (first | (go_at_call 13; (with_reducible refine (role_Mine.calls a2 t144 _ A31.out).mono ?_); rintro e w' ⟨rfl, ⟨nd, rfl⟩⟩) | (go_at_call 13; (with_reducible refine (role_Mine.calls a3 t145 _ A32.out).mono ?_); rintro e w' ⟨rfl, ⟨nd, rfl⟩⟩) | (go_at_call 15; (with_reducible refine (role_Pairs.calls t144 t145 t146 _ ?side1 A33.out).mono ?_); (case side1 => first | exact HG.out | exact GOK.drawn HG.out _); rintro e w' ⟨rfl, ⟨nd, rfl⟩⟩))
                              all_goals first | (go_ret; refine ⟨?_, ?_⟩; (focus (first | rfl | (rw [HRL_.out] <;> rfl) | (simp only [HRL_.out] <;> rfl) | (have h_ := HRL_.out; simp at h_; simp [h_]; done) | (have h_ := HRL_.out; simp [*] at h_ ⊢; done) | (simp; done) | (simp [*]; done))); (focus (repeat (first | exact Drawn0.refl _ | apply Drawn0.step)))) | (exfalso; simp_all; done)
                            · replace c30 := Bool.eq_false_iff.mpr c30
                              subst c30
                              have H1 : (some false) = some true := by rw [if_neg (show ¬ (false = true) by decide)] at H; first | done | exact H
                              clear H
                              have H := H1
                              clear H1
                              exact absurd H (by simp)
                        · rw [if_neg c23] at H
                          have c23b0 : decide (a2 ≤ 3) = false := decide_eq_false c23
                          clear c23
                          by_cases c34 : t136 = true
                          · subst c34
                            have H1 : ((role_Mine.f a2).bind fun t147 => ((role_Mine.f a3).bind fun t148 => ((role_Pairs.f t147 t148).bind fun t149 => (some (t149 == false))))) = some true := by rw [if_pos rfl] at H; first | done | exact H
                            clear H
                            have H := H1
                            clear H1
                            replace H := Option.bind_eq_some_iff.mp H
                            obtain ⟨t147, A350, H⟩ := H
                            replace H : ((role_Mine.f a3).bind fun t148 => ((role_Pairs.f t147 t148).bind fun t149 => (some (t149 == false)))) = some true := H
                            have A35 := Aside0.mk A350
                            clear A350
                            replace H := Option.bind_eq_some_iff.mp H
                            obtain ⟨t148, A360, H⟩ := H
                            replace H : ((role_Pairs.f t147 t148).bind fun t149 => (some (t149 == false))) = some true := H
                            have A36 := Aside0.mk A360
                            clear A360
                            replace H := Option.bind_eq_some_iff.mp H
                            obtain ⟨t149, A370, H⟩ := H
                            replace H : (some (t149 == false)) = some true := H
                            have A37 := Aside0.mk A370
                            clear A370
                            have HRL_ := Aside0.mk (Option.some.inj H)
                            clear H
                            go_wp2_with (first | (go_at_call 13; (with_reducible refine (role_Mine.calls a2 t147 _ A35.out).mono ?_); rintro e w' ⟨rfl, ⟨nd, rfl⟩⟩) | (go_at_call 13; (with_reducible refine (role_Mine.calls a3 t148 _ A36.out).mono ?_); rintro e w' ⟨rfl, ⟨nd, rfl⟩⟩) | (go_at_call 15; (with_reducible refine (role_Pairs.calls t147 t148 t149 _ ?side1 A37.out).mono ?_); (case side1 => first | exact HG.out | exact GOK.drawn HG.out _); rintro e w' ⟨rfl, ⟨nd, rfl⟩⟩))
                            all_goals first | (go_ret; refine ⟨?_, ?_⟩; (focus (first | rfl | (rw [HRL_.out] <;> rfl) | (simp only [HRL_.out] <;> rfl) | (have h_ := HRL_.out; simp at h_; simp [h_]; done) | (have h_ := HRL_.out; simp [*] at h_ ⊢; done) | (simp; done) | (simp [*]; done))); (focus (repeat (first | exact Drawn0.refl _ | apply Drawn0.step)))) | (exfalso; simp_all; done)
                          · replace c34 := Bool.eq_false_iff.mpr c34
                            subst c34
                            have H1 : (some false) = some true := by rw [if_neg (show ¬ (false = true) by decide)] at H; first | done | exact H
                            clear H
                            have H := H1
                            clear H1
                            exact absurd H (by simp)
                      · rw [if_neg c22] at H
                        have c22b0 : decide (1 ≤ a2) = false := decide_eq_false c22
                        clear c22
                        by_cases c38 : t136 = true
                        · subst c38
                          have H1 : ((role_Mine.f a2).bind fun t150 => ((role_Mine.f a3).bind fun t151 => ((role_Pairs.f t150 t151).bind fun t152 => (some (t152 == false))))) = some true := by rw [if_pos rfl] at H; first | done | exact H
                          clear H
                          have H := H1
                          clear H1
                          replace H := Option.bind_eq_some_iff.mp H
                          obtain ⟨t150, A390, H⟩ := H
                          replace H : ((role_Mine.f a3).bind fun t151 => ((role_Pairs.f t150 t151).bind fun t152 => (some (t152 == false)))) = some true := H
                          have A39 := Aside0.mk A390
                          clear A390
                          replace H := Option.bind_eq_some_iff.mp H
                          obtain ⟨t151, A400, H⟩ := H
                          replace H : ((role_Pairs.f t150 t151).bind fun t152 => (some (t152 == false))) = some true := H
                          have A40 := Aside0.mk A400
                          clear A400
                          replace H := Option.bind_eq_some_iff.mp H
                          obtain ⟨t152, A410, H⟩ := H
                          replace H : (some (t152 == false)) = some true := H
                          have A41 := Aside0.mk A410
                          clear A410
                          have HRL_ := Aside0.mk (Option.some.inj H)
                          clear H
                          go_wp2_with (first | (go_at_call 13; (with_reducible refine (role_Mine.calls a2 t150 _ A39.out).mono ?_); rintro e w' ⟨rfl, ⟨nd, rfl⟩⟩) | (go_at_call 13; (with_reducible refine (role_Mine.calls a3 t151 _ A40.out).mono ?_); rintro e w' ⟨rfl, ⟨nd, rfl⟩⟩) | (go_at_call 15; (with_reducible refine (role_Pairs.calls t150 t151 t152 _ ?side1 A41.out).mono ?_); (case side1 => first | exact HG.out | exact GOK.drawn HG.out _); rintro e w' ⟨rfl, ⟨nd, rfl⟩⟩))
                          all_goals first | (go_ret; refine ⟨?_, ?_⟩; (focus (first | rfl | (rw [HRL_.out] <;> rfl) | (simp only [HRL_.out] <;> rfl) | (have h_ := HRL_.out; simp at h_; simp [h_]; done) | (have h_ := HRL_.out; simp [*] at h_ ⊢; done) | (simp; done) | (simp [*]; done))); (focus (repeat (first | exact Drawn0.refl _ | apply Drawn0.step)))) | (exfalso; simp_all; done)
                        · replace c38 := Bool.eq_false_iff.mpr c38
                          subst c38
                          have H1 : (some false) = some true := by rw [if_neg (show ¬ (false = true) by decide)] at H; first | done | exact H
                          clear H
                          have H := H1
                          clear H1
                          exact absurd H (by simp)

/-- THE ONE PURE STATEMENT of ridgewaylaw13_RolePairs. -/
def ridgewaylaw13_RolePairs.Pure : Prop := ∀ (a0 : Int) (a1 : Int) (a2 : Int) (a3 : Int), ((Lit.int .i64 a0).wf = true) → ((Lit.int .i64 a1).wf = true) → ((Lit.int .i64 a2).wf = true) → ((Lit.int .i64 a3).wf = true) → ∃ k, ridgewaylaw13_RolePairs.f k a0 a1 a2 a3 = some true

/-! ### ridgewaylaw13_RoleChain: function 7 -/
mutual
def ridgewaylaw13_RoleChain.l0 : Nat → List Int → Bool → Int → Int → Int → Option (Bool)
  | 0, _, _, _, _, _ => none
  | k + 1, x1, x5, x6, x7, x8 => if x8 < (x1.length : Int) then (if 0 ≤ x8 then (if (rd x1 x8) = 0 then (some x5) else (if x7 = 0 then (ridgewaylaw13_RoleChain.j1 k x1 x5 x6 (rd x1 x8) x8) else (ridgewaylaw13_RoleChain.j1 k x1 x5 x6 x7 x8))) else (none)) else (some x5)
def ridgewaylaw13_RoleChain.j1 : Nat → List Int → Bool → Int → Int → Int → Option (Bool)
  | 0, _, _, _, _, _ => none
  | k + 1, x1, x5, x6, x7, x8 => if 0 ≤ x8 then (if x8 < (x1.length : Int) then ((role_Out.f k 1 (rd x1 x8) x6).bind fun bt157 => ((role_In.f k 3 (rd x1 x8) bt157.1).bind fun bt160 => (if bt157.2 = true then (if bt160.2 = true then (if bt157.1 = x7 then (if bt160.1 = x7 then (ridgewaylaw13_RoleChain.l0 k x1 x5 bt160.1 x7 (wrap64 (x8 + 1))) else (some false)) else (some false)) else (some false)) else (some false)))) else (none)) else (none)
end
def ridgewaylaw13_RoleChain.f (k : Nat) (a0 : Int) (l1 : List Int) : Option (Bool) := (ridgewaylaw13_awake.f k).bind fun t153 => (if (l1.length : Int) > 100 then (some t153) else (ridgewaylaw13_RoleChain.l0 k l1 t153 a0 a0 0))
theorem ridgewaylaw13_RoleChain.mono_l : ∀ k, (∀ y0 y1 y2 y3 y4, LeO (ridgewaylaw13_RoleChain.l0 k y0 y1 y2 y3 y4) (ridgewaylaw13_RoleChain.l0 (k + 1) y0 y1 y2 y3 y4)) ∧ (∀ y0 y1 y2 y3 y4, LeO (ridgewaylaw13_RoleChain.j1 k y0 y1 y2 y3 y4) (ridgewaylaw13_RoleChain.j1 (k + 1) y0 y1 y2 y3 y4))
  | 0 => ⟨fun _ _ _ _ _ r h => by simp [ridgewaylaw13_RoleChain.l0] at h, fun _ _ _ _ _ r h => by simp [ridgewaylaw13_RoleChain.j1] at h⟩
  | k + 1 => by
    obtain ⟨ih0, ih1⟩ := ridgewaylaw13_RoleChain.mono_l k
    refine ⟨?_, ?_⟩
    · intro y0 y1 y2 y3 y4
      unfold ridgewaylaw13_RoleChain.l0
      repeat' first
      | (with_reducible exact ih0 _ _ _ _ _)
      | (with_reducible exact ih1 _ _ _ _ _)
      | (with_reducible exact ridgewaylaw13_awake.mono _)
      | (with_reducible exact role_In.mono _ _ _ _)
      | (with_reducible exact role_Out.mono _ _ _ _)
      | (with_reducible exact LeO.refl _)
      | (with_reducible exact LeO.none _)
      | (with_reducible refine LeO.ite ?_ ?_)
      | (with_reducible refine LeO.bind ?_ (fun _ => ?_))
      | exact ih0 _ _ _ _ _
      | exact ih1 _ _ _ _ _
      | exact ridgewaylaw13_awake.mono _
      | exact role_In.mono _ _ _ _
      | exact role_Out.mono _ _ _ _
      | exact LeO.none _
      | refine LeO.ite ?_ ?_
      | refine LeO.bind ?_ (fun _ => ?_)
    · intro y0 y1 y2 y3 y4
      unfold ridgewaylaw13_RoleChain.j1
      repeat' first
      | (with_reducible exact ih0 _ _ _ _ _)
      | (with_reducible exact ih1 _ _ _ _ _)
      | (with_reducible exact ridgewaylaw13_awake.mono _)
      | (with_reducible exact role_In.mono _ _ _ _)
      | (with_reducible exact role_Out.mono _ _ _ _)
      | (with_reducible exact LeO.refl _)
      | (with_reducible exact LeO.none _)
      | (with_reducible refine LeO.ite ?_ ?_)
      | (with_reducible refine LeO.bind ?_ (fun _ => ?_))
      | exact ih0 _ _ _ _ _
      | exact ih1 _ _ _ _ _
      | exact ridgewaylaw13_awake.mono _
      | exact role_In.mono _ _ _ _
      | exact role_Out.mono _ _ _ _
      | exact LeO.none _
      | refine LeO.ite ?_ ?_
      | refine LeO.bind ?_ (fun _ => ?_)
theorem ridgewaylaw13_RoleChain.mono : ∀ a0 a1 k, LeO (ridgewaylaw13_RoleChain.f k a0 a1) (ridgewaylaw13_RoleChain.f (k + 1) a0 a1) := by
  intro a0 a1 k
  obtain ⟨ih0, ih1⟩ := ridgewaylaw13_RoleChain.mono_l k
  unfold ridgewaylaw13_RoleChain.f
  repeat' first
      | (with_reducible exact ih0 _ _ _ _ _)
      | (with_reducible exact ih1 _ _ _ _ _)
      | (with_reducible exact ridgewaylaw13_awake.mono _)
      | (with_reducible exact role_In.mono _ _ _ _)
      | (with_reducible exact role_Out.mono _ _ _ _)
      | (with_reducible exact LeO.refl _)
      | (with_reducible exact LeO.none _)
      | (with_reducible refine LeO.ite ?_ ?_)
      | (with_reducible refine LeO.bind ?_ (fun _ => ?_))
      | exact ih0 _ _ _ _ _
      | exact ih1 _ _ _ _ _
      | exact ridgewaylaw13_awake.mono _
      | exact role_In.mono _ _ _ _
      | exact role_Out.mono _ _ _ _
      | exact LeO.none _
      | refine LeO.ite ?_ ?_
      | refine LeO.bind ?_ (fun _ => ?_)
set_option maxHeartbeats 8000000 in
set_option maxRecDepth 100000 in
theorem ridgewaylaw13_RoleChain.calls (k : Nat) (a0 : Int) (A1 : Option Addr) (c1 : Nat) (l1 : List Int) (w : World) (hr1 : Kd.C (Kd.int .i64) w A1 l1.length l1) (hc1 : l1.length ≤ c1) (hG : GOK w) (h : ridgewaylaw13_RoleChain.f k a0 l1 = some true) :
    Calls Tryd.prog 7 #[.int .i64 a0, .slice A1 l1.length c1] w fun e w' => e = .returned (.bool true) ∧ Drawn0 w w' := by
  have HR1 := Aside0.mk hr1
  have HC1 := Aside0.mk hc1
  clear hr1 hc1
  have HG := Aside0.mk hG
  clear hG
  have H : ((ridgewaylaw13_awake.f k).bind fun t153 => (if (l1.length : Int) > 100 then (some t153) else (ridgewaylaw13_RoleChain.l0 k l1 t153 a0 a0 0))) = some true := h
  clear h
  replace H := Option.bind_eq_some_iff.mp H
  obtain ⟨t153, A30, H⟩ := H
  replace H : (if (l1.length : Int) > 100 then (some t153) else (ridgewaylaw13_RoleChain.l0 k l1 t153 a0 a0 0)) = some true := H
  have A3 := Aside0.mk A30
  clear A30
  by_cases c4 : (l1.length : Int) > 100
  · rw [if_pos c4] at H
    have c4b0 : decide (100 < (l1.length : Int)) = true := decide_eq_true c4
    have c4b1 : decide (100 < l1.length) = true := decide_eq_true (by omega)
    clear c4
    have HRL_ := Aside0.mk (Option.some.inj H)
    clear H
    go_enter Tryd.func7, Tryd.ntmps7
    go_wp2_with (first | ((with_reducible refine gate_callee (f := 8) rfl ?_); refine goesL_ (some 13) rfl rfl Tryd.func8 (by kernel_rfl) rfl #[] rfl (by (try simp only [List.map_toArray, List.map_cons, List.map_nil]); first | done | rfl | (simp only [List.length_drop, List.length_take]; rfl)) ?_; (with_reducible refine (ridgewaylaw13_awake.calls k  t153 _ ?side1 A3.out).mono ?_); (case side1 => first | exact HG.out | exact GOK.drawn HG.out _); rintro e w' ⟨rfl, ⟨nd, rfl⟩⟩; refine ⟨_, rfl, ?_⟩))
    all_goals first | (go_ret; refine ⟨?_, ?_⟩; (focus (first | rfl | (rw [HRL_.out] <;> rfl) | (simp only [HRL_.out] <;> rfl) | (have h_ := HRL_.out; simp at h_; simp [h_]; done) | (have h_ := HRL_.out; simp [*] at h_ ⊢; done) | (simp; done) | (simp [*]; done))); (focus (repeat (first | exact Drawn0.refl _ | apply Drawn0.step)))) | (exfalso; simp_all; done)
  · rw [if_neg c4] at H
    have c4b0 : decide (100 < (l1.length : Int)) = false := decide_eq_false c4
    have c4b1 : decide (100 < l1.length) = false := decide_eq_false (by omega)
    clear c4
    have H' := Aside0.mk H
    clear H
    go_enter Tryd.func7, Tryd.ntmps7
    go_wp2_with (first | ((with_reducible refine gate_callee (f := 8) rfl ?_); refine goesL_ (some 13) rfl rfl Tryd.func8 (by kernel_rfl) rfl #[] rfl (by (try simp only [List.map_toArray, List.map_cons, List.map_nil]); first | done | rfl | (simp only [List.length_drop, List.length_take]; rfl)) ?_; (with_reducible refine (ridgewaylaw13_awake.calls k  t153 _ ?side1 A3.out).mono ?_); (case side1 => first | exact HG.out | exact GOK.drawn HG.out _); rintro e w' ⟨rfl, ⟨nd, rfl⟩⟩; refine ⟨_, rfl, ?_⟩))
    go_loopg [6, 7, 8] k (fun kq v6 v7 v8 w' => ∃ (x6_1 : Int) (x7_1 : Int) (x8_1 : Int), v6 = .int .i64 x6_1 ∧ v7 = .int .i64 x7_1 ∧ v8 = .int .i64 x8_1 ∧ Aside0 (ridgewaylaw13_RoleChain.l0 kq l1 t153 x6_1 x7_1 x8_1 = some true) ∧ Aside0 (kq ≤ k) ∧ Drawn0 w w')
    case atStart => exact ⟨(a0), (a0), (0), (by first | rfl | (simp; done) | (simp [*]; done)), (by first | rfl | (simp; done) | (simp [*]; done)), (by first | rfl | (simp; done) | (simp [*]; done)), H', ⟨Nat.le_refl _⟩, by repeat (first | exact Drawn0.refl _ | apply Drawn0.step)⟩
    case round =>
      clear H'
      try clear c1
      try clear p2
      try clear c4
      try clear c4b0
      try clear c4b1
      obtain ⟨x6_1, x7_1, x8_1, rfl, rfl, rfl, HA, HK1, ⟨m1, rfl⟩⟩ := hrel
      cases gk with
      | zero => exact absurd HA.out (by simp [ridgewaylaw13_RoleChain.l0])
      | succ k1 =>
        have H := HA.out
        clear HA
        simp only [ridgewaylaw13_RoleChain.l0] at H
        by_cases c5 : x8_1 < (l1.length : Int)
        · rw [if_pos c5] at H
          have c5b0 : decide (x8_1 < (l1.length : Int)) = true := decide_eq_true c5
          clear c5
          by_cases c6 : 0 ≤ x8_1
          · rw [if_pos c6] at H
            have c6b0 : decide (0 ≤ x8_1) = true := decide_eq_true c6
            clear c6
            by_cases c7 : (rd l1 x8_1) = 0
            · rw [if_pos c7] at H
              have c7b0 : ((rd l1 x8_1) == 0) = true := beq_iff_eq.mpr c7
              have c7b1 : ((rd l1 x8_1) != 0) = false := bne_eq_false_iff_eq.mpr c7
              clear c7
              have HRL_ := Aside0.mk (Option.some.inj H)
              clear H
              have p154 : 0 ≤ (x8_1 : Int) := of_decide_eq_true (by first | (with_reducible assumption) | assumption)
              have q154 : x8_1 < (l1.length : Int) := of_decide_eq_true (by first | (with_reducible assumption) | assumption)
              obtain ⟨ad154, e154, hx154_0⟩ := Kd.at_int HR1.out x8_1 p154 q154
              cases e154
              replace p154 := eq_true p154
              replace q154 := eq_true q154
              go_wp2
              all_goals first | (go_ret; refine ⟨?_, ?_⟩; (focus (first | rfl | (rw [HRL_.out] <;> rfl) | (simp only [HRL_.out] <;> rfl) | (have h_ := HRL_.out; simp at h_; simp [h_]; done) | (have h_ := HRL_.out; simp [*] at h_ ⊢; done) | (simp; done) | (simp [*]; done))); (focus (repeat (first | exact Drawn0.refl _ | apply Drawn0.step)))) | (exfalso; simp_all; done)
            · rw [if_neg c7] at H
              have c7b0 : ((rd l1 x8_1) == 0) = false := beq_eq_false_iff_ne.mpr c7
              have c7b1 : ((rd l1 x8_1) != 0) = true := bne_iff_ne.mpr c7
              have HC8 := Aside0.mk H
              clear H
              have p154 : 0 ≤ (x8_1 : Int) := of_decide_eq_true (by first | (with_reducible assumption) | assumption)
              have q154 : x8_1 < (l1.length : Int) := of_decide_eq_true (by first | (with_reducible assumption) | assumption)
              obtain ⟨ad154, e154, hx154_0⟩ := Kd.at_int HR1.out x8_1 p154 q154
              cases e154
              replace p154 := eq_true p154
              replace q154 := eq_true q154
              go_upto_if 33 with (fail)
              go_cut [7] (fun v7 wc => ∃ (kq : Nat) (x7_7 : Int), v7 = .int .i64 x7_7 ∧ Aside0 (ridgewaylaw13_RoleChain.j1 kq l1 t153 x6_1 x7_7 x8_1 = some true) ∧ Aside0 (kq ≤ k1) ∧ Drawn0 w wc)
              case first =>
                have H := HC8.out
                clear HC8
                by_cases c9 : x7_1 = 0
                · rw [if_pos c9] at H
                  have c9b0 : (x7_1 == 0) = true := beq_iff_eq.mpr c9
                  have c9b1 : (x7_1 != 0) = false := bne_eq_false_iff_eq.mpr c9
                  clear c9
                  (first | rw [c9b0] | (simp only [i64_w, i32_w]; rw [c9b0]) | skip)
                  have H' := Aside0.mk H
                  clear H
                  have p155 : 0 ≤ (x8_1 : Int) := of_decide_eq_true (by first | (with_reducible assumption) | assumption)
                  have q155 : x8_1 < (l1.length : Int) := of_decide_eq_true (by first | (with_reducible assumption) | assumption)
                  obtain ⟨ad155, e155, hx155_0⟩ := Kd.at_int HR1.out x8_1 p155 q155
                  obtain rfl : ad154 = ad155 := (by injection e155)
                  replace p155 := eq_true p155
                  replace q155 := eq_true q155
                  go_wp2
                  go_meet
                  case rel => exact ⟨_, (rd l1 x8_1), (by first | rfl | (simp; done) | (simp [*]; done)), H', ⟨by have := HK1.out; first | omega | exact Nat.le_refl _⟩, by repeat (first | exact Drawn0.refl _ | apply Drawn0.step)⟩
                · rw [if_neg c9] at H
                  have c9b0 : (x7_1 == 0) = false := beq_eq_false_iff_ne.mpr c9
                  have c9b1 : (x7_1 != 0) = true := bne_iff_ne.mpr c9
                  (first | rw [c9b0] | (simp only [i64_w, i32_w]; rw [c9b0]) | skip)
                  have H' := Aside0.mk H
                  clear H
                  go_wp2
                  go_meet
                  case rel => exact ⟨_, (x7_1), (by first | rfl | (simp; done) | (simp [*]; done)), H', ⟨by have := HK1.out; first | omega | exact Nat.le_refl _⟩, by repeat (first | exact Drawn0.refl _ | apply Drawn0.step)⟩
              case rest =>
                clear HC8
                try clear c1
                try clear p1
                try clear q1
                try clear hx1
                try clear p2
                try clear c4
                try clear c4b0
                try clear c4b1
                try clear c5
                try clear c5b0
                try clear c6
                try clear c6b0
                try clear c7
                try clear c7b0
                try clear c7b1
                try clear c8
                try clear c9
                try clear c9b0
                try clear c9b1
                try clear hx154_0
                try clear hx155_0
                try clear p154
                try clear p155
                try clear p2
                try clear q154
                try clear q155
                obtain ⟨kq, x7_7, rfl, HA, HJ7, ⟨mc7, rfl⟩⟩ := hcut
                cases kq with
                | zero => exact absurd HA.out (by simp [ridgewaylaw13_RoleChain.j1])
                | succ kj7 =>
                  have H := HA.out
                  clear HA
                  simp only [ridgewaylaw13_RoleChain.j1] at H
                  by_cases c10 : 0 ≤ x8_1
                  · rw [if_pos c10] at H
                    have c10b0 : decide (0 ≤ x8_1) = true := decide_eq_true c10
                    clear c10
                    by_cases c11 : x8_1 < (l1.length : Int)
                    · rw [if_pos c11] at H
                      have c11b0 : decide (x8_1 < (l1.length : Int)) = true := decide_eq_true c11
                      clear c11
                      replace H := Option.bind_eq_some_iff.mp H
                      obtain ⟨⟨t157, t158⟩, A120, H⟩ := H
                      replace H : ((role_In.f kj7 3 (rd l1 x8_1) t157).bind fun bt160 => (if t158 = true then (if bt160.2 = true then (if t157 = x7_7 then (if bt160.1 = x7_7 then (ridgewaylaw13_RoleChain.l0 kj7 l1 t153 bt160.1 x7_7 (wrap64 (x8_1 + 1))) else (some false)) else (some false)) else (some false)) else (some false))) = some true := H
                      have A12 := Aside0.mk A120
                      clear A120
                      replace H := Option.bind_eq_some_iff.mp H
                      obtain ⟨⟨t160, t161⟩, A130, H⟩ := H
                      replace H : (if t158 = true then (if t161 = true then (if t157 = x7_7 then (if t160 = x7_7 then (ridgewaylaw13_RoleChain.l0 kj7 l1 t153 t160 x7_7 (wrap64 (x8_1 + 1))) else (some false)) else (some false)) else (some false)) else (some false)) = some true := H
                      have A13 := Aside0.mk A130
                      clear A130
                      by_cases c14 : t158 = true
                      · subst c14
                        have H1 : (if t161 = true then (if t157 = x7_7 then (if t160 = x7_7 then (ridgewaylaw13_RoleChain.l0 kj7 l1 t153 t160 x7_7 (wrap64 (x8_1 + 1))) else (some false)) else (some false)) else (some false)) = some true := by rw [if_pos rfl] at H; first | done | exact H
                        clear H
                        have H := H1
                        clear H1
                        by_cases c15 : t161 = true
                        · subst c15
                          have H1 : (if t157 = x7_7 then (if t160 = x7_7 then (ridgewaylaw13_RoleChain.l0 kj7 l1 t153 t160 x7_7 (wrap64 (x8_1 + 1))) else (some false)) else (some false)) = some true := by rw [if_pos rfl] at H; first | done | exact H
                          clear H
                          have H := H1
                          clear H1
                          by_cases c16 : t157 = x7_7
                          · rw [if_pos c16] at H
                            have c16b0 : (t157 == x7_7) = true := beq_iff_eq.mpr c16
                            have c16b1 : (t157 != x7_7) = false := bne_eq_false_iff_eq.mpr c16
                            clear c16
                            by_cases c17 : t160 = x7_7
                            · rw [if_pos c17] at H
                              have c17b0 : (t160 == x7_7) = true := beq_iff_eq.mpr c17
                              have c17b1 : (t160 != x7_7) = false := bne_eq_false_iff_eq.mpr c17
                              clear c17
                              have H' := Aside0.mk H
                              clear H
                              have p156 : 0 ≤ (x8_1 : Int) := of_decide_eq_true (by first | (with_reducible assumption) | assumption)
                              have q156 : x8_1 < (l1.length : Int) := of_decide_eq_true (by first | (with_reducible assumption) | assumption)
                              obtain ⟨ad156, e156, hx156_0⟩ := Kd.at_int HR1.out x8_1 p156 q156
                              obtain rfl : ad154 = ad156 := (by injection e156)
                              replace p156 := eq_true p156
                              replace q156 := eq_true q156
                              go_wp2_with (first | ((with_reducible refine gate_callee (f := 11) rfl ?_); refine goesL_ (some 44) rfl rfl Tryd.func11 (by kernel_rfl) rfl #[.int .i64 1, .int .i64 (rd l1 x8_1), .int .i64 x6_1] rfl (by (try simp only [List.map_toArray, List.map_cons, List.map_nil]); first | done | rfl | (simp only [List.length_drop, List.length_take]; rfl)) ?_; (with_reducible refine (role_Out.calls kj7 1 (rd l1 x8_1) x6_1 t157 true _ A12.out).mono ?_); rintro e w' ⟨rfl, ⟨nd, rfl⟩⟩; refine ⟨_, rfl, ?_⟩; have p159 : 0 ≤ (x8_1 : Int) := of_decide_eq_true (by first | (with_reducible assumption) | assumption); have q159 : x8_1 < (l1.length : Int) := of_decide_eq_true (by first | (with_reducible assumption) | assumption); obtain ⟨ad159, e159, hx159_0⟩ := Kd.at_int HR1.out x8_1 p159 q159; obtain rfl : ad154 = ad159 := (by injection e159); replace p159 := eq_true p159; replace q159 := eq_true q159) | ((with_reducible refine gate_callee (f := 9) rfl ?_); refine goesL_ (some 53) rfl rfl Tryd.func9 (by kernel_rfl) rfl #[.int .i64 3, .int .i64 (rd l1 x8_1), .int .i64 t157] rfl (by (try simp only [List.map_toArray, List.map_cons, List.map_nil]); first | done | rfl | (simp only [List.length_drop, List.length_take]; rfl)) ?_; (with_reducible refine (role_In.calls kj7 3 (rd l1 x8_1) t157 t160 true _ A13.out).mono ?_); rintro e w' ⟨rfl, ⟨nd, rfl⟩⟩; refine ⟨_, rfl, ?_⟩))
                              go_roundg kj7
                              case measure => have := HK1.out; have := HJ7.out; omega
                              case rel => exact ⟨(t160), (x7_7), (wrap64 (x8_1 + 1)), (by first | rfl | (simp; done) | (simp [*]; done)), (by first | rfl | (simp; done) | (simp [*]; done)), (by first | rfl | (simp; done) | (simp [*]; done)), H', ⟨by have := HK1.out; have := HJ7.out; omega⟩, by repeat (first | exact Drawn0.refl _ | apply Drawn0.step)⟩
                            · rw [if_neg c17] at H
                              have c17b0 : (t160 == x7_7) = false := beq_eq_false_iff_ne.mpr c17
                              have c17b1 : (t160 != x7_7) = true := bne_iff_ne.mpr c17
                              exact absurd H (by simp)
                          · rw [if_neg c16] at H
                            have c16b0 : (t157 == x7_7) = false := beq_eq_false_iff_ne.mpr c16
                            have c16b1 : (t157 != x7_7) = true := bne_iff_ne.mpr c16
                            exact absurd H (by simp)
                        · replace c15 := Bool.eq_false_iff.mpr c15
                          subst c15
                          have H1 : (some false) = some true := by rw [if_neg (show ¬ (false = true) by decide)] at H; first | done | exact H
                          clear H
                          have H := H1
                          clear H1
                          exact absurd H (by simp)
                      · replace c14 := Bool.eq_false_iff.mpr c14
                        subst c14
                        have H1 : (some false) = some true := by rw [if_neg (show ¬ (false = true) by decide)] at H; first | done | exact H
                        clear H
                        have H := H1
                        clear H1
                        exact absurd H (by simp)
                    · rw [if_neg c11] at H
                      exact absurd H (by simp)
                  · rw [if_neg c10] at H
                    exact absurd H (by simp)
          · rw [if_neg c6] at H
            exact absurd H (by simp)
        · rw [if_neg c5] at H
          have c5b0 : decide (x8_1 < (l1.length : Int)) = false := decide_eq_false c5
          clear c5
          have HRL_ := Aside0.mk (Option.some.inj H)
          clear H
          go_wp2
          all_goals first | (go_ret; refine ⟨?_, ?_⟩; (focus (first | rfl | (rw [HRL_.out] <;> rfl) | (simp only [HRL_.out] <;> rfl) | (have h_ := HRL_.out; simp at h_; simp [h_]; done) | (have h_ := HRL_.out; simp [*] at h_ ⊢; done) | (simp; done) | (simp [*]; done))); (focus (repeat (first | exact Drawn0.refl _ | apply Drawn0.step)))) | (exfalso; simp_all; done)

/-- THE ONE PURE STATEMENT of ridgewaylaw13_RoleChain. -/
def ridgewaylaw13_RoleChain.Pure : Prop := ∀ (a0 : Int) (l1 : List Int), ((Lit.int .i64 a0).wf = true) → (l1.length ≤ maxLen ∧ ∀ y ∈ l1, (Lit.int .i64 y).wf = true) → ∃ k, ridgewaylaw13_RoleChain.f k a0 l1 = some true

end Go.Proofs.YtjifgkimcepakaaDoor.Q
