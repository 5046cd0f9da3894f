/- Each call of a Go function comes to what the Lean function of its name answers (written out by wip/tools/xprint.py, checked by Lean); conditions: those in each statement. -/
import Derived.Test.YtjifgkimcepakaaDoorQx0
import Derived.Test.YtjifgkimcepakaaDoorQx1
import Derived.Test.YtjifgkimcepakaaDoorQx2
namespace Go.Proofs.YtjifgkimcepakaaDoor.Q
open Go.RowKit Go.Proofs.YtjifgkimcepakaaDoorW.PrintWords Go.Proofs.YtjifgkimcepakaaDoorW.PrintLast Go.Proofs.YtjifgkimcepakaaDoorW.PrintMore Go.Proofs.YtjifgkimcepakaaDoorW.PrintX
attribute [local go_sem] max2_int min2_int max_two min_two max_three min_three max_four min_four   -- for this text's walks alone
set_option linter.unusedVariables false
set_option linter.unusedSimpArgs false

/-! ### ridgewayref13_Pairs: function 16 -/
def ridgewayref13_Pairs.f (a0 : Int) (a1 : Int) : Option (Bool) := if a0 = 0 then (if a1 = 3 then (some true) else (if a0 = 3 then (if a1 = 0 then (some true) else (if a0 = 1 then (if a1 = 2 then (some true) else (if a0 = 2 then (if a1 = 1 then (some true) else (if a0 = 4 then (some (a1 == 4)) else (some false))) else (if a0 = 4 then (some (a1 == 4)) else (some false)))) else (if a0 = 2 then (if a1 = 1 then (some true) else (if a0 = 4 then (some (a1 == 4)) else (some false))) else (if a0 = 4 then (some (a1 == 4)) else (some false))))) else (if a0 = 1 then (if a1 = 2 then (some true) else (if a0 = 2 then (if a1 = 1 then (some true) else (if a0 = 4 then (some (a1 == 4)) else (some false))) else (if a0 = 4 then (some (a1 == 4)) else (some false)))) else (if a0 = 2 then (if a1 = 1 then (some true) else (if a0 = 4 then (some (a1 == 4)) else (some false))) else (if a0 = 4 then (some (a1 == 4)) else (some false)))))) else (if a0 = 3 then (if a1 = 0 then (some true) else (if a0 = 1 then (if a1 = 2 then (some true) else (if a0 = 2 then (if a1 = 1 then (some true) else (if a0 = 4 then (some (a1 == 4)) else (some false))) else (if a0 = 4 then (some (a1 == 4)) else (some false)))) else (if a0 = 2 then (if a1 = 1 then (some true) else (if a0 = 4 then (some (a1 == 4)) else (some false))) else (if a0 = 4 then (some (a1 == 4)) else (some false))))) else (if a0 = 1 then (if a1 = 2 then (some true) else (if a0 = 2 then (if a1 = 1 then (some true) else (if a0 = 4 then (some (a1 == 4)) else (some false))) else (if a0 = 4 then (some (a1 == 4)) else (some false)))) else (if a0 = 2 then (if a1 = 1 then (some true) else (if a0 = 4 then (some (a1 == 4)) else (some false))) else (if a0 = 4 then (some (a1 == 4)) else (some false)))))
set_option maxHeartbeats 8000000 in
set_option maxRecDepth 100000 in
theorem ridgewayref13_Pairs.calls (a0 : Int) (a1 : Int) (r : Bool) (w : World) (h : ridgewayref13_Pairs.f a0 a1 = some r) :
    Calls Tryd.prog 16 #[.int .i64 a0, .int .i64 a1] w fun e w' => e = .returned (.bool r) ∧ Drawn0 w w' := by
  have H : (if a0 = 0 then (if a1 = 3 then (some true) else (if a0 = 3 then (if a1 = 0 then (some true) else (if a0 = 1 then (if a1 = 2 then (some true) else (if a0 = 2 then (if a1 = 1 then (some true) else (if a0 = 4 then (some (a1 == 4)) else (some false))) else (if a0 = 4 then (some (a1 == 4)) else (some false)))) else (if a0 = 2 then (if a1 = 1 then (some true) else (if a0 = 4 then (some (a1 == 4)) else (some false))) else (if a0 = 4 then (some (a1 == 4)) else (some false))))) else (if a0 = 1 then (if a1 = 2 then (some true) else (if a0 = 2 then (if a1 = 1 then (some true) else (if a0 = 4 then (some (a1 == 4)) else (some false))) else (if a0 = 4 then (some (a1 == 4)) else (some false)))) else (if a0 = 2 then (if a1 = 1 then (some true) else (if a0 = 4 then (some (a1 == 4)) else (some false))) else (if a0 = 4 then (some (a1 == 4)) else (some false)))))) else (if a0 = 3 then (if a1 = 0 then (some true) else (if a0 = 1 then (if a1 = 2 then (some true) else (if a0 = 2 then (if a1 = 1 then (some true) else (if a0 = 4 then (some (a1 == 4)) else (some false))) else (if a0 = 4 then (some (a1 == 4)) else (some false)))) else (if a0 = 2 then (if a1 = 1 then (some true) else (if a0 = 4 then (some (a1 == 4)) else (some false))) else (if a0 = 4 then (some (a1 == 4)) else (some false))))) else (if a0 = 1 then (if a1 = 2 then (some true) else (if a0 = 2 then (if a1 = 1 then (some true) else (if a0 = 4 then (some (a1 == 4)) else (some false))) else (if a0 = 4 then (some (a1 == 4)) else (some false)))) else (if a0 = 2 then (if a1 = 1 then (some true) else (if a0 = 4 then (some (a1 == 4)) else (some false))) else (if a0 = 4 then (some (a1 == 4)) else (some false)))))) = some r := h
  clear h
  by_cases c3 : a0 = 0
  · rw [if_pos c3] at H
    have c3b0 : (a0 == 0) = true := beq_iff_eq.mpr c3
    have c3b1 : (a0 != 0) = false := bne_eq_false_iff_eq.mpr c3
    clear c3
    by_cases c4 : a1 = 3
    · rw [if_pos c4] at H
      have c4b0 : (a1 == 3) = true := beq_iff_eq.mpr c4
      have c4b1 : (a1 != 3) = false := bne_eq_false_iff_eq.mpr c4
      clear c4
      obtain rfl := Option.some.inj H
      go_enter Tryd.func16, Tryd.ntmps16
      go_wp2
      go_ret
      exact ⟨by first | rfl | (simp; done) | (simp [*]; done), by repeat (first | exact Drawn0.refl _ | apply Drawn0.step)⟩
    · rw [if_neg c4] at H
      have c4b0 : (a1 == 3) = false := beq_eq_false_iff_ne.mpr c4
      have c4b1 : (a1 != 3) = true := bne_iff_ne.mpr c4
      by_cases c5 : a0 = 3
      · rw [if_pos c5] at H
        have c5b0 : (a0 == 3) = true := beq_iff_eq.mpr c5
        have c5b1 : (a0 != 3) = false := bne_eq_false_iff_eq.mpr c5
        clear c5
        by_cases c6 : a1 = 0
        · rw [if_pos c6] at H
          have c6b0 : (a1 == 0) = true := beq_iff_eq.mpr c6
          have c6b1 : (a1 != 0) = false := bne_eq_false_iff_eq.mpr c6
          clear c6
          obtain rfl := Option.some.inj H
          go_enter Tryd.func16, Tryd.ntmps16
          go_wp2
          go_ret
          exact ⟨by first | rfl | (simp; done) | (simp [*]; done), by repeat (first | exact Drawn0.refl _ | apply Drawn0.step)⟩
        · rw [if_neg c6] at H
          have c6b0 : (a1 == 0) = false := beq_eq_false_iff_ne.mpr c6
          have c6b1 : (a1 != 0) = true := bne_iff_ne.mpr c6
          by_cases c7 : a0 = 1
          · rw [if_pos c7] at H
            have c7b0 : (a0 == 1) = true := beq_iff_eq.mpr c7
            have c7b1 : (a0 != 1) = false := bne_eq_false_iff_eq.mpr c7
            clear c7
            by_cases c8 : a1 = 2
            · rw [if_pos c8] at H
              have c8b0 : (a1 == 2) = true := beq_iff_eq.mpr c8
              have c8b1 : (a1 != 2) = false := bne_eq_false_iff_eq.mpr c8
              clear c8
              obtain rfl := Option.some.inj H
              go_enter Tryd.func16, Tryd.ntmps16
              go_wp2
              go_ret
              exact ⟨by first | rfl | (simp; done) | (simp [*]; done), by repeat (first | exact Drawn0.refl _ | apply Drawn0.step)⟩
            · rw [if_neg c8] at H
              have c8b0 : (a1 == 2) = false := beq_eq_false_iff_ne.mpr c8
              have c8b1 : (a1 != 2) = true := bne_iff_ne.mpr c8
              by_cases c9 : a0 = 2
              · rw [if_pos c9] at H
                have c9b0 : (a0 == 2) = true := beq_iff_eq.mpr c9
                have c9b1 : (a0 != 2) = false := bne_eq_false_iff_eq.mpr c9
                clear c9
                by_cases c10 : a1 = 1
                · rw [if_pos c10] at H
                  have c10b0 : (a1 == 1) = true := beq_iff_eq.mpr c10
                  have c10b1 : (a1 != 1) = false := bne_eq_false_iff_eq.mpr c10
                  clear c10
                  obtain rfl := Option.some.inj H
                  go_enter Tryd.func16, Tryd.ntmps16
                  go_wp2
                  go_ret
                  exact ⟨by first | rfl | (simp; done) | (simp [*]; done), by repeat (first | exact Drawn0.refl _ | apply Drawn0.step)⟩
                · rw [if_neg c10] at H
                  have c10b0 : (a1 == 1) = false := beq_eq_false_iff_ne.mpr c10
                  have c10b1 : (a1 != 1) = true := bne_iff_ne.mpr c10
                  by_cases c11 : a0 = 4
                  · rw [if_pos c11] at H
                    have c11b0 : (a0 == 4) = true := beq_iff_eq.mpr c11
                    have c11b1 : (a0 != 4) = false := bne_eq_false_iff_eq.mpr c11
                    clear c11
                    obtain rfl := Option.some.inj H
                    go_enter Tryd.func16, Tryd.ntmps16
                    go_wp2
                    go_ret
                    exact ⟨by first | rfl | (simp; done) | (simp [*]; done), by repeat (first | exact Drawn0.refl _ | apply Drawn0.step)⟩
                  · rw [if_neg c11] at H
                    have c11b0 : (a0 == 4) = false := beq_eq_false_iff_ne.mpr c11
                    have c11b1 : (a0 != 4) = true := bne_iff_ne.mpr c11
                    obtain rfl := Option.some.inj H
                    go_enter Tryd.func16, Tryd.ntmps16
                    go_wp2
                    go_ret
                    exact ⟨by first | rfl | (simp; done) | (simp [*]; done), by repeat (first | exact Drawn0.refl _ | apply Drawn0.step)⟩
              · rw [if_neg c9] at H
                have c9b0 : (a0 == 2) = false := beq_eq_false_iff_ne.mpr c9
                have c9b1 : (a0 != 2) = true := bne_iff_ne.mpr c9
                by_cases c12 : a0 = 4
                · rw [if_pos c12] at H
                  have c12b0 : (a0 == 4) = true := beq_iff_eq.mpr c12
                  have c12b1 : (a0 != 4) = false := bne_eq_false_iff_eq.mpr c12
                  clear c12
                  obtain rfl := Option.some.inj H
                  go_enter Tryd.func16, Tryd.ntmps16
                  go_wp2
                  go_ret
                  exact ⟨by first | rfl | (simp; done) | (simp [*]; done), by repeat (first | exact Drawn0.refl _ | apply Drawn0.step)⟩
                · rw [if_neg c12] at H
                  have c12b0 : (a0 == 4) = false := beq_eq_false_iff_ne.mpr c12
                  have c12b1 : (a0 != 4) = true := bne_iff_ne.mpr c12
                  obtain rfl := Option.some.inj H
                  go_enter Tryd.func16, Tryd.ntmps16
                  go_wp2
                  go_ret
                  exact ⟨by first | rfl | (simp; done) | (simp [*]; done), by repeat (first | exact Drawn0.refl _ | apply Drawn0.step)⟩
          · rw [if_neg c7] at H
            have c7b0 : (a0 == 1) = false := beq_eq_false_iff_ne.mpr c7
            have c7b1 : (a0 != 1) = true := bne_iff_ne.mpr c7
            by_cases c13 : a0 = 2
            · rw [if_pos c13] at H
              have c13b0 : (a0 == 2) = true := beq_iff_eq.mpr c13
              have c13b1 : (a0 != 2) = false := bne_eq_false_iff_eq.mpr c13
              clear c13
              by_cases c14 : a1 = 1
              · rw [if_pos c14] at H
                have c14b0 : (a1 == 1) = true := beq_iff_eq.mpr c14
                have c14b1 : (a1 != 1) = false := bne_eq_false_iff_eq.mpr c14
                clear c14
                obtain rfl := Option.some.inj H
                go_enter Tryd.func16, Tryd.ntmps16
                go_wp2
                go_ret
                exact ⟨by first | rfl | (simp; done) | (simp [*]; done), by repeat (first | exact Drawn0.refl _ | apply Drawn0.step)⟩
              · rw [if_neg c14] at H
                have c14b0 : (a1 == 1) = false := beq_eq_false_iff_ne.mpr c14
                have c14b1 : (a1 != 1) = true := bne_iff_ne.mpr c14
                by_cases c15 : a0 = 4
                · rw [if_pos c15] at H
                  have c15b0 : (a0 == 4) = true := beq_iff_eq.mpr c15
                  have c15b1 : (a0 != 4) = false := bne_eq_false_iff_eq.mpr c15
                  clear c15
                  obtain rfl := Option.some.inj H
                  go_enter Tryd.func16, Tryd.ntmps16
                  go_wp2
                  go_ret
                  exact ⟨by first | rfl | (simp; done) | (simp [*]; done), by repeat (first | exact Drawn0.refl _ | apply Drawn0.step)⟩
                · rw [if_neg c15] at H
                  have c15b0 : (a0 == 4) = false := beq_eq_false_iff_ne.mpr c15
                  have c15b1 : (a0 != 4) = true := bne_iff_ne.mpr c15
                  obtain rfl := Option.some.inj H
                  go_enter Tryd.func16, Tryd.ntmps16
                  go_wp2
                  go_ret
                  exact ⟨by first | rfl | (simp; done) | (simp [*]; done), by repeat (first | exact Drawn0.refl _ | apply Drawn0.step)⟩
            · rw [if_neg c13] at H
              have c13b0 : (a0 == 2) = false := beq_eq_false_iff_ne.mpr c13
              have c13b1 : (a0 != 2) = true := bne_iff_ne.mpr c13
              by_cases c16 : a0 = 4
              · rw [if_pos c16] at H
                have c16b0 : (a0 == 4) = true := beq_iff_eq.mpr c16
                have c16b1 : (a0 != 4) = false := bne_eq_false_iff_eq.mpr c16
                clear c16
                obtain rfl := Option.some.inj H
                go_enter Tryd.func16, Tryd.ntmps16
                go_wp2
                go_ret
                exact ⟨by first | rfl | (simp; done) | (simp [*]; done), by repeat (first | exact Drawn0.refl _ | apply Drawn0.step)⟩
              · rw [if_neg c16] at H
                have c16b0 : (a0 == 4) = false := beq_eq_false_iff_ne.mpr c16
                have c16b1 : (a0 != 4) = true := bne_iff_ne.mpr c16
                obtain rfl := Option.some.inj H
                go_enter Tryd.func16, Tryd.ntmps16
                go_wp2
                go_ret
                exact ⟨by first | rfl | (simp; done) | (simp [*]; done), by repeat (first | exact Drawn0.refl _ | apply Drawn0.step)⟩
      · rw [if_neg c5] at H
        have c5b0 : (a0 == 3) = false := beq_eq_false_iff_ne.mpr c5
        have c5b1 : (a0 != 3) = true := bne_iff_ne.mpr c5
        by_cases c17 : a0 = 1
        · rw [if_pos c17] at H
          have c17b0 : (a0 == 1) = true := beq_iff_eq.mpr c17
          have c17b1 : (a0 != 1) = false := bne_eq_false_iff_eq.mpr c17
          clear c17
          by_cases c18 : a1 = 2
          · rw [if_pos c18] at H
            have c18b0 : (a1 == 2) = true := beq_iff_eq.mpr c18
            have c18b1 : (a1 != 2) = false := bne_eq_false_iff_eq.mpr c18
            clear c18
            obtain rfl := Option.some.inj H
            go_enter Tryd.func16, Tryd.ntmps16
            go_wp2
            go_ret
            exact ⟨by first | rfl | (simp; done) | (simp [*]; done), by repeat (first | exact Drawn0.refl _ | apply Drawn0.step)⟩
          · rw [if_neg c18] at H
            have c18b0 : (a1 == 2) = false := beq_eq_false_iff_ne.mpr c18
            have c18b1 : (a1 != 2) = true := bne_iff_ne.mpr c18
            by_cases c19 : a0 = 2
            · rw [if_pos c19] at H
              have c19b0 : (a0 == 2) = true := beq_iff_eq.mpr c19
              have c19b1 : (a0 != 2) = false := bne_eq_false_iff_eq.mpr c19
              clear c19
              by_cases c20 : a1 = 1
              · rw [if_pos c20] at H
                have c20b0 : (a1 == 1) = true := beq_iff_eq.mpr c20
                have c20b1 : (a1 != 1) = false := bne_eq_false_iff_eq.mpr c20
                clear c20
                obtain rfl := Option.some.inj H
                go_enter Tryd.func16, Tryd.ntmps16
                go_wp2
                go_ret
                exact ⟨by first | rfl | (simp; done) | (simp [*]; done), by repeat (first | exact Drawn0.refl _ | apply Drawn0.step)⟩
              · rw [if_neg c20] at H
                have c20b0 : (a1 == 1) = false := beq_eq_false_iff_ne.mpr c20
                have c20b1 : (a1 != 1) = true := bne_iff_ne.mpr c20
                by_cases c21 : a0 = 4
                · rw [if_pos c21] at H
                  have c21b0 : (a0 == 4) = true := beq_iff_eq.mpr c21
                  have c21b1 : (a0 != 4) = false := bne_eq_false_iff_eq.mpr c21
                  clear c21
                  obtain rfl := Option.some.inj H
                  go_enter Tryd.func16, Tryd.ntmps16
                  go_wp2
                  go_ret
                  exact ⟨by first | rfl | (simp; done) | (simp [*]; done), by repeat (first | exact Drawn0.refl _ | apply Drawn0.step)⟩
                · rw [if_neg c21] at H
                  have c21b0 : (a0 == 4) = false := beq_eq_false_iff_ne.mpr c21
                  have c21b1 : (a0 != 4) = true := bne_iff_ne.mpr c21
                  obtain rfl := Option.some.inj H
                  go_enter Tryd.func16, Tryd.ntmps16
                  go_wp2
                  go_ret
                  exact ⟨by first | rfl | (simp; done) | (simp [*]; done), by repeat (first | exact Drawn0.refl _ | apply Drawn0.step)⟩
            · rw [if_neg c19] at H
              have c19b0 : (a0 == 2) = false := beq_eq_false_iff_ne.mpr c19
              have c19b1 : (a0 != 2) = true := bne_iff_ne.mpr c19
              by_cases c22 : a0 = 4
              · rw [if_pos c22] at H
                have c22b0 : (a0 == 4) = true := beq_iff_eq.mpr c22
                have c22b1 : (a0 != 4) = false := bne_eq_false_iff_eq.mpr c22
                clear c22
                obtain rfl := Option.some.inj H
                go_enter Tryd.func16, Tryd.ntmps16
                go_wp2
                go_ret
                exact ⟨by first | rfl | (simp; done) | (simp [*]; done), by repeat (first | exact Drawn0.refl _ | apply Drawn0.step)⟩
              · rw [if_neg c22] at H
                have c22b0 : (a0 == 4) = false := beq_eq_false_iff_ne.mpr c22
                have c22b1 : (a0 != 4) = true := bne_iff_ne.mpr c22
                obtain rfl := Option.some.inj H
                go_enter Tryd.func16, Tryd.ntmps16
                go_wp2
                go_ret
                exact ⟨by first | rfl | (simp; done) | (simp [*]; done), by repeat (first | exact Drawn0.refl _ | apply Drawn0.step)⟩
        · rw [if_neg c17] at H
          have c17b0 : (a0 == 1) = false := beq_eq_false_iff_ne.mpr c17
          have c17b1 : (a0 != 1) = true := bne_iff_ne.mpr c17
          by_cases c23 : a0 = 2
          · rw [if_pos c23] at H
            have c23b0 : (a0 == 2) = true := beq_iff_eq.mpr c23
            have c23b1 : (a0 != 2) = false := bne_eq_false_iff_eq.mpr c23
            clear c23
            by_cases c24 : a1 = 1
            · rw [if_pos c24] at H
              have c24b0 : (a1 == 1) = true := beq_iff_eq.mpr c24
              have c24b1 : (a1 != 1) = false := bne_eq_false_iff_eq.mpr c24
              clear c24
              obtain rfl := Option.some.inj H
              go_enter Tryd.func16, Tryd.ntmps16
              go_wp2
              go_ret
              exact ⟨by first | rfl | (simp; done) | (simp [*]; done), by repeat (first | exact Drawn0.refl _ | apply Drawn0.step)⟩
            · rw [if_neg c24] at H
              have c24b0 : (a1 == 1) = false := beq_eq_false_iff_ne.mpr c24
              have c24b1 : (a1 != 1) = true := bne_iff_ne.mpr c24
              by_cases c25 : a0 = 4
              · rw [if_pos c25] at H
                have c25b0 : (a0 == 4) = true := beq_iff_eq.mpr c25
                have c25b1 : (a0 != 4) = false := bne_eq_false_iff_eq.mpr c25
                clear c25
                obtain rfl := Option.some.inj H
                go_enter Tryd.func16, Tryd.ntmps16
                go_wp2
                go_ret
                exact ⟨by first | rfl | (simp; done) | (simp [*]; done), by repeat (first | exact Drawn0.refl _ | apply Drawn0.step)⟩
              · rw [if_neg c25] at H
                have c25b0 : (a0 == 4) = false := beq_eq_false_iff_ne.mpr c25
                have c25b1 : (a0 != 4) = true := bne_iff_ne.mpr c25
                obtain rfl := Option.some.inj H
                go_enter Tryd.func16, Tryd.ntmps16
                go_wp2
                go_ret
                exact ⟨by first | rfl | (simp; done) | (simp [*]; done), by repeat (first | exact Drawn0.refl _ | apply Drawn0.step)⟩
          · rw [if_neg c23] at H
            have c23b0 : (a0 == 2) = false := beq_eq_false_iff_ne.mpr c23
            have c23b1 : (a0 != 2) = true := bne_iff_ne.mpr c23
            by_cases c26 : a0 = 4
            · rw [if_pos c26] at H
              have c26b0 : (a0 == 4) = true := beq_iff_eq.mpr c26
              have c26b1 : (a0 != 4) = false := bne_eq_false_iff_eq.mpr c26
              clear c26
              obtain rfl := Option.some.inj H
              go_enter Tryd.func16, Tryd.ntmps16
              go_wp2
              go_ret
              exact ⟨by first | rfl | (simp; done) | (simp [*]; done), by repeat (first | exact Drawn0.refl _ | apply Drawn0.step)⟩
            · rw [if_neg c26] at H
              have c26b0 : (a0 == 4) = false := beq_eq_false_iff_ne.mpr c26
              have c26b1 : (a0 != 4) = true := bne_iff_ne.mpr c26
              obtain rfl := Option.some.inj H
              go_enter Tryd.func16, Tryd.ntmps16
              go_wp2
              go_ret
              exact ⟨by first | rfl | (simp; done) | (simp [*]; done), by repeat (first | exact Drawn0.refl _ | apply Drawn0.step)⟩
  · rw [if_neg c3] at H
    have c3b0 : (a0 == 0) = false := beq_eq_false_iff_ne.mpr c3
    have c3b1 : (a0 != 0) = true := bne_iff_ne.mpr c3
    by_cases c27 : a0 = 3
    · rw [if_pos c27] at H
      have c27b0 : (a0 == 3) = true := beq_iff_eq.mpr c27
      have c27b1 : (a0 != 3) = false := bne_eq_false_iff_eq.mpr c27
      clear c27
      by_cases c28 : a1 = 0
      · rw [if_pos c28] at H
        have c28b0 : (a1 == 0) = true := beq_iff_eq.mpr c28
        have c28b1 : (a1 != 0) = false := bne_eq_false_iff_eq.mpr c28
        clear c28
        obtain rfl := Option.some.inj H
        go_enter Tryd.func16, Tryd.ntmps16
        go_wp2
        go_ret
        exact ⟨by first | rfl | (simp; done) | (simp [*]; done), by repeat (first | exact Drawn0.refl _ | apply Drawn0.step)⟩
      · rw [if_neg c28] at H
        have c28b0 : (a1 == 0) = false := beq_eq_false_iff_ne.mpr c28
        have c28b1 : (a1 != 0) = true := bne_iff_ne.mpr c28
        by_cases c29 : a0 = 1
        · rw [if_pos c29] at H
          have c29b0 : (a0 == 1) = true := beq_iff_eq.mpr c29
          have c29b1 : (a0 != 1) = false := bne_eq_false_iff_eq.mpr c29
          clear c29
          by_cases c30 : a1 = 2
          · rw [if_pos c30] at H
            have c30b0 : (a1 == 2) = true := beq_iff_eq.mpr c30
            have c30b1 : (a1 != 2) = false := bne_eq_false_iff_eq.mpr c30
            clear c30
            obtain rfl := Option.some.inj H
            go_enter Tryd.func16, Tryd.ntmps16
            go_wp2
            go_ret
            exact ⟨by first | rfl | (simp; done) | (simp [*]; done), by repeat (first | exact Drawn0.refl _ | apply Drawn0.step)⟩
          · rw [if_neg c30] at H
            have c30b0 : (a1 == 2) = false := beq_eq_false_iff_ne.mpr c30
            have c30b1 : (a1 != 2) = true := bne_iff_ne.mpr c30
            by_cases c31 : a0 = 2
            · rw [if_pos c31] at H
              have c31b0 : (a0 == 2) = true := beq_iff_eq.mpr c31
              have c31b1 : (a0 != 2) = false := bne_eq_false_iff_eq.mpr c31
              clear c31
              by_cases c32 : a1 = 1
              · rw [if_pos c32] at H
                have c32b0 : (a1 == 1) = true := beq_iff_eq.mpr c32
                have c32b1 : (a1 != 1) = false := bne_eq_false_iff_eq.mpr c32
                clear c32
                obtain rfl := Option.some.inj H
                go_enter Tryd.func16, Tryd.ntmps16
                go_wp2
                go_ret
                exact ⟨by first | rfl | (simp; done) | (simp [*]; done), by repeat (first | exact Drawn0.refl _ | apply Drawn0.step)⟩
              · rw [if_neg c32] at H
                have c32b0 : (a1 == 1) = false := beq_eq_false_iff_ne.mpr c32
                have c32b1 : (a1 != 1) = true := bne_iff_ne.mpr c32
                by_cases c33 : a0 = 4
                · rw [if_pos c33] at H
                  have c33b0 : (a0 == 4) = true := beq_iff_eq.mpr c33
                  have c33b1 : (a0 != 4) = false := bne_eq_false_iff_eq.mpr c33
                  clear c33
                  obtain rfl := Option.some.inj H
                  go_enter Tryd.func16, Tryd.ntmps16
                  go_wp2
                  go_ret
                  exact ⟨by first | rfl | (simp; done) | (simp [*]; done), by repeat (first | exact Drawn0.refl _ | apply Drawn0.step)⟩
                · rw [if_neg c33] at H
                  have c33b0 : (a0 == 4) = false := beq_eq_false_iff_ne.mpr c33
                  have c33b1 : (a0 != 4) = true := bne_iff_ne.mpr c33
                  obtain rfl := Option.some.inj H
                  go_enter Tryd.func16, Tryd.ntmps16
                  go_wp2
                  go_ret
                  exact ⟨by first | rfl | (simp; done) | (simp [*]; done), by repeat (first | exact Drawn0.refl _ | apply Drawn0.step)⟩
            · rw [if_neg c31] at H
              have c31b0 : (a0 == 2) = false := beq_eq_false_iff_ne.mpr c31
              have c31b1 : (a0 != 2) = true := bne_iff_ne.mpr c31
              by_cases c34 : a0 = 4
              · rw [if_pos c34] at H
                have c34b0 : (a0 == 4) = true := beq_iff_eq.mpr c34
                have c34b1 : (a0 != 4) = false := bne_eq_false_iff_eq.mpr c34
                clear c34
                obtain rfl := Option.some.inj H
                go_enter Tryd.func16, Tryd.ntmps16
                go_wp2
                go_ret
                exact ⟨by first | rfl | (simp; done) | (simp [*]; done), by repeat (first | exact Drawn0.refl _ | apply Drawn0.step)⟩
              · rw [if_neg c34] at H
                have c34b0 : (a0 == 4) = false := beq_eq_false_iff_ne.mpr c34
                have c34b1 : (a0 != 4) = true := bne_iff_ne.mpr c34
                obtain rfl := Option.some.inj H
                go_enter Tryd.func16, Tryd.ntmps16
                go_wp2
                go_ret
                exact ⟨by first | rfl | (simp; done) | (simp [*]; done), by repeat (first | exact Drawn0.refl _ | apply Drawn0.step)⟩
        · rw [if_neg c29] at H
          have c29b0 : (a0 == 1) = false := beq_eq_false_iff_ne.mpr c29
          have c29b1 : (a0 != 1) = true := bne_iff_ne.mpr c29
          by_cases c35 : a0 = 2
          · rw [if_pos c35] at H
            have c35b0 : (a0 == 2) = true := beq_iff_eq.mpr c35
            have c35b1 : (a0 != 2) = false := bne_eq_false_iff_eq.mpr c35
            clear c35
            by_cases c36 : a1 = 1
            · rw [if_pos c36] at H
              have c36b0 : (a1 == 1) = true := beq_iff_eq.mpr c36
              have c36b1 : (a1 != 1) = false := bne_eq_false_iff_eq.mpr c36
              clear c36
              obtain rfl := Option.some.inj H
              go_enter Tryd.func16, Tryd.ntmps16
              go_wp2
              go_ret
              exact ⟨by first | rfl | (simp; done) | (simp [*]; done), by repeat (first | exact Drawn0.refl _ | apply Drawn0.step)⟩
            · rw [if_neg c36] at H
              have c36b0 : (a1 == 1) = false := beq_eq_false_iff_ne.mpr c36
              have c36b1 : (a1 != 1) = true := bne_iff_ne.mpr c36
              by_cases c37 : a0 = 4
              · rw [if_pos c37] at H
                have c37b0 : (a0 == 4) = true := beq_iff_eq.mpr c37
                have c37b1 : (a0 != 4) = false := bne_eq_false_iff_eq.mpr c37
                clear c37
                obtain rfl := Option.some.inj H
                go_enter Tryd.func16, Tryd.ntmps16
                go_wp2
                go_ret
                exact ⟨by first | rfl | (simp; done) | (simp [*]; done), by repeat (first | exact Drawn0.refl _ | apply Drawn0.step)⟩
              · rw [if_neg c37] at H
                have c37b0 : (a0 == 4) = false := beq_eq_false_iff_ne.mpr c37
                have c37b1 : (a0 != 4) = true := bne_iff_ne.mpr c37
                obtain rfl := Option.some.inj H
                go_enter Tryd.func16, Tryd.ntmps16
                go_wp2
                go_ret
                exact ⟨by first | rfl | (simp; done) | (simp [*]; done), by repeat (first | exact Drawn0.refl _ | apply Drawn0.step)⟩
          · rw [if_neg c35] at H
            have c35b0 : (a0 == 2) = false := beq_eq_false_iff_ne.mpr c35
            have c35b1 : (a0 != 2) = true := bne_iff_ne.mpr c35
            by_cases c38 : a0 = 4
            · rw [if_pos c38] at H
              have c38b0 : (a0 == 4) = true := beq_iff_eq.mpr c38
              have c38b1 : (a0 != 4) = false := bne_eq_false_iff_eq.mpr c38
              clear c38
              obtain rfl := Option.some.inj H
              go_enter Tryd.func16, Tryd.ntmps16
              go_wp2
              go_ret
              exact ⟨by first | rfl | (simp; done) | (simp [*]; done), by repeat (first | exact Drawn0.refl _ | apply Drawn0.step)⟩
            · rw [if_neg c38] at H
              have c38b0 : (a0 == 4) = false := beq_eq_false_iff_ne.mpr c38
              have c38b1 : (a0 != 4) = true := bne_iff_ne.mpr c38
              obtain rfl := Option.some.inj H
              go_enter Tryd.func16, Tryd.ntmps16
              go_wp2
              go_ret
              exact ⟨by first | rfl | (simp; done) | (simp [*]; done), by repeat (first | exact Drawn0.refl _ | apply Drawn0.step)⟩
    · rw [if_neg c27] at H
      have c27b0 : (a0 == 3) = false := beq_eq_false_iff_ne.mpr c27
      have c27b1 : (a0 != 3) = true := bne_iff_ne.mpr c27
      by_cases c39 : a0 = 1
      · rw [if_pos c39] at H
        have c39b0 : (a0 == 1) = true := beq_iff_eq.mpr c39
        have c39b1 : (a0 != 1) = false := bne_eq_false_iff_eq.mpr c39
        clear c39
        by_cases c40 : a1 = 2
        · rw [if_pos c40] at H
          have c40b0 : (a1 == 2) = true := beq_iff_eq.mpr c40
          have c40b1 : (a1 != 2) = false := bne_eq_false_iff_eq.mpr c40
          clear c40
          obtain rfl := Option.some.inj H
          go_enter Tryd.func16, Tryd.ntmps16
          go_wp2
          go_ret
          exact ⟨by first | rfl | (simp; done) | (simp [*]; done), by repeat (first | exact Drawn0.refl _ | apply Drawn0.step)⟩
        · rw [if_neg c40] at H
          have c40b0 : (a1 == 2) = false := beq_eq_false_iff_ne.mpr c40
          have c40b1 : (a1 != 2) = true := bne_iff_ne.mpr c40
          by_cases c41 : a0 = 2
          · rw [if_pos c41] at H
            have c41b0 : (a0 == 2) = true := beq_iff_eq.mpr c41
            have c41b1 : (a0 != 2) = false := bne_eq_false_iff_eq.mpr c41
            clear c41
            by_cases c42 : a1 = 1
            · rw [if_pos c42] at H
              have c42b0 : (a1 == 1) = true := beq_iff_eq.mpr c42
              have c42b1 : (a1 != 1) = false := bne_eq_false_iff_eq.mpr c42
              clear c42
              obtain rfl := Option.some.inj H
              go_enter Tryd.func16, Tryd.ntmps16
              go_wp2
              go_ret
              exact ⟨by first | rfl | (simp; done) | (simp [*]; done), by repeat (first | exact Drawn0.refl _ | apply Drawn0.step)⟩
            · rw [if_neg c42] at H
              have c42b0 : (a1 == 1) = false := beq_eq_false_iff_ne.mpr c42
              have c42b1 : (a1 != 1) = true := bne_iff_ne.mpr c42
              by_cases c43 : a0 = 4
              · rw [if_pos c43] at H
                have c43b0 : (a0 == 4) = true := beq_iff_eq.mpr c43
                have c43b1 : (a0 != 4) = false := bne_eq_false_iff_eq.mpr c43
                clear c43
                obtain rfl := Option.some.inj H
                go_enter Tryd.func16, Tryd.ntmps16
                go_wp2
                go_ret
                exact ⟨by first | rfl | (simp; done) | (simp [*]; done), by repeat (first | exact Drawn0.refl _ | apply Drawn0.step)⟩
              · rw [if_neg c43] at H
                have c43b0 : (a0 == 4) = false := beq_eq_false_iff_ne.mpr c43
                have c43b1 : (a0 != 4) = true := bne_iff_ne.mpr c43
                obtain rfl := Option.some.inj H
                go_enter Tryd.func16, Tryd.ntmps16
                go_wp2
                go_ret
                exact ⟨by first | rfl | (simp; done) | (simp [*]; done), by repeat (first | exact Drawn0.refl _ | apply Drawn0.step)⟩
          · rw [if_neg c41] at H
            have c41b0 : (a0 == 2) = false := beq_eq_false_iff_ne.mpr c41
            have c41b1 : (a0 != 2) = true := bne_iff_ne.mpr c41
            by_cases c44 : a0 = 4
            · rw [if_pos c44] at H
              have c44b0 : (a0 == 4) = true := beq_iff_eq.mpr c44
              have c44b1 : (a0 != 4) = false := bne_eq_false_iff_eq.mpr c44
              clear c44
              obtain rfl := Option.some.inj H
              go_enter Tryd.func16, Tryd.ntmps16
              go_wp2
              go_ret
              exact ⟨by first | rfl | (simp; done) | (simp [*]; done), by repeat (first | exact Drawn0.refl _ | apply Drawn0.step)⟩
            · rw [if_neg c44] at H
              have c44b0 : (a0 == 4) = false := beq_eq_false_iff_ne.mpr c44
              have c44b1 : (a0 != 4) = true := bne_iff_ne.mpr c44
              obtain rfl := Option.some.inj H
              go_enter Tryd.func16, Tryd.ntmps16
              go_wp2
              go_ret
              exact ⟨by first | rfl | (simp; done) | (simp [*]; done), by repeat (first | exact Drawn0.refl _ | apply Drawn0.step)⟩
      · rw [if_neg c39] at H
        have c39b0 : (a0 == 1) = false := beq_eq_false_iff_ne.mpr c39
        have c39b1 : (a0 != 1) = true := bne_iff_ne.mpr c39
        by_cases c45 : a0 = 2
        · rw [if_pos c45] at H
          have c45b0 : (a0 == 2) = true := beq_iff_eq.mpr c45
          have c45b1 : (a0 != 2) = false := bne_eq_false_iff_eq.mpr c45
          clear c45
          by_cases c46 : a1 = 1
          · rw [if_pos c46] at H
            have c46b0 : (a1 == 1) = true := beq_iff_eq.mpr c46
            have c46b1 : (a1 != 1) = false := bne_eq_false_iff_eq.mpr c46
            clear c46
            obtain rfl := Option.some.inj H
            go_enter Tryd.func16, Tryd.ntmps16
            go_wp2
            go_ret
            exact ⟨by first | rfl | (simp; done) | (simp [*]; done), by repeat (first | exact Drawn0.refl _ | apply Drawn0.step)⟩
          · rw [if_neg c46] at H
            have c46b0 : (a1 == 1) = false := beq_eq_false_iff_ne.mpr c46
            have c46b1 : (a1 != 1) = true := bne_iff_ne.mpr c46
            by_cases c47 : a0 = 4
            · rw [if_pos c47] at H
              have c47b0 : (a0 == 4) = true := beq_iff_eq.mpr c47
              have c47b1 : (a0 != 4) = false := bne_eq_false_iff_eq.mpr c47
              clear c47
              obtain rfl := Option.some.inj H
              go_enter Tryd.func16, Tryd.ntmps16
              go_wp2
              go_ret
              exact ⟨by first | rfl | (simp; done) | (simp [*]; done), by repeat (first | exact Drawn0.refl _ | apply Drawn0.step)⟩
            · rw [if_neg c47] at H
              have c47b0 : (a0 == 4) = false := beq_eq_false_iff_ne.mpr c47
              have c47b1 : (a0 != 4) = true := bne_iff_ne.mpr c47
              obtain rfl := Option.some.inj H
              go_enter Tryd.func16, Tryd.ntmps16
              go_wp2
              go_ret
              exact ⟨by first | rfl | (simp; done) | (simp [*]; done), by repeat (first | exact Drawn0.refl _ | apply Drawn0.step)⟩
        · rw [if_neg c45] at H
          have c45b0 : (a0 == 2) = false := beq_eq_false_iff_ne.mpr c45
          have c45b1 : (a0 != 2) = true := bne_iff_ne.mpr c45
          by_cases c48 : a0 = 4
          · rw [if_pos c48] at H
            have c48b0 : (a0 == 4) = true := beq_iff_eq.mpr c48
            have c48b1 : (a0 != 4) = false := bne_eq_false_iff_eq.mpr c48
            clear c48
            obtain rfl := Option.some.inj H
            go_enter Tryd.func16, Tryd.ntmps16
            go_wp2
            go_ret
            exact ⟨by first | rfl | (simp; done) | (simp [*]; done), by repeat (first | exact Drawn0.refl _ | apply Drawn0.step)⟩
          · rw [if_neg c48] at H
            have c48b0 : (a0 == 4) = false := beq_eq_false_iff_ne.mpr c48
            have c48b1 : (a0 != 4) = true := bne_iff_ne.mpr c48
            obtain rfl := Option.some.inj H
            go_enter Tryd.func16, Tryd.ntmps16
            go_wp2
            go_ret
            exact ⟨by first | rfl | (simp; done) | (simp [*]; done), by repeat (first | exact Drawn0.refl _ | apply Drawn0.step)⟩

/-! ### ridgewaylaw13_RoleIs: function 3 -/
def ridgewaylaw13_RoleIs.f (k : Nat) (a0 : Int) (a1 : Int) (a2 : Int) (a3 : Int) : Option (Bool) := (ridgewaylaw13_awake.f k).bind fun t110 => ((role_In.f k a0 a1 a3).bind fun bt111 => ((ridgewayref13_In.f k a0 a1 a3).bind fun bt113 => ((role_Out.f k a0 a1 a3).bind fun bt115 => ((ridgewayref13_Out.f k a0 a1 a3).bind fun bt117 => (if t110 = true then ((role_Mine.f a0).bind fun t119 => ((ridgewayref13_Mine.f a0).bind fun t120 => (if t119 = t120 then ((role_Pairs.f a1 a2).bind fun t121 => ((ridgewayref13_Pairs.f a1 a2).bind fun t122 => (if (t121 == t122) = true then (if bt111.1 = bt113.1 then (if (bt111.2 == bt113.2) = true then (if bt115.1 = bt117.1 then (some (bt115.2 == bt117.2)) else (some false)) else (some false)) else (some false)) else (some false)))) else (some false)))) else (some false))))))
theorem ridgewaylaw13_RoleIs.mono : ∀ a0 a1 a2 a3 k, LeO (ridgewaylaw13_RoleIs.f k a0 a1 a2 a3) (ridgewaylaw13_RoleIs.f (k + 1) a0 a1 a2 a3) := by
  intro a0 a1 a2 a3 k
  unfold ridgewaylaw13_RoleIs.f
  repeat' first
      | (with_reducible exact ridgewaylaw13_awake.mono _)
      | (with_reducible exact ridgewayref13_In.mono _ _ _ _)
      | (with_reducible exact ridgewayref13_Out.mono _ _ _ _)
      | (with_reducible exact role_In.mono _ _ _ _)
      | (with_reducible exact role_Out.mono _ _ _ _)
      | (with_reducible exact LeO.refl _)
      | (with_reducible exact LeO.none _)
      | (with_reducible refine LeO.ite ?_ ?_)
      | (with_reducible refine LeO.bind ?_ (fun _ => ?_))
      | exact ridgewaylaw13_awake.mono _
      | exact ridgewayref13_In.mono _ _ _ _
      | exact ridgewayref13_Out.mono _ _ _ _
      | exact role_In.mono _ _ _ _
      | exact role_Out.mono _ _ _ _
      | exact LeO.none _
      | refine LeO.ite ?_ ?_
      | refine LeO.bind ?_ (fun _ => ?_)
set_option maxHeartbeats 8000000 in
set_option maxRecDepth 100000 in
theorem ridgewaylaw13_RoleIs.calls (k : Nat) (a0 : Int) (a1 : Int) (a2 : Int) (a3 : Int) (w : World) (hG : GOK w) (h : ridgewaylaw13_RoleIs.f k a0 a1 a2 a3 = some true) :
    Calls Tryd.prog 3 #[.int .i64 a0, .int .i64 a1, .int .i64 a2, .int .i64 a3] w fun e w' => e = .returned (.bool true) ∧ Drawn0 w w' := by
  have HG := Aside0.mk hG
  clear hG
  have H : ((ridgewaylaw13_awake.f k).bind fun t110 => ((role_In.f k a0 a1 a3).bind fun bt111 => ((ridgewayref13_In.f k a0 a1 a3).bind fun bt113 => ((role_Out.f k a0 a1 a3).bind fun bt115 => ((ridgewayref13_Out.f k a0 a1 a3).bind fun bt117 => (if t110 = true then ((role_Mine.f a0).bind fun t119 => ((ridgewayref13_Mine.f a0).bind fun t120 => (if t119 = t120 then ((role_Pairs.f a1 a2).bind fun t121 => ((ridgewayref13_Pairs.f a1 a2).bind fun t122 => (if (t121 == t122) = true then (if bt111.1 = bt113.1 then (if (bt111.2 == bt113.2) = true then (if bt115.1 = bt117.1 then (some (bt115.2 == bt117.2)) else (some false)) else (some false)) else (some false)) else (some false)))) else (some false)))) else (some false))))))) = some true := h
  clear h
  replace H := Option.bind_eq_some_iff.mp H
  obtain ⟨t110, A50, H⟩ := H
  replace H : ((role_In.f k a0 a1 a3).bind fun bt111 => ((ridgewayref13_In.f k a0 a1 a3).bind fun bt113 => ((role_Out.f k a0 a1 a3).bind fun bt115 => ((ridgewayref13_Out.f k a0 a1 a3).bind fun bt117 => (if t110 = true then ((role_Mine.f a0).bind fun t119 => ((ridgewayref13_Mine.f a0).bind fun t120 => (if t119 = t120 then ((role_Pairs.f a1 a2).bind fun t121 => ((ridgewayref13_Pairs.f a1 a2).bind fun t122 => (if (t121 == t122) = true then (if bt111.1 = bt113.1 then (if (bt111.2 == bt113.2) = true then (if bt115.1 = bt117.1 then (some (bt115.2 == bt117.2)) else (some false)) else (some false)) else (some false)) else (some false)))) else (some false)))) else (some false)))))) = some true := H
  have A5 := Aside0.mk A50
  clear A50
  replace H := Option.bind_eq_some_iff.mp H
  obtain ⟨⟨t111, t112⟩, A60, H⟩ := H
  replace H : ((ridgewayref13_In.f k a0 a1 a3).bind fun bt113 => ((role_Out.f k a0 a1 a3).bind fun bt115 => ((ridgewayref13_Out.f k a0 a1 a3).bind fun bt117 => (if t110 = true then ((role_Mine.f a0).bind fun t119 => ((ridgewayref13_Mine.f a0).bind fun t120 => (if t119 = t120 then ((role_Pairs.f a1 a2).bind fun t121 => ((ridgewayref13_Pairs.f a1 a2).bind fun t122 => (if (t121 == t122) = true then (if t111 = bt113.1 then (if (t112 == bt113.2) = true then (if bt115.1 = bt117.1 then (some (bt115.2 == bt117.2)) else (some false)) else (some false)) else (some false)) else (some false)))) else (some false)))) else (some false))))) = some true := H
  have A6 := Aside0.mk A60
  clear A60
  replace H := Option.bind_eq_some_iff.mp H
  obtain ⟨⟨t113, t114⟩, A70, H⟩ := H
  replace H : ((role_Out.f k a0 a1 a3).bind fun bt115 => ((ridgewayref13_Out.f k a0 a1 a3).bind fun bt117 => (if t110 = true then ((role_Mine.f a0).bind fun t119 => ((ridgewayref13_Mine.f a0).bind fun t120 => (if t119 = t120 then ((role_Pairs.f a1 a2).bind fun t121 => ((ridgewayref13_Pairs.f a1 a2).bind fun t122 => (if (t121 == t122) = true then (if t111 = t113 then (if (t112 == t114) = true then (if bt115.1 = bt117.1 then (some (bt115.2 == bt117.2)) else (some false)) else (some false)) else (some false)) else (some false)))) else (some false)))) else (some false)))) = some true := H
  have A7 := Aside0.mk A70
  clear A70
  replace H := Option.bind_eq_some_iff.mp H
  obtain ⟨⟨t115, t116⟩, A80, H⟩ := H
  replace H : ((ridgewayref13_Out.f k a0 a1 a3).bind fun bt117 => (if t110 = true then ((role_Mine.f a0).bind fun t119 => ((ridgewayref13_Mine.f a0).bind fun t120 => (if t119 = t120 then ((role_Pairs.f a1 a2).bind fun t121 => ((ridgewayref13_Pairs.f a1 a2).bind fun t122 => (if (t121 == t122) = true then (if t111 = t113 then (if (t112 == t114) = true then (if t115 = bt117.1 then (some (t116 == bt117.2)) else (some false)) else (some false)) else (some false)) else (some false)))) else (some false)))) else (some false))) = some true := H
  have A8 := Aside0.mk A80
  clear A80
  replace H := Option.bind_eq_some_iff.mp H
  obtain ⟨⟨t117, t118⟩, A90, H⟩ := H
  replace H : (if t110 = true then ((role_Mine.f a0).bind fun t119 => ((ridgewayref13_Mine.f a0).bind fun t120 => (if t119 = t120 then ((role_Pairs.f a1 a2).bind fun t121 => ((ridgewayref13_Pairs.f a1 a2).bind fun t122 => (if (t121 == t122) = true then (if t111 = t113 then (if (t112 == t114) = true then (if t115 = t117 then (some (t116 == t118)) else (some false)) else (some false)) else (some false)) else (some false)))) else (some false)))) else (some false)) = some true := H
  have A9 := Aside0.mk A90
  clear A90
  by_cases c10 : t110 = true
  · subst c10
    have H1 : ((role_Mine.f a0).bind fun t119 => ((ridgewayref13_Mine.f a0).bind fun t120 => (if t119 = t120 then ((role_Pairs.f a1 a2).bind fun t121 => ((ridgewayref13_Pairs.f a1 a2).bind fun t122 => (if (t121 == t122) = true then (if t111 = t113 then (if (t112 == t114) = true then (if t115 = t117 then (some (t116 == t118)) else (some false)) else (some false)) else (some false)) else (some false)))) else (some false)))) = some true := by rw [if_pos rfl] at H; first | done | exact H
    clear H
    have H := H1
    clear H1
    replace H := Option.bind_eq_some_iff.mp H
    obtain ⟨t119, A110, H⟩ := H
    replace H : ((ridgewayref13_Mine.f a0).bind fun t120 => (if t119 = t120 then ((role_Pairs.f a1 a2).bind fun t121 => ((ridgewayref13_Pairs.f a1 a2).bind fun t122 => (if (t121 == t122) = true then (if t111 = t113 then (if (t112 == t114) = true then (if t115 = t117 then (some (t116 == t118)) else (some false)) else (some false)) else (some false)) else (some false)))) else (some false))) = some true := H
    have A11 := Aside0.mk A110
    clear A110
    replace H := Option.bind_eq_some_iff.mp H
    obtain ⟨t120, A120, H⟩ := H
    replace H : (if t119 = t120 then ((role_Pairs.f a1 a2).bind fun t121 => ((ridgewayref13_Pairs.f a1 a2).bind fun t122 => (if (t121 == t122) = true then (if t111 = t113 then (if (t112 == t114) = true then (if t115 = t117 then (some (t116 == t118)) else (some false)) else (some false)) else (some false)) else (some false)))) else (some false)) = some true := H
    have A12 := Aside0.mk A120
    clear A120
    by_cases c13 : t119 = t120
    · rw [if_pos c13] at H
      have c13b0 : (t119 == t120) = true := beq_iff_eq.mpr c13
      have c13b1 : (t119 != t120) = false := bne_eq_false_iff_eq.mpr c13
      clear c13
      replace H := Option.bind_eq_some_iff.mp H
      obtain ⟨t121, A140, H⟩ := H
      replace H : ((ridgewayref13_Pairs.f a1 a2).bind fun t122 => (if (t121 == t122) = true then (if t111 = t113 then (if (t112 == t114) = true then (if t115 = t117 then (some (t116 == t118)) else (some false)) else (some false)) else (some false)) else (some false))) = some true := H
      have A14 := Aside0.mk A140
      clear A140
      replace H := Option.bind_eq_some_iff.mp H
      obtain ⟨t122, A150, H⟩ := H
      replace H : (if (t121 == t122) = true then (if t111 = t113 then (if (t112 == t114) = true then (if t115 = t117 then (some (t116 == t118)) else (some false)) else (some false)) else (some false)) else (some false)) = some true := H
      have A15 := Aside0.mk A150
      clear A150
      by_cases c16 : (t121 == t122) = true
      · rw [if_pos c16] at H
        have c16b0 : (t121 == t122) = true := c16
        (try (have c16b1 : decide (t121 = t122) = true := by simpa using c16))
        (try (have c16b2 : (t121 == t122) = true := by simpa using c16))
        clear c16
        by_cases c17 : t111 = t113
        · rw [if_pos c17] at H
          have c17b0 : (t111 == t113) = true := beq_iff_eq.mpr c17
          have c17b1 : (t111 != t113) = false := bne_eq_false_iff_eq.mpr c17
          clear c17
          by_cases c18 : (t112 == t114) = true
          · rw [if_pos c18] at H
            have c18b0 : (t112 == t114) = true := c18
            (try (have c18b1 : decide (t112 = t114) = true := by simpa using c18))
            (try (have c18b2 : (t112 == t114) = true := by simpa using c18))
            clear c18
            by_cases c19 : t115 = t117
            · rw [if_pos c19] at H
              have c19b0 : (t115 == t117) = true := beq_iff_eq.mpr c19
              have c19b1 : (t115 != t117) = false := bne_eq_false_iff_eq.mpr c19
              clear c19
              have HRL_ := Aside0.mk (Option.some.inj H)
              clear H
              go_enter Tryd.func3, Tryd.ntmps3
              go_wp2_with (first | ((with_reducible refine gate_callee (f := 8) rfl ?_); refine goesL_ (some 18) rfl rfl Tryd.func8 (by kernel_rfl) rfl #[] rfl (by (try simp only [List.map_toArray, List.map_cons, List.map_nil]); first | done | rfl | (simp only [List.length_drop, List.length_take]; rfl)) ?_; (with_reducible refine (ridgewaylaw13_awake.calls k  true _ ?side1 A5.out).mono ?_); (case side1 => first | exact HG.out | exact GOK.drawn HG.out _); rintro e w' ⟨rfl, ⟨nd, rfl⟩⟩; refine ⟨_, rfl, ?_⟩) | ((with_reducible refine gate_callee (f := 9) rfl ?_); refine goesL_ (some 23) rfl rfl Tryd.func9 (by kernel_rfl) rfl #[.int .i64 a0, .int .i64 a1, .int .i64 a3] rfl (by (try simp only [List.map_toArray, List.map_cons, List.map_nil]); first | done | rfl | (simp only [List.length_drop, List.length_take]; rfl)) ?_; (with_reducible refine (role_In.calls k a0 a1 a3 t111 t112 _ A6.out).mono ?_); rintro e w' ⟨rfl, ⟨nd, rfl⟩⟩; refine ⟨_, rfl, ?_⟩) | ((with_reducible refine gate_callee (f := 10) rfl ?_); refine goesL_ (some 30) rfl rfl Tryd.func10 (by kernel_rfl) rfl #[.int .i64 a0, .int .i64 a1, .int .i64 a3] rfl (by (try simp only [List.map_toArray, List.map_cons, List.map_nil]); first | done | rfl | (simp only [List.length_drop, List.length_take]; rfl)) ?_; (with_reducible refine (ridgewayref13_In.calls k a0 a1 a3 t113 t114 _ A7.out).mono ?_); rintro e w' ⟨rfl, ⟨nd, rfl⟩⟩; refine ⟨_, rfl, ?_⟩) | ((with_reducible refine gate_callee (f := 11) rfl ?_); refine goesL_ (some 37) rfl rfl Tryd.func11 (by kernel_rfl) rfl #[.int .i64 a0, .int .i64 a1, .int .i64 a3] rfl (by (try simp only [List.map_toArray, List.map_cons, List.map_nil]); first | done | rfl | (simp only [List.length_drop, List.length_take]; rfl)) ?_; (with_reducible refine (role_Out.calls k a0 a1 a3 t115 t116 _ A8.out).mono ?_); rintro e w' ⟨rfl, ⟨nd, rfl⟩⟩; refine ⟨_, rfl, ?_⟩) | ((with_reducible refine gate_callee (f := 12) rfl ?_); refine goesL_ (some 44) rfl rfl Tryd.func12 (by kernel_rfl) rfl #[.int .i64 a0, .int .i64 a1, .int .i64 a3] rfl (by (try simp only [List.map_toArray, List.map_cons, List.map_nil]); first | done | rfl | (simp only [List.length_drop, List.length_take]; rfl)) ?_; (with_reducible refine (ridgewayref13_Out.calls k a0 a1 a3 t117 t118 _ A9.out).mono ?_); rintro e w' ⟨rfl, ⟨nd, rfl⟩⟩; refine ⟨_, rfl, ?_⟩) | (go_at_call 13; (with_reducible refine (role_Mine.calls a0 t119 _ A11.out).mono ?_); rintro e w' ⟨rfl, ⟨nd, rfl⟩⟩) | (go_at_call 14; (with_reducible refine (ridgewayref13_Mine.calls a0 t120 _ A12.out).mono ?_); rintro e w' ⟨rfl, ⟨nd, rfl⟩⟩) | (go_at_call 15; (with_reducible refine (role_Pairs.calls a1 a2 t121 _ ?side1 A14.out).mono ?_); (case side1 => first | exact HG.out | exact GOK.drawn HG.out _); rintro e w' ⟨rfl, ⟨nd, rfl⟩⟩) | (go_at_call 16; (with_reducible refine (ridgewayref13_Pairs.calls a1 a2 t122 _ A15.out).mono ?_); rintro e w' ⟨rfl, ⟨nd, rfl⟩⟩))
              all_goals first | (go_ret; refine ⟨?_, ?_⟩; (focus (first | rfl | (rw [HRL_.out] <;> rfl) | (simp only [HRL_.out] <;> rfl) | (have h_ := HRL_.out; simp at h_; simp [h_]; done) | (have h_ := HRL_.out; simp [*] at h_ ⊢; done) | (simp; done) | (simp [*]; done))); (focus (repeat (first | exact Drawn0.refl _ | apply Drawn0.step)))) | (exfalso; simp_all; done)
            · rw [if_neg c19] at H
              have c19b0 : (t115 == t117) = false := beq_eq_false_iff_ne.mpr c19
              have c19b1 : (t115 != t117) = true := bne_iff_ne.mpr c19
              exact absurd H (by simp)
          · rw [if_neg c18] at H
            have c18b0 : (t112 == t114) = false := by simpa using c18
            (try (have c18b1 : decide (t112 = t114) = false := by simpa using c18))
            (try (have c18b2 : (t112 == t114) = false := by simpa using c18))
            (try (have c18b3 : ¬ (t112 = t114) := by simpa using c18))
            clear c18
            exact absurd H (by simp)
        · rw [if_neg c17] at H
          have c17b0 : (t111 == t113) = false := beq_eq_false_iff_ne.mpr c17
          have c17b1 : (t111 != t113) = true := bne_iff_ne.mpr c17
          exact absurd H (by simp)
      · rw [if_neg c16] at H
        have c16b0 : (t121 == t122) = false := by simpa using c16
        (try (have c16b1 : decide (t121 = t122) = false := by simpa using c16))
        (try (have c16b2 : (t121 == t122) = false := by simpa using c16))
        (try (have c16b3 : ¬ (t121 = t122) := by simpa using c16))
        clear c16
        exact absurd H (by simp)
    · rw [if_neg c13] at H
      have c13b0 : (t119 == t120) = false := beq_eq_false_iff_ne.mpr c13
      have c13b1 : (t119 != t120) = true := bne_iff_ne.mpr c13
      exact absurd H (by simp)
  · replace c10 := Bool.eq_false_iff.mpr c10
    subst c10
    have H1 : (some false) = some true := by rw [if_neg (show ¬ (false = true) by decide)] at H; first | done | exact H
    clear H
    have H := H1
    clear H1
    exact absurd H (by simp)

/-- THE ONE PURE STATEMENT of ridgewaylaw13_RoleIs. -/
def ridgewaylaw13_RoleIs.Pure : Prop := ∀ (a0 : Int) (a1 : Int) (a2 : Int) (a3 : Int), ((Lit.int .i64 a0).wf = true) → ((Lit.int .i64 a1).wf = true) → ((Lit.int .i64 a2).wf = true) → ((Lit.int .i64 a3).wf = true) → ∃ k, ridgewaylaw13_RoleIs.f k a0 a1 a2 a3 = some true

end Go.Proofs.YtjifgkimcepakaaDoor.Q
