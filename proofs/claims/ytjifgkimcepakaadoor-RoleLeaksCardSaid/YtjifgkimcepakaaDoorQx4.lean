/- Each call of a Go function comes to what the Lean function of its name answers (written out by wip/tools/xprint.py, checked by Lean); conditions: those in each statement. -/
import Derived.Test.YtjifgkimcepakaaDoorQx0
import Derived.Test.YtjifgkimcepakaaDoorQx1
namespace Go.Proofs.YtjifgkimcepakaaDoor.Q
open Go.RowKit Go.Proofs.YtjifgkimcepakaaDoorW.PrintWords Go.Proofs.YtjifgkimcepakaaDoorW.PrintLast Go.Proofs.YtjifgkimcepakaaDoorW.PrintMore Go.Proofs.YtjifgkimcepakaaDoorW.PrintX
attribute [local go_sem] max2_int min2_int max_two min_two max_three min_three max_four min_four   -- for this text's walks alone
set_option linter.unusedVariables false
set_option linter.unusedSimpArgs false

/-! ### ridgewaylaw13_RoleLeaks: function 4 -/
def ridgewaylaw13_RoleLeaks.f (k : Nat) (a0 : Int) (a1 : Int) (a2 : Int) (a3 : Int) (a4 : Int) : Option (Bool) := (ridgewaylaw13_awake.f k).bind fun t123 => ((role_In.f k a0 a1 a2).bind fun bt124 => ((role_Out.f k a4 a3 bt124.1).bind fun bt126 => (if bt124.2 = true then (if a1 = 0 then (if t123 = true then (some true) else (some false)) else (if a3 = 0 then (if t123 = true then (some true) else (some false)) else (if a0 = 1 then (if t123 = true then (some true) else (some false)) else (if t123 = true then (if bt124.1 = 0 then (some false) else (if (bt126.2 == (a4 == 1)) = true then (if bt126.2 = true then (some (bt126.1 == bt124.1)) else (some true)) else (some false))) else (some false))))) else (if t123 = true then (some (bt124.1 == 0)) else (some false)))))
theorem ridgewaylaw13_RoleLeaks.mono : ∀ a0 a1 a2 a3 a4 k, LeO (ridgewaylaw13_RoleLeaks.f k a0 a1 a2 a3 a4) (ridgewaylaw13_RoleLeaks.f (k + 1) a0 a1 a2 a3 a4) := by
  intro a0 a1 a2 a3 a4 k
  unfold ridgewaylaw13_RoleLeaks.f
  repeat' first
      | (with_reducible exact ridgewaylaw13_awake.mono _)
      | (with_reducible exact role_In.mono _ _ _ _)
      | (with_reducible exact role_Out.mono _ _ _ _)
      | (with_reducible exact LeO.refl _)
      | (with_reducible exact LeO.none _)
      | (with_reducible refine LeO.ite ?_ ?_)
      | (with_reducible refine LeO.bind ?_ (fun _ => ?_))
      | exact ridgewaylaw13_awake.mono _
      | exact role_In.mono _ _ _ _
      | exact role_Out.mono _ _ _ _
      | exact LeO.none _
      | refine LeO.ite ?_ ?_
      | refine LeO.bind ?_ (fun _ => ?_)
set_option maxHeartbeats 8000000 in
set_option maxRecDepth 100000 in
theorem ridgewaylaw13_RoleLeaks.calls (k : Nat) (a0 : Int) (a1 : Int) (a2 : Int) (a3 : Int) (a4 : Int) (w : World) (hG : GOK w) (h : ridgewaylaw13_RoleLeaks.f k a0 a1 a2 a3 a4 = some true) :
    Calls Tryd.prog 4 #[.int .i64 a0, .int .i64 a1, .int .i64 a2, .int .i64 a3, .int .i64 a4] w fun e w' => e = .returned (.bool true) ∧ Drawn0 w w' := by
  have HG := Aside0.mk hG
  clear hG
  have H : ((ridgewaylaw13_awake.f k).bind fun t123 => ((role_In.f k a0 a1 a2).bind fun bt124 => ((role_Out.f k a4 a3 bt124.1).bind fun bt126 => (if bt124.2 = true then (if a1 = 0 then (if t123 = true then (some true) else (some false)) else (if a3 = 0 then (if t123 = true then (some true) else (some false)) else (if a0 = 1 then (if t123 = true then (some true) else (some false)) else (if t123 = true then (if bt124.1 = 0 then (some false) else (if (bt126.2 == (a4 == 1)) = true then (if bt126.2 = true then (some (bt126.1 == bt124.1)) else (some true)) else (some false))) else (some false))))) else (if t123 = true then (some (bt124.1 == 0)) else (some false)))))) = some true := h
  clear h
  replace H := Option.bind_eq_some_iff.mp H
  obtain ⟨t123, A60, H⟩ := H
  replace H : ((role_In.f k a0 a1 a2).bind fun bt124 => ((role_Out.f k a4 a3 bt124.1).bind fun bt126 => (if bt124.2 = true then (if a1 = 0 then (if t123 = true then (some true) else (some false)) else (if a3 = 0 then (if t123 = true then (some true) else (some false)) else (if a0 = 1 then (if t123 = true then (some true) else (some false)) else (if t123 = true then (if bt124.1 = 0 then (some false) else (if (bt126.2 == (a4 == 1)) = true then (if bt126.2 = true then (some (bt126.1 == bt124.1)) else (some true)) else (some false))) else (some false))))) else (if t123 = true then (some (bt124.1 == 0)) else (some false))))) = some true := H
  have A6 := Aside0.mk A60
  clear A60
  replace H := Option.bind_eq_some_iff.mp H
  obtain ⟨⟨t124, t125⟩, A70, H⟩ := H
  replace H : ((role_Out.f k a4 a3 t124).bind fun bt126 => (if t125 = true then (if a1 = 0 then (if t123 = true then (some true) else (some false)) else (if a3 = 0 then (if t123 = true then (some true) else (some false)) else (if a0 = 1 then (if t123 = true then (some true) else (some false)) else (if t123 = true then (if t124 = 0 then (some false) else (if (bt126.2 == (a4 == 1)) = true then (if bt126.2 = true then (some (bt126.1 == t124)) else (some true)) else (some false))) else (some false))))) else (if t123 = true then (some (t124 == 0)) else (some false)))) = some true := H
  have A7 := Aside0.mk A70
  clear A70
  replace H := Option.bind_eq_some_iff.mp H
  obtain ⟨⟨t126, t127⟩, A80, H⟩ := H
  replace H : (if t125 = true then (if a1 = 0 then (if t123 = true then (some true) else (some false)) else (if a3 = 0 then (if t123 = true then (some true) else (some false)) else (if a0 = 1 then (if t123 = true then (some true) else (some false)) else (if t123 = true then (if t124 = 0 then (some false) else (if (t127 == (a4 == 1)) = true then (if t127 = true then (some (t126 == t124)) else (some true)) else (some false))) else (some false))))) else (if t123 = true then (some (t124 == 0)) else (some false))) = some true := H
  have A8 := Aside0.mk A80
  clear A80
  by_cases c9 : t125 = true
  · subst c9
    have H1 : (if a1 = 0 then (if t123 = true then (some true) else (some false)) else (if a3 = 0 then (if t123 = true then (some true) else (some false)) else (if a0 = 1 then (if t123 = true then (some true) else (some false)) else (if t123 = true then (if t124 = 0 then (some false) else (if (t127 == (a4 == 1)) = true then (if t127 = true then (some (t126 == t124)) else (some true)) else (some false))) else (some false))))) = some true := by rw [if_pos rfl] at H; first | done | exact H
    clear H
    have H := H1
    clear H1
    by_cases c10 : a1 = 0
    · rw [if_pos c10] at H
      have c10b0 : (a1 == 0) = true := beq_iff_eq.mpr c10
      have c10b1 : (a1 != 0) = false := bne_eq_false_iff_eq.mpr c10
      clear c10
      by_cases c11 : t123 = true
      · subst c11
        have H1 : (some true) = some true := by rw [if_pos rfl] at H; first | done | exact H
        clear H
        have H := H1
        clear H1
        clear H
        go_enter Tryd.func4, Tryd.ntmps4
        go_wp2_with (first | ((with_reducible refine gate_callee (f := 8) rfl ?_); refine goesL_ (some 16) rfl rfl Tryd.func8 (by kernel_rfl) rfl #[] rfl (by (try simp only [List.map_toArray, List.map_cons, List.map_nil]); first | done | rfl | (simp only [List.length_drop, List.length_take]; rfl)) ?_; (with_reducible refine (ridgewaylaw13_awake.calls k  true _ ?side1 A6.out).mono ?_); (case side1 => first | exact HG.out | exact GOK.drawn HG.out _); rintro e w' ⟨rfl, ⟨nd, rfl⟩⟩; refine ⟨_, rfl, ?_⟩) | ((with_reducible refine gate_callee (f := 9) rfl ?_); refine goesL_ (some 21) rfl rfl Tryd.func9 (by kernel_rfl) rfl #[.int .i64 a0, .int .i64 a1, .int .i64 a2] rfl (by (try simp only [List.map_toArray, List.map_cons, List.map_nil]); first | done | rfl | (simp only [List.length_drop, List.length_take]; rfl)) ?_; (with_reducible refine (role_In.calls k a0 a1 a2 t124 true _ A7.out).mono ?_); rintro e w' ⟨rfl, ⟨nd, rfl⟩⟩; refine ⟨_, rfl, ?_⟩) | ((with_reducible refine gate_callee (f := 11) rfl ?_); refine goesL_ (some 28) rfl rfl Tryd.func11 (by kernel_rfl) rfl #[.int .i64 a4, .int .i64 a3, .int .i64 t124] rfl (by (try simp only [List.map_toArray, List.map_cons, List.map_nil]); first | done | rfl | (simp only [List.length_drop, List.length_take]; rfl)) ?_; (with_reducible refine (role_Out.calls k a4 a3 t124 t126 t127 _ A8.out).mono ?_); rintro e w' ⟨rfl, ⟨nd, rfl⟩⟩; refine ⟨_, rfl, ?_⟩))
        all_goals first | (go_ret; refine ⟨?_, ?_⟩; (focus (first | rfl | (simp; done) | (simp [*]; done))); (focus (repeat (first | exact Drawn0.refl _ | apply Drawn0.step)))) | (exfalso; simp_all; done)
      · replace c11 := Bool.eq_false_iff.mpr c11
        subst c11
        have H1 : (some false) = some true := by rw [if_neg (show ¬ (false = true) by decide)] at H; first | done | exact H
        clear H
        have H := H1
        clear H1
        exact absurd H (by simp)
    · rw [if_neg c10] at H
      have c10b0 : (a1 == 0) = false := beq_eq_false_iff_ne.mpr c10
      have c10b1 : (a1 != 0) = true := bne_iff_ne.mpr c10
      by_cases c12 : a3 = 0
      · rw [if_pos c12] at H
        have c12b0 : (a3 == 0) = true := beq_iff_eq.mpr c12
        have c12b1 : (a3 != 0) = false := bne_eq_false_iff_eq.mpr c12
        clear c12
        by_cases c13 : t123 = true
        · subst c13
          have H1 : (some true) = some true := by rw [if_pos rfl] at H; first | done | exact H
          clear H
          have H := H1
          clear H1
          clear H
          go_enter Tryd.func4, Tryd.ntmps4
          go_wp2_with (first | ((with_reducible refine gate_callee (f := 8) rfl ?_); refine goesL_ (some 16) rfl rfl Tryd.func8 (by kernel_rfl) rfl #[] rfl (by (try simp only [List.map_toArray, List.map_cons, List.map_nil]); first | done | rfl | (simp only [List.length_drop, List.length_take]; rfl)) ?_; (with_reducible refine (ridgewaylaw13_awake.calls k  true _ ?side1 A6.out).mono ?_); (case side1 => first | exact HG.out | exact GOK.drawn HG.out _); rintro e w' ⟨rfl, ⟨nd, rfl⟩⟩; refine ⟨_, rfl, ?_⟩) | ((with_reducible refine gate_callee (f := 9) rfl ?_); refine goesL_ (some 21) rfl rfl Tryd.func9 (by kernel_rfl) rfl #[.int .i64 a0, .int .i64 a1, .int .i64 a2] rfl (by (try simp only [List.map_toArray, List.map_cons, List.map_nil]); first | done | rfl | (simp only [List.length_drop, List.length_take]; rfl)) ?_; (with_reducible refine (role_In.calls k a0 a1 a2 t124 true _ A7.out).mono ?_); rintro e w' ⟨rfl, ⟨nd, rfl⟩⟩; refine ⟨_, rfl, ?_⟩) | ((with_reducible refine gate_callee (f := 11) rfl ?_); refine goesL_ (some 28) rfl rfl Tryd.func11 (by kernel_rfl) rfl #[.int .i64 a4, .int .i64 a3, .int .i64 t124] rfl (by (try simp only [List.map_toArray, List.map_cons, List.map_nil]); first | done | rfl | (simp only [List.length_drop, List.length_take]; rfl)) ?_; (with_reducible refine (role_Out.calls k a4 a3 t124 t126 t127 _ A8.out).mono ?_); rintro e w' ⟨rfl, ⟨nd, rfl⟩⟩; refine ⟨_, rfl, ?_⟩))
          all_goals first | (go_ret; refine ⟨?_, ?_⟩; (focus (first | rfl | (simp; done) | (simp [*]; done))); (focus (repeat (first | exact Drawn0.refl _ | apply Drawn0.step)))) | (exfalso; simp_all; done)
        · replace c13 := Bool.eq_false_iff.mpr c13
          subst c13
          have H1 : (some false) = some true := by rw [if_neg (show ¬ (false = true) by decide)] at H; first | done | exact H
          clear H
          have H := H1
          clear H1
          exact absurd H (by simp)
      · rw [if_neg c12] at H
        have c12b0 : (a3 == 0) = false := beq_eq_false_iff_ne.mpr c12
        have c12b1 : (a3 != 0) = true := bne_iff_ne.mpr c12
        by_cases c14 : a0 = 1
        · rw [if_pos c14] at H
          have c14b0 : (a0 == 1) = true := beq_iff_eq.mpr c14
          have c14b1 : (a0 != 1) = false := bne_eq_false_iff_eq.mpr c14
          clear c14
          by_cases c15 : t123 = true
          · subst c15
            have H1 : (some true) = some true := by rw [if_pos rfl] at H; first | done | exact H
            clear H
            have H := H1
            clear H1
            clear H
            go_enter Tryd.func4, Tryd.ntmps4
            go_wp2_with (first | ((with_reducible refine gate_callee (f := 8) rfl ?_); refine goesL_ (some 16) rfl rfl Tryd.func8 (by kernel_rfl) rfl #[] rfl (by (try simp only [List.map_toArray, List.map_cons, List.map_nil]); first | done | rfl | (simp only [List.length_drop, List.length_take]; rfl)) ?_; (with_reducible refine (ridgewaylaw13_awake.calls k  true _ ?side1 A6.out).mono ?_); (case side1 => first | exact HG.out | exact GOK.drawn HG.out _); rintro e w' ⟨rfl, ⟨nd, rfl⟩⟩; refine ⟨_, rfl, ?_⟩) | ((with_reducible refine gate_callee (f := 9) rfl ?_); refine goesL_ (some 21) rfl rfl Tryd.func9 (by kernel_rfl) rfl #[.int .i64 a0, .int .i64 a1, .int .i64 a2] rfl (by (try simp only [List.map_toArray, List.map_cons, List.map_nil]); first | done | rfl | (simp only [List.length_drop, List.length_take]; rfl)) ?_; (with_reducible refine (role_In.calls k a0 a1 a2 t124 true _ A7.out).mono ?_); rintro e w' ⟨rfl, ⟨nd, rfl⟩⟩; refine ⟨_, rfl, ?_⟩) | ((with_reducible refine gate_callee (f := 11) rfl ?_); refine goesL_ (some 28) rfl rfl Tryd.func11 (by kernel_rfl) rfl #[.int .i64 a4, .int .i64 a3, .int .i64 t124] rfl (by (try simp only [List.map_toArray, List.map_cons, List.map_nil]); first | done | rfl | (simp only [List.length_drop, List.length_take]; rfl)) ?_; (with_reducible refine (role_Out.calls k a4 a3 t124 t126 t127 _ A8.out).mono ?_); rintro e w' ⟨rfl, ⟨nd, rfl⟩⟩; refine ⟨_, rfl, ?_⟩))
            all_goals first | (go_ret; refine ⟨?_, ?_⟩; (focus (first | rfl | (simp; done) | (simp [*]; done))); (focus (repeat (first | exact Drawn0.refl _ | apply Drawn0.step)))) | (exfalso; simp_all; done)
          · replace c15 := Bool.eq_false_iff.mpr c15
            subst c15
            have H1 : (some false) = some true := by rw [if_neg (show ¬ (false = true) by decide)] at H; first | done | exact H
            clear H
            have H := H1
            clear H1
            exact absurd H (by simp)
        · rw [if_neg c14] at H
          have c14b0 : (a0 == 1) = false := beq_eq_false_iff_ne.mpr c14
          have c14b1 : (a0 != 1) = true := bne_iff_ne.mpr c14
          by_cases c16 : t123 = true
          · subst c16
            have H1 : (if t124 = 0 then (some false) else (if (t127 == (a4 == 1)) = true then (if t127 = true then (some (t126 == t124)) else (some true)) else (some false))) = some true := by rw [if_pos rfl] at H; first | done | exact H
            clear H
            have H := H1
            clear H1
            by_cases c17 : t124 = 0
            · rw [if_pos c17] at H
              have c17b0 : (t124 == 0) = true := beq_iff_eq.mpr c17
              have c17b1 : (t124 != 0) = false := bne_eq_false_iff_eq.mpr c17
              clear c17
              exact absurd H (by simp)
            · rw [if_neg c17] at H
              have c17b0 : (t124 == 0) = false := beq_eq_false_iff_ne.mpr c17
              have c17b1 : (t124 != 0) = true := bne_iff_ne.mpr c17
              by_cases c18 : (t127 == (a4 == 1)) = true
              · rw [if_pos c18] at H
                have c18b0 : (t127 == (a4 == 1)) = true := c18
                (try (have c18b1 : decide (t127 = (a4 == 1)) = true := by simpa using c18))
                (try (have c18b2 : (t127 == (a4 == 1)) = true := by simpa using c18))
                clear c18
                by_cases c19 : t127 = true
                · subst c19
                  have H1 : (some (t126 == t124)) = some true := by rw [if_pos rfl] at H; first | done | exact H
                  clear H
                  have H := H1
                  clear H1
                  have HRL_ := Aside0.mk (Option.some.inj H)
                  clear H
                  go_enter Tryd.func4, Tryd.ntmps4
                  go_wp2_with (first | ((with_reducible refine gate_callee (f := 8) rfl ?_); refine goesL_ (some 16) rfl rfl Tryd.func8 (by kernel_rfl) rfl #[] rfl (by (try simp only [List.map_toArray, List.map_cons, List.map_nil]); first | done | rfl | (simp only [List.length_drop, List.length_take]; rfl)) ?_; (with_reducible refine (ridgewaylaw13_awake.calls k  true _ ?side1 A6.out).mono ?_); (case side1 => first | exact HG.out | exact GOK.drawn HG.out _); rintro e w' ⟨rfl, ⟨nd, rfl⟩⟩; refine ⟨_, rfl, ?_⟩) | ((with_reducible refine gate_callee (f := 9) rfl ?_); refine goesL_ (some 21) rfl rfl Tryd.func9 (by kernel_rfl) rfl #[.int .i64 a0, .int .i64 a1, .int .i64 a2] rfl (by (try simp only [List.map_toArray, List.map_cons, List.map_nil]); first | done | rfl | (simp only [List.length_drop, List.length_take]; rfl)) ?_; (with_reducible refine (role_In.calls k a0 a1 a2 t124 true _ A7.out).mono ?_); rintro e w' ⟨rfl, ⟨nd, rfl⟩⟩; refine ⟨_, rfl, ?_⟩) | ((with_reducible refine gate_callee (f := 11) rfl ?_); refine goesL_ (some 28) rfl rfl Tryd.func11 (by kernel_rfl) rfl #[.int .i64 a4, .int .i64 a3, .int .i64 t124] rfl (by (try simp only [List.map_toArray, List.map_cons, List.map_nil]); first | done | rfl | (simp only [List.length_drop, List.length_take]; rfl)) ?_; (with_reducible refine (role_Out.calls k a4 a3 t124 t126 true _ A8.out).mono ?_); rintro e w' ⟨rfl, ⟨nd, rfl⟩⟩; refine ⟨_, rfl, ?_⟩))
                  all_goals first | (go_ret; refine ⟨?_, ?_⟩; (focus (first | rfl | (rw [HRL_.out] <;> rfl) | (simp only [HRL_.out] <;> rfl) | (have h_ := HRL_.out; simp at h_; simp [h_]; done) | (have h_ := HRL_.out; simp [*] at h_ ⊢; done) | (simp; done) | (simp [*]; done))); (focus (repeat (first | exact Drawn0.refl _ | apply Drawn0.step)))) | (exfalso; simp_all; done)
                · replace c19 := Bool.eq_false_iff.mpr c19
                  subst c19
                  have H1 : (some true) = some true := by rw [if_neg (show ¬ (false = true) by decide)] at H; first | done | exact H
                  clear H
                  have H := H1
                  clear H1
                  clear H
                  go_enter Tryd.func4, Tryd.ntmps4
                  go_wp2_with (first | ((with_reducible refine gate_callee (f := 8) rfl ?_); refine goesL_ (some 16) rfl rfl Tryd.func8 (by kernel_rfl) rfl #[] rfl (by (try simp only [List.map_toArray, List.map_cons, List.map_nil]); first | done | rfl | (simp only [List.length_drop, List.length_take]; rfl)) ?_; (with_reducible refine (ridgewaylaw13_awake.calls k  true _ ?side1 A6.out).mono ?_); (case side1 => first | exact HG.out | exact GOK.drawn HG.out _); rintro e w' ⟨rfl, ⟨nd, rfl⟩⟩; refine ⟨_, rfl, ?_⟩) | ((with_reducible refine gate_callee (f := 9) rfl ?_); refine goesL_ (some 21) rfl rfl Tryd.func9 (by kernel_rfl) rfl #[.int .i64 a0, .int .i64 a1, .int .i64 a2] rfl (by (try simp only [List.map_toArray, List.map_cons, List.map_nil]); first | done | rfl | (simp only [List.length_drop, List.length_take]; rfl)) ?_; (with_reducible refine (role_In.calls k a0 a1 a2 t124 true _ A7.out).mono ?_); rintro e w' ⟨rfl, ⟨nd, rfl⟩⟩; refine ⟨_, rfl, ?_⟩) | ((with_reducible refine gate_callee (f := 11) rfl ?_); refine goesL_ (some 28) rfl rfl Tryd.func11 (by kernel_rfl) rfl #[.int .i64 a4, .int .i64 a3, .int .i64 t124] rfl (by (try simp only [List.map_toArray, List.map_cons, List.map_nil]); first | done | rfl | (simp only [List.length_drop, List.length_take]; rfl)) ?_; (with_reducible refine (role_Out.calls k a4 a3 t124 t126 false _ A8.out).mono ?_); rintro e w' ⟨rfl, ⟨nd, rfl⟩⟩; refine ⟨_, rfl, ?_⟩))
                  all_goals first | (go_ret; refine ⟨?_, ?_⟩; (focus (first | rfl | (simp; done) | (simp [*]; done))); (focus (repeat (first | exact Drawn0.refl _ | apply Drawn0.step)))) | (exfalso; simp_all; done)
              · rw [if_neg c18] at H
                have c18b0 : (t127 == (a4 == 1)) = false := by simpa using c18
                (try (have c18b1 : decide (t127 = (a4 == 1)) = false := by simpa using c18))
                (try (have c18b2 : (t127 == (a4 == 1)) = false := by simpa using c18))
                (try (have c18b3 : ¬ (t127 = (a4 == 1)) := by simpa using c18))
                clear c18
                exact absurd H (by simp)
          · replace c16 := Bool.eq_false_iff.mpr c16
            subst c16
            have H1 : (some false) = some true := by rw [if_neg (show ¬ (false = true) by decide)] at H; first | done | exact H
            clear H
            have H := H1
            clear H1
            exact absurd H (by simp)
  · replace c9 := Bool.eq_false_iff.mpr c9
    subst c9
    have H1 : (if t123 = true then (some (t124 == 0)) else (some false)) = some true := by rw [if_neg (show ¬ (false = true) by decide)] at H; first | done | exact H
    clear H
    have H := H1
    clear H1
    by_cases c20 : t123 = true
    · subst c20
      have H1 : (some (t124 == 0)) = some true := by rw [if_pos rfl] at H; first | done | exact H
      clear H
      have H := H1
      clear H1
      have HRL_ := Aside0.mk (Option.some.inj H)
      clear H
      go_enter Tryd.func4, Tryd.ntmps4
      go_wp2_with (first | ((with_reducible refine gate_callee (f := 8) rfl ?_); refine goesL_ (some 16) rfl rfl Tryd.func8 (by kernel_rfl) rfl #[] rfl (by (try simp only [List.map_toArray, List.map_cons, List.map_nil]); first | done | rfl | (simp only [List.length_drop, List.length_take]; rfl)) ?_; (with_reducible refine (ridgewaylaw13_awake.calls k  true _ ?side1 A6.out).mono ?_); (case side1 => first | exact HG.out | exact GOK.drawn HG.out _); rintro e w' ⟨rfl, ⟨nd, rfl⟩⟩; refine ⟨_, rfl, ?_⟩) | ((with_reducible refine gate_callee (f := 9) rfl ?_); refine goesL_ (some 21) rfl rfl Tryd.func9 (by kernel_rfl) rfl #[.int .i64 a0, .int .i64 a1, .int .i64 a2] rfl (by (try simp only [List.map_toArray, List.map_cons, List.map_nil]); first | done | rfl | (simp only [List.length_drop, List.length_take]; rfl)) ?_; (with_reducible refine (role_In.calls k a0 a1 a2 t124 false _ A7.out).mono ?_); rintro e w' ⟨rfl, ⟨nd, rfl⟩⟩; refine ⟨_, rfl, ?_⟩) | ((with_reducible refine gate_callee (f := 11) rfl ?_); refine goesL_ (some 28) rfl rfl Tryd.func11 (by kernel_rfl) rfl #[.int .i64 a4, .int .i64 a3, .int .i64 t124] rfl (by (try simp only [List.map_toArray, List.map_cons, List.map_nil]); first | done | rfl | (simp only [List.length_drop, List.length_take]; rfl)) ?_; (with_reducible refine (role_Out.calls k a4 a3 t124 t126 t127 _ A8.out).mono ?_); rintro e w' ⟨rfl, ⟨nd, rfl⟩⟩; refine ⟨_, rfl, ?_⟩))
      all_goals first | (go_ret; refine ⟨?_, ?_⟩; (focus (first | rfl | (rw [HRL_.out] <;> rfl) | (simp only [HRL_.out] <;> rfl) | (have h_ := HRL_.out; simp at h_; simp [h_]; done) | (have h_ := HRL_.out; simp [*] at h_ ⊢; done) | (simp; done) | (simp [*]; done))); (focus (repeat (first | exact Drawn0.refl _ | apply Drawn0.step)))) | (exfalso; simp_all; done)
    · replace c20 := Bool.eq_false_iff.mpr c20
      subst c20
      have H1 : (some false) = some true := by rw [if_neg (show ¬ (false = true) by decide)] at H; first | done | exact H
      clear H
      have H := H1
      clear H1
      exact absurd H (by simp)

/-- THE ONE PURE STATEMENT of ridgewaylaw13_RoleLeaks. -/
def ridgewaylaw13_RoleLeaks.Pure : Prop := ∀ (a0 : Int) (a1 : Int) (a2 : Int) (a3 : Int) (a4 : Int), ((Lit.int .i64 a0).wf = true) → ((Lit.int .i64 a1).wf = true) → ((Lit.int .i64 a2).wf = true) → ((Lit.int .i64 a3).wf = true) → ((Lit.int .i64 a4).wf = true) → ∃ k, ridgewaylaw13_RoleLeaks.f k a0 a1 a2 a3 a4 = some true

/-! ### ridgewaylaw13_RoleWays: function 5 -/
def ridgewaylaw13_RoleWays.j0 : Nat → Int → Int → Bool → Int → Bool → Option (Bool)
  | 0, _, _, _, _, _ => none
  | k + 1, x0, x1, x7, x8, x29 => if x29 = true then (some x7) else ((role_Out.f k x0 x1 0).bind fun bt129 => ((role_In.f k x8 x1 bt129.1).bind fun bt131 => (if x7 = true then ((role_Mine.f x0).bind fun t133 => ((role_Mine.f x8).bind fun t134 => ((role_Pairs.f t133 t134).bind fun t135 => (if t135 = true then (if bt129.2 = true then (if bt131.2 = true then (if ((bt131.1 != 0) == (x8 != 1)) = true then (if bt131.1 = 0 then (some true) else (some (bt131.1 == x1))) else (some false)) else (some false)) else (some false)) else (some false))))) else (some false))))
def ridgewaylaw13_RoleWays.f (k : Nat) (a0 : Int) (a1 : Int) (a2 : Int) : Option (Bool) := (ridgewaylaw13_awake.f k).bind fun t128 => (if a0 < 1 then (ridgewaylaw13_RoleWays.j0 k a0 a1 t128 (wrap64 (4 - a0)) true) else (if a0 > 3 then (ridgewaylaw13_RoleWays.j0 k a0 a1 t128 (wrap64 (4 - a0)) true) else (if a1 = 0 then (ridgewaylaw13_RoleWays.j0 k a0 a1 t128 (wrap64 (4 - a0)) true) else (ridgewaylaw13_RoleWays.j0 k a0 a1 t128 (wrap64 (4 - a0)) (a2 == 0)))))
theorem ridgewaylaw13_RoleWays.mono_l : ∀ k, (∀ y0 y1 y2 y3 y4, LeO (ridgewaylaw13_RoleWays.j0 k y0 y1 y2 y3 y4) (ridgewaylaw13_RoleWays.j0 (k + 1) y0 y1 y2 y3 y4))
  | 0 => fun _ _ _ _ _ r h => by simp [ridgewaylaw13_RoleWays.j0] at h
  | k + 1 => by
    have ih0 := ridgewaylaw13_RoleWays.mono_l k
    · intro y0 y1 y2 y3 y4
      unfold ridgewaylaw13_RoleWays.j0
      repeat' first
      | (with_reducible exact ih0 _ _ _ _ _)
      | (with_reducible exact ridgewaylaw13_awake.mono _)
      | (with_reducible exact role_In.mono _ _ _ _)
      | (with_reducible exact role_Out.mono _ _ _ _)
      | (with_reducible exact LeO.refl _)
      | (with_reducible exact LeO.none _)
      | (with_reducible refine LeO.ite ?_ ?_)
      | (with_reducible refine LeO.bind ?_ (fun _ => ?_))
      | exact ih0 _ _ _ _ _
      | exact ridgewaylaw13_awake.mono _
      | exact role_In.mono _ _ _ _
      | exact role_Out.mono _ _ _ _
      | exact LeO.none _
      | refine LeO.ite ?_ ?_
      | refine LeO.bind ?_ (fun _ => ?_)
theorem ridgewaylaw13_RoleWays.mono : ∀ a0 a1 a2 k, LeO (ridgewaylaw13_RoleWays.f k a0 a1 a2) (ridgewaylaw13_RoleWays.f (k + 1) a0 a1 a2) := by
  intro a0 a1 a2 k
  have ih0 := ridgewaylaw13_RoleWays.mono_l k
  unfold ridgewaylaw13_RoleWays.f
  repeat' first
      | (with_reducible exact ih0 _ _ _ _ _)
      | (with_reducible exact ridgewaylaw13_awake.mono _)
      | (with_reducible exact role_In.mono _ _ _ _)
      | (with_reducible exact role_Out.mono _ _ _ _)
      | (with_reducible exact LeO.refl _)
      | (with_reducible exact LeO.none _)
      | (with_reducible refine LeO.ite ?_ ?_)
      | (with_reducible refine LeO.bind ?_ (fun _ => ?_))
      | exact ih0 _ _ _ _ _
      | exact ridgewaylaw13_awake.mono _
      | exact role_In.mono _ _ _ _
      | exact role_Out.mono _ _ _ _
      | exact LeO.none _
      | refine LeO.ite ?_ ?_
      | refine LeO.bind ?_ (fun _ => ?_)
set_option maxHeartbeats 8000000 in
set_option maxRecDepth 100000 in
theorem ridgewaylaw13_RoleWays.calls (k : Nat) (a0 : Int) (a1 : Int) (a2 : Int) (w : World) (hG : GOK w) (h : ridgewaylaw13_RoleWays.f k a0 a1 a2 = some true) :
    Calls Tryd.prog 5 #[.int .i64 a0, .int .i64 a1, .int .i64 a2] w fun e w' => e = .returned (.bool true) ∧ Drawn0 w w' := by
  have HG := Aside0.mk hG
  clear hG
  have H : ((ridgewaylaw13_awake.f k).bind fun t128 => (if a0 < 1 then (ridgewaylaw13_RoleWays.j0 k a0 a1 t128 (wrap64 (4 - a0)) true) else (if a0 > 3 then (ridgewaylaw13_RoleWays.j0 k a0 a1 t128 (wrap64 (4 - a0)) true) else (if a1 = 0 then (ridgewaylaw13_RoleWays.j0 k a0 a1 t128 (wrap64 (4 - a0)) true) else (ridgewaylaw13_RoleWays.j0 k a0 a1 t128 (wrap64 (4 - a0)) (a2 == 0)))))) = some true := h
  clear h
  replace H := Option.bind_eq_some_iff.mp H
  obtain ⟨t128, A40, H⟩ := H
  replace H : (if a0 < 1 then (ridgewaylaw13_RoleWays.j0 k a0 a1 t128 (wrap64 (4 - a0)) true) else (if a0 > 3 then (ridgewaylaw13_RoleWays.j0 k a0 a1 t128 (wrap64 (4 - a0)) true) else (if a1 = 0 then (ridgewaylaw13_RoleWays.j0 k a0 a1 t128 (wrap64 (4 - a0)) true) else (ridgewaylaw13_RoleWays.j0 k a0 a1 t128 (wrap64 (4 - a0)) (a2 == 0))))) = some true := H
  have A4 := Aside0.mk A40
  clear A40
  have HC5 := Aside0.mk H
  clear H
  go_enter Tryd.func5, Tryd.ntmps5
  go_upto_region 3 with (first | ((with_reducible refine gate_callee (f := 8) rfl ?_); refine goesL_ (some 13) rfl rfl Tryd.func8 (by kernel_rfl) rfl #[] rfl (by (try simp only [List.map_toArray, List.map_cons, List.map_nil]); first | done | rfl | (simp only [List.length_drop, List.length_take]; rfl)) ?_; (with_reducible refine (ridgewaylaw13_awake.calls k  t128 _ ?side1 A4.out).mono ?_); (case side1 => first | exact HG.out | exact GOK.drawn HG.out _); rintro e w' ⟨rfl, ⟨nd, rfl⟩⟩; refine ⟨_, rfl, ?_⟩))
  (try simp only [Act.put, List.setIfInBounds_toArray, List.set_cons_zero, List.set_cons_succ])
  go_cut [29] (fun v29 wc => ∃ (kq : Nat) (x29_4 : Bool), v29 = .bool x29_4 ∧ Aside0 (ridgewaylaw13_RoleWays.j0 kq a0 a1 t128 (wrap64 (4 - a0)) x29_4 = some true) ∧ Aside0 (kq ≤ k) ∧ Drawn0 w wc)
  case first =>
    have H := HC5.out
    clear HC5
    by_cases c6 : a0 < 1
    · rw [if_pos c6] at H
      have c6b0 : decide (a0 < 1) = true := decide_eq_true c6
      clear c6
      (first | rw [c6b0] | (simp only [i64_w, i32_w]; rw [c6b0]) | skip)
      have H' := Aside0.mk H
      clear H
      go_wp2
      go_meet
      case rel => exact ⟨_, (true), (by first | rfl | (simp; done) | (simp [*]; done)), H', ⟨by first | omega | exact Nat.le_refl _⟩, by repeat (first | exact Drawn0.refl _ | apply Drawn0.step)⟩
    · rw [if_neg c6] at H
      have c6b0 : decide (a0 < 1) = false := decide_eq_false c6
      clear c6
      (first | rw [c6b0] | (simp only [i64_w, i32_w]; rw [c6b0]) | skip)
      by_cases c7 : a0 > 3
      · rw [if_pos c7] at H
        have c7b0 : decide (3 < a0) = true := decide_eq_true c7
        clear c7
        have H' := Aside0.mk H
        clear H
        go_wp2
        go_meet
        case rel => exact ⟨_, (true), (by first | rfl | (simp; done) | (simp [*]; done)), H', ⟨by first | omega | exact Nat.le_refl _⟩, by repeat (first | exact Drawn0.refl _ | apply Drawn0.step)⟩
      · rw [if_neg c7] at H
        have c7b0 : decide (3 < a0) = false := decide_eq_false c7
        clear c7
        by_cases c8 : a1 = 0
        · rw [if_pos c8] at H
          have c8b0 : (a1 == 0) = true := beq_iff_eq.mpr c8
          have c8b1 : (a1 != 0) = false := bne_eq_false_iff_eq.mpr c8
          clear c8
          have H' := Aside0.mk H
          clear H
          go_wp2
          go_meet
          case rel => exact ⟨_, (true), (by first | rfl | (simp; done) | (simp [*]; done)), H', ⟨by first | omega | exact Nat.le_refl _⟩, by repeat (first | exact Drawn0.refl _ | apply Drawn0.step)⟩
        · rw [if_neg c8] at H
          have c8b0 : (a1 == 0) = false := beq_eq_false_iff_ne.mpr c8
          have c8b1 : (a1 != 0) = true := bne_iff_ne.mpr c8
          have H' := Aside0.mk H
          clear H
          go_wp2
          go_meet
          case rel => exact ⟨_, ((a2 == 0)), (by first | rfl | (simp; done) | (simp [*]; done)), H', ⟨by first | omega | exact Nat.le_refl _⟩, by repeat (first | exact Drawn0.refl _ | apply Drawn0.step)⟩
  case rest =>
    clear HC5
    try clear p2
    try clear c5
    try clear c6
    try clear c6b0
    try clear p6
    try clear c7
    try clear c7b0
    try clear c8
    try clear c8b0
    try clear c8b1
    obtain ⟨kq, x29_4, rfl, HA, HJ4, ⟨mc4, rfl⟩⟩ := hcut
    cases kq with
    | zero => exact absurd HA.out (by simp [ridgewaylaw13_RoleWays.j0])
    | succ kj4 =>
      have H := HA.out
      clear HA
      simp only [ridgewaylaw13_RoleWays.j0] at H
      by_cases c9 : x29_4 = true
      · subst c9
        have H1 : (some t128) = some true := by rw [if_pos rfl] at H; first | done | exact H
        clear H
        have H := H1
        clear H1
        have HRL_ := Aside0.mk (Option.some.inj H)
        clear H
        go_wp2
        all_goals first | (go_ret; refine ⟨?_, ?_⟩; (focus (first | rfl | (rw [HRL_.out] <;> rfl) | (simp only [HRL_.out] <;> rfl) | (have h_ := HRL_.out; simp at h_; simp [h_]; done) | (have h_ := HRL_.out; simp [*] at h_ ⊢; done) | (simp; done) | (simp [*]; done))); (focus (repeat (first | exact Drawn0.refl _ | apply Drawn0.step)))) | (exfalso; simp_all; done)
      · replace c9 := Bool.eq_false_iff.mpr c9
        subst c9
        have H1 : ((role_Out.f kj4 a0 a1 0).bind fun bt129 => ((role_In.f kj4 (wrap64 (4 - a0)) a1 bt129.1).bind fun bt131 => (if t128 = true then ((role_Mine.f a0).bind fun t133 => ((role_Mine.f (wrap64 (4 - a0))).bind fun t134 => ((role_Pairs.f t133 t134).bind fun t135 => (if t135 = true then (if bt129.2 = true then (if bt131.2 = true then (if ((bt131.1 != 0) == ((wrap64 (4 - a0)) != 1)) = true then (if bt131.1 = 0 then (some true) else (some (bt131.1 == a1))) else (some false)) else (some false)) else (some false)) else (some false))))) else (some false)))) = some true := by rw [if_neg (show ¬ (false = true) by decide)] at H; first | done | exact H
        clear H
        have H := H1
        clear H1
        replace H := Option.bind_eq_some_iff.mp H
        obtain ⟨⟨t129, t130⟩, A100, H⟩ := H
        replace H : ((role_In.f kj4 (wrap64 (4 - a0)) a1 t129).bind fun bt131 => (if t128 = true then ((role_Mine.f a0).bind fun t133 => ((role_Mine.f (wrap64 (4 - a0))).bind fun t134 => ((role_Pairs.f t133 t134).bind fun t135 => (if t135 = true then (if t130 = true then (if bt131.2 = true then (if ((bt131.1 != 0) == ((wrap64 (4 - a0)) != 1)) = true then (if bt131.1 = 0 then (some true) else (some (bt131.1 == a1))) else (some false)) else (some false)) else (some false)) else (some false))))) else (some false))) = some true := H
        have A10 := Aside0.mk A100
        clear A100
        replace H := Option.bind_eq_some_iff.mp H
        obtain ⟨⟨t131, t132⟩, A110, H⟩ := H
        replace H : (if t128 = true then ((role_Mine.f a0).bind fun t133 => ((role_Mine.f (wrap64 (4 - a0))).bind fun t134 => ((role_Pairs.f t133 t134).bind fun t135 => (if t135 = true then (if t130 = true then (if t132 = true then (if ((t131 != 0) == ((wrap64 (4 - a0)) != 1)) = true then (if t131 = 0 then (some true) else (some (t131 == a1))) else (some false)) else (some false)) else (some false)) else (some false))))) else (some false)) = some true := H
        have A11 := Aside0.mk A110
        clear A110
        by_cases c12 : t128 = true
        · subst c12
          have H1 : ((role_Mine.f a0).bind fun t133 => ((role_Mine.f (wrap64 (4 - a0))).bind fun t134 => ((role_Pairs.f t133 t134).bind fun t135 => (if t135 = true then (if t130 = true then (if t132 = true then (if ((t131 != 0) == ((wrap64 (4 - a0)) != 1)) = true then (if t131 = 0 then (some true) else (some (t131 == a1))) else (some false)) else (some false)) else (some false)) else (some false))))) = some true := by rw [if_pos rfl] at H; first | done | exact H
          clear H
          have H := H1
          clear H1
          replace H := Option.bind_eq_some_iff.mp H
          obtain ⟨t133, A130, H⟩ := H
          replace H : ((role_Mine.f (wrap64 (4 - a0))).bind fun t134 => ((role_Pairs.f t133 t134).bind fun t135 => (if t135 = true then (if t130 = true then (if t132 = true then (if ((t131 != 0) == ((wrap64 (4 - a0)) != 1)) = true then (if t131 = 0 then (some true) else (some (t131 == a1))) else (some false)) else (some false)) else (some false)) else (some false)))) = some true := H
          have A13 := Aside0.mk A130
          clear A130
          replace H := Option.bind_eq_some_iff.mp H
          obtain ⟨t134, A140, H⟩ := H
          replace H : ((role_Pairs.f t133 t134).bind fun t135 => (if t135 = true then (if t130 = true then (if t132 = true then (if ((t131 != 0) == ((wrap64 (4 - a0)) != 1)) = true then (if t131 = 0 then (some true) else (some (t131 == a1))) else (some false)) else (some false)) else (some false)) else (some false))) = some true := H
          have A14 := Aside0.mk A140
          clear A140
          replace H := Option.bind_eq_some_iff.mp H
          obtain ⟨t135, A150, H⟩ := H
          replace H : (if t135 = true then (if t130 = true then (if t132 = true then (if ((t131 != 0) == ((wrap64 (4 - a0)) != 1)) = true then (if t131 = 0 then (some true) else (some (t131 == a1))) else (some false)) else (some false)) else (some false)) else (some false)) = some true := H
          have A15 := Aside0.mk A150
          clear A150
          by_cases c16 : t135 = true
          · subst c16
            have H1 : (if t130 = true then (if t132 = true then (if ((t131 != 0) == ((wrap64 (4 - a0)) != 1)) = true then (if t131 = 0 then (some true) else (some (t131 == a1))) else (some false)) else (some false)) else (some false)) = some true := by rw [if_pos rfl] at H; first | done | exact H
            clear H
            have H := H1
            clear H1
            by_cases c17 : t130 = true
            · subst c17
              have H1 : (if t132 = true then (if ((t131 != 0) == ((wrap64 (4 - a0)) != 1)) = true then (if t131 = 0 then (some true) else (some (t131 == a1))) else (some false)) else (some false)) = some true := by rw [if_pos rfl] at H; first | done | exact H
              clear H
              have H := H1
              clear H1
              by_cases c18 : t132 = true
              · subst c18
                have H1 : (if ((t131 != 0) == ((wrap64 (4 - a0)) != 1)) = true then (if t131 = 0 then (some true) else (some (t131 == a1))) else (some false)) = some true := by rw [if_pos rfl] at H; first | done | exact H
                clear H
                have H := H1
                clear H1
                by_cases c19 : ((t131 != 0) == ((wrap64 (4 - a0)) != 1)) = true
                · rw [if_pos c19] at H
                  have c19b0 : ((t131 != 0) == ((wrap64 (4 - a0)) != 1)) = true := c19
                  (try (have c19b1 : decide ((t131 != 0) = ((wrap64 (4 - a0)) != 1)) = true := by simpa using c19))
                  (try (have c19b2 : ((t131 != 0) == ((wrap64 (4 - a0)) != 1)) = true := by simpa using c19))
                  clear c19
                  by_cases c20 : t131 = 0
                  · rw [if_pos c20] at H
                    have c20b0 : (t131 == 0) = true := beq_iff_eq.mpr c20
                    have c20b1 : (t131 != 0) = false := bne_eq_false_iff_eq.mpr c20
                    clear c20
                    clear H
                    go_wp2_with (first | ((with_reducible refine gate_callee (f := 11) rfl ?_); refine goesL_ (some 34) rfl rfl Tryd.func11 (by kernel_rfl) rfl #[.int .i64 a0, .int .i64 a1, .int .i64 0] rfl (by (try simp only [List.map_toArray, List.map_cons, List.map_nil]); first | done | rfl | (simp only [List.length_drop, List.length_take]; rfl)) ?_; (with_reducible refine (role_Out.calls kj4 a0 a1 0 t129 true _ A10.out).mono ?_); rintro e w' ⟨rfl, ⟨nd, rfl⟩⟩; refine ⟨_, rfl, ?_⟩) | ((with_reducible refine gate_callee (f := 9) rfl ?_); refine goesL_ (some 41) rfl rfl Tryd.func9 (by kernel_rfl) rfl #[.int .i64 (wrap64 (4 - a0)), .int .i64 a1, .int .i64 t129] rfl (by (try simp only [List.map_toArray, List.map_cons, List.map_nil]); first | done | rfl | (simp only [List.length_drop, List.length_take]; rfl)) ?_; (with_reducible refine (role_In.calls kj4 (wrap64 (4 - a0)) a1 t129 t131 true _ A11.out).mono ?_); rintro e w' ⟨rfl, ⟨nd, rfl⟩⟩; refine ⟨_, rfl, ?_⟩) | (go_at_call 13; (with_reducible refine (role_Mine.calls a0 t133 _ A13.out).mono ?_); rintro e w' ⟨rfl, ⟨nd, rfl⟩⟩) | (go_at_call 13; (with_reducible refine (role_Mine.calls (wrap64 (4 - a0)) t134 _ A14.out).mono ?_); rintro e w' ⟨rfl, ⟨nd, rfl⟩⟩) | (go_at_call 15; (with_reducible refine (role_Pairs.calls t133 t134 true _ ?side1 A15.out).mono ?_); (case side1 => first | exact HG.out | exact GOK.drawn HG.out _); rintro e w' ⟨rfl, ⟨nd, rfl⟩⟩))
                    all_goals first | (go_ret; refine ⟨?_, ?_⟩; (focus (first | rfl | (simp; done) | (simp [*]; done))); (focus (repeat (first | exact Drawn0.refl _ | apply Drawn0.step)))) | (exfalso; simp_all; done)
                  · rw [if_neg c20] at H
                    have c20b0 : (t131 == 0) = false := beq_eq_false_iff_ne.mpr c20
                    have c20b1 : (t131 != 0) = true := bne_iff_ne.mpr c20
                    have HRL_ := Aside0.mk (Option.some.inj H)
                    clear H
                    go_wp2_with (first | ((with_reducible refine gate_callee (f := 11) rfl ?_); refine goesL_ (some 34) rfl rfl Tryd.func11 (by kernel_rfl) rfl #[.int .i64 a0, .int .i64 a1, .int .i64 0] rfl (by (try simp only [List.map_toArray, List.map_cons, List.map_nil]); first | done | rfl | (simp only [List.length_drop, List.length_take]; rfl)) ?_; (with_reducible refine (role_Out.calls kj4 a0 a1 0 t129 true _ A10.out).mono ?_); rintro e w' ⟨rfl, ⟨nd, rfl⟩⟩; refine ⟨_, rfl, ?_⟩) | ((with_reducible refine gate_callee (f := 9) rfl ?_); refine goesL_ (some 41) rfl rfl Tryd.func9 (by kernel_rfl) rfl #[.int .i64 (wrap64 (4 - a0)), .int .i64 a1, .int .i64 t129] rfl (by (try simp only [List.map_toArray, List.map_cons, List.map_nil]); first | done | rfl | (simp only [List.length_drop, List.length_take]; rfl)) ?_; (with_reducible refine (role_In.calls kj4 (wrap64 (4 - a0)) a1 t129 t131 true _ A11.out).mono ?_); rintro e w' ⟨rfl, ⟨nd, rfl⟩⟩; refine ⟨_, rfl, ?_⟩) | (go_at_call 13; (with_reducible refine (role_Mine.calls a0 t133 _ A13.out).mono ?_); rintro e w' ⟨rfl, ⟨nd, rfl⟩⟩) | (go_at_call 13; (with_reducible refine (role_Mine.calls (wrap64 (4 - a0)) t134 _ A14.out).mono ?_); rintro e w' ⟨rfl, ⟨nd, rfl⟩⟩) | (go_at_call 15; (with_reducible refine (role_Pairs.calls t133 t134 true _ ?side1 A15.out).mono ?_); (case side1 => first | exact HG.out | exact GOK.drawn HG.out _); rintro e w' ⟨rfl, ⟨nd, rfl⟩⟩))
                    all_goals first | (go_ret; refine ⟨?_, ?_⟩; (focus (first | rfl | (rw [HRL_.out] <;> rfl) | (simp only [HRL_.out] <;> rfl) | (have h_ := HRL_.out; simp at h_; simp [h_]; done) | (have h_ := HRL_.out; simp [*] at h_ ⊢; done) | (simp; done) | (simp [*]; done))); (focus (repeat (first | exact Drawn0.refl _ | apply Drawn0.step)))) | (exfalso; simp_all; done)
                · rw [if_neg c19] at H
                  have c19b0 : ((t131 != 0) == ((wrap64 (4 - a0)) != 1)) = false := by simpa using c19
                  (try (have c19b1 : decide ((t131 != 0) = ((wrap64 (4 - a0)) != 1)) = false := by simpa using c19))
                  (try (have c19b2 : ((t131 != 0) == ((wrap64 (4 - a0)) != 1)) = false := by simpa using c19))
                  (try (have c19b3 : ¬ ((t131 != 0) = ((wrap64 (4 - a0)) != 1)) := by simpa using c19))
                  clear c19
                  exact absurd H (by simp)
              · replace c18 := Bool.eq_false_iff.mpr c18
                subst c18
                have H1 : (some false) = some true := by rw [if_neg (show ¬ (false = true) by decide)] at H; first | done | exact H
                clear H
                have H := H1
                clear H1
                exact absurd H (by simp)
            · replace c17 := Bool.eq_false_iff.mpr c17
              subst c17
              have H1 : (some false) = some true := by rw [if_neg (show ¬ (false = true) by decide)] at H; first | done | exact H
              clear H
              have H := H1
              clear H1
              exact absurd H (by simp)
          · replace c16 := Bool.eq_false_iff.mpr c16
            subst c16
            have H1 : (some false) = some true := by rw [if_neg (show ¬ (false = true) by decide)] at H; first | done | exact H
            clear H
            have H := H1
            clear H1
            exact absurd H (by simp)
        · replace c12 := Bool.eq_false_iff.mpr c12
          subst c12
          have H1 : (some false) = some true := by rw [if_neg (show ¬ (false = true) by decide)] at H; first | done | exact H
          clear H
          have H := H1
          clear H1
          exact absurd H (by simp)

/-- THE ONE PURE STATEMENT of ridgewaylaw13_RoleWays. -/
def ridgewaylaw13_RoleWays.Pure : Prop := ∀ (a0 : Int) (a1 : Int) (a2 : Int), ((Lit.int .i64 a0).wf = true) → ((Lit.int .i64 a1).wf = true) → ((Lit.int .i64 a2).wf = true) → ∃ k, ridgewaylaw13_RoleWays.f k a0 a1 a2 = some true

end Go.Proofs.YtjifgkimcepakaaDoor.Q
