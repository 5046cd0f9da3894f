/- Each call of a Go function comes to what the Lean function of its name answers (written out by wip/tools/xprint.py, checked by Lean); conditions: those in each statement. -/
import Derived.Test.YtfmhclbcoladpaaNx0
import Derived.Test.YtfmhclbcoladpaaNx1
import Derived.Test.YtfmhclbcoladpaaNx2
import Derived.Test.YtfmhclbcoladpaaNx7
import Derived.Test.YtfmhclbcoladpaaNx8
namespace Go.Proofs.Ytfmhclbcoladpaa.N
open Go.RowKit Go.Proofs.YtfmhclbcoladpaaW.PrintWords Go.Proofs.YtfmhclbcoladpaaW.PrintLast Go.Proofs.YtfmhclbcoladpaaW.PrintMore Go.Proofs.YtfmhclbcoladpaaW.PrintX
attribute [local go_sem] max2_int min2_int max_two min_two max_three min_three max_four min_four   -- for this text's walks alone
set_option linter.unusedVariables false
set_option linter.unusedSimpArgs false

/-! ### ridgewaylaw07_AttrBack: function 5 -/
mutual
def ridgewaylaw07_AttrBack.l0 : Nat → List (S24) → Bool → List Int → List (S24) → Int → Option (Bool)
 | 0, _, _, _, _, _ => none
 | k + 1, x0, x3, x4, x5, x6 => if x6 < (x0.length : Int) then (if 0 ≤ x6 then ((attr_Put.f k x4 ((rd_T24 x0 x6).f0) ((rd_T24 x0 x6).f1) ((rd_T24 x0 x6).f2)).bind fun t243 => (if ((rd_T24 x0 x6).f0) < 0 then (ridgewaylaw07_AttrBack.j1 k x0 x3 x4 x5 x6 t243 true ((rd_T24 x0 x6).f0) ((rd_T24 x0 x6).f1) ((rd_T24 x0 x6).f2)) else (if ((rd_T24 x0 x6).f0) > 255 then (ridgewaylaw07_AttrBack.j1 k x0 x3 x4 x5 x6 t243 true ((rd_T24 x0 x6).f0) ((rd_T24 x0 x6).f1) ((rd_T24 x0 x6).f2)) else (if ((rd_T24 x0 x6).f1) < 0 then (ridgewaylaw07_AttrBack.j1 k x0 x3 x4 x5 x6 t243 true ((rd_T24 x0 x6).f0) ((rd_T24 x0 x6).f1) ((rd_T24 x0 x6).f2)) else (ridgewaylaw07_AttrBack.j1 k x0 x3 x4 x5 x6 t243 (decide (((rd_T24 x0 x6).f1) > 255)) ((rd_T24 x0 x6).f0) ((rd_T24 x0 x6).f1) ((rd_T24 x0 x6).f2)))))) else (none)) else ((attr_All.f k x4).bind fun bt237 => (if x3 = true then (if bt237.2 = true then ((ridgewayref07_Same.f k bt237.1 x5).bind fun t241 => (some t241)) else (some false)) else (some false)))
def ridgewaylaw07_AttrBack.j1 : Nat → List (S24) → Bool → List Int → List (S24) → Int → List Int → Bool → Int → Int → List Int → Option (Bool)
 | 0, _, _, _, _, _, _, _, _, _, _ => none
 | k + 1, x0, x3, x4, x5, x6, x7, x49, x248000, x248001, x248002 => if x49 = true then (if (strOfNums x7).toList = (strOfNums x4).toList then (ridgewaylaw07_AttrBack.l0 k x0 x3 x4 x5 (wrap64 (x6 + 1))) else (some false)) else (if (x248002.length : Int) > 255 then (if x5.length < 3518437208883 then (ridgewaylaw07_AttrBack.l0 k x0 x3 x7 (x5 ++ [(⟨Go.bits .or .i64 (Go.bits .and .i64 x248000 239) 16, x248001, x248002⟩ : S24)]) (wrap64 (x6 + 1))) else (none)) else (if x5.length < 3518437208883 then (ridgewaylaw07_AttrBack.l0 k x0 x3 x7 (x5 ++ [(⟨Go.bits .and .i64 x248000 239, x248001, x248002⟩ : S24)]) (wrap64 (x6 + 1))) else (none)))
end
def ridgewaylaw07_AttrBack.f (k : Nat) (l0 : List (S24)) : Option (Bool) := (ridgewaylaw07_awake.f).bind fun t235 => ((ridgewayref07_Few.f k l0).bind fun t236 => (if t236 = true then (ridgewaylaw07_AttrBack.l0 k l0 t235 ([] : List Int) ([] : List (S24)) 0) else (some t235)))
theorem ridgewaylaw07_AttrBack.mono_l : ∀ k, (∀ y0 y1 y2 y3 y4, LeO (ridgewaylaw07_AttrBack.l0 k y0 y1 y2 y3 y4) (ridgewaylaw07_AttrBack.l0 (k + 1) y0 y1 y2 y3 y4)) ∧ (∀ y0 y1 y2 y3 y4 y5 y6 y7 y8 y9, LeO (ridgewaylaw07_AttrBack.j1 k y0 y1 y2 y3 y4 y5 y6 y7 y8 y9) (ridgewaylaw07_AttrBack.j1 (k + 1) y0 y1 y2 y3 y4 y5 y6 y7 y8 y9))
 | 0 => ⟨fun _ _ _ _ _ r h => by simp [ridgewaylaw07_AttrBack.l0] at h, fun _ _ _ _ _ _ _ _ _ _ r h => by simp [ridgewaylaw07_AttrBack.j1] at h⟩
 | k + 1 => by
  obtain ⟨ih0, ih1⟩ := ridgewaylaw07_AttrBack.mono_l k
  refine ⟨?_, ?_⟩
  ·
   intro y0 y1 y2 y3 y4
   unfold ridgewaylaw07_AttrBack.l0
   repeat' first
   | (with_reducible exact ih0 _ _ _ _ _)
   | (with_reducible exact ih1 _ _ _ _ _ _ _ _ _ _)
   | (with_reducible exact attr_All.mono _ _)
   | (with_reducible exact attr_Put.mono _ _ _ _ _)
   | (with_reducible exact ridgewayref07_Few.mono _ _)
   | (with_reducible exact ridgewayref07_Same.mono _ _ _)
   | (with_reducible exact LeO.refl _)
   | (with_reducible exact LeO.none _)
   | (with_reducible refine LeO.ite ?_ ?_)
   | (with_reducible refine LeO.bind ?_ (fun _ => ?_))
   | exact ih0 _ _ _ _ _
   | exact ih1 _ _ _ _ _ _ _ _ _ _
   | exact attr_All.mono _ _
   | exact attr_Put.mono _ _ _ _ _
   | exact ridgewayref07_Few.mono _ _
   | exact ridgewayref07_Same.mono _ _ _
   | exact LeO.none _
   | refine LeO.ite ?_ ?_
   | refine LeO.bind ?_ (fun _ => ?_)
  ·
   intro y0 y1 y2 y3 y4 y5 y6 y7 y8 y9
   unfold ridgewaylaw07_AttrBack.j1
   repeat' first
   | (with_reducible exact ih0 _ _ _ _ _)
   | (with_reducible exact ih1 _ _ _ _ _ _ _ _ _ _)
   | (with_reducible exact attr_All.mono _ _)
   | (with_reducible exact attr_Put.mono _ _ _ _ _)
   | (with_reducible exact ridgewayref07_Few.mono _ _)
   | (with_reducible exact ridgewayref07_Same.mono _ _ _)
   | (with_reducible exact LeO.refl _)
   | (with_reducible exact LeO.none _)
   | (with_reducible refine LeO.ite ?_ ?_)
   | (with_reducible refine LeO.bind ?_ (fun _ => ?_))
   | exact ih0 _ _ _ _ _
   | exact ih1 _ _ _ _ _ _ _ _ _ _
   | exact attr_All.mono _ _
   | exact attr_Put.mono _ _ _ _ _
   | exact ridgewayref07_Few.mono _ _
   | exact ridgewayref07_Same.mono _ _ _
   | exact LeO.none _
   | refine LeO.ite ?_ ?_
   | refine LeO.bind ?_ (fun _ => ?_)
theorem ridgewaylaw07_AttrBack.mono : ∀ a0 k, LeO (ridgewaylaw07_AttrBack.f k a0) (ridgewaylaw07_AttrBack.f (k + 1) a0) := by
 intro a0 k
 obtain ⟨ih0, ih1⟩ := ridgewaylaw07_AttrBack.mono_l k
 unfold ridgewaylaw07_AttrBack.f
 repeat' first
   | (with_reducible exact ih0 _ _ _ _ _)
   | (with_reducible exact ih1 _ _ _ _ _ _ _ _ _ _)
   | (with_reducible exact attr_All.mono _ _)
   | (with_reducible exact attr_Put.mono _ _ _ _ _)
   | (with_reducible exact ridgewayref07_Few.mono _ _)
   | (with_reducible exact ridgewayref07_Same.mono _ _ _)
   | (with_reducible exact LeO.refl _)
   | (with_reducible exact LeO.none _)
   | (with_reducible refine LeO.ite ?_ ?_)
   | (with_reducible refine LeO.bind ?_ (fun _ => ?_))
   | exact ih0 _ _ _ _ _
   | exact ih1 _ _ _ _ _ _ _ _ _ _
   | exact attr_All.mono _ _
   | exact attr_Put.mono _ _ _ _ _
   | exact ridgewayref07_Few.mono _ _
   | exact ridgewayref07_Same.mono _ _ _
   | exact LeO.none _
   | refine LeO.ite ?_ ?_
   | refine LeO.bind ?_ (fun _ => ?_)
set_option maxHeartbeats 8000000 in
set_option maxRecDepth 100000 in
theorem ridgewaylaw07_AttrBack.calls (k : Nat) (P0_ : Nat → Prop) (A0 : Option Addr) (c0 : Nat) (l0 : List (S24)) (w : World) (hs0 : Kd.V k24 24 w w.heap.size (fun k_ => P0_ k_) (.slice A0 l0.length c0) l0) (h : ridgewaylaw07_AttrBack.f k l0 = some true) :
  Calls Try.prog 5 #[.slice A0 l0.length c0] w fun e w' => e = .returned (.bool true) ∧ Below w.heap.size w w' := by
 have hu24 := Try.underlying24
 have HO0 := Aside0.mk (show Kd.V k24 24 w w.heap.size (fun k_ => (P0_ k_ ∨ w.heap.size ≤ k_)) (.slice A0 l0.length c0) l0 from Kd.V_mono hs0 (fun k_ hk => .inl hk))
 have HB := Aside0.mk (Below.refl w.heap.size w)
 have H : ((ridgewaylaw07_awake.f).bind fun t235 => ((ridgewayref07_Few.f k l0).bind fun t236 => (if t236 = true then (ridgewaylaw07_AttrBack.l0 k l0 t235 ([] : List Int) ([] : List (S24)) 0) else (some t235)))) = some true := h
 clear h
 replace H := Option.bind_eq_some_iff.mp H
 obtain ⟨t235, A20, H⟩ := H
 replace H : ((ridgewayref07_Few.f k l0).bind fun t236 => (if t236 = true then (ridgewaylaw07_AttrBack.l0 k l0 t235 ([] : List Int) ([] : List (S24)) 0) else (some t235))) = some true := H
 have A2 := Aside0.mk A20
 clear A20
 replace H := Option.bind_eq_some_iff.mp H
 obtain ⟨t236, A30, H⟩ := H
 replace H : (if t236 = true then (ridgewaylaw07_AttrBack.l0 k l0 t235 ([] : List Int) ([] : List (S24)) 0) else (some t235)) = some true := H
 have A3 := Aside0.mk A30
 clear A30
 by_cases c4 : t236 = true
 ·
  subst c4
  have H1 : (ridgewaylaw07_AttrBack.l0 k l0 t235 ([] : List Int) ([] : List (S24)) 0) = some true := by rw [if_pos rfl] at H; first | done | exact H
  clear H
  have H := H1
  clear H1
  have H' := Aside0.mk H
  clear H
  go_enter Try.func5, Try.ntmps5
  go_wp2_with (first | ((with_reducible refine gate_callee (f := 10) rfl ?_); refine goesL_ (some 11) rfl rfl Try.func10 (by kernel_rfl) rfl #[] rfl (by (try simp only [List.map_toArray, List.map_cons, List.map_nil]); first | done | rfl | (simp only [List.length_drop, List.length_take]; rfl)) ?_; (with_reducible refine (ridgewaylaw07_awake.calls  t235 _ A2.out).mono ?_); rintro e w5 ⟨rfl, hb⟩; refine ⟨_, rfl, ?_⟩; have n0_ := Aside0.mk (Kd.V_below (by (with_reducible repeat (first | apply Kd.V_alloc | apply Kd.V_drewN | apply Kd.V_drew)); exact HO0.out) hb); have n1_ := Aside0.mk (below_step (by repeat (first | (with_reducible first | exact HB.out | apply bA | apply bN | apply bD) | exact HB.out)) hb); clear HO0; clear HB; have HO0 := n0_; have HB := n1_; clear n0_ n1_; (try clear hb); (try clear hb2); (try clear hk); (try clear hi)) | ((with_reducible refine gate_callee (f := 22) rfl ?_); refine goesL_ (some 13) rfl rfl Try.func22 (by kernel_rfl) rfl #[.slice A0 l0.length c0] rfl (by (try simp only [List.map_toArray, List.map_cons, List.map_nil]); first | done | rfl | (simp only [List.length_drop, List.length_take]; rfl)) ?_; (with_reducible refine (ridgewayref07_Few.calls k _ _ l0 true _ ?side1 ?side2 A3.out).mono ?_); (case side1 => repeat (first | exact (Kd.V_reads' HO0.out).2.2 | (with_reducible refine Kd.C_alloc ?_ _) | (with_reducible refine Kd.C_drewN ?_ _) | (with_reducible refine Kd.C_drew ?_))); (case side2 => exact (Kd.V_reads' HO0.out).2.1); rintro e w' ⟨rfl, ⟨nd, rfl⟩⟩; refine ⟨_, rfl, ?_⟩))
  go_loopg [4, 5, 6] k (fun kq v4 v5 v6 w' => ∃ (x4_1 : List Int) (x5_1 : List (S24)) (x6_1 : Int), v6 = .int .i64 x6_1 ∧ Aside0 (ridgewaylaw07_AttrBack.l0 kq l0 t235 x4_1 x5_1 x6_1 = some true) ∧ Aside0 (kq ≤ k) ∧ Aside0 (Kd.V k24 24 w' w.heap.size (fun k_ => (P0_ k_ ∨ w.heap.size ≤ k_) ∧ some k_ ≠ (v4 : Value).ownBlock ∧ some k_ ≠ (v5 : Value).ownBlock) (.slice A0 l0.length c0) l0) ∧ Aside0 (Kd.R (Kd.int .u8) 5 w' w.heap.size (fun k_ => (w.heap.size ≤ k_)) v4 x4_1) ∧ Aside0 (Kd.N k24 24 w' w.heap.size (fun k_ => (P0_ k_ ∨ w.heap.size ≤ k_) ∧ some k_ ≠ (v4 : Value).ownBlock) v5 x5_1) ∧ Aside0 (Below w.heap.size w w'))
  case atStart => exact ⟨(([] : List Int)), (([] : List (S24))), (0), (by first | rfl | (simp; done) | (simp [*]; done)), H', ⟨Nat.le_refl _⟩, ⟨by (with_reducible repeat (first | apply Kd.V_alloc | apply Kd.V_drewN | apply Kd.V_drew)); exact Kd.V_mono HO0.out (fun _ hk => ⟨hk, ⟨(by simp [Value.ownBlock]), (by simp [Value.ownBlock])⟩⟩)⟩, ⟨by first | exact Kd.R_nil _ _ _ _ _ | exact Kd.N_nil _ _ _ _ _ | exact Kd.V_nil _ _ _ _ _ | exact Kd.Q_nil _ _ _ _ _ | exact Kd.S_nil _ _ _ _ _⟩, ⟨by first | exact Kd.S_nil _ _ _ _ _ | exact Kd.N_nil _ _ _ _ _ | exact Kd.V_nil _ _ _ _ _ | exact Kd.Q_nil _ _ _ _ _ | exact Kd.R_nil _ _ _ _ _⟩, ⟨by repeat (first | (with_reducible first | exact HB.out | apply bA | apply bN | apply bD) | exact HB.out)⟩⟩
  case round =>
   clear H'
   try clear c1
   try clear c2
   try clear p2
   try clear c4
   try clear c5
   obtain ⟨x4_1, x5_1, x6_1, rfl, HA, HK1, HO_0, HO_4, HO_5, HB⟩ := hrel
   cases gk with
   | zero => exact absurd HA.out (by simp [ridgewaylaw07_AttrBack.l0])
   | succ k1 =>
    have H := HA.out
    clear HA
    simp only [ridgewaylaw07_AttrBack.l0] at H
    by_cases c6 : x6_1 < (l0.length : Int)
    ·
     rw [if_pos c6] at H
     have c6b0 : decide (x6_1 < (l0.length : Int)) = true := decide_eq_true c6
     clear c6
     by_cases c7 : 0 ≤ x6_1
     ·
      rw [if_pos c7] at H
      have c7b0 : decide (0 ≤ x6_1) = true := decide_eq_true c7
      clear c7
      replace H := Option.bind_eq_some_iff.mp H
      obtain ⟨t243, A80, H⟩ := H
      replace H : (if ((rd_T24 l0 x6_1).f0) < 0 then (ridgewaylaw07_AttrBack.j1 k1 l0 t235 x4_1 x5_1 x6_1 t243 true ((rd_T24 l0 x6_1).f0) ((rd_T24 l0 x6_1).f1) ((rd_T24 l0 x6_1).f2)) else (if ((rd_T24 l0 x6_1).f0) > 255 then (ridgewaylaw07_AttrBack.j1 k1 l0 t235 x4_1 x5_1 x6_1 t243 true ((rd_T24 l0 x6_1).f0) ((rd_T24 l0 x6_1).f1) ((rd_T24 l0 x6_1).f2)) else (if ((rd_T24 l0 x6_1).f1) < 0 then (ridgewaylaw07_AttrBack.j1 k1 l0 t235 x4_1 x5_1 x6_1 t243 true ((rd_T24 l0 x6_1).f0) ((rd_T24 l0 x6_1).f1) ((rd_T24 l0 x6_1).f2)) else (ridgewaylaw07_AttrBack.j1 k1 l0 t235 x4_1 x5_1 x6_1 t243 (decide (((rd_T24 l0 x6_1).f1) > 255)) ((rd_T24 l0 x6_1).f0) ((rd_T24 l0 x6_1).f1) ((rd_T24 l0 x6_1).f2))))) = some true := H
      have A8 := Aside0.mk A80
      clear A80
      have HC9 := Aside0.mk H
      clear H
      have p242 : 0 ≤ (x6_1 : Int) := of_decide_eq_true (by first | (with_reducible assumption) | assumption)
      have q242 : x6_1 < (l0.length : Int) := of_decide_eq_true (by first | (with_reducible assumption) | assumption)
      obtain ⟨ad242, A242_2, c242_2, e242, hx242_0, hx242_1, hx242_2, hl242_2, hi242_2⟩ := at_T24 (Kd.V_reads' HO_0.out).2.2 x6_1 p242 q242
      cases e242
      obtain ⟨ce242, hce242, hMe242, hcc242⟩ := Kd.V_get HO_0.out z24 x6_1 p242 (by first | exact q242 | exact of_decide_eq_true (by first | (with_reducible assumption) | assumption) | (have e_ := (Kd.V_reads' HO_0.out).1; omega))
      obtain ⟨ua242_2, uc242_2, rfl, ul242_2, ge242_2⟩ := k24_openF hMe242
      have hv242_2 := hcc242 2 _ rfl
      rw [add_field _ _ 2 (by omega)] at hv242_2
      replace hv242_2 := Option.some.inj (hv242_2.symm.trans hx242_2)
      injection hv242_2 with hva_ hvn_ hvc_
      rw [hva_] at ge242_2
      rw [hvc_] at ul242_2
      have HL242_2 := Aside0.mk (show Kd.V (Kd.int .u8) 5 _ w.heap.size _ _ ((rd_T24 l0 x6_1).f2) from Kd.V_mk ul242_2 ge242_2)
      clear hva_ hvn_ hvc_ ge242_2 ul242_2
      clear hcc242 hce242
      have HR242_2 := Aside0.mk hi242_2
      have HC242_2 := Aside0.mk hl242_2
      clear hi242_2 hl242_2
      replace p242 := eq_true p242
      replace q242 := eq_true q242
      obtain ⟨Ao10, co10, eo10⟩ := Kd.R_slice HO_4.out
      subst eo10
      go_upto_region 11 with (first | ((with_reducible refine gate_callee (f := 16) rfl ?_); refine goesL_ (some 27) rfl rfl Try.func16 (by kernel_rfl) rfl #[.slice Ao10 x4_1.length co10, .agg #[.int .i64 ((rd_T24 l0 x6_1).f0), .int .i64 ((rd_T24 l0 x6_1).f1), .slice A242_2 ((rd_T24 l0 x6_1).f2).length c242_2]] rfl (by (try simp only [List.map_toArray, List.map_cons, List.map_nil]); first | done | rfl | (simp only [List.length_drop, List.length_take]; rfl)) ?_; (with_reducible refine (attr_Put.calls k1 _ _ x4_1 ((rd_T24 l0 x6_1).f0) ((rd_T24 l0 x6_1).f1) _ _ ((rd_T24 l0 x6_1).f2) t243 _ ?side1 ?side2 ?side3 ?side4 A8.out).mono ?_); (case side1 => repeat (first | exact (Kd.R_reads' HO_4.out).2.2 | (with_reducible refine Kd.C_alloc ?_ _) | (with_reducible refine Kd.C_drewN ?_ _) | (with_reducible refine Kd.C_drew ?_))); (case side2 => exact (Kd.R_reads' HO_4.out).2.1); (case side3 => repeat (first | exact (by repeat (first | (with_reducible exact HR242_2.out) | (with_reducible refine Kd.C_alloc ?_ _) | (with_reducible refine Kd.C_drewN ?_ _) | (with_reducible refine Kd.C_drew ?_) | exact HR242_2.out)) | (with_reducible refine Kd.C_alloc ?_ _) | (with_reducible refine Kd.C_drewN ?_ _) | (with_reducible refine Kd.C_drew ?_))); (case side4 => exact HC242_2.out); rintro e w11 ⟨v244, rfl, ho0, hb⟩; refine ⟨_, rfl, ?_⟩; have n0_ := Aside0.mk (Kd.V_elder' (by (with_reducible repeat (first | apply Kd.V_alloc | apply Kd.V_drewN | apply Kd.V_drew)); exact HO_0.out) (Kd.R_base ho0) hb); have n1_ := Aside0.mk (Kd.R_elder' (by (with_reducible repeat (first | apply Kd.R_alloc | apply Kd.R_drewN | apply Kd.R_drew)); exact HO_4.out) (Kd.R_base ho0) hb); have n2_ := Aside0.mk (Kd.N_elder' (by (with_reducible repeat (first | apply Kd.N_alloc | apply Kd.N_drewN | apply Kd.N_drew)); exact HO_5.out) (Kd.R_base ho0) hb); have n3_ := Aside0.mk (Kd.V_elder' (by (with_reducible repeat (first | apply Kd.V_alloc | apply Kd.V_drewN | apply Kd.V_drew)); exact HL242_2.out) (Kd.R_base ho0) hb); have n4_ := Aside0.mk (Kd.R_lower (Kd.R_new' (Kd.R_newM (M := fun k_ => (w.heap.size ≤ k_)) ho0 (below_size (by repeat (first | (with_reducible first | exact HB.out | apply bA | apply bN | apply bD) | exact HB.out))) (fun k_ h_ => h_)) (Kd.R_lt (by (with_reducible repeat (first | apply Kd.R_alloc | apply Kd.R_drewN | apply Kd.R_drew)); exact HO_4.out))) (below_size (by repeat (first | (with_reducible first | exact HB.out | apply bA | apply bN | apply bD) | exact HB.out)))); have n5_ := Aside0.mk (Kd.C_below (by repeat (first | (with_reducible exact HR242_2.out) | (with_reducible refine Kd.C_alloc ?_ _) | (with_reducible refine Kd.C_drewN ?_ _) | (with_reducible refine Kd.C_drew ?_) | exact HR242_2.out)) hb); have n6_ := Aside0.mk (below_step (by repeat (first | (with_reducible first | exact HB.out | apply bA | apply bN | apply bD) | exact HB.out)) hb); clear HO_0; clear HO_4; clear HO_5; clear HL242_2; clear HR242_2; clear HB; have HO_0 := n0_; have HO_4 := n1_; have HO_5 := n2_; have HL242_2 := n3_; have HO245 := n4_; have HR242_2 := n5_; have HB := n6_; clear n0_ n1_ n2_ n3_ n4_ n5_ n6_; (try clear hb); (try clear hb2); (try clear hk); (try clear hi); (try clear ho0); have p246 : 0 ≤ (x6_1 : Int) := of_decide_eq_true (by first | (with_reducible assumption) | assumption); have q246 : x6_1 < (l0.length : Int) := of_decide_eq_true (by first | (with_reducible assumption) | assumption); obtain ⟨ad246, A246_2, c246_2, e246, hx246_0, hx246_1, hx246_2, hl246_2, hi246_2⟩ := at_T24 (Kd.V_reads' HO_0.out).2.2 x6_1 p246 q246; obtain rfl : ad242 = ad246 := (by injection e246); obtain ⟨ce246, hce246, hMe246, hcc246⟩ := Kd.V_get HO_0.out z24 x6_1 p246 (by first | exact q246 | exact of_decide_eq_true (by first | (with_reducible assumption) | assumption) | (have e_ := (Kd.V_reads' HO_0.out).1; omega)); obtain ⟨ua246_2, uc246_2, rfl, ul246_2, ge246_2⟩ := k24_openF hMe246; have hv246_2 := hcc246 2 _ rfl; rw [add_field _ _ 2 (by omega)] at hv246_2; replace hv246_2 := Option.some.inj (hv246_2.symm.trans hx246_2); injection hv246_2 with hva_ hvn_ hvc_; rw [hva_] at ge246_2; rw [hvc_] at ul246_2; have HL246_2 := Aside0.mk (show Kd.V (Kd.int .u8) 5 _ w.heap.size _ _ ((rd_T24 l0 x6_1).f2) from Kd.V_mk ul246_2 ge246_2); clear hva_ hvn_ hvc_ ge246_2 ul246_2; clear hcc246 hce246; have HR246_2 := Aside0.mk hi246_2; have HC246_2 := Aside0.mk hl246_2; clear hi246_2 hl246_2; replace p246 := eq_true p246; replace q246 := eq_true q246) | ((with_reducible refine gate_dst (N := 8) rfl ?_); refine box_event ?hg (N := 8) ?hd (cs := #[.int .i64 0, .int .i64 0, .slice none 0 0]) (t := 24) ?hr ?_; (case hd => rfl); (case hg => rfl); (case hr => first | (go_simp; done) | (go_simp; rfl)); intro gb247 hg w12 hbox hb; have n0_ := Aside0.mk (Kd.V_below (Kd.V_elderB (by (with_reducible repeat (first | apply Kd.V_alloc | apply Kd.V_drewN | apply Kd.V_drew)); exact HO_0.out) gb247 (Nat.le_of_eq hg.symm)) hb); have n1_ := Aside0.mk (Kd.R_below (by (with_reducible repeat (first | apply Kd.R_alloc | apply Kd.R_drewN | apply Kd.R_drew)); exact HO_4.out) hb); have n2_ := Aside0.mk (Kd.N_below (Kd.N_elderB (by (with_reducible repeat (first | apply Kd.N_alloc | apply Kd.N_drewN | apply Kd.N_drew)); exact HO_5.out) gb247 (Nat.le_of_eq hg.symm)) hb); have n3_ := Aside0.mk (Kd.V_below (Kd.V_elderB (by (with_reducible repeat (first | apply Kd.V_alloc | apply Kd.V_drewN | apply Kd.V_drew)); exact HL242_2.out) gb247 (Nat.le_of_eq hg.symm)) hb); have n4_ := Aside0.mk (Kd.R_below (by (with_reducible repeat (first | apply Kd.R_alloc | apply Kd.R_drewN | apply Kd.R_drew)); exact HO245.out) hb); have n5_ := Aside0.mk (Kd.V_below (Kd.V_elderB (by (with_reducible repeat (first | apply Kd.V_alloc | apply Kd.V_drewN | apply Kd.V_drew)); exact HL246_2.out) gb247 (Nat.le_of_eq hg.symm)) hb); have n6_ := Aside0.mk (Kd.C_below (by repeat (first | (with_reducible exact HR242_2.out) | (with_reducible refine Kd.C_alloc ?_ _) | (with_reducible refine Kd.C_drewN ?_ _) | (with_reducible refine Kd.C_drew ?_) | exact HR242_2.out)) hb); have n7_ := Aside0.mk (Kd.C_below (by repeat (first | (with_reducible exact HR246_2.out) | (with_reducible refine Kd.C_alloc ?_ _) | (with_reducible refine Kd.C_drewN ?_ _) | (with_reducible refine Kd.C_drew ?_) | exact HR246_2.out)) hb); have n8_ := Aside0.mk (below_step (by repeat (first | (with_reducible first | exact HB.out | apply bA | apply bN | apply bD) | exact HB.out)) hb); have n9_ := Aside0.mk (hbox); have n10_ := Aside0.mk ((by rw [hg]; exact (below_size (by repeat (first | (with_reducible first | exact HB.out | apply bA | apply bN | apply bD) | exact HB.out))) : w.heap.size ≤ gb247)); have n11_ := Aside0.mk ((by rw [hg]; exact (below_size (by repeat (first | (with_reducible first | exact HB.out | apply bA | apply bN | apply bD) | exact HB.out))) : w.heap.size ≤ gb247)); clear HO_0; clear HO_4; clear HO_5; clear HL242_2; clear HO245; clear HL246_2; clear HR242_2; clear HR246_2; clear HB; have HO_0 := n0_; have HO_4 := n1_; have HO_5 := n2_; have HL242_2 := n3_; have HO245 := n4_; have HL246_2 := n5_; have HR242_2 := n6_; have HR246_2 := n7_; have HB := n8_; have BK247 := n9_; have GW247 := n10_; have GE247 := n11_; clear n0_ n1_ n2_ n3_ n4_ n5_ n6_ n7_ n8_ n9_ n10_ n11_; clear hb hbox hg; have hcz13_0 : w12.cell? ⟨gb247, 0, none⟩ = some (.int .i64 0) := (blk_cell BK247.out 0).trans rfl; have hcz13_1 : w12.cell? ⟨gb247, 1, none⟩ = some (.int .i64 0) := (blk_cell BK247.out 1).trans rfl; have hcz13_2 : w12.cell? ⟨gb247, 2, none⟩ = some (.slice none 0 0) := (blk_cell BK247.out 2).trans rfl; have hfz13_0 := blk_frozen BK247.out 0; have hfz13_1 := blk_frozen BK247.out 1; have hfz13_2 := blk_frozen BK247.out 2))
      (try simp only [Act.put, sA, sB, sC])
      go_cut [49] (fun v49 wc => ∃ (kq : Nat) (x49_8 : Bool), v49 = .bool x49_8 ∧ Aside0 (ridgewaylaw07_AttrBack.j1 kq l0 t235 x4_1 x5_1 x6_1 t243 x49_8 ((rd_T24 l0 x6_1).f0) ((rd_T24 l0 x6_1).f1) ((rd_T24 l0 x6_1).f2) = some true) ∧ Aside0 (kq ≤ k1) ∧ Aside0 (Kd.V k24 24 wc w.heap.size (fun k_ => (P0_ k_ ∨ w.heap.size ≤ k_) ∧ some k_ ≠ ((.slice Ao10 x4_1.length co10) : Value).ownBlock ∧ some k_ ≠ (u5 : Value).ownBlock ∧ some k_ ≠ (v244 : Value).ownBlock ∧ k_ ≠ gb247) (.slice (some ad242) l0.length c0) l0) ∧ Aside0 (Kd.R (Kd.int .u8) 5 wc w.heap.size (fun k_ => (w.heap.size ≤ k_) ∧ some k_ ≠ (v244 : Value).ownBlock) (.slice Ao10 x4_1.length co10) x4_1) ∧ Aside0 (Kd.N k24 24 wc w.heap.size (fun k_ => (P0_ k_ ∨ w.heap.size ≤ k_) ∧ some k_ ≠ ((.slice Ao10 x4_1.length co10) : Value).ownBlock ∧ some k_ ≠ (v244 : Value).ownBlock ∧ k_ ≠ gb247) u5 x5_1) ∧ Aside0 (Kd.R (Kd.int .u8) 5 wc w.heap.size (fun k_ => (w.heap.size ≤ k_) ∧ some k_ ≠ ((.slice Ao10 x4_1.length co10) : Value).ownBlock) v244 t243) ∧ Aside0 (Kd.V (Kd.int .u8) 5 wc w.heap.size (fun k_ => (P0_ k_ ∨ w.heap.size ≤ k_) ∧ some k_ ≠ ((.slice Ao10 x4_1.length co10) : Value).ownBlock ∧ some k_ ≠ (u5 : Value).ownBlock ∧ some k_ ≠ (v244 : Value).ownBlock ∧ k_ ≠ gb247) (.slice A246_2 ((rd_T24 l0 x6_1).f2).length c246_2) ((rd_T24 l0 x6_1).f2)) ∧ Aside0 (wc.heap[gb247]? = some (.cells #[.int .i64 ((rd_T24 l0 x6_1).f0), .int .i64 ((rd_T24 l0 x6_1).f1), (.slice A246_2 ((rd_T24 l0 x6_1).f2).length c246_2)] 24 (0, 0))) ∧ Aside0 (Below w.heap.size w wc))
      case first =>
       have H := HC9.out
       clear HC9
       by_cases c14 : ((rd_T24 l0 x6_1).f0) < 0
       ·
        rw [if_pos c14] at H
        have c14b0 : decide (((rd_T24 l0 x6_1).f0) < 0) = true := decide_eq_true c14
        clear c14
        (first | rw [c14b0] | (simp only [i64_w, i32_w]; rw [c14b0]) | rw [c14b1] | skip)
        have H' := Aside0.mk H
        clear H
        have hcz15_0 : w12.cell? ⟨gb247, 0, none⟩ = some (.int .i64 0) := (blk_cell BK247.out 0).trans rfl
        have hcz15_1 : w12.cell? ⟨gb247, 1, none⟩ = some (.int .i64 0) := (blk_cell BK247.out 1).trans rfl
        have hcz15_2 : w12.cell? ⟨gb247, 2, none⟩ = some (.slice none 0 0) := (blk_cell BK247.out 2).trans rfl
        have hfz15_0 := blk_frozen BK247.out 0
        have hfz15_1 := blk_frozen BK247.out 1
        have hfz15_2 := blk_frozen BK247.out 2
        go_wp2
        go_meet
        case rel => exact ⟨_, (true), (by first | rfl | (simp; done) | (simp [*]; done)), H', ⟨by have := HK1.out; first | omega | exact Nat.le_refl _⟩, ⟨by (with_reducible repeat (first | apply Kd.V_alloc | apply Kd.V_drewN | apply Kd.V_drew)); exact Kd.V_mono (Kd.V_far (p := ⟨gb247, 2, none⟩) (Kd.V_far (p := ⟨gb247, 1, none⟩) (Kd.V_far (p := ⟨gb247, 0, none⟩) (Kd.V_mono HO_0.out (fun k_ hk => (⟨hk, hk.2⟩ : _ ∧ k_ ≠ gb247))) (fun _ hk => hk.2) (.int .i64 ((rd_T24 l0 x6_1).f0))) (fun _ hk => hk.2) (.int .i64 ((rd_T24 l0 x6_1).f1))) (fun _ hk => hk.2) (.slice A246_2 ((rd_T24 l0 x6_1).f2).length c246_2)) (fun _ hk => ⟨hk.1.1.1.1, ⟨hk.1.1.1.2.1, ⟨hk.1.1.1.2.2, ⟨hk.1.1.2, hk.1.2⟩⟩⟩⟩)⟩, ⟨by (with_reducible repeat (first | apply Kd.R_alloc | apply Kd.R_drewN | apply Kd.R_drew)); exact Kd.R_mono (Kd.R_far (p := ⟨gb247, 2, none⟩) (Kd.R_far (p := ⟨gb247, 1, none⟩) (Kd.R_far (p := ⟨gb247, 0, none⟩) (Kd.R_types HO_4.out BK247.out (by decide)) (fun _ hk => hk.2) (.int .i64 ((rd_T24 l0 x6_1).f0))) (fun _ hk => hk.2) (.int .i64 ((rd_T24 l0 x6_1).f1))) (fun _ hk => hk.2) (.slice A246_2 ((rd_T24 l0 x6_1).f2).length c246_2)) (fun _ hk => ⟨hk.1.1, hk.1.2⟩)⟩, ⟨by (with_reducible repeat (first | apply Kd.N_alloc | apply Kd.N_drewN | apply Kd.N_drew)); exact Kd.N_mono (Kd.N_far (p := ⟨gb247, 2, none⟩) (Kd.N_far (p := ⟨gb247, 1, none⟩) (Kd.N_far (p := ⟨gb247, 0, none⟩) (Kd.N_mono HO_5.out (fun k_ hk => (⟨hk, hk.2⟩ : _ ∧ k_ ≠ gb247))) (fun _ hk => hk.2) (.int .i64 ((rd_T24 l0 x6_1).f0))) (fun _ hk => hk.2) (.int .i64 ((rd_T24 l0 x6_1).f1))) (fun _ hk => hk.2) (.slice A246_2 ((rd_T24 l0 x6_1).f2).length c246_2)) (fun _ hk => ⟨hk.1.1.1.1, ⟨hk.1.1.1.2, ⟨hk.1.1.2, hk.1.2⟩⟩⟩)⟩, ⟨by (with_reducible repeat (first | apply Kd.R_alloc | apply Kd.R_drewN | apply Kd.R_drew)); exact Kd.R_mono (Kd.R_far (p := ⟨gb247, 2, none⟩) (Kd.R_far (p := ⟨gb247, 1, none⟩) (Kd.R_far (p := ⟨gb247, 0, none⟩) (Kd.R_types HO245.out BK247.out (by decide)) (fun _ hk => hk.2) (.int .i64 ((rd_T24 l0 x6_1).f0))) (fun _ hk => hk.2) (.int .i64 ((rd_T24 l0 x6_1).f1))) (fun _ hk => hk.2) (.slice A246_2 ((rd_T24 l0 x6_1).f2).length c246_2)) (fun _ hk => ⟨hk.1.1.1, hk.1.2⟩)⟩, ⟨by (with_reducible repeat (first | apply Kd.V_alloc | apply Kd.V_drewN | apply Kd.V_drew)); exact Kd.V_mono (Kd.V_far (p := ⟨gb247, 2, none⟩) (Kd.V_far (p := ⟨gb247, 1, none⟩) (Kd.V_far (p := ⟨gb247, 0, none⟩) (Kd.V_mono HL246_2.out (fun k_ hk => (⟨hk, hk.2⟩ : _ ∧ k_ ≠ gb247))) (fun _ hk => hk.2) (.int .i64 ((rd_T24 l0 x6_1).f0))) (fun _ hk => hk.2) (.int .i64 ((rd_T24 l0 x6_1).f1))) (fun _ hk => hk.2) (.slice A246_2 ((rd_T24 l0 x6_1).f2).length c246_2)) (fun _ hk => ⟨hk.1.1.1.1, ⟨hk.1.1.1.2.1, ⟨hk.1.1.1.2.2, ⟨hk.1.1.2, hk.1.2⟩⟩⟩⟩)⟩, ⟨by (with_reducible repeat (first | refine kN ?_ _ | refine kD ?_ | refine kA ?_ _)); refine blk_put (cs := #[.int .i64 ((rd_T24 l0 x6_1).f0), .int .i64 ((rd_T24 l0 x6_1).f1), .slice none 0 0]) ?_ 2 _ rfl; (with_reducible repeat (first | refine kN ?_ _ | refine kD ?_ | refine kA ?_ _)); refine blk_put (cs := #[.int .i64 ((rd_T24 l0 x6_1).f0), .int .i64 0, .slice none 0 0]) ?_ 1 _ rfl; (with_reducible repeat (first | refine kN ?_ _ | refine kD ?_ | refine kA ?_ _)); refine blk_put (cs := #[.int .i64 0, .int .i64 0, .slice none 0 0]) ?_ 0 _ rfl; (with_reducible repeat (first | refine kN ?_ _ | refine kD ?_ | refine kA ?_ _)); exact BK247.out⟩, ⟨by repeat (first | (with_reducible first | exact HB.out | apply bA | apply bN | apply bD | refine bS ?_ GE247.out) | exact HB.out)⟩⟩
       ·
        rw [if_neg c14] at H
        have c14b0 : decide (((rd_T24 l0 x6_1).f0) < 0) = false := decide_eq_false c14
        clear c14
        (first | rw [c14b0] | (simp only [i64_w, i32_w]; rw [c14b0]) | rw [c14b1] | skip)
        by_cases c16 : ((rd_T24 l0 x6_1).f0) > 255
        ·
         rw [if_pos c16] at H
         have c16b0 : decide (255 < ((rd_T24 l0 x6_1).f0)) = true := decide_eq_true c16
         clear c16
         have H' := Aside0.mk H
         clear H
         have hcz17_0 : w12.cell? ⟨gb247, 0, none⟩ = some (.int .i64 0) := (blk_cell BK247.out 0).trans rfl
         have hcz17_1 : w12.cell? ⟨gb247, 1, none⟩ = some (.int .i64 0) := (blk_cell BK247.out 1).trans rfl
         have hcz17_2 : w12.cell? ⟨gb247, 2, none⟩ = some (.slice none 0 0) := (blk_cell BK247.out 2).trans rfl
         have hfz17_0 := blk_frozen BK247.out 0
         have hfz17_1 := blk_frozen BK247.out 1
         have hfz17_2 := blk_frozen BK247.out 2
         go_wp2
         go_meet
         case rel => exact ⟨_, (true), (by first | rfl | (simp; done) | (simp [*]; done)), H', ⟨by have := HK1.out; first | omega | exact Nat.le_refl _⟩, ⟨by (with_reducible repeat (first | apply Kd.V_alloc | apply Kd.V_drewN | apply Kd.V_drew)); exact Kd.V_mono (Kd.V_far (p := ⟨gb247, 2, none⟩) (Kd.V_far (p := ⟨gb247, 1, none⟩) (Kd.V_far (p := ⟨gb247, 0, none⟩) (Kd.V_mono HO_0.out (fun k_ hk => (⟨hk, hk.2⟩ : _ ∧ k_ ≠ gb247))) (fun _ hk => hk.2) (.int .i64 ((rd_T24 l0 x6_1).f0))) (fun _ hk => hk.2) (.int .i64 ((rd_T24 l0 x6_1).f1))) (fun _ hk => hk.2) (.slice A246_2 ((rd_T24 l0 x6_1).f2).length c246_2)) (fun _ hk => ⟨hk.1.1.1.1, ⟨hk.1.1.1.2.1, ⟨hk.1.1.1.2.2, ⟨hk.1.1.2, hk.1.2⟩⟩⟩⟩)⟩, ⟨by (with_reducible repeat (first | apply Kd.R_alloc | apply Kd.R_drewN | apply Kd.R_drew)); exact Kd.R_mono (Kd.R_far (p := ⟨gb247, 2, none⟩) (Kd.R_far (p := ⟨gb247, 1, none⟩) (Kd.R_far (p := ⟨gb247, 0, none⟩) (Kd.R_types HO_4.out BK247.out (by decide)) (fun _ hk => hk.2) (.int .i64 ((rd_T24 l0 x6_1).f0))) (fun _ hk => hk.2) (.int .i64 ((rd_T24 l0 x6_1).f1))) (fun _ hk => hk.2) (.slice A246_2 ((rd_T24 l0 x6_1).f2).length c246_2)) (fun _ hk => ⟨hk.1.1, hk.1.2⟩)⟩, ⟨by (with_reducible repeat (first | apply Kd.N_alloc | apply Kd.N_drewN | apply Kd.N_drew)); exact Kd.N_mono (Kd.N_far (p := ⟨gb247, 2, none⟩) (Kd.N_far (p := ⟨gb247, 1, none⟩) (Kd.N_far (p := ⟨gb247, 0, none⟩) (Kd.N_mono HO_5.out (fun k_ hk => (⟨hk, hk.2⟩ : _ ∧ k_ ≠ gb247))) (fun _ hk => hk.2) (.int .i64 ((rd_T24 l0 x6_1).f0))) (fun _ hk => hk.2) (.int .i64 ((rd_T24 l0 x6_1).f1))) (fun _ hk => hk.2) (.slice A246_2 ((rd_T24 l0 x6_1).f2).length c246_2)) (fun _ hk => ⟨hk.1.1.1.1, ⟨hk.1.1.1.2, ⟨hk.1.1.2, hk.1.2⟩⟩⟩)⟩, ⟨by (with_reducible repeat (first | apply Kd.R_alloc | apply Kd.R_drewN | apply Kd.R_drew)); exact Kd.R_mono (Kd.R_far (p := ⟨gb247, 2, none⟩) (Kd.R_far (p := ⟨gb247, 1, none⟩) (Kd.R_far (p := ⟨gb247, 0, none⟩) (Kd.R_types HO245.out BK247.out (by decide)) (fun _ hk => hk.2) (.int .i64 ((rd_T24 l0 x6_1).f0))) (fun _ hk => hk.2) (.int .i64 ((rd_T24 l0 x6_1).f1))) (fun _ hk => hk.2) (.slice A246_2 ((rd_T24 l0 x6_1).f2).length c246_2)) (fun _ hk => ⟨hk.1.1.1, hk.1.2⟩)⟩, ⟨by (with_reducible repeat (first | apply Kd.V_alloc | apply Kd.V_drewN | apply Kd.V_drew)); exact Kd.V_mono (Kd.V_far (p := ⟨gb247, 2, none⟩) (Kd.V_far (p := ⟨gb247, 1, none⟩) (Kd.V_far (p := ⟨gb247, 0, none⟩) (Kd.V_mono HL246_2.out (fun k_ hk => (⟨hk, hk.2⟩ : _ ∧ k_ ≠ gb247))) (fun _ hk => hk.2) (.int .i64 ((rd_T24 l0 x6_1).f0))) (fun _ hk => hk.2) (.int .i64 ((rd_T24 l0 x6_1).f1))) (fun _ hk => hk.2) (.slice A246_2 ((rd_T24 l0 x6_1).f2).length c246_2)) (fun _ hk => ⟨hk.1.1.1.1, ⟨hk.1.1.1.2.1, ⟨hk.1.1.1.2.2, ⟨hk.1.1.2, hk.1.2⟩⟩⟩⟩)⟩, ⟨by (with_reducible repeat (first | refine kN ?_ _ | refine kD ?_ | refine kA ?_ _)); refine blk_put (cs := #[.int .i64 ((rd_T24 l0 x6_1).f0), .int .i64 ((rd_T24 l0 x6_1).f1), .slice none 0 0]) ?_ 2 _ rfl; (with_reducible repeat (first | refine kN ?_ _ | refine kD ?_ | refine kA ?_ _)); refine blk_put (cs := #[.int .i64 ((rd_T24 l0 x6_1).f0), .int .i64 0, .slice none 0 0]) ?_ 1 _ rfl; (with_reducible repeat (first | refine kN ?_ _ | refine kD ?_ | refine kA ?_ _)); refine blk_put (cs := #[.int .i64 0, .int .i64 0, .slice none 0 0]) ?_ 0 _ rfl; (with_reducible repeat (first | refine kN ?_ _ | refine kD ?_ | refine kA ?_ _)); exact BK247.out⟩, ⟨by repeat (first | (with_reducible first | exact HB.out | apply bA | apply bN | apply bD | refine bS ?_ GE247.out) | exact HB.out)⟩⟩
        ·
         rw [if_neg c16] at H
         have c16b0 : decide (255 < ((rd_T24 l0 x6_1).f0)) = false := decide_eq_false c16
         clear c16
         by_cases c18 : ((rd_T24 l0 x6_1).f1) < 0
         ·
          rw [if_pos c18] at H
          have c18b0 : decide (((rd_T24 l0 x6_1).f1) < 0) = true := decide_eq_true c18
          clear c18
          have H' := Aside0.mk H
          clear H
          have hcz19_0 : w12.cell? ⟨gb247, 0, none⟩ = some (.int .i64 0) := (blk_cell BK247.out 0).trans rfl
          have hcz19_1 : w12.cell? ⟨gb247, 1, none⟩ = some (.int .i64 0) := (blk_cell BK247.out 1).trans rfl
          have hcz19_2 : w12.cell? ⟨gb247, 2, none⟩ = some (.slice none 0 0) := (blk_cell BK247.out 2).trans rfl
          have hfz19_0 := blk_frozen BK247.out 0
          have hfz19_1 := blk_frozen BK247.out 1
          have hfz19_2 := blk_frozen BK247.out 2
          go_wp2
          go_meet
          case rel => exact ⟨_, (true), (by first | rfl | (simp; done) | (simp [*]; done)), H', ⟨by have := HK1.out; first | omega | exact Nat.le_refl _⟩, ⟨by (with_reducible repeat (first | apply Kd.V_alloc | apply Kd.V_drewN | apply Kd.V_drew)); exact Kd.V_mono (Kd.V_far (p := ⟨gb247, 2, none⟩) (Kd.V_far (p := ⟨gb247, 1, none⟩) (Kd.V_far (p := ⟨gb247, 0, none⟩) (Kd.V_mono HO_0.out (fun k_ hk => (⟨hk, hk.2⟩ : _ ∧ k_ ≠ gb247))) (fun _ hk => hk.2) (.int .i64 ((rd_T24 l0 x6_1).f0))) (fun _ hk => hk.2) (.int .i64 ((rd_T24 l0 x6_1).f1))) (fun _ hk => hk.2) (.slice A246_2 ((rd_T24 l0 x6_1).f2).length c246_2)) (fun _ hk => ⟨hk.1.1.1.1, ⟨hk.1.1.1.2.1, ⟨hk.1.1.1.2.2, ⟨hk.1.1.2, hk.1.2⟩⟩⟩⟩)⟩, ⟨by (with_reducible repeat (first | apply Kd.R_alloc | apply Kd.R_drewN | apply Kd.R_drew)); exact Kd.R_mono (Kd.R_far (p := ⟨gb247, 2, none⟩) (Kd.R_far (p := ⟨gb247, 1, none⟩) (Kd.R_far (p := ⟨gb247, 0, none⟩) (Kd.R_types HO_4.out BK247.out (by decide)) (fun _ hk => hk.2) (.int .i64 ((rd_T24 l0 x6_1).f0))) (fun _ hk => hk.2) (.int .i64 ((rd_T24 l0 x6_1).f1))) (fun _ hk => hk.2) (.slice A246_2 ((rd_T24 l0 x6_1).f2).length c246_2)) (fun _ hk => ⟨hk.1.1, hk.1.2⟩)⟩, ⟨by (with_reducible repeat (first | apply Kd.N_alloc | apply Kd.N_drewN | apply Kd.N_drew)); exact Kd.N_mono (Kd.N_far (p := ⟨gb247, 2, none⟩) (Kd.N_far (p := ⟨gb247, 1, none⟩) (Kd.N_far (p := ⟨gb247, 0, none⟩) (Kd.N_mono HO_5.out (fun k_ hk => (⟨hk, hk.2⟩ : _ ∧ k_ ≠ gb247))) (fun _ hk => hk.2) (.int .i64 ((rd_T24 l0 x6_1).f0))) (fun _ hk => hk.2) (.int .i64 ((rd_T24 l0 x6_1).f1))) (fun _ hk => hk.2) (.slice A246_2 ((rd_T24 l0 x6_1).f2).length c246_2)) (fun _ hk => ⟨hk.1.1.1.1, ⟨hk.1.1.1.2, ⟨hk.1.1.2, hk.1.2⟩⟩⟩)⟩, ⟨by (with_reducible repeat (first | apply Kd.R_alloc | apply Kd.R_drewN | apply Kd.R_drew)); exact Kd.R_mono (Kd.R_far (p := ⟨gb247, 2, none⟩) (Kd.R_far (p := ⟨gb247, 1, none⟩) (Kd.R_far (p := ⟨gb247, 0, none⟩) (Kd.R_types HO245.out BK247.out (by decide)) (fun _ hk => hk.2) (.int .i64 ((rd_T24 l0 x6_1).f0))) (fun _ hk => hk.2) (.int .i64 ((rd_T24 l0 x6_1).f1))) (fun _ hk => hk.2) (.slice A246_2 ((rd_T24 l0 x6_1).f2).length c246_2)) (fun _ hk => ⟨hk.1.1.1, hk.1.2⟩)⟩, ⟨by (with_reducible repeat (first | apply Kd.V_alloc | apply Kd.V_drewN | apply Kd.V_drew)); exact Kd.V_mono (Kd.V_far (p := ⟨gb247, 2, none⟩) (Kd.V_far (p := ⟨gb247, 1, none⟩) (Kd.V_far (p := ⟨gb247, 0, none⟩) (Kd.V_mono HL246_2.out (fun k_ hk => (⟨hk, hk.2⟩ : _ ∧ k_ ≠ gb247))) (fun _ hk => hk.2) (.int .i64 ((rd_T24 l0 x6_1).f0))) (fun _ hk => hk.2) (.int .i64 ((rd_T24 l0 x6_1).f1))) (fun _ hk => hk.2) (.slice A246_2 ((rd_T24 l0 x6_1).f2).length c246_2)) (fun _ hk => ⟨hk.1.1.1.1, ⟨hk.1.1.1.2.1, ⟨hk.1.1.1.2.2, ⟨hk.1.1.2, hk.1.2⟩⟩⟩⟩)⟩, ⟨by (with_reducible repeat (first | refine kN ?_ _ | refine kD ?_ | refine kA ?_ _)); refine blk_put (cs := #[.int .i64 ((rd_T24 l0 x6_1).f0), .int .i64 ((rd_T24 l0 x6_1).f1), .slice none 0 0]) ?_ 2 _ rfl; (with_reducible repeat (first | refine kN ?_ _ | refine kD ?_ | refine kA ?_ _)); refine blk_put (cs := #[.int .i64 ((rd_T24 l0 x6_1).f0), .int .i64 0, .slice none 0 0]) ?_ 1 _ rfl; (with_reducible repeat (first | refine kN ?_ _ | refine kD ?_ | refine kA ?_ _)); refine blk_put (cs := #[.int .i64 0, .int .i64 0, .slice none 0 0]) ?_ 0 _ rfl; (with_reducible repeat (first | refine kN ?_ _ | refine kD ?_ | refine kA ?_ _)); exact BK247.out⟩, ⟨by repeat (first | (with_reducible first | exact HB.out | apply bA | apply bN | apply bD | refine bS ?_ GE247.out) | exact HB.out)⟩⟩
         ·
          rw [if_neg c18] at H
          have c18b0 : decide (((rd_T24 l0 x6_1).f1) < 0) = false := decide_eq_false c18
          clear c18
          have H' := Aside0.mk H
          clear H
          have hcz20_0 : w12.cell? ⟨gb247, 0, none⟩ = some (.int .i64 0) := (blk_cell BK247.out 0).trans rfl
          have hcz20_1 : w12.cell? ⟨gb247, 1, none⟩ = some (.int .i64 0) := (blk_cell BK247.out 1).trans rfl
          have hcz20_2 : w12.cell? ⟨gb247, 2, none⟩ = some (.slice none 0 0) := (blk_cell BK247.out 2).trans rfl
          have hfz20_0 := blk_frozen BK247.out 0
          have hfz20_1 := blk_frozen BK247.out 1
          have hfz20_2 := blk_frozen BK247.out 2
          go_wp2
          go_meet
          case rel => exact ⟨_, (decide (((rd_T24 l0 x6_1).f1) > 255)), (by first | rfl | (simp; done) | (simp [*]; done)), H', ⟨by have := HK1.out; first | omega | exact Nat.le_refl _⟩, ⟨by (with_reducible repeat (first | apply Kd.V_alloc | apply Kd.V_drewN | apply Kd.V_drew)); exact Kd.V_mono (Kd.V_far (p := ⟨gb247, 2, none⟩) (Kd.V_far (p := ⟨gb247, 1, none⟩) (Kd.V_far (p := ⟨gb247, 0, none⟩) (Kd.V_mono HO_0.out (fun k_ hk => (⟨hk, hk.2⟩ : _ ∧ k_ ≠ gb247))) (fun _ hk => hk.2) (.int .i64 ((rd_T24 l0 x6_1).f0))) (fun _ hk => hk.2) (.int .i64 ((rd_T24 l0 x6_1).f1))) (fun _ hk => hk.2) (.slice A246_2 ((rd_T24 l0 x6_1).f2).length c246_2)) (fun _ hk => ⟨hk.1.1.1.1, ⟨hk.1.1.1.2.1, ⟨hk.1.1.1.2.2, ⟨hk.1.1.2, hk.1.2⟩⟩⟩⟩)⟩, ⟨by (with_reducible repeat (first | apply Kd.R_alloc | apply Kd.R_drewN | apply Kd.R_drew)); exact Kd.R_mono (Kd.R_far (p := ⟨gb247, 2, none⟩) (Kd.R_far (p := ⟨gb247, 1, none⟩) (Kd.R_far (p := ⟨gb247, 0, none⟩) (Kd.R_types HO_4.out BK247.out (by decide)) (fun _ hk => hk.2) (.int .i64 ((rd_T24 l0 x6_1).f0))) (fun _ hk => hk.2) (.int .i64 ((rd_T24 l0 x6_1).f1))) (fun _ hk => hk.2) (.slice A246_2 ((rd_T24 l0 x6_1).f2).length c246_2)) (fun _ hk => ⟨hk.1.1, hk.1.2⟩)⟩, ⟨by (with_reducible repeat (first | apply Kd.N_alloc | apply Kd.N_drewN | apply Kd.N_drew)); exact Kd.N_mono (Kd.N_far (p := ⟨gb247, 2, none⟩) (Kd.N_far (p := ⟨gb247, 1, none⟩) (Kd.N_far (p := ⟨gb247, 0, none⟩) (Kd.N_mono HO_5.out (fun k_ hk => (⟨hk, hk.2⟩ : _ ∧ k_ ≠ gb247))) (fun _ hk => hk.2) (.int .i64 ((rd_T24 l0 x6_1).f0))) (fun _ hk => hk.2) (.int .i64 ((rd_T24 l0 x6_1).f1))) (fun _ hk => hk.2) (.slice A246_2 ((rd_T24 l0 x6_1).f2).length c246_2)) (fun _ hk => ⟨hk.1.1.1.1, ⟨hk.1.1.1.2, ⟨hk.1.1.2, hk.1.2⟩⟩⟩)⟩, ⟨by (with_reducible repeat (first | apply Kd.R_alloc | apply Kd.R_drewN | apply Kd.R_drew)); exact Kd.R_mono (Kd.R_far (p := ⟨gb247, 2, none⟩) (Kd.R_far (p := ⟨gb247, 1, none⟩) (Kd.R_far (p := ⟨gb247, 0, none⟩) (Kd.R_types HO245.out BK247.out (by decide)) (fun _ hk => hk.2) (.int .i64 ((rd_T24 l0 x6_1).f0))) (fun _ hk => hk.2) (.int .i64 ((rd_T24 l0 x6_1).f1))) (fun _ hk => hk.2) (.slice A246_2 ((rd_T24 l0 x6_1).f2).length c246_2)) (fun _ hk => ⟨hk.1.1.1, hk.1.2⟩)⟩, ⟨by (with_reducible repeat (first | apply Kd.V_alloc | apply Kd.V_drewN | apply Kd.V_drew)); exact Kd.V_mono (Kd.V_far (p := ⟨gb247, 2, none⟩) (Kd.V_far (p := ⟨gb247, 1, none⟩) (Kd.V_far (p := ⟨gb247, 0, none⟩) (Kd.V_mono HL246_2.out (fun k_ hk => (⟨hk, hk.2⟩ : _ ∧ k_ ≠ gb247))) (fun _ hk => hk.2) (.int .i64 ((rd_T24 l0 x6_1).f0))) (fun _ hk => hk.2) (.int .i64 ((rd_T24 l0 x6_1).f1))) (fun _ hk => hk.2) (.slice A246_2 ((rd_T24 l0 x6_1).f2).length c246_2)) (fun _ hk => ⟨hk.1.1.1.1, ⟨hk.1.1.1.2.1, ⟨hk.1.1.1.2.2, ⟨hk.1.1.2, hk.1.2⟩⟩⟩⟩)⟩, ⟨by (with_reducible repeat (first | refine kN ?_ _ | refine kD ?_ | refine kA ?_ _)); refine blk_put (cs := #[.int .i64 ((rd_T24 l0 x6_1).f0), .int .i64 ((rd_T24 l0 x6_1).f1), .slice none 0 0]) ?_ 2 _ rfl; (with_reducible repeat (first | refine kN ?_ _ | refine kD ?_ | refine kA ?_ _)); refine blk_put (cs := #[.int .i64 ((rd_T24 l0 x6_1).f0), .int .i64 0, .slice none 0 0]) ?_ 1 _ rfl; (with_reducible repeat (first | refine kN ?_ _ | refine kD ?_ | refine kA ?_ _)); refine blk_put (cs := #[.int .i64 0, .int .i64 0, .slice none 0 0]) ?_ 0 _ rfl; (with_reducible repeat (first | refine kN ?_ _ | refine kD ?_ | refine kA ?_ _)); exact BK247.out⟩, ⟨by repeat (first | (with_reducible first | exact HB.out | apply bA | apply bN | apply bD | refine bS ?_ GE247.out) | exact HB.out)⟩⟩
      case rest =>
       clear HC9
       try clear c1
       try clear c2
       try clear p2
       try clear q2
       try clear hx2
       try clear c4
       try clear c5
       try clear c6
       try clear c6b0
       try clear c7
       try clear c7b0
       try clear c10
       try clear c14
       try clear c14b0
       try clear c14b1
       try clear c16
       try clear c16b0
       try clear c18
       try clear c18b0
       try clear hcz13_0
       try clear hcz13_1
       try clear hcz13_2
       try clear hcz15_0
       try clear hcz15_1
       try clear hcz15_2
       try clear hcz17_0
       try clear hcz17_1
       try clear hcz17_2
       try clear hcz19_0
       try clear hcz19_1
       try clear hcz19_2
       try clear hcz20_0
       try clear hcz20_1
       try clear hcz20_2
       try clear hfz13_0
       try clear hfz13_1
       try clear hfz13_2
       try clear hfz15_0
       try clear hfz15_1
       try clear hfz15_2
       try clear hfz17_0
       try clear hfz17_1
       try clear hfz17_2
       try clear hfz19_0
       try clear hfz19_1
       try clear hfz19_2
       try clear hfz20_0
       try clear hfz20_1
       try clear hfz20_2
       try clear hx242_0
       try clear hx242_1
       try clear hx242_2
       try clear hx246_0
       try clear hx246_1
       try clear hx246_2
       try clear p2
       try clear p242
       try clear p246
       try clear q242
       try clear q246
       obtain ⟨kq, x49_8, rfl, HA, HJ8, HO_0, HO_4, HO_5, HO_7, HO_248002, BK247, HB⟩ := hcut
       cases kq with
       | zero => exact absurd HA.out (by simp [ridgewaylaw07_AttrBack.j1])
       | succ kj8 =>
        have H := HA.out
        clear HA
        simp only [ridgewaylaw07_AttrBack.j1] at H
        by_cases c21 : x49_8 = true
        ·
         subst c21
         have H1 : (if (strOfNums t243).toList = (strOfNums x4_1).toList then (ridgewaylaw07_AttrBack.l0 kj8 l0 t235 x4_1 x5_1 (wrap64 (x6_1 + 1))) else (some false)) = some true := by rw [if_pos rfl] at H; first | done | exact H
         clear H
         have H := H1
         clear H1
         by_cases c22 : (strOfNums t243).toList = (strOfNums x4_1).toList
         ·
          rw [if_pos c22] at H
          have c22b0 : ((strOfNums t243).toList == (strOfNums x4_1).toList) = true := beq_iff_eq.mpr c22
          have c22b1 : ((strOfNums t243).toList != (strOfNums x4_1).toList) = false := bne_eq_false_iff_eq.mpr c22
          clear c22
          have H' := Aside0.mk H
          clear H
          have hcv23 := own_string (P := Try.prog) Try.underlying22 Try.underlying5 Try.underlying9 (Kd.own_of_R HO_7.out)
          have hcv24 := own_string (P := Try.prog) Try.underlying22 Try.underlying5 Try.underlying9 (Kd.own_of_R HO_4.out)
          go_wp2
          go_roundg kj8
          case measure => have := HK1.out; have := HJ8.out; omega
          case rel => exact ⟨(x4_1), (x5_1), (wrap64 (x6_1 + 1)), (by first | rfl | (simp; done) | (simp [*]; done)), H', ⟨by have := HK1.out; have := HJ8.out; omega⟩, ⟨by (with_reducible repeat (first | apply Kd.V_alloc | apply Kd.V_drewN | apply Kd.V_drew)); exact Kd.V_mono HO_0.out (fun _ hk => ⟨hk.1, ⟨hk.2.1, hk.2.2.1⟩⟩)⟩, ⟨by (with_reducible repeat (first | apply Kd.R_alloc | apply Kd.R_drewN | apply Kd.R_drew)); exact Kd.R_mono HO_4.out (fun _ hk => hk.1)⟩, ⟨by (with_reducible repeat (first | apply Kd.N_alloc | apply Kd.N_drewN | apply Kd.N_drew)); exact Kd.N_mono HO_5.out (fun _ hk => ⟨hk.1, hk.2.1⟩)⟩, ⟨by repeat (first | (with_reducible first | exact HB.out | apply bA | apply bN | apply bD | refine bS ?_ GE247.out) | exact HB.out)⟩⟩
         ·
          rw [if_neg c22] at H
          have c22b0 : ((strOfNums t243).toList == (strOfNums x4_1).toList) = false := beq_eq_false_iff_ne.mpr c22
          have c22b1 : ((strOfNums t243).toList != (strOfNums x4_1).toList) = true := bne_iff_ne.mpr c22
          exact absurd H (by simp)
        ·
         replace c21 := Bool.eq_false_iff.mpr c21
         subst c21
         have H1 : (if (((rd_T24 l0 x6_1).f2).length : Int) > 255 then (if x5_1.length < 3518437208883 then (ridgewaylaw07_AttrBack.l0 kj8 l0 t235 t243 (x5_1 ++ [(⟨Go.bits .or .i64 (Go.bits .and .i64 ((rd_T24 l0 x6_1).f0) 239) 16, ((rd_T24 l0 x6_1).f1), ((rd_T24 l0 x6_1).f2)⟩ : S24)]) (wrap64 (x6_1 + 1))) else (none)) else (if x5_1.length < 3518437208883 then (ridgewaylaw07_AttrBack.l0 kj8 l0 t235 t243 (x5_1 ++ [(⟨Go.bits .and .i64 ((rd_T24 l0 x6_1).f0) 239, ((rd_T24 l0 x6_1).f1), ((rd_T24 l0 x6_1).f2)⟩ : S24)]) (wrap64 (x6_1 + 1))) else (none))) = some true := by rw [if_neg (show ¬ (false = true) by decide)] at H; first | done | exact H
         clear H
         have H := H1
         clear H1
         by_cases c25 : (((rd_T24 l0 x6_1).f2).length : Int) > 255
         ·
          rw [if_pos c25] at H
          have c25b0 : decide (255 < (((rd_T24 l0 x6_1).f2).length : Int)) = true := decide_eq_true c25
          have c25b1 : decide (255 < ((rd_T24 l0 x6_1).f2).length) = true := decide_eq_true (by omega)
          clear c25
          by_cases c26 : x5_1.length < 3518437208883
          ·
           rw [if_pos c26] at H
           have LMc26 := Aside0.mk c26
           clear c26
           obtain ⟨y248, hy248⟩ : ∃ y_ : List (S24), y_ = (x5_1 ++ [(⟨Go.bits .or .i64 (Go.bits .and .i64 ((rd_T24 l0 x6_1).f0) 239) 16, ((rd_T24 l0 x6_1).f1), ((rd_T24 l0 x6_1).f2)⟩ : S24)]) := ⟨_, rfl⟩
           replace H : (ridgewaylaw07_AttrBack.l0 kj8 l0 t235 t243 y248 (wrap64 (x6_1 + 1))) = some true := by first | (rw [hy248]; with_reducible exact H) | (have H2_ := (Option.bind_some _ _).symm.trans H; rw [hy248]; with_reducible exact H2_) | (have H2_ := (Option.bind_some _ _).symm.trans H; with_reducible exact H2_) | with_reducible exact H | (rw [hy248]; exact H) | exact H
           have Ny248 := Aside0.mk hy248
           clear hy248
           have H' := Aside0.mk H
           clear H
           have hcz27_0 : wc.cell? ⟨gb247, 0, none⟩ = some (.int .i64 ((rd_T24 l0 x6_1).f0)) := (blk_cell BK247.out 0).trans rfl
           have hcz27_1 : wc.cell? ⟨gb247, 1, none⟩ = some (.int .i64 ((rd_T24 l0 x6_1).f1)) := (blk_cell BK247.out 1).trans rfl
           have hcz27_2 : wc.cell? ⟨gb247, 2, none⟩ = some (.slice A246_2 ((rd_T24 l0 x6_1).f2).length c246_2) := (blk_cell BK247.out 2).trans rfl
           have hfz27_0 := blk_frozen BK247.out 0
           have hfz27_1 := blk_frozen BK247.out 1
           have hfz27_2 := blk_frozen BK247.out 2
           go_wp2_with (first | ((with_reducible refine gate_store (t := 3) (p := 58) rfl ?_); refine store_event (t := 3) (p := 58) (v := ?vo_w28) (w1 := (wc.setCell ⟨gb247, 0, none⟩ (.int .i64 (Go.bits .and .i64 ((rd_T24 l0 x6_1).f0) 239)))) ?hg ?ho ?hn ?hr ?_; (case ho => rfl); (case hg => rfl); (case hn => rfl); (case hr => first | (go_simp; done) | (go_simp; rfl)); intro w28 hw; have n0_ : Aside0 (Kd.V k24 24 w28 w.heap.size (fun k_ => (P0_ k_ ∨ w.heap.size ≤ k_) ∧ some k_ ≠ (.slice Ao10 x4_1.length co10 : Value).ownBlock ∧ some k_ ≠ (u5 : Value).ownBlock ∧ some k_ ≠ (v244 : Value).ownBlock ∧ k_ ≠ gb247) (.slice (some ad242) l0.length c0) l0) := ⟨(by rw [hw]; exact (by (with_reducible repeat (first | apply Kd.V_alloc | apply Kd.V_drewN | apply Kd.V_drew)); exact Kd.V_mono (Kd.V_far (p := ⟨gb247, 0, none⟩) (Kd.V_mono HO_0.out (fun k_ hk => (⟨hk, hk.2.2.2.2⟩ : _ ∧ k_ ≠ gb247))) (fun _ hk => hk.2) (.int .i64 (Go.bits .and .i64 ((rd_T24 l0 x6_1).f0) 239))) (fun _ hk => ⟨hk.1.1, ⟨hk.1.2.1, ⟨hk.1.2.2.1, ⟨hk.1.2.2.2.1, hk.1.2.2.2.2⟩⟩⟩⟩)))⟩; have n1_ : Aside0 (Kd.R (Kd.int .u8) 5 w28 w.heap.size (fun k_ => (w.heap.size ≤ k_) ∧ some k_ ≠ (v244 : Value).ownBlock) (.slice Ao10 x4_1.length co10) x4_1) := ⟨(by rw [hw]; exact (by (with_reducible repeat (first | apply Kd.R_alloc | apply Kd.R_drewN | apply Kd.R_drew)); exact Kd.R_mono (Kd.R_far (p := ⟨gb247, 0, none⟩) (Kd.R_types HO_4.out BK247.out (by decide)) (fun _ hk => hk.2) (.int .i64 (Go.bits .and .i64 ((rd_T24 l0 x6_1).f0) 239))) (fun _ hk => ⟨hk.1.1, hk.1.2⟩)))⟩; have n2_ : Aside0 (Kd.N k24 24 w28 w.heap.size (fun k_ => (P0_ k_ ∨ w.heap.size ≤ k_) ∧ some k_ ≠ (.slice Ao10 x4_1.length co10 : Value).ownBlock ∧ some k_ ≠ (v244 : Value).ownBlock ∧ k_ ≠ gb247) u5 x5_1) := ⟨(by rw [hw]; exact (by (with_reducible repeat (first | apply Kd.N_alloc | apply Kd.N_drewN | apply Kd.N_drew)); exact Kd.N_mono (Kd.N_far (p := ⟨gb247, 0, none⟩) (Kd.N_mono HO_5.out (fun k_ hk => (⟨hk, hk.2.2.2⟩ : _ ∧ k_ ≠ gb247))) (fun _ hk => hk.2) (.int .i64 (Go.bits .and .i64 ((rd_T24 l0 x6_1).f0) 239))) (fun _ hk => ⟨hk.1.1, ⟨hk.1.2.1, ⟨hk.1.2.2.1, hk.1.2.2.2⟩⟩⟩)))⟩; have n3_ : Aside0 (Kd.R (Kd.int .u8) 5 w28 w.heap.size (fun k_ => (w.heap.size ≤ k_) ∧ some k_ ≠ (.slice Ao10 x4_1.length co10 : Value).ownBlock) v244 t243) := ⟨(by rw [hw]; exact (by (with_reducible repeat (first | apply Kd.R_alloc | apply Kd.R_drewN | apply Kd.R_drew)); exact Kd.R_mono (Kd.R_far (p := ⟨gb247, 0, none⟩) (Kd.R_types HO_7.out BK247.out (by decide)) (fun _ hk => hk.2) (.int .i64 (Go.bits .and .i64 ((rd_T24 l0 x6_1).f0) 239))) (fun _ hk => ⟨hk.1.1, hk.1.2⟩)))⟩; have n4_ : Aside0 (Kd.V (Kd.int .u8) 5 w28 w.heap.size (fun k_ => (P0_ k_ ∨ w.heap.size ≤ k_) ∧ some k_ ≠ (.slice Ao10 x4_1.length co10 : Value).ownBlock ∧ some k_ ≠ (u5 : Value).ownBlock ∧ some k_ ≠ (v244 : Value).ownBlock ∧ k_ ≠ gb247) (.slice A246_2 ((rd_T24 l0 x6_1).f2).length c246_2) ((rd_T24 l0 x6_1).f2)) := ⟨(by rw [hw]; exact (by (with_reducible repeat (first | apply Kd.V_alloc | apply Kd.V_drewN | apply Kd.V_drew)); exact Kd.V_mono (Kd.V_far (p := ⟨gb247, 0, none⟩) (Kd.V_mono HO_248002.out (fun k_ hk => (⟨hk, hk.2.2.2.2⟩ : _ ∧ k_ ≠ gb247))) (fun _ hk => hk.2) (.int .i64 (Go.bits .and .i64 ((rd_T24 l0 x6_1).f0) 239))) (fun _ hk => ⟨hk.1.1, ⟨hk.1.2.1, ⟨hk.1.2.2.1, ⟨hk.1.2.2.2.1, hk.1.2.2.2.2⟩⟩⟩⟩)))⟩; have n5_ : Aside0 (w28.heap[gb247]? = some (.cells #[.int .i64 (Go.bits .and .i64 ((rd_T24 l0 x6_1).f0) 239), .int .i64 ((rd_T24 l0 x6_1).f1), .slice A246_2 ((rd_T24 l0 x6_1).f2).length c246_2] 24 (0, 0))) := ⟨(by rw [hw]; exact (by (with_reducible repeat (first | refine kN ?_ _ | refine kD ?_ | refine kA ?_ _)); refine blk_put (cs := #[.int .i64 ((rd_T24 l0 x6_1).f0), .int .i64 ((rd_T24 l0 x6_1).f1), .slice A246_2 ((rd_T24 l0 x6_1).f2).length c246_2]) ?_ 0 _ rfl; (with_reducible repeat (first | refine kN ?_ _ | refine kD ?_ | refine kA ?_ _)); exact BK247.out))⟩; have n6_ : Aside0 (Below w.heap.size w w28) := ⟨(by rw [hw]; exact (by repeat (first | (with_reducible first | exact HB.out | apply bA | apply bN | apply bD | refine bS ?_ GE247.out) | exact HB.out)))⟩; clear hw; clear HO_0; clear HO_4; clear HO_5; clear HO_7; clear HO_248002; clear BK247; clear HB; have HO_0 := n0_; have HO_4 := n1_; have HO_5 := n2_; have HO_7 := n3_; have HO_248002 := n4_; have BK247 := n5_; have HB := n6_; clear n0_ n1_ n2_ n3_ n4_ n5_ n6_; have hcz29_0 : w28.cell? ⟨gb247, 0, none⟩ = some (.int .i64 (Go.bits .and .i64 ((rd_T24 l0 x6_1).f0) 239)) := (blk_cell BK247.out 0).trans rfl; have hcz29_1 : w28.cell? ⟨gb247, 1, none⟩ = some (.int .i64 ((rd_T24 l0 x6_1).f1)) := (blk_cell BK247.out 1).trans rfl; have hcz29_2 : w28.cell? ⟨gb247, 2, none⟩ = some (.slice A246_2 ((rd_T24 l0 x6_1).f2).length c246_2) := (blk_cell BK247.out 2).trans rfl; have hfz29_0 := blk_frozen BK247.out 0; have hfz29_1 := blk_frozen BK247.out 1; have hfz29_2 := blk_frozen BK247.out 2) | ((with_reducible refine gate_store (t := 3) (p := 66) rfl ?_); refine store_event (t := 3) (p := 66) (v := ?vo_w30) (w1 := (w28.setCell ⟨gb247, 0, none⟩ (.int .i64 (Go.bits .or .i64 (Go.bits .and .i64 ((rd_T24 l0 x6_1).f0) 239) 16)))) ?hg ?ho ?hn ?hr ?_; (case ho => rfl); (case hg => rfl); (case hn => rfl); (case hr => first | (go_simp; done) | (go_simp; rfl)); intro w30 hw; have n0_ : Aside0 (Kd.V k24 24 w30 w.heap.size (fun k_ => (P0_ k_ ∨ w.heap.size ≤ k_) ∧ some k_ ≠ (.slice Ao10 x4_1.length co10 : Value).ownBlock ∧ some k_ ≠ (u5 : Value).ownBlock ∧ some k_ ≠ (v244 : Value).ownBlock ∧ k_ ≠ gb247) (.slice (some ad242) l0.length c0) l0) := ⟨(by rw [hw]; exact (by (with_reducible repeat (first | apply Kd.V_alloc | apply Kd.V_drewN | apply Kd.V_drew)); exact Kd.V_mono (Kd.V_far (p := ⟨gb247, 0, none⟩) (Kd.V_mono HO_0.out (fun k_ hk => (⟨hk, hk.2.2.2.2⟩ : _ ∧ k_ ≠ gb247))) (fun _ hk => hk.2) (.int .i64 (Go.bits .or .i64 (Go.bits .and .i64 ((rd_T24 l0 x6_1).f0) 239) 16))) (fun _ hk => ⟨hk.1.1, ⟨hk.1.2.1, ⟨hk.1.2.2.1, ⟨hk.1.2.2.2.1, hk.1.2.2.2.2⟩⟩⟩⟩)))⟩; have n1_ : Aside0 (Kd.R (Kd.int .u8) 5 w30 w.heap.size (fun k_ => (w.heap.size ≤ k_) ∧ some k_ ≠ (v244 : Value).ownBlock) (.slice Ao10 x4_1.length co10) x4_1) := ⟨(by rw [hw]; exact (by (with_reducible repeat (first | apply Kd.R_alloc | apply Kd.R_drewN | apply Kd.R_drew)); exact Kd.R_mono (Kd.R_far (p := ⟨gb247, 0, none⟩) (Kd.R_types HO_4.out BK247.out (by decide)) (fun _ hk => hk.2) (.int .i64 (Go.bits .or .i64 (Go.bits .and .i64 ((rd_T24 l0 x6_1).f0) 239) 16))) (fun _ hk => ⟨hk.1.1, hk.1.2⟩)))⟩; have n2_ : Aside0 (Kd.N k24 24 w30 w.heap.size (fun k_ => (P0_ k_ ∨ w.heap.size ≤ k_) ∧ some k_ ≠ (.slice Ao10 x4_1.length co10 : Value).ownBlock ∧ some k_ ≠ (v244 : Value).ownBlock ∧ k_ ≠ gb247) u5 x5_1) := ⟨(by rw [hw]; exact (by (with_reducible repeat (first | apply Kd.N_alloc | apply Kd.N_drewN | apply Kd.N_drew)); exact Kd.N_mono (Kd.N_far (p := ⟨gb247, 0, none⟩) (Kd.N_mono HO_5.out (fun k_ hk => (⟨hk, hk.2.2.2⟩ : _ ∧ k_ ≠ gb247))) (fun _ hk => hk.2) (.int .i64 (Go.bits .or .i64 (Go.bits .and .i64 ((rd_T24 l0 x6_1).f0) 239) 16))) (fun _ hk => ⟨hk.1.1, ⟨hk.1.2.1, ⟨hk.1.2.2.1, hk.1.2.2.2⟩⟩⟩)))⟩; have n3_ : Aside0 (Kd.R (Kd.int .u8) 5 w30 w.heap.size (fun k_ => (w.heap.size ≤ k_) ∧ some k_ ≠ (.slice Ao10 x4_1.length co10 : Value).ownBlock) v244 t243) := ⟨(by rw [hw]; exact (by (with_reducible repeat (first | apply Kd.R_alloc | apply Kd.R_drewN | apply Kd.R_drew)); exact Kd.R_mono (Kd.R_far (p := ⟨gb247, 0, none⟩) (Kd.R_types HO_7.out BK247.out (by decide)) (fun _ hk => hk.2) (.int .i64 (Go.bits .or .i64 (Go.bits .and .i64 ((rd_T24 l0 x6_1).f0) 239) 16))) (fun _ hk => ⟨hk.1.1, hk.1.2⟩)))⟩; have n4_ : Aside0 (Kd.V (Kd.int .u8) 5 w30 w.heap.size (fun k_ => (P0_ k_ ∨ w.heap.size ≤ k_) ∧ some k_ ≠ (.slice Ao10 x4_1.length co10 : Value).ownBlock ∧ some k_ ≠ (u5 : Value).ownBlock ∧ some k_ ≠ (v244 : Value).ownBlock ∧ k_ ≠ gb247) (.slice A246_2 ((rd_T24 l0 x6_1).f2).length c246_2) ((rd_T24 l0 x6_1).f2)) := ⟨(by rw [hw]; exact (by (with_reducible repeat (first | apply Kd.V_alloc | apply Kd.V_drewN | apply Kd.V_drew)); exact Kd.V_mono (Kd.V_far (p := ⟨gb247, 0, none⟩) (Kd.V_mono HO_248002.out (fun k_ hk => (⟨hk, hk.2.2.2.2⟩ : _ ∧ k_ ≠ gb247))) (fun _ hk => hk.2) (.int .i64 (Go.bits .or .i64 (Go.bits .and .i64 ((rd_T24 l0 x6_1).f0) 239) 16))) (fun _ hk => ⟨hk.1.1, ⟨hk.1.2.1, ⟨hk.1.2.2.1, ⟨hk.1.2.2.2.1, hk.1.2.2.2.2⟩⟩⟩⟩)))⟩; have n5_ : Aside0 (w30.heap[gb247]? = some (.cells #[.int .i64 (Go.bits .or .i64 (Go.bits .and .i64 ((rd_T24 l0 x6_1).f0) 239) 16), .int .i64 ((rd_T24 l0 x6_1).f1), .slice A246_2 ((rd_T24 l0 x6_1).f2).length c246_2] 24 (0, 0))) := ⟨(by rw [hw]; exact (by (with_reducible repeat (first | refine kN ?_ _ | refine kD ?_ | refine kA ?_ _)); refine blk_put (cs := #[.int .i64 (Go.bits .and .i64 ((rd_T24 l0 x6_1).f0) 239), .int .i64 ((rd_T24 l0 x6_1).f1), .slice A246_2 ((rd_T24 l0 x6_1).f2).length c246_2]) ?_ 0 _ rfl; (with_reducible repeat (first | refine kN ?_ _ | refine kD ?_ | refine kA ?_ _)); exact BK247.out))⟩; have n6_ : Aside0 (Below w.heap.size w w30) := ⟨(by rw [hw]; exact (by repeat (first | (with_reducible first | exact HB.out | apply bA | apply bN | apply bD | refine bS ?_ GE247.out) | exact HB.out)))⟩; clear hw; clear HO_0; clear HO_4; clear HO_5; clear HO_7; clear HO_248002; clear BK247; clear HB; have HO_0 := n0_; have HO_4 := n1_; have HO_5 := n2_; have HO_7 := n3_; have HO_248002 := n4_; have BK247 := n5_; have HB := n6_; clear n0_ n1_ n2_ n3_ n4_ n5_ n6_; have hcz31_0 : w30.cell? ⟨gb247, 0, none⟩ = some (.int .i64 (Go.bits .or .i64 (Go.bits .and .i64 ((rd_T24 l0 x6_1).f0) 239) 16)) := (blk_cell BK247.out 0).trans rfl; have hcz31_1 : w30.cell? ⟨gb247, 1, none⟩ = some (.int .i64 ((rd_T24 l0 x6_1).f1)) := (blk_cell BK247.out 1).trans rfl; have hcz31_2 : w30.cell? ⟨gb247, 2, none⟩ = some (.slice A246_2 ((rd_T24 l0 x6_1).f2).length c246_2) := (blk_cell BK247.out 2).trans rfl; have hfz31_0 := blk_frozen BK247.out 0; have hfz31_1 := blk_frozen BK247.out 1; have hfz31_2 := blk_frozen BK247.out 2) | ((with_reducible refine gate_builtin (b := .append) (xs := #[.tmp 68, .tmp 70]) rfl ?_); at_builtin; refine Kd.N_append k24 (w0 := w) w.heap.size rfl (.tmp 68) (.tmp 70) 31 24 (.agg #[(.int .i64 0), (.int .i64 0), (.slice none 0 0)]) 40 rfl Try.underlying31 info24 rfl (by decide) (by omega) u5 x5_1 (⟨Go.bits .or .i64 (Go.bits .and .i64 ((rd_T24 l0 x6_1).f0) 239) 16, ((rd_T24 l0 x6_1).f1), ((rd_T24 l0 x6_1).f2)⟩ : S24) [.int .i64 (Go.bits .or .i64 (Go.bits .and .i64 ((rd_T24 l0 x6_1).f0) 239) 16), .int .i64 ((rd_T24 l0 x6_1).f1), .slice A246_2 ((rd_T24 l0 x6_1).f2).length c246_2] (fun k_ => (P0_ k_ ∨ w.heap.size ≤ k_) ∧ some k_ ≠ (.slice Ao10 x4_1.length co10 : Value).ownBlock ∧ some k_ ≠ (v244 : Value).ownBlock ∧ k_ ≠ gb247) (fun k_ => ((fun k_ => (P0_ k_ ∨ w.heap.size ≤ k_) ∧ some k_ ≠ (.slice Ao10 x4_1.length co10 : Value).ownBlock ∧ some k_ ≠ (v244 : Value).ownBlock ∧ k_ ≠ gb247)) k_ ∧ some k_ ≠ (u5 : Value).ownBlock) rfl rfl ?aP (fun _ hk => hk) ?aF ?aO ?aB ?aS ?aL ?_; (case aP => exact (k24_mkF _ _ (⟨Go.bits .or .i64 (Go.bits .and .i64 ((rd_T24 l0 x6_1).f0) 239) 16, ((rd_T24 l0 x6_1).f1), ((rd_T24 l0 x6_1).f2)⟩ : S24) (Kd.V_reads' (Kd.V_mono (ok' := (fun k_ => ((fun k_ => (P0_ k_ ∨ w.heap.size ≤ k_) ∧ some k_ ≠ (.slice Ao10 x4_1.length co10 : Value).ownBlock ∧ some k_ ≠ (v244 : Value).ownBlock ∧ k_ ≠ gb247)) k_ ∧ some k_ ≠ (u5 : Value).ownBlock)) (HO_248002.out) (fun k_ hk => ⟨⟨hk.1, ⟨hk.2.1, ⟨hk.2.2.2.1, hk.2.2.2.2⟩⟩⟩, hk.2.2.1⟩))).2.1 (Kd.V_F (Kd.V_mono (ok' := (fun k_ => ((fun k_ => (P0_ k_ ∨ w.heap.size ≤ k_) ∧ some k_ ≠ (.slice Ao10 x4_1.length co10 : Value).ownBlock ∧ some k_ ≠ (v244 : Value).ownBlock ∧ k_ ≠ gb247)) k_ ∧ some k_ ≠ (u5 : Value).ownBlock)) (HO_248002.out) (fun k_ hk => ⟨⟨hk.1, ⟨hk.2.1, ⟨hk.2.2.2.1, hk.2.2.2.2⟩⟩⟩, hk.2.2.1⟩))))); (case aB => exact (by repeat (first | (with_reducible first | exact HB.out | apply bA | apply bN | apply bD | refine bS ?_ GE247.out) | exact HB.out))); (case aF => exact (fun k_ hk => ⟨(.inr (Nat.le_trans (below_size (by repeat (first | (with_reducible first | exact HB.out | apply bA | apply bN | apply bD | refine bS ?_ GE247.out) | exact HB.out))) hk)), Kd.fresh' (Kd.R_lt (by (with_reducible repeat (first | apply Kd.R_alloc | apply Kd.R_drewN | apply Kd.R_drew)); exact HO_4.out)) k_ hk, Kd.fresh' (Kd.R_lt (by (with_reducible repeat (first | apply Kd.R_alloc | apply Kd.R_drewN | apply Kd.R_drew)); exact HO_7.out)) k_ hk, Kd.freshB (g := gb247) (o := .cells #[.int .i64 (Go.bits .or .i64 (Go.bits .and .i64 ((rd_T24 l0 x6_1).f0) 239) 16), .int .i64 ((rd_T24 l0 x6_1).f1), .slice A246_2 ((rd_T24 l0 x6_1).f2).length c246_2] 24 (0, 0)) (by (with_reducible repeat (first | refine kN ?_ _ | refine kD ?_ | refine kA ?_ _)); exact BK247.out) k_ hk⟩)); (case aO => exact (by (with_reducible repeat (first | apply Kd.N_alloc | apply Kd.N_drewN | apply Kd.N_drew)); exact HO_5.out)); (case aS => exact (below_size (by repeat (first | (with_reducible first | exact HB.out | apply bA | apply bN | apply bD | refine bS ?_ GE247.out) | exact HB.out)))); (case aL => have := LMc26.out; omega); intro v249 w32 ho hb hg hat; rw [← Ny248.out] at ho; have n0_ := Aside0.mk (Kd.V_afterv (ok := (fun k_ => (P0_ k_ ∨ w.heap.size ≤ k_) ∧ some k_ ≠ (.slice Ao10 x4_1.length co10 : Value).ownBlock ∧ some k_ ≠ (v244 : Value).ownBlock ∧ k_ ≠ gb247)) (by (with_reducible repeat (first | apply Kd.V_alloc | apply Kd.V_drewN | apply Kd.V_drew)); exact Kd.V_mono HO_0.out (fun _ hk => ⟨⟨hk.1, ⟨hk.2.1, ⟨hk.2.2.2.1, hk.2.2.2.2⟩⟩⟩, hk.2.2.1⟩)) hg hat); have n1_ := Aside0.mk (Kd.R_over' (by (with_reducible repeat (first | apply Kd.R_alloc | apply Kd.R_drewN | apply Kd.R_drew)); exact HO_4.out) (Kd.N_typed (by (with_reducible repeat (first | apply Kd.N_alloc | apply Kd.N_drewN | apply Kd.N_drew)); exact HO_5.out)) (by decide) hg); have n2_ := Aside0.mk (Kd.R_over' (by (with_reducible repeat (first | apply Kd.R_alloc | apply Kd.R_drewN | apply Kd.R_drew)); exact HO_7.out) (Kd.N_typed (by (with_reducible repeat (first | apply Kd.N_alloc | apply Kd.N_drewN | apply Kd.N_drew)); exact HO_5.out)) (by decide) hg); have n3_ := Aside0.mk (Kd.V_afterv (ok := (fun k_ => (P0_ k_ ∨ w.heap.size ≤ k_) ∧ some k_ ≠ (.slice Ao10 x4_1.length co10 : Value).ownBlock ∧ some k_ ≠ (v244 : Value).ownBlock ∧ k_ ≠ gb247)) (by (with_reducible repeat (first | apply Kd.V_alloc | apply Kd.V_drewN | apply Kd.V_drew)); exact Kd.V_mono HO_248002.out (fun _ hk => ⟨⟨hk.1, ⟨hk.2.1, ⟨hk.2.2.2.1, hk.2.2.2.2⟩⟩⟩, hk.2.2.1⟩)) hg hat); have n4_ := Aside0.mk (blk_grown (g := gb247) (o := .cells #[.int .i64 (Go.bits .or .i64 (Go.bits .and .i64 ((rd_T24 l0 x6_1).f0) 239) 16), .int .i64 ((rd_T24 l0 x6_1).f1), .slice A246_2 ((rd_T24 l0 x6_1).f2).length c246_2] 24 (0, 0)) (by (with_reducible repeat (first | refine kN ?_ _ | refine kD ?_ | refine kA ?_ _)); exact BK247.out) hg (Kd.N_away HO_5.out (fun _ hk => hk.2.2.2))); have n5_ := Aside0.mk (hb); have n6_ := Aside0.mk (ho); clear HO_0; clear HO_4; clear HO_7; clear HO_248002; clear BK247; clear HB; clear HO_5; have HO_0 := n0_; have HO_4 := n1_; have HO_7 := n2_; have HO_248002 := n3_; have BK247 := n4_; have HB := n5_; have HO250 := n6_; clear n0_ n1_ n2_ n3_ n4_ n5_ n6_; clear ho hb hg hat))
           go_roundg kj8
           case measure => have := HK1.out; have := HJ8.out; omega
           case rel => exact ⟨(t243), (y248), (wrap64 (x6_1 + 1)), (by first | rfl | (simp; done) | (simp [*]; done)), H', ⟨by have := HK1.out; have := HJ8.out; omega⟩, ⟨by (with_reducible repeat (first | apply Kd.V_alloc | apply Kd.V_drewN | apply Kd.V_drew)); exact Kd.V_mono HO_0.out (fun _ hk => ⟨hk.1.1, ⟨hk.1.2.2.1, hk.2⟩⟩)⟩, ⟨by (with_reducible repeat (first | apply Kd.R_alloc | apply Kd.R_drewN | apply Kd.R_drew)); exact Kd.R_mono HO_7.out (fun _ hk => hk.1)⟩, ⟨by (with_reducible repeat (first | apply Kd.N_alloc | apply Kd.N_drewN | apply Kd.N_drew)); exact Kd.N_mono HO250.out (fun _ hk => ⟨hk.1, hk.2.2.1⟩)⟩, ⟨by repeat (first | (with_reducible first | exact HB.out | apply bA | apply bN | apply bD | refine bS ?_ GE247.out) | exact HB.out)⟩⟩
          ·
           rw [if_neg c26] at H
           exact absurd H (by simp)
         ·
          rw [if_neg c25] at H
          have c25b0 : decide (255 < (((rd_T24 l0 x6_1).f2).length : Int)) = false := decide_eq_false c25
          have c25b1 : decide (255 < ((rd_T24 l0 x6_1).f2).length) = false := decide_eq_false (by omega)
          clear c25
          by_cases c33 : x5_1.length < 3518437208883
          ·
           rw [if_pos c33] at H
           have LMc33 := Aside0.mk c33
           clear c33
           obtain ⟨y251, hy251⟩ : ∃ y_ : List (S24), y_ = (x5_1 ++ [(⟨Go.bits .and .i64 ((rd_T24 l0 x6_1).f0) 239, ((rd_T24 l0 x6_1).f1), ((rd_T24 l0 x6_1).f2)⟩ : S24)]) := ⟨_, rfl⟩
           replace H : (ridgewaylaw07_AttrBack.l0 kj8 l0 t235 t243 y251 (wrap64 (x6_1 + 1))) = some true := by first | (rw [hy251]; with_reducible exact H) | (have H2_ := (Option.bind_some _ _).symm.trans H; rw [hy251]; with_reducible exact H2_) | (have H2_ := (Option.bind_some _ _).symm.trans H; with_reducible exact H2_) | with_reducible exact H | (rw [hy251]; exact H) | exact H
           have Ny251 := Aside0.mk hy251
           clear hy251
           have H' := Aside0.mk H
           clear H
           have hcz34_0 : wc.cell? ⟨gb247, 0, none⟩ = some (.int .i64 ((rd_T24 l0 x6_1).f0)) := (blk_cell BK247.out 0).trans rfl
           have hcz34_1 : wc.cell? ⟨gb247, 1, none⟩ = some (.int .i64 ((rd_T24 l0 x6_1).f1)) := (blk_cell BK247.out 1).trans rfl
           have hcz34_2 : wc.cell? ⟨gb247, 2, none⟩ = some (.slice A246_2 ((rd_T24 l0 x6_1).f2).length c246_2) := (blk_cell BK247.out 2).trans rfl
           have hfz34_0 := blk_frozen BK247.out 0
           have hfz34_1 := blk_frozen BK247.out 1
           have hfz34_2 := blk_frozen BK247.out 2
           go_wp2_with (first | ((with_reducible refine gate_store (t := 3) (p := 58) rfl ?_); refine store_event (t := 3) (p := 58) (v := ?vo_w35) (w1 := (wc.setCell ⟨gb247, 0, none⟩ (.int .i64 (Go.bits .and .i64 ((rd_T24 l0 x6_1).f0) 239)))) ?hg ?ho ?hn ?hr ?_; (case ho => rfl); (case hg => rfl); (case hn => rfl); (case hr => first | (go_simp; done) | (go_simp; rfl)); intro w35 hw; have n0_ : Aside0 (Kd.V k24 24 w35 w.heap.size (fun k_ => (P0_ k_ ∨ w.heap.size ≤ k_) ∧ some k_ ≠ (.slice Ao10 x4_1.length co10 : Value).ownBlock ∧ some k_ ≠ (u5 : Value).ownBlock ∧ some k_ ≠ (v244 : Value).ownBlock ∧ k_ ≠ gb247) (.slice (some ad242) l0.length c0) l0) := ⟨(by rw [hw]; exact (by (with_reducible repeat (first | apply Kd.V_alloc | apply Kd.V_drewN | apply Kd.V_drew)); exact Kd.V_mono (Kd.V_far (p := ⟨gb247, 0, none⟩) (Kd.V_mono HO_0.out (fun k_ hk => (⟨hk, hk.2.2.2.2⟩ : _ ∧ k_ ≠ gb247))) (fun _ hk => hk.2) (.int .i64 (Go.bits .and .i64 ((rd_T24 l0 x6_1).f0) 239))) (fun _ hk => ⟨hk.1.1, ⟨hk.1.2.1, ⟨hk.1.2.2.1, ⟨hk.1.2.2.2.1, hk.1.2.2.2.2⟩⟩⟩⟩)))⟩; have n1_ : Aside0 (Kd.R (Kd.int .u8) 5 w35 w.heap.size (fun k_ => (w.heap.size ≤ k_) ∧ some k_ ≠ (v244 : Value).ownBlock) (.slice Ao10 x4_1.length co10) x4_1) := ⟨(by rw [hw]; exact (by (with_reducible repeat (first | apply Kd.R_alloc | apply Kd.R_drewN | apply Kd.R_drew)); exact Kd.R_mono (Kd.R_far (p := ⟨gb247, 0, none⟩) (Kd.R_types HO_4.out BK247.out (by decide)) (fun _ hk => hk.2) (.int .i64 (Go.bits .and .i64 ((rd_T24 l0 x6_1).f0) 239))) (fun _ hk => ⟨hk.1.1, hk.1.2⟩)))⟩; have n2_ : Aside0 (Kd.N k24 24 w35 w.heap.size (fun k_ => (P0_ k_ ∨ w.heap.size ≤ k_) ∧ some k_ ≠ (.slice Ao10 x4_1.length co10 : Value).ownBlock ∧ some k_ ≠ (v244 : Value).ownBlock ∧ k_ ≠ gb247) u5 x5_1) := ⟨(by rw [hw]; exact (by (with_reducible repeat (first | apply Kd.N_alloc | apply Kd.N_drewN | apply Kd.N_drew)); exact Kd.N_mono (Kd.N_far (p := ⟨gb247, 0, none⟩) (Kd.N_mono HO_5.out (fun k_ hk => (⟨hk, hk.2.2.2⟩ : _ ∧ k_ ≠ gb247))) (fun _ hk => hk.2) (.int .i64 (Go.bits .and .i64 ((rd_T24 l0 x6_1).f0) 239))) (fun _ hk => ⟨hk.1.1, ⟨hk.1.2.1, ⟨hk.1.2.2.1, hk.1.2.2.2⟩⟩⟩)))⟩; have n3_ : Aside0 (Kd.R (Kd.int .u8) 5 w35 w.heap.size (fun k_ => (w.heap.size ≤ k_) ∧ some k_ ≠ (.slice Ao10 x4_1.length co10 : Value).ownBlock) v244 t243) := ⟨(by rw [hw]; exact (by (with_reducible repeat (first | apply Kd.R_alloc | apply Kd.R_drewN | apply Kd.R_drew)); exact Kd.R_mono (Kd.R_far (p := ⟨gb247, 0, none⟩) (Kd.R_types HO_7.out BK247.out (by decide)) (fun _ hk => hk.2) (.int .i64 (Go.bits .and .i64 ((rd_T24 l0 x6_1).f0) 239))) (fun _ hk => ⟨hk.1.1, hk.1.2⟩)))⟩; have n4_ : Aside0 (Kd.V (Kd.int .u8) 5 w35 w.heap.size (fun k_ => (P0_ k_ ∨ w.heap.size ≤ k_) ∧ some k_ ≠ (.slice Ao10 x4_1.length co10 : Value).ownBlock ∧ some k_ ≠ (u5 : Value).ownBlock ∧ some k_ ≠ (v244 : Value).ownBlock ∧ k_ ≠ gb247) (.slice A246_2 ((rd_T24 l0 x6_1).f2).length c246_2) ((rd_T24 l0 x6_1).f2)) := ⟨(by rw [hw]; exact (by (with_reducible repeat (first | apply Kd.V_alloc | apply Kd.V_drewN | apply Kd.V_drew)); exact Kd.V_mono (Kd.V_far (p := ⟨gb247, 0, none⟩) (Kd.V_mono HO_248002.out (fun k_ hk => (⟨hk, hk.2.2.2.2⟩ : _ ∧ k_ ≠ gb247))) (fun _ hk => hk.2) (.int .i64 (Go.bits .and .i64 ((rd_T24 l0 x6_1).f0) 239))) (fun _ hk => ⟨hk.1.1, ⟨hk.1.2.1, ⟨hk.1.2.2.1, ⟨hk.1.2.2.2.1, hk.1.2.2.2.2⟩⟩⟩⟩)))⟩; have n5_ : Aside0 (w35.heap[gb247]? = some (.cells #[.int .i64 (Go.bits .and .i64 ((rd_T24 l0 x6_1).f0) 239), .int .i64 ((rd_T24 l0 x6_1).f1), .slice A246_2 ((rd_T24 l0 x6_1).f2).length c246_2] 24 (0, 0))) := ⟨(by rw [hw]; exact (by (with_reducible repeat (first | refine kN ?_ _ | refine kD ?_ | refine kA ?_ _)); refine blk_put (cs := #[.int .i64 ((rd_T24 l0 x6_1).f0), .int .i64 ((rd_T24 l0 x6_1).f1), .slice A246_2 ((rd_T24 l0 x6_1).f2).length c246_2]) ?_ 0 _ rfl; (with_reducible repeat (first | refine kN ?_ _ | refine kD ?_ | refine kA ?_ _)); exact BK247.out))⟩; have n6_ : Aside0 (Below w.heap.size w w35) := ⟨(by rw [hw]; exact (by repeat (first | (with_reducible first | exact HB.out | apply bA | apply bN | apply bD | refine bS ?_ GE247.out) | exact HB.out)))⟩; clear hw; clear HO_0; clear HO_4; clear HO_5; clear HO_7; clear HO_248002; clear BK247; clear HB; have HO_0 := n0_; have HO_4 := n1_; have HO_5 := n2_; have HO_7 := n3_; have HO_248002 := n4_; have BK247 := n5_; have HB := n6_; clear n0_ n1_ n2_ n3_ n4_ n5_ n6_; have hcz36_0 : w35.cell? ⟨gb247, 0, none⟩ = some (.int .i64 (Go.bits .and .i64 ((rd_T24 l0 x6_1).f0) 239)) := (blk_cell BK247.out 0).trans rfl; have hcz36_1 : w35.cell? ⟨gb247, 1, none⟩ = some (.int .i64 ((rd_T24 l0 x6_1).f1)) := (blk_cell BK247.out 1).trans rfl; have hcz36_2 : w35.cell? ⟨gb247, 2, none⟩ = some (.slice A246_2 ((rd_T24 l0 x6_1).f2).length c246_2) := (blk_cell BK247.out 2).trans rfl; have hfz36_0 := blk_frozen BK247.out 0; have hfz36_1 := blk_frozen BK247.out 1; have hfz36_2 := blk_frozen BK247.out 2) | ((with_reducible refine gate_builtin (b := .append) (xs := #[.tmp 68, .tmp 70]) rfl ?_); at_builtin; refine Kd.N_append k24 (w0 := w) w.heap.size rfl (.tmp 68) (.tmp 70) 31 24 (.agg #[(.int .i64 0), (.int .i64 0), (.slice none 0 0)]) 40 rfl Try.underlying31 info24 rfl (by decide) (by omega) u5 x5_1 (⟨Go.bits .and .i64 ((rd_T24 l0 x6_1).f0) 239, ((rd_T24 l0 x6_1).f1), ((rd_T24 l0 x6_1).f2)⟩ : S24) [.int .i64 (Go.bits .and .i64 ((rd_T24 l0 x6_1).f0) 239), .int .i64 ((rd_T24 l0 x6_1).f1), .slice A246_2 ((rd_T24 l0 x6_1).f2).length c246_2] (fun k_ => (P0_ k_ ∨ w.heap.size ≤ k_) ∧ some k_ ≠ (.slice Ao10 x4_1.length co10 : Value).ownBlock ∧ some k_ ≠ (v244 : Value).ownBlock ∧ k_ ≠ gb247) (fun k_ => ((fun k_ => (P0_ k_ ∨ w.heap.size ≤ k_) ∧ some k_ ≠ (.slice Ao10 x4_1.length co10 : Value).ownBlock ∧ some k_ ≠ (v244 : Value).ownBlock ∧ k_ ≠ gb247)) k_ ∧ some k_ ≠ (u5 : Value).ownBlock) rfl rfl ?aP (fun _ hk => hk) ?aF ?aO ?aB ?aS ?aL ?_; (case aP => exact (k24_mkF _ _ (⟨Go.bits .and .i64 ((rd_T24 l0 x6_1).f0) 239, ((rd_T24 l0 x6_1).f1), ((rd_T24 l0 x6_1).f2)⟩ : S24) (Kd.V_reads' (Kd.V_mono (ok' := (fun k_ => ((fun k_ => (P0_ k_ ∨ w.heap.size ≤ k_) ∧ some k_ ≠ (.slice Ao10 x4_1.length co10 : Value).ownBlock ∧ some k_ ≠ (v244 : Value).ownBlock ∧ k_ ≠ gb247)) k_ ∧ some k_ ≠ (u5 : Value).ownBlock)) (HO_248002.out) (fun k_ hk => ⟨⟨hk.1, ⟨hk.2.1, ⟨hk.2.2.2.1, hk.2.2.2.2⟩⟩⟩, hk.2.2.1⟩))).2.1 (Kd.V_F (Kd.V_mono (ok' := (fun k_ => ((fun k_ => (P0_ k_ ∨ w.heap.size ≤ k_) ∧ some k_ ≠ (.slice Ao10 x4_1.length co10 : Value).ownBlock ∧ some k_ ≠ (v244 : Value).ownBlock ∧ k_ ≠ gb247)) k_ ∧ some k_ ≠ (u5 : Value).ownBlock)) (HO_248002.out) (fun k_ hk => ⟨⟨hk.1, ⟨hk.2.1, ⟨hk.2.2.2.1, hk.2.2.2.2⟩⟩⟩, hk.2.2.1⟩))))); (case aB => exact (by repeat (first | (with_reducible first | exact HB.out | apply bA | apply bN | apply bD | refine bS ?_ GE247.out) | exact HB.out))); (case aF => exact (fun k_ hk => ⟨(.inr (Nat.le_trans (below_size (by repeat (first | (with_reducible first | exact HB.out | apply bA | apply bN | apply bD | refine bS ?_ GE247.out) | exact HB.out))) hk)), Kd.fresh' (Kd.R_lt (by (with_reducible repeat (first | apply Kd.R_alloc | apply Kd.R_drewN | apply Kd.R_drew)); exact HO_4.out)) k_ hk, Kd.fresh' (Kd.R_lt (by (with_reducible repeat (first | apply Kd.R_alloc | apply Kd.R_drewN | apply Kd.R_drew)); exact HO_7.out)) k_ hk, Kd.freshB (g := gb247) (o := .cells #[.int .i64 (Go.bits .and .i64 ((rd_T24 l0 x6_1).f0) 239), .int .i64 ((rd_T24 l0 x6_1).f1), .slice A246_2 ((rd_T24 l0 x6_1).f2).length c246_2] 24 (0, 0)) (by (with_reducible repeat (first | refine kN ?_ _ | refine kD ?_ | refine kA ?_ _)); exact BK247.out) k_ hk⟩)); (case aO => exact (by (with_reducible repeat (first | apply Kd.N_alloc | apply Kd.N_drewN | apply Kd.N_drew)); exact HO_5.out)); (case aS => exact (below_size (by repeat (first | (with_reducible first | exact HB.out | apply bA | apply bN | apply bD | refine bS ?_ GE247.out) | exact HB.out)))); (case aL => have := LMc33.out; omega); intro v252 w37 ho hb hg hat; rw [← Ny251.out] at ho; have n0_ := Aside0.mk (Kd.V_afterv (ok := (fun k_ => (P0_ k_ ∨ w.heap.size ≤ k_) ∧ some k_ ≠ (.slice Ao10 x4_1.length co10 : Value).ownBlock ∧ some k_ ≠ (v244 : Value).ownBlock ∧ k_ ≠ gb247)) (by (with_reducible repeat (first | apply Kd.V_alloc | apply Kd.V_drewN | apply Kd.V_drew)); exact Kd.V_mono HO_0.out (fun _ hk => ⟨⟨hk.1, ⟨hk.2.1, ⟨hk.2.2.2.1, hk.2.2.2.2⟩⟩⟩, hk.2.2.1⟩)) hg hat); have n1_ := Aside0.mk (Kd.R_over' (by (with_reducible repeat (first | apply Kd.R_alloc | apply Kd.R_drewN | apply Kd.R_drew)); exact HO_4.out) (Kd.N_typed (by (with_reducible repeat (first | apply Kd.N_alloc | apply Kd.N_drewN | apply Kd.N_drew)); exact HO_5.out)) (by decide) hg); have n2_ := Aside0.mk (Kd.R_over' (by (with_reducible repeat (first | apply Kd.R_alloc | apply Kd.R_drewN | apply Kd.R_drew)); exact HO_7.out) (Kd.N_typed (by (with_reducible repeat (first | apply Kd.N_alloc | apply Kd.N_drewN | apply Kd.N_drew)); exact HO_5.out)) (by decide) hg); have n3_ := Aside0.mk (Kd.V_afterv (ok := (fun k_ => (P0_ k_ ∨ w.heap.size ≤ k_) ∧ some k_ ≠ (.slice Ao10 x4_1.length co10 : Value).ownBlock ∧ some k_ ≠ (v244 : Value).ownBlock ∧ k_ ≠ gb247)) (by (with_reducible repeat (first | apply Kd.V_alloc | apply Kd.V_drewN | apply Kd.V_drew)); exact Kd.V_mono HO_248002.out (fun _ hk => ⟨⟨hk.1, ⟨hk.2.1, ⟨hk.2.2.2.1, hk.2.2.2.2⟩⟩⟩, hk.2.2.1⟩)) hg hat); have n4_ := Aside0.mk (blk_grown (g := gb247) (o := .cells #[.int .i64 (Go.bits .and .i64 ((rd_T24 l0 x6_1).f0) 239), .int .i64 ((rd_T24 l0 x6_1).f1), .slice A246_2 ((rd_T24 l0 x6_1).f2).length c246_2] 24 (0, 0)) (by (with_reducible repeat (first | refine kN ?_ _ | refine kD ?_ | refine kA ?_ _)); exact BK247.out) hg (Kd.N_away HO_5.out (fun _ hk => hk.2.2.2))); have n5_ := Aside0.mk (hb); have n6_ := Aside0.mk (ho); clear HO_0; clear HO_4; clear HO_7; clear HO_248002; clear BK247; clear HB; clear HO_5; have HO_0 := n0_; have HO_4 := n1_; have HO_7 := n2_; have HO_248002 := n3_; have BK247 := n4_; have HB := n5_; have HO253 := n6_; clear n0_ n1_ n2_ n3_ n4_ n5_ n6_; clear ho hb hg hat))
           go_roundg kj8
           case measure => have := HK1.out; have := HJ8.out; omega
           case rel => exact ⟨(t243), (y251), (wrap64 (x6_1 + 1)), (by first | rfl | (simp; done) | (simp [*]; done)), H', ⟨by have := HK1.out; have := HJ8.out; omega⟩, ⟨by (with_reducible repeat (first | apply Kd.V_alloc | apply Kd.V_drewN | apply Kd.V_drew)); exact Kd.V_mono HO_0.out (fun _ hk => ⟨hk.1.1, ⟨hk.1.2.2.1, hk.2⟩⟩)⟩, ⟨by (with_reducible repeat (first | apply Kd.R_alloc | apply Kd.R_drewN | apply Kd.R_drew)); exact Kd.R_mono HO_7.out (fun _ hk => hk.1)⟩, ⟨by (with_reducible repeat (first | apply Kd.N_alloc | apply Kd.N_drewN | apply Kd.N_drew)); exact Kd.N_mono HO253.out (fun _ hk => ⟨hk.1, hk.2.2.1⟩)⟩, ⟨by repeat (first | (with_reducible first | exact HB.out | apply bA | apply bN | apply bD | refine bS ?_ GE247.out) | exact HB.out)⟩⟩
          ·
           rw [if_neg c33] at H
           exact absurd H (by simp)
     ·
      rw [if_neg c7] at H
      exact absurd H (by simp)
    ·
     rw [if_neg c6] at H
     have c6b0 : decide (x6_1 < (l0.length : Int)) = false := decide_eq_false c6
     clear c6
     replace H := Option.bind_eq_some_iff.mp H
     obtain ⟨⟨t237, t240⟩, A380, H⟩ := H
     replace H : (if t235 = true then (if t240 = true then ((ridgewayref07_Same.f k1 t237 x5_1).bind fun t241 => (some t241)) else (some false)) else (some false)) = some true := H
     have A38 := Aside0.mk A380
     clear A380
     by_cases c39 : t235 = true
     ·
      subst c39
      have H1 : (if t240 = true then ((ridgewayref07_Same.f k1 t237 x5_1).bind fun t241 => (some t241)) else (some false)) = some true := by rw [if_pos rfl] at H; first | done | exact H
      clear H
      have H := H1
      clear H1
      by_cases c40 : t240 = true
      ·
       subst c40
       have H1 : ((ridgewayref07_Same.f k1 t237 x5_1).bind fun t241 => (some t241)) = some true := by rw [if_pos rfl] at H; first | done | exact H
       clear H
       have H := H1
       clear H1
       replace H := Option.bind_eq_some_iff.mp H
       obtain ⟨t241, A410, H⟩ := H
       replace H : (some t241) = some true := H
       have A41 := Aside0.mk A410
       clear A410
       have HRL_ := Aside0.mk (Option.some.inj H)
       clear H
       obtain ⟨Ao42, co42, eo42⟩ := Kd.R_slice HO_4.out
       subst eo42
       go_wp2_with (first | ((with_reducible refine gate_callee (f := 13) rfl ?_); refine goesL_ (some 74) rfl rfl Try.func13 (by kernel_rfl) rfl #[.slice Ao42 x4_1.length co42] rfl (by (try simp only [List.map_toArray, List.map_cons, List.map_nil]); first | done | rfl | (simp only [List.length_drop, List.length_take]; rfl)) ?_; (with_reducible refine (attr_All.calls k1 (fun k_ => some k_ = (.slice Ao42 x4_1.length co42 : Value).ownBlock) _ _ x4_1 t237 true _ ?side1 A38.out).mono ?_); (case side1 => exact Kd.R_V (Kd.R_tight rfl (Kd.R_apart' (HO_4.out) (Kd.N_typed HO_5.out) (by decide)))); rintro e w43 ⟨v238, rfl, ho0, hb⟩; refine ⟨_, rfl, ?_⟩; have n0_ := Aside0.mk (Kd.V_elder' (by (with_reducible repeat (first | apply Kd.V_alloc | apply Kd.V_drewN | apply Kd.V_drew)); exact HO_0.out) (Kd.N_base ho0) hb); have n1_ := Aside0.mk (Kd.R_below (by (with_reducible repeat (first | apply Kd.R_alloc | apply Kd.R_drewN | apply Kd.R_drew)); exact HO_4.out) hb); have n2_ := Aside0.mk (Kd.N_elder' (by (with_reducible repeat (first | apply Kd.N_alloc | apply Kd.N_drewN | apply Kd.N_drew)); exact HO_5.out) (Kd.N_base ho0) hb); have n3_ := Aside0.mk (Kd.N_lower (Kd.N_mono (ok' := fun k_ => (P0_ k_ ∨ w.heap.size ≤ k_) ∧ some k_ ≠ (u5 : Value).ownBlock) ho0 (fun k_ hk_ => ⟨Or.elim hk_ (fun hs_ => (.inr (((Kd.R_apart' (HO_4.out) (Kd.N_typed HO_5.out) (by decide)).1 k_ hs_.symm).1))) (fun hn_ => (.inr (Nat.le_trans (below_size (by repeat (first | (with_reducible first | exact HB.out | apply bA | apply bN | apply bD) | exact HB.out))) hn_))), Or.elim hk_ (fun hs_ => ((Kd.R_apart' (HO_4.out) (Kd.N_typed HO_5.out) (by decide)).1 k_ hs_.symm).2) (fun hn_ => (Kd.fresh' (Kd.N_lt (by (with_reducible repeat (first | apply Kd.N_alloc | apply Kd.N_drewN | apply Kd.N_drew)); exact HO_5.out)) k_ hn_))⟩)) (below_size (by repeat (first | (with_reducible first | exact HB.out | apply bA | apply bN | apply bD) | exact HB.out)))); have n4_ := Aside0.mk (below_step (by repeat (first | (with_reducible first | exact HB.out | apply bA | apply bN | apply bD) | exact HB.out)) hb); clear HO_0; clear HO_4; clear HO_5; clear HB; have HO_0 := n0_; have HO_4 := n1_; have HO_5 := n2_; have HO239 := n3_; have HB := n4_; clear n0_ n1_ n2_ n3_ n4_; (try clear hb); (try clear hb2); (try clear hk); (try clear hi); (try clear ho0); obtain ⟨Ao44, co44, eo44⟩ := Kd.N_slice HO239.out; subst eo44; obtain ⟨Ao45, co45, eo45⟩ := Kd.N_slice HO_5.out; subst eo45) | (go_at_call 15; (with_reducible refine (ridgewayref07_Same.calls k1 _ _ t237 _ _ x5_1 t241 _ ?side1 ?side2 ?side3 ?side4 A41.out).mono ?_); (case side1 => repeat (first | exact (Kd.N_reads' HO239.out).2.2 | (with_reducible refine Kd.C_alloc ?_ _) | (with_reducible refine Kd.C_drewN ?_ _) | (with_reducible refine Kd.C_drew ?_))); (case side2 => exact (Kd.N_reads' HO239.out).2.1); (case side3 => repeat (first | exact (Kd.N_reads' HO_5.out).2.2 | (with_reducible refine Kd.C_alloc ?_ _) | (with_reducible refine Kd.C_drewN ?_ _) | (with_reducible refine Kd.C_drew ?_))); (case side4 => exact (Kd.N_reads' HO_5.out).2.1); rintro e w' ⟨rfl, ⟨nd, rfl⟩⟩))
       all_goals first | (go_ret; refine ⟨?_, ?_⟩; (focus (first | rfl | (simp [errW_none, errW_some] <;> rfl) | (rw [HRL_.out] <;> rfl) | (simp only [HRL_.out] <;> rfl) | (have h_ := HRL_.out; simp at h_; simp [h_]; done) | (have h_ := HRL_.out; simp [*] at h_ ⊢; done) | (simp [*, errW_none, errW_some] <;> rfl))); (focus (repeat (first | (with_reducible first | exact HB.out | apply bA | apply bN | apply bD) | exact HB.out)))) | (exfalso; simp_all; done)
      ·
       replace c40 := Bool.eq_false_iff.mpr c40
       subst c40
       have H1 : (some false) = some true := by rw [if_neg (show ¬ (false = true) by decide)] at H; first | done | exact H
       clear H
       have H := H1
       clear H1
       exact absurd H (by simp)
     ·
      replace c39 := Bool.eq_false_iff.mpr c39
      subst c39
      have H1 : (some false) = some true := by rw [if_neg (show ¬ (false = true) by decide)] at H; first | done | exact H
      clear H
      have H := H1
      clear H1
      exact absurd H (by simp)
 ·
  replace c4 := Bool.eq_false_iff.mpr c4
  subst c4
  have H1 : (some t235) = some true := by rw [if_neg (show ¬ (false = true) by decide)] at H; first | done | exact H
  clear H
  have H := H1
  clear H1
  have HRL_ := Aside0.mk (Option.some.inj H)
  clear H
  go_enter Try.func5, Try.ntmps5
  go_wp2_with (first | ((with_reducible refine gate_callee (f := 10) rfl ?_); refine goesL_ (some 11) rfl rfl Try.func10 (by kernel_rfl) rfl #[] rfl (by (try simp only [List.map_toArray, List.map_cons, List.map_nil]); first | done | rfl | (simp only [List.length_drop, List.length_take]; rfl)) ?_; (with_reducible refine (ridgewaylaw07_awake.calls  t235 _ A2.out).mono ?_); rintro e w46 ⟨rfl, hb⟩; refine ⟨_, rfl, ?_⟩; have n0_ := Aside0.mk (Kd.V_below (by (with_reducible repeat (first | apply Kd.V_alloc | apply Kd.V_drewN | apply Kd.V_drew)); exact HO0.out) hb); have n1_ := Aside0.mk (below_step (by repeat (first | (with_reducible first | exact HB.out | apply bA | apply bN | apply bD) | exact HB.out)) hb); clear HO0; clear HB; have HO0 := n0_; have HB := n1_; clear n0_ n1_; (try clear hb); (try clear hb2); (try clear hk); (try clear hi)) | ((with_reducible refine gate_callee (f := 22) rfl ?_); refine goesL_ (some 13) rfl rfl Try.func22 (by kernel_rfl) rfl #[.slice A0 l0.length c0] rfl (by (try simp only [List.map_toArray, List.map_cons, List.map_nil]); first | done | rfl | (simp only [List.length_drop, List.length_take]; rfl)) ?_; (with_reducible refine (ridgewayref07_Few.calls k _ _ l0 false _ ?side1 ?side2 A3.out).mono ?_); (case side1 => repeat (first | exact (Kd.V_reads' HO0.out).2.2 | (with_reducible refine Kd.C_alloc ?_ _) | (with_reducible refine Kd.C_drewN ?_ _) | (with_reducible refine Kd.C_drew ?_))); (case side2 => exact (Kd.V_reads' HO0.out).2.1); rintro e w' ⟨rfl, ⟨nd, rfl⟩⟩; refine ⟨_, rfl, ?_⟩))
  all_goals first | (go_ret; refine ⟨?_, ?_⟩; (focus (first | rfl | (simp [errW_none, errW_some] <;> rfl) | (rw [HRL_.out] <;> rfl) | (simp only [HRL_.out] <;> rfl) | (have h_ := HRL_.out; simp at h_; simp [h_]; done) | (have h_ := HRL_.out; simp [*] at h_ ⊢; done) | (simp [*, errW_none, errW_some] <;> rfl))); (focus (repeat (first | (with_reducible first | exact HB.out | apply bA | apply bN | apply bD) | exact HB.out)))) | (exfalso; simp_all; done)

/-- THE ONE PURE STATEMENT of ridgewaylaw07_AttrBack. -/
def ridgewaylaw07_AttrBack.Pure : Prop := ∀ (l0 : List (S24)), (l0.length ≤ maxLen ∧ ∀ y ∈ l0, wf24 y) → ∃ k, ridgewaylaw07_AttrBack.f k l0 = some true

end Go.Proofs.Ytfmhclbcoladpaa.N
