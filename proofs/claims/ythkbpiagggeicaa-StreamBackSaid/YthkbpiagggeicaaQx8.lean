/- Each call of a Go function comes to what the Lean function of its name answers (written out by wip/tools/xprint.py, checked by Lean); conditions: those in each statement. -/
import Derived.Test.YthkbpiagggeicaaQx0
import Derived.Test.YthkbpiagggeicaaQx4
import Derived.Test.YthkbpiagggeicaaQx5
import Derived.Test.YthkbpiagggeicaaQx6
import Derived.Test.YthkbpiagggeicaaQx7
namespace Go.Proofs.Ythkbpiagggeicaa.Q
open Go.RowKit Go.Proofs.YthkbpiagggeicaaW.PrintWords Go.Proofs.YthkbpiagggeicaaW.PrintLast Go.Proofs.YthkbpiagggeicaaW.PrintMore Go.Proofs.YthkbpiagggeicaaW.PrintX
attribute [local go_sem] max2_int min2_int max_two min_two max_three min_three max_four min_four   -- for this text's walks alone
set_option linter.unusedVariables false
set_option linter.unusedSimpArgs false

/-! ### ridgewaylaw04_StreamBack: function 5 -/
mutual
def ridgewaylaw04_StreamBack.l0 : Nat → List (S43) → Int → Bool → List Int → List (S43) → Int → Option (Bool)
 | 0, _, _, _, _, _, _ => none
 | k + 1, x0, x1, x5, x6, x7, x8 => if x8 < (x0.length : Int) then (if 0 ≤ x8 then ((msg_Sane.f ((rd_T43 x0 x8).f0) ((rd_T43 x0 x8).f1)).bind fun t235 => (if t235 = true then (if x7.length < 4398046511104 then ((msg_Put.f k x6 ((rd_T43 x0 x8).f0) ((rd_T43 x0 x8).f1)).bind fun t241 => (ridgewaylaw04_StreamBack.l0 k x0 x1 x5 t241 (x7 ++ [(⟨(rd_T43 x0 x8).f0, (rd_T43 x0 x8).f1⟩ : S43)]) (wrap64 (x8 + 1)))) else (none)) else ((msg_Put.f k x6 ((rd_T43 x0 x8).f0) ((rd_T43 x0 x8).f1)).bind fun t245 => (ridgewaylaw04_StreamBack.l0 k x0 x1 x5 t245 x7 (wrap64 (x8 + 1)))))) else (none)) else (ridgewaylaw04_StreamBack.l1 k x5 x6 x7 (wrap64 (1 + (Go.bits .and .i64 x1 127))) ([] : List (S43)) ([] : List Int) false)
def ridgewaylaw04_StreamBack.l1 : Nat → Bool → List Int → List (S43) → Int → List (S43) → List Int → Bool → Option (Bool)
 | 0, _, _, _, _, _, _, _ => none
 | k + 1, x5, x6, x7, x9, x11, x249000, x249001 => if (x6.length : Int) > 0 then (if x9 > (x6.length : Int) then (ridgewaylaw04_StreamBack.j2 k x5 x6 x7 x9 x11 (x6.length : Int) x249000 x249001) else (ridgewaylaw04_StreamBack.j2 k x5 x6 x7 x9 x11 x9 x249000 x249001)) else (if x5 = true then ((ridgewayref03_SameAll.f k x11 x7).bind fun t249 => (if t249 = true then (if (x249000.length : Int) = 0 then (some (!x249001)) else (some false)) else (some false))) else (some false))
def ridgewaylaw04_StreamBack.j2 : Nat → Bool → List Int → List (S43) → Int → List (S43) → Int → List Int → Bool → Option (Bool)
 | 0, _, _, _, _, _, _, _, _ => none
 | k + 1, x5, x6, x7, x9, x11, x12, x249000, x249001 => if 0 ≤ x12 then (if x12 ≤ (x6.length : Int) then ((stream_Feed.f x249000 x249001 (x6.take (x12 : Int).toNat)).bind fun bt255 => (if bt255.2.2.2.1 = 0 then (if x11.length + bt255.2.2.1.length < 4398046511104 then (ridgewaylaw04_StreamBack.l1 k x5 (x6.drop (x12 : Int).toNat) x7 x9 (x11 ++ bt255.2.2.1) bt255.1 bt255.2.1) else (none)) else (some false))) else (none)) else (none)
end
def ridgewaylaw04_StreamBack.f (k : Nat) (l0 : List (S43)) (a1 : Int) : Option (Bool) := (ridgewaylaw04_awake.f).bind fun t232 => ((ridgewayref03_Few.f k l0).bind fun t233 => (if t233 = true then (ridgewaylaw04_StreamBack.l0 k l0 a1 t232 ([] : List Int) ([] : List (S43)) 0) else (some t232)))
theorem ridgewaylaw04_StreamBack.mono_l : ∀ k, (∀ y0 y1 y2 y3 y4 y5, LeO (ridgewaylaw04_StreamBack.l0 k y0 y1 y2 y3 y4 y5) (ridgewaylaw04_StreamBack.l0 (k + 1) y0 y1 y2 y3 y4 y5)) ∧ (∀ y0 y1 y2 y3 y4 y5 y6, LeO (ridgewaylaw04_StreamBack.l1 k y0 y1 y2 y3 y4 y5 y6) (ridgewaylaw04_StreamBack.l1 (k + 1) y0 y1 y2 y3 y4 y5 y6)) ∧ (∀ y0 y1 y2 y3 y4 y5 y6 y7, LeO (ridgewaylaw04_StreamBack.j2 k y0 y1 y2 y3 y4 y5 y6 y7) (ridgewaylaw04_StreamBack.j2 (k + 1) y0 y1 y2 y3 y4 y5 y6 y7))
 | 0 => ⟨fun _ _ _ _ _ _ r h => by simp [ridgewaylaw04_StreamBack.l0] at h, fun _ _ _ _ _ _ _ r h => by simp [ridgewaylaw04_StreamBack.l1] at h, fun _ _ _ _ _ _ _ _ r h => by simp [ridgewaylaw04_StreamBack.j2] at h⟩
 | k + 1 => by
  obtain ⟨ih0, ih1, ih2⟩ := ridgewaylaw04_StreamBack.mono_l k
  refine ⟨?_, ?_, ?_⟩
  ·
   intro y0 y1 y2 y3 y4 y5
   unfold ridgewaylaw04_StreamBack.l0
   repeat' first
   | (with_reducible exact ih0 _ _ _ _ _ _)
   | (with_reducible exact ih1 _ _ _ _ _ _ _)
   | (with_reducible exact ih2 _ _ _ _ _ _ _ _)
   | (with_reducible exact msg_Put.mono _ _ _ _)
   | (with_reducible exact ridgewayref03_Few.mono _ _)
   | (with_reducible exact ridgewayref03_SameAll.mono _ _ _)
   | (with_reducible exact LeO.refl _)
   | (with_reducible exact LeO.none _)
   | (with_reducible refine LeO.ite ?_ ?_)
   | (with_reducible refine LeO.bind ?_ (fun _ => ?_))
   | exact ih0 _ _ _ _ _ _
   | exact ih1 _ _ _ _ _ _ _
   | exact ih2 _ _ _ _ _ _ _ _
   | exact msg_Put.mono _ _ _ _
   | exact ridgewayref03_Few.mono _ _
   | exact ridgewayref03_SameAll.mono _ _ _
   | exact LeO.none _
   | refine LeO.ite ?_ ?_
   | refine LeO.bind ?_ (fun _ => ?_)
  ·
   intro y0 y1 y2 y3 y4 y5 y6
   unfold ridgewaylaw04_StreamBack.l1
   repeat' first
   | (with_reducible exact ih0 _ _ _ _ _ _)
   | (with_reducible exact ih1 _ _ _ _ _ _ _)
   | (with_reducible exact ih2 _ _ _ _ _ _ _ _)
   | (with_reducible exact msg_Put.mono _ _ _ _)
   | (with_reducible exact ridgewayref03_Few.mono _ _)
   | (with_reducible exact ridgewayref03_SameAll.mono _ _ _)
   | (with_reducible exact LeO.refl _)
   | (with_reducible exact LeO.none _)
   | (with_reducible refine LeO.ite ?_ ?_)
   | (with_reducible refine LeO.bind ?_ (fun _ => ?_))
   | exact ih0 _ _ _ _ _ _
   | exact ih1 _ _ _ _ _ _ _
   | exact ih2 _ _ _ _ _ _ _ _
   | exact msg_Put.mono _ _ _ _
   | exact ridgewayref03_Few.mono _ _
   | exact ridgewayref03_SameAll.mono _ _ _
   | exact LeO.none _
   | refine LeO.ite ?_ ?_
   | refine LeO.bind ?_ (fun _ => ?_)
  ·
   intro y0 y1 y2 y3 y4 y5 y6 y7
   unfold ridgewaylaw04_StreamBack.j2
   repeat' first
   | (with_reducible exact ih0 _ _ _ _ _ _)
   | (with_reducible exact ih1 _ _ _ _ _ _ _)
   | (with_reducible exact ih2 _ _ _ _ _ _ _ _)
   | (with_reducible exact msg_Put.mono _ _ _ _)
   | (with_reducible exact ridgewayref03_Few.mono _ _)
   | (with_reducible exact ridgewayref03_SameAll.mono _ _ _)
   | (with_reducible exact LeO.refl _)
   | (with_reducible exact LeO.none _)
   | (with_reducible refine LeO.ite ?_ ?_)
   | (with_reducible refine LeO.bind ?_ (fun _ => ?_))
   | exact ih0 _ _ _ _ _ _
   | exact ih1 _ _ _ _ _ _ _
   | exact ih2 _ _ _ _ _ _ _ _
   | exact msg_Put.mono _ _ _ _
   | exact ridgewayref03_Few.mono _ _
   | exact ridgewayref03_SameAll.mono _ _ _
   | exact LeO.none _
   | refine LeO.ite ?_ ?_
   | refine LeO.bind ?_ (fun _ => ?_)
theorem ridgewaylaw04_StreamBack.mono : ∀ a0 a1 k, LeO (ridgewaylaw04_StreamBack.f k a0 a1) (ridgewaylaw04_StreamBack.f (k + 1) a0 a1) := by
 intro a0 a1 k
 obtain ⟨ih0, ih1, ih2⟩ := ridgewaylaw04_StreamBack.mono_l k
 unfold ridgewaylaw04_StreamBack.f
 repeat' first
   | (with_reducible exact ih0 _ _ _ _ _ _)
   | (with_reducible exact ih1 _ _ _ _ _ _ _)
   | (with_reducible exact ih2 _ _ _ _ _ _ _ _)
   | (with_reducible exact msg_Put.mono _ _ _ _)
   | (with_reducible exact ridgewayref03_Few.mono _ _)
   | (with_reducible exact ridgewayref03_SameAll.mono _ _ _)
   | (with_reducible exact LeO.refl _)
   | (with_reducible exact LeO.none _)
   | (with_reducible refine LeO.ite ?_ ?_)
   | (with_reducible refine LeO.bind ?_ (fun _ => ?_))
   | exact ih0 _ _ _ _ _ _
   | exact ih1 _ _ _ _ _ _ _
   | exact ih2 _ _ _ _ _ _ _ _
   | exact msg_Put.mono _ _ _ _
   | exact ridgewayref03_Few.mono _ _
   | exact ridgewayref03_SameAll.mono _ _ _
   | exact LeO.none _
   | refine LeO.ite ?_ ?_
   | refine LeO.bind ?_ (fun _ => ?_)
def ridgewaylaw04_StreamBack.T19 : Bool × List (List Nat × List Nat) := (true, [([], []), ([], []), ([], []), ([1, 2], [1, 2]), ([0, 3], [0, 3]), ([4], [4]), ([5], [5]), ([5], [5]), ([5], [5]), ([], []), ([], []), ([9, 6, 4, 0, 1, 2, 3, 4, 5, 6, 9, 10], [6, 9]), ([7, 11, 0, 1, 2, 3, 4, 5, 6, 7, 9, 10, 11], [7]), ([10, 8, 12, 0, 1, 2, 3, 4, 5, 6, 7, 8, 9, 10, 11, 12], [8, 10])])
def ridgewaylaw04_StreamBack.B19 : List Nat := [0, 0, 0, 6, 15, 31, 63, 63, 63, 0, 0, 1663, 3839, 8191]
theorem ridgewaylaw04_StreamBack.tab19 : rtab .any (opsOf Try.f5 19) = ridgewaylaw04_StreamBack.T19 := by kernel_rfl
theorem ridgewaylaw04_StreamBack.bits19 : waitsOk ridgewaylaw04_StreamBack.T19.2 ridgewaylaw04_StreamBack.B19 = true := by kernel_rfl
set_option maxHeartbeats 8000000 in
set_option maxRecDepth 100000 in
theorem ridgewaylaw04_StreamBack.calls (k : Nat) (P0_ : Nat → Prop) (A0 : Option Addr) (c0 : Nat) (l0 : List (S43)) (a1 : Int) (w : World) (hs0 : Kd.V k43 43 w w.heap.size (fun k_ => P0_ k_) (.slice A0 l0.length c0) l0) (h : ridgewaylaw04_StreamBack.f k l0 a1 = some true) :
  Calls Try.prog 5 #[.slice A0 l0.length c0, .int .i64 a1] w fun e w' => e = .returned (.bool true) ∧ Below w.heap.size w w' := by
 have hu43 := Try.underlying43
 have hu26 := Try.underlying26
 have hu29 := Try.underlying29
 have HO0 := Aside0.mk (show Kd.V k43 43 w w.heap.size (fun k_ => (P0_ k_ ∨ w.heap.size ≤ k_)) (.slice A0 l0.length c0) l0 from Kd.V_mono hs0 (fun k_ hk => .inl hk))
 have HB := Aside0.mk (Below.refl w.heap.size w)
 have H : ((ridgewaylaw04_awake.f).bind fun t232 => ((ridgewayref03_Few.f k l0).bind fun t233 => (if t233 = true then (ridgewaylaw04_StreamBack.l0 k l0 a1 t232 ([] : List Int) ([] : List (S43)) 0) else (some t232)))) = some true := h
 clear h
 replace H := Option.bind_eq_some_iff.mp H
 obtain ⟨t232, A30, H⟩ := H
 replace H : ((ridgewayref03_Few.f k l0).bind fun t233 => (if t233 = true then (ridgewaylaw04_StreamBack.l0 k l0 a1 t232 ([] : List Int) ([] : List (S43)) 0) else (some t232))) = some true := H
 have A3 := Aside0.mk A30
 clear A30
 replace H := Option.bind_eq_some_iff.mp H
 obtain ⟨t233, A40, H⟩ := H
 replace H : (if t233 = true then (ridgewaylaw04_StreamBack.l0 k l0 a1 t232 ([] : List Int) ([] : List (S43)) 0) else (some t232)) = some true := H
 have A4 := Aside0.mk A40
 clear A40
 by_cases c5 : t233 = true
 ·
  subst c5
  have H1 : (ridgewaylaw04_StreamBack.l0 k l0 a1 t232 ([] : List Int) ([] : List (S43)) 0) = some true := by rw [if_pos rfl] at H; first | done | exact H
  clear H
  have H := H1
  clear H1
  have H' := Aside0.mk H
  clear H
  go_enter Try.func5, Try.ntmps5
  go_wp2_with (first | ((with_reducible refine gate_callee (f := 7) rfl ?_); refine goesL_ (some 16) rfl rfl Try.func7 (by kernel_rfl) rfl #[] rfl (by (try simp only [List.map_toArray, List.map_cons, List.map_nil]); first | done | rfl | (simp only [List.length_drop, List.length_take]; rfl)) ?_; (with_reducible refine (ridgewaylaw04_awake.calls  t232 _ A3.out).mono ?_); rintro e w6 ⟨rfl, hb⟩; refine ⟨_, rfl, ?_⟩; have n0_ := Aside0.mk (Kd.V_below (by (with_reducible repeat (first | apply Kd.V_alloc | apply Kd.V_drewN | apply Kd.V_drew)); exact HO0.out) hb); have n1_ := Aside0.mk (below_step (by repeat (first | (with_reducible first | exact HB.out | apply bA | apply bN | apply bD) | exact HB.out)) hb); clear HO0; clear HB; have HO0 := n0_; have HB := n1_; clear n0_ n1_; (try clear hb); (try clear hb2); (try clear hk); (try clear hi)) | ((with_reducible refine gate_callee (f := 14) rfl ?_); refine goesL_ (some 18) rfl rfl Try.func14 (by kernel_rfl) rfl #[.slice A0 l0.length c0] rfl (by (try simp only [List.map_toArray, List.map_cons, List.map_nil]); first | done | rfl | (simp only [List.length_drop, List.length_take]; rfl)) ?_; (with_reducible refine (ridgewayref03_Few.calls k _ _ l0 true _ ?side1 ?side2 A4.out).mono ?_); (case side1 => repeat (first | exact (Kd.V_reads' HO0.out).2.2 | (with_reducible refine Kd.C_alloc ?_ _) | (with_reducible refine Kd.C_drewN ?_ _) | (with_reducible refine Kd.C_drew ?_))); (case side2 => exact (Kd.V_reads' HO0.out).2.1); rintro e w' ⟨rfl, ⟨nd, rfl⟩⟩; refine ⟨_, rfl, ?_⟩))
  go_loopg [6, 7, 8] k (fun kq v6 v7 v8 w' => ∃ (x6_1 : List Int) (x7_1 : List (S43)) (x8_1 : Int), v8 = .int .i64 x8_1 ∧ Aside0 (ridgewaylaw04_StreamBack.l0 kq l0 a1 t232 x6_1 x7_1 x8_1 = some true) ∧ Aside0 (kq ≤ k) ∧ Aside0 (Kd.V k43 43 w' w.heap.size (fun k_ => (P0_ k_ ∨ w.heap.size ≤ k_) ∧ some k_ ≠ (v6 : Value).ownBlock ∧ some k_ ≠ (v7 : Value).ownBlock) (.slice A0 l0.length c0) l0) ∧ Aside0 (Kd.Q (Kd.int .u8) 5 w' w.heap.size (fun k_ => (w.heap.size ≤ k_)) v6 x6_1) ∧ Aside0 (Kd.N k43 43 w' w.heap.size (fun k_ => (P0_ k_ ∨ w.heap.size ≤ k_) ∧ some k_ ≠ (v6 : Value).ownBlock) v7 x7_1) ∧ Aside0 (Below w.heap.size w w'))
  case atStart => exact ⟨(([] : List Int)), (([] : List (S43))), (0), (by first | rfl | (simp; done) | (simp [*]; done)), H', ⟨Nat.le_refl _⟩, ⟨by (with_reducible repeat (first | apply Kd.V_alloc | apply Kd.V_drewN | apply Kd.V_drew)); exact Kd.V_mono HO0.out (fun _ hk => ⟨hk, ⟨(by simp [Value.ownBlock]), (by simp [Value.ownBlock])⟩⟩)⟩, ⟨Kd.Q_of_R (by first | exact Kd.R_nil _ _ _ _ _ | exact Kd.N_nil _ _ _ _ _ | exact Kd.V_nil _ _ _ _ _ | exact Kd.Q_nil _ _ _ _ _ | exact Kd.S_nil _ _ _ _ _)⟩, ⟨by first | exact Kd.S_nil _ _ _ _ _ | exact Kd.N_nil _ _ _ _ _ | exact Kd.V_nil _ _ _ _ _ | exact Kd.Q_nil _ _ _ _ _ | exact Kd.R_nil _ _ _ _ _⟩, ⟨by repeat (first | (with_reducible first | exact HB.out | apply bA | apply bN | apply bD) | exact HB.out)⟩⟩
  case round =>
   clear H'
   try clear c1
   try clear p2
   try clear c5
   obtain ⟨x6_1, x7_1, x8_1, rfl, HA, HK1, HO_0, HO_6, HO_7, HB⟩ := hrel
   cases gk with
   | zero => exact absurd HA.out (by simp [ridgewaylaw04_StreamBack.l0])
   | succ k1 =>
    have H := HA.out
    clear HA
    simp only [ridgewaylaw04_StreamBack.l0] at H
    by_cases c7 : x8_1 < (l0.length : Int)
    ·
     rw [if_pos c7] at H
     have c7b0 : decide (x8_1 < (l0.length : Int)) = true := decide_eq_true c7
     clear c7
     by_cases c8 : 0 ≤ x8_1
     ·
      rw [if_pos c8] at H
      have c8b0 : decide (0 ≤ x8_1) = true := decide_eq_true c8
      clear c8
      replace H := Option.bind_eq_some_iff.mp H
      obtain ⟨t235, A90, H⟩ := H
      replace H : (if t235 = true then (if x7_1.length < 4398046511104 then ((msg_Put.f k1 x6_1 ((rd_T43 l0 x8_1).f0) ((rd_T43 l0 x8_1).f1)).bind fun t241 => (ridgewaylaw04_StreamBack.l0 k1 l0 a1 t232 t241 (x7_1 ++ [(⟨(rd_T43 l0 x8_1).f0, (rd_T43 l0 x8_1).f1⟩ : S43)]) (wrap64 (x8_1 + 1)))) else (none)) else ((msg_Put.f k1 x6_1 ((rd_T43 l0 x8_1).f0) ((rd_T43 l0 x8_1).f1)).bind fun t245 => (ridgewaylaw04_StreamBack.l0 k1 l0 a1 t232 t245 x7_1 (wrap64 (x8_1 + 1))))) = some true := H
      have A9 := Aside0.mk A90
      clear A90
      by_cases c10 : t235 = true
      ·
       subst c10
       have H1 : (if x7_1.length < 4398046511104 then ((msg_Put.f k1 x6_1 ((rd_T43 l0 x8_1).f0) ((rd_T43 l0 x8_1).f1)).bind fun t241 => (ridgewaylaw04_StreamBack.l0 k1 l0 a1 t232 t241 (x7_1 ++ [(⟨(rd_T43 l0 x8_1).f0, (rd_T43 l0 x8_1).f1⟩ : S43)]) (wrap64 (x8_1 + 1)))) else (none)) = some true := by rw [if_pos rfl] at H; first | done | exact H
       clear H
       have H := H1
       clear H1
       by_cases c11 : x7_1.length < 4398046511104
       ·
        rw [if_pos c11] at H
        have LMc11 := Aside0.mk c11
        clear c11
        obtain ⟨y237, hy237⟩ : ∃ y_ : List (S43), y_ = (x7_1 ++ [(⟨(rd_T43 l0 x8_1).f0, (rd_T43 l0 x8_1).f1⟩ : S43)]) := ⟨_, rfl⟩
        replace H : ((msg_Put.f k1 x6_1 ((rd_T43 l0 x8_1).f0) ((rd_T43 l0 x8_1).f1)).bind fun t241 => (ridgewaylaw04_StreamBack.l0 k1 l0 a1 t232 t241 y237 (wrap64 (x8_1 + 1)))) = some true := by first | (rw [hy237]; with_reducible exact H) | (have H2_ := (Option.bind_some _ _).symm.trans H; rw [hy237]; with_reducible exact H2_) | (have H2_ := (Option.bind_some _ _).symm.trans H; with_reducible exact H2_) | with_reducible exact H | (rw [hy237]; exact H) | exact H
        have Ny237 := Aside0.mk hy237
        clear hy237
        replace H := Option.bind_eq_some_iff.mp H
        obtain ⟨t241, A120, H⟩ := H
        replace H : (ridgewaylaw04_StreamBack.l0 k1 l0 a1 t232 t241 y237 (wrap64 (x8_1 + 1))) = some true := H
        have A12 := Aside0.mk A120
        clear A120
        have H' := Aside0.mk H
        clear H
        have p234 : 0 ≤ (x8_1 : Int) := of_decide_eq_true (by first | (with_reducible assumption) | assumption)
        have q234 : x8_1 < (l0.length : Int) := of_decide_eq_true (by first | (with_reducible assumption) | assumption)
        obtain ⟨ad234, A234_1, c234_1, e234, hx234_0, hx234_1, hl234_1, hi234_1⟩ := at_T43 (Kd.V_reads' HO_0.out).2.2 x8_1 p234 q234
        cases e234
        obtain ⟨ce234, hce234, hMe234, hcc234⟩ := Kd.V_get HO_0.out z43 x8_1 p234 (by first | exact q234 | exact of_decide_eq_true (by first | (with_reducible assumption) | assumption) | (have e_ := (Kd.V_reads' HO_0.out).1; omega))
        obtain ⟨ua234_1, uc234_1, rfl, ul234_1, ge234_1⟩ := k43_openF hMe234
        have hv234_1 := hcc234 1 _ rfl
        rw [add_field _ _ 1 (by omega)] at hv234_1
        replace hv234_1 := Option.some.inj (hv234_1.symm.trans hx234_1)
        injection hv234_1 with hva_ hvn_ hvc_
        rw [hva_] at ge234_1
        rw [hvc_] at ul234_1
        have HL234_1 := Aside0.mk (show Kd.V (Kd.int .u8) 5 _ w.heap.size _ _ ((rd_T43 l0 x8_1).f1) from Kd.V_mk ul234_1 ge234_1)
        clear hva_ hvn_ hvc_ ge234_1 ul234_1
        clear hcc234 hce234
        have HR234_1 := Aside0.mk hi234_1
        have HC234_1 := Aside0.mk hl234_1
        clear hi234_1 hl234_1
        replace p234 := eq_true p234
        replace q234 := eq_true q234
        go_wp2_with (first | ((with_reducible refine gate_callee (f := 15) rfl ?_); refine goesL_ (some 31) rfl rfl Try.func15 (by kernel_rfl) rfl #[.agg #[.int .i64 ((rd_T43 l0 x8_1).f0), .slice A234_1 ((rd_T43 l0 x8_1).f1).length c234_1]] rfl (by (try simp only [List.map_toArray, List.map_cons, List.map_nil]); first | done | rfl | (simp only [List.length_drop, List.length_take]; rfl)) ?_; (with_reducible refine (msg_Sane.calls ((rd_T43 l0 x8_1).f0) _ _ ((rd_T43 l0 x8_1).f1) true _ ?side1 ?side2 A9.out).mono ?_); (case side1 => repeat (first | exact (by repeat (first | (with_reducible exact HR234_1.out) | (with_reducible refine Kd.C_alloc ?_ _) | (with_reducible refine Kd.C_drewN ?_ _) | (with_reducible refine Kd.C_drew ?_) | exact HR234_1.out)) | (with_reducible refine Kd.C_alloc ?_ _) | (with_reducible refine Kd.C_drewN ?_ _) | (with_reducible refine Kd.C_drew ?_))); (case side2 => exact HC234_1.out); rintro e w13 ⟨rfl, hb⟩; refine ⟨_, rfl, ?_⟩; have n0_ := Aside0.mk (Kd.V_below (by (with_reducible repeat (first | apply Kd.V_alloc | apply Kd.V_drewN | apply Kd.V_drew)); exact HO_0.out) hb); have n1_ := Aside0.mk (Kd.Q_below (by (with_reducible repeat (first | apply Kd.Q_alloc | apply Kd.Q_drewN | apply Kd.Q_drew)); exact HO_6.out) hb); have n2_ := Aside0.mk (Kd.N_below (by (with_reducible repeat (first | apply Kd.N_alloc | apply Kd.N_drewN | apply Kd.N_drew)); exact HO_7.out) hb); have n3_ := Aside0.mk (Kd.V_below (by (with_reducible repeat (first | apply Kd.V_alloc | apply Kd.V_drewN | apply Kd.V_drew)); exact HL234_1.out) hb); have n4_ := Aside0.mk (Kd.C_below (by repeat (first | (with_reducible exact HR234_1.out) | (with_reducible refine Kd.C_alloc ?_ _) | (with_reducible refine Kd.C_drewN ?_ _) | (with_reducible refine Kd.C_drew ?_) | exact HR234_1.out)) hb); have n5_ := Aside0.mk (below_step (by repeat (first | (with_reducible first | exact HB.out | apply bA | apply bN | apply bD) | exact HB.out)) hb); clear HO_0; clear HO_6; clear HO_7; clear HL234_1; clear HR234_1; clear HB; have HO_0 := n0_; have HO_6 := n1_; have HO_7 := n2_; have HL234_1 := n3_; have HR234_1 := n4_; have HB := n5_; clear n0_ n1_ n2_ n3_ n4_ n5_; (try clear hb); (try clear hb2); (try clear hk); (try clear hi); have p236 : 0 ≤ (x8_1 : Int) := of_decide_eq_true (by first | (with_reducible assumption) | assumption); have q236 : x8_1 < (l0.length : Int) := of_decide_eq_true (by first | (with_reducible assumption) | assumption); obtain ⟨ad236, A236_1, c236_1, e236, hx236_0, hx236_1, hl236_1, hi236_1⟩ := at_T43 (Kd.V_reads' HO_0.out).2.2 x8_1 p236 q236; obtain rfl : ad234 = ad236 := (by injection e236); obtain ⟨ce236, hce236, hMe236, hcc236⟩ := Kd.V_get HO_0.out z43 x8_1 p236 (by first | exact q236 | exact of_decide_eq_true (by first | (with_reducible assumption) | assumption) | (have e_ := (Kd.V_reads' HO_0.out).1; omega)); obtain ⟨ua236_1, uc236_1, rfl, ul236_1, ge236_1⟩ := k43_openF hMe236; have hv236_1 := hcc236 1 _ rfl; rw [add_field _ _ 1 (by omega)] at hv236_1; replace hv236_1 := Option.some.inj (hv236_1.symm.trans hx236_1); injection hv236_1 with hva_ hvn_ hvc_; rw [hva_] at ge236_1; rw [hvc_] at ul236_1; have HL236_1 := Aside0.mk (show Kd.V (Kd.int .u8) 5 _ w.heap.size _ _ ((rd_T43 l0 x8_1).f1) from Kd.V_mk ul236_1 ge236_1); clear hva_ hvn_ hvc_ ge236_1 ul236_1; clear hcc236 hce236; have HR236_1 := Aside0.mk hi236_1; have HC236_1 := Aside0.mk hl236_1; clear hi236_1 hl236_1; replace p236 := eq_true p236; replace q236 := eq_true q236) | ((with_reducible refine gate_builtin (b := .append) (xs := #[.tmp 32, .tmp 37]) rfl ?_); (try (refine gate_guard (by rfl) ?_; dsimp only)); at_builtin; refine Kd.N_append k43 (w0 := w) w.heap.size rfl (.tmp 32) (.tmp 37) 27 43 (.agg #[(.int .i64 0), (.slice none 0 0)]) 32 rfl Try.underlying27 info43 rfl (by decide) (by omega) u7 x7_1 (⟨(rd_T43 l0 x8_1).f0, (rd_T43 l0 x8_1).f1⟩ : S43) [.int .i64 ((rd_T43 l0 x8_1).f0), .slice A236_1 ((rd_T43 l0 x8_1).f1).length c236_1] (fun k_ => (P0_ k_ ∨ w.heap.size ≤ k_) ∧ some k_ ≠ (u6 : Value).ownBlock) (fun k_ => ((fun k_ => (P0_ k_ ∨ w.heap.size ≤ k_) ∧ some k_ ≠ (u6 : Value).ownBlock)) k_ ∧ some k_ ≠ (u7 : Value).ownBlock) rfl rfl ?aP (fun _ hk => hk) ?aF ?aO ?aB ?aS ?aL ?_; (case aP => exact (k43_mkF _ _ (⟨(rd_T43 l0 x8_1).f0, (rd_T43 l0 x8_1).f1⟩ : S43) (Kd.V_reads' (Kd.V_mono (ok' := (fun k_ => ((fun k_ => (P0_ k_ ∨ w.heap.size ≤ k_) ∧ some k_ ≠ (u6 : Value).ownBlock)) k_ ∧ some k_ ≠ (u7 : Value).ownBlock)) (HL236_1.out) (fun k_ hk => ⟨⟨hk.1, hk.2.1⟩, hk.2.2⟩))).2.1 (Kd.V_F (Kd.V_mono (ok' := (fun k_ => ((fun k_ => (P0_ k_ ∨ w.heap.size ≤ k_) ∧ some k_ ≠ (u6 : Value).ownBlock)) k_ ∧ some k_ ≠ (u7 : Value).ownBlock)) (HL236_1.out) (fun k_ hk => ⟨⟨hk.1, hk.2.1⟩, hk.2.2⟩))))); (case aB => exact (by repeat (first | (with_reducible first | exact HB.out | apply bA | apply bN | apply bD) | exact HB.out))); (case aF => exact (fun k_ hk => ⟨(.inr (Nat.le_trans (below_size (by repeat (first | (with_reducible first | exact HB.out | apply bA | apply bN | apply bD) | exact HB.out))) hk)), Kd.fresh' (Kd.Q_lt (by (with_reducible repeat (first | apply Kd.Q_alloc | apply Kd.Q_drewN | apply Kd.Q_drew)); exact HO_6.out)) k_ hk⟩)); (case aO => exact (by (with_reducible repeat (first | apply Kd.N_alloc | apply Kd.N_drewN | apply Kd.N_drew)); exact HO_7.out)); (case aS => exact (below_size (by repeat (first | (with_reducible first | exact HB.out | apply bA | apply bN | apply bD) | exact HB.out)))); (case aL => have := LMc11.out; omega); intro v238 w14 ho hb hg hat; rw [← Ny237.out] at ho; have n0_ := Aside0.mk (Kd.V_afterv (ok := (fun k_ => (P0_ k_ ∨ w.heap.size ≤ k_) ∧ some k_ ≠ (u6 : Value).ownBlock)) (by (with_reducible repeat (first | apply Kd.V_alloc | apply Kd.V_drewN | apply Kd.V_drew)); exact Kd.V_mono HO_0.out (fun _ hk => ⟨⟨hk.1, hk.2.1⟩, hk.2.2⟩)) hg hat); have n1_ := Aside0.mk (Kd.Q_over' (by (with_reducible repeat (first | apply Kd.Q_alloc | apply Kd.Q_drewN | apply Kd.Q_drew)); exact HO_6.out) (Kd.N_typed (by (with_reducible repeat (first | apply Kd.N_alloc | apply Kd.N_drewN | apply Kd.N_drew)); exact HO_7.out)) (by decide) hg); have n2_ := Aside0.mk (Kd.V_afterv (ok := (fun k_ => (P0_ k_ ∨ w.heap.size ≤ k_) ∧ some k_ ≠ (u6 : Value).ownBlock)) (by (with_reducible repeat (first | apply Kd.V_alloc | apply Kd.V_drewN | apply Kd.V_drew)); exact Kd.V_mono HL234_1.out (fun _ hk => ⟨⟨hk.1, hk.2.1⟩, hk.2.2⟩)) hg hat); have n3_ := Aside0.mk (Kd.V_afterv (ok := (fun k_ => (P0_ k_ ∨ w.heap.size ≤ k_) ∧ some k_ ≠ (u6 : Value).ownBlock)) (by (with_reducible repeat (first | apply Kd.V_alloc | apply Kd.V_drewN | apply Kd.V_drew)); exact Kd.V_mono HL236_1.out (fun _ hk => ⟨⟨hk.1, hk.2.1⟩, hk.2.2⟩)) hg hat); have n4_ := Aside0.mk (hb); have n5_ := Aside0.mk (ho); clear HO_0; clear HO_6; clear HL234_1; clear HL236_1; clear HB; clear HO_7; have HO_0 := n0_; have HO_6 := n1_; have HL234_1 := n2_; have HL236_1 := n3_; have HB := n4_; have HO239 := n5_; clear n0_ n1_ n2_ n3_ n4_ n5_; clear ho hb hg hat; have p240 : 0 ≤ (x8_1 : Int) := of_decide_eq_true (by first | (with_reducible assumption) | assumption); have q240 : x8_1 < (l0.length : Int) := of_decide_eq_true (by first | (with_reducible assumption) | assumption); obtain ⟨ad240, A240_1, c240_1, e240, hx240_0, hx240_1, hl240_1, hi240_1⟩ := at_T43 (Kd.V_reads' HO_0.out).2.2 x8_1 p240 q240; obtain rfl : ad234 = ad240 := (by injection e240); obtain ⟨ce240, hce240, hMe240, hcc240⟩ := Kd.V_get HO_0.out z43 x8_1 p240 (by first | exact q240 | exact of_decide_eq_true (by first | (with_reducible assumption) | assumption) | (have e_ := (Kd.V_reads' HO_0.out).1; omega)); obtain ⟨ua240_1, uc240_1, rfl, ul240_1, ge240_1⟩ := k43_openF hMe240; have hv240_1 := hcc240 1 _ rfl; rw [add_field _ _ 1 (by omega)] at hv240_1; replace hv240_1 := Option.some.inj (hv240_1.symm.trans hx240_1); injection hv240_1 with hva_ hvn_ hvc_; rw [hva_] at ge240_1; rw [hvc_] at ul240_1; have HL240_1 := Aside0.mk (show Kd.V (Kd.int .u8) 5 _ w.heap.size _ _ ((rd_T43 l0 x8_1).f1) from Kd.V_mk ul240_1 ge240_1); clear hva_ hvn_ hvc_ ge240_1 ul240_1; clear hcc240 hce240; have HR240_1 := Aside0.mk hi240_1; have HC240_1 := Aside0.mk hl240_1; clear hi240_1 hl240_1; replace p240 := eq_true p240; replace q240 := eq_true q240; obtain ⟨Ao15, co15, eo15, _⟩ := Kd.Q_slice HO_6.out; subst eo15) | ((with_reducible refine gate_callee (f := 16) rfl ?_); refine goesL_ (some 44) rfl rfl Try.func16 (by kernel_rfl) rfl #[.slice Ao15 x6_1.length co15, .agg #[.int .i64 ((rd_T43 l0 x8_1).f0), .slice A240_1 ((rd_T43 l0 x8_1).f1).length c240_1]] rfl (by (try simp only [List.map_toArray, List.map_cons, List.map_nil]); first | done | rfl | (simp only [List.length_drop, List.length_take]; rfl)) ?_; (with_reducible refine (msg_Put.calls k1 (fun k_ => some k_ = (.slice Ao15 x6_1.length co15 : Value).ownBlock) _ _ x6_1 ((rd_T43 l0 x8_1).f0) _ _ ((rd_T43 l0 x8_1).f1) t241 _ ?side1 ?side2 ?side3 A12.out).mono ?_); (case side1 => exact Kd.Q_V (Kd.Q_tight rfl (Kd.Q_apart' (HO_6.out) (Kd.N_typed HO239.out) (by decide)))); (case side2 => repeat (first | exact (by repeat (first | (with_reducible exact HR240_1.out) | (with_reducible refine Kd.C_alloc ?_ _) | (with_reducible refine Kd.C_drewN ?_ _) | (with_reducible refine Kd.C_drew ?_) | exact HR240_1.out)) | (with_reducible refine Kd.C_alloc ?_ _) | (with_reducible refine Kd.C_drewN ?_ _) | (with_reducible refine Kd.C_drew ?_))); (case side3 => exact HC240_1.out); rintro e w16 ⟨v242, rfl, ho0, hb⟩; refine ⟨_, rfl, ?_⟩; have n0_ := Aside0.mk (Kd.V_elder' (by (with_reducible repeat (first | apply Kd.V_alloc | apply Kd.V_drewN | apply Kd.V_drew)); exact HO_0.out) (Kd.R_base ho0) hb); have n1_ := Aside0.mk (Kd.Q_elder' (by (with_reducible repeat (first | apply Kd.Q_alloc | apply Kd.Q_drewN | apply Kd.Q_drew)); exact HO_6.out) (Kd.R_base ho0) hb); have n2_ := Aside0.mk (Kd.V_elder' (by (with_reducible repeat (first | apply Kd.V_alloc | apply Kd.V_drewN | apply Kd.V_drew)); exact HL234_1.out) (Kd.R_base ho0) hb); have n3_ := Aside0.mk (Kd.V_elder' (by (with_reducible repeat (first | apply Kd.V_alloc | apply Kd.V_drewN | apply Kd.V_drew)); exact HL236_1.out) (Kd.R_base ho0) hb); have n4_ := Aside0.mk (Kd.N_elder' (by (with_reducible repeat (first | apply Kd.N_alloc | apply Kd.N_drewN | apply Kd.N_drew)); exact HO239.out) (Kd.R_base ho0) hb); have n5_ := Aside0.mk (Kd.V_elder' (by (with_reducible repeat (first | apply Kd.V_alloc | apply Kd.V_drewN | apply Kd.V_drew)); exact HL240_1.out) (Kd.R_base ho0) hb); have n6_ := Aside0.mk (Kd.R_lower (Kd.R_new' (Kd.R_newM (M := fun k_ => (w.heap.size ≤ k_)) (Kd.R_mono (ok' := fun k_ => True) ho0 (fun _ hk_ => trivial)) (below_size (by repeat (first | (with_reducible first | exact HB.out | apply bA | apply bN | apply bD) | exact HB.out))) (fun k_ h_ => h_)) (Kd.Q_lt (by (with_reducible repeat (first | apply Kd.Q_alloc | apply Kd.Q_drewN | apply Kd.Q_drew)); exact HO_6.out))) (below_size (by repeat (first | (with_reducible first | exact HB.out | apply bA | apply bN | apply bD) | exact HB.out)))); have n7_ := Aside0.mk (Kd.C_below (by repeat (first | (with_reducible exact HR240_1.out) | (with_reducible refine Kd.C_alloc ?_ _) | (with_reducible refine Kd.C_drewN ?_ _) | (with_reducible refine Kd.C_drew ?_) | exact HR240_1.out)) hb); have n8_ := Aside0.mk (below_step (by repeat (first | (with_reducible first | exact HB.out | apply bA | apply bN | apply bD) | exact HB.out)) hb); clear HO_0; clear HO_6; clear HL234_1; clear HL236_1; clear HO239; clear HL240_1; clear HR240_1; clear HB; have HO_0 := n0_; have HO_6 := n1_; have HL234_1 := n2_; have HL236_1 := n3_; have HO239 := n4_; have HL240_1 := n5_; have HO243 := n6_; have HR240_1 := n7_; have HB := n8_; clear n0_ n1_ n2_ n3_ n4_ n5_ n6_ n7_ n8_; (try clear hb); (try clear hb2); (try clear hk); (try clear hi); (try clear ho0)))
        go_roundg k1
        case measure => have := HK1.out; omega
        case rel => exact ⟨(t241), (y237), (wrap64 (x8_1 + 1)), (by first | rfl | (simp; done) | (simp [*]; done)), H', ⟨by have := HK1.out; omega⟩, ⟨by (with_reducible repeat (first | apply Kd.V_alloc | apply Kd.V_drewN | apply Kd.V_drew)); exact Kd.V_mono HO_0.out (fun _ hk => ⟨hk.1.1.1, ⟨hk.2, hk.1.2⟩⟩)⟩, ⟨Kd.Q_of_R (by (with_reducible repeat (first | apply Kd.R_alloc | apply Kd.R_drewN | apply Kd.R_drew)); exact Kd.R_mono HO243.out (fun _ hk => hk.1.1))⟩, ⟨by (with_reducible repeat (first | apply Kd.N_alloc | apply Kd.N_drewN | apply Kd.N_drew)); exact Kd.N_mono HO239.out (fun _ hk => ⟨hk.1.1, hk.2⟩)⟩, ⟨by repeat (first | (with_reducible first | exact HB.out | apply bA | apply bN | apply bD) | exact HB.out)⟩⟩
       ·
        rw [if_neg c11] at H
        exact absurd H (by simp)
      ·
       replace c10 := Bool.eq_false_iff.mpr c10
       subst c10
       have H1 : ((msg_Put.f k1 x6_1 ((rd_T43 l0 x8_1).f0) ((rd_T43 l0 x8_1).f1)).bind fun t245 => (ridgewaylaw04_StreamBack.l0 k1 l0 a1 t232 t245 x7_1 (wrap64 (x8_1 + 1)))) = some true := by rw [if_neg (show ¬ (false = true) by decide)] at H; first | done | exact H
       clear H
       have H := H1
       clear H1
       replace H := Option.bind_eq_some_iff.mp H
       obtain ⟨t245, A170, H⟩ := H
       replace H : (ridgewaylaw04_StreamBack.l0 k1 l0 a1 t232 t245 x7_1 (wrap64 (x8_1 + 1))) = some true := H
       have A17 := Aside0.mk A170
       clear A170
       have H' := Aside0.mk H
       clear H
       have p234 : 0 ≤ (x8_1 : Int) := of_decide_eq_true (by first | (with_reducible assumption) | assumption)
       have q234 : x8_1 < (l0.length : Int) := of_decide_eq_true (by first | (with_reducible assumption) | assumption)
       obtain ⟨ad234, A234_1, c234_1, e234, hx234_0, hx234_1, hl234_1, hi234_1⟩ := at_T43 (Kd.V_reads' HO_0.out).2.2 x8_1 p234 q234
       cases e234
       obtain ⟨ce234, hce234, hMe234, hcc234⟩ := Kd.V_get HO_0.out z43 x8_1 p234 (by first | exact q234 | exact of_decide_eq_true (by first | (with_reducible assumption) | assumption) | (have e_ := (Kd.V_reads' HO_0.out).1; omega))
       obtain ⟨ua234_1, uc234_1, rfl, ul234_1, ge234_1⟩ := k43_openF hMe234
       have hv234_1 := hcc234 1 _ rfl
       rw [add_field _ _ 1 (by omega)] at hv234_1
       replace hv234_1 := Option.some.inj (hv234_1.symm.trans hx234_1)
       injection hv234_1 with hva_ hvn_ hvc_
       rw [hva_] at ge234_1
       rw [hvc_] at ul234_1
       have HL234_1 := Aside0.mk (show Kd.V (Kd.int .u8) 5 _ w.heap.size _ _ ((rd_T43 l0 x8_1).f1) from Kd.V_mk ul234_1 ge234_1)
       clear hva_ hvn_ hvc_ ge234_1 ul234_1
       clear hcc234 hce234
       have HR234_1 := Aside0.mk hi234_1
       have HC234_1 := Aside0.mk hl234_1
       clear hi234_1 hl234_1
       replace p234 := eq_true p234
       replace q234 := eq_true q234
       go_wp2_with (first | ((with_reducible refine gate_callee (f := 15) rfl ?_); refine goesL_ (some 31) rfl rfl Try.func15 (by kernel_rfl) rfl #[.agg #[.int .i64 ((rd_T43 l0 x8_1).f0), .slice A234_1 ((rd_T43 l0 x8_1).f1).length c234_1]] rfl (by (try simp only [List.map_toArray, List.map_cons, List.map_nil]); first | done | rfl | (simp only [List.length_drop, List.length_take]; rfl)) ?_; (with_reducible refine (msg_Sane.calls ((rd_T43 l0 x8_1).f0) _ _ ((rd_T43 l0 x8_1).f1) false _ ?side1 ?side2 A9.out).mono ?_); (case side1 => repeat (first | exact (by repeat (first | (with_reducible exact HR234_1.out) | (with_reducible refine Kd.C_alloc ?_ _) | (with_reducible refine Kd.C_drewN ?_ _) | (with_reducible refine Kd.C_drew ?_) | exact HR234_1.out)) | (with_reducible refine Kd.C_alloc ?_ _) | (with_reducible refine Kd.C_drewN ?_ _) | (with_reducible refine Kd.C_drew ?_))); (case side2 => exact HC234_1.out); rintro e w18 ⟨rfl, hb⟩; refine ⟨_, rfl, ?_⟩; have n0_ := Aside0.mk (Kd.V_below (by (with_reducible repeat (first | apply Kd.V_alloc | apply Kd.V_drewN | apply Kd.V_drew)); exact HO_0.out) hb); have n1_ := Aside0.mk (Kd.Q_below (by (with_reducible repeat (first | apply Kd.Q_alloc | apply Kd.Q_drewN | apply Kd.Q_drew)); exact HO_6.out) hb); have n2_ := Aside0.mk (Kd.N_below (by (with_reducible repeat (first | apply Kd.N_alloc | apply Kd.N_drewN | apply Kd.N_drew)); exact HO_7.out) hb); have n3_ := Aside0.mk (Kd.V_below (by (with_reducible repeat (first | apply Kd.V_alloc | apply Kd.V_drewN | apply Kd.V_drew)); exact HL234_1.out) hb); have n4_ := Aside0.mk (Kd.C_below (by repeat (first | (with_reducible exact HR234_1.out) | (with_reducible refine Kd.C_alloc ?_ _) | (with_reducible refine Kd.C_drewN ?_ _) | (with_reducible refine Kd.C_drew ?_) | exact HR234_1.out)) hb); have n5_ := Aside0.mk (below_step (by repeat (first | (with_reducible first | exact HB.out | apply bA | apply bN | apply bD) | exact HB.out)) hb); clear HO_0; clear HO_6; clear HO_7; clear HL234_1; clear HR234_1; clear HB; have HO_0 := n0_; have HO_6 := n1_; have HO_7 := n2_; have HL234_1 := n3_; have HR234_1 := n4_; have HB := n5_; clear n0_ n1_ n2_ n3_ n4_ n5_; (try clear hb); (try clear hb2); (try clear hk); (try clear hi); have p244 : 0 ≤ (x8_1 : Int) := of_decide_eq_true (by first | (with_reducible assumption) | assumption); have q244 : x8_1 < (l0.length : Int) := of_decide_eq_true (by first | (with_reducible assumption) | assumption); obtain ⟨ad244, A244_1, c244_1, e244, hx244_0, hx244_1, hl244_1, hi244_1⟩ := at_T43 (Kd.V_reads' HO_0.out).2.2 x8_1 p244 q244; obtain rfl : ad234 = ad244 := (by injection e244); obtain ⟨ce244, hce244, hMe244, hcc244⟩ := Kd.V_get HO_0.out z43 x8_1 p244 (by first | exact q244 | exact of_decide_eq_true (by first | (with_reducible assumption) | assumption) | (have e_ := (Kd.V_reads' HO_0.out).1; omega)); obtain ⟨ua244_1, uc244_1, rfl, ul244_1, ge244_1⟩ := k43_openF hMe244; have hv244_1 := hcc244 1 _ rfl; rw [add_field _ _ 1 (by omega)] at hv244_1; replace hv244_1 := Option.some.inj (hv244_1.symm.trans hx244_1); injection hv244_1 with hva_ hvn_ hvc_; rw [hva_] at ge244_1; rw [hvc_] at ul244_1; have HL244_1 := Aside0.mk (show Kd.V (Kd.int .u8) 5 _ w.heap.size _ _ ((rd_T43 l0 x8_1).f1) from Kd.V_mk ul244_1 ge244_1); clear hva_ hvn_ hvc_ ge244_1 ul244_1; clear hcc244 hce244; have HR244_1 := Aside0.mk hi244_1; have HC244_1 := Aside0.mk hl244_1; clear hi244_1 hl244_1; replace p244 := eq_true p244; replace q244 := eq_true q244; obtain ⟨Ao19, co19, eo19, _⟩ := Kd.Q_slice HO_6.out; subst eo19) | ((with_reducible refine gate_callee (f := 16) rfl ?_); refine goesL_ (some 44) rfl rfl Try.func16 (by kernel_rfl) rfl #[.slice Ao19 x6_1.length co19, .agg #[.int .i64 ((rd_T43 l0 x8_1).f0), .slice A244_1 ((rd_T43 l0 x8_1).f1).length c244_1]] rfl (by (try simp only [List.map_toArray, List.map_cons, List.map_nil]); first | done | rfl | (simp only [List.length_drop, List.length_take]; rfl)) ?_; (with_reducible refine (msg_Put.calls k1 (fun k_ => some k_ = (.slice Ao19 x6_1.length co19 : Value).ownBlock) _ _ x6_1 ((rd_T43 l0 x8_1).f0) _ _ ((rd_T43 l0 x8_1).f1) t245 _ ?side1 ?side2 ?side3 A17.out).mono ?_); (case side1 => exact Kd.Q_V (Kd.Q_tight rfl (Kd.Q_apart' (HO_6.out) (Kd.N_typed HO_7.out) (by decide)))); (case side2 => repeat (first | exact (by repeat (first | (with_reducible exact HR244_1.out) | (with_reducible refine Kd.C_alloc ?_ _) | (with_reducible refine Kd.C_drewN ?_ _) | (with_reducible refine Kd.C_drew ?_) | exact HR244_1.out)) | (with_reducible refine Kd.C_alloc ?_ _) | (with_reducible refine Kd.C_drewN ?_ _) | (with_reducible refine Kd.C_drew ?_))); (case side3 => exact HC244_1.out); rintro e w20 ⟨v246, rfl, ho0, hb⟩; refine ⟨_, rfl, ?_⟩; have n0_ := Aside0.mk (Kd.V_elder' (by (with_reducible repeat (first | apply Kd.V_alloc | apply Kd.V_drewN | apply Kd.V_drew)); exact HO_0.out) (Kd.R_base ho0) hb); have n1_ := Aside0.mk (Kd.Q_elder' (by (with_reducible repeat (first | apply Kd.Q_alloc | apply Kd.Q_drewN | apply Kd.Q_drew)); exact HO_6.out) (Kd.R_base ho0) hb); have n2_ := Aside0.mk (Kd.N_elder' (by (with_reducible repeat (first | apply Kd.N_alloc | apply Kd.N_drewN | apply Kd.N_drew)); exact HO_7.out) (Kd.R_base ho0) hb); have n3_ := Aside0.mk (Kd.V_elder' (by (with_reducible repeat (first | apply Kd.V_alloc | apply Kd.V_drewN | apply Kd.V_drew)); exact HL234_1.out) (Kd.R_base ho0) hb); have n4_ := Aside0.mk (Kd.V_elder' (by (with_reducible repeat (first | apply Kd.V_alloc | apply Kd.V_drewN | apply Kd.V_drew)); exact HL244_1.out) (Kd.R_base ho0) hb); have n5_ := Aside0.mk (Kd.R_lower (Kd.R_new' (Kd.R_newM (M := fun k_ => (w.heap.size ≤ k_)) (Kd.R_mono (ok' := fun k_ => True) ho0 (fun _ hk_ => trivial)) (below_size (by repeat (first | (with_reducible first | exact HB.out | apply bA | apply bN | apply bD) | exact HB.out))) (fun k_ h_ => h_)) (Kd.Q_lt (by (with_reducible repeat (first | apply Kd.Q_alloc | apply Kd.Q_drewN | apply Kd.Q_drew)); exact HO_6.out))) (below_size (by repeat (first | (with_reducible first | exact HB.out | apply bA | apply bN | apply bD) | exact HB.out)))); have n6_ := Aside0.mk (Kd.C_below (by repeat (first | (with_reducible exact HR234_1.out) | (with_reducible refine Kd.C_alloc ?_ _) | (with_reducible refine Kd.C_drewN ?_ _) | (with_reducible refine Kd.C_drew ?_) | exact HR234_1.out)) hb); have n7_ := Aside0.mk (Kd.C_below (by repeat (first | (with_reducible exact HR244_1.out) | (with_reducible refine Kd.C_alloc ?_ _) | (with_reducible refine Kd.C_drewN ?_ _) | (with_reducible refine Kd.C_drew ?_) | exact HR244_1.out)) hb); have n8_ := Aside0.mk (below_step (by repeat (first | (with_reducible first | exact HB.out | apply bA | apply bN | apply bD) | exact HB.out)) hb); clear HO_0; clear HO_6; clear HO_7; clear HL234_1; clear HL244_1; clear HR234_1; clear HR244_1; clear HB; have HO_0 := n0_; have HO_6 := n1_; have HO_7 := n2_; have HL234_1 := n3_; have HL244_1 := n4_; have HO247 := n5_; have HR234_1 := n6_; have HR244_1 := n7_; have HB := n8_; clear n0_ n1_ n2_ n3_ n4_ n5_ n6_ n7_ n8_; (try clear hb); (try clear hb2); (try clear hk); (try clear hi); (try clear ho0)))
       go_roundg k1
       case measure => have := HK1.out; omega
       case rel => exact ⟨(t245), (x7_1), (wrap64 (x8_1 + 1)), (by first | rfl | (simp; done) | (simp [*]; done)), H', ⟨by have := HK1.out; omega⟩, ⟨by (with_reducible repeat (first | apply Kd.V_alloc | apply Kd.V_drewN | apply Kd.V_drew)); exact Kd.V_mono HO_0.out (fun _ hk => ⟨hk.1.1, ⟨hk.2, hk.1.2.2⟩⟩)⟩, ⟨Kd.Q_of_R (by (with_reducible repeat (first | apply Kd.R_alloc | apply Kd.R_drewN | apply Kd.R_drew)); exact Kd.R_mono HO247.out (fun _ hk => hk.1.1))⟩, ⟨by (with_reducible repeat (first | apply Kd.N_alloc | apply Kd.N_drewN | apply Kd.N_drew)); exact Kd.N_mono HO_7.out (fun _ hk => ⟨hk.1.1, hk.2⟩)⟩, ⟨by repeat (first | (with_reducible first | exact HB.out | apply bA | apply bN | apply bD) | exact HB.out)⟩⟩
     ·
      rw [if_neg c8] at H
      exact absurd H (by simp)
    ·
     rw [if_neg c7] at H
     have c7b0 : decide (x8_1 < (l0.length : Int)) = false := decide_eq_false c7
     clear c7
     have H' := Aside0.mk H
     clear H
     go_wp2_with (first | ((with_reducible refine gate_dst (N := 10) rfl ?_); (try (refine gate_guard (by rfl) ?_; dsimp only)); refine box_event ?hg (N := 10) ?hd (cs := #[.slice none 0 0, .bool false]) (t := 26) ?hr ?_; (case hd => rfl); (case hg => rfl); (case hr => first | (go_simp; done) | (go_simp; rfl)); intro gb248 hg w21 hbox hb; have n0_ := Aside0.mk (Kd.V_below (Kd.V_elderB (by (with_reducible repeat (first | apply Kd.V_alloc | apply Kd.V_drewN | apply Kd.V_drew)); exact HO_0.out) gb248 (Nat.le_of_eq hg.symm)) hb); have n1_ := Aside0.mk (Kd.Q_below (by (with_reducible repeat (first | apply Kd.Q_alloc | apply Kd.Q_drewN | apply Kd.Q_drew)); exact HO_6.out) hb); have n2_ := Aside0.mk (Kd.N_below (Kd.N_elderB (by (with_reducible repeat (first | apply Kd.N_alloc | apply Kd.N_drewN | apply Kd.N_drew)); exact HO_7.out) gb248 (Nat.le_of_eq hg.symm)) hb); have n3_ := Aside0.mk (below_step (by repeat (first | (with_reducible first | exact HB.out | apply bA | apply bN | apply bD) | exact HB.out)) hb); have n4_ := Aside0.mk (hbox); have n5_ := Aside0.mk ((by rw [hg]; exact (below_size (by repeat (first | (with_reducible first | exact HB.out | apply bA | apply bN | apply bD) | exact HB.out))) : w.heap.size ≤ gb248)); have n6_ := Aside0.mk ((by rw [hg]; exact (below_size (by repeat (first | (with_reducible first | exact HB.out | apply bA | apply bN | apply bD) | exact HB.out))) : w.heap.size ≤ gb248)); clear HO_0; clear HO_6; clear HO_7; clear HB; have HO_0 := n0_; have HO_6 := n1_; have HO_7 := n2_; have HB := n3_; have BK248 := n4_; have GW248 := n5_; have GE248 := n6_; clear n0_ n1_ n2_ n3_ n4_ n5_ n6_; clear hb hbox hg; have hcz22_0 : w21.cell? ⟨gb248, 0, none⟩ = some (.slice none 0 0) := (blk_cell BK248.out 0).trans rfl; have hcz22_1 : w21.cell? ⟨gb248, 1, none⟩ = some (.bool false) := (blk_cell BK248.out 1).trans rfl; have hfz22_0 := blk_frozen BK248.out 0; have hfz22_1 := blk_frozen BK248.out 1))
     go_loopg [6, 11] k1 (fun kq v6 v11 w' => ∃ (x6_2 : List Int) (x11_2 : List (S43)) (x249000_2 : List Int) (x249001_2 : Bool) (u249000 : Value), Aside0 (ridgewaylaw04_StreamBack.l1 kq t232 x6_2 x7_1 (wrap64 (1 + (Go.bits .and .i64 a1 127))) x11_2 x249000_2 x249001_2 = some true) ∧ Aside0 (kq ≤ k1) ∧ Aside0 (Kd.Q (Kd.int .u8) 5 w' w.heap.size (fun k_ => (w.heap.size ≤ k_)) v6 x6_2) ∧ Aside0 (Kd.N k43 43 w' w.heap.size (fun k_ => (P0_ k_ ∨ w.heap.size ≤ k_) ∧ some k_ ≠ (v6 : Value).ownBlock ∧ some k_ ≠ (v11 : Value).ownBlock ∧ k_ ≠ gb248) u7 x7_1) ∧ Aside0 (Kd.N k43 43 w' w.heap.size (fun k_ => (P0_ k_ ∨ w.heap.size ≤ k_) ∧ some k_ ≠ (v6 : Value).ownBlock ∧ some k_ ≠ (u7 : Value).ownBlock ∧ k_ ≠ gb248) v11 x11_2) ∧ Aside0 (Kd.V (Kd.int .u8) 5 w' w.heap.size (fun k_ => (P0_ k_ ∨ w.heap.size ≤ k_) ∧ some k_ ≠ (v6 : Value).ownBlock ∧ some k_ ≠ (u7 : Value).ownBlock ∧ some k_ ≠ (v11 : Value).ownBlock ∧ k_ ≠ gb248) u249000 x249000_2) ∧ Aside0 (w'.heap[gb248]? = some (.cells #[u249000, .bool x249001_2] 26 (0, 0))) ∧ Aside0 (Below w.heap.size w w'))
     case atStart => exact ⟨(x6_1), (([] : List (S43))), (([] : List Int)), (false), (.slice none 0 0), H', ⟨Nat.le_refl _⟩, ⟨by (with_reducible repeat (first | apply Kd.Q_alloc | apply Kd.Q_drewN | apply Kd.Q_drew)); exact Kd.Q_mono (Kd.Q_far (p := ⟨gb248, 1, none⟩) (Kd.Q_far (p := ⟨gb248, 0, none⟩) (Kd.Q_types HO_6.out BK248.out (by decide)) (fun _ hk => hk.2) (.slice none 0 0)) (fun _ hk => hk.2) (.bool false)) (fun _ hk => hk.1)⟩, ⟨by (with_reducible repeat (first | apply Kd.N_alloc | apply Kd.N_drewN | apply Kd.N_drew)); exact Kd.N_mono (Kd.N_far (p := ⟨gb248, 1, none⟩) (Kd.N_far (p := ⟨gb248, 0, none⟩) (Kd.N_mono HO_7.out (fun k_ hk => (⟨hk, hk.2⟩ : _ ∧ k_ ≠ gb248))) (fun _ hk => hk.2) (.slice none 0 0)) (fun _ hk => hk.2) (.bool false)) (fun _ hk => ⟨hk.1.1.1, ⟨hk.1.1.2, ⟨(by simp [Value.ownBlock]), hk.1.2⟩⟩⟩)⟩, ⟨by first | exact Kd.S_nil _ _ _ _ _ | exact Kd.N_nil _ _ _ _ _ | exact Kd.V_nil _ _ _ _ _ | exact Kd.Q_nil _ _ _ _ _ | exact Kd.R_nil _ _ _ _ _⟩, ⟨(by first | exact Kd.V_nil _ _ _ _ _ | (show Kd.V _ _ _ _ _ (.slice none 0 0) []; exact Kd.V_nil _ _ _ _ _))⟩, ⟨by (with_reducible repeat (first | refine kN ?_ _ | refine kD ?_ | refine kA ?_ _)); refine blk_put (cs := #[.slice none 0 0, .bool false]) ?_ 1 _ rfl; (with_reducible repeat (first | refine kN ?_ _ | refine kD ?_ | refine kA ?_ _)); refine blk_put (cs := #[.slice none 0 0, .bool false]) ?_ 0 _ rfl; (with_reducible repeat (first | refine kN ?_ _ | refine kD ?_ | refine kA ?_ _)); exact BK248.out⟩, ⟨by repeat (first | (with_reducible first | exact HB.out | apply bA | apply bN | apply bD | refine bS ?_ GE248.out) | exact HB.out)⟩⟩
     case round =>
      clear H'
      try clear c1
      try clear c2
      try clear p2
      try clear q2
      try clear hx2
      try clear c5
      try clear p6
      try clear c7
      try clear c7b0
      try clear c8
      try clear c8b0
      try clear c10
      try clear c11
      try clear c14
      try clear c15
      try clear c16
      try clear hcz22_0
      try clear hcz22_1
      try clear hfz22_0
      try clear hfz22_1
      try clear hx234_0
      try clear hx234_1
      try clear hx236_0
      try clear hx236_1
      try clear hx240_0
      try clear hx240_1
      try clear hx244_0
      try clear hx244_1
      try clear p2
      try clear p234
      try clear p236
      try clear p240
      try clear p244
      try clear q234
      try clear q236
      try clear q240
      try clear q244
      obtain ⟨x6_2, x11_2, x249000_2, x249001_2, u249000, HA, HK2, HO_6, HO_7, HO_11, HO_249000, BK248, HB⟩ := hrel
      cases gk with
      | zero => exact absurd HA.out (by simp [ridgewaylaw04_StreamBack.l1])
      | succ k2 =>
       have H := HA.out
       clear HA
       simp only [ridgewaylaw04_StreamBack.l1] at H
       by_cases c23 : (x6_2.length : Int) > 0
       ·
        rw [if_pos c23] at H
        have c23b0 : decide (0 < (x6_2.length : Int)) = true := decide_eq_true c23
        have c23b1 : decide (0 < x6_2.length) = true := decide_eq_true (by omega)
        clear c23
        have HC24 := Aside0.mk H
        clear H
        obtain ⟨Ao25, co25, eo25, _⟩ := Kd.Q_slice HO_6.out
        subst eo25
        go_upto_if 56 with (fail)
        go_cut [12] (fun v12 wc => ∃ (kq : Nat) (x12_23 : Int), v12 = .int .i64 x12_23 ∧ Aside0 (ridgewaylaw04_StreamBack.j2 kq t232 x6_2 x7_1 (wrap64 (1 + (Go.bits .and .i64 a1 127))) x11_2 x12_23 x249000_2 x249001_2 = some true) ∧ Aside0 (kq ≤ k2) ∧ Aside0 (Kd.Q (Kd.int .u8) 5 wc w.heap.size (fun k_ => (w.heap.size ≤ k_)) (.slice Ao25 x6_2.length co25) x6_2) ∧ Aside0 (Kd.N k43 43 wc w.heap.size (fun k_ => (P0_ k_ ∨ w.heap.size ≤ k_) ∧ some k_ ≠ ((.slice Ao25 x6_2.length co25) : Value).ownBlock ∧ some k_ ≠ (u11 : Value).ownBlock ∧ k_ ≠ gb248) u7 x7_1) ∧ Aside0 (Kd.N k43 43 wc w.heap.size (fun k_ => (P0_ k_ ∨ w.heap.size ≤ k_) ∧ some k_ ≠ ((.slice Ao25 x6_2.length co25) : Value).ownBlock ∧ some k_ ≠ (u7 : Value).ownBlock ∧ k_ ≠ gb248) u11 x11_2) ∧ Aside0 (Kd.V (Kd.int .u8) 5 wc w.heap.size (fun k_ => (P0_ k_ ∨ w.heap.size ≤ k_) ∧ some k_ ≠ ((.slice Ao25 x6_2.length co25) : Value).ownBlock ∧ some k_ ≠ (u7 : Value).ownBlock ∧ some k_ ≠ (u11 : Value).ownBlock ∧ k_ ≠ gb248) u249000 x249000_2) ∧ Aside0 (wc.heap[gb248]? = some (.cells #[u249000, .bool x249001_2] 26 (0, 0))) ∧ Aside0 (Below w.heap.size w wc))
        case first =>
         have H := HC24.out
         clear HC24
         by_cases c26 : (wrap64 (1 + (Go.bits .and .i64 a1 127))) > (x6_2.length : Int)
         ·
          rw [if_pos c26] at H
          have c26b0 : decide ((x6_2.length : Int) < (wrap64 (1 + (Go.bits .and .i64 a1 127)))) = true := decide_eq_true c26
          clear c26
          (first | rw [c26b0] | (simp only [i64_w, i32_w]; rw [c26b0]) | skip)
          have H' := Aside0.mk H
          clear H
          go_wp2
          go_meet
          case rel => exact ⟨_, ((x6_2.length : Int)), (by first | rfl | (simp; done) | (simp [*]; done)), H', ⟨by have := HK1.out; have := HK2.out; first | omega | exact Nat.le_refl _⟩, ⟨by (with_reducible repeat (first | apply Kd.Q_alloc | apply Kd.Q_drewN | apply Kd.Q_drew)); exact HO_6.out⟩, ⟨by (with_reducible repeat (first | apply Kd.N_alloc | apply Kd.N_drewN | apply Kd.N_drew)); exact HO_7.out⟩, ⟨by (with_reducible repeat (first | apply Kd.N_alloc | apply Kd.N_drewN | apply Kd.N_drew)); exact HO_11.out⟩, ⟨by (with_reducible repeat (first | apply Kd.V_alloc | apply Kd.V_drewN | apply Kd.V_drew)); exact HO_249000.out⟩, ⟨by (with_reducible repeat (first | refine kN ?_ _ | refine kD ?_ | refine kA ?_ _)); exact BK248.out⟩, ⟨by repeat (first | (with_reducible first | exact HB.out | apply bA | apply bN | apply bD | refine bS ?_ GE248.out) | exact HB.out)⟩⟩
         ·
          rw [if_neg c26] at H
          have c26b0 : decide ((x6_2.length : Int) < (wrap64 (1 + (Go.bits .and .i64 a1 127)))) = false := decide_eq_false c26
          clear c26
          (first | rw [c26b0] | (simp only [i64_w, i32_w]; rw [c26b0]) | skip)
          have H' := Aside0.mk H
          clear H
          go_wp2
          go_meet
          case rel => exact ⟨_, ((wrap64 (1 + (Go.bits .and .i64 a1 127)))), (by first | rfl | (simp; done) | (simp [*]; done)), H', ⟨by have := HK1.out; have := HK2.out; first | omega | exact Nat.le_refl _⟩, ⟨by (with_reducible repeat (first | apply Kd.Q_alloc | apply Kd.Q_drewN | apply Kd.Q_drew)); exact HO_6.out⟩, ⟨by (with_reducible repeat (first | apply Kd.N_alloc | apply Kd.N_drewN | apply Kd.N_drew)); exact HO_7.out⟩, ⟨by (with_reducible repeat (first | apply Kd.N_alloc | apply Kd.N_drewN | apply Kd.N_drew)); exact HO_11.out⟩, ⟨by (with_reducible repeat (first | apply Kd.V_alloc | apply Kd.V_drewN | apply Kd.V_drew)); exact HO_249000.out⟩, ⟨by (with_reducible repeat (first | refine kN ?_ _ | refine kD ?_ | refine kA ?_ _)); exact BK248.out⟩, ⟨by repeat (first | (with_reducible first | exact HB.out | apply bA | apply bN | apply bD | refine bS ?_ GE248.out) | exact HB.out)⟩⟩
        case rest =>
         clear HC24
         try clear c1
         try clear c2
         try clear p2
         try clear q2
         try clear hx2
         try clear c5
         try clear p6
         try clear c7
         try clear c7b0
         try clear c8
         try clear c8b0
         try clear c10
         try clear c11
         try clear c14
         try clear c15
         try clear c16
         try clear c23
         try clear c23b0
         try clear c23b1
         try clear p23
         try clear q23
         try clear hx23
         try clear c24
         try clear p24
         try clear q24
         try clear hx24
         try clear c26
         try clear c26b0
         try clear hcz22_0
         try clear hcz22_1
         try clear hfz22_0
         try clear hfz22_1
         try clear hx234_0
         try clear hx234_1
         try clear hx236_0
         try clear hx236_1
         try clear hx240_0
         try clear hx240_1
         try clear hx244_0
         try clear hx244_1
         try clear p2
         try clear p234
         try clear p236
         try clear p240
         try clear p244
         try clear p6
         try clear q2
         try clear q234
         try clear q236
         try clear q240
         try clear q244
         obtain ⟨kq, x12_23, rfl, HA, HJ23, HO_6, HO_7, HO_11, HO_249000, BK248, HB⟩ := hcut
         cases kq with
         | zero => exact absurd HA.out (by simp [ridgewaylaw04_StreamBack.j2])
         | succ kj23 =>
          have H := HA.out
          clear HA
          simp only [ridgewaylaw04_StreamBack.j2] at H
          by_cases c27 : 0 ≤ x12_23
          ·
           rw [if_pos c27] at H
           have c27b0 := eq_true c27
           have c27b1 : decide (0 ≤ x12_23) = true := decide_eq_true c27
           clear c27
           by_cases c28 : x12_23 ≤ (x6_2.length : Int)
           ·
            rw [if_pos c28] at H
            have c28b0 := eq_true c28
            have c28b1 : decide (x12_23 ≤ (x6_2.length : Int)) = true := decide_eq_true c28
            clear c28
            obtain ⟨y250, hy250⟩ : ∃ y_ : List Int, y_ = (x6_2.take (x12_23 : Int).toNat) := ⟨_, rfl⟩
            replace H : ((stream_Feed.f x249000_2 x249001_2 y250).bind fun bt255 => (if bt255.2.2.2.1 = 0 then (if x11_2.length + bt255.2.2.1.length < 4398046511104 then (ridgewaylaw04_StreamBack.l1 kj23 t232 (x6_2.drop (x12_23 : Int).toNat) x7_1 (wrap64 (1 + (Go.bits .and .i64 a1 127))) (x11_2 ++ bt255.2.2.1) bt255.1 bt255.2.1) else (none)) else (some false))) = some true := by first | (rw [hy250]; with_reducible exact H) | (have H2_ := (Option.bind_some _ _).symm.trans H; rw [hy250]; with_reducible exact H2_) | (have H2_ := (Option.bind_some _ _).symm.trans H; with_reducible exact H2_) | with_reducible exact H | (rw [hy250]; exact H) | exact H
            have Ny250 := Aside0.mk hy250
            clear hy250
            replace H := Option.bind_eq_some_iff.mp H
            obtain ⟨⟨t255, t258, t259, t262, t263, t264⟩, A290, H⟩ := H
            replace H : (if t262 = 0 then (if x11_2.length + t259.length < 4398046511104 then (ridgewaylaw04_StreamBack.l1 kj23 t232 (x6_2.drop (x12_23 : Int).toNat) x7_1 (wrap64 (1 + (Go.bits .and .i64 a1 127))) (x11_2 ++ t259) t255 t258) else (none)) else (some false)) = some true := H
            have A29 := Aside0.mk A290
            clear A290
            by_cases c30 : t262 = 0
            ·
             rw [if_pos c30] at H
             have c30b0 : (t262 == 0) = true := beq_iff_eq.mpr c30
             have c30b1 : (t262 != 0) = false := bne_eq_false_iff_eq.mpr c30
             clear c30
             by_cases c31 : x11_2.length + t259.length < 4398046511104
             ·
              rw [if_pos c31] at H
              have LMc31 := Aside0.mk c31
              clear c31
              obtain ⟨y269, hy269⟩ : ∃ y_ : List (S43), y_ = (x11_2 ++ t259) := ⟨_, rfl⟩
              replace H : (ridgewaylaw04_StreamBack.l1 kj23 t232 (x6_2.drop (x12_23 : Int).toNat) x7_1 (wrap64 (1 + (Go.bits .and .i64 a1 127))) y269 t255 t258) = some true := by first | (rw [hy269]; with_reducible exact H) | (have H2_ := (Option.bind_some _ _).symm.trans H; rw [hy269]; with_reducible exact H2_) | (have H2_ := (Option.bind_some _ _).symm.trans H; with_reducible exact H2_) | with_reducible exact H | (rw [hy269]; exact H) | exact H
              have Ny269 := Aside0.mk hy269
              clear hy269
              have c32b0 := eq_true (of_decide_eq_true (by first | (with_reducible assumption) | assumption) : x12_23 ≤ (x6_2.length : Int))
              obtain ⟨y272, hy272⟩ : ∃ y_ : List Int, y_ = (x6_2.drop (x12_23 : Int).toNat) := ⟨_, rfl⟩
              replace H : (ridgewaylaw04_StreamBack.l1 kj23 t232 y272 x7_1 (wrap64 (1 + (Go.bits .and .i64 a1 127))) y269 t255 t258) = some true := by first | (rw [hy272]; with_reducible exact H) | (have H2_ := (Option.bind_some _ _).symm.trans H; rw [hy272]; with_reducible exact H2_) | (have H2_ := (Option.bind_some _ _).symm.trans H; with_reducible exact H2_) | with_reducible exact H | (rw [hy272]; exact H) | exact H
              have Ny272 := Aside0.mk hy272
              clear hy272
              have H' := Aside0.mk H
              clear H
              obtain ⟨Ao33, co33, eo33⟩ := Kd.V_slice HO_249000.out
              subst eo33
              try go_wp2
              have n0_ := Aside0.mk (Kd.Q_drew HO_6.out)
              have n1_ := Aside0.mk (Kd.N_drew HO_7.out)
              have n2_ := Aside0.mk (Kd.N_drew HO_11.out)
              have n3_ := Aside0.mk (Kd.V_drew HO_249000.out)
              have n4_ := Aside0.mk (blk_drew BK248.out)
              have n5_ := Aside0.mk (below_drew1 HB.out)
              clear HO_6
              clear HO_7
              clear HO_11
              clear HO_249000
              clear BK248
              clear HB
              have HO_6 := n0_
              have HO_7 := n1_
              have HO_11 := n2_
              have HO_249000 := n3_
              have BK248 := n4_
              have HB := n5_
              clear n0_ n1_ n2_ n3_ n4_ n5_
              have q35 : (x12_23 : Int) ≤ ((x6_2.length : Int) : Int) := of_decide_eq_true (by first | (with_reducible assumption) | assumption)
              obtain ⟨i035, hi035, _, hsz35, _⟩ := info_parts info5
              have hroom35 : x6_2.length ≤ co25 := (Kd.Q_reads' HO_6.out).2.1
              have hC35 : Kd.F (Kd.int .u8) _ _ Ao25 x6_2.length x6_2 := (Kd.V_at (base := w.heap.size) (Kd.V_mono (ok' := (fun k_ => ((((P0_ k_ ∨ w.heap.size ≤ k_) ∧ some k_ ≠ (u7 : Value).ownBlock) ∧ some k_ ≠ (u11 : Value).ownBlock) ∧ k_ ≠ gb248))) (Kd.Q_V (Kd.Q_types (Kd.Q_apart' (Kd.Q_apart' (HO_6.out) (Kd.N_typed HO_7.out) (by decide)) (Kd.N_typed HO_11.out) (by decide)) BK248.out (by decide))) (fun k_ hk => ⟨⟨⟨(.inr (hk.1.1.1)), hk.1.1.2⟩, hk.1.2⟩, hk.2⟩))).2.2
              have hcut35 := cut_to (P := Try.prog) 22 5 .i64 Try.underlying22 hi035 Ao25 x6_2.length co25 x12_23 (of_decide_eq_true (by first | (with_reducible assumption) | assumption)) q35 hroom35
              have hr35 := Kd.F_take (m := (x12_23 : Int).toNat) hC35 (by omega)
              have hy35 : y250.length = (x12_23 : Int).toNat := (by rw [Ny250.out, List.length_take]; omega)
              rw [← Ny250.out] at hr35
              rw [← hy35] at hcut35
              have HO254 := Aside0.mk (show Kd.V (Kd.int .u8) 5 _ w.heap.size _ (.slice Ao25 y250.length co25) y250 from Kd.V_mk (by omega) hr35)
              have HC254 := Aside0.mk (show y250.length ≤ co25 from by omega)
              clear hr35 hC35 hroom35 hi035 hsz35
              have KY35 := Aside0.mk hy35
              clear hy35
              replace q35 := eq_true q35
              refine start_ (n := 14) (S := fun w' => w'.cell? ⟨gb248, 0, none⟩ = some (.slice Ao33 x249000_2.length co33) ∧ w'.cell? ⟨gb248, 1, none⟩ = some (.bool x249001_2)) (ds := []) #[false, false, false, false, false, false, false, false, false, false, false, false, false, false] (by kernel_rfl) rfl rfl ⟨(blk_cell BK248.out 0).trans rfl, (blk_cell BK248.out 1).trans rfl⟩ (fun hHeld => ?_); refine with_tabW ridgewaylaw04_StreamBack.tab19 ridgewaylaw04_StreamBack.bits19 (fun HT_ HW_ => ?_)
              generalize wc.drew = w34 at HO_6 HO_7 HO_11 HO_249000 BK248 HB HO254 hHeld ⊢
              refine pure_ (i := 1) (N := some 61) (v := ?_) (a' := ?_) #[false, true, false, false, false, false, false, false, false, false, false, false, false, false] rfl rfl (any_of HT_.out (by kernel_rfl)) (fun _ _ _ h => h) (Or.inl ⟨by rfl, ?_⟩) ?_ ?_
              rotate_left
              ·
               intro w'
               go_simp
               with_reducible rfl
              rotate_left
              ·
               simp only [Act.put, sA, sB, sC, i64_w, i32_w]
               rfl
              refine pure_ (i := 2) (N := some 62) (v := ?_) (a' := ?_) #[false, true, true, false, false, false, false, false, false, false, false, false, false, false] rfl rfl (any_of HT_.out (by kernel_rfl)) (fun _ _ _ h => h) (Or.inl ⟨by rfl, ?_⟩) ?_ ?_
              rotate_left
              ·
               intro w'
               go_simp
               with_reducible rfl
              rotate_left
              ·
               simp only [Act.put, sA, sB, sC, i64_w, i32_w]
               rfl
              refine pure_ (i := 3) (N := some 63) (v := ?_) (a' := ?_) #[false, true, true, true, false, false, false, false, false, false, false, false, false, false] rfl rfl (any_of HT_.out (by kernel_rfl)) (fun _ _ _ h => h) (Or.inl ⟨by rfl, ?_⟩) ?_ ?_
              rotate_left
              ·
               intro w'
               go_simp
               with_reducible rfl
              rotate_left
              ·
               simp only [Act.put, sA, sB, sC, i64_w, i32_w]
               rfl
              refine take_ (i := 0) (N := some 60) (v := ?_) (a' := ?_) #[true, true, true, true, false, false, false, false, false, false, false, false, false, false] rfl rfl (take_ofW HT_.out HW_.out (by kernel_rfl)) (fun _ _ _ h => h) (Or.inl ⟨by rfl, ?_⟩) hHeld ?_ ?_
              rotate_left
              ·
               rintro w' ⟨s0, s1⟩
               go_simp
               with_reducible rfl
              rotate_left
              ·
               simp only [Act.put, sA, sB, sC, i64_w, i32_w]
               rfl
              refine join_ (σ := Value × Value × Value × Nat × Nat) 3 #[true, true, true, true, true, true, true, true, true, true, true, false, false, false] (fun s_ => [(64, .tuple #[.agg #[s_.1, .bool t258], s_.2.1, .agg #[.int .i64 t262, .int .i64 t263, s_.2.2.1]]), (13, .pointer (some ⟨s_.2.2.2.1, 0, none⟩)), (15, .pointer (some ⟨s_.2.2.2.2, 0, none⟩)), (59, .tuple #[.agg #[s_.1, .bool t258], s_.2.1, .agg #[.int .i64 t262, .int .i64 t263, s_.2.2.1]]), (65, .agg #[s_.1, .bool t258]), (66, s_.2.1), (67, .agg #[.int .i64 t262, .int .i64 t263, s_.2.2.1])]) (fun s_ w' => (w'.cell? ⟨gb248, 0, none⟩ = some (.slice Ao33 x249000_2.length co33) ∧ w'.cell? ⟨gb248, 1, none⟩ = some (.bool x249001_2)) ∧ (Kd.V (Kd.int .u8) 5 w' w.heap.size (fun k_ => (P0_ k_ ∨ w.heap.size ≤ k_) ∧ some k_ ≠ (s_.2.1 : Value).ownBlock ∧ some k_ ≠ (u11 : Value).ownBlock ∧ some k_ ≠ (u7 : Value).ownBlock ∧ k_ ≠ gb248 ∧ k_ ≠ s_.2.2.2.1 ∧ k_ ≠ s_.2.2.2.2) (.slice Ao25 y250.length co25) y250) ∧ (Kd.V (Kd.int .u8) 5 w' w.heap.size (fun k_ => (P0_ k_ ∨ w.heap.size ≤ k_) ∧ some k_ ≠ (s_.2.1 : Value).ownBlock ∧ some k_ ≠ (u11 : Value).ownBlock ∧ some k_ ≠ (.slice Ao25 x6_2.length co25 : Value).ownBlock ∧ some k_ ≠ (u7 : Value).ownBlock ∧ k_ ≠ gb248 ∧ k_ ≠ s_.2.2.2.1 ∧ k_ ≠ s_.2.2.2.2) s_.1 t255) ∧ (Kd.N k43 43 w' w.heap.size (fun k_ => (P0_ k_ ∨ w.heap.size ≤ k_) ∧ some k_ ≠ (u11 : Value).ownBlock ∧ some k_ ≠ (.slice Ao25 x6_2.length co25 : Value).ownBlock ∧ some k_ ≠ (u7 : Value).ownBlock ∧ k_ ≠ gb248 ∧ k_ ≠ s_.2.2.2.1 ∧ k_ ≠ s_.2.2.2.2) s_.2.1 t259) ∧ (Kd.V (Kd.int .u8) 5 w' w.heap.size (fun k_ => (P0_ k_ ∨ w.heap.size ≤ k_) ∧ some k_ ≠ (s_.2.1 : Value).ownBlock ∧ some k_ ≠ (u11 : Value).ownBlock ∧ some k_ ≠ (.slice Ao25 x6_2.length co25 : Value).ownBlock ∧ some k_ ≠ (u7 : Value).ownBlock ∧ k_ ≠ gb248 ∧ k_ ≠ s_.2.2.2.1 ∧ k_ ≠ s_.2.2.2.2) s_.2.2.1 t264) ∧ (Kd.N k43 43 w' w.heap.size (fun k_ => (P0_ k_ ∨ w.heap.size ≤ k_) ∧ some k_ ≠ (s_.2.1 : Value).ownBlock ∧ some k_ ≠ (.slice Ao25 x6_2.length co25 : Value).ownBlock ∧ some k_ ≠ (u7 : Value).ownBlock ∧ k_ ≠ gb248 ∧ k_ ≠ s_.2.2.2.1 ∧ k_ ≠ s_.2.2.2.2) u11 x11_2) ∧ (Kd.V (Kd.int .u8) 5 w' w.heap.size (fun k_ => (P0_ k_ ∨ w.heap.size ≤ k_) ∧ some k_ ≠ (s_.2.1 : Value).ownBlock ∧ some k_ ≠ (u11 : Value).ownBlock ∧ some k_ ≠ (.slice Ao25 x6_2.length co25 : Value).ownBlock ∧ some k_ ≠ (u7 : Value).ownBlock ∧ k_ ≠ gb248 ∧ k_ ≠ s_.2.2.2.1 ∧ k_ ≠ s_.2.2.2.2) (.slice Ao33 x249000_2.length co33) x249000_2) ∧ (Kd.Q (Kd.int .u8) 5 w' w.heap.size (fun k_ => (w.heap.size ≤ k_)) (.slice Ao25 x6_2.length co25) x6_2) ∧ (Kd.N k43 43 w' w.heap.size (fun k_ => (P0_ k_ ∨ w.heap.size ≤ k_) ∧ some k_ ≠ (s_.2.1 : Value).ownBlock ∧ some k_ ≠ (u11 : Value).ownBlock ∧ some k_ ≠ (.slice Ao25 x6_2.length co25 : Value).ownBlock ∧ k_ ≠ gb248 ∧ k_ ≠ s_.2.2.2.1 ∧ k_ ≠ s_.2.2.2.2) u7 x7_1) ∧ (w'.heap[gb248]? = some (.cells #[.slice Ao33 x249000_2.length co33, .bool x249001_2] 26 (0, 0))) ∧ (w'.heap[s_.2.2.2.1]? = some (.cells #[.slice none 0 0, .bool false] 26 (0, 0))) ∧ (w'.heap[s_.2.2.2.2]? = some (.cells #[.int .i64 0, .int .i64 0, .slice none 0 0] 29 (0, 0))) ∧ (w.heap.size ≤ s_.2.2.2.1) ∧ (w.heap.size ≤ s_.2.2.2.1) ∧ (gb248 ≠ s_.2.2.2.1) ∧ (s_.2.2.2.1 ≠ gb248) ∧ (s_.2.2.2.2 ≠ s_.2.2.2.1) ∧ (s_.2.2.2.1 ≠ s_.2.2.2.2) ∧ (w.heap.size ≤ s_.2.2.2.2) ∧ (w.heap.size ≤ s_.2.2.2.2) ∧ (gb248 ≠ s_.2.2.2.2) ∧ (s_.2.2.2.2 ≠ gb248) ∧ (Below w.heap.size w w')) ?_ ?_
              rotate_left
              ·
               intro hJ4_9_10
               refine join_ (σ := Value × Value × Value × Nat) 4 #[true, true, true, true, true, true, true, true, true, true, false, false, false, false] (fun s_ => [(64, .tuple #[.agg #[s_.1, .bool t258], s_.2.1, .agg #[.int .i64 t262, .int .i64 t263, s_.2.2.1]]), (13, .pointer (some ⟨s_.2.2.2, 0, none⟩)), (59, .tuple #[.agg #[s_.1, .bool t258], s_.2.1, .agg #[.int .i64 t262, .int .i64 t263, s_.2.2.1]]), (65, .agg #[s_.1, .bool t258]), (66, s_.2.1), (67, .agg #[.int .i64 t262, .int .i64 t263, s_.2.2.1])]) (fun s_ w' => (w'.cell? ⟨gb248, 0, none⟩ = some (.slice Ao33 x249000_2.length co33) ∧ w'.cell? ⟨gb248, 1, none⟩ = some (.bool x249001_2)) ∧ (Kd.V (Kd.int .u8) 5 w' w.heap.size (fun k_ => (P0_ k_ ∨ w.heap.size ≤ k_) ∧ some k_ ≠ (s_.2.1 : Value).ownBlock ∧ some k_ ≠ (u11 : Value).ownBlock ∧ some k_ ≠ (u7 : Value).ownBlock ∧ k_ ≠ gb248 ∧ k_ ≠ s_.2.2.2) (.slice Ao25 y250.length co25) y250) ∧ (Kd.V (Kd.int .u8) 5 w' w.heap.size (fun k_ => (P0_ k_ ∨ w.heap.size ≤ k_) ∧ some k_ ≠ (s_.2.1 : Value).ownBlock ∧ some k_ ≠ (u11 : Value).ownBlock ∧ some k_ ≠ (.slice Ao25 x6_2.length co25 : Value).ownBlock ∧ some k_ ≠ (u7 : Value).ownBlock ∧ k_ ≠ gb248 ∧ k_ ≠ s_.2.2.2) s_.1 t255) ∧ (Kd.N k43 43 w' w.heap.size (fun k_ => (P0_ k_ ∨ w.heap.size ≤ k_) ∧ some k_ ≠ (u11 : Value).ownBlock ∧ some k_ ≠ (.slice Ao25 x6_2.length co25 : Value).ownBlock ∧ some k_ ≠ (u7 : Value).ownBlock ∧ k_ ≠ gb248 ∧ k_ ≠ s_.2.2.2) s_.2.1 t259) ∧ (Kd.V (Kd.int .u8) 5 w' w.heap.size (fun k_ => (P0_ k_ ∨ w.heap.size ≤ k_) ∧ some k_ ≠ (s_.2.1 : Value).ownBlock ∧ some k_ ≠ (u11 : Value).ownBlock ∧ some k_ ≠ (.slice Ao25 x6_2.length co25 : Value).ownBlock ∧ some k_ ≠ (u7 : Value).ownBlock ∧ k_ ≠ gb248 ∧ k_ ≠ s_.2.2.2) s_.2.2.1 t264) ∧ (Kd.N k43 43 w' w.heap.size (fun k_ => (P0_ k_ ∨ w.heap.size ≤ k_) ∧ some k_ ≠ (s_.2.1 : Value).ownBlock ∧ some k_ ≠ (.slice Ao25 x6_2.length co25 : Value).ownBlock ∧ some k_ ≠ (u7 : Value).ownBlock ∧ k_ ≠ gb248 ∧ k_ ≠ s_.2.2.2) u11 x11_2) ∧ (Kd.V (Kd.int .u8) 5 w' w.heap.size (fun k_ => (P0_ k_ ∨ w.heap.size ≤ k_) ∧ some k_ ≠ (s_.2.1 : Value).ownBlock ∧ some k_ ≠ (u11 : Value).ownBlock ∧ some k_ ≠ (.slice Ao25 x6_2.length co25 : Value).ownBlock ∧ some k_ ≠ (u7 : Value).ownBlock ∧ k_ ≠ gb248 ∧ k_ ≠ s_.2.2.2) (.slice Ao33 x249000_2.length co33) x249000_2) ∧ (Kd.Q (Kd.int .u8) 5 w' w.heap.size (fun k_ => (w.heap.size ≤ k_)) (.slice Ao25 x6_2.length co25) x6_2) ∧ (Kd.N k43 43 w' w.heap.size (fun k_ => (P0_ k_ ∨ w.heap.size ≤ k_) ∧ some k_ ≠ (s_.2.1 : Value).ownBlock ∧ some k_ ≠ (u11 : Value).ownBlock ∧ some k_ ≠ (.slice Ao25 x6_2.length co25 : Value).ownBlock ∧ k_ ≠ gb248 ∧ k_ ≠ s_.2.2.2) u7 x7_1) ∧ (w'.heap[gb248]? = some (.cells #[.slice Ao33 x249000_2.length co33, .bool x249001_2] 26 (0, 0))) ∧ (w'.heap[s_.2.2.2]? = some (.cells #[.slice none 0 0, .bool false] 26 (0, 0))) ∧ (w.heap.size ≤ s_.2.2.2) ∧ (w.heap.size ≤ s_.2.2.2) ∧ (gb248 ≠ s_.2.2.2) ∧ (s_.2.2.2 ≠ gb248) ∧ (Below w.heap.size w w')) ?_ ?_
               rotate_left
               ·
                intro hJ4_9
                refine join_ (σ := Value × Value × Value × Nat) 4 #[true, true, true, true, true, true, true, true, true, false, true, false, false, false] (fun s_ => [(64, .tuple #[.agg #[s_.1, .bool t258], s_.2.1, .agg #[.int .i64 t262, .int .i64 t263, s_.2.2.1]]), (15, .pointer (some ⟨s_.2.2.2, 0, none⟩)), (59, .tuple #[.agg #[s_.1, .bool t258], s_.2.1, .agg #[.int .i64 t262, .int .i64 t263, s_.2.2.1]]), (65, .agg #[s_.1, .bool t258]), (66, s_.2.1), (67, .agg #[.int .i64 t262, .int .i64 t263, s_.2.2.1])]) (fun s_ w' => (w'.cell? ⟨gb248, 0, none⟩ = some (.slice Ao33 x249000_2.length co33) ∧ w'.cell? ⟨gb248, 1, none⟩ = some (.bool x249001_2)) ∧ (Kd.V (Kd.int .u8) 5 w' w.heap.size (fun k_ => (P0_ k_ ∨ w.heap.size ≤ k_) ∧ some k_ ≠ (s_.2.1 : Value).ownBlock ∧ some k_ ≠ (u11 : Value).ownBlock ∧ some k_ ≠ (u7 : Value).ownBlock ∧ k_ ≠ gb248 ∧ k_ ≠ s_.2.2.2) (.slice Ao25 y250.length co25) y250) ∧ (Kd.V (Kd.int .u8) 5 w' w.heap.size (fun k_ => (P0_ k_ ∨ w.heap.size ≤ k_) ∧ some k_ ≠ (s_.2.1 : Value).ownBlock ∧ some k_ ≠ (u11 : Value).ownBlock ∧ some k_ ≠ (.slice Ao25 x6_2.length co25 : Value).ownBlock ∧ some k_ ≠ (u7 : Value).ownBlock ∧ k_ ≠ gb248 ∧ k_ ≠ s_.2.2.2) s_.1 t255) ∧ (Kd.N k43 43 w' w.heap.size (fun k_ => (P0_ k_ ∨ w.heap.size ≤ k_) ∧ some k_ ≠ (u11 : Value).ownBlock ∧ some k_ ≠ (.slice Ao25 x6_2.length co25 : Value).ownBlock ∧ some k_ ≠ (u7 : Value).ownBlock ∧ k_ ≠ gb248 ∧ k_ ≠ s_.2.2.2) s_.2.1 t259) ∧ (Kd.V (Kd.int .u8) 5 w' w.heap.size (fun k_ => (P0_ k_ ∨ w.heap.size ≤ k_) ∧ some k_ ≠ (s_.2.1 : Value).ownBlock ∧ some k_ ≠ (u11 : Value).ownBlock ∧ some k_ ≠ (.slice Ao25 x6_2.length co25 : Value).ownBlock ∧ some k_ ≠ (u7 : Value).ownBlock ∧ k_ ≠ gb248 ∧ k_ ≠ s_.2.2.2) s_.2.2.1 t264) ∧ (Kd.N k43 43 w' w.heap.size (fun k_ => (P0_ k_ ∨ w.heap.size ≤ k_) ∧ some k_ ≠ (s_.2.1 : Value).ownBlock ∧ some k_ ≠ (.slice Ao25 x6_2.length co25 : Value).ownBlock ∧ some k_ ≠ (u7 : Value).ownBlock ∧ k_ ≠ gb248 ∧ k_ ≠ s_.2.2.2) u11 x11_2) ∧ (Kd.V (Kd.int .u8) 5 w' w.heap.size (fun k_ => (P0_ k_ ∨ w.heap.size ≤ k_) ∧ some k_ ≠ (s_.2.1 : Value).ownBlock ∧ some k_ ≠ (u11 : Value).ownBlock ∧ some k_ ≠ (.slice Ao25 x6_2.length co25 : Value).ownBlock ∧ some k_ ≠ (u7 : Value).ownBlock ∧ k_ ≠ gb248 ∧ k_ ≠ s_.2.2.2) (.slice Ao33 x249000_2.length co33) x249000_2) ∧ (Kd.Q (Kd.int .u8) 5 w' w.heap.size (fun k_ => (w.heap.size ≤ k_)) (.slice Ao25 x6_2.length co25) x6_2) ∧ (Kd.N k43 43 w' w.heap.size (fun k_ => (P0_ k_ ∨ w.heap.size ≤ k_) ∧ some k_ ≠ (s_.2.1 : Value).ownBlock ∧ some k_ ≠ (u11 : Value).ownBlock ∧ some k_ ≠ (.slice Ao25 x6_2.length co25 : Value).ownBlock ∧ k_ ≠ gb248 ∧ k_ ≠ s_.2.2.2) u7 x7_1) ∧ (w'.heap[gb248]? = some (.cells #[.slice Ao33 x249000_2.length co33, .bool x249001_2] 26 (0, 0))) ∧ (w'.heap[s_.2.2.2]? = some (.cells #[.int .i64 0, .int .i64 0, .slice none 0 0] 29 (0, 0))) ∧ (w.heap.size ≤ s_.2.2.2) ∧ (w.heap.size ≤ s_.2.2.2) ∧ (gb248 ≠ s_.2.2.2) ∧ (s_.2.2.2 ≠ gb248) ∧ (Below w.heap.size w w')) ?_ ?_
                rotate_left
                ·
                 intro hJ4_10
                 refine join_ (σ := Nat × Nat) 8 #[true, true, true, true, false, false, false, false, false, true, true, false, false, false] (fun s_ => [(13, .pointer (some ⟨s_.1, 0, none⟩)), (15, .pointer (some ⟨s_.2, 0, none⟩))]) (fun s_ w' => (w'.cell? ⟨gb248, 0, none⟩ = some (.slice Ao33 x249000_2.length co33) ∧ w'.cell? ⟨gb248, 1, none⟩ = some (.bool x249001_2)) ∧ (Kd.V (Kd.int .u8) 5 w' w.heap.size (fun k_ => (P0_ k_ ∨ w.heap.size ≤ k_) ∧ some k_ ≠ (u11 : Value).ownBlock ∧ some k_ ≠ (u7 : Value).ownBlock ∧ k_ ≠ gb248 ∧ k_ ≠ s_.1 ∧ k_ ≠ s_.2) (.slice Ao25 y250.length co25) y250) ∧ (Kd.N k43 43 w' w.heap.size (fun k_ => (P0_ k_ ∨ w.heap.size ≤ k_) ∧ some k_ ≠ (.slice Ao25 x6_2.length co25 : Value).ownBlock ∧ some k_ ≠ (u7 : Value).ownBlock ∧ k_ ≠ gb248 ∧ k_ ≠ s_.1 ∧ k_ ≠ s_.2) u11 x11_2) ∧ (Kd.V (Kd.int .u8) 5 w' w.heap.size (fun k_ => (P0_ k_ ∨ w.heap.size ≤ k_) ∧ some k_ ≠ (u11 : Value).ownBlock ∧ some k_ ≠ (.slice Ao25 x6_2.length co25 : Value).ownBlock ∧ some k_ ≠ (u7 : Value).ownBlock ∧ k_ ≠ gb248 ∧ k_ ≠ s_.1 ∧ k_ ≠ s_.2) (.slice Ao33 x249000_2.length co33) x249000_2) ∧ (Kd.Q (Kd.int .u8) 5 w' w.heap.size (fun k_ => (w.heap.size ≤ k_)) (.slice Ao25 x6_2.length co25) x6_2) ∧ (Kd.N k43 43 w' w.heap.size (fun k_ => (P0_ k_ ∨ w.heap.size ≤ k_) ∧ some k_ ≠ (u11 : Value).ownBlock ∧ some k_ ≠ (.slice Ao25 x6_2.length co25 : Value).ownBlock ∧ k_ ≠ gb248 ∧ k_ ≠ s_.1 ∧ k_ ≠ s_.2) u7 x7_1) ∧ (w'.heap[gb248]? = some (.cells #[.slice Ao33 x249000_2.length co33, .bool x249001_2] 26 (0, 0))) ∧ (w'.heap[s_.1]? = some (.cells #[.slice none 0 0, .bool false] 26 (0, 0))) ∧ (w'.heap[s_.2]? = some (.cells #[.int .i64 0, .int .i64 0, .slice none 0 0] 29 (0, 0))) ∧ (w.heap.size ≤ s_.1) ∧ (w.heap.size ≤ s_.1) ∧ (gb248 ≠ s_.1) ∧ (s_.1 ≠ gb248) ∧ (s_.2 ≠ s_.1) ∧ (s_.1 ≠ s_.2) ∧ (w.heap.size ≤ s_.2) ∧ (w.heap.size ≤ s_.2) ∧ (gb248 ≠ s_.2) ∧ (s_.2 ≠ gb248) ∧ (Below w.heap.size w w')) ?_ ?_
                 rotate_left
                 ·
                  intro hJ9_10
                  refine join_ (σ := Value × Value × Value) 5 #[true, true, true, true, true, true, true, true, true, false, false, false, false, false] (fun s_ => [(64, .tuple #[.agg #[s_.1, .bool t258], s_.2.1, .agg #[.int .i64 t262, .int .i64 t263, s_.2.2]]), (59, .tuple #[.agg #[s_.1, .bool t258], s_.2.1, .agg #[.int .i64 t262, .int .i64 t263, s_.2.2]]), (65, .agg #[s_.1, .bool t258]), (66, s_.2.1), (67, .agg #[.int .i64 t262, .int .i64 t263, s_.2.2])]) (fun s_ w' => (w'.cell? ⟨gb248, 0, none⟩ = some (.slice Ao33 x249000_2.length co33) ∧ w'.cell? ⟨gb248, 1, none⟩ = some (.bool x249001_2)) ∧ (Kd.V (Kd.int .u8) 5 w' w.heap.size (fun k_ => (P0_ k_ ∨ w.heap.size ≤ k_) ∧ some k_ ≠ (s_.2.1 : Value).ownBlock ∧ some k_ ≠ (u11 : Value).ownBlock ∧ some k_ ≠ (u7 : Value).ownBlock ∧ k_ ≠ gb248) (.slice Ao25 y250.length co25) y250) ∧ (Kd.V (Kd.int .u8) 5 w' w.heap.size (fun k_ => (P0_ k_ ∨ w.heap.size ≤ k_) ∧ some k_ ≠ (s_.2.1 : Value).ownBlock ∧ some k_ ≠ (u11 : Value).ownBlock ∧ some k_ ≠ (.slice Ao25 x6_2.length co25 : Value).ownBlock ∧ some k_ ≠ (u7 : Value).ownBlock ∧ k_ ≠ gb248) s_.1 t255) ∧ (Kd.N k43 43 w' w.heap.size (fun k_ => (P0_ k_ ∨ w.heap.size ≤ k_) ∧ some k_ ≠ (u11 : Value).ownBlock ∧ some k_ ≠ (.slice Ao25 x6_2.length co25 : Value).ownBlock ∧ some k_ ≠ (u7 : Value).ownBlock ∧ k_ ≠ gb248) s_.2.1 t259) ∧ (Kd.V (Kd.int .u8) 5 w' w.heap.size (fun k_ => (P0_ k_ ∨ w.heap.size ≤ k_) ∧ some k_ ≠ (s_.2.1 : Value).ownBlock ∧ some k_ ≠ (u11 : Value).ownBlock ∧ some k_ ≠ (.slice Ao25 x6_2.length co25 : Value).ownBlock ∧ some k_ ≠ (u7 : Value).ownBlock ∧ k_ ≠ gb248) s_.2.2 t264) ∧ (Kd.N k43 43 w' w.heap.size (fun k_ => (P0_ k_ ∨ w.heap.size ≤ k_) ∧ some k_ ≠ (s_.2.1 : Value).ownBlock ∧ some k_ ≠ (.slice Ao25 x6_2.length co25 : Value).ownBlock ∧ some k_ ≠ (u7 : Value).ownBlock ∧ k_ ≠ gb248) u11 x11_2) ∧ (Kd.V (Kd.int .u8) 5 w' w.heap.size (fun k_ => (P0_ k_ ∨ w.heap.size ≤ k_) ∧ some k_ ≠ (s_.2.1 : Value).ownBlock ∧ some k_ ≠ (u11 : Value).ownBlock ∧ some k_ ≠ (.slice Ao25 x6_2.length co25 : Value).ownBlock ∧ some k_ ≠ (u7 : Value).ownBlock ∧ k_ ≠ gb248) (.slice Ao33 x249000_2.length co33) x249000_2) ∧ (Kd.Q (Kd.int .u8) 5 w' w.heap.size (fun k_ => (w.heap.size ≤ k_)) (.slice Ao25 x6_2.length co25) x6_2) ∧ (Kd.N k43 43 w' w.heap.size (fun k_ => (P0_ k_ ∨ w.heap.size ≤ k_) ∧ some k_ ≠ (s_.2.1 : Value).ownBlock ∧ some k_ ≠ (u11 : Value).ownBlock ∧ some k_ ≠ (.slice Ao25 x6_2.length co25 : Value).ownBlock ∧ k_ ≠ gb248) u7 x7_1) ∧ (w'.heap[gb248]? = some (.cells #[.slice Ao33 x249000_2.length co33, .bool x249001_2] 26 (0, 0))) ∧ (Below w.heap.size w w')) ?_ ?_
                  rotate_left
                  ·
                   intro hJ4
                   refine join_ (σ := Nat) 9 #[true, true, true, true, false, false, false, false, false, true, false, false, false, false] (fun s_ => [(13, .pointer (some ⟨s_, 0, none⟩))]) (fun s_ w' => (w'.cell? ⟨gb248, 0, none⟩ = some (.slice Ao33 x249000_2.length co33) ∧ w'.cell? ⟨gb248, 1, none⟩ = some (.bool x249001_2)) ∧ (Kd.V (Kd.int .u8) 5 w' w.heap.size (fun k_ => (P0_ k_ ∨ w.heap.size ≤ k_) ∧ some k_ ≠ (u11 : Value).ownBlock ∧ some k_ ≠ (u7 : Value).ownBlock ∧ k_ ≠ gb248 ∧ k_ ≠ s_) (.slice Ao25 y250.length co25) y250) ∧ (Kd.N k43 43 w' w.heap.size (fun k_ => (P0_ k_ ∨ w.heap.size ≤ k_) ∧ some k_ ≠ (.slice Ao25 x6_2.length co25 : Value).ownBlock ∧ some k_ ≠ (u7 : Value).ownBlock ∧ k_ ≠ gb248 ∧ k_ ≠ s_) u11 x11_2) ∧ (Kd.V (Kd.int .u8) 5 w' w.heap.size (fun k_ => (P0_ k_ ∨ w.heap.size ≤ k_) ∧ some k_ ≠ (u11 : Value).ownBlock ∧ some k_ ≠ (.slice Ao25 x6_2.length co25 : Value).ownBlock ∧ some k_ ≠ (u7 : Value).ownBlock ∧ k_ ≠ gb248 ∧ k_ ≠ s_) (.slice Ao33 x249000_2.length co33) x249000_2) ∧ (Kd.Q (Kd.int .u8) 5 w' w.heap.size (fun k_ => (w.heap.size ≤ k_)) (.slice Ao25 x6_2.length co25) x6_2) ∧ (Kd.N k43 43 w' w.heap.size (fun k_ => (P0_ k_ ∨ w.heap.size ≤ k_) ∧ some k_ ≠ (u11 : Value).ownBlock ∧ some k_ ≠ (.slice Ao25 x6_2.length co25 : Value).ownBlock ∧ k_ ≠ gb248 ∧ k_ ≠ s_) u7 x7_1) ∧ (w'.heap[gb248]? = some (.cells #[.slice Ao33 x249000_2.length co33, .bool x249001_2] 26 (0, 0))) ∧ (w'.heap[s_]? = some (.cells #[.slice none 0 0, .bool false] 26 (0, 0))) ∧ (w.heap.size ≤ s_) ∧ (w.heap.size ≤ s_) ∧ (gb248 ≠ s_) ∧ (s_ ≠ gb248) ∧ (Below w.heap.size w w')) ?_ ?_
                   rotate_left
                   ·
                    intro hJ9
                    refine join_ (σ := Nat) 9 #[true, true, true, true, false, false, false, false, false, false, true, false, false, false] (fun s_ => [(15, .pointer (some ⟨s_, 0, none⟩))]) (fun s_ w' => (w'.cell? ⟨gb248, 0, none⟩ = some (.slice Ao33 x249000_2.length co33) ∧ w'.cell? ⟨gb248, 1, none⟩ = some (.bool x249001_2)) ∧ (Kd.V (Kd.int .u8) 5 w' w.heap.size (fun k_ => (P0_ k_ ∨ w.heap.size ≤ k_) ∧ some k_ ≠ (u11 : Value).ownBlock ∧ some k_ ≠ (u7 : Value).ownBlock ∧ k_ ≠ gb248 ∧ k_ ≠ s_) (.slice Ao25 y250.length co25) y250) ∧ (Kd.N k43 43 w' w.heap.size (fun k_ => (P0_ k_ ∨ w.heap.size ≤ k_) ∧ some k_ ≠ (.slice Ao25 x6_2.length co25 : Value).ownBlock ∧ some k_ ≠ (u7 : Value).ownBlock ∧ k_ ≠ gb248 ∧ k_ ≠ s_) u11 x11_2) ∧ (Kd.V (Kd.int .u8) 5 w' w.heap.size (fun k_ => (P0_ k_ ∨ w.heap.size ≤ k_) ∧ some k_ ≠ (u11 : Value).ownBlock ∧ some k_ ≠ (.slice Ao25 x6_2.length co25 : Value).ownBlock ∧ some k_ ≠ (u7 : Value).ownBlock ∧ k_ ≠ gb248 ∧ k_ ≠ s_) (.slice Ao33 x249000_2.length co33) x249000_2) ∧ (Kd.Q (Kd.int .u8) 5 w' w.heap.size (fun k_ => (w.heap.size ≤ k_)) (.slice Ao25 x6_2.length co25) x6_2) ∧ (Kd.N k43 43 w' w.heap.size (fun k_ => (P0_ k_ ∨ w.heap.size ≤ k_) ∧ some k_ ≠ (u11 : Value).ownBlock ∧ some k_ ≠ (.slice Ao25 x6_2.length co25 : Value).ownBlock ∧ k_ ≠ gb248 ∧ k_ ≠ s_) u7 x7_1) ∧ (w'.heap[gb248]? = some (.cells #[.slice Ao33 x249000_2.length co33, .bool x249001_2] 26 (0, 0))) ∧ (w'.heap[s_]? = some (.cells #[.int .i64 0, .int .i64 0, .slice none 0 0] 29 (0, 0))) ∧ (w.heap.size ≤ s_) ∧ (w.heap.size ≤ s_) ∧ (gb248 ≠ s_) ∧ (s_ ≠ gb248) ∧ (Below w.heap.size w w')) ?_ ?_
                    rotate_left
                    ·
                     intro hJ10
                     refine three_ (i := 4) (j := 9) (k := 10) (Ni := some 64) (Nj := some 13) (Nk := some 15) #[true, true, true, true, true, false, false, false, false, false, false, false, false, false] #[true, true, true, true, false, false, false, false, false, true, false, false, false, false] #[true, true, true, true, false, false, false, false, false, false, true, false, false, false] rfl rfl rfl rfl rfl rfl (three_of HT_.out (by kernel_rfl)) (by decide) (by decide) (by decide) (fun K hK => ?_) (fun K hK => ?_) (fun K hK => ?_)
                     ·
                      skip
                      refine goes_ Try.func8 (by kernel_rfl) rfl #[.agg #[.slice Ao33 x249000_2.length co33, .bool x249001_2], .slice Ao25 y250.length co25] (by rfl) rfl rfl (by (try simp only [List.map_toArray, List.map_cons, List.map_nil]); first | done | rfl | (simp only [List.length_drop, List.length_take]; rfl)) ?_
                      with_reducible refine (stream_Feed.calls _ _ x249000_2 x249001_2 _ _ y250 t255 t258 t259 t262 t263 t264 _ ?side1 ?side2 ?side3 ?side4 A29.out).mono ?_
                      (case side1 => repeat (first | exact (Kd.V_reads' HO_249000.out).2.2 | (with_reducible refine Kd.C_alloc ?_ _) | (with_reducible refine Kd.C_drewN ?_ _) | (with_reducible refine Kd.C_drew ?_)))
                      (case side2 => exact (Kd.V_reads' HO_249000.out).2.1)
                      (case side3 => repeat (first | exact (Kd.V_reads' HO254.out).2.2 | (with_reducible refine Kd.C_alloc ?_ _) | (with_reducible refine Kd.C_drewN ?_ _) | (with_reducible refine Kd.C_drew ?_)))
                      (case side4 => exact (Kd.V_reads' HO254.out).2.1)
                      rintro e w36 ⟨v256, v260, v265, rfl, ho0, ho1, ho2, hb⟩
                      refine ⟨_, rfl, ?_⟩
                      have n0_ := Aside0.mk (Kd.Q_below (by (with_reducible repeat (first | apply Kd.Q_alloc | apply Kd.Q_drewN | apply Kd.Q_drew)); exact HO_6.out) hb)
                      have n1_ := Aside0.mk (Kd.N_elder' (by (with_reducible repeat (first | apply Kd.N_alloc | apply Kd.N_drewN | apply Kd.N_drew)); exact HO_7.out) (Kd.N_base ho1) hb)
                      have n2_ := Aside0.mk (Kd.N_elder' (by (with_reducible repeat (first | apply Kd.N_alloc | apply Kd.N_drewN | apply Kd.N_drew)); exact HO_11.out) (Kd.N_base ho1) hb)
                      have n3_ := Aside0.mk (Kd.V_elder' (by (with_reducible repeat (first | apply Kd.V_alloc | apply Kd.V_drewN | apply Kd.V_drew)); exact HO_249000.out) (Kd.N_base ho1) hb)
                      have n4_ := Aside0.mk (Kd.V_elder' (by (with_reducible repeat (first | apply Kd.V_alloc | apply Kd.V_drewN | apply Kd.V_drew)); exact HO254.out) (Kd.N_base ho1) hb)
                      have n5_ := Aside0.mk (Kd.V_lower (Kd.V_mono (ok' := fun k_ => (P0_ k_ ∨ w.heap.size ≤ k_) ∧ some k_ ≠ (v260 : Value).ownBlock ∧ some k_ ≠ (.slice Ao25 x6_2.length co25 : Value).ownBlock ∧ some k_ ≠ (u7 : Value).ownBlock ∧ some k_ ≠ (u11 : Value).ownBlock ∧ k_ ≠ gb248) ho0 (fun k_ hk_ => ⟨(.inr (Nat.le_trans (below_size (by repeat (first | (with_reducible first | exact HB.out | apply bA | apply bN | apply bD | refine bS ?_ GE248.out) | exact HB.out))) hk_.1)), hk_.2, (Kd.fresh' (Kd.Q_lt (by (with_reducible repeat (first | apply Kd.Q_alloc | apply Kd.Q_drewN | apply Kd.Q_drew)); exact HO_6.out)) k_ hk_.1), (Kd.fresh' (Kd.N_lt (by (with_reducible repeat (first | apply Kd.N_alloc | apply Kd.N_drewN | apply Kd.N_drew)); exact HO_7.out)) k_ hk_.1), (Kd.fresh' (Kd.N_lt (by (with_reducible repeat (first | apply Kd.N_alloc | apply Kd.N_drewN | apply Kd.N_drew)); exact HO_11.out)) k_ hk_.1), (Kd.freshB (g := gb248) (o := .cells #[.slice Ao33 x249000_2.length co33, .bool x249001_2] 26 (0, 0)) (by (with_reducible repeat (first | refine kN ?_ _ | refine kD ?_ | refine kA ?_ _)); exact BK248.out) k_ hk_.1)⟩)) (below_size (by repeat (first | (with_reducible first | exact HB.out | apply bA | apply bN | apply bD | refine bS ?_ GE248.out) | exact HB.out))))
                      have n6_ := Aside0.mk (Kd.N_lower (Kd.N_mono (ok' := fun k_ => (P0_ k_ ∨ w.heap.size ≤ k_) ∧ some k_ ≠ (.slice Ao25 x6_2.length co25 : Value).ownBlock ∧ some k_ ≠ (u7 : Value).ownBlock ∧ some k_ ≠ (u11 : Value).ownBlock ∧ k_ ≠ gb248) ho1 (fun k_ hk_ => ⟨(.inr (Nat.le_trans (below_size (by repeat (first | (with_reducible first | exact HB.out | apply bA | apply bN | apply bD | refine bS ?_ GE248.out) | exact HB.out))) hk_)), (Kd.fresh' (Kd.Q_lt (by (with_reducible repeat (first | apply Kd.Q_alloc | apply Kd.Q_drewN | apply Kd.Q_drew)); exact HO_6.out)) k_ hk_), (Kd.fresh' (Kd.N_lt (by (with_reducible repeat (first | apply Kd.N_alloc | apply Kd.N_drewN | apply Kd.N_drew)); exact HO_7.out)) k_ hk_), (Kd.fresh' (Kd.N_lt (by (with_reducible repeat (first | apply Kd.N_alloc | apply Kd.N_drewN | apply Kd.N_drew)); exact HO_11.out)) k_ hk_), (Kd.freshB (g := gb248) (o := .cells #[.slice Ao33 x249000_2.length co33, .bool x249001_2] 26 (0, 0)) (by (with_reducible repeat (first | refine kN ?_ _ | refine kD ?_ | refine kA ?_ _)); exact BK248.out) k_ hk_)⟩)) (below_size (by repeat (first | (with_reducible first | exact HB.out | apply bA | apply bN | apply bD | refine bS ?_ GE248.out) | exact HB.out))))
                      have n7_ := Aside0.mk (Kd.V_lower (Kd.V_mono (ok' := fun k_ => (P0_ k_ ∨ w.heap.size ≤ k_) ∧ some k_ ≠ (v260 : Value).ownBlock ∧ some k_ ≠ (.slice Ao25 x6_2.length co25 : Value).ownBlock ∧ some k_ ≠ (u7 : Value).ownBlock ∧ some k_ ≠ (u11 : Value).ownBlock ∧ k_ ≠ gb248) ho2 (fun k_ hk_ => ⟨(.inr (Nat.le_trans (below_size (by repeat (first | (with_reducible first | exact HB.out | apply bA | apply bN | apply bD | refine bS ?_ GE248.out) | exact HB.out))) hk_.1)), hk_.2, (Kd.fresh' (Kd.Q_lt (by (with_reducible repeat (first | apply Kd.Q_alloc | apply Kd.Q_drewN | apply Kd.Q_drew)); exact HO_6.out)) k_ hk_.1), (Kd.fresh' (Kd.N_lt (by (with_reducible repeat (first | apply Kd.N_alloc | apply Kd.N_drewN | apply Kd.N_drew)); exact HO_7.out)) k_ hk_.1), (Kd.fresh' (Kd.N_lt (by (with_reducible repeat (first | apply Kd.N_alloc | apply Kd.N_drewN | apply Kd.N_drew)); exact HO_11.out)) k_ hk_.1), (Kd.freshB (g := gb248) (o := .cells #[.slice Ao33 x249000_2.length co33, .bool x249001_2] 26 (0, 0)) (by (with_reducible repeat (first | refine kN ?_ _ | refine kD ?_ | refine kA ?_ _)); exact BK248.out) k_ hk_.1)⟩)) (below_size (by repeat (first | (with_reducible first | exact HB.out | apply bA | apply bN | apply bD | refine bS ?_ GE248.out) | exact HB.out))))
                      have n8_ := Aside0.mk (blk_below (g := gb248) (o := .cells #[.slice Ao33 x249000_2.length co33, .bool x249001_2] 26 (0, 0)) (by (with_reducible repeat (first | refine kN ?_ _ | refine kD ?_ | refine kA ?_ _)); exact BK248.out) hb)
                      have n9_ := Aside0.mk (below_step (by repeat (first | (with_reducible first | exact HB.out | apply bA | apply bN | apply bD | refine bS ?_ GE248.out) | exact HB.out)) hb)
                      clear HO_6
                      clear HO_7
                      clear HO_11
                      clear HO_249000
                      clear HO254
                      clear BK248
                      clear HB
                      have HO_6 := n0_
                      have HO_7 := n1_
                      have HO_11 := n2_
                      have HO_249000 := n3_
                      have HO254 := n4_
                      have HO257 := n5_
                      have HO261 := n6_
                      have HO266 := n7_
                      have BK248 := n8_
                      have HB := n9_
                      clear n0_ n1_ n2_ n3_ n4_ n5_ n6_ n7_ n8_ n9_
                      (try clear hb)
                      (try clear hb2)
                      (try clear hk)
                      (try clear hi)
                      (try clear ho0)
                      (try clear ho1)
                      (try clear ho2)
                      refine hK.out _ _ ⟨(blk_cell BK248.out 0).trans rfl, (blk_cell BK248.out 1).trans rfl⟩ (fun hHeld => ?_)
                      clear hK K
                      refine norm_ (a' := ?_) ?_ ?_
                      rotate_left
                      ·
                       show Act.put _ (some 64) _ = _
                       simp only [Act.put, sA, sB, sC, i64_w, i32_w]
                       rfl
                      refine pure_ (i := 5) (N := some 59) (v := ?_) (a' := ?_) #[true, true, true, true, true, true, false, false, false, false, false, false, false, false] rfl rfl (any_of HT_.out (by kernel_rfl)) (fun _ _ _ h => h) (Or.inl ⟨by rfl, ?_⟩) ?_ ?_
                      rotate_left
                      ·
                       intro w'
                       go_simp
                       with_reducible rfl
                      rotate_left
                      ·
                       simp only [Act.put, sA, sB, sC, i64_w, i32_w]
                       rfl
                      refine pure_ (i := 6) (N := some 65) (v := ?_) (a' := ?_) #[true, true, true, true, true, true, true, false, false, false, false, false, false, false] rfl rfl (any_of HT_.out (by kernel_rfl)) (fun _ _ _ h => h) (Or.inl ⟨by rfl, ?_⟩) ?_ ?_
                      rotate_left
                      ·
                       intro w'
                       go_simp
                       with_reducible rfl
                      rotate_left
                      ·
                       simp only [Act.put, sA, sB, sC, i64_w, i32_w]
                       rfl
                      refine pure_ (i := 7) (N := some 66) (v := ?_) (a' := ?_) #[true, true, true, true, true, true, true, true, false, false, false, false, false, false] rfl rfl (any_of HT_.out (by kernel_rfl)) (fun _ _ _ h => h) (Or.inl ⟨by rfl, ?_⟩) ?_ ?_
                      rotate_left
                      ·
                       intro w'
                       go_simp
                       with_reducible rfl
                      rotate_left
                      ·
                       simp only [Act.put, sA, sB, sC, i64_w, i32_w]
                       rfl
                      refine pure_ (i := 8) (N := some 67) (v := ?_) (a' := ?_) #[true, true, true, true, true, true, true, true, true, false, false, false, false, false] rfl rfl (any_of HT_.out (by kernel_rfl)) (fun _ _ _ h => h) (Or.inl ⟨by rfl, ?_⟩) ?_ ?_
                      rotate_left
                      ·
                       intro w'
                       go_simp
                       with_reducible rfl
                      rotate_left
                      ·
                       simp only [Act.put, sA, sB, sC, i64_w, i32_w]
                       rfl
                      exact norm_ (by first | (simp only [putAll, Act.put, sA, sB, sC]; done) | (simp only [putAll, Act.put, sA, sB, sC]; rfl)) (hJ4 (v256, v260, v265) _ ⟨hHeld, (by (with_reducible repeat (first | apply Kd.V_alloc | apply Kd.V_drewN | apply Kd.V_drew)); exact Kd.V_mono HO254.out (fun _ hk => ⟨hk.1.1.1.1, ⟨hk.2, ⟨hk.1.1.2, ⟨hk.1.1.1.2, hk.1.2⟩⟩⟩⟩)), (by (with_reducible repeat (first | apply Kd.V_alloc | apply Kd.V_drewN | apply Kd.V_drew)); exact Kd.V_mono HO257.out (fun _ hk => ⟨hk.1, ⟨hk.2.1, ⟨hk.2.2.2.2.1, ⟨hk.2.2.1, ⟨hk.2.2.2.1, hk.2.2.2.2.2⟩⟩⟩⟩⟩)), (by (with_reducible repeat (first | apply Kd.N_alloc | apply Kd.N_drewN | apply Kd.N_drew)); exact Kd.N_mono HO261.out (fun _ hk => ⟨hk.1, ⟨hk.2.2.2.1, ⟨hk.2.1, ⟨hk.2.2.1, hk.2.2.2.2⟩⟩⟩⟩)), (by (with_reducible repeat (first | apply Kd.V_alloc | apply Kd.V_drewN | apply Kd.V_drew)); exact Kd.V_mono HO266.out (fun _ hk => ⟨hk.1, ⟨hk.2.1, ⟨hk.2.2.2.2.1, ⟨hk.2.2.1, ⟨hk.2.2.2.1, hk.2.2.2.2.2⟩⟩⟩⟩⟩)), (by (with_reducible repeat (first | apply Kd.N_alloc | apply Kd.N_drewN | apply Kd.N_drew)); exact Kd.N_mono HO_11.out (fun _ hk => ⟨hk.1.1, ⟨hk.2, ⟨hk.1.2.1, ⟨hk.1.2.2.1, hk.1.2.2.2⟩⟩⟩⟩)), (by (with_reducible repeat (first | apply Kd.V_alloc | apply Kd.V_drewN | apply Kd.V_drew)); exact Kd.V_mono HO_249000.out (fun _ hk => ⟨hk.1.1, ⟨hk.2, ⟨hk.1.2.2.2.1, ⟨hk.1.2.1, ⟨hk.1.2.2.1, hk.1.2.2.2.2⟩⟩⟩⟩⟩)), (by (with_reducible repeat (first | apply Kd.Q_alloc | apply Kd.Q_drewN | apply Kd.Q_drew)); exact HO_6.out), (by (with_reducible repeat (first | apply Kd.N_alloc | apply Kd.N_drewN | apply Kd.N_drew)); exact Kd.N_mono HO_7.out (fun _ hk => ⟨hk.1.1, ⟨hk.2, ⟨hk.1.2.2.1, ⟨hk.1.2.1, hk.1.2.2.2⟩⟩⟩⟩)), (by (with_reducible repeat (first | refine kN ?_ _ | refine kD ?_ | refine kA ?_ _)); exact BK248.out), (by repeat (first | (with_reducible first | exact HB.out | apply bA | apply bN | apply bD | refine bS ?_ GE248.out) | exact HB.out))⟩)
                     ·
                      skip
                      refine box_step ?hg (N := 13) ?hd (cs := #[.slice none 0 0, .bool false]) (t := 26) ?hr ?_; (case hd => rfl); (case hg => rfl); (case hr => first | (go_simp; done) | (go_simp; rfl))
                      intro gb267 hg w36 hbox hb
                      have n0_ := Aside0.mk (Kd.Q_below (by (with_reducible repeat (first | apply Kd.Q_alloc | apply Kd.Q_drewN | apply Kd.Q_drew)); exact HO_6.out) hb)
                      have n1_ := Aside0.mk (Kd.N_below (Kd.N_elderB (by (with_reducible repeat (first | apply Kd.N_alloc | apply Kd.N_drewN | apply Kd.N_drew)); exact HO_7.out) gb267 (Nat.le_of_eq hg.symm)) hb)
                      have n2_ := Aside0.mk (Kd.N_below (Kd.N_elderB (by (with_reducible repeat (first | apply Kd.N_alloc | apply Kd.N_drewN | apply Kd.N_drew)); exact HO_11.out) gb267 (Nat.le_of_eq hg.symm)) hb)
                      have n3_ := Aside0.mk (Kd.V_below (Kd.V_elderB (by (with_reducible repeat (first | apply Kd.V_alloc | apply Kd.V_drewN | apply Kd.V_drew)); exact HO_249000.out) gb267 (Nat.le_of_eq hg.symm)) hb)
                      have n4_ := Aside0.mk (Kd.V_below (Kd.V_elderB (by (with_reducible repeat (first | apply Kd.V_alloc | apply Kd.V_drewN | apply Kd.V_drew)); exact HO254.out) gb267 (Nat.le_of_eq hg.symm)) hb)
                      have n5_ := Aside0.mk (blk_below (g := gb248) (o := .cells #[.slice Ao33 x249000_2.length co33, .bool x249001_2] 26 (0, 0)) (by (with_reducible repeat (first | refine kN ?_ _ | refine kD ?_ | refine kA ?_ _)); exact BK248.out) hb)
                      have n6_ := Aside0.mk (below_step (by repeat (first | (with_reducible first | exact HB.out | apply bA | apply bN | apply bD | refine bS ?_ GE248.out) | exact HB.out)) hb)
                      have n7_ := Aside0.mk (hbox)
                      have n8_ := Aside0.mk ((by rw [hg]; exact (below_size (by repeat (first | (with_reducible first | exact HB.out | apply bA | apply bN | apply bD | refine bS ?_ GE248.out) | exact HB.out))) : w.heap.size ≤ gb267))
                      have n9_ := Aside0.mk ((by rw [hg]; exact (below_size (by repeat (first | (with_reducible first | exact HB.out | apply bA | apply bN | apply bD | refine bS ?_ GE248.out) | exact HB.out))) : w.heap.size ≤ gb267))
                      have n10_ := Aside0.mk ((by rw [hg]; exact Nat.ne_of_lt (blk_lt (g := gb248) (o := .cells #[.slice Ao33 x249000_2.length co33, .bool x249001_2] 26 (0, 0)) (by (with_reducible repeat (first | refine kN ?_ _ | refine kD ?_ | refine kA ?_ _)); exact BK248.out)) : gb248 ≠ gb267))
                      have n11_ := Aside0.mk ((by rw [hg]; exact Nat.ne_of_gt (blk_lt (g := gb248) (o := .cells #[.slice Ao33 x249000_2.length co33, .bool x249001_2] 26 (0, 0)) (by (with_reducible repeat (first | refine kN ?_ _ | refine kD ?_ | refine kA ?_ _)); exact BK248.out)) : gb267 ≠ gb248))
                      clear HO_6
                      clear HO_7
                      clear HO_11
                      clear HO_249000
                      clear HO254
                      clear BK248
                      clear HB
                      have HO_6 := n0_
                      have HO_7 := n1_
                      have HO_11 := n2_
                      have HO_249000 := n3_
                      have HO254 := n4_
                      have BK248 := n5_
                      have HB := n6_
                      have BK267 := n7_
                      have GW267 := n8_
                      have GE267 := n9_
                      have NB248_267 := n10_
                      have NB267_248 := n11_
                      clear n0_ n1_ n2_ n3_ n4_ n5_ n6_ n7_ n8_ n9_ n10_ n11_
                      clear hb hbox hg
                      refine hK.out _ _ ⟨(blk_cell BK248.out 0).trans rfl, (blk_cell BK248.out 1).trans rfl⟩ (fun hHeld => ?_)
                      clear hK K
                      refine norm_ (a' := ?_) ?_ ?_
                      rotate_left
                      ·
                       show Act.put _ (some 13) _ = _
                       simp only [Act.put, sA, sB, sC, i64_w, i32_w]
                       rfl
                      exact norm_ (by first | (simp only [putAll, Act.put, sA, sB, sC]; done) | (simp only [putAll, Act.put, sA, sB, sC]; rfl)) (hJ9 (gb267) _ ⟨hHeld, (by (with_reducible repeat (first | apply Kd.V_alloc | apply Kd.V_drewN | apply Kd.V_drew)); exact Kd.V_mono HO254.out (fun _ hk => ⟨hk.1.1.1.1, ⟨hk.1.1.2, ⟨hk.1.1.1.2, ⟨hk.1.2, hk.2⟩⟩⟩⟩)), (by (with_reducible repeat (first | apply Kd.N_alloc | apply Kd.N_drewN | apply Kd.N_drew)); exact Kd.N_mono HO_11.out (fun _ hk => ⟨hk.1.1, ⟨hk.1.2.1, ⟨hk.1.2.2.1, ⟨hk.1.2.2.2, hk.2⟩⟩⟩⟩)), (by (with_reducible repeat (first | apply Kd.V_alloc | apply Kd.V_drewN | apply Kd.V_drew)); exact Kd.V_mono HO_249000.out (fun _ hk => ⟨hk.1.1, ⟨hk.1.2.2.2.1, ⟨hk.1.2.1, ⟨hk.1.2.2.1, ⟨hk.1.2.2.2.2, hk.2⟩⟩⟩⟩⟩)), (by (with_reducible repeat (first | apply Kd.Q_alloc | apply Kd.Q_drewN | apply Kd.Q_drew)); exact HO_6.out), (by (with_reducible repeat (first | apply Kd.N_alloc | apply Kd.N_drewN | apply Kd.N_drew)); exact Kd.N_mono HO_7.out (fun _ hk => ⟨hk.1.1, ⟨hk.1.2.2.1, ⟨hk.1.2.1, ⟨hk.1.2.2.2, hk.2⟩⟩⟩⟩)), (by (with_reducible repeat (first | refine kN ?_ _ | refine kD ?_ | refine kA ?_ _)); exact BK248.out), (by (with_reducible repeat (first | refine kN ?_ _ | refine kD ?_ | refine kA ?_ _)); exact BK267.out), GW267.out, GE267.out, NB248_267.out, NB267_248.out, (by repeat (first | (with_reducible first | exact HB.out | apply bA | apply bN | apply bD | refine bS ?_ GE248.out | refine bS ?_ GE267.out) | exact HB.out))⟩)
                     ·
                      skip
                      refine box_step ?hg (N := 15) ?hd (cs := #[.int .i64 0, .int .i64 0, .slice none 0 0]) (t := 29) ?hr ?_; (case hd => rfl); (case hg => rfl); (case hr => first | (go_simp; done) | (go_simp; rfl))
                      intro gb268 hg w36 hbox hb
                      have n0_ := Aside0.mk (Kd.Q_below (by (with_reducible repeat (first | apply Kd.Q_alloc | apply Kd.Q_drewN | apply Kd.Q_drew)); exact HO_6.out) hb)
                      have n1_ := Aside0.mk (Kd.N_below (Kd.N_elderB (by (with_reducible repeat (first | apply Kd.N_alloc | apply Kd.N_drewN | apply Kd.N_drew)); exact HO_7.out) gb268 (Nat.le_of_eq hg.symm)) hb)
                      have n2_ := Aside0.mk (Kd.N_below (Kd.N_elderB (by (with_reducible repeat (first | apply Kd.N_alloc | apply Kd.N_drewN | apply Kd.N_drew)); exact HO_11.out) gb268 (Nat.le_of_eq hg.symm)) hb)
                      have n3_ := Aside0.mk (Kd.V_below (Kd.V_elderB (by (with_reducible repeat (first | apply Kd.V_alloc | apply Kd.V_drewN | apply Kd.V_drew)); exact HO_249000.out) gb268 (Nat.le_of_eq hg.symm)) hb)
                      have n4_ := Aside0.mk (Kd.V_below (Kd.V_elderB (by (with_reducible repeat (first | apply Kd.V_alloc | apply Kd.V_drewN | apply Kd.V_drew)); exact HO254.out) gb268 (Nat.le_of_eq hg.symm)) hb)
                      have n5_ := Aside0.mk (blk_below (g := gb248) (o := .cells #[.slice Ao33 x249000_2.length co33, .bool x249001_2] 26 (0, 0)) (by (with_reducible repeat (first | refine kN ?_ _ | refine kD ?_ | refine kA ?_ _)); exact BK248.out) hb)
                      have n6_ := Aside0.mk (below_step (by repeat (first | (with_reducible first | exact HB.out | apply bA | apply bN | apply bD | refine bS ?_ GE248.out) | exact HB.out)) hb)
                      have n7_ := Aside0.mk (hbox)
                      have n8_ := Aside0.mk ((by rw [hg]; exact (below_size (by repeat (first | (with_reducible first | exact HB.out | apply bA | apply bN | apply bD | refine bS ?_ GE248.out) | exact HB.out))) : w.heap.size ≤ gb268))
                      have n9_ := Aside0.mk ((by rw [hg]; exact (below_size (by repeat (first | (with_reducible first | exact HB.out | apply bA | apply bN | apply bD | refine bS ?_ GE248.out) | exact HB.out))) : w.heap.size ≤ gb268))
                      have n10_ := Aside0.mk ((by rw [hg]; exact Nat.ne_of_lt (blk_lt (g := gb248) (o := .cells #[.slice Ao33 x249000_2.length co33, .bool x249001_2] 26 (0, 0)) (by (with_reducible repeat (first | refine kN ?_ _ | refine kD ?_ | refine kA ?_ _)); exact BK248.out)) : gb248 ≠ gb268))
                      have n11_ := Aside0.mk ((by rw [hg]; exact Nat.ne_of_gt (blk_lt (g := gb248) (o := .cells #[.slice Ao33 x249000_2.length co33, .bool x249001_2] 26 (0, 0)) (by (with_reducible repeat (first | refine kN ?_ _ | refine kD ?_ | refine kA ?_ _)); exact BK248.out)) : gb268 ≠ gb248))
                      clear HO_6
                      clear HO_7
                      clear HO_11
                      clear HO_249000
                      clear HO254
                      clear BK248
                      clear HB
                      have HO_6 := n0_
                      have HO_7 := n1_
                      have HO_11 := n2_
                      have HO_249000 := n3_
                      have HO254 := n4_
                      have BK248 := n5_
                      have HB := n6_
                      have BK268 := n7_
                      have GW268 := n8_
                      have GE268 := n9_
                      have NB248_268 := n10_
                      have NB268_248 := n11_
                      clear n0_ n1_ n2_ n3_ n4_ n5_ n6_ n7_ n8_ n9_ n10_ n11_
                      clear hb hbox hg
                      refine hK.out _ _ ⟨(blk_cell BK248.out 0).trans rfl, (blk_cell BK248.out 1).trans rfl⟩ (fun hHeld => ?_)
                      clear hK K
                      refine norm_ (a' := ?_) ?_ ?_
                      rotate_left
                      ·
                       show Act.put _ (some 15) _ = _
                       simp only [Act.put, sA, sB, sC, i64_w, i32_w]
                       rfl
                      exact norm_ (by first | (simp only [putAll, Act.put, sA, sB, sC]; done) | (simp only [putAll, Act.put, sA, sB, sC]; rfl)) (hJ10 (gb268) _ ⟨hHeld, (by (with_reducible repeat (first | apply Kd.V_alloc | apply Kd.V_drewN | apply Kd.V_drew)); exact Kd.V_mono HO254.out (fun _ hk => ⟨hk.1.1.1.1, ⟨hk.1.1.2, ⟨hk.1.1.1.2, ⟨hk.1.2, hk.2⟩⟩⟩⟩)), (by (with_reducible repeat (first | apply Kd.N_alloc | apply Kd.N_drewN | apply Kd.N_drew)); exact Kd.N_mono HO_11.out (fun _ hk => ⟨hk.1.1, ⟨hk.1.2.1, ⟨hk.1.2.2.1, ⟨hk.1.2.2.2, hk.2⟩⟩⟩⟩)), (by (with_reducible repeat (first | apply Kd.V_alloc | apply Kd.V_drewN | apply Kd.V_drew)); exact Kd.V_mono HO_249000.out (fun _ hk => ⟨hk.1.1, ⟨hk.1.2.2.2.1, ⟨hk.1.2.1, ⟨hk.1.2.2.1, ⟨hk.1.2.2.2.2, hk.2⟩⟩⟩⟩⟩)), (by (with_reducible repeat (first | apply Kd.Q_alloc | apply Kd.Q_drewN | apply Kd.Q_drew)); exact HO_6.out), (by (with_reducible repeat (first | apply Kd.N_alloc | apply Kd.N_drewN | apply Kd.N_drew)); exact Kd.N_mono HO_7.out (fun _ hk => ⟨hk.1.1, ⟨hk.1.2.2.1, ⟨hk.1.2.1, ⟨hk.1.2.2.2, hk.2⟩⟩⟩⟩)), (by (with_reducible repeat (first | refine kN ?_ _ | refine kD ?_ | refine kA ?_ _)); exact BK248.out), (by (with_reducible repeat (first | refine kN ?_ _ | refine kD ?_ | refine kA ?_ _)); exact BK268.out), GW268.out, GE268.out, NB248_268.out, NB268_248.out, (by repeat (first | (with_reducible first | exact HB.out | apply bA | apply bN | apply bD | refine bS ?_ GE248.out | refine bS ?_ GE268.out) | exact HB.out))⟩)
                    ·
                     skip
                     rintro gb268 w37 ⟨hS_, h0_, h1_, h2_, h3_, h4_, h5_, h6_, h7_, h8_, h9_, h10_, h11_⟩
                     have n0_ : Aside0 (Kd.V (Kd.int .u8) 5 w37 w.heap.size (fun k_ => (P0_ k_ ∨ w.heap.size ≤ k_) ∧ some k_ ≠ (u11 : Value).ownBlock ∧ some k_ ≠ (u7 : Value).ownBlock ∧ k_ ≠ gb248 ∧ k_ ≠ gb268) (.slice Ao25 y250.length co25) y250) := ⟨h0_⟩
                     have n1_ : Aside0 (Kd.N k43 43 w37 w.heap.size (fun k_ => (P0_ k_ ∨ w.heap.size ≤ k_) ∧ some k_ ≠ (.slice Ao25 x6_2.length co25 : Value).ownBlock ∧ some k_ ≠ (u7 : Value).ownBlock ∧ k_ ≠ gb248 ∧ k_ ≠ gb268) u11 x11_2) := ⟨h1_⟩
                     have n2_ : Aside0 (Kd.V (Kd.int .u8) 5 w37 w.heap.size (fun k_ => (P0_ k_ ∨ w.heap.size ≤ k_) ∧ some k_ ≠ (u11 : Value).ownBlock ∧ some k_ ≠ (.slice Ao25 x6_2.length co25 : Value).ownBlock ∧ some k_ ≠ (u7 : Value).ownBlock ∧ k_ ≠ gb248 ∧ k_ ≠ gb268) (.slice Ao33 x249000_2.length co33) x249000_2) := ⟨h2_⟩
                     have n3_ : Aside0 (Kd.Q (Kd.int .u8) 5 w37 w.heap.size (fun k_ => (w.heap.size ≤ k_)) (.slice Ao25 x6_2.length co25) x6_2) := ⟨h3_⟩
                     have n4_ : Aside0 (Kd.N k43 43 w37 w.heap.size (fun k_ => (P0_ k_ ∨ w.heap.size ≤ k_) ∧ some k_ ≠ (u11 : Value).ownBlock ∧ some k_ ≠ (.slice Ao25 x6_2.length co25 : Value).ownBlock ∧ k_ ≠ gb248 ∧ k_ ≠ gb268) u7 x7_1) := ⟨h4_⟩
                     have n5_ : Aside0 (w37.heap[gb248]? = some (.cells #[.slice Ao33 x249000_2.length co33, .bool x249001_2] 26 (0, 0))) := ⟨h5_⟩
                     have n6_ : Aside0 (w37.heap[gb268]? = some (.cells #[.int .i64 0, .int .i64 0, .slice none 0 0] 29 (0, 0))) := ⟨h6_⟩
                     have n7_ : Aside0 (w.heap.size ≤ gb268) := ⟨h7_⟩
                     have n8_ : Aside0 (w.heap.size ≤ gb268) := ⟨h8_⟩
                     have n9_ : Aside0 (gb248 ≠ gb268) := ⟨h9_⟩
                     have n10_ : Aside0 (gb268 ≠ gb248) := ⟨h10_⟩
                     have n11_ : Aside0 (Below w.heap.size w w37) := ⟨h11_⟩
                     clear HO_6
                     clear HO_7
                     clear HO_11
                     clear HO_249000
                     clear BK248
                     clear HB
                     clear h0_ h1_ h2_ h3_ h4_ h5_ h6_ h7_ h8_ h9_ h10_ h11_
                     have HO254 := n0_
                     have HO_11 := n1_
                     have HO_249000 := n2_
                     have HO_6 := n3_
                     have HO_7 := n4_
                     have BK248 := n5_
                     have BK268 := n6_
                     have GW268 := n7_
                     have GE268 := n8_
                     have NB248_268 := n9_
                     have NB268_248 := n10_
                     have HB := n11_
                     clear n0_ n1_ n2_ n3_ n4_ n5_ n6_ n7_ n8_ n9_ n10_ n11_
                     have hHeld : w37.cell? ⟨gb248, 0, none⟩ = some (.slice Ao33 x249000_2.length co33) ∧ w37.cell? ⟨gb248, 1, none⟩ = some (.bool x249001_2) := hS_
                     refine norm_ (a' := ?_) ?_ ?_
                     rotate_left
                     ·
                      simp only [putAll, Act.put, sA, sB, sC]
                      rfl
                     refine two_ (i := 4) (j := 9) (Ni := some 64) (Nj := some 13) #[true, true, true, true, true, false, false, false, false, false, true, false, false, false] #[true, true, true, true, false, false, false, false, false, true, true, false, false, false] rfl rfl rfl rfl (two_of HT_.out (by kernel_rfl)) (by decide) (by decide) (fun K hK => ?_) (fun K hK => ?_)
                     ·
                      skip
                      refine goes_ Try.func8 (by kernel_rfl) rfl #[.agg #[.slice Ao33 x249000_2.length co33, .bool x249001_2], .slice Ao25 y250.length co25] (by rfl) rfl rfl (by (try simp only [List.map_toArray, List.map_cons, List.map_nil]); first | done | rfl | (simp only [List.length_drop, List.length_take]; rfl)) ?_
                      with_reducible refine (stream_Feed.calls _ _ x249000_2 x249001_2 _ _ y250 t255 t258 t259 t262 t263 t264 _ ?side1 ?side2 ?side3 ?side4 A29.out).mono ?_
                      (case side1 => repeat (first | exact (Kd.V_reads' HO_249000.out).2.2 | (with_reducible refine Kd.C_alloc ?_ _) | (with_reducible refine Kd.C_drewN ?_ _) | (with_reducible refine Kd.C_drew ?_)))
                      (case side2 => exact (Kd.V_reads' HO_249000.out).2.1)
                      (case side3 => repeat (first | exact (Kd.V_reads' HO254.out).2.2 | (with_reducible refine Kd.C_alloc ?_ _) | (with_reducible refine Kd.C_drewN ?_ _) | (with_reducible refine Kd.C_drew ?_)))
                      (case side4 => exact (Kd.V_reads' HO254.out).2.1)
                      rintro e w38 ⟨v256, v260, v265, rfl, ho0, ho1, ho2, hb⟩
                      refine ⟨_, rfl, ?_⟩
                      have n0_ := Aside0.mk (Kd.Q_below (by (with_reducible repeat (first | apply Kd.Q_alloc | apply Kd.Q_drewN | apply Kd.Q_drew)); exact HO_6.out) hb)
                      have n1_ := Aside0.mk (Kd.N_elder' (by (with_reducible repeat (first | apply Kd.N_alloc | apply Kd.N_drewN | apply Kd.N_drew)); exact HO_7.out) (Kd.N_base ho1) hb)
                      have n2_ := Aside0.mk (Kd.N_elder' (by (with_reducible repeat (first | apply Kd.N_alloc | apply Kd.N_drewN | apply Kd.N_drew)); exact HO_11.out) (Kd.N_base ho1) hb)
                      have n3_ := Aside0.mk (Kd.V_elder' (by (with_reducible repeat (first | apply Kd.V_alloc | apply Kd.V_drewN | apply Kd.V_drew)); exact HO_249000.out) (Kd.N_base ho1) hb)
                      have n4_ := Aside0.mk (Kd.V_elder' (by (with_reducible repeat (first | apply Kd.V_alloc | apply Kd.V_drewN | apply Kd.V_drew)); exact HO254.out) (Kd.N_base ho1) hb)
                      have n5_ := Aside0.mk (Kd.V_lower (Kd.V_mono (ok' := fun k_ => (P0_ k_ ∨ w.heap.size ≤ k_) ∧ some k_ ≠ (v260 : Value).ownBlock ∧ some k_ ≠ (.slice Ao25 x6_2.length co25 : Value).ownBlock ∧ some k_ ≠ (u7 : Value).ownBlock ∧ some k_ ≠ (u11 : Value).ownBlock ∧ k_ ≠ gb248 ∧ k_ ≠ gb268) ho0 (fun k_ hk_ => ⟨(.inr (Nat.le_trans (below_size (by repeat (first | (with_reducible first | exact HB.out | apply bA | apply bN | apply bD | refine bS ?_ GE248.out | refine bS ?_ GE268.out) | exact HB.out))) hk_.1)), hk_.2, (Kd.fresh' (Kd.Q_lt (by (with_reducible repeat (first | apply Kd.Q_alloc | apply Kd.Q_drewN | apply Kd.Q_drew)); exact HO_6.out)) k_ hk_.1), (Kd.fresh' (Kd.N_lt (by (with_reducible repeat (first | apply Kd.N_alloc | apply Kd.N_drewN | apply Kd.N_drew)); exact HO_7.out)) k_ hk_.1), (Kd.fresh' (Kd.N_lt (by (with_reducible repeat (first | apply Kd.N_alloc | apply Kd.N_drewN | apply Kd.N_drew)); exact HO_11.out)) k_ hk_.1), (Kd.freshB (g := gb248) (o := .cells #[.slice Ao33 x249000_2.length co33, .bool x249001_2] 26 (0, 0)) (by (with_reducible repeat (first | refine kN ?_ _ | refine kD ?_ | refine kA ?_ _)); exact BK248.out) k_ hk_.1), (Kd.freshB (g := gb268) (o := .cells #[.int .i64 0, .int .i64 0, .slice none 0 0] 29 (0, 0)) (by (with_reducible repeat (first | refine kN ?_ _ | refine kD ?_ | refine kA ?_ _)); exact BK268.out) k_ hk_.1)⟩)) (below_size (by repeat (first | (with_reducible first | exact HB.out | apply bA | apply bN | apply bD | refine bS ?_ GE248.out | refine bS ?_ GE268.out) | exact HB.out))))
                      have n6_ := Aside0.mk (Kd.N_lower (Kd.N_mono (ok' := fun k_ => (P0_ k_ ∨ w.heap.size ≤ k_) ∧ some k_ ≠ (.slice Ao25 x6_2.length co25 : Value).ownBlock ∧ some k_ ≠ (u7 : Value).ownBlock ∧ some k_ ≠ (u11 : Value).ownBlock ∧ k_ ≠ gb248 ∧ k_ ≠ gb268) ho1 (fun k_ hk_ => ⟨(.inr (Nat.le_trans (below_size (by repeat (first | (with_reducible first | exact HB.out | apply bA | apply bN | apply bD | refine bS ?_ GE248.out | refine bS ?_ GE268.out) | exact HB.out))) hk_)), (Kd.fresh' (Kd.Q_lt (by (with_reducible repeat (first | apply Kd.Q_alloc | apply Kd.Q_drewN | apply Kd.Q_drew)); exact HO_6.out)) k_ hk_), (Kd.fresh' (Kd.N_lt (by (with_reducible repeat (first | apply Kd.N_alloc | apply Kd.N_drewN | apply Kd.N_drew)); exact HO_7.out)) k_ hk_), (Kd.fresh' (Kd.N_lt (by (with_reducible repeat (first | apply Kd.N_alloc | apply Kd.N_drewN | apply Kd.N_drew)); exact HO_11.out)) k_ hk_), (Kd.freshB (g := gb248) (o := .cells #[.slice Ao33 x249000_2.length co33, .bool x249001_2] 26 (0, 0)) (by (with_reducible repeat (first | refine kN ?_ _ | refine kD ?_ | refine kA ?_ _)); exact BK248.out) k_ hk_), (Kd.freshB (g := gb268) (o := .cells #[.int .i64 0, .int .i64 0, .slice none 0 0] 29 (0, 0)) (by (with_reducible repeat (first | refine kN ?_ _ | refine kD ?_ | refine kA ?_ _)); exact BK268.out) k_ hk_)⟩)) (below_size (by repeat (first | (with_reducible first | exact HB.out | apply bA | apply bN | apply bD | refine bS ?_ GE248.out | refine bS ?_ GE268.out) | exact HB.out))))
                      have n7_ := Aside0.mk (Kd.V_lower (Kd.V_mono (ok' := fun k_ => (P0_ k_ ∨ w.heap.size ≤ k_) ∧ some k_ ≠ (v260 : Value).ownBlock ∧ some k_ ≠ (.slice Ao25 x6_2.length co25 : Value).ownBlock ∧ some k_ ≠ (u7 : Value).ownBlock ∧ some k_ ≠ (u11 : Value).ownBlock ∧ k_ ≠ gb248 ∧ k_ ≠ gb268) ho2 (fun k_ hk_ => ⟨(.inr (Nat.le_trans (below_size (by repeat (first | (with_reducible first | exact HB.out | apply bA | apply bN | apply bD | refine bS ?_ GE248.out | refine bS ?_ GE268.out) | exact HB.out))) hk_.1)), hk_.2, (Kd.fresh' (Kd.Q_lt (by (with_reducible repeat (first | apply Kd.Q_alloc | apply Kd.Q_drewN | apply Kd.Q_drew)); exact HO_6.out)) k_ hk_.1), (Kd.fresh' (Kd.N_lt (by (with_reducible repeat (first | apply Kd.N_alloc | apply Kd.N_drewN | apply Kd.N_drew)); exact HO_7.out)) k_ hk_.1), (Kd.fresh' (Kd.N_lt (by (with_reducible repeat (first | apply Kd.N_alloc | apply Kd.N_drewN | apply Kd.N_drew)); exact HO_11.out)) k_ hk_.1), (Kd.freshB (g := gb248) (o := .cells #[.slice Ao33 x249000_2.length co33, .bool x249001_2] 26 (0, 0)) (by (with_reducible repeat (first | refine kN ?_ _ | refine kD ?_ | refine kA ?_ _)); exact BK248.out) k_ hk_.1), (Kd.freshB (g := gb268) (o := .cells #[.int .i64 0, .int .i64 0, .slice none 0 0] 29 (0, 0)) (by (with_reducible repeat (first | refine kN ?_ _ | refine kD ?_ | refine kA ?_ _)); exact BK268.out) k_ hk_.1)⟩)) (below_size (by repeat (first | (with_reducible first | exact HB.out | apply bA | apply bN | apply bD | refine bS ?_ GE248.out | refine bS ?_ GE268.out) | exact HB.out))))
                      have n8_ := Aside0.mk (blk_below (g := gb248) (o := .cells #[.slice Ao33 x249000_2.length co33, .bool x249001_2] 26 (0, 0)) (by (with_reducible repeat (first | refine kN ?_ _ | refine kD ?_ | refine kA ?_ _)); exact BK248.out) hb)
                      have n9_ := Aside0.mk (blk_below (g := gb268) (o := .cells #[.int .i64 0, .int .i64 0, .slice none 0 0] 29 (0, 0)) (by (with_reducible repeat (first | refine kN ?_ _ | refine kD ?_ | refine kA ?_ _)); exact BK268.out) hb)
                      have n10_ := Aside0.mk (below_step (by repeat (first | (with_reducible first | exact HB.out | apply bA | apply bN | apply bD | refine bS ?_ GE248.out | refine bS ?_ GE268.out) | exact HB.out)) hb)
                      clear HO_6
                      clear HO_7
                      clear HO_11
                      clear HO_249000
                      clear HO254
                      clear BK248
                      clear BK268
                      clear HB
                      have HO_6 := n0_
                      have HO_7 := n1_
                      have HO_11 := n2_
                      have HO_249000 := n3_
                      have HO254 := n4_
                      have HO257 := n5_
                      have HO261 := n6_
                      have HO266 := n7_
                      have BK248 := n8_
                      have BK268 := n9_
                      have HB := n10_
                      clear n0_ n1_ n2_ n3_ n4_ n5_ n6_ n7_ n8_ n9_ n10_
                      (try clear hb)
                      (try clear hb2)
                      (try clear hk)
                      (try clear hi)
                      (try clear ho0)
                      (try clear ho1)
                      (try clear ho2)
                      refine hK.out _ _ ⟨(blk_cell BK248.out 0).trans rfl, (blk_cell BK248.out 1).trans rfl⟩ (fun hHeld => ?_)
                      clear hK K
                      refine norm_ (a' := ?_) ?_ ?_
                      rotate_left
                      ·
                       show Act.put _ (some 64) _ = _
                       simp only [Act.put, sA, sB, sC, i64_w, i32_w]
                       rfl
                      refine pure_ (i := 5) (N := some 59) (v := ?_) (a' := ?_) #[true, true, true, true, true, true, false, false, false, false, true, false, false, false] rfl rfl (any_of HT_.out (by kernel_rfl)) (fun _ _ _ h => h) (Or.inl ⟨by rfl, ?_⟩) ?_ ?_
                      rotate_left
                      ·
                       intro w'
                       go_simp
                       with_reducible rfl
                      rotate_left
                      ·
                       simp only [Act.put, sA, sB, sC, i64_w, i32_w]
                       rfl
                      refine pure_ (i := 6) (N := some 65) (v := ?_) (a' := ?_) #[true, true, true, true, true, true, true, false, false, false, true, false, false, false] rfl rfl (any_of HT_.out (by kernel_rfl)) (fun _ _ _ h => h) (Or.inl ⟨by rfl, ?_⟩) ?_ ?_
                      rotate_left
                      ·
                       intro w'
                       go_simp
                       with_reducible rfl
                      rotate_left
                      ·
                       simp only [Act.put, sA, sB, sC, i64_w, i32_w]
                       rfl
                      refine pure_ (i := 7) (N := some 66) (v := ?_) (a' := ?_) #[true, true, true, true, true, true, true, true, false, false, true, false, false, false] rfl rfl (any_of HT_.out (by kernel_rfl)) (fun _ _ _ h => h) (Or.inl ⟨by rfl, ?_⟩) ?_ ?_
                      rotate_left
                      ·
                       intro w'
                       go_simp
                       with_reducible rfl
                      rotate_left
                      ·
                       simp only [Act.put, sA, sB, sC, i64_w, i32_w]
                       rfl
                      refine pure_ (i := 8) (N := some 67) (v := ?_) (a' := ?_) #[true, true, true, true, true, true, true, true, true, false, true, false, false, false] rfl rfl (any_of HT_.out (by kernel_rfl)) (fun _ _ _ h => h) (Or.inl ⟨by rfl, ?_⟩) ?_ ?_
                      rotate_left
                      ·
                       intro w'
                       go_simp
                       with_reducible rfl
                      rotate_left
                      ·
                       simp only [Act.put, sA, sB, sC, i64_w, i32_w]
                       rfl
                      exact norm_ (by first | (simp only [putAll, Act.put, sA, sB, sC]; done) | (simp only [putAll, Act.put, sA, sB, sC]; rfl)) (hJ4_10 (v256, v260, v265, gb268) _ ⟨hHeld, (by (with_reducible repeat (first | apply Kd.V_alloc | apply Kd.V_drewN | apply Kd.V_drew)); exact Kd.V_mono HO254.out (fun _ hk => ⟨hk.1.1, ⟨hk.2, ⟨hk.1.2.1, ⟨hk.1.2.2.1, ⟨hk.1.2.2.2.1, hk.1.2.2.2.2⟩⟩⟩⟩⟩)), (by (with_reducible repeat (first | apply Kd.V_alloc | apply Kd.V_drewN | apply Kd.V_drew)); exact Kd.V_mono HO257.out (fun _ hk => ⟨hk.1, ⟨hk.2.1, ⟨hk.2.2.2.2.1, ⟨hk.2.2.1, ⟨hk.2.2.2.1, ⟨hk.2.2.2.2.2.1, hk.2.2.2.2.2.2⟩⟩⟩⟩⟩⟩)), (by (with_reducible repeat (first | apply Kd.N_alloc | apply Kd.N_drewN | apply Kd.N_drew)); exact Kd.N_mono HO261.out (fun _ hk => ⟨hk.1, ⟨hk.2.2.2.1, ⟨hk.2.1, ⟨hk.2.2.1, ⟨hk.2.2.2.2.1, hk.2.2.2.2.2⟩⟩⟩⟩⟩)), (by (with_reducible repeat (first | apply Kd.V_alloc | apply Kd.V_drewN | apply Kd.V_drew)); exact Kd.V_mono HO266.out (fun _ hk => ⟨hk.1, ⟨hk.2.1, ⟨hk.2.2.2.2.1, ⟨hk.2.2.1, ⟨hk.2.2.2.1, ⟨hk.2.2.2.2.2.1, hk.2.2.2.2.2.2⟩⟩⟩⟩⟩⟩)), (by (with_reducible repeat (first | apply Kd.N_alloc | apply Kd.N_drewN | apply Kd.N_drew)); exact Kd.N_mono HO_11.out (fun _ hk => ⟨hk.1.1, ⟨hk.2, ⟨hk.1.2.1, ⟨hk.1.2.2.1, ⟨hk.1.2.2.2.1, hk.1.2.2.2.2⟩⟩⟩⟩⟩)), (by (with_reducible repeat (first | apply Kd.V_alloc | apply Kd.V_drewN | apply Kd.V_drew)); exact Kd.V_mono HO_249000.out (fun _ hk => ⟨hk.1.1, ⟨hk.2, ⟨hk.1.2.1, ⟨hk.1.2.2.1, ⟨hk.1.2.2.2.1, ⟨hk.1.2.2.2.2.1, hk.1.2.2.2.2.2⟩⟩⟩⟩⟩⟩)), (by (with_reducible repeat (first | apply Kd.Q_alloc | apply Kd.Q_drewN | apply Kd.Q_drew)); exact HO_6.out), (by (with_reducible repeat (first | apply Kd.N_alloc | apply Kd.N_drewN | apply Kd.N_drew)); exact Kd.N_mono HO_7.out (fun _ hk => ⟨hk.1.1, ⟨hk.2, ⟨hk.1.2.1, ⟨hk.1.2.2.1, ⟨hk.1.2.2.2.1, hk.1.2.2.2.2⟩⟩⟩⟩⟩)), (by (with_reducible repeat (first | refine kN ?_ _ | refine kD ?_ | refine kA ?_ _)); exact BK248.out), (by (with_reducible repeat (first | refine kN ?_ _ | refine kD ?_ | refine kA ?_ _)); exact BK268.out), GW268.out, GE268.out, NB248_268.out, NB268_248.out, (by repeat (first | (with_reducible first | exact HB.out | apply bA | apply bN | apply bD | refine bS ?_ GE248.out | refine bS ?_ GE268.out) | exact HB.out))⟩)
                     ·
                      skip
                      refine box_step ?hg (N := 13) ?hd (cs := #[.slice none 0 0, .bool false]) (t := 26) ?hr ?_; (case hd => rfl); (case hg => rfl); (case hr => first | (go_simp; done) | (go_simp; rfl))
                      intro gb267 hg w38 hbox hb
                      have n0_ := Aside0.mk (Kd.Q_below (by (with_reducible repeat (first | apply Kd.Q_alloc | apply Kd.Q_drewN | apply Kd.Q_drew)); exact HO_6.out) hb)
                      have n1_ := Aside0.mk (Kd.N_below (Kd.N_elderB (by (with_reducible repeat (first | apply Kd.N_alloc | apply Kd.N_drewN | apply Kd.N_drew)); exact HO_7.out) gb267 (Nat.le_of_eq hg.symm)) hb)
                      have n2_ := Aside0.mk (Kd.N_below (Kd.N_elderB (by (with_reducible repeat (first | apply Kd.N_alloc | apply Kd.N_drewN | apply Kd.N_drew)); exact HO_11.out) gb267 (Nat.le_of_eq hg.symm)) hb)
                      have n3_ := Aside0.mk (Kd.V_below (Kd.V_elderB (by (with_reducible repeat (first | apply Kd.V_alloc | apply Kd.V_drewN | apply Kd.V_drew)); exact HO_249000.out) gb267 (Nat.le_of_eq hg.symm)) hb)
                      have n4_ := Aside0.mk (Kd.V_below (Kd.V_elderB (by (with_reducible repeat (first | apply Kd.V_alloc | apply Kd.V_drewN | apply Kd.V_drew)); exact HO254.out) gb267 (Nat.le_of_eq hg.symm)) hb)
                      have n5_ := Aside0.mk (blk_below (g := gb248) (o := .cells #[.slice Ao33 x249000_2.length co33, .bool x249001_2] 26 (0, 0)) (by (with_reducible repeat (first | refine kN ?_ _ | refine kD ?_ | refine kA ?_ _)); exact BK248.out) hb)
                      have n6_ := Aside0.mk (blk_below (g := gb268) (o := .cells #[.int .i64 0, .int .i64 0, .slice none 0 0] 29 (0, 0)) (by (with_reducible repeat (first | refine kN ?_ _ | refine kD ?_ | refine kA ?_ _)); exact BK268.out) hb)
                      have n7_ := Aside0.mk (below_step (by repeat (first | (with_reducible first | exact HB.out | apply bA | apply bN | apply bD | refine bS ?_ GE248.out | refine bS ?_ GE268.out) | exact HB.out)) hb)
                      have n8_ := Aside0.mk (hbox)
                      have n9_ := Aside0.mk ((by rw [hg]; exact (below_size (by repeat (first | (with_reducible first | exact HB.out | apply bA | apply bN | apply bD | refine bS ?_ GE248.out | refine bS ?_ GE268.out) | exact HB.out))) : w.heap.size ≤ gb267))
                      have n10_ := Aside0.mk ((by rw [hg]; exact (below_size (by repeat (first | (with_reducible first | exact HB.out | apply bA | apply bN | apply bD | refine bS ?_ GE248.out | refine bS ?_ GE268.out) | exact HB.out))) : w.heap.size ≤ gb267))
                      have n11_ := Aside0.mk ((by rw [hg]; exact Nat.ne_of_lt (blk_lt (g := gb248) (o := .cells #[.slice Ao33 x249000_2.length co33, .bool x249001_2] 26 (0, 0)) (by (with_reducible repeat (first | refine kN ?_ _ | refine kD ?_ | refine kA ?_ _)); exact BK248.out)) : gb248 ≠ gb267))
                      have n12_ := Aside0.mk ((by rw [hg]; exact Nat.ne_of_gt (blk_lt (g := gb248) (o := .cells #[.slice Ao33 x249000_2.length co33, .bool x249001_2] 26 (0, 0)) (by (with_reducible repeat (first | refine kN ?_ _ | refine kD ?_ | refine kA ?_ _)); exact BK248.out)) : gb267 ≠ gb248))
                      have n13_ := Aside0.mk ((by rw [hg]; exact Nat.ne_of_lt (blk_lt (g := gb268) (o := .cells #[.int .i64 0, .int .i64 0, .slice none 0 0] 29 (0, 0)) (by (with_reducible repeat (first | refine kN ?_ _ | refine kD ?_ | refine kA ?_ _)); exact BK268.out)) : gb268 ≠ gb267))
                      have n14_ := Aside0.mk ((by rw [hg]; exact Nat.ne_of_gt (blk_lt (g := gb268) (o := .cells #[.int .i64 0, .int .i64 0, .slice none 0 0] 29 (0, 0)) (by (with_reducible repeat (first | refine kN ?_ _ | refine kD ?_ | refine kA ?_ _)); exact BK268.out)) : gb267 ≠ gb268))
                      clear HO_6
                      clear HO_7
                      clear HO_11
                      clear HO_249000
                      clear HO254
                      clear BK248
                      clear BK268
                      clear HB
                      have HO_6 := n0_
                      have HO_7 := n1_
                      have HO_11 := n2_
                      have HO_249000 := n3_
                      have HO254 := n4_
                      have BK248 := n5_
                      have BK268 := n6_
                      have HB := n7_
                      have BK267 := n8_
                      have GW267 := n9_
                      have GE267 := n10_
                      have NB248_267 := n11_
                      have NB267_248 := n12_
                      have NB268_267 := n13_
                      have NB267_268 := n14_
                      clear n0_ n1_ n2_ n3_ n4_ n5_ n6_ n7_ n8_ n9_ n10_ n11_ n12_ n13_ n14_
                      clear hb hbox hg
                      refine hK.out _ _ ⟨(blk_cell BK248.out 0).trans rfl, (blk_cell BK248.out 1).trans rfl⟩ (fun hHeld => ?_)
                      clear hK K
                      refine norm_ (a' := ?_) ?_ ?_
                      rotate_left
                      ·
                       show Act.put _ (some 13) _ = _
                       simp only [Act.put, sA, sB, sC, i64_w, i32_w]
                       rfl
                      exact norm_ (by first | (simp only [putAll, Act.put, sA, sB, sC]; done) | (simp only [putAll, Act.put, sA, sB, sC]; rfl)) (hJ9_10 (gb267, gb268) _ ⟨hHeld, (by (with_reducible repeat (first | apply Kd.V_alloc | apply Kd.V_drewN | apply Kd.V_drew)); exact Kd.V_mono HO254.out (fun _ hk => ⟨hk.1.1, ⟨hk.1.2.1, ⟨hk.1.2.2.1, ⟨hk.1.2.2.2.1, ⟨hk.2, hk.1.2.2.2.2⟩⟩⟩⟩⟩)), (by (with_reducible repeat (first | apply Kd.N_alloc | apply Kd.N_drewN | apply Kd.N_drew)); exact Kd.N_mono HO_11.out (fun _ hk => ⟨hk.1.1, ⟨hk.1.2.1, ⟨hk.1.2.2.1, ⟨hk.1.2.2.2.1, ⟨hk.2, hk.1.2.2.2.2⟩⟩⟩⟩⟩)), (by (with_reducible repeat (first | apply Kd.V_alloc | apply Kd.V_drewN | apply Kd.V_drew)); exact Kd.V_mono HO_249000.out (fun _ hk => ⟨hk.1.1, ⟨hk.1.2.1, ⟨hk.1.2.2.1, ⟨hk.1.2.2.2.1, ⟨hk.1.2.2.2.2.1, ⟨hk.2, hk.1.2.2.2.2.2⟩⟩⟩⟩⟩⟩)), (by (with_reducible repeat (first | apply Kd.Q_alloc | apply Kd.Q_drewN | apply Kd.Q_drew)); exact HO_6.out), (by (with_reducible repeat (first | apply Kd.N_alloc | apply Kd.N_drewN | apply Kd.N_drew)); exact Kd.N_mono HO_7.out (fun _ hk => ⟨hk.1.1, ⟨hk.1.2.1, ⟨hk.1.2.2.1, ⟨hk.1.2.2.2.1, ⟨hk.2, hk.1.2.2.2.2⟩⟩⟩⟩⟩)), (by (with_reducible repeat (first | refine kN ?_ _ | refine kD ?_ | refine kA ?_ _)); exact BK248.out), (by (with_reducible repeat (first | refine kN ?_ _ | refine kD ?_ | refine kA ?_ _)); exact BK267.out), (by (with_reducible repeat (first | refine kN ?_ _ | refine kD ?_ | refine kA ?_ _)); exact BK268.out), GW267.out, GE267.out, NB248_267.out, NB267_248.out, NB268_267.out, NB267_268.out, GW268.out, GE268.out, NB248_268.out, NB268_248.out, (by repeat (first | (with_reducible first | exact HB.out | apply bA | apply bN | apply bD | refine bS ?_ GE248.out | refine bS ?_ GE268.out | refine bS ?_ GE267.out) | exact HB.out))⟩)
                   ·
                    skip
                    rintro gb267 w37 ⟨hS_, h0_, h1_, h2_, h3_, h4_, h5_, h6_, h7_, h8_, h9_, h10_, h11_⟩
                    have n0_ : Aside0 (Kd.V (Kd.int .u8) 5 w37 w.heap.size (fun k_ => (P0_ k_ ∨ w.heap.size ≤ k_) ∧ some k_ ≠ (u11 : Value).ownBlock ∧ some k_ ≠ (u7 : Value).ownBlock ∧ k_ ≠ gb248 ∧ k_ ≠ gb267) (.slice Ao25 y250.length co25) y250) := ⟨h0_⟩
                    have n1_ : Aside0 (Kd.N k43 43 w37 w.heap.size (fun k_ => (P0_ k_ ∨ w.heap.size ≤ k_) ∧ some k_ ≠ (.slice Ao25 x6_2.length co25 : Value).ownBlock ∧ some k_ ≠ (u7 : Value).ownBlock ∧ k_ ≠ gb248 ∧ k_ ≠ gb267) u11 x11_2) := ⟨h1_⟩
                    have n2_ : Aside0 (Kd.V (Kd.int .u8) 5 w37 w.heap.size (fun k_ => (P0_ k_ ∨ w.heap.size ≤ k_) ∧ some k_ ≠ (u11 : Value).ownBlock ∧ some k_ ≠ (.slice Ao25 x6_2.length co25 : Value).ownBlock ∧ some k_ ≠ (u7 : Value).ownBlock ∧ k_ ≠ gb248 ∧ k_ ≠ gb267) (.slice Ao33 x249000_2.length co33) x249000_2) := ⟨h2_⟩
                    have n3_ : Aside0 (Kd.Q (Kd.int .u8) 5 w37 w.heap.size (fun k_ => (w.heap.size ≤ k_)) (.slice Ao25 x6_2.length co25) x6_2) := ⟨h3_⟩
                    have n4_ : Aside0 (Kd.N k43 43 w37 w.heap.size (fun k_ => (P0_ k_ ∨ w.heap.size ≤ k_) ∧ some k_ ≠ (u11 : Value).ownBlock ∧ some k_ ≠ (.slice Ao25 x6_2.length co25 : Value).ownBlock ∧ k_ ≠ gb248 ∧ k_ ≠ gb267) u7 x7_1) := ⟨h4_⟩
                    have n5_ : Aside0 (w37.heap[gb248]? = some (.cells #[.slice Ao33 x249000_2.length co33, .bool x249001_2] 26 (0, 0))) := ⟨h5_⟩
                    have n6_ : Aside0 (w37.heap[gb267]? = some (.cells #[.slice none 0 0, .bool false] 26 (0, 0))) := ⟨h6_⟩
                    have n7_ : Aside0 (w.heap.size ≤ gb267) := ⟨h7_⟩
                    have n8_ : Aside0 (w.heap.size ≤ gb267) := ⟨h8_⟩
                    have n9_ : Aside0 (gb248 ≠ gb267) := ⟨h9_⟩
                    have n10_ : Aside0 (gb267 ≠ gb248) := ⟨h10_⟩
                    have n11_ : Aside0 (Below w.heap.size w w37) := ⟨h11_⟩
                    clear HO_6
                    clear HO_7
                    clear HO_11
                    clear HO_249000
                    clear BK248
                    clear HB
                    clear h0_ h1_ h2_ h3_ h4_ h5_ h6_ h7_ h8_ h9_ h10_ h11_
                    have HO254 := n0_
                    have HO_11 := n1_
                    have HO_249000 := n2_
                    have HO_6 := n3_
                    have HO_7 := n4_
                    have BK248 := n5_
                    have BK267 := n6_
                    have GW267 := n7_
                    have GE267 := n8_
                    have NB248_267 := n9_
                    have NB267_248 := n10_
                    have HB := n11_
                    clear n0_ n1_ n2_ n3_ n4_ n5_ n6_ n7_ n8_ n9_ n10_ n11_
                    have hHeld : w37.cell? ⟨gb248, 0, none⟩ = some (.slice Ao33 x249000_2.length co33) ∧ w37.cell? ⟨gb248, 1, none⟩ = some (.bool x249001_2) := hS_
                    refine norm_ (a' := ?_) ?_ ?_
                    rotate_left
                    ·
                     simp only [putAll, Act.put, sA, sB, sC]
                     rfl
                    refine two_ (i := 4) (j := 10) (Ni := some 64) (Nj := some 15) #[true, true, true, true, true, false, false, false, false, true, false, false, false, false] #[true, true, true, true, false, false, false, false, false, true, true, false, false, false] rfl rfl rfl rfl (two_of HT_.out (by kernel_rfl)) (by decide) (by decide) (fun K hK => ?_) (fun K hK => ?_)
                    ·
                     skip
                     refine goes_ Try.func8 (by kernel_rfl) rfl #[.agg #[.slice Ao33 x249000_2.length co33, .bool x249001_2], .slice Ao25 y250.length co25] (by rfl) rfl rfl (by (try simp only [List.map_toArray, List.map_cons, List.map_nil]); first | done | rfl | (simp only [List.length_drop, List.length_take]; rfl)) ?_
                     with_reducible refine (stream_Feed.calls _ _ x249000_2 x249001_2 _ _ y250 t255 t258 t259 t262 t263 t264 _ ?side1 ?side2 ?side3 ?side4 A29.out).mono ?_
                     (case side1 => repeat (first | exact (Kd.V_reads' HO_249000.out).2.2 | (with_reducible refine Kd.C_alloc ?_ _) | (with_reducible refine Kd.C_drewN ?_ _) | (with_reducible refine Kd.C_drew ?_)))
                     (case side2 => exact (Kd.V_reads' HO_249000.out).2.1)
                     (case side3 => repeat (first | exact (Kd.V_reads' HO254.out).2.2 | (with_reducible refine Kd.C_alloc ?_ _) | (with_reducible refine Kd.C_drewN ?_ _) | (with_reducible refine Kd.C_drew ?_)))
                     (case side4 => exact (Kd.V_reads' HO254.out).2.1)
                     rintro e w38 ⟨v256, v260, v265, rfl, ho0, ho1, ho2, hb⟩
                     refine ⟨_, rfl, ?_⟩
                     have n0_ := Aside0.mk (Kd.Q_below (by (with_reducible repeat (first | apply Kd.Q_alloc | apply Kd.Q_drewN | apply Kd.Q_drew)); exact HO_6.out) hb)
                     have n1_ := Aside0.mk (Kd.N_elder' (by (with_reducible repeat (first | apply Kd.N_alloc | apply Kd.N_drewN | apply Kd.N_drew)); exact HO_7.out) (Kd.N_base ho1) hb)
                     have n2_ := Aside0.mk (Kd.N_elder' (by (with_reducible repeat (first | apply Kd.N_alloc | apply Kd.N_drewN | apply Kd.N_drew)); exact HO_11.out) (Kd.N_base ho1) hb)
                     have n3_ := Aside0.mk (Kd.V_elder' (by (with_reducible repeat (first | apply Kd.V_alloc | apply Kd.V_drewN | apply Kd.V_drew)); exact HO_249000.out) (Kd.N_base ho1) hb)
                     have n4_ := Aside0.mk (Kd.V_elder' (by (with_reducible repeat (first | apply Kd.V_alloc | apply Kd.V_drewN | apply Kd.V_drew)); exact HO254.out) (Kd.N_base ho1) hb)
                     have n5_ := Aside0.mk (Kd.V_lower (Kd.V_mono (ok' := fun k_ => (P0_ k_ ∨ w.heap.size ≤ k_) ∧ some k_ ≠ (v260 : Value).ownBlock ∧ some k_ ≠ (.slice Ao25 x6_2.length co25 : Value).ownBlock ∧ some k_ ≠ (u7 : Value).ownBlock ∧ some k_ ≠ (u11 : Value).ownBlock ∧ k_ ≠ gb248 ∧ k_ ≠ gb267) ho0 (fun k_ hk_ => ⟨(.inr (Nat.le_trans (below_size (by repeat (first | (with_reducible first | exact HB.out | apply bA | apply bN | apply bD | refine bS ?_ GE248.out | refine bS ?_ GE267.out) | exact HB.out))) hk_.1)), hk_.2, (Kd.fresh' (Kd.Q_lt (by (with_reducible repeat (first | apply Kd.Q_alloc | apply Kd.Q_drewN | apply Kd.Q_drew)); exact HO_6.out)) k_ hk_.1), (Kd.fresh' (Kd.N_lt (by (with_reducible repeat (first | apply Kd.N_alloc | apply Kd.N_drewN | apply Kd.N_drew)); exact HO_7.out)) k_ hk_.1), (Kd.fresh' (Kd.N_lt (by (with_reducible repeat (first | apply Kd.N_alloc | apply Kd.N_drewN | apply Kd.N_drew)); exact HO_11.out)) k_ hk_.1), (Kd.freshB (g := gb248) (o := .cells #[.slice Ao33 x249000_2.length co33, .bool x249001_2] 26 (0, 0)) (by (with_reducible repeat (first | refine kN ?_ _ | refine kD ?_ | refine kA ?_ _)); exact BK248.out) k_ hk_.1), (Kd.freshB (g := gb267) (o := .cells #[.slice none 0 0, .bool false] 26 (0, 0)) (by (with_reducible repeat (first | refine kN ?_ _ | refine kD ?_ | refine kA ?_ _)); exact BK267.out) k_ hk_.1)⟩)) (below_size (by repeat (first | (with_reducible first | exact HB.out | apply bA | apply bN | apply bD | refine bS ?_ GE248.out | refine bS ?_ GE267.out) | exact HB.out))))
                     have n6_ := Aside0.mk (Kd.N_lower (Kd.N_mono (ok' := fun k_ => (P0_ k_ ∨ w.heap.size ≤ k_) ∧ some k_ ≠ (.slice Ao25 x6_2.length co25 : Value).ownBlock ∧ some k_ ≠ (u7 : Value).ownBlock ∧ some k_ ≠ (u11 : Value).ownBlock ∧ k_ ≠ gb248 ∧ k_ ≠ gb267) ho1 (fun k_ hk_ => ⟨(.inr (Nat.le_trans (below_size (by repeat (first | (with_reducible first | exact HB.out | apply bA | apply bN | apply bD | refine bS ?_ GE248.out | refine bS ?_ GE267.out) | exact HB.out))) hk_)), (Kd.fresh' (Kd.Q_lt (by (with_reducible repeat (first | apply Kd.Q_alloc | apply Kd.Q_drewN | apply Kd.Q_drew)); exact HO_6.out)) k_ hk_), (Kd.fresh' (Kd.N_lt (by (with_reducible repeat (first | apply Kd.N_alloc | apply Kd.N_drewN | apply Kd.N_drew)); exact HO_7.out)) k_ hk_), (Kd.fresh' (Kd.N_lt (by (with_reducible repeat (first | apply Kd.N_alloc | apply Kd.N_drewN | apply Kd.N_drew)); exact HO_11.out)) k_ hk_), (Kd.freshB (g := gb248) (o := .cells #[.slice Ao33 x249000_2.length co33, .bool x249001_2] 26 (0, 0)) (by (with_reducible repeat (first | refine kN ?_ _ | refine kD ?_ | refine kA ?_ _)); exact BK248.out) k_ hk_), (Kd.freshB (g := gb267) (o := .cells #[.slice none 0 0, .bool false] 26 (0, 0)) (by (with_reducible repeat (first | refine kN ?_ _ | refine kD ?_ | refine kA ?_ _)); exact BK267.out) k_ hk_)⟩)) (below_size (by repeat (first | (with_reducible first | exact HB.out | apply bA | apply bN | apply bD | refine bS ?_ GE248.out | refine bS ?_ GE267.out) | exact HB.out))))
                     have n7_ := Aside0.mk (Kd.V_lower (Kd.V_mono (ok' := fun k_ => (P0_ k_ ∨ w.heap.size ≤ k_) ∧ some k_ ≠ (v260 : Value).ownBlock ∧ some k_ ≠ (.slice Ao25 x6_2.length co25 : Value).ownBlock ∧ some k_ ≠ (u7 : Value).ownBlock ∧ some k_ ≠ (u11 : Value).ownBlock ∧ k_ ≠ gb248 ∧ k_ ≠ gb267) ho2 (fun k_ hk_ => ⟨(.inr (Nat.le_trans (below_size (by repeat (first | (with_reducible first | exact HB.out | apply bA | apply bN | apply bD | refine bS ?_ GE248.out | refine bS ?_ GE267.out) | exact HB.out))) hk_.1)), hk_.2, (Kd.fresh' (Kd.Q_lt (by (with_reducible repeat (first | apply Kd.Q_alloc | apply Kd.Q_drewN | apply Kd.Q_drew)); exact HO_6.out)) k_ hk_.1), (Kd.fresh' (Kd.N_lt (by (with_reducible repeat (first | apply Kd.N_alloc | apply Kd.N_drewN | apply Kd.N_drew)); exact HO_7.out)) k_ hk_.1), (Kd.fresh' (Kd.N_lt (by (with_reducible repeat (first | apply Kd.N_alloc | apply Kd.N_drewN | apply Kd.N_drew)); exact HO_11.out)) k_ hk_.1), (Kd.freshB (g := gb248) (o := .cells #[.slice Ao33 x249000_2.length co33, .bool x249001_2] 26 (0, 0)) (by (with_reducible repeat (first | refine kN ?_ _ | refine kD ?_ | refine kA ?_ _)); exact BK248.out) k_ hk_.1), (Kd.freshB (g := gb267) (o := .cells #[.slice none 0 0, .bool false] 26 (0, 0)) (by (with_reducible repeat (first | refine kN ?_ _ | refine kD ?_ | refine kA ?_ _)); exact BK267.out) k_ hk_.1)⟩)) (below_size (by repeat (first | (with_reducible first | exact HB.out | apply bA | apply bN | apply bD | refine bS ?_ GE248.out | refine bS ?_ GE267.out) | exact HB.out))))
                     have n8_ := Aside0.mk (blk_below (g := gb248) (o := .cells #[.slice Ao33 x249000_2.length co33, .bool x249001_2] 26 (0, 0)) (by (with_reducible repeat (first | refine kN ?_ _ | refine kD ?_ | refine kA ?_ _)); exact BK248.out) hb)
                     have n9_ := Aside0.mk (blk_below (g := gb267) (o := .cells #[.slice none 0 0, .bool false] 26 (0, 0)) (by (with_reducible repeat (first | refine kN ?_ _ | refine kD ?_ | refine kA ?_ _)); exact BK267.out) hb)
                     have n10_ := Aside0.mk (below_step (by repeat (first | (with_reducible first | exact HB.out | apply bA | apply bN | apply bD | refine bS ?_ GE248.out | refine bS ?_ GE267.out) | exact HB.out)) hb)
                     clear HO_6
                     clear HO_7
                     clear HO_11
                     clear HO_249000
                     clear HO254
                     clear BK248
                     clear BK267
                     clear HB
                     have HO_6 := n0_
                     have HO_7 := n1_
                     have HO_11 := n2_
                     have HO_249000 := n3_
                     have HO254 := n4_
                     have HO257 := n5_
                     have HO261 := n6_
                     have HO266 := n7_
                     have BK248 := n8_
                     have BK267 := n9_
                     have HB := n10_
                     clear n0_ n1_ n2_ n3_ n4_ n5_ n6_ n7_ n8_ n9_ n10_
                     (try clear hb)
                     (try clear hb2)
                     (try clear hk)
                     (try clear hi)
                     (try clear ho0)
                     (try clear ho1)
                     (try clear ho2)
                     refine hK.out _ _ ⟨(blk_cell BK248.out 0).trans rfl, (blk_cell BK248.out 1).trans rfl⟩ (fun hHeld => ?_)
                     clear hK K
                     refine norm_ (a' := ?_) ?_ ?_
                     rotate_left
                     ·
                      show Act.put _ (some 64) _ = _
                      simp only [Act.put, sA, sB, sC, i64_w, i32_w]
                      rfl
                     refine pure_ (i := 5) (N := some 59) (v := ?_) (a' := ?_) #[true, true, true, true, true, true, false, false, false, true, false, false, false, false] rfl rfl (any_of HT_.out (by kernel_rfl)) (fun _ _ _ h => h) (Or.inl ⟨by rfl, ?_⟩) ?_ ?_
                     rotate_left
                     ·
                      intro w'
                      go_simp
                      with_reducible rfl
                     rotate_left
                     ·
                      simp only [Act.put, sA, sB, sC, i64_w, i32_w]
                      rfl
                     refine pure_ (i := 6) (N := some 65) (v := ?_) (a' := ?_) #[true, true, true, true, true, true, true, false, false, true, false, false, false, false] rfl rfl (any_of HT_.out (by kernel_rfl)) (fun _ _ _ h => h) (Or.inl ⟨by rfl, ?_⟩) ?_ ?_
                     rotate_left
                     ·
                      intro w'
                      go_simp
                      with_reducible rfl
                     rotate_left
                     ·
                      simp only [Act.put, sA, sB, sC, i64_w, i32_w]
                      rfl
                     refine pure_ (i := 7) (N := some 66) (v := ?_) (a' := ?_) #[true, true, true, true, true, true, true, true, false, true, false, false, false, false] rfl rfl (any_of HT_.out (by kernel_rfl)) (fun _ _ _ h => h) (Or.inl ⟨by rfl, ?_⟩) ?_ ?_
                     rotate_left
                     ·
                      intro w'
                      go_simp
                      with_reducible rfl
                     rotate_left
                     ·
                      simp only [Act.put, sA, sB, sC, i64_w, i32_w]
                      rfl
                     refine pure_ (i := 8) (N := some 67) (v := ?_) (a' := ?_) #[true, true, true, true, true, true, true, true, true, true, false, false, false, false] rfl rfl (any_of HT_.out (by kernel_rfl)) (fun _ _ _ h => h) (Or.inl ⟨by rfl, ?_⟩) ?_ ?_
                     rotate_left
                     ·
                      intro w'
                      go_simp
                      with_reducible rfl
                     rotate_left
                     ·
                      simp only [Act.put, sA, sB, sC, i64_w, i32_w]
                      rfl
                     exact norm_ (by first | (simp only [putAll, Act.put, sA, sB, sC]; done) | (simp only [putAll, Act.put, sA, sB, sC]; rfl)) (hJ4_9 (v256, v260, v265, gb267) _ ⟨hHeld, (by (with_reducible repeat (first | apply Kd.V_alloc | apply Kd.V_drewN | apply Kd.V_drew)); exact Kd.V_mono HO254.out (fun _ hk => ⟨hk.1.1, ⟨hk.2, ⟨hk.1.2.1, ⟨hk.1.2.2.1, ⟨hk.1.2.2.2.1, hk.1.2.2.2.2⟩⟩⟩⟩⟩)), (by (with_reducible repeat (first | apply Kd.V_alloc | apply Kd.V_drewN | apply Kd.V_drew)); exact Kd.V_mono HO257.out (fun _ hk => ⟨hk.1, ⟨hk.2.1, ⟨hk.2.2.2.2.1, ⟨hk.2.2.1, ⟨hk.2.2.2.1, ⟨hk.2.2.2.2.2.1, hk.2.2.2.2.2.2⟩⟩⟩⟩⟩⟩)), (by (with_reducible repeat (first | apply Kd.N_alloc | apply Kd.N_drewN | apply Kd.N_drew)); exact Kd.N_mono HO261.out (fun _ hk => ⟨hk.1, ⟨hk.2.2.2.1, ⟨hk.2.1, ⟨hk.2.2.1, ⟨hk.2.2.2.2.1, hk.2.2.2.2.2⟩⟩⟩⟩⟩)), (by (with_reducible repeat (first | apply Kd.V_alloc | apply Kd.V_drewN | apply Kd.V_drew)); exact Kd.V_mono HO266.out (fun _ hk => ⟨hk.1, ⟨hk.2.1, ⟨hk.2.2.2.2.1, ⟨hk.2.2.1, ⟨hk.2.2.2.1, ⟨hk.2.2.2.2.2.1, hk.2.2.2.2.2.2⟩⟩⟩⟩⟩⟩)), (by (with_reducible repeat (first | apply Kd.N_alloc | apply Kd.N_drewN | apply Kd.N_drew)); exact Kd.N_mono HO_11.out (fun _ hk => ⟨hk.1.1, ⟨hk.2, ⟨hk.1.2.1, ⟨hk.1.2.2.1, ⟨hk.1.2.2.2.1, hk.1.2.2.2.2⟩⟩⟩⟩⟩)), (by (with_reducible repeat (first | apply Kd.V_alloc | apply Kd.V_drewN | apply Kd.V_drew)); exact Kd.V_mono HO_249000.out (fun _ hk => ⟨hk.1.1, ⟨hk.2, ⟨hk.1.2.1, ⟨hk.1.2.2.1, ⟨hk.1.2.2.2.1, ⟨hk.1.2.2.2.2.1, hk.1.2.2.2.2.2⟩⟩⟩⟩⟩⟩)), (by (with_reducible repeat (first | apply Kd.Q_alloc | apply Kd.Q_drewN | apply Kd.Q_drew)); exact HO_6.out), (by (with_reducible repeat (first | apply Kd.N_alloc | apply Kd.N_drewN | apply Kd.N_drew)); exact Kd.N_mono HO_7.out (fun _ hk => ⟨hk.1.1, ⟨hk.2, ⟨hk.1.2.1, ⟨hk.1.2.2.1, ⟨hk.1.2.2.2.1, hk.1.2.2.2.2⟩⟩⟩⟩⟩)), (by (with_reducible repeat (first | refine kN ?_ _ | refine kD ?_ | refine kA ?_ _)); exact BK248.out), (by (with_reducible repeat (first | refine kN ?_ _ | refine kD ?_ | refine kA ?_ _)); exact BK267.out), GW267.out, GE267.out, NB248_267.out, NB267_248.out, (by repeat (first | (with_reducible first | exact HB.out | apply bA | apply bN | apply bD | refine bS ?_ GE248.out | refine bS ?_ GE267.out) | exact HB.out))⟩)
                    ·
                     skip
                     refine box_step ?hg (N := 15) ?hd (cs := #[.int .i64 0, .int .i64 0, .slice none 0 0]) (t := 29) ?hr ?_; (case hd => rfl); (case hg => rfl); (case hr => first | (go_simp; done) | (go_simp; rfl))
                     intro gb268 hg w38 hbox hb
                     have n0_ := Aside0.mk (Kd.Q_below (by (with_reducible repeat (first | apply Kd.Q_alloc | apply Kd.Q_drewN | apply Kd.Q_drew)); exact HO_6.out) hb)
                     have n1_ := Aside0.mk (Kd.N_below (Kd.N_elderB (by (with_reducible repeat (first | apply Kd.N_alloc | apply Kd.N_drewN | apply Kd.N_drew)); exact HO_7.out) gb268 (Nat.le_of_eq hg.symm)) hb)
                     have n2_ := Aside0.mk (Kd.N_below (Kd.N_elderB (by (with_reducible repeat (first | apply Kd.N_alloc | apply Kd.N_drewN | apply Kd.N_drew)); exact HO_11.out) gb268 (Nat.le_of_eq hg.symm)) hb)
                     have n3_ := Aside0.mk (Kd.V_below (Kd.V_elderB (by (with_reducible repeat (first | apply Kd.V_alloc | apply Kd.V_drewN | apply Kd.V_drew)); exact HO_249000.out) gb268 (Nat.le_of_eq hg.symm)) hb)
                     have n4_ := Aside0.mk (Kd.V_below (Kd.V_elderB (by (with_reducible repeat (first | apply Kd.V_alloc | apply Kd.V_drewN | apply Kd.V_drew)); exact HO254.out) gb268 (Nat.le_of_eq hg.symm)) hb)
                     have n5_ := Aside0.mk (blk_below (g := gb248) (o := .cells #[.slice Ao33 x249000_2.length co33, .bool x249001_2] 26 (0, 0)) (by (with_reducible repeat (first | refine kN ?_ _ | refine kD ?_ | refine kA ?_ _)); exact BK248.out) hb)
                     have n6_ := Aside0.mk (blk_below (g := gb267) (o := .cells #[.slice none 0 0, .bool false] 26 (0, 0)) (by (with_reducible repeat (first | refine kN ?_ _ | refine kD ?_ | refine kA ?_ _)); exact BK267.out) hb)
                     have n7_ := Aside0.mk (below_step (by repeat (first | (with_reducible first | exact HB.out | apply bA | apply bN | apply bD | refine bS ?_ GE248.out | refine bS ?_ GE267.out) | exact HB.out)) hb)
                     have n8_ := Aside0.mk (hbox)
                     have n9_ := Aside0.mk ((by rw [hg]; exact (below_size (by repeat (first | (with_reducible first | exact HB.out | apply bA | apply bN | apply bD | refine bS ?_ GE248.out | refine bS ?_ GE267.out) | exact HB.out))) : w.heap.size ≤ gb268))
                     have n10_ := Aside0.mk ((by rw [hg]; exact (below_size (by repeat (first | (with_reducible first | exact HB.out | apply bA | apply bN | apply bD | refine bS ?_ GE248.out | refine bS ?_ GE267.out) | exact HB.out))) : w.heap.size ≤ gb268))
                     have n11_ := Aside0.mk ((by rw [hg]; exact Nat.ne_of_lt (blk_lt (g := gb248) (o := .cells #[.slice Ao33 x249000_2.length co33, .bool x249001_2] 26 (0, 0)) (by (with_reducible repeat (first | refine kN ?_ _ | refine kD ?_ | refine kA ?_ _)); exact BK248.out)) : gb248 ≠ gb268))
                     have n12_ := Aside0.mk ((by rw [hg]; exact Nat.ne_of_gt (blk_lt (g := gb248) (o := .cells #[.slice Ao33 x249000_2.length co33, .bool x249001_2] 26 (0, 0)) (by (with_reducible repeat (first | refine kN ?_ _ | refine kD ?_ | refine kA ?_ _)); exact BK248.out)) : gb268 ≠ gb248))
                     have n13_ := Aside0.mk ((by rw [hg]; exact Nat.ne_of_lt (blk_lt (g := gb267) (o := .cells #[.slice none 0 0, .bool false] 26 (0, 0)) (by (with_reducible repeat (first | refine kN ?_ _ | refine kD ?_ | refine kA ?_ _)); exact BK267.out)) : gb267 ≠ gb268))
                     have n14_ := Aside0.mk ((by rw [hg]; exact Nat.ne_of_gt (blk_lt (g := gb267) (o := .cells #[.slice none 0 0, .bool false] 26 (0, 0)) (by (with_reducible repeat (first | refine kN ?_ _ | refine kD ?_ | refine kA ?_ _)); exact BK267.out)) : gb268 ≠ gb267))
                     clear HO_6
                     clear HO_7
                     clear HO_11
                     clear HO_249000
                     clear HO254
                     clear BK248
                     clear BK267
                     clear HB
                     have HO_6 := n0_
                     have HO_7 := n1_
                     have HO_11 := n2_
                     have HO_249000 := n3_
                     have HO254 := n4_
                     have BK248 := n5_
                     have BK267 := n6_
                     have HB := n7_
                     have BK268 := n8_
                     have GW268 := n9_
                     have GE268 := n10_
                     have NB248_268 := n11_
                     have NB268_248 := n12_
                     have NB267_268 := n13_
                     have NB268_267 := n14_
                     clear n0_ n1_ n2_ n3_ n4_ n5_ n6_ n7_ n8_ n9_ n10_ n11_ n12_ n13_ n14_
                     clear hb hbox hg
                     refine hK.out _ _ ⟨(blk_cell BK248.out 0).trans rfl, (blk_cell BK248.out 1).trans rfl⟩ (fun hHeld => ?_)
                     clear hK K
                     refine norm_ (a' := ?_) ?_ ?_
                     rotate_left
                     ·
                      show Act.put _ (some 15) _ = _
                      simp only [Act.put, sA, sB, sC, i64_w, i32_w]
                      rfl
                     exact norm_ (by first | (simp only [putAll, Act.put, sA, sB, sC]; done) | (simp only [putAll, Act.put, sA, sB, sC]; rfl)) (hJ9_10 (gb267, gb268) _ ⟨hHeld, (by (with_reducible repeat (first | apply Kd.V_alloc | apply Kd.V_drewN | apply Kd.V_drew)); exact Kd.V_mono HO254.out (fun _ hk => ⟨hk.1.1, ⟨hk.1.2.1, ⟨hk.1.2.2.1, ⟨hk.1.2.2.2.1, ⟨hk.1.2.2.2.2, hk.2⟩⟩⟩⟩⟩)), (by (with_reducible repeat (first | apply Kd.N_alloc | apply Kd.N_drewN | apply Kd.N_drew)); exact Kd.N_mono HO_11.out (fun _ hk => ⟨hk.1.1, ⟨hk.1.2.1, ⟨hk.1.2.2.1, ⟨hk.1.2.2.2.1, ⟨hk.1.2.2.2.2, hk.2⟩⟩⟩⟩⟩)), (by (with_reducible repeat (first | apply Kd.V_alloc | apply Kd.V_drewN | apply Kd.V_drew)); exact Kd.V_mono HO_249000.out (fun _ hk => ⟨hk.1.1, ⟨hk.1.2.1, ⟨hk.1.2.2.1, ⟨hk.1.2.2.2.1, ⟨hk.1.2.2.2.2.1, ⟨hk.1.2.2.2.2.2, hk.2⟩⟩⟩⟩⟩⟩)), (by (with_reducible repeat (first | apply Kd.Q_alloc | apply Kd.Q_drewN | apply Kd.Q_drew)); exact HO_6.out), (by (with_reducible repeat (first | apply Kd.N_alloc | apply Kd.N_drewN | apply Kd.N_drew)); exact Kd.N_mono HO_7.out (fun _ hk => ⟨hk.1.1, ⟨hk.1.2.1, ⟨hk.1.2.2.1, ⟨hk.1.2.2.2.1, ⟨hk.1.2.2.2.2, hk.2⟩⟩⟩⟩⟩)), (by (with_reducible repeat (first | refine kN ?_ _ | refine kD ?_ | refine kA ?_ _)); exact BK248.out), (by (with_reducible repeat (first | refine kN ?_ _ | refine kD ?_ | refine kA ?_ _)); exact BK267.out), (by (with_reducible repeat (first | refine kN ?_ _ | refine kD ?_ | refine kA ?_ _)); exact BK268.out), GW267.out, GE267.out, NB248_267.out, NB267_248.out, NB268_267.out, NB267_268.out, GW268.out, GE268.out, NB248_268.out, NB268_248.out, (by repeat (first | (with_reducible first | exact HB.out | apply bA | apply bN | apply bD | refine bS ?_ GE248.out | refine bS ?_ GE267.out | refine bS ?_ GE268.out) | exact HB.out))⟩)
                  ·
                   skip
                   rintro ⟨v256, v260, v265⟩ w37 ⟨hS_, h0_, h1_, h2_, h3_, h4_, h5_, h6_, h7_, h8_, h9_⟩
                   have n0_ : Aside0 (Kd.V (Kd.int .u8) 5 w37 w.heap.size (fun k_ => (P0_ k_ ∨ w.heap.size ≤ k_) ∧ some k_ ≠ (v260 : Value).ownBlock ∧ some k_ ≠ (u11 : Value).ownBlock ∧ some k_ ≠ (u7 : Value).ownBlock ∧ k_ ≠ gb248) (.slice Ao25 y250.length co25) y250) := ⟨h0_⟩
                   have n1_ : Aside0 (Kd.V (Kd.int .u8) 5 w37 w.heap.size (fun k_ => (P0_ k_ ∨ w.heap.size ≤ k_) ∧ some k_ ≠ (v260 : Value).ownBlock ∧ some k_ ≠ (u11 : Value).ownBlock ∧ some k_ ≠ (.slice Ao25 x6_2.length co25 : Value).ownBlock ∧ some k_ ≠ (u7 : Value).ownBlock ∧ k_ ≠ gb248) v256 t255) := ⟨h1_⟩
                   have n2_ : Aside0 (Kd.N k43 43 w37 w.heap.size (fun k_ => (P0_ k_ ∨ w.heap.size ≤ k_) ∧ some k_ ≠ (u11 : Value).ownBlock ∧ some k_ ≠ (.slice Ao25 x6_2.length co25 : Value).ownBlock ∧ some k_ ≠ (u7 : Value).ownBlock ∧ k_ ≠ gb248) v260 t259) := ⟨h2_⟩
                   have n3_ : Aside0 (Kd.V (Kd.int .u8) 5 w37 w.heap.size (fun k_ => (P0_ k_ ∨ w.heap.size ≤ k_) ∧ some k_ ≠ (v260 : Value).ownBlock ∧ some k_ ≠ (u11 : Value).ownBlock ∧ some k_ ≠ (.slice Ao25 x6_2.length co25 : Value).ownBlock ∧ some k_ ≠ (u7 : Value).ownBlock ∧ k_ ≠ gb248) v265 t264) := ⟨h3_⟩
                   have n4_ : Aside0 (Kd.N k43 43 w37 w.heap.size (fun k_ => (P0_ k_ ∨ w.heap.size ≤ k_) ∧ some k_ ≠ (v260 : Value).ownBlock ∧ some k_ ≠ (.slice Ao25 x6_2.length co25 : Value).ownBlock ∧ some k_ ≠ (u7 : Value).ownBlock ∧ k_ ≠ gb248) u11 x11_2) := ⟨h4_⟩
                   have n5_ : Aside0 (Kd.V (Kd.int .u8) 5 w37 w.heap.size (fun k_ => (P0_ k_ ∨ w.heap.size ≤ k_) ∧ some k_ ≠ (v260 : Value).ownBlock ∧ some k_ ≠ (u11 : Value).ownBlock ∧ some k_ ≠ (.slice Ao25 x6_2.length co25 : Value).ownBlock ∧ some k_ ≠ (u7 : Value).ownBlock ∧ k_ ≠ gb248) (.slice Ao33 x249000_2.length co33) x249000_2) := ⟨h5_⟩
                   have n6_ : Aside0 (Kd.Q (Kd.int .u8) 5 w37 w.heap.size (fun k_ => (w.heap.size ≤ k_)) (.slice Ao25 x6_2.length co25) x6_2) := ⟨h6_⟩
                   have n7_ : Aside0 (Kd.N k43 43 w37 w.heap.size (fun k_ => (P0_ k_ ∨ w.heap.size ≤ k_) ∧ some k_ ≠ (v260 : Value).ownBlock ∧ some k_ ≠ (u11 : Value).ownBlock ∧ some k_ ≠ (.slice Ao25 x6_2.length co25 : Value).ownBlock ∧ k_ ≠ gb248) u7 x7_1) := ⟨h7_⟩
                   have n8_ : Aside0 (w37.heap[gb248]? = some (.cells #[.slice Ao33 x249000_2.length co33, .bool x249001_2] 26 (0, 0))) := ⟨h8_⟩
                   have n9_ : Aside0 (Below w.heap.size w w37) := ⟨h9_⟩
                   clear HO_6
                   clear HO_7
                   clear HO_11
                   clear HO_249000
                   clear BK248
                   clear HB
                   clear h0_ h1_ h2_ h3_ h4_ h5_ h6_ h7_ h8_ h9_
                   have HO254 := n0_
                   have HO257 := n1_
                   have HO261 := n2_
                   have HO266 := n3_
                   have HO_11 := n4_
                   have HO_249000 := n5_
                   have HO_6 := n6_
                   have HO_7 := n7_
                   have BK248 := n8_
                   have HB := n9_
                   clear n0_ n1_ n2_ n3_ n4_ n5_ n6_ n7_ n8_ n9_
                   have hHeld : w37.cell? ⟨gb248, 0, none⟩ = some (.slice Ao33 x249000_2.length co33) ∧ w37.cell? ⟨gb248, 1, none⟩ = some (.bool x249001_2) := hS_
                   refine norm_ (a' := ?_) ?_ ?_
                   rotate_left
                   ·
                    simp only [putAll, Act.put, sA, sB, sC]
                    rfl
                   refine two_ (i := 9) (j := 10) (Ni := some 13) (Nj := some 15) #[true, true, true, true, true, true, true, true, true, true, false, false, false, false] #[true, true, true, true, true, true, true, true, true, false, true, false, false, false] rfl rfl rfl rfl (two_of HT_.out (by kernel_rfl)) (by decide) (by decide) (fun K hK => ?_) (fun K hK => ?_)
                   ·
                    skip
                    refine box_step ?hg (N := 13) ?hd (cs := #[.slice none 0 0, .bool false]) (t := 26) ?hr ?_; (case hd => rfl); (case hg => rfl); (case hr => first | (go_simp; done) | (go_simp; rfl))
                    intro gb267 hg w38 hbox hb
                    have n0_ := Aside0.mk (Kd.Q_below (by (with_reducible repeat (first | apply Kd.Q_alloc | apply Kd.Q_drewN | apply Kd.Q_drew)); exact HO_6.out) hb)
                    have n1_ := Aside0.mk (Kd.N_below (Kd.N_elderB (by (with_reducible repeat (first | apply Kd.N_alloc | apply Kd.N_drewN | apply Kd.N_drew)); exact HO_7.out) gb267 (Nat.le_of_eq hg.symm)) hb)
                    have n2_ := Aside0.mk (Kd.N_below (Kd.N_elderB (by (with_reducible repeat (first | apply Kd.N_alloc | apply Kd.N_drewN | apply Kd.N_drew)); exact HO_11.out) gb267 (Nat.le_of_eq hg.symm)) hb)
                    have n3_ := Aside0.mk (Kd.V_below (Kd.V_elderB (by (with_reducible repeat (first | apply Kd.V_alloc | apply Kd.V_drewN | apply Kd.V_drew)); exact HO_249000.out) gb267 (Nat.le_of_eq hg.symm)) hb)
                    have n4_ := Aside0.mk (Kd.V_below (Kd.V_elderB (by (with_reducible repeat (first | apply Kd.V_alloc | apply Kd.V_drewN | apply Kd.V_drew)); exact HO254.out) gb267 (Nat.le_of_eq hg.symm)) hb)
                    have n5_ := Aside0.mk (Kd.V_below (Kd.V_elderB (by (with_reducible repeat (first | apply Kd.V_alloc | apply Kd.V_drewN | apply Kd.V_drew)); exact HO257.out) gb267 (Nat.le_of_eq hg.symm)) hb)
                    have n6_ := Aside0.mk (Kd.N_below (Kd.N_elderB (by (with_reducible repeat (first | apply Kd.N_alloc | apply Kd.N_drewN | apply Kd.N_drew)); exact HO261.out) gb267 (Nat.le_of_eq hg.symm)) hb)
                    have n7_ := Aside0.mk (Kd.V_below (Kd.V_elderB (by (with_reducible repeat (first | apply Kd.V_alloc | apply Kd.V_drewN | apply Kd.V_drew)); exact HO266.out) gb267 (Nat.le_of_eq hg.symm)) hb)
                    have n8_ := Aside0.mk (blk_below (g := gb248) (o := .cells #[.slice Ao33 x249000_2.length co33, .bool x249001_2] 26 (0, 0)) (by (with_reducible repeat (first | refine kN ?_ _ | refine kD ?_ | refine kA ?_ _)); exact BK248.out) hb)
                    have n9_ := Aside0.mk (below_step (by repeat (first | (with_reducible first | exact HB.out | apply bA | apply bN | apply bD | refine bS ?_ GE248.out) | exact HB.out)) hb)
                    have n10_ := Aside0.mk (hbox)
                    have n11_ := Aside0.mk ((by rw [hg]; exact (below_size (by repeat (first | (with_reducible first | exact HB.out | apply bA | apply bN | apply bD | refine bS ?_ GE248.out) | exact HB.out))) : w.heap.size ≤ gb267))
                    have n12_ := Aside0.mk ((by rw [hg]; exact (below_size (by repeat (first | (with_reducible first | exact HB.out | apply bA | apply bN | apply bD | refine bS ?_ GE248.out) | exact HB.out))) : w.heap.size ≤ gb267))
                    have n13_ := Aside0.mk ((by rw [hg]; exact Nat.ne_of_lt (blk_lt (g := gb248) (o := .cells #[.slice Ao33 x249000_2.length co33, .bool x249001_2] 26 (0, 0)) (by (with_reducible repeat (first | refine kN ?_ _ | refine kD ?_ | refine kA ?_ _)); exact BK248.out)) : gb248 ≠ gb267))
                    have n14_ := Aside0.mk ((by rw [hg]; exact Nat.ne_of_gt (blk_lt (g := gb248) (o := .cells #[.slice Ao33 x249000_2.length co33, .bool x249001_2] 26 (0, 0)) (by (with_reducible repeat (first | refine kN ?_ _ | refine kD ?_ | refine kA ?_ _)); exact BK248.out)) : gb267 ≠ gb248))
                    clear HO_6
                    clear HO_7
                    clear HO_11
                    clear HO_249000
                    clear HO254
                    clear HO257
                    clear HO261
                    clear HO266
                    clear BK248
                    clear HB
                    have HO_6 := n0_
                    have HO_7 := n1_
                    have HO_11 := n2_
                    have HO_249000 := n3_
                    have HO254 := n4_
                    have HO257 := n5_
                    have HO261 := n6_
                    have HO266 := n7_
                    have BK248 := n8_
                    have HB := n9_
                    have BK267 := n10_
                    have GW267 := n11_
                    have GE267 := n12_
                    have NB248_267 := n13_
                    have NB267_248 := n14_
                    clear n0_ n1_ n2_ n3_ n4_ n5_ n6_ n7_ n8_ n9_ n10_ n11_ n12_ n13_ n14_
                    clear hb hbox hg
                    refine hK.out _ _ ⟨(blk_cell BK248.out 0).trans rfl, (blk_cell BK248.out 1).trans rfl⟩ (fun hHeld => ?_)
                    clear hK K
                    refine norm_ (a' := ?_) ?_ ?_
                    rotate_left
                    ·
                     show Act.put _ (some 13) _ = _
                     simp only [Act.put, sA, sB, sC, i64_w, i32_w]
                     rfl
                    exact norm_ (by first | (simp only [putAll, Act.put, sA, sB, sC]; done) | (simp only [putAll, Act.put, sA, sB, sC]; rfl)) (hJ4_9 (v256, v260, v265, gb267) _ ⟨hHeld, (by (with_reducible repeat (first | apply Kd.V_alloc | apply Kd.V_drewN | apply Kd.V_drew)); exact Kd.V_mono HO254.out (fun _ hk => ⟨hk.1.1, ⟨hk.1.2.1, ⟨hk.1.2.2.1, ⟨hk.1.2.2.2.1, ⟨hk.1.2.2.2.2, hk.2⟩⟩⟩⟩⟩)), (by (with_reducible repeat (first | apply Kd.V_alloc | apply Kd.V_drewN | apply Kd.V_drew)); exact Kd.V_mono HO257.out (fun _ hk => ⟨hk.1.1, ⟨hk.1.2.1, ⟨hk.1.2.2.1, ⟨hk.1.2.2.2.1, ⟨hk.1.2.2.2.2.1, ⟨hk.1.2.2.2.2.2, hk.2⟩⟩⟩⟩⟩⟩)), (by (with_reducible repeat (first | apply Kd.N_alloc | apply Kd.N_drewN | apply Kd.N_drew)); exact Kd.N_mono HO261.out (fun _ hk => ⟨hk.1.1, ⟨hk.1.2.1, ⟨hk.1.2.2.1, ⟨hk.1.2.2.2.1, ⟨hk.1.2.2.2.2, hk.2⟩⟩⟩⟩⟩)), (by (with_reducible repeat (first | apply Kd.V_alloc | apply Kd.V_drewN | apply Kd.V_drew)); exact Kd.V_mono HO266.out (fun _ hk => ⟨hk.1.1, ⟨hk.1.2.1, ⟨hk.1.2.2.1, ⟨hk.1.2.2.2.1, ⟨hk.1.2.2.2.2.1, ⟨hk.1.2.2.2.2.2, hk.2⟩⟩⟩⟩⟩⟩)), (by (with_reducible repeat (first | apply Kd.N_alloc | apply Kd.N_drewN | apply Kd.N_drew)); exact Kd.N_mono HO_11.out (fun _ hk => ⟨hk.1.1, ⟨hk.1.2.1, ⟨hk.1.2.2.1, ⟨hk.1.2.2.2.1, ⟨hk.1.2.2.2.2, hk.2⟩⟩⟩⟩⟩)), (by (with_reducible repeat (first | apply Kd.V_alloc | apply Kd.V_drewN | apply Kd.V_drew)); exact Kd.V_mono HO_249000.out (fun _ hk => ⟨hk.1.1, ⟨hk.1.2.1, ⟨hk.1.2.2.1, ⟨hk.1.2.2.2.1, ⟨hk.1.2.2.2.2.1, ⟨hk.1.2.2.2.2.2, hk.2⟩⟩⟩⟩⟩⟩)), (by (with_reducible repeat (first | apply Kd.Q_alloc | apply Kd.Q_drewN | apply Kd.Q_drew)); exact HO_6.out), (by (with_reducible repeat (first | apply Kd.N_alloc | apply Kd.N_drewN | apply Kd.N_drew)); exact Kd.N_mono HO_7.out (fun _ hk => ⟨hk.1.1, ⟨hk.1.2.1, ⟨hk.1.2.2.1, ⟨hk.1.2.2.2.1, ⟨hk.1.2.2.2.2, hk.2⟩⟩⟩⟩⟩)), (by (with_reducible repeat (first | refine kN ?_ _ | refine kD ?_ | refine kA ?_ _)); exact BK248.out), (by (with_reducible repeat (first | refine kN ?_ _ | refine kD ?_ | refine kA ?_ _)); exact BK267.out), GW267.out, GE267.out, NB248_267.out, NB267_248.out, (by repeat (first | (with_reducible first | exact HB.out | apply bA | apply bN | apply bD | refine bS ?_ GE248.out | refine bS ?_ GE267.out) | exact HB.out))⟩)
                   ·
                    skip
                    refine box_step ?hg (N := 15) ?hd (cs := #[.int .i64 0, .int .i64 0, .slice none 0 0]) (t := 29) ?hr ?_; (case hd => rfl); (case hg => rfl); (case hr => first | (go_simp; done) | (go_simp; rfl))
                    intro gb268 hg w38 hbox hb
                    have n0_ := Aside0.mk (Kd.Q_below (by (with_reducible repeat (first | apply Kd.Q_alloc | apply Kd.Q_drewN | apply Kd.Q_drew)); exact HO_6.out) hb)
                    have n1_ := Aside0.mk (Kd.N_below (Kd.N_elderB (by (with_reducible repeat (first | apply Kd.N_alloc | apply Kd.N_drewN | apply Kd.N_drew)); exact HO_7.out) gb268 (Nat.le_of_eq hg.symm)) hb)
                    have n2_ := Aside0.mk (Kd.N_below (Kd.N_elderB (by (with_reducible repeat (first | apply Kd.N_alloc | apply Kd.N_drewN | apply Kd.N_drew)); exact HO_11.out) gb268 (Nat.le_of_eq hg.symm)) hb)
                    have n3_ := Aside0.mk (Kd.V_below (Kd.V_elderB (by (with_reducible repeat (first | apply Kd.V_alloc | apply Kd.V_drewN | apply Kd.V_drew)); exact HO_249000.out) gb268 (Nat.le_of_eq hg.symm)) hb)
                    have n4_ := Aside0.mk (Kd.V_below (Kd.V_elderB (by (with_reducible repeat (first | apply Kd.V_alloc | apply Kd.V_drewN | apply Kd.V_drew)); exact HO254.out) gb268 (Nat.le_of_eq hg.symm)) hb)
                    have n5_ := Aside0.mk (Kd.V_below (Kd.V_elderB (by (with_reducible repeat (first | apply Kd.V_alloc | apply Kd.V_drewN | apply Kd.V_drew)); exact HO257.out) gb268 (Nat.le_of_eq hg.symm)) hb)
                    have n6_ := Aside0.mk (Kd.N_below (Kd.N_elderB (by (with_reducible repeat (first | apply Kd.N_alloc | apply Kd.N_drewN | apply Kd.N_drew)); exact HO261.out) gb268 (Nat.le_of_eq hg.symm)) hb)
                    have n7_ := Aside0.mk (Kd.V_below (Kd.V_elderB (by (with_reducible repeat (first | apply Kd.V_alloc | apply Kd.V_drewN | apply Kd.V_drew)); exact HO266.out) gb268 (Nat.le_of_eq hg.symm)) hb)
                    have n8_ := Aside0.mk (blk_below (g := gb248) (o := .cells #[.slice Ao33 x249000_2.length co33, .bool x249001_2] 26 (0, 0)) (by (with_reducible repeat (first | refine kN ?_ _ | refine kD ?_ | refine kA ?_ _)); exact BK248.out) hb)
                    have n9_ := Aside0.mk (below_step (by repeat (first | (with_reducible first | exact HB.out | apply bA | apply bN | apply bD | refine bS ?_ GE248.out) | exact HB.out)) hb)
                    have n10_ := Aside0.mk (hbox)
                    have n11_ := Aside0.mk ((by rw [hg]; exact (below_size (by repeat (first | (with_reducible first | exact HB.out | apply bA | apply bN | apply bD | refine bS ?_ GE248.out) | exact HB.out))) : w.heap.size ≤ gb268))
                    have n12_ := Aside0.mk ((by rw [hg]; exact (below_size (by repeat (first | (with_reducible first | exact HB.out | apply bA | apply bN | apply bD | refine bS ?_ GE248.out) | exact HB.out))) : w.heap.size ≤ gb268))
                    have n13_ := Aside0.mk ((by rw [hg]; exact Nat.ne_of_lt (blk_lt (g := gb248) (o := .cells #[.slice Ao33 x249000_2.length co33, .bool x249001_2] 26 (0, 0)) (by (with_reducible repeat (first | refine kN ?_ _ | refine kD ?_ | refine kA ?_ _)); exact BK248.out)) : gb248 ≠ gb268))
                    have n14_ := Aside0.mk ((by rw [hg]; exact Nat.ne_of_gt (blk_lt (g := gb248) (o := .cells #[.slice Ao33 x249000_2.length co33, .bool x249001_2] 26 (0, 0)) (by (with_reducible repeat (first | refine kN ?_ _ | refine kD ?_ | refine kA ?_ _)); exact BK248.out)) : gb268 ≠ gb248))
                    clear HO_6
                    clear HO_7
                    clear HO_11
                    clear HO_249000
                    clear HO254
                    clear HO257
                    clear HO261
                    clear HO266
                    clear BK248
                    clear HB
                    have HO_6 := n0_
                    have HO_7 := n1_
                    have HO_11 := n2_
                    have HO_249000 := n3_
                    have HO254 := n4_
                    have HO257 := n5_
                    have HO261 := n6_
                    have HO266 := n7_
                    have BK248 := n8_
                    have HB := n9_
                    have BK268 := n10_
                    have GW268 := n11_
                    have GE268 := n12_
                    have NB248_268 := n13_
                    have NB268_248 := n14_
                    clear n0_ n1_ n2_ n3_ n4_ n5_ n6_ n7_ n8_ n9_ n10_ n11_ n12_ n13_ n14_
                    clear hb hbox hg
                    refine hK.out _ _ ⟨(blk_cell BK248.out 0).trans rfl, (blk_cell BK248.out 1).trans rfl⟩ (fun hHeld => ?_)
                    clear hK K
                    refine norm_ (a' := ?_) ?_ ?_
                    rotate_left
                    ·
                     show Act.put _ (some 15) _ = _
                     simp only [Act.put, sA, sB, sC, i64_w, i32_w]
                     rfl
                    exact norm_ (by first | (simp only [putAll, Act.put, sA, sB, sC]; done) | (simp only [putAll, Act.put, sA, sB, sC]; rfl)) (hJ4_10 (v256, v260, v265, gb268) _ ⟨hHeld, (by (with_reducible repeat (first | apply Kd.V_alloc | apply Kd.V_drewN | apply Kd.V_drew)); exact Kd.V_mono HO254.out (fun _ hk => ⟨hk.1.1, ⟨hk.1.2.1, ⟨hk.1.2.2.1, ⟨hk.1.2.2.2.1, ⟨hk.1.2.2.2.2, hk.2⟩⟩⟩⟩⟩)), (by (with_reducible repeat (first | apply Kd.V_alloc | apply Kd.V_drewN | apply Kd.V_drew)); exact Kd.V_mono HO257.out (fun _ hk => ⟨hk.1.1, ⟨hk.1.2.1, ⟨hk.1.2.2.1, ⟨hk.1.2.2.2.1, ⟨hk.1.2.2.2.2.1, ⟨hk.1.2.2.2.2.2, hk.2⟩⟩⟩⟩⟩⟩)), (by (with_reducible repeat (first | apply Kd.N_alloc | apply Kd.N_drewN | apply Kd.N_drew)); exact Kd.N_mono HO261.out (fun _ hk => ⟨hk.1.1, ⟨hk.1.2.1, ⟨hk.1.2.2.1, ⟨hk.1.2.2.2.1, ⟨hk.1.2.2.2.2, hk.2⟩⟩⟩⟩⟩)), (by (with_reducible repeat (first | apply Kd.V_alloc | apply Kd.V_drewN | apply Kd.V_drew)); exact Kd.V_mono HO266.out (fun _ hk => ⟨hk.1.1, ⟨hk.1.2.1, ⟨hk.1.2.2.1, ⟨hk.1.2.2.2.1, ⟨hk.1.2.2.2.2.1, ⟨hk.1.2.2.2.2.2, hk.2⟩⟩⟩⟩⟩⟩)), (by (with_reducible repeat (first | apply Kd.N_alloc | apply Kd.N_drewN | apply Kd.N_drew)); exact Kd.N_mono HO_11.out (fun _ hk => ⟨hk.1.1, ⟨hk.1.2.1, ⟨hk.1.2.2.1, ⟨hk.1.2.2.2.1, ⟨hk.1.2.2.2.2, hk.2⟩⟩⟩⟩⟩)), (by (with_reducible repeat (first | apply Kd.V_alloc | apply Kd.V_drewN | apply Kd.V_drew)); exact Kd.V_mono HO_249000.out (fun _ hk => ⟨hk.1.1, ⟨hk.1.2.1, ⟨hk.1.2.2.1, ⟨hk.1.2.2.2.1, ⟨hk.1.2.2.2.2.1, ⟨hk.1.2.2.2.2.2, hk.2⟩⟩⟩⟩⟩⟩)), (by (with_reducible repeat (first | apply Kd.Q_alloc | apply Kd.Q_drewN | apply Kd.Q_drew)); exact HO_6.out), (by (with_reducible repeat (first | apply Kd.N_alloc | apply Kd.N_drewN | apply Kd.N_drew)); exact Kd.N_mono HO_7.out (fun _ hk => ⟨hk.1.1, ⟨hk.1.2.1, ⟨hk.1.2.2.1, ⟨hk.1.2.2.2.1, ⟨hk.1.2.2.2.2, hk.2⟩⟩⟩⟩⟩)), (by (with_reducible repeat (first | refine kN ?_ _ | refine kD ?_ | refine kA ?_ _)); exact BK248.out), (by (with_reducible repeat (first | refine kN ?_ _ | refine kD ?_ | refine kA ?_ _)); exact BK268.out), GW268.out, GE268.out, NB248_268.out, NB268_248.out, (by repeat (first | (with_reducible first | exact HB.out | apply bA | apply bN | apply bD | refine bS ?_ GE248.out | refine bS ?_ GE268.out) | exact HB.out))⟩)
                 ·
                  skip
                  rintro ⟨gb267, gb268⟩ w38 ⟨hS_, h0_, h1_, h2_, h3_, h4_, h5_, h6_, h7_, h8_, h9_, h10_, h11_, h12_, h13_, h14_, h15_, h16_, h17_, h18_⟩
                  have n0_ : Aside0 (Kd.V (Kd.int .u8) 5 w38 w.heap.size (fun k_ => (P0_ k_ ∨ w.heap.size ≤ k_) ∧ some k_ ≠ (u11 : Value).ownBlock ∧ some k_ ≠ (u7 : Value).ownBlock ∧ k_ ≠ gb248 ∧ k_ ≠ gb267 ∧ k_ ≠ gb268) (.slice Ao25 y250.length co25) y250) := ⟨h0_⟩
                  have n1_ : Aside0 (Kd.N k43 43 w38 w.heap.size (fun k_ => (P0_ k_ ∨ w.heap.size ≤ k_) ∧ some k_ ≠ (.slice Ao25 x6_2.length co25 : Value).ownBlock ∧ some k_ ≠ (u7 : Value).ownBlock ∧ k_ ≠ gb248 ∧ k_ ≠ gb267 ∧ k_ ≠ gb268) u11 x11_2) := ⟨h1_⟩
                  have n2_ : Aside0 (Kd.V (Kd.int .u8) 5 w38 w.heap.size (fun k_ => (P0_ k_ ∨ w.heap.size ≤ k_) ∧ some k_ ≠ (u11 : Value).ownBlock ∧ some k_ ≠ (.slice Ao25 x6_2.length co25 : Value).ownBlock ∧ some k_ ≠ (u7 : Value).ownBlock ∧ k_ ≠ gb248 ∧ k_ ≠ gb267 ∧ k_ ≠ gb268) (.slice Ao33 x249000_2.length co33) x249000_2) := ⟨h2_⟩
                  have n3_ : Aside0 (Kd.Q (Kd.int .u8) 5 w38 w.heap.size (fun k_ => (w.heap.size ≤ k_)) (.slice Ao25 x6_2.length co25) x6_2) := ⟨h3_⟩
                  have n4_ : Aside0 (Kd.N k43 43 w38 w.heap.size (fun k_ => (P0_ k_ ∨ w.heap.size ≤ k_) ∧ some k_ ≠ (u11 : Value).ownBlock ∧ some k_ ≠ (.slice Ao25 x6_2.length co25 : Value).ownBlock ∧ k_ ≠ gb248 ∧ k_ ≠ gb267 ∧ k_ ≠ gb268) u7 x7_1) := ⟨h4_⟩
                  have n5_ : Aside0 (w38.heap[gb248]? = some (.cells #[.slice Ao33 x249000_2.length co33, .bool x249001_2] 26 (0, 0))) := ⟨h5_⟩
                  have n6_ : Aside0 (w38.heap[gb267]? = some (.cells #[.slice none 0 0, .bool false] 26 (0, 0))) := ⟨h6_⟩
                  have n7_ : Aside0 (w38.heap[gb268]? = some (.cells #[.int .i64 0, .int .i64 0, .slice none 0 0] 29 (0, 0))) := ⟨h7_⟩
                  have n8_ : Aside0 (w.heap.size ≤ gb267) := ⟨h8_⟩
                  have n9_ : Aside0 (w.heap.size ≤ gb267) := ⟨h9_⟩
                  have n10_ : Aside0 (gb248 ≠ gb267) := ⟨h10_⟩
                  have n11_ : Aside0 (gb267 ≠ gb248) := ⟨h11_⟩
                  have n12_ : Aside0 (gb268 ≠ gb267) := ⟨h12_⟩
                  have n13_ : Aside0 (gb267 ≠ gb268) := ⟨h13_⟩
                  have n14_ : Aside0 (w.heap.size ≤ gb268) := ⟨h14_⟩
                  have n15_ : Aside0 (w.heap.size ≤ gb268) := ⟨h15_⟩
                  have n16_ : Aside0 (gb248 ≠ gb268) := ⟨h16_⟩
                  have n17_ : Aside0 (gb268 ≠ gb248) := ⟨h17_⟩
                  have n18_ : Aside0 (Below w.heap.size w w38) := ⟨h18_⟩
                  clear HO_6
                  clear HO_7
                  clear HO_11
                  clear HO_249000
                  clear BK248
                  clear HB
                  clear h0_ h1_ h2_ h3_ h4_ h5_ h6_ h7_ h8_ h9_ h10_ h11_ h12_ h13_ h14_ h15_ h16_ h17_ h18_
                  have HO254 := n0_
                  have HO_11 := n1_
                  have HO_249000 := n2_
                  have HO_6 := n3_
                  have HO_7 := n4_
                  have BK248 := n5_
                  have BK267 := n6_
                  have BK268 := n7_
                  have GW267 := n8_
                  have GE267 := n9_
                  have NB248_267 := n10_
                  have NB267_248 := n11_
                  have NB268_267 := n12_
                  have NB267_268 := n13_
                  have GW268 := n14_
                  have GE268 := n15_
                  have NB248_268 := n16_
                  have NB268_248 := n17_
                  have HB := n18_
                  clear n0_ n1_ n2_ n3_ n4_ n5_ n6_ n7_ n8_ n9_ n10_ n11_ n12_ n13_ n14_ n15_ n16_ n17_ n18_
                  have hHeld : w38.cell? ⟨gb248, 0, none⟩ = some (.slice Ao33 x249000_2.length co33) ∧ w38.cell? ⟨gb248, 1, none⟩ = some (.bool x249001_2) := hS_
                  refine norm_ (a' := ?_) ?_ ?_
                  rotate_left
                  ·
                   simp only [putAll, Act.put, sA, sB, sC]
                   rfl
                  refine one_ (i := 4) (N := some 64) #[true, true, true, true, true, false, false, false, false, true, true, false, false, false] rfl rfl (one_of HT_.out (by kernel_rfl)) (by decide) (fun K hK => ?_)
                  refine goes_ Try.func8 (by kernel_rfl) rfl #[.agg #[.slice Ao33 x249000_2.length co33, .bool x249001_2], .slice Ao25 y250.length co25] (by rfl) rfl rfl (by (try simp only [List.map_toArray, List.map_cons, List.map_nil]); first | done | rfl | (simp only [List.length_drop, List.length_take]; rfl)) ?_
                  with_reducible refine (stream_Feed.calls _ _ x249000_2 x249001_2 _ _ y250 t255 t258 t259 t262 t263 t264 _ ?side1 ?side2 ?side3 ?side4 A29.out).mono ?_
                  (case side1 => repeat (first | exact (Kd.V_reads' HO_249000.out).2.2 | (with_reducible refine Kd.C_alloc ?_ _) | (with_reducible refine Kd.C_drewN ?_ _) | (with_reducible refine Kd.C_drew ?_)))
                  (case side2 => exact (Kd.V_reads' HO_249000.out).2.1)
                  (case side3 => repeat (first | exact (Kd.V_reads' HO254.out).2.2 | (with_reducible refine Kd.C_alloc ?_ _) | (with_reducible refine Kd.C_drewN ?_ _) | (with_reducible refine Kd.C_drew ?_)))
                  (case side4 => exact (Kd.V_reads' HO254.out).2.1)
                  rintro e w39 ⟨v256, v260, v265, rfl, ho0, ho1, ho2, hb⟩
                  refine ⟨_, rfl, ?_⟩
                  have n0_ := Aside0.mk (Kd.Q_below (by (with_reducible repeat (first | apply Kd.Q_alloc | apply Kd.Q_drewN | apply Kd.Q_drew)); exact HO_6.out) hb)
                  have n1_ := Aside0.mk (Kd.N_elder' (by (with_reducible repeat (first | apply Kd.N_alloc | apply Kd.N_drewN | apply Kd.N_drew)); exact HO_7.out) (Kd.N_base ho1) hb)
                  have n2_ := Aside0.mk (Kd.N_elder' (by (with_reducible repeat (first | apply Kd.N_alloc | apply Kd.N_drewN | apply Kd.N_drew)); exact HO_11.out) (Kd.N_base ho1) hb)
                  have n3_ := Aside0.mk (Kd.V_elder' (by (with_reducible repeat (first | apply Kd.V_alloc | apply Kd.V_drewN | apply Kd.V_drew)); exact HO_249000.out) (Kd.N_base ho1) hb)
                  have n4_ := Aside0.mk (Kd.V_elder' (by (with_reducible repeat (first | apply Kd.V_alloc | apply Kd.V_drewN | apply Kd.V_drew)); exact HO254.out) (Kd.N_base ho1) hb)
                  have n5_ := Aside0.mk (Kd.V_lower (Kd.V_mono (ok' := fun k_ => (P0_ k_ ∨ w.heap.size ≤ k_) ∧ some k_ ≠ (v260 : Value).ownBlock ∧ some k_ ≠ (.slice Ao25 x6_2.length co25 : Value).ownBlock ∧ some k_ ≠ (u7 : Value).ownBlock ∧ some k_ ≠ (u11 : Value).ownBlock ∧ k_ ≠ gb248 ∧ k_ ≠ gb267 ∧ k_ ≠ gb268) ho0 (fun k_ hk_ => ⟨(.inr (Nat.le_trans (below_size (by repeat (first | (with_reducible first | exact HB.out | apply bA | apply bN | apply bD | refine bS ?_ GE248.out | refine bS ?_ GE267.out | refine bS ?_ GE268.out) | exact HB.out))) hk_.1)), hk_.2, (Kd.fresh' (Kd.Q_lt (by (with_reducible repeat (first | apply Kd.Q_alloc | apply Kd.Q_drewN | apply Kd.Q_drew)); exact HO_6.out)) k_ hk_.1), (Kd.fresh' (Kd.N_lt (by (with_reducible repeat (first | apply Kd.N_alloc | apply Kd.N_drewN | apply Kd.N_drew)); exact HO_7.out)) k_ hk_.1), (Kd.fresh' (Kd.N_lt (by (with_reducible repeat (first | apply Kd.N_alloc | apply Kd.N_drewN | apply Kd.N_drew)); exact HO_11.out)) k_ hk_.1), (Kd.freshB (g := gb248) (o := .cells #[.slice Ao33 x249000_2.length co33, .bool x249001_2] 26 (0, 0)) (by (with_reducible repeat (first | refine kN ?_ _ | refine kD ?_ | refine kA ?_ _)); exact BK248.out) k_ hk_.1), (Kd.freshB (g := gb267) (o := .cells #[.slice none 0 0, .bool false] 26 (0, 0)) (by (with_reducible repeat (first | refine kN ?_ _ | refine kD ?_ | refine kA ?_ _)); exact BK267.out) k_ hk_.1), (Kd.freshB (g := gb268) (o := .cells #[.int .i64 0, .int .i64 0, .slice none 0 0] 29 (0, 0)) (by (with_reducible repeat (first | refine kN ?_ _ | refine kD ?_ | refine kA ?_ _)); exact BK268.out) k_ hk_.1)⟩)) (below_size (by repeat (first | (with_reducible first | exact HB.out | apply bA | apply bN | apply bD | refine bS ?_ GE248.out | refine bS ?_ GE267.out | refine bS ?_ GE268.out) | exact HB.out))))
                  have n6_ := Aside0.mk (Kd.N_lower (Kd.N_mono (ok' := fun k_ => (P0_ k_ ∨ w.heap.size ≤ k_) ∧ some k_ ≠ (.slice Ao25 x6_2.length co25 : Value).ownBlock ∧ some k_ ≠ (u7 : Value).ownBlock ∧ some k_ ≠ (u11 : Value).ownBlock ∧ k_ ≠ gb248 ∧ k_ ≠ gb267 ∧ k_ ≠ gb268) ho1 (fun k_ hk_ => ⟨(.inr (Nat.le_trans (below_size (by repeat (first | (with_reducible first | exact HB.out | apply bA | apply bN | apply bD | refine bS ?_ GE248.out | refine bS ?_ GE267.out | refine bS ?_ GE268.out) | exact HB.out))) hk_)), (Kd.fresh' (Kd.Q_lt (by (with_reducible repeat (first | apply Kd.Q_alloc | apply Kd.Q_drewN | apply Kd.Q_drew)); exact HO_6.out)) k_ hk_), (Kd.fresh' (Kd.N_lt (by (with_reducible repeat (first | apply Kd.N_alloc | apply Kd.N_drewN | apply Kd.N_drew)); exact HO_7.out)) k_ hk_), (Kd.fresh' (Kd.N_lt (by (with_reducible repeat (first | apply Kd.N_alloc | apply Kd.N_drewN | apply Kd.N_drew)); exact HO_11.out)) k_ hk_), (Kd.freshB (g := gb248) (o := .cells #[.slice Ao33 x249000_2.length co33, .bool x249001_2] 26 (0, 0)) (by (with_reducible repeat (first | refine kN ?_ _ | refine kD ?_ | refine kA ?_ _)); exact BK248.out) k_ hk_), (Kd.freshB (g := gb267) (o := .cells #[.slice none 0 0, .bool false] 26 (0, 0)) (by (with_reducible repeat (first | refine kN ?_ _ | refine kD ?_ | refine kA ?_ _)); exact BK267.out) k_ hk_), (Kd.freshB (g := gb268) (o := .cells #[.int .i64 0, .int .i64 0, .slice none 0 0] 29 (0, 0)) (by (with_reducible repeat (first | refine kN ?_ _ | refine kD ?_ | refine kA ?_ _)); exact BK268.out) k_ hk_)⟩)) (below_size (by repeat (first | (with_reducible first | exact HB.out | apply bA | apply bN | apply bD | refine bS ?_ GE248.out | refine bS ?_ GE267.out | refine bS ?_ GE268.out) | exact HB.out))))
                  have n7_ := Aside0.mk (Kd.V_lower (Kd.V_mono (ok' := fun k_ => (P0_ k_ ∨ w.heap.size ≤ k_) ∧ some k_ ≠ (v260 : Value).ownBlock ∧ some k_ ≠ (.slice Ao25 x6_2.length co25 : Value).ownBlock ∧ some k_ ≠ (u7 : Value).ownBlock ∧ some k_ ≠ (u11 : Value).ownBlock ∧ k_ ≠ gb248 ∧ k_ ≠ gb267 ∧ k_ ≠ gb268) ho2 (fun k_ hk_ => ⟨(.inr (Nat.le_trans (below_size (by repeat (first | (with_reducible first | exact HB.out | apply bA | apply bN | apply bD | refine bS ?_ GE248.out | refine bS ?_ GE267.out | refine bS ?_ GE268.out) | exact HB.out))) hk_.1)), hk_.2, (Kd.fresh' (Kd.Q_lt (by (with_reducible repeat (first | apply Kd.Q_alloc | apply Kd.Q_drewN | apply Kd.Q_drew)); exact HO_6.out)) k_ hk_.1), (Kd.fresh' (Kd.N_lt (by (with_reducible repeat (first | apply Kd.N_alloc | apply Kd.N_drewN | apply Kd.N_drew)); exact HO_7.out)) k_ hk_.1), (Kd.fresh' (Kd.N_lt (by (with_reducible repeat (first | apply Kd.N_alloc | apply Kd.N_drewN | apply Kd.N_drew)); exact HO_11.out)) k_ hk_.1), (Kd.freshB (g := gb248) (o := .cells #[.slice Ao33 x249000_2.length co33, .bool x249001_2] 26 (0, 0)) (by (with_reducible repeat (first | refine kN ?_ _ | refine kD ?_ | refine kA ?_ _)); exact BK248.out) k_ hk_.1), (Kd.freshB (g := gb267) (o := .cells #[.slice none 0 0, .bool false] 26 (0, 0)) (by (with_reducible repeat (first | refine kN ?_ _ | refine kD ?_ | refine kA ?_ _)); exact BK267.out) k_ hk_.1), (Kd.freshB (g := gb268) (o := .cells #[.int .i64 0, .int .i64 0, .slice none 0 0] 29 (0, 0)) (by (with_reducible repeat (first | refine kN ?_ _ | refine kD ?_ | refine kA ?_ _)); exact BK268.out) k_ hk_.1)⟩)) (below_size (by repeat (first | (with_reducible first | exact HB.out | apply bA | apply bN | apply bD | refine bS ?_ GE248.out | refine bS ?_ GE267.out | refine bS ?_ GE268.out) | exact HB.out))))
                  have n8_ := Aside0.mk (blk_below (g := gb248) (o := .cells #[.slice Ao33 x249000_2.length co33, .bool x249001_2] 26 (0, 0)) (by (with_reducible repeat (first | refine kN ?_ _ | refine kD ?_ | refine kA ?_ _)); exact BK248.out) hb)
                  have n9_ := Aside0.mk (blk_below (g := gb267) (o := .cells #[.slice none 0 0, .bool false] 26 (0, 0)) (by (with_reducible repeat (first | refine kN ?_ _ | refine kD ?_ | refine kA ?_ _)); exact BK267.out) hb)
                  have n10_ := Aside0.mk (blk_below (g := gb268) (o := .cells #[.int .i64 0, .int .i64 0, .slice none 0 0] 29 (0, 0)) (by (with_reducible repeat (first | refine kN ?_ _ | refine kD ?_ | refine kA ?_ _)); exact BK268.out) hb)
                  have n11_ := Aside0.mk (below_step (by repeat (first | (with_reducible first | exact HB.out | apply bA | apply bN | apply bD | refine bS ?_ GE248.out | refine bS ?_ GE267.out | refine bS ?_ GE268.out) | exact HB.out)) hb)
                  clear HO_6
                  clear HO_7
                  clear HO_11
                  clear HO_249000
                  clear HO254
                  clear BK248
                  clear BK267
                  clear BK268
                  clear HB
                  have HO_6 := n0_
                  have HO_7 := n1_
                  have HO_11 := n2_
                  have HO_249000 := n3_
                  have HO254 := n4_
                  have HO257 := n5_
                  have HO261 := n6_
                  have HO266 := n7_
                  have BK248 := n8_
                  have BK267 := n9_
                  have BK268 := n10_
                  have HB := n11_
                  clear n0_ n1_ n2_ n3_ n4_ n5_ n6_ n7_ n8_ n9_ n10_ n11_
                  (try clear hb)
                  (try clear hb2)
                  (try clear hk)
                  (try clear hi)
                  (try clear ho0)
                  (try clear ho1)
                  (try clear ho2)
                  refine hK.out _ _ ⟨(blk_cell BK248.out 0).trans rfl, (blk_cell BK248.out 1).trans rfl⟩ (fun hHeld => ?_)
                  clear hK K
                  refine norm_ (a' := ?_) ?_ ?_
                  rotate_left
                  ·
                   show Act.put _ (some 64) _ = _
                   simp only [Act.put, sA, sB, sC, i64_w, i32_w]
                   rfl
                  refine pure_ (i := 5) (N := some 59) (v := ?_) (a' := ?_) #[true, true, true, true, true, true, false, false, false, true, true, false, false, false] rfl rfl (any_of HT_.out (by kernel_rfl)) (fun _ _ _ h => h) (Or.inl ⟨by rfl, ?_⟩) ?_ ?_
                  rotate_left
                  ·
                   intro w'
                   go_simp
                   with_reducible rfl
                  rotate_left
                  ·
                   simp only [Act.put, sA, sB, sC, i64_w, i32_w]
                   rfl
                  refine pure_ (i := 6) (N := some 65) (v := ?_) (a' := ?_) #[true, true, true, true, true, true, true, false, false, true, true, false, false, false] rfl rfl (any_of HT_.out (by kernel_rfl)) (fun _ _ _ h => h) (Or.inl ⟨by rfl, ?_⟩) ?_ ?_
                  rotate_left
                  ·
                   intro w'
                   go_simp
                   with_reducible rfl
                  rotate_left
                  ·
                   simp only [Act.put, sA, sB, sC, i64_w, i32_w]
                   rfl
                  refine pure_ (i := 7) (N := some 66) (v := ?_) (a' := ?_) #[true, true, true, true, true, true, true, true, false, true, true, false, false, false] rfl rfl (any_of HT_.out (by kernel_rfl)) (fun _ _ _ h => h) (Or.inl ⟨by rfl, ?_⟩) ?_ ?_
                  rotate_left
                  ·
                   intro w'
                   go_simp
                   with_reducible rfl
                  rotate_left
                  ·
                   simp only [Act.put, sA, sB, sC, i64_w, i32_w]
                   rfl
                  refine pure_ (i := 8) (N := some 67) (v := ?_) (a' := ?_) #[true, true, true, true, true, true, true, true, true, true, true, false, false, false] rfl rfl (any_of HT_.out (by kernel_rfl)) (fun _ _ _ h => h) (Or.inl ⟨by rfl, ?_⟩) ?_ ?_
                  rotate_left
                  ·
                   intro w'
                   go_simp
                   with_reducible rfl
                  rotate_left
                  ·
                   simp only [Act.put, sA, sB, sC, i64_w, i32_w]
                   rfl
                  exact norm_ (by first | (simp only [putAll, Act.put, sA, sB, sC]; done) | (simp only [putAll, Act.put, sA, sB, sC]; rfl)) (hJ4_9_10 (v256, v260, v265, gb267, gb268) _ ⟨hHeld, (by (with_reducible repeat (first | apply Kd.V_alloc | apply Kd.V_drewN | apply Kd.V_drew)); exact Kd.V_mono HO254.out (fun _ hk => ⟨hk.1.1, ⟨hk.2, ⟨hk.1.2.1, ⟨hk.1.2.2.1, ⟨hk.1.2.2.2.1, ⟨hk.1.2.2.2.2.1, hk.1.2.2.2.2.2⟩⟩⟩⟩⟩⟩)), (by (with_reducible repeat (first | apply Kd.V_alloc | apply Kd.V_drewN | apply Kd.V_drew)); exact Kd.V_mono HO257.out (fun _ hk => ⟨hk.1, ⟨hk.2.1, ⟨hk.2.2.2.2.1, ⟨hk.2.2.1, ⟨hk.2.2.2.1, ⟨hk.2.2.2.2.2.1, ⟨hk.2.2.2.2.2.2.1, hk.2.2.2.2.2.2.2⟩⟩⟩⟩⟩⟩⟩)), (by (with_reducible repeat (first | apply Kd.N_alloc | apply Kd.N_drewN | apply Kd.N_drew)); exact Kd.N_mono HO261.out (fun _ hk => ⟨hk.1, ⟨hk.2.2.2.1, ⟨hk.2.1, ⟨hk.2.2.1, ⟨hk.2.2.2.2.1, ⟨hk.2.2.2.2.2.1, hk.2.2.2.2.2.2⟩⟩⟩⟩⟩⟩)), (by (with_reducible repeat (first | apply Kd.V_alloc | apply Kd.V_drewN | apply Kd.V_drew)); exact Kd.V_mono HO266.out (fun _ hk => ⟨hk.1, ⟨hk.2.1, ⟨hk.2.2.2.2.1, ⟨hk.2.2.1, ⟨hk.2.2.2.1, ⟨hk.2.2.2.2.2.1, ⟨hk.2.2.2.2.2.2.1, hk.2.2.2.2.2.2.2⟩⟩⟩⟩⟩⟩⟩)), (by (with_reducible repeat (first | apply Kd.N_alloc | apply Kd.N_drewN | apply Kd.N_drew)); exact Kd.N_mono HO_11.out (fun _ hk => ⟨hk.1.1, ⟨hk.2, ⟨hk.1.2.1, ⟨hk.1.2.2.1, ⟨hk.1.2.2.2.1, ⟨hk.1.2.2.2.2.1, hk.1.2.2.2.2.2⟩⟩⟩⟩⟩⟩)), (by (with_reducible repeat (first | apply Kd.V_alloc | apply Kd.V_drewN | apply Kd.V_drew)); exact Kd.V_mono HO_249000.out (fun _ hk => ⟨hk.1.1, ⟨hk.2, ⟨hk.1.2.1, ⟨hk.1.2.2.1, ⟨hk.1.2.2.2.1, ⟨hk.1.2.2.2.2.1, ⟨hk.1.2.2.2.2.2.1, hk.1.2.2.2.2.2.2⟩⟩⟩⟩⟩⟩⟩)), (by (with_reducible repeat (first | apply Kd.Q_alloc | apply Kd.Q_drewN | apply Kd.Q_drew)); exact HO_6.out), (by (with_reducible repeat (first | apply Kd.N_alloc | apply Kd.N_drewN | apply Kd.N_drew)); exact Kd.N_mono HO_7.out (fun _ hk => ⟨hk.1.1, ⟨hk.2, ⟨hk.1.2.1, ⟨hk.1.2.2.1, ⟨hk.1.2.2.2.1, ⟨hk.1.2.2.2.2.1, hk.1.2.2.2.2.2⟩⟩⟩⟩⟩⟩)), (by (with_reducible repeat (first | refine kN ?_ _ | refine kD ?_ | refine kA ?_ _)); exact BK248.out), (by (with_reducible repeat (first | refine kN ?_ _ | refine kD ?_ | refine kA ?_ _)); exact BK267.out), (by (with_reducible repeat (first | refine kN ?_ _ | refine kD ?_ | refine kA ?_ _)); exact BK268.out), GW267.out, GE267.out, NB248_267.out, NB267_248.out, NB268_267.out, NB267_268.out, GW268.out, GE268.out, NB248_268.out, NB268_248.out, (by repeat (first | (with_reducible first | exact HB.out | apply bA | apply bN | apply bD | refine bS ?_ GE248.out | refine bS ?_ GE267.out | refine bS ?_ GE268.out) | exact HB.out))⟩)
                ·
                 skip
                 rintro ⟨v256, v260, v265, gb268⟩ w38 ⟨hS_, h0_, h1_, h2_, h3_, h4_, h5_, h6_, h7_, h8_, h9_, h10_, h11_, h12_, h13_, h14_⟩
                 have n0_ : Aside0 (Kd.V (Kd.int .u8) 5 w38 w.heap.size (fun k_ => (P0_ k_ ∨ w.heap.size ≤ k_) ∧ some k_ ≠ (v260 : Value).ownBlock ∧ some k_ ≠ (u11 : Value).ownBlock ∧ some k_ ≠ (u7 : Value).ownBlock ∧ k_ ≠ gb248 ∧ k_ ≠ gb268) (.slice Ao25 y250.length co25) y250) := ⟨h0_⟩
                 have n1_ : Aside0 (Kd.V (Kd.int .u8) 5 w38 w.heap.size (fun k_ => (P0_ k_ ∨ w.heap.size ≤ k_) ∧ some k_ ≠ (v260 : Value).ownBlock ∧ some k_ ≠ (u11 : Value).ownBlock ∧ some k_ ≠ (.slice Ao25 x6_2.length co25 : Value).ownBlock ∧ some k_ ≠ (u7 : Value).ownBlock ∧ k_ ≠ gb248 ∧ k_ ≠ gb268) v256 t255) := ⟨h1_⟩
                 have n2_ : Aside0 (Kd.N k43 43 w38 w.heap.size (fun k_ => (P0_ k_ ∨ w.heap.size ≤ k_) ∧ some k_ ≠ (u11 : Value).ownBlock ∧ some k_ ≠ (.slice Ao25 x6_2.length co25 : Value).ownBlock ∧ some k_ ≠ (u7 : Value).ownBlock ∧ k_ ≠ gb248 ∧ k_ ≠ gb268) v260 t259) := ⟨h2_⟩
                 have n3_ : Aside0 (Kd.V (Kd.int .u8) 5 w38 w.heap.size (fun k_ => (P0_ k_ ∨ w.heap.size ≤ k_) ∧ some k_ ≠ (v260 : Value).ownBlock ∧ some k_ ≠ (u11 : Value).ownBlock ∧ some k_ ≠ (.slice Ao25 x6_2.length co25 : Value).ownBlock ∧ some k_ ≠ (u7 : Value).ownBlock ∧ k_ ≠ gb248 ∧ k_ ≠ gb268) v265 t264) := ⟨h3_⟩
                 have n4_ : Aside0 (Kd.N k43 43 w38 w.heap.size (fun k_ => (P0_ k_ ∨ w.heap.size ≤ k_) ∧ some k_ ≠ (v260 : Value).ownBlock ∧ some k_ ≠ (.slice Ao25 x6_2.length co25 : Value).ownBlock ∧ some k_ ≠ (u7 : Value).ownBlock ∧ k_ ≠ gb248 ∧ k_ ≠ gb268) u11 x11_2) := ⟨h4_⟩
                 have n5_ : Aside0 (Kd.V (Kd.int .u8) 5 w38 w.heap.size (fun k_ => (P0_ k_ ∨ w.heap.size ≤ k_) ∧ some k_ ≠ (v260 : Value).ownBlock ∧ some k_ ≠ (u11 : Value).ownBlock ∧ some k_ ≠ (.slice Ao25 x6_2.length co25 : Value).ownBlock ∧ some k_ ≠ (u7 : Value).ownBlock ∧ k_ ≠ gb248 ∧ k_ ≠ gb268) (.slice Ao33 x249000_2.length co33) x249000_2) := ⟨h5_⟩
                 have n6_ : Aside0 (Kd.Q (Kd.int .u8) 5 w38 w.heap.size (fun k_ => (w.heap.size ≤ k_)) (.slice Ao25 x6_2.length co25) x6_2) := ⟨h6_⟩
                 have n7_ : Aside0 (Kd.N k43 43 w38 w.heap.size (fun k_ => (P0_ k_ ∨ w.heap.size ≤ k_) ∧ some k_ ≠ (v260 : Value).ownBlock ∧ some k_ ≠ (u11 : Value).ownBlock ∧ some k_ ≠ (.slice Ao25 x6_2.length co25 : Value).ownBlock ∧ k_ ≠ gb248 ∧ k_ ≠ gb268) u7 x7_1) := ⟨h7_⟩
                 have n8_ : Aside0 (w38.heap[gb248]? = some (.cells #[.slice Ao33 x249000_2.length co33, .bool x249001_2] 26 (0, 0))) := ⟨h8_⟩
                 have n9_ : Aside0 (w38.heap[gb268]? = some (.cells #[.int .i64 0, .int .i64 0, .slice none 0 0] 29 (0, 0))) := ⟨h9_⟩
                 have n10_ : Aside0 (w.heap.size ≤ gb268) := ⟨h10_⟩
                 have n11_ : Aside0 (w.heap.size ≤ gb268) := ⟨h11_⟩
                 have n12_ : Aside0 (gb248 ≠ gb268) := ⟨h12_⟩
                 have n13_ : Aside0 (gb268 ≠ gb248) := ⟨h13_⟩
                 have n14_ : Aside0 (Below w.heap.size w w38) := ⟨h14_⟩
                 clear HO_6
                 clear HO_7
                 clear HO_11
                 clear HO_249000
                 clear BK248
                 clear HB
                 clear h0_ h1_ h2_ h3_ h4_ h5_ h6_ h7_ h8_ h9_ h10_ h11_ h12_ h13_ h14_
                 have HO254 := n0_
                 have HO257 := n1_
                 have HO261 := n2_
                 have HO266 := n3_
                 have HO_11 := n4_
                 have HO_249000 := n5_
                 have HO_6 := n6_
                 have HO_7 := n7_
                 have BK248 := n8_
                 have BK268 := n9_
                 have GW268 := n10_
                 have GE268 := n11_
                 have NB248_268 := n12_
                 have NB268_248 := n13_
                 have HB := n14_
                 clear n0_ n1_ n2_ n3_ n4_ n5_ n6_ n7_ n8_ n9_ n10_ n11_ n12_ n13_ n14_
                 have hHeld : w38.cell? ⟨gb248, 0, none⟩ = some (.slice Ao33 x249000_2.length co33) ∧ w38.cell? ⟨gb248, 1, none⟩ = some (.bool x249001_2) := hS_
                 refine norm_ (a' := ?_) ?_ ?_
                 rotate_left
                 ·
                  simp only [putAll, Act.put, sA, sB, sC]
                  rfl
                 refine one_ (i := 9) (N := some 13) #[true, true, true, true, true, true, true, true, true, true, true, false, false, false] rfl rfl (one_of HT_.out (by kernel_rfl)) (by decide) (fun K hK => ?_)
                 refine box_step ?hg (N := 13) ?hd (cs := #[.slice none 0 0, .bool false]) (t := 26) ?hr ?_; (case hd => rfl); (case hg => rfl); (case hr => first | (go_simp; done) | (go_simp; rfl))
                 intro gb267 hg w39 hbox hb
                 have n0_ := Aside0.mk (Kd.Q_below (by (with_reducible repeat (first | apply Kd.Q_alloc | apply Kd.Q_drewN | apply Kd.Q_drew)); exact HO_6.out) hb)
                 have n1_ := Aside0.mk (Kd.N_below (Kd.N_elderB (by (with_reducible repeat (first | apply Kd.N_alloc | apply Kd.N_drewN | apply Kd.N_drew)); exact HO_7.out) gb267 (Nat.le_of_eq hg.symm)) hb)
                 have n2_ := Aside0.mk (Kd.N_below (Kd.N_elderB (by (with_reducible repeat (first | apply Kd.N_alloc | apply Kd.N_drewN | apply Kd.N_drew)); exact HO_11.out) gb267 (Nat.le_of_eq hg.symm)) hb)
                 have n3_ := Aside0.mk (Kd.V_below (Kd.V_elderB (by (with_reducible repeat (first | apply Kd.V_alloc | apply Kd.V_drewN | apply Kd.V_drew)); exact HO_249000.out) gb267 (Nat.le_of_eq hg.symm)) hb)
                 have n4_ := Aside0.mk (Kd.V_below (Kd.V_elderB (by (with_reducible repeat (first | apply Kd.V_alloc | apply Kd.V_drewN | apply Kd.V_drew)); exact HO254.out) gb267 (Nat.le_of_eq hg.symm)) hb)
                 have n5_ := Aside0.mk (Kd.V_below (Kd.V_elderB (by (with_reducible repeat (first | apply Kd.V_alloc | apply Kd.V_drewN | apply Kd.V_drew)); exact HO257.out) gb267 (Nat.le_of_eq hg.symm)) hb)
                 have n6_ := Aside0.mk (Kd.N_below (Kd.N_elderB (by (with_reducible repeat (first | apply Kd.N_alloc | apply Kd.N_drewN | apply Kd.N_drew)); exact HO261.out) gb267 (Nat.le_of_eq hg.symm)) hb)
                 have n7_ := Aside0.mk (Kd.V_below (Kd.V_elderB (by (with_reducible repeat (first | apply Kd.V_alloc | apply Kd.V_drewN | apply Kd.V_drew)); exact HO266.out) gb267 (Nat.le_of_eq hg.symm)) hb)
                 have n8_ := Aside0.mk (blk_below (g := gb248) (o := .cells #[.slice Ao33 x249000_2.length co33, .bool x249001_2] 26 (0, 0)) (by (with_reducible repeat (first | refine kN ?_ _ | refine kD ?_ | refine kA ?_ _)); exact BK248.out) hb)
                 have n9_ := Aside0.mk (blk_below (g := gb268) (o := .cells #[.int .i64 0, .int .i64 0, .slice none 0 0] 29 (0, 0)) (by (with_reducible repeat (first | refine kN ?_ _ | refine kD ?_ | refine kA ?_ _)); exact BK268.out) hb)
                 have n10_ := Aside0.mk (below_step (by repeat (first | (with_reducible first | exact HB.out | apply bA | apply bN | apply bD | refine bS ?_ GE248.out | refine bS ?_ GE268.out) | exact HB.out)) hb)
                 have n11_ := Aside0.mk (hbox)
                 have n12_ := Aside0.mk ((by rw [hg]; exact (below_size (by repeat (first | (with_reducible first | exact HB.out | apply bA | apply bN | apply bD | refine bS ?_ GE248.out | refine bS ?_ GE268.out) | exact HB.out))) : w.heap.size ≤ gb267))
                 have n13_ := Aside0.mk ((by rw [hg]; exact (below_size (by repeat (first | (with_reducible first | exact HB.out | apply bA | apply bN | apply bD | refine bS ?_ GE248.out | refine bS ?_ GE268.out) | exact HB.out))) : w.heap.size ≤ gb267))
                 have n14_ := Aside0.mk ((by rw [hg]; exact Nat.ne_of_lt (blk_lt (g := gb248) (o := .cells #[.slice Ao33 x249000_2.length co33, .bool x249001_2] 26 (0, 0)) (by (with_reducible repeat (first | refine kN ?_ _ | refine kD ?_ | refine kA ?_ _)); exact BK248.out)) : gb248 ≠ gb267))
                 have n15_ := Aside0.mk ((by rw [hg]; exact Nat.ne_of_gt (blk_lt (g := gb248) (o := .cells #[.slice Ao33 x249000_2.length co33, .bool x249001_2] 26 (0, 0)) (by (with_reducible repeat (first | refine kN ?_ _ | refine kD ?_ | refine kA ?_ _)); exact BK248.out)) : gb267 ≠ gb248))
                 have n16_ := Aside0.mk ((by rw [hg]; exact Nat.ne_of_lt (blk_lt (g := gb268) (o := .cells #[.int .i64 0, .int .i64 0, .slice none 0 0] 29 (0, 0)) (by (with_reducible repeat (first | refine kN ?_ _ | refine kD ?_ | refine kA ?_ _)); exact BK268.out)) : gb268 ≠ gb267))
                 have n17_ := Aside0.mk ((by rw [hg]; exact Nat.ne_of_gt (blk_lt (g := gb268) (o := .cells #[.int .i64 0, .int .i64 0, .slice none 0 0] 29 (0, 0)) (by (with_reducible repeat (first | refine kN ?_ _ | refine kD ?_ | refine kA ?_ _)); exact BK268.out)) : gb267 ≠ gb268))
                 clear HO_6
                 clear HO_7
                 clear HO_11
                 clear HO_249000
                 clear HO254
                 clear HO257
                 clear HO261
                 clear HO266
                 clear BK248
                 clear BK268
                 clear HB
                 have HO_6 := n0_
                 have HO_7 := n1_
                 have HO_11 := n2_
                 have HO_249000 := n3_
                 have HO254 := n4_
                 have HO257 := n5_
                 have HO261 := n6_
                 have HO266 := n7_
                 have BK248 := n8_
                 have BK268 := n9_
                 have HB := n10_
                 have BK267 := n11_
                 have GW267 := n12_
                 have GE267 := n13_
                 have NB248_267 := n14_
                 have NB267_248 := n15_
                 have NB268_267 := n16_
                 have NB267_268 := n17_
                 clear n0_ n1_ n2_ n3_ n4_ n5_ n6_ n7_ n8_ n9_ n10_ n11_ n12_ n13_ n14_ n15_ n16_ n17_
                 clear hb hbox hg
                 refine hK.out _ _ ⟨(blk_cell BK248.out 0).trans rfl, (blk_cell BK248.out 1).trans rfl⟩ (fun hHeld => ?_)
                 clear hK K
                 refine norm_ (a' := ?_) ?_ ?_
                 rotate_left
                 ·
                  show Act.put _ (some 13) _ = _
                  simp only [Act.put, sA, sB, sC, i64_w, i32_w]
                  rfl
                 exact norm_ (by first | (simp only [putAll, Act.put, sA, sB, sC]; done) | (simp only [putAll, Act.put, sA, sB, sC]; rfl)) (hJ4_9_10 (v256, v260, v265, gb267, gb268) _ ⟨hHeld, (by (with_reducible repeat (first | apply Kd.V_alloc | apply Kd.V_drewN | apply Kd.V_drew)); exact Kd.V_mono HO254.out (fun _ hk => ⟨hk.1.1, ⟨hk.1.2.1, ⟨hk.1.2.2.1, ⟨hk.1.2.2.2.1, ⟨hk.1.2.2.2.2.1, ⟨hk.2, hk.1.2.2.2.2.2⟩⟩⟩⟩⟩⟩)), (by (with_reducible repeat (first | apply Kd.V_alloc | apply Kd.V_drewN | apply Kd.V_drew)); exact Kd.V_mono HO257.out (fun _ hk => ⟨hk.1.1, ⟨hk.1.2.1, ⟨hk.1.2.2.1, ⟨hk.1.2.2.2.1, ⟨hk.1.2.2.2.2.1, ⟨hk.1.2.2.2.2.2.1, ⟨hk.2, hk.1.2.2.2.2.2.2⟩⟩⟩⟩⟩⟩⟩)), (by (with_reducible repeat (first | apply Kd.N_alloc | apply Kd.N_drewN | apply Kd.N_drew)); exact Kd.N_mono HO261.out (fun _ hk => ⟨hk.1.1, ⟨hk.1.2.1, ⟨hk.1.2.2.1, ⟨hk.1.2.2.2.1, ⟨hk.1.2.2.2.2.1, ⟨hk.2, hk.1.2.2.2.2.2⟩⟩⟩⟩⟩⟩)), (by (with_reducible repeat (first | apply Kd.V_alloc | apply Kd.V_drewN | apply Kd.V_drew)); exact Kd.V_mono HO266.out (fun _ hk => ⟨hk.1.1, ⟨hk.1.2.1, ⟨hk.1.2.2.1, ⟨hk.1.2.2.2.1, ⟨hk.1.2.2.2.2.1, ⟨hk.1.2.2.2.2.2.1, ⟨hk.2, hk.1.2.2.2.2.2.2⟩⟩⟩⟩⟩⟩⟩)), (by (with_reducible repeat (first | apply Kd.N_alloc | apply Kd.N_drewN | apply Kd.N_drew)); exact Kd.N_mono HO_11.out (fun _ hk => ⟨hk.1.1, ⟨hk.1.2.1, ⟨hk.1.2.2.1, ⟨hk.1.2.2.2.1, ⟨hk.1.2.2.2.2.1, ⟨hk.2, hk.1.2.2.2.2.2⟩⟩⟩⟩⟩⟩)), (by (with_reducible repeat (first | apply Kd.V_alloc | apply Kd.V_drewN | apply Kd.V_drew)); exact Kd.V_mono HO_249000.out (fun _ hk => ⟨hk.1.1, ⟨hk.1.2.1, ⟨hk.1.2.2.1, ⟨hk.1.2.2.2.1, ⟨hk.1.2.2.2.2.1, ⟨hk.1.2.2.2.2.2.1, ⟨hk.2, hk.1.2.2.2.2.2.2⟩⟩⟩⟩⟩⟩⟩)), (by (with_reducible repeat (first | apply Kd.Q_alloc | apply Kd.Q_drewN | apply Kd.Q_drew)); exact HO_6.out), (by (with_reducible repeat (first | apply Kd.N_alloc | apply Kd.N_drewN | apply Kd.N_drew)); exact Kd.N_mono HO_7.out (fun _ hk => ⟨hk.1.1, ⟨hk.1.2.1, ⟨hk.1.2.2.1, ⟨hk.1.2.2.2.1, ⟨hk.1.2.2.2.2.1, ⟨hk.2, hk.1.2.2.2.2.2⟩⟩⟩⟩⟩⟩)), (by (with_reducible repeat (first | refine kN ?_ _ | refine kD ?_ | refine kA ?_ _)); exact BK248.out), (by (with_reducible repeat (first | refine kN ?_ _ | refine kD ?_ | refine kA ?_ _)); exact BK267.out), (by (with_reducible repeat (first | refine kN ?_ _ | refine kD ?_ | refine kA ?_ _)); exact BK268.out), GW267.out, GE267.out, NB248_267.out, NB267_248.out, NB268_267.out, NB267_268.out, GW268.out, GE268.out, NB248_268.out, NB268_248.out, (by repeat (first | (with_reducible first | exact HB.out | apply bA | apply bN | apply bD | refine bS ?_ GE248.out | refine bS ?_ GE268.out | refine bS ?_ GE267.out) | exact HB.out))⟩)
               ·
                skip
                rintro ⟨v256, v260, v265, gb267⟩ w38 ⟨hS_, h0_, h1_, h2_, h3_, h4_, h5_, h6_, h7_, h8_, h9_, h10_, h11_, h12_, h13_, h14_⟩
                have n0_ : Aside0 (Kd.V (Kd.int .u8) 5 w38 w.heap.size (fun k_ => (P0_ k_ ∨ w.heap.size ≤ k_) ∧ some k_ ≠ (v260 : Value).ownBlock ∧ some k_ ≠ (u11 : Value).ownBlock ∧ some k_ ≠ (u7 : Value).ownBlock ∧ k_ ≠ gb248 ∧ k_ ≠ gb267) (.slice Ao25 y250.length co25) y250) := ⟨h0_⟩
                have n1_ : Aside0 (Kd.V (Kd.int .u8) 5 w38 w.heap.size (fun k_ => (P0_ k_ ∨ w.heap.size ≤ k_) ∧ some k_ ≠ (v260 : Value).ownBlock ∧ some k_ ≠ (u11 : Value).ownBlock ∧ some k_ ≠ (.slice Ao25 x6_2.length co25 : Value).ownBlock ∧ some k_ ≠ (u7 : Value).ownBlock ∧ k_ ≠ gb248 ∧ k_ ≠ gb267) v256 t255) := ⟨h1_⟩
                have n2_ : Aside0 (Kd.N k43 43 w38 w.heap.size (fun k_ => (P0_ k_ ∨ w.heap.size ≤ k_) ∧ some k_ ≠ (u11 : Value).ownBlock ∧ some k_ ≠ (.slice Ao25 x6_2.length co25 : Value).ownBlock ∧ some k_ ≠ (u7 : Value).ownBlock ∧ k_ ≠ gb248 ∧ k_ ≠ gb267) v260 t259) := ⟨h2_⟩
                have n3_ : Aside0 (Kd.V (Kd.int .u8) 5 w38 w.heap.size (fun k_ => (P0_ k_ ∨ w.heap.size ≤ k_) ∧ some k_ ≠ (v260 : Value).ownBlock ∧ some k_ ≠ (u11 : Value).ownBlock ∧ some k_ ≠ (.slice Ao25 x6_2.length co25 : Value).ownBlock ∧ some k_ ≠ (u7 : Value).ownBlock ∧ k_ ≠ gb248 ∧ k_ ≠ gb267) v265 t264) := ⟨h3_⟩
                have n4_ : Aside0 (Kd.N k43 43 w38 w.heap.size (fun k_ => (P0_ k_ ∨ w.heap.size ≤ k_) ∧ some k_ ≠ (v260 : Value).ownBlock ∧ some k_ ≠ (.slice Ao25 x6_2.length co25 : Value).ownBlock ∧ some k_ ≠ (u7 : Value).ownBlock ∧ k_ ≠ gb248 ∧ k_ ≠ gb267) u11 x11_2) := ⟨h4_⟩
                have n5_ : Aside0 (Kd.V (Kd.int .u8) 5 w38 w.heap.size (fun k_ => (P0_ k_ ∨ w.heap.size ≤ k_) ∧ some k_ ≠ (v260 : Value).ownBlock ∧ some k_ ≠ (u11 : Value).ownBlock ∧ some k_ ≠ (.slice Ao25 x6_2.length co25 : Value).ownBlock ∧ some k_ ≠ (u7 : Value).ownBlock ∧ k_ ≠ gb248 ∧ k_ ≠ gb267) (.slice Ao33 x249000_2.length co33) x249000_2) := ⟨h5_⟩
                have n6_ : Aside0 (Kd.Q (Kd.int .u8) 5 w38 w.heap.size (fun k_ => (w.heap.size ≤ k_)) (.slice Ao25 x6_2.length co25) x6_2) := ⟨h6_⟩
                have n7_ : Aside0 (Kd.N k43 43 w38 w.heap.size (fun k_ => (P0_ k_ ∨ w.heap.size ≤ k_) ∧ some k_ ≠ (v260 : Value).ownBlock ∧ some k_ ≠ (u11 : Value).ownBlock ∧ some k_ ≠ (.slice Ao25 x6_2.length co25 : Value).ownBlock ∧ k_ ≠ gb248 ∧ k_ ≠ gb267) u7 x7_1) := ⟨h7_⟩
                have n8_ : Aside0 (w38.heap[gb248]? = some (.cells #[.slice Ao33 x249000_2.length co33, .bool x249001_2] 26 (0, 0))) := ⟨h8_⟩
                have n9_ : Aside0 (w38.heap[gb267]? = some (.cells #[.slice none 0 0, .bool false] 26 (0, 0))) := ⟨h9_⟩
                have n10_ : Aside0 (w.heap.size ≤ gb267) := ⟨h10_⟩
                have n11_ : Aside0 (w.heap.size ≤ gb267) := ⟨h11_⟩
                have n12_ : Aside0 (gb248 ≠ gb267) := ⟨h12_⟩
                have n13_ : Aside0 (gb267 ≠ gb248) := ⟨h13_⟩
                have n14_ : Aside0 (Below w.heap.size w w38) := ⟨h14_⟩
                clear HO_6
                clear HO_7
                clear HO_11
                clear HO_249000
                clear BK248
                clear HB
                clear h0_ h1_ h2_ h3_ h4_ h5_ h6_ h7_ h8_ h9_ h10_ h11_ h12_ h13_ h14_
                have HO254 := n0_
                have HO257 := n1_
                have HO261 := n2_
                have HO266 := n3_
                have HO_11 := n4_
                have HO_249000 := n5_
                have HO_6 := n6_
                have HO_7 := n7_
                have BK248 := n8_
                have BK267 := n9_
                have GW267 := n10_
                have GE267 := n11_
                have NB248_267 := n12_
                have NB267_248 := n13_
                have HB := n14_
                clear n0_ n1_ n2_ n3_ n4_ n5_ n6_ n7_ n8_ n9_ n10_ n11_ n12_ n13_ n14_
                have hHeld : w38.cell? ⟨gb248, 0, none⟩ = some (.slice Ao33 x249000_2.length co33) ∧ w38.cell? ⟨gb248, 1, none⟩ = some (.bool x249001_2) := hS_
                refine norm_ (a' := ?_) ?_ ?_
                rotate_left
                ·
                 simp only [putAll, Act.put, sA, sB, sC]
                 rfl
                refine one_ (i := 10) (N := some 15) #[true, true, true, true, true, true, true, true, true, true, true, false, false, false] rfl rfl (one_of HT_.out (by kernel_rfl)) (by decide) (fun K hK => ?_)
                refine box_step ?hg (N := 15) ?hd (cs := #[.int .i64 0, .int .i64 0, .slice none 0 0]) (t := 29) ?hr ?_; (case hd => rfl); (case hg => rfl); (case hr => first | (go_simp; done) | (go_simp; rfl))
                intro gb268 hg w39 hbox hb
                have n0_ := Aside0.mk (Kd.Q_below (by (with_reducible repeat (first | apply Kd.Q_alloc | apply Kd.Q_drewN | apply Kd.Q_drew)); exact HO_6.out) hb)
                have n1_ := Aside0.mk (Kd.N_below (Kd.N_elderB (by (with_reducible repeat (first | apply Kd.N_alloc | apply Kd.N_drewN | apply Kd.N_drew)); exact HO_7.out) gb268 (Nat.le_of_eq hg.symm)) hb)
                have n2_ := Aside0.mk (Kd.N_below (Kd.N_elderB (by (with_reducible repeat (first | apply Kd.N_alloc | apply Kd.N_drewN | apply Kd.N_drew)); exact HO_11.out) gb268 (Nat.le_of_eq hg.symm)) hb)
                have n3_ := Aside0.mk (Kd.V_below (Kd.V_elderB (by (with_reducible repeat (first | apply Kd.V_alloc | apply Kd.V_drewN | apply Kd.V_drew)); exact HO_249000.out) gb268 (Nat.le_of_eq hg.symm)) hb)
                have n4_ := Aside0.mk (Kd.V_below (Kd.V_elderB (by (with_reducible repeat (first | apply Kd.V_alloc | apply Kd.V_drewN | apply Kd.V_drew)); exact HO254.out) gb268 (Nat.le_of_eq hg.symm)) hb)
                have n5_ := Aside0.mk (Kd.V_below (Kd.V_elderB (by (with_reducible repeat (first | apply Kd.V_alloc | apply Kd.V_drewN | apply Kd.V_drew)); exact HO257.out) gb268 (Nat.le_of_eq hg.symm)) hb)
                have n6_ := Aside0.mk (Kd.N_below (Kd.N_elderB (by (with_reducible repeat (first | apply Kd.N_alloc | apply Kd.N_drewN | apply Kd.N_drew)); exact HO261.out) gb268 (Nat.le_of_eq hg.symm)) hb)
                have n7_ := Aside0.mk (Kd.V_below (Kd.V_elderB (by (with_reducible repeat (first | apply Kd.V_alloc | apply Kd.V_drewN | apply Kd.V_drew)); exact HO266.out) gb268 (Nat.le_of_eq hg.symm)) hb)
                have n8_ := Aside0.mk (blk_below (g := gb248) (o := .cells #[.slice Ao33 x249000_2.length co33, .bool x249001_2] 26 (0, 0)) (by (with_reducible repeat (first | refine kN ?_ _ | refine kD ?_ | refine kA ?_ _)); exact BK248.out) hb)
                have n9_ := Aside0.mk (blk_below (g := gb267) (o := .cells #[.slice none 0 0, .bool false] 26 (0, 0)) (by (with_reducible repeat (first | refine kN ?_ _ | refine kD ?_ | refine kA ?_ _)); exact BK267.out) hb)
                have n10_ := Aside0.mk (below_step (by repeat (first | (with_reducible first | exact HB.out | apply bA | apply bN | apply bD | refine bS ?_ GE248.out | refine bS ?_ GE267.out) | exact HB.out)) hb)
                have n11_ := Aside0.mk (hbox)
                have n12_ := Aside0.mk ((by rw [hg]; exact (below_size (by repeat (first | (with_reducible first | exact HB.out | apply bA | apply bN | apply bD | refine bS ?_ GE248.out | refine bS ?_ GE267.out) | exact HB.out))) : w.heap.size ≤ gb268))
                have n13_ := Aside0.mk ((by rw [hg]; exact (below_size (by repeat (first | (with_reducible first | exact HB.out | apply bA | apply bN | apply bD | refine bS ?_ GE248.out | refine bS ?_ GE267.out) | exact HB.out))) : w.heap.size ≤ gb268))
                have n14_ := Aside0.mk ((by rw [hg]; exact Nat.ne_of_lt (blk_lt (g := gb248) (o := .cells #[.slice Ao33 x249000_2.length co33, .bool x249001_2] 26 (0, 0)) (by (with_reducible repeat (first | refine kN ?_ _ | refine kD ?_ | refine kA ?_ _)); exact BK248.out)) : gb248 ≠ gb268))
                have n15_ := Aside0.mk ((by rw [hg]; exact Nat.ne_of_gt (blk_lt (g := gb248) (o := .cells #[.slice Ao33 x249000_2.length co33, .bool x249001_2] 26 (0, 0)) (by (with_reducible repeat (first | refine kN ?_ _ | refine kD ?_ | refine kA ?_ _)); exact BK248.out)) : gb268 ≠ gb248))
                have n16_ := Aside0.mk ((by rw [hg]; exact Nat.ne_of_lt (blk_lt (g := gb267) (o := .cells #[.slice none 0 0, .bool false] 26 (0, 0)) (by (with_reducible repeat (first | refine kN ?_ _ | refine kD ?_ | refine kA ?_ _)); exact BK267.out)) : gb267 ≠ gb268))
                have n17_ := Aside0.mk ((by rw [hg]; exact Nat.ne_of_gt (blk_lt (g := gb267) (o := .cells #[.slice none 0 0, .bool false] 26 (0, 0)) (by (with_reducible repeat (first | refine kN ?_ _ | refine kD ?_ | refine kA ?_ _)); exact BK267.out)) : gb268 ≠ gb267))
                clear HO_6
                clear HO_7
                clear HO_11
                clear HO_249000
                clear HO254
                clear HO257
                clear HO261
                clear HO266
                clear BK248
                clear BK267
                clear HB
                have HO_6 := n0_
                have HO_7 := n1_
                have HO_11 := n2_
                have HO_249000 := n3_
                have HO254 := n4_
                have HO257 := n5_
                have HO261 := n6_
                have HO266 := n7_
                have BK248 := n8_
                have BK267 := n9_
                have HB := n10_
                have BK268 := n11_
                have GW268 := n12_
                have GE268 := n13_
                have NB248_268 := n14_
                have NB268_248 := n15_
                have NB267_268 := n16_
                have NB268_267 := n17_
                clear n0_ n1_ n2_ n3_ n4_ n5_ n6_ n7_ n8_ n9_ n10_ n11_ n12_ n13_ n14_ n15_ n16_ n17_
                clear hb hbox hg
                refine hK.out _ _ ⟨(blk_cell BK248.out 0).trans rfl, (blk_cell BK248.out 1).trans rfl⟩ (fun hHeld => ?_)
                clear hK K
                refine norm_ (a' := ?_) ?_ ?_
                rotate_left
                ·
                 show Act.put _ (some 15) _ = _
                 simp only [Act.put, sA, sB, sC, i64_w, i32_w]
                 rfl
                exact norm_ (by first | (simp only [putAll, Act.put, sA, sB, sC]; done) | (simp only [putAll, Act.put, sA, sB, sC]; rfl)) (hJ4_9_10 (v256, v260, v265, gb267, gb268) _ ⟨hHeld, (by (with_reducible repeat (first | apply Kd.V_alloc | apply Kd.V_drewN | apply Kd.V_drew)); exact Kd.V_mono HO254.out (fun _ hk => ⟨hk.1.1, ⟨hk.1.2.1, ⟨hk.1.2.2.1, ⟨hk.1.2.2.2.1, ⟨hk.1.2.2.2.2.1, ⟨hk.1.2.2.2.2.2, hk.2⟩⟩⟩⟩⟩⟩)), (by (with_reducible repeat (first | apply Kd.V_alloc | apply Kd.V_drewN | apply Kd.V_drew)); exact Kd.V_mono HO257.out (fun _ hk => ⟨hk.1.1, ⟨hk.1.2.1, ⟨hk.1.2.2.1, ⟨hk.1.2.2.2.1, ⟨hk.1.2.2.2.2.1, ⟨hk.1.2.2.2.2.2.1, ⟨hk.1.2.2.2.2.2.2, hk.2⟩⟩⟩⟩⟩⟩⟩)), (by (with_reducible repeat (first | apply Kd.N_alloc | apply Kd.N_drewN | apply Kd.N_drew)); exact Kd.N_mono HO261.out (fun _ hk => ⟨hk.1.1, ⟨hk.1.2.1, ⟨hk.1.2.2.1, ⟨hk.1.2.2.2.1, ⟨hk.1.2.2.2.2.1, ⟨hk.1.2.2.2.2.2, hk.2⟩⟩⟩⟩⟩⟩)), (by (with_reducible repeat (first | apply Kd.V_alloc | apply Kd.V_drewN | apply Kd.V_drew)); exact Kd.V_mono HO266.out (fun _ hk => ⟨hk.1.1, ⟨hk.1.2.1, ⟨hk.1.2.2.1, ⟨hk.1.2.2.2.1, ⟨hk.1.2.2.2.2.1, ⟨hk.1.2.2.2.2.2.1, ⟨hk.1.2.2.2.2.2.2, hk.2⟩⟩⟩⟩⟩⟩⟩)), (by (with_reducible repeat (first | apply Kd.N_alloc | apply Kd.N_drewN | apply Kd.N_drew)); exact Kd.N_mono HO_11.out (fun _ hk => ⟨hk.1.1, ⟨hk.1.2.1, ⟨hk.1.2.2.1, ⟨hk.1.2.2.2.1, ⟨hk.1.2.2.2.2.1, ⟨hk.1.2.2.2.2.2, hk.2⟩⟩⟩⟩⟩⟩)), (by (with_reducible repeat (first | apply Kd.V_alloc | apply Kd.V_drewN | apply Kd.V_drew)); exact Kd.V_mono HO_249000.out (fun _ hk => ⟨hk.1.1, ⟨hk.1.2.1, ⟨hk.1.2.2.1, ⟨hk.1.2.2.2.1, ⟨hk.1.2.2.2.2.1, ⟨hk.1.2.2.2.2.2.1, ⟨hk.1.2.2.2.2.2.2, hk.2⟩⟩⟩⟩⟩⟩⟩)), (by (with_reducible repeat (first | apply Kd.Q_alloc | apply Kd.Q_drewN | apply Kd.Q_drew)); exact HO_6.out), (by (with_reducible repeat (first | apply Kd.N_alloc | apply Kd.N_drewN | apply Kd.N_drew)); exact Kd.N_mono HO_7.out (fun _ hk => ⟨hk.1.1, ⟨hk.1.2.1, ⟨hk.1.2.2.1, ⟨hk.1.2.2.2.1, ⟨hk.1.2.2.2.2.1, ⟨hk.1.2.2.2.2.2, hk.2⟩⟩⟩⟩⟩⟩)), (by (with_reducible repeat (first | refine kN ?_ _ | refine kD ?_ | refine kA ?_ _)); exact BK248.out), (by (with_reducible repeat (first | refine kN ?_ _ | refine kD ?_ | refine kA ?_ _)); exact BK267.out), (by (with_reducible repeat (first | refine kN ?_ _ | refine kD ?_ | refine kA ?_ _)); exact BK268.out), GW267.out, GE267.out, NB248_267.out, NB267_248.out, NB268_267.out, NB267_268.out, GW268.out, GE268.out, NB248_268.out, NB268_248.out, (by repeat (first | (with_reducible first | exact HB.out | apply bA | apply bN | apply bD | refine bS ?_ GE248.out | refine bS ?_ GE267.out | refine bS ?_ GE268.out) | exact HB.out))⟩)
              rintro ⟨v256, v260, v265, gb267, gb268⟩ w39 ⟨hS_, h0_, h1_, h2_, h3_, h4_, h5_, h6_, h7_, h8_, h9_, h10_, h11_, h12_, h13_, h14_, h15_, h16_, h17_, h18_, h19_, h20_, h21_⟩
              have n0_ : Aside0 (Kd.V (Kd.int .u8) 5 w39 w.heap.size (fun k_ => (P0_ k_ ∨ w.heap.size ≤ k_) ∧ some k_ ≠ (v260 : Value).ownBlock ∧ some k_ ≠ (u11 : Value).ownBlock ∧ some k_ ≠ (u7 : Value).ownBlock ∧ k_ ≠ gb248 ∧ k_ ≠ gb267 ∧ k_ ≠ gb268) (.slice Ao25 y250.length co25) y250) := ⟨h0_⟩
              have n1_ : Aside0 (Kd.V (Kd.int .u8) 5 w39 w.heap.size (fun k_ => (P0_ k_ ∨ w.heap.size ≤ k_) ∧ some k_ ≠ (v260 : Value).ownBlock ∧ some k_ ≠ (u11 : Value).ownBlock ∧ some k_ ≠ (.slice Ao25 x6_2.length co25 : Value).ownBlock ∧ some k_ ≠ (u7 : Value).ownBlock ∧ k_ ≠ gb248 ∧ k_ ≠ gb267 ∧ k_ ≠ gb268) v256 t255) := ⟨h1_⟩
              have n2_ : Aside0 (Kd.N k43 43 w39 w.heap.size (fun k_ => (P0_ k_ ∨ w.heap.size ≤ k_) ∧ some k_ ≠ (u11 : Value).ownBlock ∧ some k_ ≠ (.slice Ao25 x6_2.length co25 : Value).ownBlock ∧ some k_ ≠ (u7 : Value).ownBlock ∧ k_ ≠ gb248 ∧ k_ ≠ gb267 ∧ k_ ≠ gb268) v260 t259) := ⟨h2_⟩
              have n3_ : Aside0 (Kd.V (Kd.int .u8) 5 w39 w.heap.size (fun k_ => (P0_ k_ ∨ w.heap.size ≤ k_) ∧ some k_ ≠ (v260 : Value).ownBlock ∧ some k_ ≠ (u11 : Value).ownBlock ∧ some k_ ≠ (.slice Ao25 x6_2.length co25 : Value).ownBlock ∧ some k_ ≠ (u7 : Value).ownBlock ∧ k_ ≠ gb248 ∧ k_ ≠ gb267 ∧ k_ ≠ gb268) v265 t264) := ⟨h3_⟩
              have n4_ : Aside0 (Kd.N k43 43 w39 w.heap.size (fun k_ => (P0_ k_ ∨ w.heap.size ≤ k_) ∧ some k_ ≠ (v260 : Value).ownBlock ∧ some k_ ≠ (.slice Ao25 x6_2.length co25 : Value).ownBlock ∧ some k_ ≠ (u7 : Value).ownBlock ∧ k_ ≠ gb248 ∧ k_ ≠ gb267 ∧ k_ ≠ gb268) u11 x11_2) := ⟨h4_⟩
              have n5_ : Aside0 (Kd.V (Kd.int .u8) 5 w39 w.heap.size (fun k_ => (P0_ k_ ∨ w.heap.size ≤ k_) ∧ some k_ ≠ (v260 : Value).ownBlock ∧ some k_ ≠ (u11 : Value).ownBlock ∧ some k_ ≠ (.slice Ao25 x6_2.length co25 : Value).ownBlock ∧ some k_ ≠ (u7 : Value).ownBlock ∧ k_ ≠ gb248 ∧ k_ ≠ gb267 ∧ k_ ≠ gb268) (.slice Ao33 x249000_2.length co33) x249000_2) := ⟨h5_⟩
              have n6_ : Aside0 (Kd.Q (Kd.int .u8) 5 w39 w.heap.size (fun k_ => (w.heap.size ≤ k_)) (.slice Ao25 x6_2.length co25) x6_2) := ⟨h6_⟩
              have n7_ : Aside0 (Kd.N k43 43 w39 w.heap.size (fun k_ => (P0_ k_ ∨ w.heap.size ≤ k_) ∧ some k_ ≠ (v260 : Value).ownBlock ∧ some k_ ≠ (u11 : Value).ownBlock ∧ some k_ ≠ (.slice Ao25 x6_2.length co25 : Value).ownBlock ∧ k_ ≠ gb248 ∧ k_ ≠ gb267 ∧ k_ ≠ gb268) u7 x7_1) := ⟨h7_⟩
              have n8_ : Aside0 (w39.heap[gb248]? = some (.cells #[.slice Ao33 x249000_2.length co33, .bool x249001_2] 26 (0, 0))) := ⟨h8_⟩
              have n9_ : Aside0 (w39.heap[gb267]? = some (.cells #[.slice none 0 0, .bool false] 26 (0, 0))) := ⟨h9_⟩
              have n10_ : Aside0 (w39.heap[gb268]? = some (.cells #[.int .i64 0, .int .i64 0, .slice none 0 0] 29 (0, 0))) := ⟨h10_⟩
              have n11_ : Aside0 (w.heap.size ≤ gb267) := ⟨h11_⟩
              have n12_ : Aside0 (w.heap.size ≤ gb267) := ⟨h12_⟩
              have n13_ : Aside0 (gb248 ≠ gb267) := ⟨h13_⟩
              have n14_ : Aside0 (gb267 ≠ gb248) := ⟨h14_⟩
              have n15_ : Aside0 (gb268 ≠ gb267) := ⟨h15_⟩
              have n16_ : Aside0 (gb267 ≠ gb268) := ⟨h16_⟩
              have n17_ : Aside0 (w.heap.size ≤ gb268) := ⟨h17_⟩
              have n18_ : Aside0 (w.heap.size ≤ gb268) := ⟨h18_⟩
              have n19_ : Aside0 (gb248 ≠ gb268) := ⟨h19_⟩
              have n20_ : Aside0 (gb268 ≠ gb248) := ⟨h20_⟩
              have n21_ : Aside0 (Below w.heap.size w w39) := ⟨h21_⟩
              clear HO_6
              clear HO_7
              clear HO_11
              clear HO_249000
              clear BK248
              clear HB
              clear h0_ h1_ h2_ h3_ h4_ h5_ h6_ h7_ h8_ h9_ h10_ h11_ h12_ h13_ h14_ h15_ h16_ h17_ h18_ h19_ h20_ h21_
              have HO254 := n0_
              have HO257 := n1_
              have HO261 := n2_
              have HO266 := n3_
              have HO_11 := n4_
              have HO_249000 := n5_
              have HO_6 := n6_
              have HO_7 := n7_
              have BK248 := n8_
              have BK267 := n9_
              have BK268 := n10_
              have GW267 := n11_
              have GE267 := n12_
              have NB248_267 := n13_
              have NB267_248 := n14_
              have NB268_267 := n15_
              have NB267_268 := n16_
              have GW268 := n17_
              have GE268 := n18_
              have NB248_268 := n19_
              have NB268_248 := n20_
              have HB := n21_
              clear n0_ n1_ n2_ n3_ n4_ n5_ n6_ n7_ n8_ n9_ n10_ n11_ n12_ n13_ n14_ n15_ n16_ n17_ n18_ n19_ n20_ n21_
              have hHeld : w39.cell? ⟨gb248, 0, none⟩ = some (.slice Ao33 x249000_2.length co33) ∧ w39.cell? ⟨gb248, 1, none⟩ = some (.bool x249001_2) := hS_
              obtain ⟨Ao40, co40, eo40⟩ := Kd.V_slice HO257.out
              (first | subst eo40 | (injection eo40 with f1_ f2_ f3_; have f4_ := f1_.symm; have f5_ := f3_.symm; clear f1_ f2_ f3_; subst f4_; subst f5_))
              obtain ⟨Ao45, co45, eo45⟩ := Kd.V_slice HO266.out
              (first | subst eo45 | (injection eo45 with f1_ f2_ f3_; have f4_ := f1_.symm; have f5_ := f3_.symm; clear f1_ f2_ f3_; subst f4_; subst f5_))
              refine norm_ (a' := ?_) ?_ ?_
              rotate_left
              ·
               simp only [putAll, Act.put, sA, sB, sC]
               rfl
              refine one_ (i := 11) (N := none) #[true, true, true, true, true, true, true, true, true, true, true, true, false, false] rfl rfl (one_of HT_.out (by kernel_rfl)) (by decide) (fun K hK => ?_)
              have hs41 : w39.cell? ⟨gb267, 0, none⟩ = some (.slice none 0 0) := (blk_cell BK267.out 0).trans rfl
              have hfs41 := blk_frozen BK267.out 0
              have hns41_0 := NB248_267.out
              have hns41_2 := NB268_267.out
              have hms41_0 := NB267_248.out
              have hms41_2 := NB267_268.out
              have hs42 : w39.cell? ⟨gb267, 1, none⟩ = some (.bool false) := (blk_cell BK267.out 1).trans rfl
              have hfs42 := blk_frozen BK267.out 1
              have hns42_0 := NB248_267.out
              have hns42_2 := NB268_267.out
              have hms42_0 := NB267_248.out
              have hms42_2 := NB267_268.out
              refine skip_ (w1 := ?_) (by rfl) rfl ?_ ?_
              rotate_left
              ·
               go_simp
               rfl
              refine hK.out _ _ ⟨((cell_far (p := ⟨gb267, _, none⟩) NB248_267.out _).trans (((cell_far (p := ⟨gb267, _, none⟩) NB248_267.out _).trans (hHeld.1)))), ((cell_far (p := ⟨gb267, _, none⟩) NB248_267.out _).trans (((cell_far (p := ⟨gb267, _, none⟩) NB248_267.out _).trans (hHeld.2))))⟩ (fun hHeld => ?_)
              clear hK K
              refine pure_ (i := 12) (N := some 14) (v := ?_) (a' := ?_) #[true, true, true, true, true, true, true, true, true, true, true, true, true, false] rfl rfl (any_of HT_.out (by kernel_rfl)) (fun _ _ _ h => h) (Or.inl ⟨by rfl, ?_⟩) ?_ ?_
              rotate_left
              ·
               intro w'
               go_simp
               with_reducible rfl
              rotate_left
              ·
               simp only [Act.put, sA, sB, sC, i64_w, i32_w]
               rfl
              refine one_ (i := 13) (N := none) #[true, true, true, true, true, true, true, true, true, true, true, true, true, true] rfl rfl (one_of HT_.out (by kernel_rfl)) (by decide) (fun K hK => ?_)
              have hs43 : w39.cell? ⟨gb268, 0, none⟩ = some (.int .i64 0) := (blk_cell BK268.out 0).trans rfl
              have hfs43 := blk_frozen BK268.out 0
              have hns43_0 := NB248_268.out
              have hns43_1 := NB267_268.out
              have hms43_0 := NB268_248.out
              have hms43_1 := NB268_267.out
              have hs44 : w39.cell? ⟨gb268, 1, none⟩ = some (.int .i64 0) := (blk_cell BK268.out 1).trans rfl
              have hfs44 := blk_frozen BK268.out 1
              have hns44_0 := NB248_268.out
              have hns44_1 := NB267_268.out
              have hms44_0 := NB268_248.out
              have hms44_1 := NB268_267.out
              have hs46 : w39.cell? ⟨gb268, 2, none⟩ = some (.slice none 0 0) := (blk_cell BK268.out 2).trans rfl
              have hfs46 := blk_frozen BK268.out 2
              have hns46_0 := NB248_268.out
              have hns46_1 := NB267_268.out
              have hms46_0 := NB268_248.out
              have hms46_1 := NB268_267.out
              refine skip_ (w1 := ?_) (by rfl) rfl ?_ ?_
              rotate_left
              ·
               go_simp
               rfl
              refine hK.out _ _ ⟨((cell_far (p := ⟨gb268, _, none⟩) NB248_268.out _).trans (((cell_far (p := ⟨gb268, _, none⟩) NB248_268.out _).trans (((cell_far (p := ⟨gb268, _, none⟩) NB248_268.out _).trans (hHeld.1)))))), ((cell_far (p := ⟨gb268, _, none⟩) NB248_268.out _).trans (((cell_far (p := ⟨gb268, _, none⟩) NB248_268.out _).trans (((cell_far (p := ⟨gb268, _, none⟩) NB248_268.out _).trans (hHeld.2))))))⟩ (fun hHeld => ?_)
              clear hK K
              refine done_ (done_of HT_.out (by kernel_rfl)) ?_
              have hnb47 := NB268_248.out
              have hnc47 := NB248_268.out
              have hnb48 := NB268_267.out
              have hnc48 := NB267_268.out
              have hcz49_0 : w39.cell? ⟨gb268, 0, none⟩ = some (.int .i64 0) := (blk_cell BK268.out 0).trans rfl
              have hcz49_1 : w39.cell? ⟨gb268, 1, none⟩ = some (.int .i64 0) := (blk_cell BK268.out 1).trans rfl
              have hcz49_2 : w39.cell? ⟨gb268, 2, none⟩ = some (.slice none 0 0) := (blk_cell BK268.out 2).trans rfl
              have hfz49_0 := blk_frozen BK268.out 0
              have hfz49_1 := blk_frozen BK268.out 1
              have hfz49_2 := blk_frozen BK268.out 2
              have hnb50 := NB267_248.out
              have hnc50 := NB248_267.out
              have hcz51_0 : w39.cell? ⟨gb267, 0, none⟩ = some (.slice none 0 0) := (blk_cell BK267.out 0).trans rfl
              have hcz51_1 : w39.cell? ⟨gb267, 1, none⟩ = some (.bool false) := (blk_cell BK267.out 1).trans rfl
              have hfz51_0 := blk_frozen BK267.out 0
              have hfz51_1 := blk_frozen BK267.out 1
              have hcz52_0 : w39.cell? ⟨gb248, 0, none⟩ = some (.slice Ao33 x249000_2.length co33) := (blk_cell BK248.out 0).trans rfl
              have hcz52_1 : w39.cell? ⟨gb248, 1, none⟩ = some (.bool x249001_2) := (blk_cell BK248.out 1).trans rfl
              have hfz52_0 := blk_frozen BK248.out 0
              have hfz52_1 := blk_frozen BK248.out 1
              obtain ⟨Ao54, co54, eo54⟩ := Kd.N_slice HO261.out
              subst eo54
              try go_wp2_with (first | ((with_reducible refine gate_builtin (b := .append) (xs := #[.tmp 72, .tmp 73]) rfl ?_); (try (refine gate_guard (by rfl) ?_; dsimp only)); at_builtin; refine Kd.N_append_rows k43 (w0 := w) w.heap.size rfl (.tmp 72) (.tmp 73) 27 43 (.agg #[(.int .i64 0), (.slice none 0 0)]) 32 rfl Try.underlying27 info43 rfl (by decide) (by omega) u11 x11_2 t259 _ _ _ (fun k_ => (P0_ k_ ∨ w.heap.size ≤ k_) ∧ some k_ ≠ (.slice Ao25 x6_2.length co25 : Value).ownBlock ∧ some k_ ≠ (u7 : Value).ownBlock ∧ k_ ≠ gb248 ∧ k_ ≠ gb267 ∧ k_ ≠ gb268) (fun k_ => ((fun k_ => (P0_ k_ ∨ w.heap.size ≤ k_) ∧ some k_ ≠ (.slice Ao25 x6_2.length co25 : Value).ownBlock ∧ some k_ ≠ (u7 : Value).ownBlock ∧ k_ ≠ gb248 ∧ k_ ≠ gb267 ∧ k_ ≠ gb268)) k_ ∧ some k_ ≠ (u11 : Value).ownBlock) rfl rfl ?aO ?aR (fun _ hk => hk) ?aF ?aB ?aS ?aL ?_; (case aR => exact (by skip; exact Kd.N_F (Kd.N_mono (ok' := (fun k_ => ((fun k_ => (P0_ k_ ∨ w.heap.size ≤ k_) ∧ some k_ ≠ (.slice Ao25 x6_2.length co25 : Value).ownBlock ∧ some k_ ≠ (u7 : Value).ownBlock ∧ k_ ≠ gb248 ∧ k_ ≠ gb267 ∧ k_ ≠ gb268)) k_ ∧ some k_ ≠ (u11 : Value).ownBlock)) ((Kd.N_far (p := ⟨gb248, 1, none⟩) (Kd.N_far (p := ⟨gb248, 0, none⟩) (Kd.N_far (p := ⟨gb268, 2, none⟩) (Kd.N_far (p := ⟨gb268, 1, none⟩) (Kd.N_far (p := ⟨gb268, 0, none⟩) (Kd.N_far (p := ⟨gb267, 1, none⟩) (Kd.N_far (p := ⟨gb267, 0, none⟩) (Kd.N_mono (Kd.N_mono (Kd.N_mono HO261.out (fun k_ hk => (⟨hk, hk.2.2.2.2.2.1⟩ : _ ∧ k_ ≠ gb267))) (fun k_ hk => (⟨hk, hk.1.2.2.2.2.2.2⟩ : _ ∧ k_ ≠ gb268))) (fun k_ hk => (⟨hk, hk.1.1.2.2.2.2.1⟩ : _ ∧ k_ ≠ gb248))) (fun _ hk => hk.1.1.2) (.slice Ao40 t255.length co40)) (fun _ hk => hk.1.1.2) (.bool t258)) (fun _ hk => hk.1.2) (.int .i64 t262)) (fun _ hk => hk.1.2) (.int .i64 t263)) (fun _ hk => hk.1.2) (.slice Ao45 t264.length co45)) (fun _ hk => hk.2) (.slice Ao40 t255.length co40)) (fun _ hk => hk.2) (.bool t258))) (fun k_ hk => ⟨⟨hk.1.1.1.1, ⟨hk.1.1.1.2.2.1, ⟨hk.1.1.1.2.2.2.1, ⟨hk.1.1.1.2.2.2.2.1, ⟨hk.1.1.1.2.2.2.2.2.1, hk.1.1.1.2.2.2.2.2.2⟩⟩⟩⟩⟩, hk.1.1.1.2.1⟩)))); (case aB => exact (by repeat (first | (with_reducible first | exact HB.out | apply bA | apply bN | apply bD | refine bS ?_ GE248.out | refine bS ?_ GE267.out | refine bS ?_ GE268.out) | exact HB.out))); (case aF => exact (fun k_ hk => ⟨(.inr (Nat.le_trans (below_size (by repeat (first | (with_reducible first | exact HB.out | apply bA | apply bN | apply bD | refine bS ?_ GE248.out | refine bS ?_ GE267.out | refine bS ?_ GE268.out) | exact HB.out))) hk)), Kd.fresh' (Kd.Q_lt (by (with_reducible repeat (first | apply Kd.Q_alloc | apply Kd.Q_drewN | apply Kd.Q_drew)); exact (Kd.Q_mono (Kd.Q_mono (Kd.Q_mono (Kd.Q_far (p := ⟨gb248, 1, none⟩) (Kd.Q_far (p := ⟨gb248, 0, none⟩) (Kd.Q_far (p := ⟨gb268, 2, none⟩) (Kd.Q_far (p := ⟨gb268, 1, none⟩) (Kd.Q_far (p := ⟨gb268, 0, none⟩) (Kd.Q_far (p := ⟨gb267, 1, none⟩) (Kd.Q_far (p := ⟨gb267, 0, none⟩) (Kd.Q_types (Kd.Q_types (Kd.Q_types HO_6.out BK267.out (by decide)) BK268.out (by decide)) BK248.out (by decide)) (fun _ hk => hk.1.1.2) (.slice Ao40 t255.length co40)) (fun _ hk => hk.1.1.2) (.bool t258)) (fun _ hk => hk.1.2) (.int .i64 t262)) (fun _ hk => hk.1.2) (.int .i64 t263)) (fun _ hk => hk.1.2) (.slice Ao45 t264.length co45)) (fun _ hk => hk.2) (.slice Ao40 t255.length co40)) (fun _ hk => hk.2) (.bool t258)) (fun _ h_ => h_.1)) (fun _ h_ => h_.1)) (fun _ h_ => h_.1)))) k_ hk, Kd.fresh' (Kd.N_lt (by (with_reducible repeat (first | apply Kd.N_alloc | apply Kd.N_drewN | apply Kd.N_drew)); exact (Kd.N_mono (Kd.N_mono (Kd.N_mono (Kd.N_far (p := ⟨gb248, 1, none⟩) (Kd.N_far (p := ⟨gb248, 0, none⟩) (Kd.N_far (p := ⟨gb268, 2, none⟩) (Kd.N_far (p := ⟨gb268, 1, none⟩) (Kd.N_far (p := ⟨gb268, 0, none⟩) (Kd.N_far (p := ⟨gb267, 1, none⟩) (Kd.N_far (p := ⟨gb267, 0, none⟩) (Kd.N_mono (Kd.N_mono (Kd.N_mono HO_7.out (fun k_ hk => (⟨hk, hk.2.2.2.2.2.1⟩ : _ ∧ k_ ≠ gb267))) (fun k_ hk => (⟨hk, hk.1.2.2.2.2.2.2⟩ : _ ∧ k_ ≠ gb268))) (fun k_ hk => (⟨hk, hk.1.1.2.2.2.2.1⟩ : _ ∧ k_ ≠ gb248))) (fun _ hk => hk.1.1.2) (.slice Ao40 t255.length co40)) (fun _ hk => hk.1.1.2) (.bool t258)) (fun _ hk => hk.1.2) (.int .i64 t262)) (fun _ hk => hk.1.2) (.int .i64 t263)) (fun _ hk => hk.1.2) (.slice Ao45 t264.length co45)) (fun _ hk => hk.2) (.slice Ao40 t255.length co40)) (fun _ hk => hk.2) (.bool t258)) (fun _ h_ => h_.1)) (fun _ h_ => h_.1)) (fun _ h_ => h_.1)))) k_ hk, Kd.freshB (g := gb248) (o := .cells #[.slice Ao40 t255.length co40, .bool t258] 26 (0, 0)) (by (with_reducible repeat (first | refine kN ?_ _ | refine kD ?_ | refine kA ?_ _)); refine blk_put (cs := #[.slice Ao40 t255.length co40, .bool x249001_2]) ?_ 1 _ rfl; (with_reducible repeat (first | refine kN ?_ _ | refine kD ?_ | refine kA ?_ _)); refine blk_put (cs := #[.slice Ao33 x249000_2.length co33, .bool x249001_2]) ?_ 0 _ rfl; (with_reducible repeat (first | refine kN ?_ _ | refine kD ?_ | refine kA ?_ _)); refine blk_far ?_ NB248_268.out _; (with_reducible repeat (first | refine kN ?_ _ | refine kD ?_ | refine kA ?_ _)); refine blk_far ?_ NB248_268.out _; (with_reducible repeat (first | refine kN ?_ _ | refine kD ?_ | refine kA ?_ _)); refine blk_far ?_ NB248_268.out _; (with_reducible repeat (first | refine kN ?_ _ | refine kD ?_ | refine kA ?_ _)); refine blk_far ?_ NB248_267.out _; (with_reducible repeat (first | refine kN ?_ _ | refine kD ?_ | refine kA ?_ _)); refine blk_far ?_ NB248_267.out _; (with_reducible repeat (first | refine kN ?_ _ | refine kD ?_ | refine kA ?_ _)); exact BK248.out) k_ hk, Kd.freshB (g := gb267) (o := .cells #[.slice Ao40 t255.length co40, .bool t258] 26 (0, 0)) (by (with_reducible repeat (first | refine kN ?_ _ | refine kD ?_ | refine kA ?_ _)); refine blk_far ?_ NB267_248.out _; (with_reducible repeat (first | refine kN ?_ _ | refine kD ?_ | refine kA ?_ _)); refine blk_far ?_ NB267_248.out _; (with_reducible repeat (first | refine kN ?_ _ | refine kD ?_ | refine kA ?_ _)); refine blk_far ?_ NB267_268.out _; (with_reducible repeat (first | refine kN ?_ _ | refine kD ?_ | refine kA ?_ _)); refine blk_far ?_ NB267_268.out _; (with_reducible repeat (first | refine kN ?_ _ | refine kD ?_ | refine kA ?_ _)); refine blk_far ?_ NB267_268.out _; (with_reducible repeat (first | refine kN ?_ _ | refine kD ?_ | refine kA ?_ _)); refine blk_put (cs := #[.slice Ao40 t255.length co40, .bool false]) ?_ 1 _ rfl; (with_reducible repeat (first | refine kN ?_ _ | refine kD ?_ | refine kA ?_ _)); refine blk_put (cs := #[.slice none 0 0, .bool false]) ?_ 0 _ rfl; (with_reducible repeat (first | refine kN ?_ _ | refine kD ?_ | refine kA ?_ _)); exact BK267.out) k_ hk, Kd.freshB (g := gb268) (o := .cells #[.int .i64 t262, .int .i64 t263, .slice Ao45 t264.length co45] 29 (0, 0)) (by (with_reducible repeat (first | refine kN ?_ _ | refine kD ?_ | refine kA ?_ _)); refine blk_far ?_ NB268_248.out _; (with_reducible repeat (first | refine kN ?_ _ | refine kD ?_ | refine kA ?_ _)); refine blk_far ?_ NB268_248.out _; (with_reducible repeat (first | refine kN ?_ _ | refine kD ?_ | refine kA ?_ _)); refine blk_put (cs := #[.int .i64 t262, .int .i64 t263, .slice none 0 0]) ?_ 2 _ rfl; (with_reducible repeat (first | refine kN ?_ _ | refine kD ?_ | refine kA ?_ _)); refine blk_put (cs := #[.int .i64 t262, .int .i64 0, .slice none 0 0]) ?_ 1 _ rfl; (with_reducible repeat (first | refine kN ?_ _ | refine kD ?_ | refine kA ?_ _)); refine blk_put (cs := #[.int .i64 0, .int .i64 0, .slice none 0 0]) ?_ 0 _ rfl; (with_reducible repeat (first | refine kN ?_ _ | refine kD ?_ | refine kA ?_ _)); refine blk_far ?_ NB268_267.out _; (with_reducible repeat (first | refine kN ?_ _ | refine kD ?_ | refine kA ?_ _)); refine blk_far ?_ NB268_267.out _; (with_reducible repeat (first | refine kN ?_ _ | refine kD ?_ | refine kA ?_ _)); exact BK268.out) k_ hk⟩)); (case aO => exact (by (with_reducible repeat (first | apply Kd.N_alloc | apply Kd.N_drewN | apply Kd.N_drew)); exact Kd.N_mono (Kd.N_far (p := ⟨gb248, 1, none⟩) (Kd.N_far (p := ⟨gb248, 0, none⟩) (Kd.N_far (p := ⟨gb268, 2, none⟩) (Kd.N_far (p := ⟨gb268, 1, none⟩) (Kd.N_far (p := ⟨gb268, 0, none⟩) (Kd.N_far (p := ⟨gb267, 1, none⟩) (Kd.N_far (p := ⟨gb267, 0, none⟩) (Kd.N_mono (Kd.N_mono (Kd.N_mono HO_11.out (fun k_ hk => (⟨hk, hk.2.2.2.2.2.1⟩ : _ ∧ k_ ≠ gb267))) (fun k_ hk => (⟨hk, hk.1.2.2.2.2.2.2⟩ : _ ∧ k_ ≠ gb268))) (fun k_ hk => (⟨hk, hk.1.1.2.2.2.2.1⟩ : _ ∧ k_ ≠ gb248))) (fun _ hk => hk.1.1.2) (.slice Ao40 t255.length co40)) (fun _ hk => hk.1.1.2) (.bool t258)) (fun _ hk => hk.1.2) (.int .i64 t262)) (fun _ hk => hk.1.2) (.int .i64 t263)) (fun _ hk => hk.1.2) (.slice Ao45 t264.length co45)) (fun _ hk => hk.2) (.slice Ao40 t255.length co40)) (fun _ hk => hk.2) (.bool t258)) (fun _ hk => ⟨hk.1.1.1.1, ⟨hk.1.1.1.2.2.1, ⟨hk.1.1.1.2.2.2.1, ⟨hk.1.1.1.2.2.2.2.1, ⟨hk.1.1.1.2.2.2.2.2.1, hk.1.1.1.2.2.2.2.2.2⟩⟩⟩⟩⟩))); (case aS => exact (below_size (by repeat (first | (with_reducible first | exact HB.out | apply bA | apply bN | apply bD | refine bS ?_ GE248.out | refine bS ?_ GE267.out | refine bS ?_ GE268.out) | exact HB.out)))); (case aL => have := LMc31.out; omega); intro v270 w53 ho hb hg hat; rw [← Ny269.out] at ho; have n0_ := Aside0.mk (Kd.Q_over' (by (with_reducible repeat (first | apply Kd.Q_alloc | apply Kd.Q_drewN | apply Kd.Q_drew)); exact (Kd.Q_mono (Kd.Q_mono (Kd.Q_mono (Kd.Q_far (p := ⟨gb248, 1, none⟩) (Kd.Q_far (p := ⟨gb248, 0, none⟩) (Kd.Q_far (p := ⟨gb268, 2, none⟩) (Kd.Q_far (p := ⟨gb268, 1, none⟩) (Kd.Q_far (p := ⟨gb268, 0, none⟩) (Kd.Q_far (p := ⟨gb267, 1, none⟩) (Kd.Q_far (p := ⟨gb267, 0, none⟩) (Kd.Q_types (Kd.Q_types (Kd.Q_types HO_6.out BK267.out (by decide)) BK268.out (by decide)) BK248.out (by decide)) (fun _ hk => hk.1.1.2) (.slice Ao40 t255.length co40)) (fun _ hk => hk.1.1.2) (.bool t258)) (fun _ hk => hk.1.2) (.int .i64 t262)) (fun _ hk => hk.1.2) (.int .i64 t263)) (fun _ hk => hk.1.2) (.slice Ao45 t264.length co45)) (fun _ hk => hk.2) (.slice Ao40 t255.length co40)) (fun _ hk => hk.2) (.bool t258)) (fun _ h_ => h_.1)) (fun _ h_ => h_.1)) (fun _ h_ => h_.1))) (Kd.N_typed (by (with_reducible repeat (first | apply Kd.N_alloc | apply Kd.N_drewN | apply Kd.N_drew)); exact (Kd.N_mono (Kd.N_mono (Kd.N_mono (Kd.N_far (p := ⟨gb248, 1, none⟩) (Kd.N_far (p := ⟨gb248, 0, none⟩) (Kd.N_far (p := ⟨gb268, 2, none⟩) (Kd.N_far (p := ⟨gb268, 1, none⟩) (Kd.N_far (p := ⟨gb268, 0, none⟩) (Kd.N_far (p := ⟨gb267, 1, none⟩) (Kd.N_far (p := ⟨gb267, 0, none⟩) (Kd.N_mono (Kd.N_mono (Kd.N_mono HO_11.out (fun k_ hk => (⟨hk, hk.2.2.2.2.2.1⟩ : _ ∧ k_ ≠ gb267))) (fun k_ hk => (⟨hk, hk.1.2.2.2.2.2.2⟩ : _ ∧ k_ ≠ gb268))) (fun k_ hk => (⟨hk, hk.1.1.2.2.2.2.1⟩ : _ ∧ k_ ≠ gb248))) (fun _ hk => hk.1.1.2) (.slice Ao40 t255.length co40)) (fun _ hk => hk.1.1.2) (.bool t258)) (fun _ hk => hk.1.2) (.int .i64 t262)) (fun _ hk => hk.1.2) (.int .i64 t263)) (fun _ hk => hk.1.2) (.slice Ao45 t264.length co45)) (fun _ hk => hk.2) (.slice Ao40 t255.length co40)) (fun _ hk => hk.2) (.bool t258)) (fun _ h_ => h_.1)) (fun _ h_ => h_.1)) (fun _ h_ => h_.1)))) (by decide) hg); have n1_ := Aside0.mk (Kd.N_afterv (ok := (fun k_ => (P0_ k_ ∨ w.heap.size ≤ k_) ∧ some k_ ≠ (.slice Ao25 x6_2.length co25 : Value).ownBlock ∧ some k_ ≠ (.slice Ao54 t259.length co54 : Value).ownBlock ∧ k_ ≠ gb248 ∧ k_ ≠ gb267 ∧ k_ ≠ gb268)) (by (with_reducible repeat (first | apply Kd.N_alloc | apply Kd.N_drewN | apply Kd.N_drew)); exact Kd.N_mono (Kd.N_far (p := ⟨gb248, 1, none⟩) (Kd.N_far (p := ⟨gb248, 0, none⟩) (Kd.N_far (p := ⟨gb268, 2, none⟩) (Kd.N_far (p := ⟨gb268, 1, none⟩) (Kd.N_far (p := ⟨gb268, 0, none⟩) (Kd.N_far (p := ⟨gb267, 1, none⟩) (Kd.N_far (p := ⟨gb267, 0, none⟩) (Kd.N_mono (Kd.N_mono (Kd.N_mono HO_7.out (fun k_ hk => (⟨hk, hk.2.2.2.2.2.1⟩ : _ ∧ k_ ≠ gb267))) (fun k_ hk => (⟨hk, hk.1.2.2.2.2.2.2⟩ : _ ∧ k_ ≠ gb268))) (fun k_ hk => (⟨hk, hk.1.1.2.2.2.2.1⟩ : _ ∧ k_ ≠ gb248))) (fun _ hk => hk.1.1.2) (.slice Ao40 t255.length co40)) (fun _ hk => hk.1.1.2) (.bool t258)) (fun _ hk => hk.1.2) (.int .i64 t262)) (fun _ hk => hk.1.2) (.int .i64 t263)) (fun _ hk => hk.1.2) (.slice Ao45 t264.length co45)) (fun _ hk => hk.2) (.slice Ao40 t255.length co40)) (fun _ hk => hk.2) (.bool t258)) (fun _ hk => ⟨⟨hk.1.1.1.1, ⟨hk.1.1.1.2.2.2.1, ⟨hk.1.1.1.2.1, ⟨hk.1.1.1.2.2.2.2.1, ⟨hk.1.1.1.2.2.2.2.2.1, hk.1.1.1.2.2.2.2.2.2⟩⟩⟩⟩⟩, hk.1.1.1.2.2.1⟩)) hg hat); have n2_ := Aside0.mk (Kd.V_afterv (ok := (fun k_ => (P0_ k_ ∨ w.heap.size ≤ k_) ∧ some k_ ≠ (.slice Ao25 x6_2.length co25 : Value).ownBlock ∧ some k_ ≠ (u7 : Value).ownBlock ∧ some k_ ≠ (.slice Ao54 t259.length co54 : Value).ownBlock ∧ k_ ≠ gb248 ∧ k_ ≠ gb267 ∧ k_ ≠ gb268)) (by (with_reducible repeat (first | apply Kd.V_alloc | apply Kd.V_drewN | apply Kd.V_drew)); exact Kd.V_mono (Kd.V_far (p := ⟨gb248, 1, none⟩) (Kd.V_far (p := ⟨gb248, 0, none⟩) (Kd.V_far (p := ⟨gb268, 2, none⟩) (Kd.V_far (p := ⟨gb268, 1, none⟩) (Kd.V_far (p := ⟨gb268, 0, none⟩) (Kd.V_far (p := ⟨gb267, 1, none⟩) (Kd.V_far (p := ⟨gb267, 0, none⟩) (Kd.V_mono (Kd.V_mono (Kd.V_mono HO_249000.out (fun k_ hk => (⟨hk, hk.2.2.2.2.2.2.1⟩ : _ ∧ k_ ≠ gb267))) (fun k_ hk => (⟨hk, hk.1.2.2.2.2.2.2.2⟩ : _ ∧ k_ ≠ gb268))) (fun k_ hk => (⟨hk, hk.1.1.2.2.2.2.2.1⟩ : _ ∧ k_ ≠ gb248))) (fun _ hk => hk.1.1.2) (.slice Ao40 t255.length co40)) (fun _ hk => hk.1.1.2) (.bool t258)) (fun _ hk => hk.1.2) (.int .i64 t262)) (fun _ hk => hk.1.2) (.int .i64 t263)) (fun _ hk => hk.1.2) (.slice Ao45 t264.length co45)) (fun _ hk => hk.2) (.slice Ao40 t255.length co40)) (fun _ hk => hk.2) (.bool t258)) (fun _ hk => ⟨⟨hk.1.1.1.1, ⟨hk.1.1.1.2.2.2.1, ⟨hk.1.1.1.2.2.2.2.1, ⟨hk.1.1.1.2.1, ⟨hk.1.1.1.2.2.2.2.2.1, ⟨hk.1.1.1.2.2.2.2.2.2.1, hk.1.1.1.2.2.2.2.2.2.2⟩⟩⟩⟩⟩⟩, hk.1.1.1.2.2.1⟩)) hg hat); have n3_ := Aside0.mk (blk_grown (g := gb248) (o := .cells #[.slice Ao40 t255.length co40, .bool t258] 26 (0, 0)) (by (with_reducible repeat (first | refine kN ?_ _ | refine kD ?_ | refine kA ?_ _)); refine blk_put (cs := #[.slice Ao40 t255.length co40, .bool x249001_2]) ?_ 1 _ rfl; (with_reducible repeat (first | refine kN ?_ _ | refine kD ?_ | refine kA ?_ _)); refine blk_put (cs := #[.slice Ao33 x249000_2.length co33, .bool x249001_2]) ?_ 0 _ rfl; (with_reducible repeat (first | refine kN ?_ _ | refine kD ?_ | refine kA ?_ _)); refine blk_far ?_ NB248_268.out _; (with_reducible repeat (first | refine kN ?_ _ | refine kD ?_ | refine kA ?_ _)); refine blk_far ?_ NB248_268.out _; (with_reducible repeat (first | refine kN ?_ _ | refine kD ?_ | refine kA ?_ _)); refine blk_far ?_ NB248_268.out _; (with_reducible repeat (first | refine kN ?_ _ | refine kD ?_ | refine kA ?_ _)); refine blk_far ?_ NB248_267.out _; (with_reducible repeat (first | refine kN ?_ _ | refine kD ?_ | refine kA ?_ _)); refine blk_far ?_ NB248_267.out _; (with_reducible repeat (first | refine kN ?_ _ | refine kD ?_ | refine kA ?_ _)); exact BK248.out) hg (Kd.N_ne HO_11.out BK248.out (by decide))); have n4_ := Aside0.mk (Kd.V_afterv (ok := (fun k_ => (P0_ k_ ∨ w.heap.size ≤ k_) ∧ some k_ ≠ (u7 : Value).ownBlock ∧ some k_ ≠ (.slice Ao54 t259.length co54 : Value).ownBlock ∧ k_ ≠ gb248 ∧ k_ ≠ gb267 ∧ k_ ≠ gb268)) (by (with_reducible repeat (first | apply Kd.V_alloc | apply Kd.V_drewN | apply Kd.V_drew)); exact Kd.V_mono (Kd.V_far (p := ⟨gb248, 1, none⟩) (Kd.V_far (p := ⟨gb248, 0, none⟩) (Kd.V_far (p := ⟨gb268, 2, none⟩) (Kd.V_far (p := ⟨gb268, 1, none⟩) (Kd.V_far (p := ⟨gb268, 0, none⟩) (Kd.V_far (p := ⟨gb267, 1, none⟩) (Kd.V_far (p := ⟨gb267, 0, none⟩) (Kd.V_mono (Kd.V_mono (Kd.V_mono HO254.out (fun k_ hk => (⟨hk, hk.2.2.2.2.2.1⟩ : _ ∧ k_ ≠ gb267))) (fun k_ hk => (⟨hk, hk.1.2.2.2.2.2.2⟩ : _ ∧ k_ ≠ gb268))) (fun k_ hk => (⟨hk, hk.1.1.2.2.2.2.1⟩ : _ ∧ k_ ≠ gb248))) (fun _ hk => hk.1.1.2) (.slice Ao40 t255.length co40)) (fun _ hk => hk.1.1.2) (.bool t258)) (fun _ hk => hk.1.2) (.int .i64 t262)) (fun _ hk => hk.1.2) (.int .i64 t263)) (fun _ hk => hk.1.2) (.slice Ao45 t264.length co45)) (fun _ hk => hk.2) (.slice Ao40 t255.length co40)) (fun _ hk => hk.2) (.bool t258)) (fun _ hk => ⟨⟨hk.1.1.1.1, ⟨hk.1.1.1.2.2.2.1, ⟨hk.1.1.1.2.1, ⟨hk.1.1.1.2.2.2.2.1, ⟨hk.1.1.1.2.2.2.2.2.1, hk.1.1.1.2.2.2.2.2.2⟩⟩⟩⟩⟩, hk.1.1.1.2.2.1⟩)) hg hat); have n5_ := Aside0.mk (Kd.V_afterv (ok := (fun k_ => (P0_ k_ ∨ w.heap.size ≤ k_) ∧ some k_ ≠ (.slice Ao25 x6_2.length co25 : Value).ownBlock ∧ some k_ ≠ (u7 : Value).ownBlock ∧ some k_ ≠ (.slice Ao54 t259.length co54 : Value).ownBlock ∧ k_ ≠ gb248 ∧ k_ ≠ gb267 ∧ k_ ≠ gb268)) (by (with_reducible repeat (first | apply Kd.V_alloc | apply Kd.V_drewN | apply Kd.V_drew)); exact Kd.V_mono (Kd.V_far (p := ⟨gb248, 1, none⟩) (Kd.V_far (p := ⟨gb248, 0, none⟩) (Kd.V_far (p := ⟨gb268, 2, none⟩) (Kd.V_far (p := ⟨gb268, 1, none⟩) (Kd.V_far (p := ⟨gb268, 0, none⟩) (Kd.V_far (p := ⟨gb267, 1, none⟩) (Kd.V_far (p := ⟨gb267, 0, none⟩) (Kd.V_mono (Kd.V_mono (Kd.V_mono HO257.out (fun k_ hk => (⟨hk, hk.2.2.2.2.2.2.1⟩ : _ ∧ k_ ≠ gb267))) (fun k_ hk => (⟨hk, hk.1.2.2.2.2.2.2.2⟩ : _ ∧ k_ ≠ gb268))) (fun k_ hk => (⟨hk, hk.1.1.2.2.2.2.2.1⟩ : _ ∧ k_ ≠ gb248))) (fun _ hk => hk.1.1.2) (.slice Ao40 t255.length co40)) (fun _ hk => hk.1.1.2) (.bool t258)) (fun _ hk => hk.1.2) (.int .i64 t262)) (fun _ hk => hk.1.2) (.int .i64 t263)) (fun _ hk => hk.1.2) (.slice Ao45 t264.length co45)) (fun _ hk => hk.2) (.slice Ao40 t255.length co40)) (fun _ hk => hk.2) (.bool t258)) (fun _ hk => ⟨⟨hk.1.1.1.1, ⟨hk.1.1.1.2.2.2.1, ⟨hk.1.1.1.2.2.2.2.1, ⟨hk.1.1.1.2.1, ⟨hk.1.1.1.2.2.2.2.2.1, ⟨hk.1.1.1.2.2.2.2.2.2.1, hk.1.1.1.2.2.2.2.2.2.2⟩⟩⟩⟩⟩⟩, hk.1.1.1.2.2.1⟩)) hg hat); have n6_ := Aside0.mk (Kd.N_afterv (ok := (fun k_ => (P0_ k_ ∨ w.heap.size ≤ k_) ∧ some k_ ≠ (.slice Ao25 x6_2.length co25 : Value).ownBlock ∧ some k_ ≠ (u7 : Value).ownBlock ∧ k_ ≠ gb248 ∧ k_ ≠ gb267 ∧ k_ ≠ gb268)) (by (with_reducible repeat (first | apply Kd.N_alloc | apply Kd.N_drewN | apply Kd.N_drew)); exact Kd.N_mono (Kd.N_far (p := ⟨gb248, 1, none⟩) (Kd.N_far (p := ⟨gb248, 0, none⟩) (Kd.N_far (p := ⟨gb268, 2, none⟩) (Kd.N_far (p := ⟨gb268, 1, none⟩) (Kd.N_far (p := ⟨gb268, 0, none⟩) (Kd.N_far (p := ⟨gb267, 1, none⟩) (Kd.N_far (p := ⟨gb267, 0, none⟩) (Kd.N_mono (Kd.N_mono (Kd.N_mono HO261.out (fun k_ hk => (⟨hk, hk.2.2.2.2.2.1⟩ : _ ∧ k_ ≠ gb267))) (fun k_ hk => (⟨hk, hk.1.2.2.2.2.2.2⟩ : _ ∧ k_ ≠ gb268))) (fun k_ hk => (⟨hk, hk.1.1.2.2.2.2.1⟩ : _ ∧ k_ ≠ gb248))) (fun _ hk => hk.1.1.2) (.slice Ao40 t255.length co40)) (fun _ hk => hk.1.1.2) (.bool t258)) (fun _ hk => hk.1.2) (.int .i64 t262)) (fun _ hk => hk.1.2) (.int .i64 t263)) (fun _ hk => hk.1.2) (.slice Ao45 t264.length co45)) (fun _ hk => hk.2) (.slice Ao40 t255.length co40)) (fun _ hk => hk.2) (.bool t258)) (fun _ hk => ⟨⟨hk.1.1.1.1, ⟨hk.1.1.1.2.2.1, ⟨hk.1.1.1.2.2.2.1, ⟨hk.1.1.1.2.2.2.2.1, ⟨hk.1.1.1.2.2.2.2.2.1, hk.1.1.1.2.2.2.2.2.2⟩⟩⟩⟩⟩, hk.1.1.1.2.1⟩)) hg hat); have n7_ := Aside0.mk (Kd.V_afterv (ok := (fun k_ => (P0_ k_ ∨ w.heap.size ≤ k_) ∧ some k_ ≠ (.slice Ao25 x6_2.length co25 : Value).ownBlock ∧ some k_ ≠ (u7 : Value).ownBlock ∧ some k_ ≠ (.slice Ao54 t259.length co54 : Value).ownBlock ∧ k_ ≠ gb248 ∧ k_ ≠ gb267 ∧ k_ ≠ gb268)) (by (with_reducible repeat (first | apply Kd.V_alloc | apply Kd.V_drewN | apply Kd.V_drew)); exact Kd.V_mono (Kd.V_far (p := ⟨gb248, 1, none⟩) (Kd.V_far (p := ⟨gb248, 0, none⟩) (Kd.V_far (p := ⟨gb268, 2, none⟩) (Kd.V_far (p := ⟨gb268, 1, none⟩) (Kd.V_far (p := ⟨gb268, 0, none⟩) (Kd.V_far (p := ⟨gb267, 1, none⟩) (Kd.V_far (p := ⟨gb267, 0, none⟩) (Kd.V_mono (Kd.V_mono (Kd.V_mono HO266.out (fun k_ hk => (⟨hk, hk.2.2.2.2.2.2.1⟩ : _ ∧ k_ ≠ gb267))) (fun k_ hk => (⟨hk, hk.1.2.2.2.2.2.2.2⟩ : _ ∧ k_ ≠ gb268))) (fun k_ hk => (⟨hk, hk.1.1.2.2.2.2.2.1⟩ : _ ∧ k_ ≠ gb248))) (fun _ hk => hk.1.1.2) (.slice Ao40 t255.length co40)) (fun _ hk => hk.1.1.2) (.bool t258)) (fun _ hk => hk.1.2) (.int .i64 t262)) (fun _ hk => hk.1.2) (.int .i64 t263)) (fun _ hk => hk.1.2) (.slice Ao45 t264.length co45)) (fun _ hk => hk.2) (.slice Ao40 t255.length co40)) (fun _ hk => hk.2) (.bool t258)) (fun _ hk => ⟨⟨hk.1.1.1.1, ⟨hk.1.1.1.2.2.2.1, ⟨hk.1.1.1.2.2.2.2.1, ⟨hk.1.1.1.2.1, ⟨hk.1.1.1.2.2.2.2.2.1, ⟨hk.1.1.1.2.2.2.2.2.2.1, hk.1.1.1.2.2.2.2.2.2.2⟩⟩⟩⟩⟩⟩, hk.1.1.1.2.2.1⟩)) hg hat); have n8_ := Aside0.mk (blk_grown (g := gb267) (o := .cells #[.slice Ao40 t255.length co40, .bool t258] 26 (0, 0)) (by (with_reducible repeat (first | refine kN ?_ _ | refine kD ?_ | refine kA ?_ _)); refine blk_far ?_ NB267_248.out _; (with_reducible repeat (first | refine kN ?_ _ | refine kD ?_ | refine kA ?_ _)); refine blk_far ?_ NB267_248.out _; (with_reducible repeat (first | refine kN ?_ _ | refine kD ?_ | refine kA ?_ _)); refine blk_far ?_ NB267_268.out _; (with_reducible repeat (first | refine kN ?_ _ | refine kD ?_ | refine kA ?_ _)); refine blk_far ?_ NB267_268.out _; (with_reducible repeat (first | refine kN ?_ _ | refine kD ?_ | refine kA ?_ _)); refine blk_far ?_ NB267_268.out _; (with_reducible repeat (first | refine kN ?_ _ | refine kD ?_ | refine kA ?_ _)); refine blk_put (cs := #[.slice Ao40 t255.length co40, .bool false]) ?_ 1 _ rfl; (with_reducible repeat (first | refine kN ?_ _ | refine kD ?_ | refine kA ?_ _)); refine blk_put (cs := #[.slice none 0 0, .bool false]) ?_ 0 _ rfl; (with_reducible repeat (first | refine kN ?_ _ | refine kD ?_ | refine kA ?_ _)); exact BK267.out) hg (Kd.N_ne HO_11.out BK267.out (by decide))); have n9_ := Aside0.mk (blk_grown (g := gb268) (o := .cells #[.int .i64 t262, .int .i64 t263, .slice Ao45 t264.length co45] 29 (0, 0)) (by (with_reducible repeat (first | refine kN ?_ _ | refine kD ?_ | refine kA ?_ _)); refine blk_far ?_ NB268_248.out _; (with_reducible repeat (first | refine kN ?_ _ | refine kD ?_ | refine kA ?_ _)); refine blk_far ?_ NB268_248.out _; (with_reducible repeat (first | refine kN ?_ _ | refine kD ?_ | refine kA ?_ _)); refine blk_put (cs := #[.int .i64 t262, .int .i64 t263, .slice none 0 0]) ?_ 2 _ rfl; (with_reducible repeat (first | refine kN ?_ _ | refine kD ?_ | refine kA ?_ _)); refine blk_put (cs := #[.int .i64 t262, .int .i64 0, .slice none 0 0]) ?_ 1 _ rfl; (with_reducible repeat (first | refine kN ?_ _ | refine kD ?_ | refine kA ?_ _)); refine blk_put (cs := #[.int .i64 0, .int .i64 0, .slice none 0 0]) ?_ 0 _ rfl; (with_reducible repeat (first | refine kN ?_ _ | refine kD ?_ | refine kA ?_ _)); refine blk_far ?_ NB268_267.out _; (with_reducible repeat (first | refine kN ?_ _ | refine kD ?_ | refine kA ?_ _)); refine blk_far ?_ NB268_267.out _; (with_reducible repeat (first | refine kN ?_ _ | refine kD ?_ | refine kA ?_ _)); exact BK268.out) hg (Kd.N_ne HO_11.out BK268.out (by decide))); have n10_ := Aside0.mk (hb); have n11_ := Aside0.mk (ho); clear HO_6; clear HO_7; clear HO_249000; clear BK248; clear HO254; clear HO257; clear HO261; clear HO266; clear BK267; clear BK268; clear HB; clear HO_11; have HO_6 := n0_; have HO_7 := n1_; have HO_249000 := n2_; have BK248 := n3_; have HO254 := n4_; have HO257 := n5_; have HO261 := n6_; have HO266 := n7_; have BK267 := n8_; have BK268 := n9_; have HB := n10_; have HO271 := n11_; clear n0_ n1_ n2_ n3_ n4_ n5_ n6_ n7_ n8_ n9_ n10_ n11_; clear ho hb hg hat; have q55 : (x12_23 : Int) ≤ ((x6_2.length : Int) : Int) := of_decide_eq_true (by first | (with_reducible assumption) | assumption); obtain ⟨i055, hi055, _, hsz55, _⟩ := info_parts info5; have hcut55 := cut_from (P := Try.prog) 22 5 .i64 Try.underlying22 hi055 1 hsz55 Ao25 x6_2.length co25 x12_23 (of_decide_eq_true (by first | (with_reducible assumption) | assumption)) q55; have hr55 := Kd.Q_drop (k := (x12_23 : Int).toNat) HO_6.out (by omega); obtain ⟨A55, hA55⟩ : ∃ A1, A1 = (if co25 = (x12_23 : Int).toNat then Ao25 else (Ao25 : Option Addr).map (·.add ((x12_23 : Int).toNat * 1))) := ⟨_, rfl⟩; obtain ⟨c55, hc55⟩ : ∃ c1, c1 = co25 - (x12_23 : Int).toNat := ⟨_, rfl⟩; have hy55 : y272.length = x6_2.length - (x12_23 : Int).toNat := (by rw [Ny272.out, List.length_drop]); rw [← Ny272.out] at hr55; rw [← hy55, ← hA55, ← hc55] at hcut55; replace hr55 : Kd.Q (Kd.int .u8) 5 w53 w.heap.size (fun k_ => (w.heap.size ≤ k_)) (.slice A55 y272.length c55) y272 := (by rw [hA55, hc55, hy55]; exact hr55); have HE55 : Aside0 ((Value.slice A55 y272.length c55).ownBlock = (.slice Ao25 x6_2.length co25 : Value).ownBlock) := ⟨by rw [hA55]; split <;> (cases (Ao25 : Option Addr) <;> first | rfl | simp [Value.ownBlock, add_block])⟩; clear hy55 hi055 hsz55 HO_6 hA55 hc55; have HO274 := Aside0.mk hr55; clear hr55; replace q55 := eq_true q55; have n_ := Aside0.mk (Kd.N_mono (ok' := fun k_ => ((((P0_ k_ ∨ w.heap.size ≤ k_)) ∧ (some k_ ≠ (.slice A55 y272.length c55 : Value).ownBlock ∧ (some k_ ≠ (.slice Ao54 t259.length co54 : Value).ownBlock ∧ (k_ ≠ gb248 ∧ (k_ ≠ gb267 ∧ k_ ≠ gb268))))) ∧ some k_ ≠ (v270 : Value).ownBlock)) HO_7.out (fun k_ hk => ⟨⟨hk.1.1, ⟨(by rw [HE55.out]; exact hk.1.2.1), ⟨hk.1.2.2.1, ⟨hk.1.2.2.2.1, ⟨hk.1.2.2.2.2.1, hk.1.2.2.2.2.2⟩⟩⟩⟩⟩, hk.2⟩)); clear HO_7; have HO_7 := n_; clear n_; have n_ := Aside0.mk (Kd.V_mono (ok' := fun k_ => ((((P0_ k_ ∨ w.heap.size ≤ k_)) ∧ (some k_ ≠ (.slice A55 y272.length c55 : Value).ownBlock ∧ (some k_ ≠ (u7 : Value).ownBlock ∧ (some k_ ≠ (.slice Ao54 t259.length co54 : Value).ownBlock ∧ (k_ ≠ gb248 ∧ (k_ ≠ gb267 ∧ k_ ≠ gb268)))))) ∧ some k_ ≠ (v270 : Value).ownBlock)) HO_249000.out (fun k_ hk => ⟨⟨hk.1.1, ⟨(by rw [HE55.out]; exact hk.1.2.1), ⟨hk.1.2.2.1, ⟨hk.1.2.2.2.1, ⟨hk.1.2.2.2.2.1, ⟨hk.1.2.2.2.2.2.1, hk.1.2.2.2.2.2.2⟩⟩⟩⟩⟩⟩, hk.2⟩)); clear HO_249000; have HO_249000 := n_; clear n_; have n_ := Aside0.mk (Kd.V_mono (ok' := fun k_ => ((((P0_ k_ ∨ w.heap.size ≤ k_)) ∧ (some k_ ≠ (.slice A55 y272.length c55 : Value).ownBlock ∧ (some k_ ≠ (u7 : Value).ownBlock ∧ (some k_ ≠ (.slice Ao54 t259.length co54 : Value).ownBlock ∧ (k_ ≠ gb248 ∧ (k_ ≠ gb267 ∧ k_ ≠ gb268)))))) ∧ some k_ ≠ (v270 : Value).ownBlock)) HO257.out (fun k_ hk => ⟨⟨hk.1.1, ⟨(by rw [HE55.out]; exact hk.1.2.1), ⟨hk.1.2.2.1, ⟨hk.1.2.2.2.1, ⟨hk.1.2.2.2.2.1, ⟨hk.1.2.2.2.2.2.1, hk.1.2.2.2.2.2.2⟩⟩⟩⟩⟩⟩, hk.2⟩)); clear HO257; have HO257 := n_; clear n_; have n_ := Aside0.mk (Kd.N_mono (ok' := fun k_ => ((((P0_ k_ ∨ w.heap.size ≤ k_)) ∧ (some k_ ≠ (.slice A55 y272.length c55 : Value).ownBlock ∧ (some k_ ≠ (u7 : Value).ownBlock ∧ (k_ ≠ gb248 ∧ (k_ ≠ gb267 ∧ k_ ≠ gb268))))) ∧ some k_ ≠ (v270 : Value).ownBlock)) HO261.out (fun k_ hk => ⟨⟨hk.1.1, ⟨(by rw [HE55.out]; exact hk.1.2.1), ⟨hk.1.2.2.1, ⟨hk.1.2.2.2.1, ⟨hk.1.2.2.2.2.1, hk.1.2.2.2.2.2⟩⟩⟩⟩⟩, hk.2⟩)); clear HO261; have HO261 := n_; clear n_; have n_ := Aside0.mk (Kd.V_mono (ok' := fun k_ => ((((P0_ k_ ∨ w.heap.size ≤ k_)) ∧ (some k_ ≠ (.slice A55 y272.length c55 : Value).ownBlock ∧ (some k_ ≠ (u7 : Value).ownBlock ∧ (some k_ ≠ (.slice Ao54 t259.length co54 : Value).ownBlock ∧ (k_ ≠ gb248 ∧ (k_ ≠ gb267 ∧ k_ ≠ gb268)))))) ∧ some k_ ≠ (v270 : Value).ownBlock)) HO266.out (fun k_ hk => ⟨⟨hk.1.1, ⟨(by rw [HE55.out]; exact hk.1.2.1), ⟨hk.1.2.2.1, ⟨hk.1.2.2.2.1, ⟨hk.1.2.2.2.2.1, ⟨hk.1.2.2.2.2.2.1, hk.1.2.2.2.2.2.2⟩⟩⟩⟩⟩⟩, hk.2⟩)); clear HO266; have HO266 := n_; clear n_; have n_ := Aside0.mk (Kd.N_mono (ok' := fun k_ => (((P0_ k_ ∨ w.heap.size ≤ k_)) ∧ (some k_ ≠ (.slice A55 y272.length c55 : Value).ownBlock ∧ (some k_ ≠ (u7 : Value).ownBlock ∧ (k_ ≠ gb248 ∧ (k_ ≠ gb267 ∧ k_ ≠ gb268)))))) HO271.out (fun k_ hk => ⟨hk.1, ⟨(by rw [HE55.out]; exact hk.2.1), ⟨hk.2.2.1, ⟨hk.2.2.2.1, ⟨hk.2.2.2.2.1, hk.2.2.2.2.2⟩⟩⟩⟩⟩)); clear HO271; have HO271 := n_; clear n_))
              go_roundg kj23
              case measure => have := HK1.out; have := HK2.out; have := HJ23.out; omega
              case rel => exact ⟨(y272), (y269), (t255), (t258), (.slice Ao40 t255.length co40), H', ⟨by have := HK1.out; have := HK2.out; have := HJ23.out; omega⟩, ⟨by (with_reducible repeat (first | apply Kd.Q_alloc | apply Kd.Q_drewN | apply Kd.Q_drew)); exact HO274.out⟩, ⟨by (with_reducible repeat (first | apply Kd.N_alloc | apply Kd.N_drewN | apply Kd.N_drew)); exact Kd.N_mono HO_7.out (fun _ hk => ⟨hk.1.1, ⟨hk.1.2.1, ⟨hk.2, hk.1.2.2.2.1⟩⟩⟩)⟩, ⟨by (with_reducible repeat (first | apply Kd.N_alloc | apply Kd.N_drewN | apply Kd.N_drew)); exact Kd.N_mono HO271.out (fun _ hk => ⟨hk.1, ⟨hk.2.1, ⟨hk.2.2.1, hk.2.2.2.1⟩⟩⟩)⟩, ⟨by (with_reducible repeat (first | apply Kd.V_alloc | apply Kd.V_drewN | apply Kd.V_drew)); exact Kd.V_mono HO257.out (fun _ hk => ⟨hk.1.1, ⟨hk.1.2.1, ⟨hk.1.2.2.1, ⟨hk.2, hk.1.2.2.2.2.1⟩⟩⟩⟩)⟩, ⟨by (with_reducible repeat (first | refine kN ?_ _ | refine kD ?_ | refine kA ?_ _)); exact BK248.out⟩, ⟨by repeat (first | (with_reducible first | exact HB.out | apply bA | apply bN | apply bD | refine bS ?_ GE248.out | refine bS ?_ GE267.out | refine bS ?_ GE268.out) | exact HB.out)⟩⟩
             ·
              rw [if_neg c31] at H
              exact absurd H (by simp)
            ·
             rw [if_neg c30] at H
             have c30b0 : (t262 == 0) = false := beq_eq_false_iff_ne.mpr c30
             have c30b1 : (t262 != 0) = true := bne_iff_ne.mpr c30
             exact absurd H (by simp)
           ·
            rw [if_neg c28] at H
            exact absurd H (by simp)
          ·
           rw [if_neg c27] at H
           exact absurd H (by simp)
       ·
        rw [if_neg c23] at H
        have c23b0 : decide (0 < (x6_2.length : Int)) = false := decide_eq_false c23
        have c23b1 : decide (0 < x6_2.length) = false := decide_eq_false (by omega)
        clear c23
        by_cases c56 : t232 = true
        ·
         subst c56
         have H1 : ((ridgewayref03_SameAll.f k2 x11_2 x7_1).bind fun t249 => (if t249 = true then (if (x249000_2.length : Int) = 0 then (some (!x249001_2)) else (some false)) else (some false))) = some true := by rw [if_pos rfl] at H; first | done | exact H
         clear H
         have H := H1
         clear H1
         replace H := Option.bind_eq_some_iff.mp H
         obtain ⟨t249, A570, H⟩ := H
         replace H : (if t249 = true then (if (x249000_2.length : Int) = 0 then (some (!x249001_2)) else (some false)) else (some false)) = some true := H
         have A57 := Aside0.mk A570
         clear A570
         by_cases c58 : t249 = true
         ·
          subst c58
          have H1 : (if (x249000_2.length : Int) = 0 then (some (!x249001_2)) else (some false)) = some true := by rw [if_pos rfl] at H; first | done | exact H
          clear H
          have H := H1
          clear H1
          by_cases c59 : (x249000_2.length : Int) = 0
          ·
           rw [if_pos c59] at H
           have c59b0 : ((x249000_2.length : Int) == 0) = true := beq_iff_eq.mpr c59
           have c59b1 : ((x249000_2.length : Int) != 0) = false := bne_eq_false_iff_eq.mpr c59
           clear c59
           have HRL_ := Aside0.mk (Option.some.inj H)
           clear H
           obtain ⟨Ao60, co60, eo60, _⟩ := Kd.Q_slice HO_6.out
           subst eo60
           obtain ⟨Ao61, co61, eo61⟩ := Kd.N_slice HO_11.out
           subst eo61
           obtain ⟨Ao62, co62, eo62⟩ := Kd.N_slice HO_7.out
           subst eo62
           go_wp2_with (first | (go_at_call 12; (with_reducible refine (ridgewayref03_SameAll.calls k2 _ _ x11_2 _ _ x7_1 true _ ?side1 ?side2 ?side3 ?side4 A57.out).mono ?_); (case side1 => repeat (first | exact (Kd.N_reads' HO_11.out).2.2 | (with_reducible refine Kd.C_alloc ?_ _) | (with_reducible refine Kd.C_drewN ?_ _) | (with_reducible refine Kd.C_drew ?_))); (case side2 => exact (Kd.N_reads' HO_11.out).2.1); (case side3 => repeat (first | exact (Kd.N_reads' HO_7.out).2.2 | (with_reducible refine Kd.C_alloc ?_ _) | (with_reducible refine Kd.C_drewN ?_ _) | (with_reducible refine Kd.C_drew ?_))); (case side4 => exact (Kd.N_reads' HO_7.out).2.1); rintro e w63 ⟨rfl, hb⟩; have n0_ := Aside0.mk (Kd.Q_below (by (with_reducible repeat (first | apply Kd.Q_alloc | apply Kd.Q_drewN | apply Kd.Q_drew)); exact HO_6.out) hb); have n1_ := Aside0.mk (Kd.N_below (by (with_reducible repeat (first | apply Kd.N_alloc | apply Kd.N_drewN | apply Kd.N_drew)); exact HO_7.out) hb); have n2_ := Aside0.mk (Kd.N_below (by (with_reducible repeat (first | apply Kd.N_alloc | apply Kd.N_drewN | apply Kd.N_drew)); exact HO_11.out) hb); have n3_ := Aside0.mk (Kd.V_below (by (with_reducible repeat (first | apply Kd.V_alloc | apply Kd.V_drewN | apply Kd.V_drew)); exact HO_249000.out) hb); have n4_ := Aside0.mk (blk_below (g := gb248) (o := .cells #[u249000, .bool x249001_2] 26 (0, 0)) (by (with_reducible repeat (first | refine kN ?_ _ | refine kD ?_ | refine kA ?_ _)); exact BK248.out) hb); have n5_ := Aside0.mk (below_step (by repeat (first | (with_reducible first | exact HB.out | apply bA | apply bN | apply bD | refine bS ?_ GE248.out) | exact HB.out)) hb); clear HO_6; clear HO_7; clear HO_11; clear HO_249000; clear BK248; clear HB; have HO_6 := n0_; have HO_7 := n1_; have HO_11 := n2_; have HO_249000 := n3_; have BK248 := n4_; have HB := n5_; clear n0_ n1_ n2_ n3_ n4_ n5_; (try clear hb); (try clear hb2); (try clear hk); (try clear hi); have hcz64_0 : w63.cell? ⟨gb248, 0, none⟩ = some (u249000) := (blk_cell BK248.out 0).trans rfl; have hcz64_1 : w63.cell? ⟨gb248, 1, none⟩ = some (.bool x249001_2) := (blk_cell BK248.out 1).trans rfl; have hfz64_0 := blk_frozen BK248.out 0; have hfz64_1 := blk_frozen BK248.out 1; obtain ⟨Ao65, co65, eo65⟩ := Kd.V_slice HO_249000.out; subst eo65))
           all_goals first | (go_ret; refine ⟨?_, ?_⟩; (focus (first | rfl | (simp [errW_none, errW_some] <;> rfl) | (rw [HRL_.out] <;> rfl) | (simp only [HRL_.out] <;> rfl) | (have h_ := HRL_.out; simp at h_; simp [h_]; done) | (have h_ := HRL_.out; simp [*] at h_ ⊢; done) | (simp [*, errW_none, errW_some] <;> rfl))); (focus (repeat (first | (with_reducible first | exact HB.out | apply bA | apply bN | apply bD | refine bS ?_ GE248.out) | exact HB.out)))) | (exfalso; simp_all; done)
          ·
           rw [if_neg c59] at H
           have c59b0 : ((x249000_2.length : Int) == 0) = false := beq_eq_false_iff_ne.mpr c59
           have c59b1 : ((x249000_2.length : Int) != 0) = true := bne_iff_ne.mpr c59
           have c59b2 : ¬ (x249000_2 = []) := fun h_ => c59 (by rw [h_]; rfl)
           exact absurd H (by simp)
         ·
          replace c58 := Bool.eq_false_iff.mpr c58
          subst c58
          have H1 : (some false) = some true := by rw [if_neg (show ¬ (false = true) by decide)] at H; first | done | exact H
          clear H
          have H := H1
          clear H1
          exact absurd H (by simp)
        ·
         replace c56 := Bool.eq_false_iff.mpr c56
         subst c56
         have H1 : (some false) = some true := by rw [if_neg (show ¬ (false = true) by decide)] at H; first | done | exact H
         clear H
         have H := H1
         clear H1
         exact absurd H (by simp)
 ·
  replace c5 := Bool.eq_false_iff.mpr c5
  subst c5
  have H1 : (some t232) = some true := by rw [if_neg (show ¬ (false = true) by decide)] at H; first | done | exact H
  clear H
  have H := H1
  clear H1
  have HRL_ := Aside0.mk (Option.some.inj H)
  clear H
  go_enter Try.func5, Try.ntmps5
  go_wp2_with (first | ((with_reducible refine gate_callee (f := 7) rfl ?_); refine goesL_ (some 16) rfl rfl Try.func7 (by kernel_rfl) rfl #[] rfl (by (try simp only [List.map_toArray, List.map_cons, List.map_nil]); first | done | rfl | (simp only [List.length_drop, List.length_take]; rfl)) ?_; (with_reducible refine (ridgewaylaw04_awake.calls  t232 _ A3.out).mono ?_); rintro e w66 ⟨rfl, hb⟩; refine ⟨_, rfl, ?_⟩; have n0_ := Aside0.mk (Kd.V_below (by (with_reducible repeat (first | apply Kd.V_alloc | apply Kd.V_drewN | apply Kd.V_drew)); exact HO0.out) hb); have n1_ := Aside0.mk (below_step (by repeat (first | (with_reducible first | exact HB.out | apply bA | apply bN | apply bD) | exact HB.out)) hb); clear HO0; clear HB; have HO0 := n0_; have HB := n1_; clear n0_ n1_; (try clear hb); (try clear hb2); (try clear hk); (try clear hi)) | ((with_reducible refine gate_callee (f := 14) rfl ?_); refine goesL_ (some 18) rfl rfl Try.func14 (by kernel_rfl) rfl #[.slice A0 l0.length c0] rfl (by (try simp only [List.map_toArray, List.map_cons, List.map_nil]); first | done | rfl | (simp only [List.length_drop, List.length_take]; rfl)) ?_; (with_reducible refine (ridgewayref03_Few.calls k _ _ l0 false _ ?side1 ?side2 A4.out).mono ?_); (case side1 => repeat (first | exact (Kd.V_reads' HO0.out).2.2 | (with_reducible refine Kd.C_alloc ?_ _) | (with_reducible refine Kd.C_drewN ?_ _) | (with_reducible refine Kd.C_drew ?_))); (case side2 => exact (Kd.V_reads' HO0.out).2.1); rintro e w' ⟨rfl, ⟨nd, rfl⟩⟩; refine ⟨_, rfl, ?_⟩))
  all_goals first | (go_ret; refine ⟨?_, ?_⟩; (focus (first | rfl | (simp [errW_none, errW_some] <;> rfl) | (rw [HRL_.out] <;> rfl) | (simp only [HRL_.out] <;> rfl) | (have h_ := HRL_.out; simp at h_; simp [h_]; done) | (have h_ := HRL_.out; simp [*] at h_ ⊢; done) | (simp [*, errW_none, errW_some] <;> rfl))); (focus (repeat (first | (with_reducible first | exact HB.out | apply bA | apply bN | apply bD) | exact HB.out)))) | (exfalso; simp_all; done)

/-- THE ONE PURE STATEMENT of ridgewaylaw04_StreamBack. -/
def ridgewaylaw04_StreamBack.Pure : Prop := ∀ (l0 : List (S43)) (a1 : Int), (l0.length ≤ maxLen ∧ ∀ y ∈ l0, wf43 y) → ((Lit.int .i64 a1).wf = true) → ∃ k, ridgewaylaw04_StreamBack.f k l0 a1 = some true

end Go.Proofs.Ythkbpiagggeicaa.Q
