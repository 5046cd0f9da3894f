/- Each call of a Go function comes to what the Lean function of its name answers (written out by wip/tools/xprint.py, checked by Lean); conditions: those in each statement. -/
import Derived.Test.YtclddmjfgceemaaQx0
import Derived.Test.YtclddmjfgceemaaQx12
namespace Go.Proofs.Ytclddmjfgceemaa.Q
open Go.RowKit Go.Proofs.YtclddmjfgceemaaW.PrintWords Go.Proofs.YtclddmjfgceemaaW.PrintLast Go.Proofs.YtclddmjfgceemaaW.PrintMore Go.Proofs.YtclddmjfgceemaaW.PrintX
attribute [local go_sem] max2_int min2_int max_two min_two max_three min_three max_four min_four   -- for this text's walks alone
set_option linter.unusedVariables false
set_option linter.unusedSimpArgs false

/-! ### ridgewayref10_Reach: function 19 -/
mutual
def ridgewayref10_Reach.l0 : Nat → List (S31) → Int → List (S31) → Int → Option ((List (S31)))
 | 0, _, _, _, _ => none
 | k + 1, x0, x1, x5, x6 => if x6 < (x0.length : Int) then (if 0 ≤ x6 then (if ((rd_T31 x0 x6).f0) = 4 then (ridgewayref10_Reach.j1 k x0 x1 x5 x6 (((rd_T31 x0 x6).f2) == x1)) else (ridgewayref10_Reach.j1 k x0 x1 x5 x6 true)) else (none)) else (some x5)
def ridgewayref10_Reach.j1 : Nat → List (S31) → Int → List (S31) → Int → Bool → Option ((List (S31)))
 | 0, _, _, _, _, _ => none
 | k + 1, x0, x1, x5, x6, x27 => if x27 = true then (if 0 ≤ x6 then (if x6 < (x0.length : Int) then (if x5.length < 2932031007402 then ((some (x5 ++ [(⟨(rd_T31 x0 x6).f0, (⟨(rd_T31 x0 x6).f1.f0, (rd_T31 x0 x6).f1.f1⟩ : S24), (rd_T31 x0 x6).f2, (rd_T31 x0 x6).f3, (rd_T31 x0 x6).f4⟩ : S31)] : List (S31))).bind fun y189 => ((ridgewayref10_Total.f ((rd_T31 x0 x6).f0) ((rd_T31 x0 x6).f1.f0) ((rd_T31 x0 x6).f1.f1) ((rd_T31 x0 x6).f2) ((rd_T31 x0 x6).f3) ((rd_T31 x0 x6).f4) x1).bind fun t193 => (if t193 = true then (some y189) else (ridgewayref10_Reach.l0 k x0 x1 y189 (wrap64 (x6 + 1)))))) else (none)) else (none)) else (none)) else (if 0 ≤ x6 then (if x6 < (x0.length : Int) then ((ridgewayref10_Total.f ((rd_T31 x0 x6).f0) ((rd_T31 x0 x6).f1.f0) ((rd_T31 x0 x6).f1.f1) ((rd_T31 x0 x6).f2) ((rd_T31 x0 x6).f3) ((rd_T31 x0 x6).f4) x1).bind fun t195 => (if t195 = true then (some x5) else (ridgewayref10_Reach.l0 k x0 x1 x5 (wrap64 (x6 + 1))))) else (none)) else (none))
end
def ridgewayref10_Reach.f (k : Nat) (l0 : List (S31)) (a1 : Int) : Option ((List (S31))) := ridgewayref10_Reach.l0 k l0 a1 ([] : List (S31)) 0
theorem ridgewayref10_Reach.mono_l : ∀ k, (∀ y0 y1 y2 y3, LeO (ridgewayref10_Reach.l0 k y0 y1 y2 y3) (ridgewayref10_Reach.l0 (k + 1) y0 y1 y2 y3)) ∧ (∀ y0 y1 y2 y3 y4, LeO (ridgewayref10_Reach.j1 k y0 y1 y2 y3 y4) (ridgewayref10_Reach.j1 (k + 1) y0 y1 y2 y3 y4))
 | 0 => ⟨fun _ _ _ _ r h => by simp [ridgewayref10_Reach.l0] at h, fun _ _ _ _ _ r h => by simp [ridgewayref10_Reach.j1] at h⟩
 | k + 1 => by
  obtain ⟨ih0, ih1⟩ := ridgewayref10_Reach.mono_l k
  refine ⟨?_, ?_⟩
  ·
   intro y0 y1 y2 y3
   unfold ridgewayref10_Reach.l0
   repeat' first
   | (with_reducible exact ih0 _ _ _ _)
   | (with_reducible exact ih1 _ _ _ _ _)
   | (with_reducible exact LeO.refl _)
   | (with_reducible exact LeO.none _)
   | (with_reducible refine LeO.ite ?_ ?_)
   | (with_reducible refine LeO.bind ?_ (fun _ => ?_))
   | exact ih0 _ _ _ _
   | exact ih1 _ _ _ _ _
   | exact LeO.none _
   | refine LeO.ite ?_ ?_
   | refine LeO.bind ?_ (fun _ => ?_)
  ·
   intro y0 y1 y2 y3 y4
   unfold ridgewayref10_Reach.j1
   repeat' first
   | (with_reducible exact ih0 _ _ _ _)
   | (with_reducible exact ih1 _ _ _ _ _)
   | (with_reducible exact LeO.refl _)
   | (with_reducible exact LeO.none _)
   | (with_reducible refine LeO.ite ?_ ?_)
   | (with_reducible refine LeO.bind ?_ (fun _ => ?_))
   | exact ih0 _ _ _ _
   | exact ih1 _ _ _ _ _
   | exact LeO.none _
   | refine LeO.ite ?_ ?_
   | refine LeO.bind ?_ (fun _ => ?_)
theorem ridgewayref10_Reach.mono : ∀ a0 a1 k, LeO (ridgewayref10_Reach.f k a0 a1) (ridgewayref10_Reach.f (k + 1) a0 a1) := by
 intro a0 a1 k
 obtain ⟨ih0, ih1⟩ := ridgewayref10_Reach.mono_l k
 unfold ridgewayref10_Reach.f
 repeat' first
   | (with_reducible exact ih0 _ _ _ _)
   | (with_reducible exact ih1 _ _ _ _ _)
   | (with_reducible exact LeO.refl _)
   | (with_reducible exact LeO.none _)
   | (with_reducible refine LeO.ite ?_ ?_)
   | (with_reducible refine LeO.bind ?_ (fun _ => ?_))
   | exact ih0 _ _ _ _
   | exact ih1 _ _ _ _ _
   | exact LeO.none _
   | refine LeO.ite ?_ ?_
   | refine LeO.bind ?_ (fun _ => ?_)
set_option maxHeartbeats 8000000 in
set_option maxRecDepth 100000 in
theorem ridgewayref10_Reach.calls (k : Nat) (A0 : Option Addr) (c0 : Nat) (l0 : List (S31)) (a1 : Int) (r : List (S31)) (w : World) (hr0 : Kd.C k31 w A0 l0.length l0) (hc0 : l0.length ≤ c0) (h : ridgewayref10_Reach.f k l0 a1 = some r) :
  Calls Try.prog 19 #[.slice A0 l0.length c0, .int .i64 a1] w fun e w' => ∃ v0_ : Value, e = .returned (v0_) ∧ Kd.R k31 31 w' w.heap.size (fun _ => True) v0_ r ∧ Below w.heap.size w w' := by
 have hu31 := Try.underlying31
 have HR0 := Aside0.mk hr0
 have HC0 := Aside0.mk hc0
 clear hr0 hc0
 have HB := Aside0.mk (Below.refl w.heap.size w)
 have H : (ridgewayref10_Reach.l0 k l0 a1 ([] : List (S31)) 0) = some r := h
 clear h
 have H' := Aside0.mk H
 clear H
 go_enter Try.func19, Try.ntmps19
 go_wp2
 go_loopg [5, 6] k (fun kq v5 v6 w' => ∃ (x5_1 : List (S31)) (x6_1 : Int), v6 = .int .i64 x6_1 ∧ Aside0 (ridgewayref10_Reach.l0 kq l0 a1 x5_1 x6_1 = some r) ∧ Aside0 (kq ≤ k) ∧ Aside0 (Kd.R k31 31 w' w.heap.size (fun _ => True) v5 x5_1) ∧ Aside0 (Below w.heap.size w w'))
 case atStart => exact ⟨(([] : List (S31))), (0), (by first | rfl | (simp; done) | (simp [*]; done)), H', ⟨Nat.le_refl _⟩, ⟨by first | exact Kd.R_nil _ _ _ _ _ | exact Kd.N_nil _ _ _ _ _ | exact Kd.V_nil _ _ _ _ _ | exact Kd.Q_nil _ _ _ _ _ | exact Kd.S_nil _ _ _ _ _⟩, ⟨by repeat (first | (with_reducible first | exact HB.out | apply bA | apply bN | apply bD) | exact HB.out)⟩⟩
 case round =>
  clear H'
  try clear c1
  try clear p2
  obtain ⟨x5_1, x6_1, rfl, HA, HK1, HO_5, HB⟩ := hrel
  cases gk with
  | zero => exact absurd HA.out (by simp [ridgewayref10_Reach.l0])
  | succ k1 =>
   have H := HA.out
   clear HA
   simp only [ridgewayref10_Reach.l0] at H
   by_cases c3 : x6_1 < (l0.length : Int)
   ·
    rw [if_pos c3] at H
    have c3b0 : decide (x6_1 < (l0.length : Int)) = true := decide_eq_true c3
    clear c3
    have HC4 := Aside0.mk H
    clear H
    go_upto_region 5 with (fail)
    go_cut [27] (fun v27 wc => ∃ (kq : Nat) (x27_3 : Bool), v27 = .bool x27_3 ∧ Aside0 (ridgewayref10_Reach.j1 kq l0 a1 x5_1 x6_1 x27_3 = some r) ∧ Aside0 (kq ≤ k1) ∧ Aside0 (Kd.R k31 31 wc w.heap.size (fun _ => True) u5 x5_1) ∧ Aside0 (Below w.heap.size w wc))
    case first =>
     have H := HC4.out
     clear HC4
     by_cases c5 : 0 ≤ x6_1
     ·
      rw [if_pos c5] at H
      have c5b0 : decide (0 ≤ x6_1) = true := decide_eq_true c5
      clear c5
      (first | rw [c5b0] | (simp only [i64_w, i32_w]; rw [c5b0]) | skip)
      by_cases c6 : ((rd_T31 l0 x6_1).f0) = 4
      ·
       rw [if_pos c6] at H
       have c6b0 : (((rd_T31 l0 x6_1).f0) == 4) = true := beq_iff_eq.mpr c6
       have c6b1 : (((rd_T31 l0 x6_1).f0) != 4) = false := bne_eq_false_iff_eq.mpr c6
       clear c6
       have H' := Aside0.mk H
       clear H
       have p186 : 0 ≤ (x6_1 : Int) := of_decide_eq_true (by first | (with_reducible assumption) | assumption)
       have q186 : x6_1 < (l0.length : Int) := of_decide_eq_true (by first | (with_reducible assumption) | assumption)
       obtain ⟨ad186, e186, hx186_0, hx186_1, hx186_2, hx186_3, hx186_4, hx186_5⟩ := at_T31 HR0.out x6_1 p186 q186
       cases e186
       replace hx186_0 := cB HB.out hx186_0
       replace hx186_1 := cB HB.out hx186_1
       replace hx186_2 := cB HB.out hx186_2
       replace hx186_3 := cB HB.out hx186_3
       replace hx186_4 := cB HB.out hx186_4
       replace hx186_5 := cB HB.out hx186_5
       replace p186 := eq_true p186
       replace q186 := eq_true q186
       have p187 : 0 ≤ (x6_1 : Int) := of_decide_eq_true (by first | (with_reducible assumption) | assumption)
       have q187 : x6_1 < (l0.length : Int) := of_decide_eq_true (by first | (with_reducible assumption) | assumption)
       obtain ⟨ad187, e187, hx187_0, hx187_1, hx187_2, hx187_3, hx187_4, hx187_5⟩ := at_T31 HR0.out x6_1 p187 q187
       obtain rfl : ad186 = ad187 := (by injection e187)
       replace hx187_0 := cB HB.out hx187_0
       replace hx187_1 := cB HB.out hx187_1
       replace hx187_2 := cB HB.out hx187_2
       replace hx187_3 := cB HB.out hx187_3
       replace hx187_4 := cB HB.out hx187_4
       replace hx187_5 := cB HB.out hx187_5
       replace p187 := eq_true p187
       replace q187 := eq_true q187
       go_wp2
       go_meet
       case rel => exact ⟨_, ((((rd_T31 l0 x6_1).f2) == a1)), (by first | rfl | (simp; done) | (simp [*]; done)), H', ⟨by have := HK1.out; first | omega | exact Nat.le_refl _⟩, ⟨by (with_reducible repeat (first | apply Kd.R_alloc | apply Kd.R_drewN | apply Kd.R_drew)); exact HO_5.out⟩, ⟨by repeat (first | (with_reducible first | exact HB.out | apply bA | apply bN | apply bD) | exact HB.out)⟩⟩
      ·
       rw [if_neg c6] at H
       have c6b0 : (((rd_T31 l0 x6_1).f0) == 4) = false := beq_eq_false_iff_ne.mpr c6
       have c6b1 : (((rd_T31 l0 x6_1).f0) != 4) = true := bne_iff_ne.mpr c6
       have H' := Aside0.mk H
       clear H
       have p186 : 0 ≤ (x6_1 : Int) := of_decide_eq_true (by first | (with_reducible assumption) | assumption)
       have q186 : x6_1 < (l0.length : Int) := of_decide_eq_true (by first | (with_reducible assumption) | assumption)
       obtain ⟨ad186, e186, hx186_0, hx186_1, hx186_2, hx186_3, hx186_4, hx186_5⟩ := at_T31 HR0.out x6_1 p186 q186
       cases e186
       replace hx186_0 := cB HB.out hx186_0
       replace hx186_1 := cB HB.out hx186_1
       replace hx186_2 := cB HB.out hx186_2
       replace hx186_3 := cB HB.out hx186_3
       replace hx186_4 := cB HB.out hx186_4
       replace hx186_5 := cB HB.out hx186_5
       replace p186 := eq_true p186
       replace q186 := eq_true q186
       go_wp2
       go_meet
       case rel => exact ⟨_, (true), (by first | rfl | (simp; done) | (simp [*]; done)), H', ⟨by have := HK1.out; first | omega | exact Nat.le_refl _⟩, ⟨by (with_reducible repeat (first | apply Kd.R_alloc | apply Kd.R_drewN | apply Kd.R_drew)); exact HO_5.out⟩, ⟨by repeat (first | (with_reducible first | exact HB.out | apply bA | apply bN | apply bD) | exact HB.out)⟩⟩
     ·
      rw [if_neg c5] at H
      exact absurd H (by simp)
    case rest =>
     clear HC4
     try clear c1
     try clear p1
     try clear q1
     try clear hx1
     try clear p2
     try clear c3
     try clear c3b0
     try clear c5
     try clear c5b0
     try clear c6
     try clear c6b0
     try clear c6b1
     try clear hx186_0
     try clear hx186_1
     try clear hx186_2
     try clear hx186_3
     try clear hx186_4
     try clear hx186_5
     try clear hx187_0
     try clear hx187_1
     try clear hx187_2
     try clear hx187_3
     try clear hx187_4
     try clear hx187_5
     try clear p186
     try clear p187
     try clear p2
     try clear q186
     try clear q187
     obtain ⟨kq, x27_3, rfl, HA, HJ3, HO_5, HB⟩ := hcut
     cases kq with
     | zero => exact absurd HA.out (by simp [ridgewayref10_Reach.j1])
     | succ kj3 =>
      have H := HA.out
      clear HA
      simp only [ridgewayref10_Reach.j1] at H
      by_cases c7 : x27_3 = true
      ·
       subst c7
       have H1 : (if 0 ≤ x6_1 then (if x6_1 < (l0.length : Int) then (if x5_1.length < 2932031007402 then ((some (x5_1 ++ [(⟨(rd_T31 l0 x6_1).f0, (⟨(rd_T31 l0 x6_1).f1.f0, (rd_T31 l0 x6_1).f1.f1⟩ : S24), (rd_T31 l0 x6_1).f2, (rd_T31 l0 x6_1).f3, (rd_T31 l0 x6_1).f4⟩ : S31)] : List (S31))).bind fun y189 => ((ridgewayref10_Total.f ((rd_T31 l0 x6_1).f0) ((rd_T31 l0 x6_1).f1.f0) ((rd_T31 l0 x6_1).f1.f1) ((rd_T31 l0 x6_1).f2) ((rd_T31 l0 x6_1).f3) ((rd_T31 l0 x6_1).f4) a1).bind fun t193 => (if t193 = true then (some y189) else (ridgewayref10_Reach.l0 kj3 l0 a1 y189 (wrap64 (x6_1 + 1)))))) else (none)) else (none)) else (none)) = some r := by rw [if_pos rfl] at H; first | done | exact H
       clear H
       have H := H1
       clear H1
       by_cases c8 : 0 ≤ x6_1
       ·
        rw [if_pos c8] at H
        have c8b0 : decide (0 ≤ x6_1) = true := decide_eq_true c8
        clear c8
        by_cases c9 : x6_1 < (l0.length : Int)
        ·
         rw [if_pos c9] at H
         have c9b0 : decide (x6_1 < (l0.length : Int)) = true := decide_eq_true c9
         clear c9
         by_cases c10 : x5_1.length < 2932031007402
         ·
          rw [if_pos c10] at H
          have LMc10 := Aside0.mk c10
          clear c10
          obtain ⟨y189, hy189⟩ : ∃ y_ : List (S31), y_ = (x5_1 ++ [(⟨(rd_T31 l0 x6_1).f0, (⟨(rd_T31 l0 x6_1).f1.f0, (rd_T31 l0 x6_1).f1.f1⟩ : S24), (rd_T31 l0 x6_1).f2, (rd_T31 l0 x6_1).f3, (rd_T31 l0 x6_1).f4⟩ : S31)]) := ⟨_, rfl⟩
          replace H : ((ridgewayref10_Total.f ((rd_T31 l0 x6_1).f0) ((rd_T31 l0 x6_1).f1.f0) ((rd_T31 l0 x6_1).f1.f1) ((rd_T31 l0 x6_1).f2) ((rd_T31 l0 x6_1).f3) ((rd_T31 l0 x6_1).f4) a1).bind fun t193 => (if t193 = true then (some y189) else (ridgewayref10_Reach.l0 kj3 l0 a1 y189 (wrap64 (x6_1 + 1))))) = some r := by first | (rw [hy189]; with_reducible exact H) | (have H2_ := (Option.bind_some _ _).symm.trans H; rw [hy189]; with_reducible exact H2_) | (have H2_ := (Option.bind_some _ _).symm.trans H; with_reducible exact H2_) | with_reducible exact H | (rw [hy189]; exact H) | exact H
          have Ny189 := Aside0.mk hy189
          clear hy189
          replace H := Option.bind_eq_some_iff.mp H
          obtain ⟨t193, A110, H⟩ := H
          replace H : (if t193 = true then (some y189) else (ridgewayref10_Reach.l0 kj3 l0 a1 y189 (wrap64 (x6_1 + 1)))) = some r := H
          have A11 := Aside0.mk A110
          clear A110
          by_cases c12 : t193 = true
          ·
           subst c12
           have H1 : (some y189) = some r := by rw [if_pos rfl] at H; first | done | exact H
           clear H
           have H := H1
           clear H1
           obtain rfl := Option.some.inj H
           have p188 : 0 ≤ (x6_1 : Int) := of_decide_eq_true (by first | (with_reducible assumption) | assumption)
           have q188 : x6_1 < (l0.length : Int) := of_decide_eq_true (by first | (with_reducible assumption) | assumption)
           obtain ⟨ad188, e188, hx188_0, hx188_1, hx188_2, hx188_3, hx188_4, hx188_5⟩ := at_T31 HR0.out x6_1 p188 q188
           cases e188
           replace hx188_0 := cB HB.out hx188_0
           replace hx188_1 := cB HB.out hx188_1
           replace hx188_2 := cB HB.out hx188_2
           replace hx188_3 := cB HB.out hx188_3
           replace hx188_4 := cB HB.out hx188_4
           replace hx188_5 := cB HB.out hx188_5
           replace p188 := eq_true p188
           replace q188 := eq_true q188
           go_wp2_with (first | ((with_reducible refine gate_builtin (b := .append) (xs := #[.tmp 28, .tmp 33]) rfl ?_); at_builtin; refine Kd.R_append k31 (w0 := w) w.heap.size rfl (.tmp 28) (.tmp 33) 22 31 (.agg #[(.int .i64 0), (.int .i64 0), (.int .i64 0), (.int .i64 0), (.int .i64 0), (.int .i64 0)]) 48 rfl Try.underlying22 info31 rfl (by decide) (by omega) u5 x5_1 (⟨(rd_T31 l0 x6_1).f0, (⟨(rd_T31 l0 x6_1).f1.f0, (rd_T31 l0 x6_1).f1.f1⟩ : S24), (rd_T31 l0 x6_1).f2, (rd_T31 l0 x6_1).f3, (rd_T31 l0 x6_1).f4⟩ : S31) [.int .i64 ((rd_T31 l0 x6_1).f0), .int .i64 ((rd_T31 l0 x6_1).f1.f0), .int .i64 ((rd_T31 l0 x6_1).f1.f1), .int .i64 ((rd_T31 l0 x6_1).f2), .int .i64 ((rd_T31 l0 x6_1).f3), .int .i64 ((rd_T31 l0 x6_1).f4)] (fun _ => True) (fun _ => False) rfl rfl ?aP (fun _ hk => hk.elim) ?aF ?aO ?aB ?aS ?aL ?_; (case aP => exact k31_mkM _ _ _ (⟨(rd_T31 l0 x6_1).f0, (⟨(rd_T31 l0 x6_1).f1.f0, (rd_T31 l0 x6_1).f1.f1⟩ : S24), (rd_T31 l0 x6_1).f2, (rd_T31 l0 x6_1).f3, (rd_T31 l0 x6_1).f4⟩ : S31)); (case aB => exact (by repeat (first | (with_reducible first | exact HB.out | apply bA | apply bN | apply bD) | exact HB.out))); (case aF => exact (fun _ _ => trivial)); (case aO => exact (by (with_reducible repeat (first | apply Kd.R_alloc | apply Kd.R_drewN | apply Kd.R_drew)); exact HO_5.out)); (case aS => exact (below_size (by repeat (first | (with_reducible first | exact HB.out | apply bA | apply bN | apply bD) | exact HB.out)))); (case aL => have := LMc10.out; omega); intro v190 w13 ho hb hg hat; rw [← Ny189.out] at ho; have n0_ := Aside0.mk (hb); have n1_ := Aside0.mk (ho); clear HB; clear HO_5; have HB := n0_; have HO191 := n1_; clear n0_ n1_; clear ho hb hg hat; have p192 : 0 ≤ (x6_1 : Int) := of_decide_eq_true (by first | (with_reducible assumption) | assumption); have q192 : x6_1 < (l0.length : Int) := of_decide_eq_true (by first | (with_reducible assumption) | assumption); obtain ⟨ad192, e192, hx192_0, hx192_1, hx192_2, hx192_3, hx192_4, hx192_5⟩ := at_T31 HR0.out x6_1 p192 q192; obtain rfl : ad188 = ad192 := (by injection e192); replace hx192_0 := cB HB.out hx192_0; replace hx192_1 := cB HB.out hx192_1; replace hx192_2 := cB HB.out hx192_2; replace hx192_3 := cB HB.out hx192_3; replace hx192_4 := cB HB.out hx192_4; replace hx192_5 := cB HB.out hx192_5; replace p192 := eq_true p192; replace q192 := eq_true q192) | ((with_reducible refine gate_callee (f := 14) rfl ?_); refine goesL_ (some 40) rfl rfl Try.func14 (by kernel_rfl) rfl #[.agg #[.int .i64 ((rd_T31 l0 x6_1).f0), .int .i64 ((rd_T31 l0 x6_1).f1.f0), .int .i64 ((rd_T31 l0 x6_1).f1.f1), .int .i64 ((rd_T31 l0 x6_1).f2), .int .i64 ((rd_T31 l0 x6_1).f3), .int .i64 ((rd_T31 l0 x6_1).f4)], .int .i64 a1] rfl (by (try simp only [List.map_toArray, List.map_cons, List.map_nil]); first | done | rfl | (simp only [List.length_drop, List.length_take]; rfl)) ?_; (with_reducible refine (ridgewayref10_Total.calls ((rd_T31 l0 x6_1).f0) ((rd_T31 l0 x6_1).f1.f0) ((rd_T31 l0 x6_1).f1.f1) ((rd_T31 l0 x6_1).f2) ((rd_T31 l0 x6_1).f3) ((rd_T31 l0 x6_1).f4) a1 true _ A11.out).mono ?_); rintro e w14 ⟨rfl, hb⟩; refine ⟨_, rfl, ?_⟩; have n0_ := Aside0.mk (Kd.R_below (by (with_reducible repeat (first | apply Kd.R_alloc | apply Kd.R_drewN | apply Kd.R_drew)); exact HO191.out) hb); have n1_ := Aside0.mk (below_step (by repeat (first | (with_reducible first | exact HB.out | apply bA | apply bN | apply bD) | exact HB.out)) hb); clear HO191; clear HB; have HO191 := n0_; have HB := n1_; clear n0_ n1_; (try clear hb); (try clear hb2); (try clear hk); (try clear hi)))
           go_ret
           exact ⟨_, by first | rfl | (simp <;> rfl) | (simp [*] <;> rfl), by (with_reducible repeat (first | apply Kd.R_alloc | apply Kd.R_drewN | apply Kd.R_drew)); exact HO191.out, by repeat (first | (with_reducible first | exact HB.out | apply bA | apply bN | apply bD) | exact HB.out)⟩
          ·
           replace c12 := Bool.eq_false_iff.mpr c12
           subst c12
           have H1 : (ridgewayref10_Reach.l0 kj3 l0 a1 y189 (wrap64 (x6_1 + 1))) = some r := by rw [if_neg (show ¬ (false = true) by decide)] at H; first | done | exact H
           clear H
           have H := H1
           clear H1
           have H' := Aside0.mk H
           clear H
           have p188 : 0 ≤ (x6_1 : Int) := of_decide_eq_true (by first | (with_reducible assumption) | assumption)
           have q188 : x6_1 < (l0.length : Int) := of_decide_eq_true (by first | (with_reducible assumption) | assumption)
           obtain ⟨ad188, e188, hx188_0, hx188_1, hx188_2, hx188_3, hx188_4, hx188_5⟩ := at_T31 HR0.out x6_1 p188 q188
           cases e188
           replace hx188_0 := cB HB.out hx188_0
           replace hx188_1 := cB HB.out hx188_1
           replace hx188_2 := cB HB.out hx188_2
           replace hx188_3 := cB HB.out hx188_3
           replace hx188_4 := cB HB.out hx188_4
           replace hx188_5 := cB HB.out hx188_5
           replace p188 := eq_true p188
           replace q188 := eq_true q188
           go_wp2_with (first | ((with_reducible refine gate_builtin (b := .append) (xs := #[.tmp 28, .tmp 33]) rfl ?_); at_builtin; refine Kd.R_append k31 (w0 := w) w.heap.size rfl (.tmp 28) (.tmp 33) 22 31 (.agg #[(.int .i64 0), (.int .i64 0), (.int .i64 0), (.int .i64 0), (.int .i64 0), (.int .i64 0)]) 48 rfl Try.underlying22 info31 rfl (by decide) (by omega) u5 x5_1 (⟨(rd_T31 l0 x6_1).f0, (⟨(rd_T31 l0 x6_1).f1.f0, (rd_T31 l0 x6_1).f1.f1⟩ : S24), (rd_T31 l0 x6_1).f2, (rd_T31 l0 x6_1).f3, (rd_T31 l0 x6_1).f4⟩ : S31) [.int .i64 ((rd_T31 l0 x6_1).f0), .int .i64 ((rd_T31 l0 x6_1).f1.f0), .int .i64 ((rd_T31 l0 x6_1).f1.f1), .int .i64 ((rd_T31 l0 x6_1).f2), .int .i64 ((rd_T31 l0 x6_1).f3), .int .i64 ((rd_T31 l0 x6_1).f4)] (fun _ => True) (fun _ => False) rfl rfl ?aP (fun _ hk => hk.elim) ?aF ?aO ?aB ?aS ?aL ?_; (case aP => exact k31_mkM _ _ _ (⟨(rd_T31 l0 x6_1).f0, (⟨(rd_T31 l0 x6_1).f1.f0, (rd_T31 l0 x6_1).f1.f1⟩ : S24), (rd_T31 l0 x6_1).f2, (rd_T31 l0 x6_1).f3, (rd_T31 l0 x6_1).f4⟩ : S31)); (case aB => exact (by repeat (first | (with_reducible first | exact HB.out | apply bA | apply bN | apply bD) | exact HB.out))); (case aF => exact (fun _ _ => trivial)); (case aO => exact (by (with_reducible repeat (first | apply Kd.R_alloc | apply Kd.R_drewN | apply Kd.R_drew)); exact HO_5.out)); (case aS => exact (below_size (by repeat (first | (with_reducible first | exact HB.out | apply bA | apply bN | apply bD) | exact HB.out)))); (case aL => have := LMc10.out; omega); intro v190 w15 ho hb hg hat; rw [← Ny189.out] at ho; have n0_ := Aside0.mk (hb); have n1_ := Aside0.mk (ho); clear HB; clear HO_5; have HB := n0_; have HO191 := n1_; clear n0_ n1_; clear ho hb hg hat; have p192 : 0 ≤ (x6_1 : Int) := of_decide_eq_true (by first | (with_reducible assumption) | assumption); have q192 : x6_1 < (l0.length : Int) := of_decide_eq_true (by first | (with_reducible assumption) | assumption); obtain ⟨ad192, e192, hx192_0, hx192_1, hx192_2, hx192_3, hx192_4, hx192_5⟩ := at_T31 HR0.out x6_1 p192 q192; obtain rfl : ad188 = ad192 := (by injection e192); replace hx192_0 := cB HB.out hx192_0; replace hx192_1 := cB HB.out hx192_1; replace hx192_2 := cB HB.out hx192_2; replace hx192_3 := cB HB.out hx192_3; replace hx192_4 := cB HB.out hx192_4; replace hx192_5 := cB HB.out hx192_5; replace p192 := eq_true p192; replace q192 := eq_true q192) | ((with_reducible refine gate_callee (f := 14) rfl ?_); refine goesL_ (some 40) rfl rfl Try.func14 (by kernel_rfl) rfl #[.agg #[.int .i64 ((rd_T31 l0 x6_1).f0), .int .i64 ((rd_T31 l0 x6_1).f1.f0), .int .i64 ((rd_T31 l0 x6_1).f1.f1), .int .i64 ((rd_T31 l0 x6_1).f2), .int .i64 ((rd_T31 l0 x6_1).f3), .int .i64 ((rd_T31 l0 x6_1).f4)], .int .i64 a1] rfl (by (try simp only [List.map_toArray, List.map_cons, List.map_nil]); first | done | rfl | (simp only [List.length_drop, List.length_take]; rfl)) ?_; (with_reducible refine (ridgewayref10_Total.calls ((rd_T31 l0 x6_1).f0) ((rd_T31 l0 x6_1).f1.f0) ((rd_T31 l0 x6_1).f1.f1) ((rd_T31 l0 x6_1).f2) ((rd_T31 l0 x6_1).f3) ((rd_T31 l0 x6_1).f4) a1 false _ A11.out).mono ?_); rintro e w16 ⟨rfl, hb⟩; refine ⟨_, rfl, ?_⟩; have n0_ := Aside0.mk (Kd.R_below (by (with_reducible repeat (first | apply Kd.R_alloc | apply Kd.R_drewN | apply Kd.R_drew)); exact HO191.out) hb); have n1_ := Aside0.mk (below_step (by repeat (first | (with_reducible first | exact HB.out | apply bA | apply bN | apply bD) | exact HB.out)) hb); clear HO191; clear HB; have HO191 := n0_; have HB := n1_; clear n0_ n1_; (try clear hb); (try clear hb2); (try clear hk); (try clear hi)))
           go_roundg kj3
           case measure => have := HK1.out; have := HJ3.out; omega
           case rel => exact ⟨(y189), (wrap64 (x6_1 + 1)), (by first | rfl | (simp; done) | (simp [*]; done)), H', ⟨by have := HK1.out; have := HJ3.out; omega⟩, ⟨by (with_reducible repeat (first | apply Kd.R_alloc | apply Kd.R_drewN | apply Kd.R_drew)); exact HO191.out⟩, ⟨by repeat (first | (with_reducible first | exact HB.out | apply bA | apply bN | apply bD) | exact HB.out)⟩⟩
         ·
          rw [if_neg c10] at H
          exact absurd H (by simp)
        ·
         rw [if_neg c9] at H
         exact absurd H (by simp)
       ·
        rw [if_neg c8] at H
        exact absurd H (by simp)
      ·
       replace c7 := Bool.eq_false_iff.mpr c7
       subst c7
       have H1 : (if 0 ≤ x6_1 then (if x6_1 < (l0.length : Int) then ((ridgewayref10_Total.f ((rd_T31 l0 x6_1).f0) ((rd_T31 l0 x6_1).f1.f0) ((rd_T31 l0 x6_1).f1.f1) ((rd_T31 l0 x6_1).f2) ((rd_T31 l0 x6_1).f3) ((rd_T31 l0 x6_1).f4) a1).bind fun t195 => (if t195 = true then (some x5_1) else (ridgewayref10_Reach.l0 kj3 l0 a1 x5_1 (wrap64 (x6_1 + 1))))) else (none)) else (none)) = some r := by rw [if_neg (show ¬ (false = true) by decide)] at H; first | done | exact H
       clear H
       have H := H1
       clear H1
       by_cases c17 : 0 ≤ x6_1
       ·
        rw [if_pos c17] at H
        have c17b0 : decide (0 ≤ x6_1) = true := decide_eq_true c17
        clear c17
        by_cases c18 : x6_1 < (l0.length : Int)
        ·
         rw [if_pos c18] at H
         have c18b0 : decide (x6_1 < (l0.length : Int)) = true := decide_eq_true c18
         clear c18
         replace H := Option.bind_eq_some_iff.mp H
         obtain ⟨t195, A190, H⟩ := H
         replace H : (if t195 = true then (some x5_1) else (ridgewayref10_Reach.l0 kj3 l0 a1 x5_1 (wrap64 (x6_1 + 1)))) = some r := H
         have A19 := Aside0.mk A190
         clear A190
         by_cases c20 : t195 = true
         ·
          subst c20
          have H1 : (some x5_1) = some r := by rw [if_pos rfl] at H; first | done | exact H
          clear H
          have H := H1
          clear H1
          obtain rfl := Option.some.inj H
          have p194 : 0 ≤ (x6_1 : Int) := of_decide_eq_true (by first | (with_reducible assumption) | assumption)
          have q194 : x6_1 < (l0.length : Int) := of_decide_eq_true (by first | (with_reducible assumption) | assumption)
          obtain ⟨ad194, e194, hx194_0, hx194_1, hx194_2, hx194_3, hx194_4, hx194_5⟩ := at_T31 HR0.out x6_1 p194 q194
          cases e194
          replace hx194_0 := cB HB.out hx194_0
          replace hx194_1 := cB HB.out hx194_1
          replace hx194_2 := cB HB.out hx194_2
          replace hx194_3 := cB HB.out hx194_3
          replace hx194_4 := cB HB.out hx194_4
          replace hx194_5 := cB HB.out hx194_5
          replace p194 := eq_true p194
          replace q194 := eq_true q194
          go_wp2_with (first | ((with_reducible refine gate_callee (f := 14) rfl ?_); refine goesL_ (some 40) rfl rfl Try.func14 (by kernel_rfl) rfl #[.agg #[.int .i64 ((rd_T31 l0 x6_1).f0), .int .i64 ((rd_T31 l0 x6_1).f1.f0), .int .i64 ((rd_T31 l0 x6_1).f1.f1), .int .i64 ((rd_T31 l0 x6_1).f2), .int .i64 ((rd_T31 l0 x6_1).f3), .int .i64 ((rd_T31 l0 x6_1).f4)], .int .i64 a1] rfl (by (try simp only [List.map_toArray, List.map_cons, List.map_nil]); first | done | rfl | (simp only [List.length_drop, List.length_take]; rfl)) ?_; (with_reducible refine (ridgewayref10_Total.calls ((rd_T31 l0 x6_1).f0) ((rd_T31 l0 x6_1).f1.f0) ((rd_T31 l0 x6_1).f1.f1) ((rd_T31 l0 x6_1).f2) ((rd_T31 l0 x6_1).f3) ((rd_T31 l0 x6_1).f4) a1 true _ A19.out).mono ?_); rintro e w21 ⟨rfl, hb⟩; refine ⟨_, rfl, ?_⟩; have n0_ := Aside0.mk (Kd.R_below (by (with_reducible repeat (first | apply Kd.R_alloc | apply Kd.R_drewN | apply Kd.R_drew)); exact HO_5.out) hb); have n1_ := Aside0.mk (below_step (by repeat (first | (with_reducible first | exact HB.out | apply bA | apply bN | apply bD) | exact HB.out)) hb); clear HO_5; clear HB; have HO_5 := n0_; have HB := n1_; clear n0_ n1_; (try clear hb); (try clear hb2); (try clear hk); (try clear hi)))
          go_ret
          exact ⟨_, by first | rfl | (simp <;> rfl) | (simp [*] <;> rfl), by (with_reducible repeat (first | apply Kd.R_alloc | apply Kd.R_drewN | apply Kd.R_drew)); exact HO_5.out, by repeat (first | (with_reducible first | exact HB.out | apply bA | apply bN | apply bD) | exact HB.out)⟩
         ·
          replace c20 := Bool.eq_false_iff.mpr c20
          subst c20
          have H1 : (ridgewayref10_Reach.l0 kj3 l0 a1 x5_1 (wrap64 (x6_1 + 1))) = some r := by rw [if_neg (show ¬ (false = true) by decide)] at H; first | done | exact H
          clear H
          have H := H1
          clear H1
          have H' := Aside0.mk H
          clear H
          have p194 : 0 ≤ (x6_1 : Int) := of_decide_eq_true (by first | (with_reducible assumption) | assumption)
          have q194 : x6_1 < (l0.length : Int) := of_decide_eq_true (by first | (with_reducible assumption) | assumption)
          obtain ⟨ad194, e194, hx194_0, hx194_1, hx194_2, hx194_3, hx194_4, hx194_5⟩ := at_T31 HR0.out x6_1 p194 q194
          cases e194
          replace hx194_0 := cB HB.out hx194_0
          replace hx194_1 := cB HB.out hx194_1
          replace hx194_2 := cB HB.out hx194_2
          replace hx194_3 := cB HB.out hx194_3
          replace hx194_4 := cB HB.out hx194_4
          replace hx194_5 := cB HB.out hx194_5
          replace p194 := eq_true p194
          replace q194 := eq_true q194
          go_wp2_with (first | ((with_reducible refine gate_callee (f := 14) rfl ?_); refine goesL_ (some 40) rfl rfl Try.func14 (by kernel_rfl) rfl #[.agg #[.int .i64 ((rd_T31 l0 x6_1).f0), .int .i64 ((rd_T31 l0 x6_1).f1.f0), .int .i64 ((rd_T31 l0 x6_1).f1.f1), .int .i64 ((rd_T31 l0 x6_1).f2), .int .i64 ((rd_T31 l0 x6_1).f3), .int .i64 ((rd_T31 l0 x6_1).f4)], .int .i64 a1] rfl (by (try simp only [List.map_toArray, List.map_cons, List.map_nil]); first | done | rfl | (simp only [List.length_drop, List.length_take]; rfl)) ?_; (with_reducible refine (ridgewayref10_Total.calls ((rd_T31 l0 x6_1).f0) ((rd_T31 l0 x6_1).f1.f0) ((rd_T31 l0 x6_1).f1.f1) ((rd_T31 l0 x6_1).f2) ((rd_T31 l0 x6_1).f3) ((rd_T31 l0 x6_1).f4) a1 false _ A19.out).mono ?_); rintro e w22 ⟨rfl, hb⟩; refine ⟨_, rfl, ?_⟩; have n0_ := Aside0.mk (Kd.R_below (by (with_reducible repeat (first | apply Kd.R_alloc | apply Kd.R_drewN | apply Kd.R_drew)); exact HO_5.out) hb); have n1_ := Aside0.mk (below_step (by repeat (first | (with_reducible first | exact HB.out | apply bA | apply bN | apply bD) | exact HB.out)) hb); clear HO_5; clear HB; have HO_5 := n0_; have HB := n1_; clear n0_ n1_; (try clear hb); (try clear hb2); (try clear hk); (try clear hi)))
          go_roundg kj3
          case measure => have := HK1.out; have := HJ3.out; omega
          case rel => exact ⟨(x5_1), (wrap64 (x6_1 + 1)), (by first | rfl | (simp; done) | (simp [*]; done)), H', ⟨by have := HK1.out; have := HJ3.out; omega⟩, ⟨by (with_reducible repeat (first | apply Kd.R_alloc | apply Kd.R_drewN | apply Kd.R_drew)); exact HO_5.out⟩, ⟨by repeat (first | (with_reducible first | exact HB.out | apply bA | apply bN | apply bD) | exact HB.out)⟩⟩
        ·
         rw [if_neg c18] at H
         exact absurd H (by simp)
       ·
        rw [if_neg c17] at H
        exact absurd H (by simp)
   ·
    rw [if_neg c3] at H
    have c3b0 : decide (x6_1 < (l0.length : Int)) = false := decide_eq_false c3
    clear c3
    obtain rfl := Option.some.inj H
    go_wp2
    go_ret
    exact ⟨_, by first | rfl | (simp <;> rfl) | (simp [*] <;> rfl), by (with_reducible repeat (first | apply Kd.R_alloc | apply Kd.R_drewN | apply Kd.R_drew)); exact HO_5.out, by repeat (first | (with_reducible first | exact HB.out | apply bA | apply bN | apply bD) | exact HB.out)⟩

end Go.Proofs.Ytclddmjfgceemaa.Q
