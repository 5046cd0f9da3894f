/- Each call of a Go function comes to what the Lean function of its name answers (written out by wip/tools/xprint.py, checked by Lean); conditions: those in each statement. -/
import Derived.Test.YtedahidfbplpkaaQx0
import Derived.Test.YtedahidfbplpkaaQx5
import Derived.Test.YtedahidfbplpkaaQx6
namespace Go.Proofs.Ytedahidfbplpkaa.Q
open Go.RowKit Go.Proofs.YtedahidfbplpkaaW.PrintWords Go.Proofs.YtedahidfbplpkaaW.PrintLast Go.Proofs.YtedahidfbplpkaaW.PrintMore Go.Proofs.YtedahidfbplpkaaW.PrintX
attribute [local go_sem] max2_int min2_int max_two min_two max_three min_three max_four min_four   -- for this text's walks alone
set_option linter.unusedVariables false
set_option linter.unusedSimpArgs false

/-! ### ridgewayref06_reader_caps: function 36 -/
mutual
def ridgewayref06_reader_caps.l0 : Nat → List Int → Int → Bool → Int → Int → Option (Int × Bool × Int × Int)
 | 0, _, _, _, _, _ => none
 | k + 1, x1, x1000, x1001, x1002, x1003 => if (x1.length : Int) > 0 then (ridgewayref06_reader_caps.j1 k x1 (decide (x1003 < 0)) x1000 x1001 x1002 x1003) else (ridgewayref06_reader_caps.j1 k x1 false x1000 x1001 x1002 x1003)
def ridgewayref06_reader_caps.j1 : Nat → List Int → Bool → Int → Bool → Int → Int → Option (Int × Bool × Int × Int)
 | 0, _, _, _, _, _, _ => none
 | k + 1, x1, x14, x1000, x1001, x1002, x1003 => if x14 = true then (if (x1.length : Int) < 2 then (ridgewayref06_reader_caps.j2 k x1 true x1000 x1001 x1002 x1003) else (if 1 < (x1.length : Int) then (ridgewayref06_reader_caps.j2 k x1 (decide ((x1.length : Int) < (wrap64 (2 + (wrap64 (rd x1 1)))))) x1000 x1001 x1002 x1003) else (none))) else (some (x1000, x1001, x1002, x1003))
def ridgewayref06_reader_caps.j2 : Nat → List Int → Bool → Int → Bool → Int → Int → Option (Int × Bool × Int × Int)
 | 0, _, _, _, _, _, _ => none
 | k + 1, x1, x27, x1000, x1001, x1002, x1003 => if x27 = true then ((ridgewayref06_reader_wrong.f x1000 x1001 x1002 x1003 0).bind fun bt214 => (some (bt214.1, bt214.2.1, bt214.2.2.1, bt214.2.2.2))) else (if 1 < (x1.length : Int) then (if 0 < (x1.length : Int) then (if 2 ≤ (wrap64 (2 + (wrap64 (rd x1 1)))) then (if (wrap64 (2 + (wrap64 (rd x1 1)))) ≤ (x1.length : Int) then ((ridgewayref06_reader_one.f k x1000 x1001 x1002 x1003 (rd x1 0) ((x1.take ((wrap64 (2 + (wrap64 (rd x1 1)))) : Int).toNat).drop 2)).bind fun bt225 => (if 0 ≤ (wrap64 (2 + (wrap64 (rd x1 1)))) then (ridgewayref06_reader_caps.l0 k (x1.drop ((wrap64 (2 + (wrap64 (rd x1 1)))) : Int).toNat) bt225.1 bt225.2.1 bt225.2.2.1 bt225.2.2.2) else (none))) else (none)) else (none)) else (none)) else (none))
end
def ridgewayref06_reader_caps.f (k : Nat) (s0_0 : Int) (s0_1 : Bool) (s0_2 : Int) (s0_3 : Int) (l1 : List Int) : Option (Int × Bool × Int × Int) := ridgewayref06_reader_caps.l0 k l1 s0_0 s0_1 s0_2 s0_3
theorem ridgewayref06_reader_caps.mono_l : ∀ k, (∀ y0 y1 y2 y3 y4, LeO (ridgewayref06_reader_caps.l0 k y0 y1 y2 y3 y4) (ridgewayref06_reader_caps.l0 (k + 1) y0 y1 y2 y3 y4)) ∧ (∀ y0 y1 y2 y3 y4 y5, LeO (ridgewayref06_reader_caps.j1 k y0 y1 y2 y3 y4 y5) (ridgewayref06_reader_caps.j1 (k + 1) y0 y1 y2 y3 y4 y5)) ∧ (∀ y0 y1 y2 y3 y4 y5, LeO (ridgewayref06_reader_caps.j2 k y0 y1 y2 y3 y4 y5) (ridgewayref06_reader_caps.j2 (k + 1) y0 y1 y2 y3 y4 y5))
 | 0 => ⟨fun _ _ _ _ _ r h => by simp [ridgewayref06_reader_caps.l0] at h, fun _ _ _ _ _ _ r h => by simp [ridgewayref06_reader_caps.j1] at h, fun _ _ _ _ _ _ r h => by simp [ridgewayref06_reader_caps.j2] at h⟩
 | k + 1 => by
  obtain ⟨ih0, ih1, ih2⟩ := ridgewayref06_reader_caps.mono_l k
  refine ⟨?_, ?_, ?_⟩
  ·
   intro y0 y1 y2 y3 y4
   unfold ridgewayref06_reader_caps.l0
   repeat' first
   | (with_reducible exact ih0 _ _ _ _ _)
   | (with_reducible exact ih1 _ _ _ _ _ _)
   | (with_reducible exact ih2 _ _ _ _ _ _)
   | (with_reducible exact ridgewayref06_reader_one.mono _ _ _ _ _ _ _)
   | (with_reducible exact LeO.refl _)
   | (with_reducible exact LeO.none _)
   | (with_reducible refine LeO.ite ?_ ?_)
   | (with_reducible refine LeO.bind ?_ (fun _ => ?_))
   | exact ih0 _ _ _ _ _
   | exact ih1 _ _ _ _ _ _
   | exact ih2 _ _ _ _ _ _
   | exact ridgewayref06_reader_one.mono _ _ _ _ _ _ _
   | exact LeO.none _
   | refine LeO.ite ?_ ?_
   | refine LeO.bind ?_ (fun _ => ?_)
  ·
   intro y0 y1 y2 y3 y4 y5
   unfold ridgewayref06_reader_caps.j1
   repeat' first
   | (with_reducible exact ih0 _ _ _ _ _)
   | (with_reducible exact ih1 _ _ _ _ _ _)
   | (with_reducible exact ih2 _ _ _ _ _ _)
   | (with_reducible exact ridgewayref06_reader_one.mono _ _ _ _ _ _ _)
   | (with_reducible exact LeO.refl _)
   | (with_reducible exact LeO.none _)
   | (with_reducible refine LeO.ite ?_ ?_)
   | (with_reducible refine LeO.bind ?_ (fun _ => ?_))
   | exact ih0 _ _ _ _ _
   | exact ih1 _ _ _ _ _ _
   | exact ih2 _ _ _ _ _ _
   | exact ridgewayref06_reader_one.mono _ _ _ _ _ _ _
   | exact LeO.none _
   | refine LeO.ite ?_ ?_
   | refine LeO.bind ?_ (fun _ => ?_)
  ·
   intro y0 y1 y2 y3 y4 y5
   unfold ridgewayref06_reader_caps.j2
   repeat' first
   | (with_reducible exact ih0 _ _ _ _ _)
   | (with_reducible exact ih1 _ _ _ _ _ _)
   | (with_reducible exact ih2 _ _ _ _ _ _)
   | (with_reducible exact ridgewayref06_reader_one.mono _ _ _ _ _ _ _)
   | (with_reducible exact LeO.refl _)
   | (with_reducible exact LeO.none _)
   | (with_reducible refine LeO.ite ?_ ?_)
   | (with_reducible refine LeO.bind ?_ (fun _ => ?_))
   | exact ih0 _ _ _ _ _
   | exact ih1 _ _ _ _ _ _
   | exact ih2 _ _ _ _ _ _
   | exact ridgewayref06_reader_one.mono _ _ _ _ _ _ _
   | exact LeO.none _
   | refine LeO.ite ?_ ?_
   | refine LeO.bind ?_ (fun _ => ?_)
theorem ridgewayref06_reader_caps.mono : ∀ a0 a1 a2 a3 a4 k, LeO (ridgewayref06_reader_caps.f k a0 a1 a2 a3 a4) (ridgewayref06_reader_caps.f (k + 1) a0 a1 a2 a3 a4) := by
 intro a0 a1 a2 a3 a4 k
 obtain ⟨ih0, ih1, ih2⟩ := ridgewayref06_reader_caps.mono_l k
 unfold ridgewayref06_reader_caps.f
 repeat' first
   | (with_reducible exact ih0 _ _ _ _ _)
   | (with_reducible exact ih1 _ _ _ _ _ _)
   | (with_reducible exact ih2 _ _ _ _ _ _)
   | (with_reducible exact ridgewayref06_reader_one.mono _ _ _ _ _ _ _)
   | (with_reducible exact LeO.refl _)
   | (with_reducible exact LeO.none _)
   | (with_reducible refine LeO.ite ?_ ?_)
   | (with_reducible refine LeO.bind ?_ (fun _ => ?_))
   | exact ih0 _ _ _ _ _
   | exact ih1 _ _ _ _ _ _
   | exact ih2 _ _ _ _ _ _
   | exact ridgewayref06_reader_one.mono _ _ _ _ _ _ _
   | exact LeO.none _
   | refine LeO.ite ?_ ?_
   | refine LeO.bind ?_ (fun _ => ?_)
def ridgewayref06_reader_caps.T4 : Bool × List (List Nat × List Nat) := (true, [([], []), ([], []), ([1], [1]), ([2], [2]), ([], []), ([], []), ([4, 5], [4, 5]), ([0, 3, 6], [0, 3, 6])])
def ridgewayref06_reader_caps.B4 : List Nat := [0, 0, 2, 6, 0, 0, 48, 127]
theorem ridgewayref06_reader_caps.tab4 : rtab .any (opsOf Try.f36 4) = ridgewayref06_reader_caps.T4 := by kernel_rfl
theorem ridgewayref06_reader_caps.bits4 : waitsOk ridgewayref06_reader_caps.T4.2 ridgewayref06_reader_caps.B4 = true := by kernel_rfl
set_option maxHeartbeats 8000000 in
set_option maxRecDepth 100000 in
theorem ridgewayref06_reader_caps.calls (k : Nat) (g : Nat) (s0_0 : Int) (s0_1 : Bool) (s0_2 : Int) (s0_3 : Int) (P1_ : Nat → Prop) (A1 : Option Addr) (c1 : Nat) (l1 : List Int) (r1 : Int) (r2 : Bool) (r3 : Int) (r4 : Int) (w0 w : World) (hI : IsS52 w0 w g s0_0 s0_1 s0_2 s0_3) (hB : Below w0.heap.size w0 w) (hs1 : Kd.V (Kd.int .u8) 5 w w.heap.size (fun k_ => P1_ k_ ∧ k_ ≠ g) (.slice A1 l1.length c1) l1) (h : ridgewayref06_reader_caps.f k s0_0 s0_1 s0_2 s0_3 l1 = some (r1, r2, r3, r4)) :
  Calls Try.prog 36 #[.pointer (some ⟨g, 0, none⟩), .slice A1 l1.length c1] w fun e w' => e = .returned (.tuple #[]) ∧ IsS52 w0 w' g r1 r2 r3 r4 ∧ Below w0.heap.size w0 w' ∧ KeepBut w w' g none := by
 have HO1 := Aside0.mk (show Kd.V (Kd.int .u8) 5 w w.heap.size (fun k_ => (P1_ k_ ∨ w.heap.size ≤ k_) ∧ k_ ≠ g) (.slice A1 l1.length c1) l1 from Kd.V_mono hs1 (fun k_ hk => ⟨.inl hk.1, hk.2⟩))
 have HI0 := Aside0.mk hI
 have HK := Aside0.mk (KeepBut.refl w g none)
 have HL := Aside0.mk hB.size
 clear hI
 have HW0 := Aside0.mk hB.size
 have HB := Aside0.mk hB
 clear hB
 have H : (ridgewayref06_reader_caps.l0 k l1 s0_0 s0_1 s0_2 s0_3) = some (r1, r2, r3, r4) := h
 clear h
 have H' := Aside0.mk H
 clear H
 go_enter Try.func36, Try.ntmps36
 go_wp2
 go_loopg [1] k (fun kq v1 w' => ∃ (x1_1 : List Int) (x1000_1 : Int) (x1001_1 : Bool) (x1002_1 : Int) (x1003_1 : Int), Aside0 (ridgewayref06_reader_caps.l0 kq x1_1 x1000_1 x1001_1 x1002_1 x1003_1 = some (r1, r2, r3, r4)) ∧ Aside0 (kq ≤ k) ∧ Aside0 (Kd.V (Kd.int .u8) 5 w' w.heap.size (fun k_ => (P1_ k_ ∨ w.heap.size ≤ k_) ∧ k_ ≠ g) v1 x1_1) ∧ Aside0 (IsS52 w0 w' g x1000_1 x1001_1 x1002_1 x1003_1) ∧ Aside0 (KeepBut w w' g none) ∧ Aside0 (Below w0.heap.size w0 w'))
 case atStart => exact ⟨(l1), (s0_0), (s0_1), (s0_2), (s0_3), H', ⟨Nat.le_refl _⟩, ⟨by (with_reducible repeat (first | apply Kd.V_alloc | apply Kd.V_drewN | apply Kd.V_drew)); exact HO1.out⟩, ⟨by repeat (first | (with_reducible first | exact HI0.out | apply IsS52.alloc | apply IsS52.drewN | apply IsS52.drew | apply IsS52.set_0 | apply IsS52.set_1 | apply IsS52.set_2 | apply IsS52.set_3) | exact HI0.out)⟩, ⟨by repeat (first | (with_reducible first | exact HK.out | apply KeepBut.set_ | apply keep_drewN | apply keep_drew | apply keep_alloc) | exact HK.out)⟩, ⟨by repeat (first | (with_reducible first | exact HB.out | apply bA | apply bN | apply bD | refine bS ?_ (IsS52.ge HI0.out)) | exact HB.out)⟩⟩
 case round =>
  clear H'
  try clear c1
  try clear p2
  obtain ⟨x1_1, x1000_1, x1001_1, x1002_1, x1003_1, HA, HK1, HO_1, HI0, HK, HB⟩ := hrel
  cases gk with
  | zero => exact absurd HA.out (by simp [ridgewayref06_reader_caps.l0])
  | succ k1 =>
   have H := HA.out
   clear HA
   simp only [ridgewayref06_reader_caps.l0] at H
   have HC3 := Aside0.mk H
   clear H
   go_upto_region 0 with (fail)
   go_cut [14] (fun v14 wc => ∃ (kq : Nat) (x14_2 : Bool), v14 = .bool x14_2 ∧ Aside0 (ridgewayref06_reader_caps.j1 kq x1_1 x14_2 x1000_1 x1001_1 x1002_1 x1003_1 = some (r1, r2, r3, r4)) ∧ Aside0 (kq ≤ k1) ∧ Aside0 (Kd.V (Kd.int .u8) 5 wc w.heap.size (fun k_ => (P1_ k_ ∨ w.heap.size ≤ k_) ∧ k_ ≠ g) u1 x1_1) ∧ Aside0 (IsS52 w0 wc g x1000_1 x1001_1 x1002_1 x1003_1) ∧ Aside0 (KeepBut w wc g none) ∧ Aside0 (Below w0.heap.size w0 wc))
   case first =>
    have H := HC3.out
    clear HC3
    by_cases c4 : (x1_1.length : Int) > 0
    ·
     rw [if_pos c4] at H
     have c4b0 : decide (0 < (x1_1.length : Int)) = true := decide_eq_true c4
     have c4b1 : decide (0 < x1_1.length) = true := decide_eq_true (by omega)
     clear c4
     (first | rw [c4b0] | (simp only [i64_w, i32_w]; rw [c4b0]) | skip)
     have H' := Aside0.mk H
     clear H
     obtain ⟨Ao5, co5, eo5⟩ := Kd.V_slice HO_1.out
     subst eo5
     obtain ⟨HGz6, hgz6⟩ := HI0.out
     have hcz6_0 := cellS52_0 HGz6
     have hcz6_1 := cellS52_1 HGz6
     have hcz6_2 := cellS52_2 HGz6
     have hcz6_3 := cellS52_3 HGz6
     have hfz6_0 := blk_frozen HGz6 0
     have hfz6_1 := blk_frozen HGz6 1
     have hfz6_2 := blk_frozen HGz6 2
     have hfz6_3 := blk_frozen HGz6 3
     clear HGz6 hgz6
     go_wp2
     go_meet
     case rel => exact ⟨_, (decide (x1003_1 < 0)), (by first | rfl | (simp; done) | (simp [*]; done)), H', ⟨by have := HK1.out; first | omega | exact Nat.le_refl _⟩, ⟨by (with_reducible repeat (first | apply Kd.V_alloc | apply Kd.V_drewN | apply Kd.V_drew)); exact HO_1.out⟩, ⟨by repeat (first | (with_reducible first | exact HI0.out | apply IsS52.alloc | apply IsS52.drewN | apply IsS52.drew | apply IsS52.set_0 | apply IsS52.set_1 | apply IsS52.set_2 | apply IsS52.set_3) | exact HI0.out)⟩, ⟨by repeat (first | (with_reducible first | exact HK.out | apply KeepBut.set_ | apply keep_drewN | apply keep_drew | apply keep_alloc) | exact HK.out)⟩, ⟨by repeat (first | (with_reducible first | exact HB.out | apply bA | apply bN | apply bD | refine bS ?_ (IsS52.ge HI0.out)) | exact HB.out)⟩⟩
    ·
     rw [if_neg c4] at H
     have c4b0 : decide (0 < (x1_1.length : Int)) = false := decide_eq_false c4
     have c4b1 : decide (0 < x1_1.length) = false := decide_eq_false (by omega)
     clear c4
     (first | rw [c4b0] | (simp only [i64_w, i32_w]; rw [c4b0]) | skip)
     have H' := Aside0.mk H
     clear H
     obtain ⟨Ao7, co7, eo7⟩ := Kd.V_slice HO_1.out
     subst eo7
     go_wp2
     go_meet
     case rel => exact ⟨_, (false), (by first | rfl | (simp; done) | (simp [*]; done)), H', ⟨by have := HK1.out; first | omega | exact Nat.le_refl _⟩, ⟨by (with_reducible repeat (first | apply Kd.V_alloc | apply Kd.V_drewN | apply Kd.V_drew)); exact HO_1.out⟩, ⟨by repeat (first | (with_reducible first | exact HI0.out | apply IsS52.alloc | apply IsS52.drewN | apply IsS52.drew | apply IsS52.set_0 | apply IsS52.set_1 | apply IsS52.set_2 | apply IsS52.set_3) | exact HI0.out)⟩, ⟨by repeat (first | (with_reducible first | exact HK.out | apply KeepBut.set_ | apply keep_drewN | apply keep_drew | apply keep_alloc) | exact HK.out)⟩, ⟨by repeat (first | (with_reducible first | exact HB.out | apply bA | apply bN | apply bD | refine bS ?_ (IsS52.ge HI0.out)) | exact HB.out)⟩⟩
   case rest =>
    clear HC3
    try clear c1
    try clear p2
    try clear c3
    try clear c4
    try clear c4b0
    try clear c4b1
    try clear hcz6_0
    try clear hcz6_1
    try clear hcz6_2
    try clear hcz6_3
    try clear hfz6_0
    try clear hfz6_1
    try clear hfz6_2
    try clear hfz6_3
    try clear p2
    obtain ⟨kq, x14_2, rfl, HA, HJ2, HO_1, HI0, HK, HB⟩ := hcut
    cases kq with
    | zero => exact absurd HA.out (by simp [ridgewayref06_reader_caps.j1])
    | succ kj2 =>
     have H := HA.out
     clear HA
     simp only [ridgewayref06_reader_caps.j1] at H
     by_cases c8 : x14_2 = true
     ·
      subst c8
      have H1 : (if (x1_1.length : Int) < 2 then (ridgewayref06_reader_caps.j2 kj2 x1_1 true x1000_1 x1001_1 x1002_1 x1003_1) else (if 1 < (x1_1.length : Int) then (ridgewayref06_reader_caps.j2 kj2 x1_1 (decide ((x1_1.length : Int) < (wrap64 (2 + (wrap64 (rd x1_1 1)))))) x1000_1 x1001_1 x1002_1 x1003_1) else (none))) = some (r1, r2, r3, r4) := by rw [if_pos rfl] at H; first | done | exact H
      clear H
      have H := H1
      clear H1
      have HC9 := Aside0.mk H
      clear H
      go_upto_region 1 with (fail)
      go_cut [27] (fun v27 wc => ∃ (kq : Nat) (x27_8 : Bool), v27 = .bool x27_8 ∧ Aside0 (ridgewayref06_reader_caps.j2 kq x1_1 x27_8 x1000_1 x1001_1 x1002_1 x1003_1 = some (r1, r2, r3, r4)) ∧ Aside0 (kq ≤ kj2) ∧ Aside0 (Kd.V (Kd.int .u8) 5 wc w.heap.size (fun k_ => (P1_ k_ ∨ w.heap.size ≤ k_) ∧ k_ ≠ g) u1 x1_1) ∧ Aside0 (IsS52 w0 wc g x1000_1 x1001_1 x1002_1 x1003_1) ∧ Aside0 (KeepBut w wc g none) ∧ Aside0 (Below w0.heap.size w0 wc))
      case first =>
       have H := HC9.out
       clear HC9
       by_cases c10 : (x1_1.length : Int) < 2
       ·
        rw [if_pos c10] at H
        have c10b0 : decide ((x1_1.length : Int) < 2) = true := decide_eq_true c10
        have c10b1 : decide (x1_1.length < 2) = true := decide_eq_true (by omega)
        clear c10
        (first | rw [c10b0] | (simp only [i64_w, i32_w]; rw [c10b0]) | skip)
        have H' := Aside0.mk H
        clear H
        obtain ⟨Ao11, co11, eo11⟩ := Kd.V_slice HO_1.out
        subst eo11
        go_wp2
        go_meet
        case rel => exact ⟨_, (true), (by first | rfl | (simp; done) | (simp [*]; done)), H', ⟨by have := HK1.out; have := HJ2.out; first | omega | exact Nat.le_refl _⟩, ⟨by (with_reducible repeat (first | apply Kd.V_alloc | apply Kd.V_drewN | apply Kd.V_drew)); exact HO_1.out⟩, ⟨by repeat (first | (with_reducible first | exact HI0.out | apply IsS52.alloc | apply IsS52.drewN | apply IsS52.drew | apply IsS52.set_0 | apply IsS52.set_1 | apply IsS52.set_2 | apply IsS52.set_3) | exact HI0.out)⟩, ⟨by repeat (first | (with_reducible first | exact HK.out | apply KeepBut.set_ | apply keep_drewN | apply keep_drew | apply keep_alloc) | exact HK.out)⟩, ⟨by repeat (first | (with_reducible first | exact HB.out | apply bA | apply bN | apply bD | refine bS ?_ (IsS52.ge HI0.out)) | exact HB.out)⟩⟩
       ·
        rw [if_neg c10] at H
        have c10b0 : decide ((x1_1.length : Int) < 2) = false := decide_eq_false c10
        have c10b1 : decide (x1_1.length < 2) = false := decide_eq_false (by omega)
        clear c10
        (first | rw [c10b0] | (simp only [i64_w, i32_w]; rw [c10b0]) | skip)
        by_cases c12 : 1 < (x1_1.length : Int)
        ·
         rw [if_pos c12] at H
         have c12b0 : decide (1 < (x1_1.length : Int)) = true := decide_eq_true c12
         have c12b1 : decide (1 < x1_1.length) = true := decide_eq_true (by omega)
         clear c12
         have H' := Aside0.mk H
         clear H
         obtain ⟨Ao13, co13, eo13⟩ := Kd.V_slice HO_1.out
         subst eo13
         have p213 : 0 ≤ (1 : Int) := (by omega)
         have q213 : 1 < (x1_1.length : Int) := of_decide_eq_true (by first | (with_reducible assumption) | assumption)
         obtain ⟨ad213, e213, hx213_0⟩ := Kd.at_int (Kd.V_reads' HO_1.out).2.2 1 p213 q213
         cases e213
         (try simp only [show (1 : Int).toNat = 1 from rfl, Nat.reduceMul, Nat.reduceEqDiff, Go.Addr.add, ↓reduceIte] at hx213_0)
         have qi213 : (1 < x1_1.length) = True := eq_true (by omega)
         (try rw [show ((1 : Int)).toNat = 1 from rfl] at hx213_0)
         replace p213 := eq_true p213
         replace q213 := eq_true q213
         go_wp2
         go_meet
         case rel => exact ⟨_, (decide ((x1_1.length : Int) < (wrap64 (2 + (wrap64 (rd x1_1 1)))))), (by first | rfl | (simp; done) | (simp [*]; done)), H', ⟨by have := HK1.out; have := HJ2.out; first | omega | exact Nat.le_refl _⟩, ⟨by (with_reducible repeat (first | apply Kd.V_alloc | apply Kd.V_drewN | apply Kd.V_drew)); exact HO_1.out⟩, ⟨by repeat (first | (with_reducible first | exact HI0.out | apply IsS52.alloc | apply IsS52.drewN | apply IsS52.drew | apply IsS52.set_0 | apply IsS52.set_1 | apply IsS52.set_2 | apply IsS52.set_3) | exact HI0.out)⟩, ⟨by repeat (first | (with_reducible first | exact HK.out | apply KeepBut.set_ | apply keep_drewN | apply keep_drew | apply keep_alloc) | exact HK.out)⟩, ⟨by repeat (first | (with_reducible first | exact HB.out | apply bA | apply bN | apply bD | refine bS ?_ (IsS52.ge HI0.out)) | exact HB.out)⟩⟩
        ·
         rw [if_neg c12] at H
         exact absurd H (by simp)
      case rest =>
       clear HC9
       try clear c1
       try clear p2
       try clear q2
       try clear hx2
       try clear qi2
       try clear c3
       try clear c4
       try clear c4b0
       try clear c4b1
       try clear p6
       try clear c8
       try clear c10
       try clear c10b0
       try clear c10b1
       try clear c12
       try clear c12b0
       try clear c12b1
       try clear hcz6_0
       try clear hcz6_1
       try clear hcz6_2
       try clear hcz6_3
       try clear hfz6_0
       try clear hfz6_1
       try clear hfz6_2
       try clear hfz6_3
       try clear hx213_0
       try clear p2
       try clear p213
       try clear q213
       obtain ⟨kq, x27_8, rfl, HA, HJ8, HO_1, HI0, HK, HB⟩ := hcut
       cases kq with
       | zero => exact absurd HA.out (by simp [ridgewayref06_reader_caps.j2])
       | succ kj8 =>
        have H := HA.out
        clear HA
        simp only [ridgewayref06_reader_caps.j2] at H
        by_cases c14 : x27_8 = true
        ·
         subst c14
         have H1 : ((ridgewayref06_reader_wrong.f x1000_1 x1001_1 x1002_1 x1003_1 0).bind fun bt214 => (some (bt214.1, bt214.2.1, bt214.2.2.1, bt214.2.2.2))) = some (r1, r2, r3, r4) := by rw [if_pos rfl] at H; first | done | exact H
         clear H
         have H := H1
         clear H1
         replace H := Option.bind_eq_some_iff.mp H
         obtain ⟨⟨t214, t215, t216, t217⟩, A150, H⟩ := H
         replace H : (some (t214, t215, t216, t217)) = some (r1, r2, r3, r4) := H
         have A15 := Aside0.mk A150
         clear A150
         simp only [Option.some.injEq, Prod.mk.injEq] at H
         obtain ⟨rfl, rfl, rfl, rfl⟩ := H
         go_wp2_with (first | ((with_reducible refine gate_callee (f := 35) rfl ?_); refine goesL_ (some 29) rfl rfl Try.func35 (by kernel_rfl) rfl #[.pointer (some ⟨g, 0, none⟩), .int .i64 0] rfl (by (try simp only [List.map_toArray, List.map_cons, List.map_nil]); first | done | rfl | (simp only [List.length_drop, List.length_take]; rfl)) ?_; (with_reducible refine (ridgewayref06_reader_wrong.calls g x1000_1 x1001_1 x1002_1 x1003_1 0 t214 t215 t216 t217 w0 _ ?side1 ?side2 A15.out).mono ?_); (case side1 => repeat (first | (with_reducible first | exact HI0.out | apply IsS52.alloc | apply IsS52.drewN | apply IsS52.drew | apply IsS52.set_0 | apply IsS52.set_1 | apply IsS52.set_2 | apply IsS52.set_3) | exact HI0.out)); (case side2 => repeat (first | (with_reducible first | exact HB.out | apply bA | apply bN | apply bD | refine bS ?_ (IsS52.ge HI0.out)) | exact HB.out)); rintro e w16 ⟨rfl, hi, hb, hk⟩; refine ⟨_, rfl, ?_⟩; have n0_ := Aside0.mk (Kd.V_mono (Kd.V_keep (Kd.V_mono (ok := fun k_ => (((P1_ k_ ∨ w.heap.size ≤ k_)) ∧ k_ ≠ g)) (by (with_reducible repeat (first | apply Kd.V_alloc | apply Kd.V_drewN | apply Kd.V_drew)); exact HO_1.out) (fun k_ hk_ => (⟨hk_, hk_.2⟩ : _ ∧ k_ ≠ g))) hk (fun _ h => h.2)) (fun _ h => h.1)); have n1_ := Aside0.mk (KeepBut.trans (by repeat (first | (with_reducible first | exact HK.out | apply KeepBut.set_ | apply keep_drewN | apply keep_drew | apply keep_alloc) | exact HK.out)) hk (.inl rfl)); have n2_ := Aside0.mk (hb); have n3_ := Aside0.mk (hi); clear HO_1; clear HK; clear HB; clear HI0; have HO_1 := n0_; have HK := n1_; have HB := n2_; have HI0 := n3_; clear n0_ n1_ n2_ n3_; (try clear hb); (try clear hb2); (try clear hk); (try clear hi)))
         first | go_end0 | ((try simp only [Exit.inBlock, Exit.then]); refine bodyPost_ret (results_none rfl _ _ _) rfl ?_)
         exact ⟨by first | rfl | (simp <;> rfl) | (simp [*] <;> rfl), by repeat (first | (with_reducible first | exact HI0.out | apply IsS52.alloc | apply IsS52.drewN | apply IsS52.drew | apply IsS52.set_0 | apply IsS52.set_1 | apply IsS52.set_2 | apply IsS52.set_3) | exact HI0.out), by repeat (first | (with_reducible first | exact HB.out | apply bA | apply bN | apply bD | refine bS ?_ (IsS52.ge HI0.out)) | exact HB.out), by repeat (first | (with_reducible first | exact HK.out | apply KeepBut.set_ | apply keep_drewN | apply keep_drew | apply keep_alloc) | exact HK.out)⟩
        ·
         replace c14 := Bool.eq_false_iff.mpr c14
         subst c14
         have H1 : (if 1 < (x1_1.length : Int) then (if 0 < (x1_1.length : Int) then (if 2 ≤ (wrap64 (2 + (wrap64 (rd x1_1 1)))) then (if (wrap64 (2 + (wrap64 (rd x1_1 1)))) ≤ (x1_1.length : Int) then ((ridgewayref06_reader_one.f kj8 x1000_1 x1001_1 x1002_1 x1003_1 (rd x1_1 0) ((x1_1.take ((wrap64 (2 + (wrap64 (rd x1_1 1)))) : Int).toNat).drop 2)).bind fun bt225 => (if 0 ≤ (wrap64 (2 + (wrap64 (rd x1_1 1)))) then (ridgewayref06_reader_caps.l0 kj8 (x1_1.drop ((wrap64 (2 + (wrap64 (rd x1_1 1)))) : Int).toNat) bt225.1 bt225.2.1 bt225.2.2.1 bt225.2.2.2) else (none))) else (none)) else (none)) else (none)) else (none)) = some (r1, r2, r3, r4) := by rw [if_neg (show ¬ (false = true) by decide)] at H; first | done | exact H
         clear H
         have H := H1
         clear H1
         by_cases c17 : 1 < (x1_1.length : Int)
         ·
          rw [if_pos c17] at H
          have c17b0 : decide (1 < (x1_1.length : Int)) = true := decide_eq_true c17
          have c17b1 : decide (1 < x1_1.length) = true := decide_eq_true (by omega)
          clear c17
          by_cases c18 : 0 < (x1_1.length : Int)
          ·
           rw [if_pos c18] at H
           have c18b0 : decide (0 < (x1_1.length : Int)) = true := decide_eq_true c18
           have c18b1 : decide (0 < x1_1.length) = true := decide_eq_true (by omega)
           clear c18
           by_cases c19 : 2 ≤ (wrap64 (2 + (wrap64 (rd x1_1 1))))
           ·
            rw [if_pos c19] at H
            have c19b0 := eq_true c19
            have c19b1 : decide (2 ≤ (wrap64 (2 + (wrap64 (rd x1_1 1))))) = true := decide_eq_true c19
            by_cases c20 : (wrap64 (2 + (wrap64 (rd x1_1 1)))) ≤ (x1_1.length : Int)
            ·
             rw [if_pos c20] at H
             have c20b0 := eq_true c20
             have c20b1 : decide ((wrap64 (2 + (wrap64 (rd x1_1 1)))) ≤ (x1_1.length : Int)) = true := decide_eq_true c20
             obtain ⟨y220, hy220⟩ : ∃ y_ : List Int, y_ = ((x1_1.take ((wrap64 (2 + (wrap64 (rd x1_1 1)))) : Int).toNat).drop 2) := ⟨_, rfl⟩
             replace H : ((ridgewayref06_reader_one.f kj8 x1000_1 x1001_1 x1002_1 x1003_1 (rd x1_1 0) y220).bind fun bt225 => (if 0 ≤ (wrap64 (2 + (wrap64 (rd x1_1 1)))) then (ridgewayref06_reader_caps.l0 kj8 (x1_1.drop ((wrap64 (2 + (wrap64 (rd x1_1 1)))) : Int).toNat) bt225.1 bt225.2.1 bt225.2.2.1 bt225.2.2.2) else (none))) = some (r1, r2, r3, r4) := by first | (rw [hy220]; with_reducible exact H) | (have H2_ := (Option.bind_some _ _).symm.trans H; rw [hy220]; with_reducible exact H2_) | (have H2_ := (Option.bind_some _ _).symm.trans H; with_reducible exact H2_) | with_reducible exact H | (rw [hy220]; exact H) | exact H
             have Ny220 := Aside0.mk hy220
             clear hy220
             replace H := Option.bind_eq_some_iff.mp H
             obtain ⟨⟨t225, t226, t227, t228⟩, A210, H⟩ := H
             replace H : (if 0 ≤ (wrap64 (2 + (wrap64 (rd x1_1 1)))) then (ridgewayref06_reader_caps.l0 kj8 (x1_1.drop ((wrap64 (2 + (wrap64 (rd x1_1 1)))) : Int).toNat) t225 t226 t227 t228) else (none)) = some (r1, r2, r3, r4) := H
             have A21 := Aside0.mk A210
             clear A210
             obtain ⟨ji22, hji22⟩ : ∃ j_ : Int, (wrap64 (2 + (wrap64 (rd x1_1 1)))) = j_ := ⟨_, rfl⟩
             replace H : (if 0 ≤ (ji22) then (ridgewayref06_reader_caps.l0 kj8 (x1_1.drop ((ji22) : Int).toNat) t225 t226 t227 t228) else (none)) = some (r1, r2, r3, r4) := by first | (rw [hji22] at H; exact H) | (simp only [hji22] at H ⊢; exact H)
             (try rw [hji22] at c19b0)
             (try rw [hji22] at c19b1)
             (try rw [hji22] at c19)
             (try rw [hji22] at c20b0)
             (try rw [hji22] at c20b1)
             (try rw [hji22] at c20)
             (try rw [hji22] at Ny220)
             (try rw [hji22] at A21)
             have hji22w : (IntKind.i64.wrap (2 + (wrap64 (rd x1_1 1)))) = ji22 := (i64_w _).trans hji22
             by_cases c23 : 0 ≤ (ji22)
             ·
              rw [if_pos c23] at H
              have c23b0 := eq_true c23
              have c23b1 : decide (0 ≤ (ji22)) = true := decide_eq_true c23
              clear c23
              have c24b0 := eq_true (of_decide_eq_true (by first | (with_reducible assumption) | assumption) : (ji22) ≤ (x1_1.length : Int))
              obtain ⟨y229, hy229⟩ : ∃ y_ : List Int, y_ = (x1_1.drop ((ji22) : Int).toNat) := ⟨_, rfl⟩
              replace H : (ridgewayref06_reader_caps.l0 kj8 y229 t225 t226 t227 t228) = some (r1, r2, r3, r4) := by first | (rw [hy229]; with_reducible exact H) | (have H2_ := (Option.bind_some _ _).symm.trans H; rw [hy229]; with_reducible exact H2_) | (have H2_ := (Option.bind_some _ _).symm.trans H; with_reducible exact H2_) | with_reducible exact H | (rw [hy229]; exact H) | exact H
              have Ny229 := Aside0.mk hy229
              clear hy229
              have H' := Aside0.mk H
              clear H
              obtain ⟨Ao25, co25, eo25⟩ := Kd.V_slice HO_1.out
              subst eo25
              have p218 : 0 ≤ (1 : Int) := (by omega)
              have q218 : 1 < (x1_1.length : Int) := of_decide_eq_true (by first | (with_reducible assumption) | assumption)
              obtain ⟨ad218, e218, hx218_0⟩ := Kd.at_int (Kd.V_reads' HO_1.out).2.2 1 p218 q218
              cases e218
              (try simp only [show (1 : Int).toNat = 1 from rfl, Nat.reduceMul, Nat.reduceEqDiff, Go.Addr.add, ↓reduceIte] at hx218_0)
              have qi218 : (1 < x1_1.length) = True := eq_true (by omega)
              (try rw [show ((1 : Int)).toNat = 1 from rfl] at hx218_0)
              replace p218 := eq_true p218
              replace q218 := eq_true q218
              try go_wp2
              have n0_ := Aside0.mk (Kd.V_drew HO_1.out)
              have n1_ := Aside0.mk (IsS52.drew HI0.out)
              have n2_ := Aside0.mk (keep_drew HK.out)
              have n3_ := Aside0.mk (below_drew1 HB.out)
              clear HO_1
              clear HI0
              clear HK
              clear HB
              have HO_1 := n0_
              have HI0 := n1_
              have HK := n2_
              have HB := n3_
              clear n0_ n1_ n2_ n3_
              have p219 : 0 ≤ (0 : Int) := (by omega)
              have q219 : 0 < (x1_1.length : Int) := of_decide_eq_true (by first | (with_reducible assumption) | assumption)
              obtain ⟨ad219, e219, hx219_0⟩ := Kd.at_int (Kd.V_reads' HO_1.out).2.2 0 p219 q219
              obtain rfl : ad218 = ad219 := (by injection e219)
              have qi219 : (0 < x1_1.length) = True := eq_true (by omega)
              (try rw [show ((0 : Int)).toNat = 0 from rfl] at hx219_0)
              (try rw [Addr.add_zero'] at hx219_0)
              replace p219 := eq_true p219
              replace q219 := eq_true q219
              have q27 : ((ji22) : Int) ≤ ((x1_1.length : Int) : Int) := of_decide_eq_true (by first | (with_reducible assumption) | assumption)
              obtain ⟨i027, hi027, _, hsz27, _⟩ := info_parts info5
              have hroom27 : x1_1.length ≤ co25 := (Kd.V_reads' HO_1.out).2.1
              have hC27 : Kd.F (Kd.int .u8) _ _ (some ad218) x1_1.length x1_1 := (Kd.V_at (base := w.heap.size) HO_1.out).2.2
              have ql27 : (2 : Int) ≤ ((ji22) : Int) := of_decide_eq_true (by first | (with_reducible assumption) | assumption)
              have hcut27 := cut_mid (P := Try.prog) 24 5 .i64 .i64 Try.underlying24 hi027 1 hsz27 (some ad218) x1_1.length co25 2 (ji22) (by omega) ql27 q27 hroom27
              have hr27 := Kd.F_mid (lo := (2 : Int).toNat) (hi := ((ji22) : Int).toNat) (c := co25) hC27 (by omega) (by omega) hroom27
              obtain ⟨A27, hA27⟩ : ∃ A1, A1 = (if co25 = (2 : Int).toNat then (some ad218) else ((some ad218) : Option Addr).map (·.add ((2 : Int).toNat * 1))) := ⟨_, rfl⟩
              obtain ⟨c27, hc27⟩ : ∃ c1, c1 = co25 - (2 : Int).toNat := ⟨_, rfl⟩
              have hy27 : y220.length = ((ji22) : Int).toNat - (2 : Int).toNat := (by rw [Ny220.out, List.length_drop, List.length_take] <;> omega)
              rw [show ((x1_1).take ((ji22) : Int).toNat).drop (2 : Int).toNat = y220 from Ny220.out.symm] at hr27
              replace hr27 : Kd.F (Kd.int .u8) _ _ A27 y220.length y220 := (by rw [hA27]; exact hr27)
              rw [← hy27, ← hA27, ← hc27] at hcut27
              have HO224 := Aside0.mk (show Kd.V (Kd.int .u8) 5 _ w.heap.size _ (.slice A27 y220.length c27) y220 from Kd.V_mk (by rw [hy27, hc27]; exact Nat.sub_le_sub_right (Nat.le_trans (by omega) hroom27) _) hr27)
              have HC224 := Aside0.mk (show y220.length ≤ c27 from by rw [hy27, hc27]; exact Nat.sub_le_sub_right (Nat.le_trans (by omega) hroom27) _)
              clear hr27 hC27 hroom27 hi027 hsz27 hc27
              have KY27 := Aside0.mk hy27
              have KA27 := Aside0.mk hA27
              clear hy27 hA27
              replace q27 := eq_true q27
              refine start_ (n := 8) (S := fun w' => w'.cell? ad218 = some (.int .u8 (rd x1_1 0))) (ds := []) #[false, false, false, false, false, false, false, false] (by kernel_rfl) rfl rfl (hx219_0) (fun hHeld => ?_); refine with_tabW ridgewayref06_reader_caps.tab4 ridgewayref06_reader_caps.bits4 (fun HT_ HW_ => ?_)
              generalize wc.drew = w26 at HO_1 HI0 HK HB HO224 hx219_0 hHeld ⊢
              refine pure_ (i := 0) (N := some 35) (v := ?_) (a' := ?_) #[true, false, false, false, false, false, false, false] rfl rfl (any_of HT_.out (by kernel_rfl)) (fun _ _ _ h => h) (Or.inl ⟨by rfl, ?_⟩) ?_ ?_
              rotate_left
              ·
               intro w'
               go_simp
               with_reducible rfl
              rotate_left
              ·
               simp only [Act.put, sA, sB, sC, i64_w, i32_w]
               rfl
              refine pure_ (i := 1) (N := some 36) (v := ?_) (a' := ?_) #[true, true, false, false, false, false, false, false] rfl rfl (any_of HT_.out (by kernel_rfl)) (fun _ _ _ h => h) (Or.inl ⟨by rfl, ?_⟩) ?_ ?_
              rotate_left
              ·
               intro w'
               go_simp
               with_reducible rfl
              rotate_left
              ·
               simp only [Act.put, sA, sB, sC, i64_w, i32_w]
               rfl
              refine pure_ (i := 2) (N := some 37) (v := ?_) (a' := ?_) #[true, true, true, false, false, false, false, false] rfl rfl (any_of HT_.out (by kernel_rfl)) (fun _ _ _ h => h) (Or.inl ⟨by rfl, ?_⟩) ?_ ?_
              rotate_left
              ·
               intro w'
               go_simp
               with_reducible rfl
              rotate_left
              ·
               simp only [Act.put, sA, sB, sC, i64_w, i32_w]
               rfl
              refine pure_ (i := 4) (N := some 39) (v := ?_) (a' := ?_) #[true, true, true, false, true, false, false, false] rfl rfl (any_of HT_.out (by kernel_rfl)) (fun _ _ _ h => h) (Or.inl ⟨by rfl, ?_⟩) ?_ ?_
              rotate_left
              ·
               intro w'
               go_simp
               with_reducible rfl
              rotate_left
              ·
               simp only [Act.put, sA, sB, sC, i64_w, i32_w]
               rfl
              refine pure_ (i := 5) (N := some 40) (v := ?_) (a' := ?_) #[true, true, true, false, true, true, false, false] rfl rfl (any_of HT_.out (by kernel_rfl)) (fun _ _ _ h => h) (Or.inl ⟨by rfl, ?_⟩) ?_ ?_
              rotate_left
              ·
               intro w'
               go_simp
               with_reducible rfl
              rotate_left
              ·
               simp only [Act.put, sA, sB, sC, i64_w, i32_w]
               rfl
              refine pure_ (i := 6) (N := some 41) (v := ?_) (a' := ?_) #[true, true, true, false, true, true, true, false] rfl rfl (any_of HT_.out (by kernel_rfl)) (fun _ _ _ h => h) (Or.inl ⟨by rfl, ?_⟩) ?_ ?_
              rotate_left
              ·
               intro w'
               go_simp
               with_reducible rfl
              rotate_left
              ·
               simp only [Act.put, sA, sB, sC, i64_w, i32_w]
               rfl
              refine take_ (i := 3) (N := some 38) (v := ?_) (a' := ?_) #[true, true, true, true, true, true, true, false] rfl rfl (take_ofW HT_.out HW_.out (by kernel_rfl)) (fun _ _ _ h => h) (Or.inl ⟨by rfl, ?_⟩) hHeld ?_ ?_
              rotate_left
              ·
               intro w' s0
               go_simp
               with_reducible rfl
              rotate_left
              ·
               simp only [Act.put, sA, sB, sC, i64_w, i32_w]
               rfl
              refine one_ (i := 7) (N := some 42) #[true, true, true, true, true, true, true, true] rfl rfl (one_of HT_.out (by kernel_rfl)) (by decide) (fun K hK => ?_)
              refine goes_ Try.func41 (by kernel_rfl) rfl #[.pointer (some ⟨g, 0, none⟩), .int .u8 (rd x1_1 0), .slice A27 y220.length c27] (by rfl) rfl rfl (by (try simp only [List.map_toArray, List.map_cons, List.map_nil]); first | done | rfl | (simp only [List.length_drop, List.length_take]; rfl)) ?_
              with_reducible refine (ridgewayref06_reader_one.calls kj8 g x1000_1 x1001_1 x1002_1 x1003_1 (rd x1_1 0) (fun k_ => ((P1_ k_ ∨ w.heap.size ≤ k_) ∧ k_ ≠ g)) _ _ y220 t225 t226 t227 t228 w0 _ ?side1 ?side2 ?side3 A21.out).mono ?_
              (case side1 => repeat (first | (with_reducible first | exact HI0.out | apply IsS52.alloc | apply IsS52.drewN | apply IsS52.drew | apply IsS52.set_0 | apply IsS52.set_1 | apply IsS52.set_2 | apply IsS52.set_3) | exact HI0.out))
              (case side2 => repeat (first | (with_reducible first | exact HB.out | apply bA | apply bN | apply bD | refine bS ?_ (IsS52.ge HI0.out)) | exact HB.out))
              (case side3 => exact Kd.V_mono (HO224.out) (fun k_ hk_ => ⟨hk_, hk_.2⟩))
              rintro e w28 ⟨rfl, hi, hb, hk⟩
              have HS0_ := keep_cell hk (hHeld) (by intro e_; have h1_ := hHeld; unfold World.cell? at h1_; rw [e_, HI0.out.1] at h1_; dsimp only at h1_; split at h1_ <;> first | (cases h1_; done) | (have h3_ := Array.mem_of_getElem? h1_; simp at h3_; done))
              refine ⟨_, rfl, ?_⟩
              have n0_ := Aside0.mk (Kd.V_mono (Kd.V_keep (Kd.V_mono (ok := fun k_ => (((P1_ k_ ∨ w.heap.size ≤ k_)) ∧ k_ ≠ g)) (by (with_reducible repeat (first | apply Kd.V_alloc | apply Kd.V_drewN | apply Kd.V_drew)); exact HO_1.out) (fun k_ hk_ => (⟨hk_, hk_.2⟩ : _ ∧ k_ ≠ g))) hk (fun _ h => h.2)) (fun _ h => h.1))
              have n1_ := Aside0.mk (Kd.V_mono (Kd.V_keep (Kd.V_mono (ok := fun k_ => (((P1_ k_ ∨ w.heap.size ≤ k_)) ∧ k_ ≠ g)) (by (with_reducible repeat (first | apply Kd.V_alloc | apply Kd.V_drewN | apply Kd.V_drew)); exact HO224.out) (fun k_ hk_ => (⟨hk_, hk_.2⟩ : _ ∧ k_ ≠ g))) hk (fun _ h => h.2)) (fun _ h => h.1))
              have n2_ := Aside0.mk (KeepBut.trans (by repeat (first | (with_reducible first | exact HK.out | apply KeepBut.set_ | apply keep_drewN | apply keep_drew | apply keep_alloc) | exact HK.out)) hk (.inl rfl))
              have n3_ := Aside0.mk (hb)
              have n4_ := Aside0.mk (hi)
              clear HO_1
              clear HO224
              clear HK
              clear HB
              clear HI0
              have HO_1 := n0_
              have HO224 := n1_
              have HK := n2_
              have HB := n3_
              have HI0 := n4_
              clear n0_ n1_ n2_ n3_ n4_
              (try clear hb)
              (try clear hb2)
              (try clear hk)
              (try clear hi)
              refine hK.out _ _ (HS0_) (fun hHeld => ?_)
              clear hK K
              refine norm_ (a' := ?_) ?_ ?_
              rotate_left
              ·
               show Act.put _ (some 42) _ = _
               simp only [Act.put, sA, sB, sC, i64_w, i32_w]
               rfl
              refine done_ (done_of HT_.out (by kernel_rfl)) ?_
              have q29 : ((ji22) : Int) ≤ ((x1_1.length : Int) : Int) := of_decide_eq_true (by first | (with_reducible assumption) | assumption)
              obtain ⟨i029, hi029, _, hsz29, _⟩ := info_parts info5
              have hroom29 : x1_1.length ≤ co25 := (Kd.V_reads' HO_1.out).2.1
              have hC29 : Kd.F (Kd.int .u8) _ _ (some ad218) x1_1.length x1_1 := (Kd.V_at (base := w.heap.size) HO_1.out).2.2
              have q029 : (0 : Int) ≤ ((ji22) : Int) := of_decide_eq_true (by first | (with_reducible assumption) | assumption)
              have hcut29 := cut_from (P := Try.prog) 24 5 .i64 Try.underlying24 hi029 1 hsz29 (some ad218) x1_1.length co25 (ji22) q029 q29
              have hr29 := Kd.F_cut (m := ((ji22) : Int).toNat) (c := co25) hC29 (by omega) hroom29
              obtain ⟨A29, hA29⟩ : ∃ A1, A1 = (if co25 = ((ji22) : Int).toNat then (some ad218) else ((some ad218) : Option Addr).map (·.add (((ji22) : Int).toNat * 1))) := ⟨_, rfl⟩
              obtain ⟨c29, hc29⟩ : ∃ c1, c1 = co25 - ((ji22) : Int).toNat := ⟨_, rfl⟩
              have hy29 : y229.length = x1_1.length - ((ji22) : Int).toNat := (by rw [Ny229.out, List.length_drop] <;> omega)
              rw [show (x1_1).drop ((ji22) : Int).toNat = y229 from Ny229.out.symm] at hr29
              replace hr29 : Kd.F (Kd.int .u8) _ _ A29 y229.length y229 := (by rw [hA29]; exact hr29)
              rw [← hy29, ← hA29, ← hc29] at hcut29
              have HO233 := Aside0.mk (show Kd.V (Kd.int .u8) 5 _ w.heap.size _ (.slice A29 y229.length c29) y229 from Kd.V_mk (by rw [hy29, hc29]; exact Nat.sub_le_sub_right hroom29 _) hr29)
              have HC233 := Aside0.mk (show y229.length ≤ c29 from by rw [hy29, hc29]; exact Nat.sub_le_sub_right hroom29 _)
              clear hr29 hC29 hroom29 hi029 hsz29 hc29
              have KY29 := Aside0.mk hy29
              have KA29 := Aside0.mk hA29
              clear hy29 hA29
              replace q29 := eq_true q29
              try go_wp2
              go_roundg kj8
              case measure => have := HK1.out; have := HJ2.out; have := HJ8.out; omega
              case rel => exact ⟨(y229), (t225), (t226), (t227), (t228), H', ⟨by have := HK1.out; have := HJ2.out; have := HJ8.out; omega⟩, ⟨by (with_reducible repeat (first | apply Kd.V_alloc | apply Kd.V_drewN | apply Kd.V_drew)); exact HO233.out⟩, ⟨by repeat (first | (with_reducible first | exact HI0.out | apply IsS52.alloc | apply IsS52.drewN | apply IsS52.drew | apply IsS52.set_0 | apply IsS52.set_1 | apply IsS52.set_2 | apply IsS52.set_3) | exact HI0.out)⟩, ⟨by repeat (first | (with_reducible first | exact HK.out | apply KeepBut.set_ | apply keep_drewN | apply keep_drew | apply keep_alloc) | exact HK.out)⟩, ⟨by repeat (first | (with_reducible first | exact HB.out | apply bA | apply bN | apply bD | refine bS ?_ (IsS52.ge HI0.out)) | exact HB.out)⟩⟩
             ·
              rw [if_neg c23] at H
              exact absurd H (by simp)
            ·
             rw [if_neg c20] at H
             exact absurd H (by simp)
           ·
            rw [if_neg c19] at H
            exact absurd H (by simp)
          ·
           rw [if_neg c18] at H
           exact absurd H (by simp)
         ·
          rw [if_neg c17] at H
          exact absurd H (by simp)
     ·
      replace c8 := Bool.eq_false_iff.mpr c8
      subst c8
      have H1 : (some (x1000_1, x1001_1, x1002_1, x1003_1)) = some (r1, r2, r3, r4) := by rw [if_neg (show ¬ (false = true) by decide)] at H; first | done | exact H
      clear H
      have H := H1
      clear H1
      simp only [Option.some.injEq, Prod.mk.injEq] at H
      obtain ⟨rfl, rfl, rfl, rfl⟩ := H
      go_wp2
      first | go_end0 | ((try simp only [Exit.inBlock, Exit.then]); refine bodyPost_ret (results_none rfl _ _ _) rfl ?_)
      exact ⟨by first | rfl | (simp <;> rfl) | (simp [*] <;> rfl), by repeat (first | (with_reducible first | exact HI0.out | apply IsS52.alloc | apply IsS52.drewN | apply IsS52.drew | apply IsS52.set_0 | apply IsS52.set_1 | apply IsS52.set_2 | apply IsS52.set_3) | exact HI0.out), by repeat (first | (with_reducible first | exact HB.out | apply bA | apply bN | apply bD | refine bS ?_ (IsS52.ge HI0.out)) | exact HB.out), by repeat (first | (with_reducible first | exact HK.out | apply KeepBut.set_ | apply keep_drewN | apply keep_drew | apply keep_alloc) | exact HK.out)⟩

end Go.Proofs.Ytedahidfbplpkaa.Q
