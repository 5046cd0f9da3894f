/- Each call of a Go function comes to what the Lean function of its name answers (written out by wip/tools/xprint.py, checked by Lean); conditions: those in each statement. -/
import Derived.Test.YtfbndolhocojiaaDoorMx0
import Derived.Test.YtfbndolhocojiaaDoorMx8
import Derived.Test.YtfbndolhocojiaaDoorMx9
namespace Go.Proofs.YtfbndolhocojiaaDoor.M
open Go.RowKit Go.Proofs.YtfbndolhocojiaaDoorW.PrintWords Go.Proofs.YtfbndolhocojiaaDoorW.PrintLast Go.Proofs.YtfbndolhocojiaaDoorW.PrintMore Go.Proofs.YtfbndolhocojiaaDoorW.PrintX
attribute [local go_sem] max2_int min2_int max_two min_two max_three min_three max_four min_four   -- for this text's walks alone
set_option linter.unusedVariables false
set_option linter.unusedSimpArgs false

/-! ### note_Get: function 13 -/
def note_Get.j0 : Nat → Bool → Int → List Int → Option (Int × Int × List Int × Bool)
 | 0, _, _, _ => none
 | k + 1, x13, x359000, x359001 => if x13 = true then (some (0, 0, ([] : List Int), false)) else (if 0 < (x359001.length : Int) then (if 1 < (x359001.length : Int) then (if 2 ≤ (x359001.length : Int) then ((slices_Clone_byte_byte.f (x359001.drop 2)).bind fun t363 => ((note_Sane.f (wrap64 (rd x359001 0)) (wrap64 (rd x359001 1)) t363).bind fun t367 => (if t367 = true then (some (wrap64 (rd x359001 0), wrap64 (rd x359001 1), t363, true)) else (some (0, 0, ([] : List Int), false))))) else (none)) else (none)) else (none))
def note_Get.f (k : Nat) (a0_0 : Int) (l0_1 : List Int) : Option (Int × Int × List Int × Bool) := if a0_0 = 3 then (note_Get.j0 k (decide ((l0_1.length : Int) < 2)) a0_0 l0_1) else (note_Get.j0 k true a0_0 l0_1)
theorem note_Get.mono_l : ∀ k, (∀ y0 y1 y2, LeO (note_Get.j0 k y0 y1 y2) (note_Get.j0 (k + 1) y0 y1 y2))
 | 0 => fun _ _ _ r h => by simp [note_Get.j0] at h
 | k + 1 => by
  have ih0 := note_Get.mono_l k
  ·
   intro y0 y1 y2
   unfold note_Get.j0
   repeat' first
   | (with_reducible exact ih0 _ _ _)
   | (with_reducible exact LeO.refl _)
   | (with_reducible exact LeO.none _)
   | (with_reducible refine LeO.ite ?_ ?_)
   | (with_reducible refine LeO.bind ?_ (fun _ => ?_))
   | exact ih0 _ _ _
   | exact LeO.none _
   | refine LeO.ite ?_ ?_
   | refine LeO.bind ?_ (fun _ => ?_)
theorem note_Get.mono : ∀ a0 a1 k, LeO (note_Get.f k a0 a1) (note_Get.f (k + 1) a0 a1) := by
 intro a0 a1 k
 have ih0 := note_Get.mono_l k
 unfold note_Get.f
 repeat' first
   | (with_reducible exact ih0 _ _ _)
   | (with_reducible exact LeO.refl _)
   | (with_reducible exact LeO.none _)
   | (with_reducible refine LeO.ite ?_ ?_)
   | (with_reducible refine LeO.bind ?_ (fun _ => ?_))
   | exact ih0 _ _ _
   | exact LeO.none _
   | refine LeO.ite ?_ ?_
   | refine LeO.bind ?_ (fun _ => ?_)
def note_Get.T3 : Bool × List (List Nat × List Nat) := (true, [([], []), ([0], [0]), ([1], [1]), ([2], [2]), ([3], [3]), ([], []), ([5], [5]), ([6], [6]), ([7], [7]), ([8], [8]), ([], []), ([10], [10]), ([11], [11]), ([12], [12]), ([4, 9, 13], [4, 9, 13]), ([], []), ([15, 14, 13, 0, 1, 2, 3, 4, 5, 6, 7, 8, 9, 10, 11, 12, 13, 14, 15], [14, 15])])
def note_Get.B3 : List Nat := [0, 1, 3, 7, 15, 0, 32, 96, 224, 480, 0, 1024, 3072, 7168, 16383, 0, 65535]
theorem note_Get.tab3 : rtab .any (opsOf Tryd.f13 3) = note_Get.T3 := by kernel_rfl
theorem note_Get.bits3 : waitsOk note_Get.T3.2 note_Get.B3 = true := by kernel_rfl
set_option maxHeartbeats 8000000 in
set_option maxRecDepth 100000 in
theorem note_Get.calls (k : Nat) (a0_0 : Int) (A0_1 : Option Addr) (c0_1 : Nat) (l0_1 : List Int) (r1 : Int) (r2 : Int) (r3 : List Int) (r4 : Bool) (w : World) (hr0_1 : Kd.C (Kd.int .u8) w A0_1 l0_1.length l0_1) (hc0_1 : l0_1.length ≤ c0_1) (h : note_Get.f k a0_0 l0_1 = some (r1, r2, r3, r4)) :
  Calls Tryd.prog 13 #[.agg #[.int .i64 a0_0, .slice A0_1 l0_1.length c0_1]] w fun e w' => ∃ v2_ : Value, e = .returned (.tuple #[.agg #[.int .i64 r1, .int .i64 r2, v2_], .bool r4]) ∧ Kd.R (Kd.int .u8) 5 w' w.heap.size (fun _ => True) v2_ r3 ∧ Below w.heap.size w w' := by
 have hu45 := Tryd.underlying45
 have hu41 := Tryd.underlying41
 have HR0_1 := Aside0.mk hr0_1
 have HC0_1 := Aside0.mk hc0_1
 clear hr0_1 hc0_1
 have HB := Aside0.mk (Below.refl w.heap.size w)
 have H : (if a0_0 = 3 then (note_Get.j0 k (decide ((l0_1.length : Int) < 2)) a0_0 l0_1) else (note_Get.j0 k true a0_0 l0_1)) = some (r1, r2, r3, r4) := h
 clear h
 have HC2 := Aside0.mk H
 clear H
 go_enter Tryd.func13, Tryd.ntmps13
 go_upto_region 1 with (first | ((with_reducible refine gate_dst (N := 1) rfl ?_); (try (refine gate_guard (by rfl) ?_; dsimp only)); refine box_event ?hg (N := 1) ?hd (cs := #[.int .i64 a0_0, .slice A0_1 l0_1.length c0_1]) (t := 45) ?hr ?_; (case hd | hg => rfl); (case hr => first | (go_simp; done) | (go_simp; rfl)); intro gb358 hg w3 hbox hb; obtain ⟨hy, hz⟩ := bfst (by with_reducible repeat first | exact HB.out | apply bA | apply bN | apply bD) hb hg; replace HB := hy; have BK358 := Aside0.mk (hbox); have GE358 := hz; have GW358 := GE358; clear hy hz hb hbox hg) | ((with_reducible refine gate_dst (N := 2) rfl ?_); (try (refine gate_guard (by rfl) ?_; dsimp only)); refine box_event ?hg (N := 2) ?hd (cs := #[.int .i64 0, .int .i64 0, .slice none 0 0]) (t := 41) ?hr ?_; (case hd | hg => rfl); (case hr => first | (go_simp; done) | (go_simp; rfl)); intro gb359 hg w4 hbox hb; have hz := bZ BK358.out (by with_reducible repeat first | apply bA | apply bN | apply bD | exact Below.refl _ _) hb; have hy := below_step hz hb; have n0_ := Aside0.mk (blk_below BK358.out hy); have n1_ := Aside0.mk (below_step HB.out hy); have BK359 := Aside0.mk (hbox); have n3_ := Aside0.mk (bge HB.out hz hg); have GE359 := n3_; obtain ⟨NB358_359, NB359_358⟩ := bne2 BK358.out hz hg; clear BK358; clear HB; have BK358 := n0_; have HB := n1_; have GW359 := n3_; clear n0_ n1_ n3_; clear hy hz hb hbox hg))
 (try simp only [Act.put, sA, sB, sC])
 go_cut [13] (fun v13 wc => ∃ (kq : Nat) (x13_1 : Bool), v13 = .bool x13_1 ∧ Aside0 (note_Get.j0 kq x13_1 a0_0 l0_1 = some (r1, r2, r3, r4)) ∧ Aside0 (kq ≤ k) ∧ Aside0 (wc.heap[gb358]? = some (.cells #[.int .i64 a0_0, (.slice A0_1 l0_1.length c0_1)] 45 (0, 0))) ∧ Aside0 (wc.heap[gb359]? = some (.cells #[.int .i64 0, .int .i64 0, (.slice none 0 0)] 41 (0, 0))) ∧ Aside0 (Below w.heap.size w wc))
 case first =>
  have H := HC2.out
  clear HC2
  by_cases c5 : a0_0 = 3
  ·
   rw [if_pos c5] at H
   have c5b0 : (a0_0 == 3) = true := beq_iff_eq.mpr c5
   have c5b1 : (a0_0 != 3) = false := bne_eq_false_iff_eq.mpr c5
   clear c5
   (first | rw [c5b0] | (simp only [i64_w, i32_w]; rw [c5b0]) | rw [c5b1] | skip)
   have H' := Aside0.mk H
   clear H
   have hnb6 := NB358_359.out
   have hnc6 := NB359_358.out
   obtain ⟨hcz7_0, hcz7_1, hfz7_0, hfz7_1⟩ := bc2 BK358.out
   go_wp2
   go_meet
   case rel => exact ⟨_, (decide ((l0_1.length : Int) < 2)), (by first | rfl | (simp; done) | (simp [*]; done)), H', ⟨by first | omega | exact Nat.le_refl _⟩, ⟨by (with_reducible repeat first | apply kN | apply kD | apply kA); exact BK358.out⟩, ⟨by (with_reducible repeat first | apply kN | apply kD | apply kA); exact BK359.out⟩, ⟨by with_reducible repeat first | exact HB.out | apply bA | apply bN | apply bD | refine bS ?_ GE358.out | refine bS ?_ GE359.out⟩⟩
  ·
   rw [if_neg c5] at H
   have c5b0 : (a0_0 == 3) = false := beq_eq_false_iff_ne.mpr c5
   have c5b1 : (a0_0 != 3) = true := bne_iff_ne.mpr c5
   (first | rw [c5b0] | (simp only [i64_w, i32_w]; rw [c5b0]) | rw [c5b1] | skip)
   have H' := Aside0.mk H
   clear H
   have hnb8 := NB358_359.out
   have hnc8 := NB359_358.out
   obtain ⟨hcz9_0, hcz9_1, hfz9_0, hfz9_1⟩ := bc2 BK358.out
   go_wp2
   go_meet
   case rel => exact ⟨_, (true), (by first | rfl | (simp; done) | (simp [*]; done)), H', ⟨by first | omega | exact Nat.le_refl _⟩, ⟨by (with_reducible repeat first | apply kN | apply kD | apply kA); exact BK358.out⟩, ⟨by (with_reducible repeat first | apply kN | apply kD | apply kA); exact BK359.out⟩, ⟨by with_reducible repeat first | exact HB.out | apply bA | apply bN | apply bD | refine bS ?_ GE358.out | refine bS ?_ GE359.out⟩⟩
 case rest =>
  clear HC2
  try clear c1
  try clear p2
  try clear c5
  try clear c5b0
  try clear c5b1
  try clear c6
  try clear c8
  try clear hcz7_0 hcz7_1
  try clear hcz9_0 hcz9_1
  try clear hfz7_0 hfz7_1
  try clear hfz9_0 hfz9_1
  obtain ⟨kq, x13_1, rfl, HA, HJ1, BK358, BK359, HB⟩ := hcut
  cases kq with
  | zero => exact absurd HA.out (by simp [note_Get.j0])
  | succ kj1 =>
   have H := HA.out
   clear HA
   simp only [note_Get.j0] at H
   by_cases c10 : x13_1 = true
   ·
    subst c10
    have H1 : (some (0, 0, ([] : List Int), false)) = some (r1, r2, r3, r4) := by rw [if_pos rfl] at H; first | done | exact H
    clear H
    have H := H1
    clear H1
    simp only [Option.some.injEq, Prod.mk.injEq] at H
    obtain ⟨rfl, rfl, rfl, rfl⟩ := H
    have hnb11 := NB359_358.out
    have hnc11 := NB358_359.out
    obtain ⟨hcz12_0, hcz12_1, hcz12_2, hfz12_0, hfz12_1, hfz12_2⟩ := bc3 BK359.out
    go_wp2
    refine bodyPost_ret (results_ct rfl _ _ gb359 41 #[.int .i64 0, .int .i64 0, .slice none 0 0] (0, 0) _ rfl (by (with_reducible repeat first | apply kN | apply kD | apply kA); refine blk_put (cs := #[.int .i64 0, .int .i64 0, .slice none 0 0]) ?_ 2 _ rfl; (with_reducible repeat first | apply kN | apply kD | apply kA); refine blk_put (cs := #[.int .i64 0, .int .i64 0, .slice none 0 0]) ?_ 1 _ rfl; (with_reducible repeat first | apply kN | apply kD | apply kA); refine blk_put (cs := #[.int .i64 0, .int .i64 0, .slice none 0 0]) ?_ 0 _ rfl; (with_reducible repeat first | apply kN | apply kD | apply kA); exact BK359.out) Tryd.underlying41 rfl (by kernel_rfl)) rfl ?_
    exact ⟨_, by first | rfl | (simp <;> rfl) | (simp [*] <;> rfl), by first | exact Kd.R_nil _ _ _ _ _ | exact Kd.N_nil _ _ _ _ _ | exact Kd.V_nil _ _ _ _ _ | exact Kd.Q_nil _ _ _ _ _ | exact Kd.S_nil _ _ _ _ _, by with_reducible repeat first | exact HB.out | apply bA | apply bN | apply bD | refine bS ?_ GE358.out | refine bS ?_ GE359.out⟩
   ·
    replace c10 := Bool.eq_false_iff.mpr c10
    subst c10
    have H1 : (if 0 < (l0_1.length : Int) then (if 1 < (l0_1.length : Int) then (if 2 ≤ (l0_1.length : Int) then ((slices_Clone_byte_byte.f (l0_1.drop 2)).bind fun t363 => ((note_Sane.f (wrap64 (rd l0_1 0)) (wrap64 (rd l0_1 1)) t363).bind fun t367 => (if t367 = true then (some (wrap64 (rd l0_1 0), wrap64 (rd l0_1 1), t363, true)) else (some (0, 0, ([] : List Int), false))))) else (none)) else (none)) else (none)) = some (r1, r2, r3, r4) := by rw [if_neg (show ¬ (false = true) by decide)] at H; first | done | exact H
    clear H
    have H := H1
    clear H1
    by_cases c13 : 0 < (l0_1.length : Int)
    ·
     rw [if_pos c13] at H
     have c13b0 : decide (0 < (l0_1.length : Int)) = true := decide_eq_true c13
     have c13b1 : decide (0 < l0_1.length) = true := decide_eq_true (by omega)
     clear c13
     by_cases c14 : 1 < (l0_1.length : Int)
     ·
      rw [if_pos c14] at H
      have c14b0 : decide (1 < (l0_1.length : Int)) = true := decide_eq_true c14
      have c14b1 : decide (1 < l0_1.length) = true := decide_eq_true (by omega)
      clear c14
      by_cases c15 : 2 ≤ (l0_1.length : Int)
      ·
       rw [if_pos c15] at H
       have c15b0 := eq_true c15
       have c15b1 : decide (2 ≤ (l0_1.length : Int)) = true := decide_eq_true c15
       clear c15
       replace H := Option.bind_eq_some_iff.mp H
       obtain ⟨t363, A160, H⟩ := H
       replace H : ((note_Sane.f (wrap64 (rd l0_1 0)) (wrap64 (rd l0_1 1)) t363).bind fun t367 => (if t367 = true then (some (wrap64 (rd l0_1 0), wrap64 (rd l0_1 1), t363, true)) else (some (0, 0, ([] : List Int), false)))) = some (r1, r2, r3, r4) := H
       have A16 := Aside0.mk A160
       clear A160
       replace H := Option.bind_eq_some_iff.mp H
       obtain ⟨t367, A170, H⟩ := H
       replace H : (if t367 = true then (some (wrap64 (rd l0_1 0), wrap64 (rd l0_1 1), t363, true)) else (some (0, 0, ([] : List Int), false))) = some (r1, r2, r3, r4) := H
       have A17 := Aside0.mk A170
       clear A170
       by_cases c18 : t367 = true
       ·
        subst c18
        have H1 : (some (wrap64 (rd l0_1 0), wrap64 (rd l0_1 1), t363, true)) = some (r1, r2, r3, r4) := by rw [if_pos rfl] at H; first | done | exact H
        clear H
        have H := H1
        clear H1
        simp only [Option.some.injEq, Prod.mk.injEq] at H
        obtain ⟨rfl, rfl, rfl, rfl⟩ := H
        try go_wp2
        replace BK358 := Aside0.mk (blk_drew BK358.out)
        replace BK359 := Aside0.mk (blk_drew BK359.out)
        replace HB := Aside0.mk (below_drew1 HB.out)
        have p360 : 0 ≤ (0 : Int) := (by omega)
        have q360 : 0 < (l0_1.length : Int) := of_decide_eq_true (by first | (with_reducible assumption) | assumption)
        obtain ⟨ad360, e360, hx360_0⟩ := Kd.at_int HR0_1.out 0 p360 q360
        have hw360_0 := hx360_0
        (try rw [show ((0 : Int)).toNat = 0 from rfl] at hw360_0)
        (try rw [show 0 * 1 = 0 from rfl] at hw360_0)
        (try rw [Addr.add_zero'] at hw360_0)
        cases e360
        have qi360 : (0 < l0_1.length) = True := eq_true (by omega)
        (try rw [show ((0 : Int)).toNat = 0 from rfl] at hx360_0)
        (try rw [Addr.add_zero'] at hx360_0)
        replace hx360_0 := cB HB.out hx360_0
        replace p360 := eq_true p360
        replace q360 := eq_true q360
        have p361 : 0 ≤ (1 : Int) := (by omega)
        have q361 : 1 < (l0_1.length : Int) := of_decide_eq_true (by first | (with_reducible assumption) | assumption)
        obtain ⟨ad361, e361, hx361_0⟩ := Kd.at_int HR0_1.out 1 p361 q361
        have hw361_0 := hx361_0
        (try rw [show ((1 : Int)).toNat = 1 from rfl] at hw361_0)
        (try rw [show 1 * 1 = 1 from rfl] at hw361_0)
        (try simp only [Nat.reduceMul, Nat.reduceEqDiff, Go.Addr.add, ↓reduceIte] at hw361_0)
        obtain rfl : ad360 = ad361 := (by injection e361)
        (try simp only [show (1 : Int).toNat = 1 from rfl, Nat.reduceMul, Nat.reduceEqDiff, Go.Addr.add, ↓reduceIte] at hx361_0)
        have qi361 : (1 < l0_1.length) = True := eq_true (by omega)
        (try rw [show ((1 : Int)).toNat = 1 from rfl] at hx361_0)
        replace hx361_0 := cB HB.out hx361_0
        replace p361 := eq_true p361
        replace q361 := eq_true q361
        obtain ⟨i020, hi020, _, hsz20, _⟩ := info_parts info5
        obtain ⟨A20, hcut20, hA20, hC20⟩ := print_drop_of (P := Tryd.prog) (Value.int .u8) 0 39 5 .i64 Tryd.underlying39 hi020 hsz20 (some ad360) c0_1 l0_1 2 (by omega) (of_decide_eq_true (by first | (with_reducible assumption) | assumption)) HC0_1.out
        have HR362 := Aside0.mk (Kd.C_of_reads (h1 := fun _ => rfl) (hA20 _ (Kd.reads_of_C HR0_1.out)))
        have HC362 := Aside0.mk hC20
        clear hA20 hC20 hi020 hsz20
        refine start_ (n := 17) (S := fun w' => w'.cell? ⟨gb358, 0, none⟩ = some (.int .i64 a0_0) ∧ w'.cell? ⟨gb358, 1, none⟩ = some (.slice (some ad360) l0_1.length c0_1) ∧ w'.cell? ad360 = some (.int .u8 (rd l0_1 0)) ∧ w'.cell? ⟨ad360.block, ad360.off + 1, none⟩ = some (.int .u8 (rd l0_1 1))) (ds := []) #[false, false, false, false, false, false, false, false, false, false, false, false, false, false, false, false, false] (by kernel_rfl) rfl rfl ⟨(blk_cell BK358.out 0).trans rfl, (blk_cell BK358.out 1).trans rfl, (cB HB.out hw360_0), (cB HB.out hw361_0)⟩ (fun hHeld => ?_); refine with_tabW note_Get.tab3 note_Get.bits3 (fun HT_ HW_ => ?_)
        generalize wc.drew = w19 at BK358 BK359 HB HR362 hx360_0 hx361_0 hHeld ⊢
        refine pure_ (i := 0) (N := some 15) (v := ?_) (a' := ?_) #[true, false, false, false, false, false, false, false, false, false, false, false, false, false, false, false, false] rfl rfl (any_of HT_.out (by kernel_rfl)) (fun _ _ _ h => h) (Or.inl ⟨by rfl, ?_⟩) ?_ ?_
        rotate_left; · intro w'; go_simp; with_reducible rfl
        rotate_left; · simp only [Act.put, sA, sB, sC, i64_w, i32_w]; rfl
        refine pure_ (i := 5) (N := some 20) (v := ?_) (a' := ?_) #[true, false, false, false, false, true, false, false, false, false, false, false, false, false, false, false, false] rfl rfl (any_of HT_.out (by kernel_rfl)) (fun _ _ _ h => h) (Or.inl ⟨by rfl, ?_⟩) ?_ ?_
        rotate_left; · intro w'; go_simp; with_reducible rfl
        rotate_left; · simp only [Act.put, sA, sB, sC, i64_w, i32_w]; rfl
        refine pure_ (i := 10) (N := some 25) (v := ?_) (a' := ?_) #[true, false, false, false, false, true, false, false, false, false, true, false, false, false, false, false, false] rfl rfl (any_of HT_.out (by kernel_rfl)) (fun _ _ _ h => h) (Or.inl ⟨by rfl, ?_⟩) ?_ ?_
        rotate_left; · intro w'; go_simp; with_reducible rfl
        rotate_left; · simp only [Act.put, sA, sB, sC, i64_w, i32_w]; rfl
        refine take_ (i := 1) (N := some 16) (v := ?_) (a' := ?_) #[true, true, false, false, false, true, false, false, false, false, true, false, false, false, false, false, false] rfl rfl (take_ofW HT_.out HW_.out (by kernel_rfl)) (fun _ _ _ h => h) (Or.inl ⟨by rfl, ?_⟩) hHeld ?_ ?_
        rotate_left; · rintro w' ⟨s0, s1, s2, s3⟩; go_simp; with_reducible rfl
        rotate_left; · simp only [Act.put, sA, sB, sC, i64_w, i32_w]; rfl
        refine pure_ (i := 2) (N := some 17) (v := ?_) (a' := ?_) #[true, true, true, false, false, true, false, false, false, false, true, false, false, false, false, false, false] rfl rfl (any_of HT_.out (by kernel_rfl)) (fun _ _ _ h => h) (Or.inl ⟨by rfl, ?_⟩) ?_ ?_
        rotate_left; · intro w'; go_simp; with_reducible rfl
        rotate_left; · simp only [Act.put, sA, sB, sC, i64_w, i32_w]; rfl
        refine take_ (i := 3) (N := some 18) (v := ?_) (a' := ?_) #[true, true, true, true, false, true, false, false, false, false, true, false, false, false, false, false, false] rfl rfl (take_ofW HT_.out HW_.out (by kernel_rfl)) (fun _ _ _ h => h) (Or.inl ⟨by rfl, ?_⟩) hHeld ?_ ?_
        rotate_left; · rintro w' ⟨s0, s1, s2, s3⟩; go_simp; with_reducible rfl
        rotate_left; · simp only [Act.put, sA, sB, sC, i64_w, i32_w]; rfl
        refine pure_ (i := 4) (N := some 19) (v := ?_) (a' := ?_) #[true, true, true, true, true, true, false, false, false, false, true, false, false, false, false, false, false] rfl rfl (any_of HT_.out (by kernel_rfl)) (fun _ _ _ h => h) (Or.inl ⟨by rfl, ?_⟩) ?_ ?_
        rotate_left; · intro w'; go_simp; with_reducible rfl
        rotate_left; · simp only [Act.put, sA, sB, sC, i64_w, i32_w]; rfl
        refine take_ (i := 6) (N := some 21) (v := ?_) (a' := ?_) #[true, true, true, true, true, true, true, false, false, false, true, false, false, false, false, false, false] rfl rfl (take_ofW HT_.out HW_.out (by kernel_rfl)) (fun _ _ _ h => h) (Or.inl ⟨by rfl, ?_⟩) hHeld ?_ ?_
        rotate_left; · rintro w' ⟨s0, s1, s2, s3⟩; go_simp; with_reducible rfl
        rotate_left; · simp only [Act.put, sA, sB, sC, i64_w, i32_w]; rfl
        refine pure_ (i := 7) (N := some 22) (v := ?_) (a' := ?_) #[true, true, true, true, true, true, true, true, false, false, true, false, false, false, false, false, false] rfl rfl (any_of HT_.out (by kernel_rfl)) (fun _ _ _ h => h) (Or.inl ⟨by rfl, ?_⟩) ?_ ?_
        rotate_left; · intro w'; go_simp; with_reducible rfl
        rotate_left; · simp only [Act.put, sA, sB, sC, i64_w, i32_w]; rfl
        refine take_ (i := 8) (N := some 23) (v := ?_) (a' := ?_) #[true, true, true, true, true, true, true, true, true, false, true, false, false, false, false, false, false] rfl rfl (take_ofW HT_.out HW_.out (by kernel_rfl)) (fun _ _ _ h => h) (Or.inl ⟨by rfl, ?_⟩) hHeld ?_ ?_
        rotate_left; · rintro w' ⟨s0, s1, s2, s3⟩; go_simp; with_reducible rfl
        rotate_left; · simp only [Act.put, sA, sB, sC, i64_w, i32_w]; rfl
        refine pure_ (i := 9) (N := some 24) (v := ?_) (a' := ?_) #[true, true, true, true, true, true, true, true, true, true, true, false, false, false, false, false, false] rfl rfl (any_of HT_.out (by kernel_rfl)) (fun _ _ _ h => h) (Or.inl ⟨by rfl, ?_⟩) ?_ ?_
        rotate_left; · intro w'; go_simp; with_reducible rfl
        rotate_left; · simp only [Act.put, sA, sB, sC, i64_w, i32_w]; rfl
        refine take_ (i := 11) (N := some 26) (v := ?_) (a' := ?_) #[true, true, true, true, true, true, true, true, true, true, true, true, false, false, false, false, false] rfl rfl (take_ofW HT_.out HW_.out (by kernel_rfl)) (fun _ _ _ h => h) (Or.inl ⟨by rfl, ?_⟩) hHeld ?_ ?_
        rotate_left; · rintro w' ⟨s0, s1, s2, s3⟩; go_simp; with_reducible rfl
        rotate_left; · simp only [Act.put, sA, sB, sC, i64_w, i32_w]; rfl
        refine pure_ (i := 12) (N := some 27) (v := ?_) (a' := ?_) #[true, true, true, true, true, true, true, true, true, true, true, true, true, false, false, false, false] rfl rfl (any_of HT_.out (by kernel_rfl)) (fun _ _ _ h => h) (Or.inl ⟨by rfl, ?_⟩) ?_ ?_
        rotate_left; · intro w'; go_simp; with_reducible rfl
        rotate_left; · simp only [Act.put, sA, sB, sC, i64_w, i32_w]; rfl
        refine join_ (σ := Value × Nat) 1 #[true, true, true, true, true, true, true, true, true, true, true, true, true, true, true, true, false] (fun s_ => [(28, s_.1), (4, .pointer (some ⟨s_.2, 0, none⟩)), (29, .agg #[.int .i64 (wrap64 (rd l0_1 0)), .int .i64 (wrap64 (rd l0_1 1)), s_.1])]) (fun s_ w' => (w'.cell? ⟨gb358, 0, none⟩ = some (.int .i64 a0_0) ∧ w'.cell? ⟨gb358, 1, none⟩ = some (.slice (some ad360) l0_1.length c0_1) ∧ w'.cell? ad360 = some (.int .u8 (rd l0_1 0)) ∧ w'.cell? ⟨ad360.block, ad360.off + 1, none⟩ = some (.int .u8 (rd l0_1 1))) ∧ (Kd.R (Kd.int .u8) 5 w' w.heap.size (fun _ => True) s_.1 t363) ∧ (w'.heap[gb358]? = some (.cells #[.int .i64 a0_0, .slice (some ad360) l0_1.length c0_1] 45 (0, 0))) ∧ (w'.heap[gb359]? = some (.cells #[.int .i64 0, .int .i64 0, .slice none 0 0] 41 (0, 0))) ∧ (w'.heap[s_.2]? = some (.cells #[.int .i64 0, .int .i64 0, .slice none 0 0] 41 (0, 0))) ∧ (w.heap.size ≤ s_.2) ∧ (w.heap.size ≤ s_.2) ∧ (gb358 ≠ s_.2) ∧ (s_.2 ≠ gb358) ∧ (gb359 ≠ s_.2) ∧ (s_.2 ≠ gb359) ∧ (Below w.heap.size w w')) ?_ ?_
        rotate_left
        ·
         intro hCont
         refine two_ (i := 13) (j := 15) (Ni := some 28) (Nj := some 4) #[true, true, true, true, true, true, true, true, true, true, true, true, true, true, false, false, false] #[true, true, true, true, true, true, true, true, true, true, true, true, true, false, false, true, false] rfl rfl rfl rfl (two_of HT_.out (by kernel_rfl)) (by decide) (by decide) (fun K hK => ?_) (fun K hK => ?_)
         ·
          skip
          refine goes_ Tryd.func29 (by kernel_rfl) rfl #[.slice A20 (l0_1.drop 2).length (c0_1 - 2)] (by rfl) rfl rfl (by (try simp only [List.map_toArray, List.map_cons, List.map_nil]); first | done | (rw [show (l0_1.drop 2).length = (l0_1.length - 2) from List.length_drop] <;> rfl) | rfl | (simp only [List.length_drop, List.length_take]; rfl)) ?_
          with_reducible refine (slices_Clone_byte_byte.calls _ _ (l0_1.drop 2) t363 _ ?side1 ?side2 A16.out).mono ?_
          (case side1 => repeat first | exact (Kd.C_below HR362.out HB.out) | with_reducible first | apply Kd.C_alloc | apply Kd.C_drewN | apply Kd.C_drew)
          (case side2 => exact HC362.out)
          rintro e w21 ⟨v364, rfl, ho0, hb⟩
          refine ⟨_, rfl, ?_⟩
          have HO365 := Aside0.mk (Kd.R_lower ho0 (below_size (by with_reducible repeat first | exact HB.out | apply bA | apply bN | apply bD | refine bS ?_ GE358.out | refine bS ?_ GE359.out)))
          replace BK358 := Aside0.mk (blk_below (g := gb358) (by (with_reducible repeat first | apply kN | apply kD | apply kA); exact BK358.out) hb)
          replace BK359 := Aside0.mk (blk_below (g := gb359) (by (with_reducible repeat first | apply kN | apply kD | apply kA); exact BK359.out) hb)
          replace HB := Aside0.mk (below_step (by with_reducible repeat first | exact HB.out | apply bA | apply bN | apply bD | refine bS ?_ GE358.out | refine bS ?_ GE359.out) hb)
          (try clear hb)
          (try clear hb2)
          (try clear hk)
          (try clear hi)
          (try clear ho0)
          obtain ⟨Ao22, co22, eo22⟩ := Kd.R_slice HO365.out
          (first | subst eo22 | (injection eo22 with f1_ f2_ f3_; have f4_ := f1_.symm; have f5_ := f3_.symm; clear f1_ f2_ f3_; subst f4_; subst f5_))
          refine hK.out _ _ ⟨(blk_cell BK358.out 0).trans rfl, (blk_cell BK358.out 1).trans rfl, (cB HB.out hw360_0), (cB HB.out hw361_0)⟩ (fun hHeld => ?_)
          clear hK K
          refine norm_ (a' := ?_) ?_ ?_
          rotate_left
          ·
           show Act.put _ (some 28) _ = _
           simp only [Act.put, sA, sB, sC, i64_w, i32_w]
           rfl
          refine pure_ (i := 14) (N := some 29) (v := ?_) (a' := ?_) #[true, true, true, true, true, true, true, true, true, true, true, true, true, true, true, false, false] rfl rfl (any_of HT_.out (by kernel_rfl)) (fun _ _ _ h => h) (Or.inl ⟨by rfl, ?_⟩) ?_ ?_
          rotate_left; · intro w'; go_simp; with_reducible rfl
          rotate_left; · simp only [Act.put, sA, sB, sC, i64_w, i32_w]; rfl
          refine one_ (i := 15) (N := some 4) #[true, true, true, true, true, true, true, true, true, true, true, true, true, true, true, true, false] rfl rfl (one_of HT_.out (by kernel_rfl)) (by decide) (fun K hK => ?_)
          refine box_step ?hg (N := 4) ?hd (cs := #[.int .i64 0, .int .i64 0, .slice none 0 0]) (t := 41) ?hr ?_; (case hd | hg => rfl); (case hr => first | (go_simp; done) | (go_simp; rfl))
          intro gb366 hg w23 hbox hb
          replace HO365 := Aside0.mk (Kd.R_below (by (with_reducible repeat (first | apply Kd.R_alloc | apply Kd.R_drewN | apply Kd.R_drew)); exact HO365.out) hb)
          have BK366 := Aside0.mk (hbox)
          have GW366 := Aside0.mk ((by rw [hg]; exact (below_size (by with_reducible repeat first | exact HB.out | apply bA | apply bN | apply bD | refine bS ?_ GE358.out | refine bS ?_ GE359.out)) : w.heap.size ≤ gb366))
          have GE366 := Aside0.mk ((by rw [hg]; exact (below_size (by with_reducible repeat first | exact HB.out | apply bA | apply bN | apply bD | refine bS ?_ GE358.out | refine bS ?_ GE359.out)) : w.heap.size ≤ gb366))
          replace HB := Aside0.mk (below_step (by with_reducible repeat first | exact HB.out | apply bA | apply bN | apply bD | refine bS ?_ GE358.out | refine bS ?_ GE359.out) hb)
          have NB358_366 := Aside0.mk ((by rw [hg]; exact Nat.ne_of_lt (blk_lt (g := gb358) (by (with_reducible repeat first | apply kN | apply kD | apply kA); exact BK358.out)) : gb358 ≠ gb366))
          have NB366_358 := Aside0.mk ((by rw [hg]; exact Nat.ne_of_gt (blk_lt (g := gb358) (by (with_reducible repeat first | apply kN | apply kD | apply kA); exact BK358.out)) : gb366 ≠ gb358))
          replace BK358 := Aside0.mk (blk_below (g := gb358) (by (with_reducible repeat first | apply kN | apply kD | apply kA); exact BK358.out) hb)
          have NB359_366 := Aside0.mk ((by rw [hg]; exact Nat.ne_of_lt (blk_lt (g := gb359) (by (with_reducible repeat first | apply kN | apply kD | apply kA); exact BK359.out)) : gb359 ≠ gb366))
          have NB366_359 := Aside0.mk ((by rw [hg]; exact Nat.ne_of_gt (blk_lt (g := gb359) (by (with_reducible repeat first | apply kN | apply kD | apply kA); exact BK359.out)) : gb366 ≠ gb359))
          replace BK359 := Aside0.mk (blk_below (g := gb359) (by (with_reducible repeat first | apply kN | apply kD | apply kA); exact BK359.out) hb)
          clear hb hbox hg
          refine hK.out _ _ ⟨(blk_cell BK358.out 0).trans rfl, (blk_cell BK358.out 1).trans rfl, (cB HB.out hw360_0), (cB HB.out hw361_0)⟩ (fun hHeld => ?_)
          clear hK K
          refine norm_ (a' := ?_) ?_ ?_
          rotate_left
          ·
           show Act.put _ (some 4) _ = _
           simp only [Act.put, sA, sB, sC, i64_w, i32_w]
           rfl
          exact norm_ (by simp only [putAll, Act.put, sA, sB, sC]) (hCont (.slice Ao22 t363.length co22, gb366) _ ⟨hHeld, (by (with_reducible repeat (first | apply Kd.R_alloc | apply Kd.R_drewN | apply Kd.R_drew)); exact HO365.out), (by (with_reducible repeat first | apply kN | apply kD | apply kA); exact BK358.out), (by (with_reducible repeat first | apply kN | apply kD | apply kA); exact BK359.out), (by (with_reducible repeat first | apply kN | apply kD | apply kA); exact BK366.out), GW366.out, GE366.out, NB358_366.out, NB366_358.out, NB359_366.out, NB366_359.out, (by with_reducible repeat first | exact HB.out | apply bA | apply bN | apply bD | refine bS ?_ GE358.out | refine bS ?_ GE359.out | refine bS ?_ GE366.out)⟩)
         ·
          skip
          refine box_step ?hg (N := 4) ?hd (cs := #[.int .i64 0, .int .i64 0, .slice none 0 0]) (t := 41) ?hr ?_; (case hd | hg => rfl); (case hr => first | (go_simp; done) | (go_simp; rfl))
          intro gb366 hg w21 hbox hb
          have BK366 := Aside0.mk (hbox)
          have GW366 := Aside0.mk ((by rw [hg]; exact (below_size (by with_reducible repeat first | exact HB.out | apply bA | apply bN | apply bD | refine bS ?_ GE358.out | refine bS ?_ GE359.out)) : w.heap.size ≤ gb366))
          have GE366 := Aside0.mk ((by rw [hg]; exact (below_size (by with_reducible repeat first | exact HB.out | apply bA | apply bN | apply bD | refine bS ?_ GE358.out | refine bS ?_ GE359.out)) : w.heap.size ≤ gb366))
          replace HB := Aside0.mk (below_step (by with_reducible repeat first | exact HB.out | apply bA | apply bN | apply bD | refine bS ?_ GE358.out | refine bS ?_ GE359.out) hb)
          have NB358_366 := Aside0.mk ((by rw [hg]; exact Nat.ne_of_lt (blk_lt (g := gb358) (by (with_reducible repeat first | apply kN | apply kD | apply kA); exact BK358.out)) : gb358 ≠ gb366))
          have NB366_358 := Aside0.mk ((by rw [hg]; exact Nat.ne_of_gt (blk_lt (g := gb358) (by (with_reducible repeat first | apply kN | apply kD | apply kA); exact BK358.out)) : gb366 ≠ gb358))
          replace BK358 := Aside0.mk (blk_below (g := gb358) (by (with_reducible repeat first | apply kN | apply kD | apply kA); exact BK358.out) hb)
          have NB359_366 := Aside0.mk ((by rw [hg]; exact Nat.ne_of_lt (blk_lt (g := gb359) (by (with_reducible repeat first | apply kN | apply kD | apply kA); exact BK359.out)) : gb359 ≠ gb366))
          have NB366_359 := Aside0.mk ((by rw [hg]; exact Nat.ne_of_gt (blk_lt (g := gb359) (by (with_reducible repeat first | apply kN | apply kD | apply kA); exact BK359.out)) : gb366 ≠ gb359))
          replace BK359 := Aside0.mk (blk_below (g := gb359) (by (with_reducible repeat first | apply kN | apply kD | apply kA); exact BK359.out) hb)
          clear hb hbox hg
          refine hK.out _ _ ⟨(blk_cell BK358.out 0).trans rfl, (blk_cell BK358.out 1).trans rfl, (cB HB.out hw360_0), (cB HB.out hw361_0)⟩ (fun hHeld => ?_)
          clear hK K
          refine norm_ (a' := ?_) ?_ ?_
          rotate_left
          ·
           show Act.put _ (some 4) _ = _
           simp only [Act.put, sA, sB, sC, i64_w, i32_w]
           rfl
          refine one_ (i := 13) (N := some 28) #[true, true, true, true, true, true, true, true, true, true, true, true, true, true, false, true, false] rfl rfl (one_of HT_.out (by kernel_rfl)) (by decide) (fun K hK => ?_)
          refine goes_ Tryd.func29 (by kernel_rfl) rfl #[.slice A20 (l0_1.drop 2).length (c0_1 - 2)] (by rfl) rfl rfl (by (try simp only [List.map_toArray, List.map_cons, List.map_nil]); first | done | (rw [show (l0_1.drop 2).length = (l0_1.length - 2) from List.length_drop] <;> rfl) | rfl | (simp only [List.length_drop, List.length_take]; rfl)) ?_
          with_reducible refine (slices_Clone_byte_byte.calls _ _ (l0_1.drop 2) t363 _ ?side1 ?side2 A16.out).mono ?_
          (case side1 => repeat first | exact (Kd.C_below HR362.out HB.out) | with_reducible first | apply Kd.C_alloc | apply Kd.C_drewN | apply Kd.C_drew)
          (case side2 => exact HC362.out)
          rintro e w22 ⟨v364, rfl, ho0, hb⟩
          refine ⟨_, rfl, ?_⟩
          have HO365 := Aside0.mk (Kd.R_lower ho0 (below_size (by with_reducible repeat first | exact HB.out | apply bA | apply bN | apply bD | refine bS ?_ GE358.out | refine bS ?_ GE359.out | refine bS ?_ GE366.out)))
          replace BK358 := Aside0.mk (blk_below (g := gb358) (by (with_reducible repeat first | apply kN | apply kD | apply kA); exact BK358.out) hb)
          replace BK359 := Aside0.mk (blk_below (g := gb359) (by (with_reducible repeat first | apply kN | apply kD | apply kA); exact BK359.out) hb)
          replace BK366 := Aside0.mk (blk_below (g := gb366) (by (with_reducible repeat first | apply kN | apply kD | apply kA); exact BK366.out) hb)
          replace HB := Aside0.mk (below_step (by with_reducible repeat first | exact HB.out | apply bA | apply bN | apply bD | refine bS ?_ GE358.out | refine bS ?_ GE359.out | refine bS ?_ GE366.out) hb)
          (try clear hb)
          (try clear hb2)
          (try clear hk)
          (try clear hi)
          (try clear ho0)
          obtain ⟨Ao23, co23, eo23⟩ := Kd.R_slice HO365.out
          (first | subst eo23 | (injection eo23 with f1_ f2_ f3_; have f4_ := f1_.symm; have f5_ := f3_.symm; clear f1_ f2_ f3_; subst f4_; subst f5_))
          refine hK.out _ _ ⟨(blk_cell BK358.out 0).trans rfl, (blk_cell BK358.out 1).trans rfl, (cB HB.out hw360_0), (cB HB.out hw361_0)⟩ (fun hHeld => ?_)
          clear hK K
          refine norm_ (a' := ?_) ?_ ?_
          rotate_left
          ·
           show Act.put _ (some 28) _ = _
           simp only [Act.put, sA, sB, sC, i64_w, i32_w]
           rfl
          refine pure_ (i := 14) (N := some 29) (v := ?_) (a' := ?_) #[true, true, true, true, true, true, true, true, true, true, true, true, true, true, true, true, false] rfl rfl (any_of HT_.out (by kernel_rfl)) (fun _ _ _ h => h) (Or.inl ⟨by rfl, ?_⟩) ?_ ?_
          rotate_left; · intro w'; go_simp; with_reducible rfl
          rotate_left; · simp only [Act.put, sA, sB, sC, i64_w, i32_w]; rfl
          exact norm_ (by simp only [putAll, Act.put, sA, sB, sC]) (hCont (.slice Ao23 t363.length co23, gb366) _ ⟨hHeld, (by (with_reducible repeat (first | apply Kd.R_alloc | apply Kd.R_drewN | apply Kd.R_drew)); exact HO365.out), (by (with_reducible repeat first | apply kN | apply kD | apply kA); exact BK358.out), (by (with_reducible repeat first | apply kN | apply kD | apply kA); exact BK359.out), (by (with_reducible repeat first | apply kN | apply kD | apply kA); exact BK366.out), GW366.out, GE366.out, NB358_366.out, NB366_358.out, NB359_366.out, NB366_359.out, (by with_reducible repeat first | exact HB.out | apply bA | apply bN | apply bD | refine bS ?_ GE358.out | refine bS ?_ GE359.out | refine bS ?_ GE366.out)⟩)
        rintro ⟨v364, gb366⟩ w24 ⟨hS_, h0_, h1_, h2_, h3_, h4_, h5_, h6_, h7_, h8_, h9_, h10_⟩
        have n0_ : Aside0 (Kd.R (Kd.int .u8) 5 w24 w.heap.size (fun _ => True) v364 t363) := ⟨h0_⟩
        have n1_ : Aside0 (w24.heap[gb358]? = some (.cells #[.int .i64 a0_0, .slice (some ad360) l0_1.length c0_1] 45 (0, 0))) := ⟨h1_⟩
        have n2_ : Aside0 (w24.heap[gb359]? = some (.cells #[.int .i64 0, .int .i64 0, .slice none 0 0] 41 (0, 0))) := ⟨h2_⟩
        have n3_ : Aside0 (w24.heap[gb366]? = some (.cells #[.int .i64 0, .int .i64 0, .slice none 0 0] 41 (0, 0))) := ⟨h3_⟩
        have n4_ : Aside0 (w.heap.size ≤ gb366) := ⟨h4_⟩
        have n5_ : Aside0 (w.heap.size ≤ gb366) := ⟨h5_⟩
        have n6_ : Aside0 (gb358 ≠ gb366) := ⟨h6_⟩
        have n7_ : Aside0 (gb366 ≠ gb358) := ⟨h7_⟩
        have n8_ : Aside0 (gb359 ≠ gb366) := ⟨h8_⟩
        have n9_ : Aside0 (gb366 ≠ gb359) := ⟨h9_⟩
        have n10_ : Aside0 (Below w.heap.size w w24) := ⟨h10_⟩
        clear BK358
        clear BK359
        clear HB
        clear h0_ h1_ h2_ h3_ h4_ h5_ h6_ h7_ h8_ h9_ h10_
        have HO365 := n0_
        have BK358 := n1_
        have BK359 := n2_
        have BK366 := n3_
        have GW366 := n4_
        have GE366 := n5_
        have NB358_366 := n6_
        have NB366_358 := n7_
        have NB359_366 := n8_
        have NB366_359 := n9_
        have HB := n10_
        clear n0_ n1_ n2_ n3_ n4_ n5_ n6_ n7_ n8_ n9_ n10_
        have hHeld : w24.cell? ⟨gb358, 0, none⟩ = some (.int .i64 a0_0) ∧ w24.cell? ⟨gb358, 1, none⟩ = some (.slice (some ad360) l0_1.length c0_1) ∧ w24.cell? ad360 = some (.int .u8 (rd l0_1 0)) ∧ w24.cell? ⟨ad360.block, ad360.off + 1, none⟩ = some (.int .u8 (rd l0_1 1)) := hS_
        obtain ⟨Ao25, co25, eo25⟩ := Kd.R_slice HO365.out
        (first | subst eo25 | (injection eo25 with f1_ f2_ f3_; have f4_ := f1_.symm; have f5_ := f3_.symm; clear f1_ f2_ f3_; subst f4_; subst f5_))
        refine norm_ (a' := ?_) ?_ ?_
        rotate_left
        ·
         simp only [putAll, Act.put, sA, sB, sC]
         rfl
        refine one_ (i := 16) (N := none) #[true, true, true, true, true, true, true, true, true, true, true, true, true, true, true, true, true] rfl rfl (one_of HT_.out (by kernel_rfl)) (by decide) (fun K hK => ?_)
        have hs26 : w24.cell? ⟨gb366, 0, none⟩ = some (.int .i64 0) := (blk_cell BK366.out 0).trans rfl
        have hfs26 := blk_frozen BK366.out 0
        have hns26_0 := NB358_366.out
        have hns26_1 := NB359_366.out
        have hms26_0 := NB366_358.out
        have hms26_1 := NB366_359.out
        have hs27 : w24.cell? ⟨gb366, 1, none⟩ = some (.int .i64 0) := (blk_cell BK366.out 1).trans rfl
        have hfs27 := blk_frozen BK366.out 1
        have hns27_0 := NB358_366.out
        have hns27_1 := NB359_366.out
        have hms27_0 := NB366_358.out
        have hms27_1 := NB366_359.out
        have hs28 : w24.cell? ⟨gb366, 2, none⟩ = some (.slice none 0 0) := (blk_cell BK366.out 2).trans rfl
        have hfs28 := blk_frozen BK366.out 2
        have hns28_0 := NB358_366.out
        have hns28_1 := NB359_366.out
        have hms28_0 := NB366_358.out
        have hms28_1 := NB366_359.out
        refine skip_ (w1 := ?_) (by rfl) rfl ?_ ?_
        rotate_left
        ·
         go_simp
         rfl
        refine hK.out _ _ ⟨((cell_far (p := ⟨gb366, _, none⟩) NB358_366.out _).trans (((cell_far (p := ⟨gb366, _, none⟩) NB358_366.out _).trans (((cell_far (p := ⟨gb366, _, none⟩) NB358_366.out _).trans (hHeld.1)))))), ((cell_far (p := ⟨gb366, _, none⟩) NB358_366.out _).trans (((cell_far (p := ⟨gb366, _, none⟩) NB358_366.out _).trans (((cell_far (p := ⟨gb366, _, none⟩) NB358_366.out _).trans (hHeld.2.1)))))), ((cell_far (p := ⟨gb366, _, none⟩) (by first | exact Nat.ne_of_lt (Nat.lt_of_lt_of_le (by have := World.block_lt_of_cell? _ _ hw360_0; first | rwa [add_block] at this | exact this) GW366.out) | (rw [add_block]; exact Nat.ne_of_lt (Nat.lt_of_lt_of_le (by have := World.block_lt_of_cell? _ _ hw360_0; first | rwa [add_block] at this | exact this) GW366.out)) | (show (Addr.add _ _).block ≠ _; rw [add_block]; exact Nat.ne_of_lt (Nat.lt_of_lt_of_le (by have := World.block_lt_of_cell? _ _ hw360_0; first | rwa [add_block] at this | exact this) GW366.out)) | (dsimp only; exact Nat.ne_of_lt (Nat.lt_of_lt_of_le (by have := World.block_lt_of_cell? _ _ hw360_0; first | rwa [add_block] at this | exact this) GW366.out))) _).trans (((cell_far (p := ⟨gb366, _, none⟩) (by first | exact Nat.ne_of_lt (Nat.lt_of_lt_of_le (by have := World.block_lt_of_cell? _ _ hw360_0; first | rwa [add_block] at this | exact this) GW366.out) | (rw [add_block]; exact Nat.ne_of_lt (Nat.lt_of_lt_of_le (by have := World.block_lt_of_cell? _ _ hw360_0; first | rwa [add_block] at this | exact this) GW366.out)) | (show (Addr.add _ _).block ≠ _; rw [add_block]; exact Nat.ne_of_lt (Nat.lt_of_lt_of_le (by have := World.block_lt_of_cell? _ _ hw360_0; first | rwa [add_block] at this | exact this) GW366.out)) | (dsimp only; exact Nat.ne_of_lt (Nat.lt_of_lt_of_le (by have := World.block_lt_of_cell? _ _ hw360_0; first | rwa [add_block] at this | exact this) GW366.out))) _).trans (((cell_far (p := ⟨gb366, _, none⟩) (by first | exact Nat.ne_of_lt (Nat.lt_of_lt_of_le (by have := World.block_lt_of_cell? _ _ hw360_0; first | rwa [add_block] at this | exact this) GW366.out) | (rw [add_block]; exact Nat.ne_of_lt (Nat.lt_of_lt_of_le (by have := World.block_lt_of_cell? _ _ hw360_0; first | rwa [add_block] at this | exact this) GW366.out)) | (show (Addr.add _ _).block ≠ _; rw [add_block]; exact Nat.ne_of_lt (Nat.lt_of_lt_of_le (by have := World.block_lt_of_cell? _ _ hw360_0; first | rwa [add_block] at this | exact this) GW366.out)) | (dsimp only; exact Nat.ne_of_lt (Nat.lt_of_lt_of_le (by have := World.block_lt_of_cell? _ _ hw360_0; first | rwa [add_block] at this | exact this) GW366.out))) _).trans (hHeld.2.2.1)))))), ((cell_far (p := ⟨gb366, _, none⟩) (by first | exact Nat.ne_of_lt (Nat.lt_of_lt_of_le (by have := World.block_lt_of_cell? _ _ hw361_0; first | rwa [add_block] at this | exact this) GW366.out) | (rw [add_block]; exact Nat.ne_of_lt (Nat.lt_of_lt_of_le (by have := World.block_lt_of_cell? _ _ hw361_0; first | rwa [add_block] at this | exact this) GW366.out)) | (show (Addr.add _ _).block ≠ _; rw [add_block]; exact Nat.ne_of_lt (Nat.lt_of_lt_of_le (by have := World.block_lt_of_cell? _ _ hw361_0; first | rwa [add_block] at this | exact this) GW366.out)) | (dsimp only; exact Nat.ne_of_lt (Nat.lt_of_lt_of_le (by have := World.block_lt_of_cell? _ _ hw361_0; first | rwa [add_block] at this | exact this) GW366.out))) _).trans (((cell_far (p := ⟨gb366, _, none⟩) (by first | exact Nat.ne_of_lt (Nat.lt_of_lt_of_le (by have := World.block_lt_of_cell? _ _ hw361_0; first | rwa [add_block] at this | exact this) GW366.out) | (rw [add_block]; exact Nat.ne_of_lt (Nat.lt_of_lt_of_le (by have := World.block_lt_of_cell? _ _ hw361_0; first | rwa [add_block] at this | exact this) GW366.out)) | (show (Addr.add _ _).block ≠ _; rw [add_block]; exact Nat.ne_of_lt (Nat.lt_of_lt_of_le (by have := World.block_lt_of_cell? _ _ hw361_0; first | rwa [add_block] at this | exact this) GW366.out)) | (dsimp only; exact Nat.ne_of_lt (Nat.lt_of_lt_of_le (by have := World.block_lt_of_cell? _ _ hw361_0; first | rwa [add_block] at this | exact this) GW366.out))) _).trans (((cell_far (p := ⟨gb366, _, none⟩) (by first | exact Nat.ne_of_lt (Nat.lt_of_lt_of_le (by have := World.block_lt_of_cell? _ _ hw361_0; first | rwa [add_block] at this | exact this) GW366.out) | (rw [add_block]; exact Nat.ne_of_lt (Nat.lt_of_lt_of_le (by have := World.block_lt_of_cell? _ _ hw361_0; first | rwa [add_block] at this | exact this) GW366.out)) | (show (Addr.add _ _).block ≠ _; rw [add_block]; exact Nat.ne_of_lt (Nat.lt_of_lt_of_le (by have := World.block_lt_of_cell? _ _ hw361_0; first | rwa [add_block] at this | exact this) GW366.out)) | (dsimp only; exact Nat.ne_of_lt (Nat.lt_of_lt_of_le (by have := World.block_lt_of_cell? _ _ hw361_0; first | rwa [add_block] at this | exact this) GW366.out))) _).trans (hHeld.2.2.2))))))⟩ (fun hHeld => ?_)
        clear hK K
        refine done_ (done_of HT_.out (by kernel_rfl)) ?_
        have hnb29 := NB366_358.out
        have hnc29 := NB358_366.out
        have hnb30 := NB366_359.out
        have hnc30 := NB359_366.out
        obtain ⟨hcz31_0, hcz31_1, hcz31_2, hfz31_0, hfz31_1, hfz31_2⟩ := bc3 BK366.out
        try go_wp2_with (first | ((with_reducible refine gate_callee (f := 30) rfl ?_); refine goesL_ (some 31) rfl rfl Tryd.func30 (by kernel_rfl) rfl #[.agg #[.int .i64 (wrap64 (rd l0_1 0)), .int .i64 (wrap64 (rd l0_1 1)), .slice Ao25 t363.length co25]] rfl (by (try simp only [List.map_toArray, List.map_cons, List.map_nil]); first | done | rfl | (simp only [List.length_drop, List.length_take]; rfl)) ?_; (with_reducible refine (note_Sane.calls (wrap64 (rd l0_1 0)) (wrap64 (rd l0_1 1)) _ _ t363 true _ ?side1 ?side2 A17.out).mono ?_); (case side1 => have hx_ := (Kd.R_far (p := ⟨gb366, 2, none⟩) (Kd.R_far (p := ⟨gb366, 1, none⟩) (Kd.R_far (p := ⟨gb366, 0, none⟩) (Kd.R_types HO365.out BK366.out (by decide)) (fun _ hk => hk.2) (.int .i64 (wrap64 (rd l0_1 0)))) (fun _ hk => hk.2) (.int .i64 (wrap64 (rd l0_1 1)))) (fun _ hk => hk.2) (.slice Ao25 t363.length co25)); (with_reducible repeat (first | apply Kd.C_alloc | apply Kd.C_drewN | apply Kd.C_drew)); exact (Kd.R_reads' hx_).2.2); (case side2 => exact (Kd.R_reads' HO365.out).2.1); rintro e w32 ⟨rfl, hb⟩; refine ⟨_, rfl, ?_⟩; replace HO365 := Aside0.mk (Kd.R_below (by (with_reducible repeat (first | apply Kd.R_alloc | apply Kd.R_drewN | apply Kd.R_drew)); exact (Kd.R_mono (Kd.R_far (p := ⟨gb366, 2, none⟩) (Kd.R_far (p := ⟨gb366, 1, none⟩) (Kd.R_far (p := ⟨gb366, 0, none⟩) (Kd.R_types HO365.out BK366.out (by decide)) (fun _ hk => hk.2) (.int .i64 (wrap64 (rd l0_1 0)))) (fun _ hk => hk.2) (.int .i64 (wrap64 (rd l0_1 1)))) (fun _ hk => hk.2) (.slice Ao25 t363.length co25)) (fun _ h_ => h_.1))) hb); replace BK358 := Aside0.mk (blk_below (g := gb358) (o := .cells #[.int .i64 a0_0, .slice (some ad360) l0_1.length c0_1] 45 (0, 0)) (by (with_reducible repeat first | apply kN | apply kD | apply kA); refine blk_far ?_ NB358_366.out _; (with_reducible repeat first | apply kN | apply kD | apply kA); refine blk_far ?_ NB358_366.out _; (with_reducible repeat first | apply kN | apply kD | apply kA); refine blk_far ?_ NB358_366.out _; (with_reducible repeat first | apply kN | apply kD | apply kA); exact BK358.out) hb); replace BK359 := Aside0.mk (blk_below (g := gb359) (o := .cells #[.int .i64 0, .int .i64 0, .slice none 0 0] 41 (0, 0)) (by (with_reducible repeat first | apply kN | apply kD | apply kA); refine blk_far ?_ NB359_366.out _; (with_reducible repeat first | apply kN | apply kD | apply kA); refine blk_far ?_ NB359_366.out _; (with_reducible repeat first | apply kN | apply kD | apply kA); refine blk_far ?_ NB359_366.out _; (with_reducible repeat first | apply kN | apply kD | apply kA); exact BK359.out) hb); replace BK366 := Aside0.mk (blk_below (g := gb366) (o := .cells #[.int .i64 (wrap64 (rd l0_1 0)), .int .i64 (wrap64 (rd l0_1 1)), .slice Ao25 t363.length co25] 41 (0, 0)) (by (with_reducible repeat first | apply kN | apply kD | apply kA); refine blk_put (cs := #[.int .i64 (wrap64 (rd l0_1 0)), .int .i64 (wrap64 (rd l0_1 1)), .slice none 0 0]) ?_ 2 _ rfl; (with_reducible repeat first | apply kN | apply kD | apply kA); refine blk_put (cs := #[.int .i64 (wrap64 (rd l0_1 0)), .int .i64 0, .slice none 0 0]) ?_ 1 _ rfl; (with_reducible repeat first | apply kN | apply kD | apply kA); refine blk_put (cs := #[.int .i64 0, .int .i64 0, .slice none 0 0]) ?_ 0 _ rfl; (with_reducible repeat first | apply kN | apply kD | apply kA); exact BK366.out) hb); replace HB := Aside0.mk (below_step (by with_reducible repeat first | exact HB.out | apply bA | apply bN | apply bD | refine bS ?_ GE358.out | refine bS ?_ GE359.out | refine bS ?_ GE366.out) hb); (try clear hb); (try clear hb2); (try clear hk); (try clear hi); obtain ⟨hcz33_0, hcz33_1, hcz33_2, hfz33_0, hfz33_1, hfz33_2⟩ := bc3 BK366.out; have hnb34 := NB359_358.out; have hnc34 := NB358_359.out; obtain ⟨hcz35_0, hcz35_1, hcz35_2, hfz35_0, hfz35_1, hfz35_2⟩ := bc3 BK359.out))
        refine bodyPost_ret (results_ct rfl _ _ gb359 41 #[.int .i64 (wrap64 (rd l0_1 0)), .int .i64 (wrap64 (rd l0_1 1)), .slice Ao25 t363.length co25] (0, 0) _ rfl (by (with_reducible repeat first | apply kN | apply kD | apply kA); refine blk_put (cs := #[.int .i64 (wrap64 (rd l0_1 0)), .int .i64 (wrap64 (rd l0_1 1)), .slice none 0 0]) ?_ 2 _ rfl; (with_reducible repeat first | apply kN | apply kD | apply kA); refine blk_put (cs := #[.int .i64 (wrap64 (rd l0_1 0)), .int .i64 0, .slice none 0 0]) ?_ 1 _ rfl; (with_reducible repeat first | apply kN | apply kD | apply kA); refine blk_put (cs := #[.int .i64 0, .int .i64 0, .slice none 0 0]) ?_ 0 _ rfl; (with_reducible repeat first | apply kN | apply kD | apply kA); exact BK359.out) Tryd.underlying41 rfl (by kernel_rfl)) rfl ?_
        exact ⟨_, by first | rfl | (simp <;> rfl) | (simp [*] <;> rfl), by (with_reducible repeat (first | apply Kd.R_alloc | apply Kd.R_drewN | apply Kd.R_drew)); exact Kd.R_mono (Kd.R_far (p := ⟨gb359, 2, none⟩) (Kd.R_far (p := ⟨gb359, 1, none⟩) (Kd.R_far (p := ⟨gb359, 0, none⟩) (Kd.R_types HO365.out BK359.out (by decide)) (fun _ hk => hk.2) (.int .i64 (wrap64 (rd l0_1 0)))) (fun _ hk => hk.2) (.int .i64 (wrap64 (rd l0_1 1)))) (fun _ hk => hk.2) (.slice Ao25 t363.length co25)) (fun _ hk => trivial), by with_reducible repeat first | exact HB.out | apply bA | apply bN | apply bD | refine bS ?_ GE358.out | refine bS ?_ GE359.out | refine bS ?_ GE366.out⟩
       ·
        replace c18 := Bool.eq_false_iff.mpr c18
        subst c18
        have H1 : (some (0, 0, ([] : List Int), false)) = some (r1, r2, r3, r4) := by rw [if_neg (show ¬ (false = true) by decide)] at H; first | done | exact H
        clear H
        have H := H1
        clear H1
        simp only [Option.some.injEq, Prod.mk.injEq] at H
        obtain ⟨rfl, rfl, rfl, rfl⟩ := H
        try go_wp2
        replace BK358 := Aside0.mk (blk_drew BK358.out)
        replace BK359 := Aside0.mk (blk_drew BK359.out)
        replace HB := Aside0.mk (below_drew1 HB.out)
        have p360 : 0 ≤ (0 : Int) := (by omega)
        have q360 : 0 < (l0_1.length : Int) := of_decide_eq_true (by first | (with_reducible assumption) | assumption)
        obtain ⟨ad360, e360, hx360_0⟩ := Kd.at_int HR0_1.out 0 p360 q360
        have hw360_0 := hx360_0
        (try rw [show ((0 : Int)).toNat = 0 from rfl] at hw360_0)
        (try rw [show 0 * 1 = 0 from rfl] at hw360_0)
        (try rw [Addr.add_zero'] at hw360_0)
        cases e360
        have qi360 : (0 < l0_1.length) = True := eq_true (by omega)
        (try rw [show ((0 : Int)).toNat = 0 from rfl] at hx360_0)
        (try rw [Addr.add_zero'] at hx360_0)
        replace hx360_0 := cB HB.out hx360_0
        replace p360 := eq_true p360
        replace q360 := eq_true q360
        have p361 : 0 ≤ (1 : Int) := (by omega)
        have q361 : 1 < (l0_1.length : Int) := of_decide_eq_true (by first | (with_reducible assumption) | assumption)
        obtain ⟨ad361, e361, hx361_0⟩ := Kd.at_int HR0_1.out 1 p361 q361
        have hw361_0 := hx361_0
        (try rw [show ((1 : Int)).toNat = 1 from rfl] at hw361_0)
        (try rw [show 1 * 1 = 1 from rfl] at hw361_0)
        (try simp only [Nat.reduceMul, Nat.reduceEqDiff, Go.Addr.add, ↓reduceIte] at hw361_0)
        obtain rfl : ad360 = ad361 := (by injection e361)
        (try simp only [show (1 : Int).toNat = 1 from rfl, Nat.reduceMul, Nat.reduceEqDiff, Go.Addr.add, ↓reduceIte] at hx361_0)
        have qi361 : (1 < l0_1.length) = True := eq_true (by omega)
        (try rw [show ((1 : Int)).toNat = 1 from rfl] at hx361_0)
        replace hx361_0 := cB HB.out hx361_0
        replace p361 := eq_true p361
        replace q361 := eq_true q361
        obtain ⟨i037, hi037, _, hsz37, _⟩ := info_parts info5
        obtain ⟨A37, hcut37, hA37, hC37⟩ := print_drop_of (P := Tryd.prog) (Value.int .u8) 0 39 5 .i64 Tryd.underlying39 hi037 hsz37 (some ad360) c0_1 l0_1 2 (by omega) (of_decide_eq_true (by first | (with_reducible assumption) | assumption)) HC0_1.out
        have HR362 := Aside0.mk (Kd.C_of_reads (h1 := fun _ => rfl) (hA37 _ (Kd.reads_of_C HR0_1.out)))
        have HC362 := Aside0.mk hC37
        clear hA37 hC37 hi037 hsz37
        refine start_ (n := 17) (S := fun w' => w'.cell? ⟨gb358, 0, none⟩ = some (.int .i64 a0_0) ∧ w'.cell? ⟨gb358, 1, none⟩ = some (.slice (some ad360) l0_1.length c0_1) ∧ w'.cell? ad360 = some (.int .u8 (rd l0_1 0)) ∧ w'.cell? ⟨ad360.block, ad360.off + 1, none⟩ = some (.int .u8 (rd l0_1 1))) (ds := []) #[false, false, false, false, false, false, false, false, false, false, false, false, false, false, false, false, false] (by kernel_rfl) rfl rfl ⟨(blk_cell BK358.out 0).trans rfl, (blk_cell BK358.out 1).trans rfl, (cB HB.out hw360_0), (cB HB.out hw361_0)⟩ (fun hHeld => ?_); refine with_tabW note_Get.tab3 note_Get.bits3 (fun HT_ HW_ => ?_)
        generalize wc.drew = w36 at BK358 BK359 HB HR362 hx360_0 hx361_0 hHeld ⊢
        refine pure_ (i := 0) (N := some 15) (v := ?_) (a' := ?_) #[true, false, false, false, false, false, false, false, false, false, false, false, false, false, false, false, false] rfl rfl (any_of HT_.out (by kernel_rfl)) (fun _ _ _ h => h) (Or.inl ⟨by rfl, ?_⟩) ?_ ?_
        rotate_left; · intro w'; go_simp; with_reducible rfl
        rotate_left; · simp only [Act.put, sA, sB, sC, i64_w, i32_w]; rfl
        refine pure_ (i := 5) (N := some 20) (v := ?_) (a' := ?_) #[true, false, false, false, false, true, false, false, false, false, false, false, false, false, false, false, false] rfl rfl (any_of HT_.out (by kernel_rfl)) (fun _ _ _ h => h) (Or.inl ⟨by rfl, ?_⟩) ?_ ?_
        rotate_left; · intro w'; go_simp; with_reducible rfl
        rotate_left; · simp only [Act.put, sA, sB, sC, i64_w, i32_w]; rfl
        refine pure_ (i := 10) (N := some 25) (v := ?_) (a' := ?_) #[true, false, false, false, false, true, false, false, false, false, true, false, false, false, false, false, false] rfl rfl (any_of HT_.out (by kernel_rfl)) (fun _ _ _ h => h) (Or.inl ⟨by rfl, ?_⟩) ?_ ?_
        rotate_left; · intro w'; go_simp; with_reducible rfl
        rotate_left; · simp only [Act.put, sA, sB, sC, i64_w, i32_w]; rfl
        refine take_ (i := 1) (N := some 16) (v := ?_) (a' := ?_) #[true, true, false, false, false, true, false, false, false, false, true, false, false, false, false, false, false] rfl rfl (take_ofW HT_.out HW_.out (by kernel_rfl)) (fun _ _ _ h => h) (Or.inl ⟨by rfl, ?_⟩) hHeld ?_ ?_
        rotate_left; · rintro w' ⟨s0, s1, s2, s3⟩; go_simp; with_reducible rfl
        rotate_left; · simp only [Act.put, sA, sB, sC, i64_w, i32_w]; rfl
        refine pure_ (i := 2) (N := some 17) (v := ?_) (a' := ?_) #[true, true, true, false, false, true, false, false, false, false, true, false, false, false, false, false, false] rfl rfl (any_of HT_.out (by kernel_rfl)) (fun _ _ _ h => h) (Or.inl ⟨by rfl, ?_⟩) ?_ ?_
        rotate_left; · intro w'; go_simp; with_reducible rfl
        rotate_left; · simp only [Act.put, sA, sB, sC, i64_w, i32_w]; rfl
        refine take_ (i := 3) (N := some 18) (v := ?_) (a' := ?_) #[true, true, true, true, false, true, false, false, false, false, true, false, false, false, false, false, false] rfl rfl (take_ofW HT_.out HW_.out (by kernel_rfl)) (fun _ _ _ h => h) (Or.inl ⟨by rfl, ?_⟩) hHeld ?_ ?_
        rotate_left; · rintro w' ⟨s0, s1, s2, s3⟩; go_simp; with_reducible rfl
        rotate_left; · simp only [Act.put, sA, sB, sC, i64_w, i32_w]; rfl
        refine pure_ (i := 4) (N := some 19) (v := ?_) (a' := ?_) #[true, true, true, true, true, true, false, false, false, false, true, false, false, false, false, false, false] rfl rfl (any_of HT_.out (by kernel_rfl)) (fun _ _ _ h => h) (Or.inl ⟨by rfl, ?_⟩) ?_ ?_
        rotate_left; · intro w'; go_simp; with_reducible rfl
        rotate_left; · simp only [Act.put, sA, sB, sC, i64_w, i32_w]; rfl
        refine take_ (i := 6) (N := some 21) (v := ?_) (a' := ?_) #[true, true, true, true, true, true, true, false, false, false, true, false, false, false, false, false, false] rfl rfl (take_ofW HT_.out HW_.out (by kernel_rfl)) (fun _ _ _ h => h) (Or.inl ⟨by rfl, ?_⟩) hHeld ?_ ?_
        rotate_left; · rintro w' ⟨s0, s1, s2, s3⟩; go_simp; with_reducible rfl
        rotate_left; · simp only [Act.put, sA, sB, sC, i64_w, i32_w]; rfl
        refine pure_ (i := 7) (N := some 22) (v := ?_) (a' := ?_) #[true, true, true, true, true, true, true, true, false, false, true, false, false, false, false, false, false] rfl rfl (any_of HT_.out (by kernel_rfl)) (fun _ _ _ h => h) (Or.inl ⟨by rfl, ?_⟩) ?_ ?_
        rotate_left; · intro w'; go_simp; with_reducible rfl
        rotate_left; · simp only [Act.put, sA, sB, sC, i64_w, i32_w]; rfl
        refine take_ (i := 8) (N := some 23) (v := ?_) (a' := ?_) #[true, true, true, true, true, true, true, true, true, false, true, false, false, false, false, false, false] rfl rfl (take_ofW HT_.out HW_.out (by kernel_rfl)) (fun _ _ _ h => h) (Or.inl ⟨by rfl, ?_⟩) hHeld ?_ ?_
        rotate_left; · rintro w' ⟨s0, s1, s2, s3⟩; go_simp; with_reducible rfl
        rotate_left; · simp only [Act.put, sA, sB, sC, i64_w, i32_w]; rfl
        refine pure_ (i := 9) (N := some 24) (v := ?_) (a' := ?_) #[true, true, true, true, true, true, true, true, true, true, true, false, false, false, false, false, false] rfl rfl (any_of HT_.out (by kernel_rfl)) (fun _ _ _ h => h) (Or.inl ⟨by rfl, ?_⟩) ?_ ?_
        rotate_left; · intro w'; go_simp; with_reducible rfl
        rotate_left; · simp only [Act.put, sA, sB, sC, i64_w, i32_w]; rfl
        refine take_ (i := 11) (N := some 26) (v := ?_) (a' := ?_) #[true, true, true, true, true, true, true, true, true, true, true, true, false, false, false, false, false] rfl rfl (take_ofW HT_.out HW_.out (by kernel_rfl)) (fun _ _ _ h => h) (Or.inl ⟨by rfl, ?_⟩) hHeld ?_ ?_
        rotate_left; · rintro w' ⟨s0, s1, s2, s3⟩; go_simp; with_reducible rfl
        rotate_left; · simp only [Act.put, sA, sB, sC, i64_w, i32_w]; rfl
        refine pure_ (i := 12) (N := some 27) (v := ?_) (a' := ?_) #[true, true, true, true, true, true, true, true, true, true, true, true, true, false, false, false, false] rfl rfl (any_of HT_.out (by kernel_rfl)) (fun _ _ _ h => h) (Or.inl ⟨by rfl, ?_⟩) ?_ ?_
        rotate_left; · intro w'; go_simp; with_reducible rfl
        rotate_left; · simp only [Act.put, sA, sB, sC, i64_w, i32_w]; rfl
        refine join_ (σ := Value × Nat) 1 #[true, true, true, true, true, true, true, true, true, true, true, true, true, true, true, true, false] (fun s_ => [(28, s_.1), (4, .pointer (some ⟨s_.2, 0, none⟩)), (29, .agg #[.int .i64 (wrap64 (rd l0_1 0)), .int .i64 (wrap64 (rd l0_1 1)), s_.1])]) (fun s_ w' => (w'.cell? ⟨gb358, 0, none⟩ = some (.int .i64 a0_0) ∧ w'.cell? ⟨gb358, 1, none⟩ = some (.slice (some ad360) l0_1.length c0_1) ∧ w'.cell? ad360 = some (.int .u8 (rd l0_1 0)) ∧ w'.cell? ⟨ad360.block, ad360.off + 1, none⟩ = some (.int .u8 (rd l0_1 1))) ∧ (Kd.R (Kd.int .u8) 5 w' w.heap.size (fun _ => True) s_.1 t363) ∧ (w'.heap[gb358]? = some (.cells #[.int .i64 a0_0, .slice (some ad360) l0_1.length c0_1] 45 (0, 0))) ∧ (w'.heap[gb359]? = some (.cells #[.int .i64 0, .int .i64 0, .slice none 0 0] 41 (0, 0))) ∧ (w'.heap[s_.2]? = some (.cells #[.int .i64 0, .int .i64 0, .slice none 0 0] 41 (0, 0))) ∧ (w.heap.size ≤ s_.2) ∧ (w.heap.size ≤ s_.2) ∧ (gb358 ≠ s_.2) ∧ (s_.2 ≠ gb358) ∧ (gb359 ≠ s_.2) ∧ (s_.2 ≠ gb359) ∧ (Below w.heap.size w w')) ?_ ?_
        rotate_left
        ·
         intro hCont
         refine two_ (i := 13) (j := 15) (Ni := some 28) (Nj := some 4) #[true, true, true, true, true, true, true, true, true, true, true, true, true, true, false, false, false] #[true, true, true, true, true, true, true, true, true, true, true, true, true, false, false, true, false] rfl rfl rfl rfl (two_of HT_.out (by kernel_rfl)) (by decide) (by decide) (fun K hK => ?_) (fun K hK => ?_)
         ·
          skip
          refine goes_ Tryd.func29 (by kernel_rfl) rfl #[.slice A37 (l0_1.drop 2).length (c0_1 - 2)] (by rfl) rfl rfl (by (try simp only [List.map_toArray, List.map_cons, List.map_nil]); first | done | (rw [show (l0_1.drop 2).length = (l0_1.length - 2) from List.length_drop] <;> rfl) | rfl | (simp only [List.length_drop, List.length_take]; rfl)) ?_
          with_reducible refine (slices_Clone_byte_byte.calls _ _ (l0_1.drop 2) t363 _ ?side1 ?side2 A16.out).mono ?_
          (case side1 => repeat first | exact (Kd.C_below HR362.out HB.out) | with_reducible first | apply Kd.C_alloc | apply Kd.C_drewN | apply Kd.C_drew)
          (case side2 => exact HC362.out)
          rintro e w38 ⟨v364, rfl, ho0, hb⟩
          refine ⟨_, rfl, ?_⟩
          have HO365 := Aside0.mk (Kd.R_lower ho0 (below_size (by with_reducible repeat first | exact HB.out | apply bA | apply bN | apply bD | refine bS ?_ GE358.out | refine bS ?_ GE359.out)))
          replace BK358 := Aside0.mk (blk_below (g := gb358) (by (with_reducible repeat first | apply kN | apply kD | apply kA); exact BK358.out) hb)
          replace BK359 := Aside0.mk (blk_below (g := gb359) (by (with_reducible repeat first | apply kN | apply kD | apply kA); exact BK359.out) hb)
          replace HB := Aside0.mk (below_step (by with_reducible repeat first | exact HB.out | apply bA | apply bN | apply bD | refine bS ?_ GE358.out | refine bS ?_ GE359.out) hb)
          (try clear hb)
          (try clear hb2)
          (try clear hk)
          (try clear hi)
          (try clear ho0)
          obtain ⟨Ao39, co39, eo39⟩ := Kd.R_slice HO365.out
          (first | subst eo39 | (injection eo39 with f1_ f2_ f3_; have f4_ := f1_.symm; have f5_ := f3_.symm; clear f1_ f2_ f3_; subst f4_; subst f5_))
          refine hK.out _ _ ⟨(blk_cell BK358.out 0).trans rfl, (blk_cell BK358.out 1).trans rfl, (cB HB.out hw360_0), (cB HB.out hw361_0)⟩ (fun hHeld => ?_)
          clear hK K
          refine norm_ (a' := ?_) ?_ ?_
          rotate_left
          ·
           show Act.put _ (some 28) _ = _
           simp only [Act.put, sA, sB, sC, i64_w, i32_w]
           rfl
          refine pure_ (i := 14) (N := some 29) (v := ?_) (a' := ?_) #[true, true, true, true, true, true, true, true, true, true, true, true, true, true, true, false, false] rfl rfl (any_of HT_.out (by kernel_rfl)) (fun _ _ _ h => h) (Or.inl ⟨by rfl, ?_⟩) ?_ ?_
          rotate_left; · intro w'; go_simp; with_reducible rfl
          rotate_left; · simp only [Act.put, sA, sB, sC, i64_w, i32_w]; rfl
          refine one_ (i := 15) (N := some 4) #[true, true, true, true, true, true, true, true, true, true, true, true, true, true, true, true, false] rfl rfl (one_of HT_.out (by kernel_rfl)) (by decide) (fun K hK => ?_)
          refine box_step ?hg (N := 4) ?hd (cs := #[.int .i64 0, .int .i64 0, .slice none 0 0]) (t := 41) ?hr ?_; (case hd | hg => rfl); (case hr => first | (go_simp; done) | (go_simp; rfl))
          intro gb366 hg w40 hbox hb
          replace HO365 := Aside0.mk (Kd.R_below (by (with_reducible repeat (first | apply Kd.R_alloc | apply Kd.R_drewN | apply Kd.R_drew)); exact HO365.out) hb)
          have BK366 := Aside0.mk (hbox)
          have GW366 := Aside0.mk ((by rw [hg]; exact (below_size (by with_reducible repeat first | exact HB.out | apply bA | apply bN | apply bD | refine bS ?_ GE358.out | refine bS ?_ GE359.out)) : w.heap.size ≤ gb366))
          have GE366 := Aside0.mk ((by rw [hg]; exact (below_size (by with_reducible repeat first | exact HB.out | apply bA | apply bN | apply bD | refine bS ?_ GE358.out | refine bS ?_ GE359.out)) : w.heap.size ≤ gb366))
          replace HB := Aside0.mk (below_step (by with_reducible repeat first | exact HB.out | apply bA | apply bN | apply bD | refine bS ?_ GE358.out | refine bS ?_ GE359.out) hb)
          have NB358_366 := Aside0.mk ((by rw [hg]; exact Nat.ne_of_lt (blk_lt (g := gb358) (by (with_reducible repeat first | apply kN | apply kD | apply kA); exact BK358.out)) : gb358 ≠ gb366))
          have NB366_358 := Aside0.mk ((by rw [hg]; exact Nat.ne_of_gt (blk_lt (g := gb358) (by (with_reducible repeat first | apply kN | apply kD | apply kA); exact BK358.out)) : gb366 ≠ gb358))
          replace BK358 := Aside0.mk (blk_below (g := gb358) (by (with_reducible repeat first | apply kN | apply kD | apply kA); exact BK358.out) hb)
          have NB359_366 := Aside0.mk ((by rw [hg]; exact Nat.ne_of_lt (blk_lt (g := gb359) (by (with_reducible repeat first | apply kN | apply kD | apply kA); exact BK359.out)) : gb359 ≠ gb366))
          have NB366_359 := Aside0.mk ((by rw [hg]; exact Nat.ne_of_gt (blk_lt (g := gb359) (by (with_reducible repeat first | apply kN | apply kD | apply kA); exact BK359.out)) : gb366 ≠ gb359))
          replace BK359 := Aside0.mk (blk_below (g := gb359) (by (with_reducible repeat first | apply kN | apply kD | apply kA); exact BK359.out) hb)
          clear hb hbox hg
          refine hK.out _ _ ⟨(blk_cell BK358.out 0).trans rfl, (blk_cell BK358.out 1).trans rfl, (cB HB.out hw360_0), (cB HB.out hw361_0)⟩ (fun hHeld => ?_)
          clear hK K
          refine norm_ (a' := ?_) ?_ ?_
          rotate_left
          ·
           show Act.put _ (some 4) _ = _
           simp only [Act.put, sA, sB, sC, i64_w, i32_w]
           rfl
          exact norm_ (by simp only [putAll, Act.put, sA, sB, sC]) (hCont (.slice Ao39 t363.length co39, gb366) _ ⟨hHeld, (by (with_reducible repeat (first | apply Kd.R_alloc | apply Kd.R_drewN | apply Kd.R_drew)); exact HO365.out), (by (with_reducible repeat first | apply kN | apply kD | apply kA); exact BK358.out), (by (with_reducible repeat first | apply kN | apply kD | apply kA); exact BK359.out), (by (with_reducible repeat first | apply kN | apply kD | apply kA); exact BK366.out), GW366.out, GE366.out, NB358_366.out, NB366_358.out, NB359_366.out, NB366_359.out, (by with_reducible repeat first | exact HB.out | apply bA | apply bN | apply bD | refine bS ?_ GE358.out | refine bS ?_ GE359.out | refine bS ?_ GE366.out)⟩)
         ·
          skip
          refine box_step ?hg (N := 4) ?hd (cs := #[.int .i64 0, .int .i64 0, .slice none 0 0]) (t := 41) ?hr ?_; (case hd | hg => rfl); (case hr => first | (go_simp; done) | (go_simp; rfl))
          intro gb366 hg w38 hbox hb
          have BK366 := Aside0.mk (hbox)
          have GW366 := Aside0.mk ((by rw [hg]; exact (below_size (by with_reducible repeat first | exact HB.out | apply bA | apply bN | apply bD | refine bS ?_ GE358.out | refine bS ?_ GE359.out)) : w.heap.size ≤ gb366))
          have GE366 := Aside0.mk ((by rw [hg]; exact (below_size (by with_reducible repeat first | exact HB.out | apply bA | apply bN | apply bD | refine bS ?_ GE358.out | refine bS ?_ GE359.out)) : w.heap.size ≤ gb366))
          replace HB := Aside0.mk (below_step (by with_reducible repeat first | exact HB.out | apply bA | apply bN | apply bD | refine bS ?_ GE358.out | refine bS ?_ GE359.out) hb)
          have NB358_366 := Aside0.mk ((by rw [hg]; exact Nat.ne_of_lt (blk_lt (g := gb358) (by (with_reducible repeat first | apply kN | apply kD | apply kA); exact BK358.out)) : gb358 ≠ gb366))
          have NB366_358 := Aside0.mk ((by rw [hg]; exact Nat.ne_of_gt (blk_lt (g := gb358) (by (with_reducible repeat first | apply kN | apply kD | apply kA); exact BK358.out)) : gb366 ≠ gb358))
          replace BK358 := Aside0.mk (blk_below (g := gb358) (by (with_reducible repeat first | apply kN | apply kD | apply kA); exact BK358.out) hb)
          have NB359_366 := Aside0.mk ((by rw [hg]; exact Nat.ne_of_lt (blk_lt (g := gb359) (by (with_reducible repeat first | apply kN | apply kD | apply kA); exact BK359.out)) : gb359 ≠ gb366))
          have NB366_359 := Aside0.mk ((by rw [hg]; exact Nat.ne_of_gt (blk_lt (g := gb359) (by (with_reducible repeat first | apply kN | apply kD | apply kA); exact BK359.out)) : gb366 ≠ gb359))
          replace BK359 := Aside0.mk (blk_below (g := gb359) (by (with_reducible repeat first | apply kN | apply kD | apply kA); exact BK359.out) hb)
          clear hb hbox hg
          refine hK.out _ _ ⟨(blk_cell BK358.out 0).trans rfl, (blk_cell BK358.out 1).trans rfl, (cB HB.out hw360_0), (cB HB.out hw361_0)⟩ (fun hHeld => ?_)
          clear hK K
          refine norm_ (a' := ?_) ?_ ?_
          rotate_left
          ·
           show Act.put _ (some 4) _ = _
           simp only [Act.put, sA, sB, sC, i64_w, i32_w]
           rfl
          refine one_ (i := 13) (N := some 28) #[true, true, true, true, true, true, true, true, true, true, true, true, true, true, false, true, false] rfl rfl (one_of HT_.out (by kernel_rfl)) (by decide) (fun K hK => ?_)
          refine goes_ Tryd.func29 (by kernel_rfl) rfl #[.slice A37 (l0_1.drop 2).length (c0_1 - 2)] (by rfl) rfl rfl (by (try simp only [List.map_toArray, List.map_cons, List.map_nil]); first | done | (rw [show (l0_1.drop 2).length = (l0_1.length - 2) from List.length_drop] <;> rfl) | rfl | (simp only [List.length_drop, List.length_take]; rfl)) ?_
          with_reducible refine (slices_Clone_byte_byte.calls _ _ (l0_1.drop 2) t363 _ ?side1 ?side2 A16.out).mono ?_
          (case side1 => repeat first | exact (Kd.C_below HR362.out HB.out) | with_reducible first | apply Kd.C_alloc | apply Kd.C_drewN | apply Kd.C_drew)
          (case side2 => exact HC362.out)
          rintro e w39 ⟨v364, rfl, ho0, hb⟩
          refine ⟨_, rfl, ?_⟩
          have HO365 := Aside0.mk (Kd.R_lower ho0 (below_size (by with_reducible repeat first | exact HB.out | apply bA | apply bN | apply bD | refine bS ?_ GE358.out | refine bS ?_ GE359.out | refine bS ?_ GE366.out)))
          replace BK358 := Aside0.mk (blk_below (g := gb358) (by (with_reducible repeat first | apply kN | apply kD | apply kA); exact BK358.out) hb)
          replace BK359 := Aside0.mk (blk_below (g := gb359) (by (with_reducible repeat first | apply kN | apply kD | apply kA); exact BK359.out) hb)
          replace BK366 := Aside0.mk (blk_below (g := gb366) (by (with_reducible repeat first | apply kN | apply kD | apply kA); exact BK366.out) hb)
          replace HB := Aside0.mk (below_step (by with_reducible repeat first | exact HB.out | apply bA | apply bN | apply bD | refine bS ?_ GE358.out | refine bS ?_ GE359.out | refine bS ?_ GE366.out) hb)
          (try clear hb)
          (try clear hb2)
          (try clear hk)
          (try clear hi)
          (try clear ho0)
          obtain ⟨Ao40, co40, eo40⟩ := Kd.R_slice HO365.out
          (first | subst eo40 | (injection eo40 with f1_ f2_ f3_; have f4_ := f1_.symm; have f5_ := f3_.symm; clear f1_ f2_ f3_; subst f4_; subst f5_))
          refine hK.out _ _ ⟨(blk_cell BK358.out 0).trans rfl, (blk_cell BK358.out 1).trans rfl, (cB HB.out hw360_0), (cB HB.out hw361_0)⟩ (fun hHeld => ?_)
          clear hK K
          refine norm_ (a' := ?_) ?_ ?_
          rotate_left
          ·
           show Act.put _ (some 28) _ = _
           simp only [Act.put, sA, sB, sC, i64_w, i32_w]
           rfl
          refine pure_ (i := 14) (N := some 29) (v := ?_) (a' := ?_) #[true, true, true, true, true, true, true, true, true, true, true, true, true, true, true, true, false] rfl rfl (any_of HT_.out (by kernel_rfl)) (fun _ _ _ h => h) (Or.inl ⟨by rfl, ?_⟩) ?_ ?_
          rotate_left; · intro w'; go_simp; with_reducible rfl
          rotate_left; · simp only [Act.put, sA, sB, sC, i64_w, i32_w]; rfl
          exact norm_ (by simp only [putAll, Act.put, sA, sB, sC]) (hCont (.slice Ao40 t363.length co40, gb366) _ ⟨hHeld, (by (with_reducible repeat (first | apply Kd.R_alloc | apply Kd.R_drewN | apply Kd.R_drew)); exact HO365.out), (by (with_reducible repeat first | apply kN | apply kD | apply kA); exact BK358.out), (by (with_reducible repeat first | apply kN | apply kD | apply kA); exact BK359.out), (by (with_reducible repeat first | apply kN | apply kD | apply kA); exact BK366.out), GW366.out, GE366.out, NB358_366.out, NB366_358.out, NB359_366.out, NB366_359.out, (by with_reducible repeat first | exact HB.out | apply bA | apply bN | apply bD | refine bS ?_ GE358.out | refine bS ?_ GE359.out | refine bS ?_ GE366.out)⟩)
        rintro ⟨v364, gb366⟩ w41 ⟨hS_, h0_, h1_, h2_, h3_, h4_, h5_, h6_, h7_, h8_, h9_, h10_⟩
        have n0_ : Aside0 (Kd.R (Kd.int .u8) 5 w41 w.heap.size (fun _ => True) v364 t363) := ⟨h0_⟩
        have n1_ : Aside0 (w41.heap[gb358]? = some (.cells #[.int .i64 a0_0, .slice (some ad360) l0_1.length c0_1] 45 (0, 0))) := ⟨h1_⟩
        have n2_ : Aside0 (w41.heap[gb359]? = some (.cells #[.int .i64 0, .int .i64 0, .slice none 0 0] 41 (0, 0))) := ⟨h2_⟩
        have n3_ : Aside0 (w41.heap[gb366]? = some (.cells #[.int .i64 0, .int .i64 0, .slice none 0 0] 41 (0, 0))) := ⟨h3_⟩
        have n4_ : Aside0 (w.heap.size ≤ gb366) := ⟨h4_⟩
        have n5_ : Aside0 (w.heap.size ≤ gb366) := ⟨h5_⟩
        have n6_ : Aside0 (gb358 ≠ gb366) := ⟨h6_⟩
        have n7_ : Aside0 (gb366 ≠ gb358) := ⟨h7_⟩
        have n8_ : Aside0 (gb359 ≠ gb366) := ⟨h8_⟩
        have n9_ : Aside0 (gb366 ≠ gb359) := ⟨h9_⟩
        have n10_ : Aside0 (Below w.heap.size w w41) := ⟨h10_⟩
        clear BK358
        clear BK359
        clear HB
        clear h0_ h1_ h2_ h3_ h4_ h5_ h6_ h7_ h8_ h9_ h10_
        have HO365 := n0_
        have BK358 := n1_
        have BK359 := n2_
        have BK366 := n3_
        have GW366 := n4_
        have GE366 := n5_
        have NB358_366 := n6_
        have NB366_358 := n7_
        have NB359_366 := n8_
        have NB366_359 := n9_
        have HB := n10_
        clear n0_ n1_ n2_ n3_ n4_ n5_ n6_ n7_ n8_ n9_ n10_
        have hHeld : w41.cell? ⟨gb358, 0, none⟩ = some (.int .i64 a0_0) ∧ w41.cell? ⟨gb358, 1, none⟩ = some (.slice (some ad360) l0_1.length c0_1) ∧ w41.cell? ad360 = some (.int .u8 (rd l0_1 0)) ∧ w41.cell? ⟨ad360.block, ad360.off + 1, none⟩ = some (.int .u8 (rd l0_1 1)) := hS_
        obtain ⟨Ao42, co42, eo42⟩ := Kd.R_slice HO365.out
        (first | subst eo42 | (injection eo42 with f1_ f2_ f3_; have f4_ := f1_.symm; have f5_ := f3_.symm; clear f1_ f2_ f3_; subst f4_; subst f5_))
        refine norm_ (a' := ?_) ?_ ?_
        rotate_left
        ·
         simp only [putAll, Act.put, sA, sB, sC]
         rfl
        refine one_ (i := 16) (N := none) #[true, true, true, true, true, true, true, true, true, true, true, true, true, true, true, true, true] rfl rfl (one_of HT_.out (by kernel_rfl)) (by decide) (fun K hK => ?_)
        have hs43 : w41.cell? ⟨gb366, 0, none⟩ = some (.int .i64 0) := (blk_cell BK366.out 0).trans rfl
        have hfs43 := blk_frozen BK366.out 0
        have hns43_0 := NB358_366.out
        have hns43_1 := NB359_366.out
        have hms43_0 := NB366_358.out
        have hms43_1 := NB366_359.out
        have hs44 : w41.cell? ⟨gb366, 1, none⟩ = some (.int .i64 0) := (blk_cell BK366.out 1).trans rfl
        have hfs44 := blk_frozen BK366.out 1
        have hns44_0 := NB358_366.out
        have hns44_1 := NB359_366.out
        have hms44_0 := NB366_358.out
        have hms44_1 := NB366_359.out
        have hs45 : w41.cell? ⟨gb366, 2, none⟩ = some (.slice none 0 0) := (blk_cell BK366.out 2).trans rfl
        have hfs45 := blk_frozen BK366.out 2
        have hns45_0 := NB358_366.out
        have hns45_1 := NB359_366.out
        have hms45_0 := NB366_358.out
        have hms45_1 := NB366_359.out
        refine skip_ (w1 := ?_) (by rfl) rfl ?_ ?_
        rotate_left
        ·
         go_simp
         rfl
        refine hK.out _ _ ⟨((cell_far (p := ⟨gb366, _, none⟩) NB358_366.out _).trans (((cell_far (p := ⟨gb366, _, none⟩) NB358_366.out _).trans (((cell_far (p := ⟨gb366, _, none⟩) NB358_366.out _).trans (hHeld.1)))))), ((cell_far (p := ⟨gb366, _, none⟩) NB358_366.out _).trans (((cell_far (p := ⟨gb366, _, none⟩) NB358_366.out _).trans (((cell_far (p := ⟨gb366, _, none⟩) NB358_366.out _).trans (hHeld.2.1)))))), ((cell_far (p := ⟨gb366, _, none⟩) (by first | exact Nat.ne_of_lt (Nat.lt_of_lt_of_le (by have := World.block_lt_of_cell? _ _ hw360_0; first | rwa [add_block] at this | exact this) GW366.out) | (rw [add_block]; exact Nat.ne_of_lt (Nat.lt_of_lt_of_le (by have := World.block_lt_of_cell? _ _ hw360_0; first | rwa [add_block] at this | exact this) GW366.out)) | (show (Addr.add _ _).block ≠ _; rw [add_block]; exact Nat.ne_of_lt (Nat.lt_of_lt_of_le (by have := World.block_lt_of_cell? _ _ hw360_0; first | rwa [add_block] at this | exact this) GW366.out)) | (dsimp only; exact Nat.ne_of_lt (Nat.lt_of_lt_of_le (by have := World.block_lt_of_cell? _ _ hw360_0; first | rwa [add_block] at this | exact this) GW366.out))) _).trans (((cell_far (p := ⟨gb366, _, none⟩) (by first | exact Nat.ne_of_lt (Nat.lt_of_lt_of_le (by have := World.block_lt_of_cell? _ _ hw360_0; first | rwa [add_block] at this | exact this) GW366.out) | (rw [add_block]; exact Nat.ne_of_lt (Nat.lt_of_lt_of_le (by have := World.block_lt_of_cell? _ _ hw360_0; first | rwa [add_block] at this | exact this) GW366.out)) | (show (Addr.add _ _).block ≠ _; rw [add_block]; exact Nat.ne_of_lt (Nat.lt_of_lt_of_le (by have := World.block_lt_of_cell? _ _ hw360_0; first | rwa [add_block] at this | exact this) GW366.out)) | (dsimp only; exact Nat.ne_of_lt (Nat.lt_of_lt_of_le (by have := World.block_lt_of_cell? _ _ hw360_0; first | rwa [add_block] at this | exact this) GW366.out))) _).trans (((cell_far (p := ⟨gb366, _, none⟩) (by first | exact Nat.ne_of_lt (Nat.lt_of_lt_of_le (by have := World.block_lt_of_cell? _ _ hw360_0; first | rwa [add_block] at this | exact this) GW366.out) | (rw [add_block]; exact Nat.ne_of_lt (Nat.lt_of_lt_of_le (by have := World.block_lt_of_cell? _ _ hw360_0; first | rwa [add_block] at this | exact this) GW366.out)) | (show (Addr.add _ _).block ≠ _; rw [add_block]; exact Nat.ne_of_lt (Nat.lt_of_lt_of_le (by have := World.block_lt_of_cell? _ _ hw360_0; first | rwa [add_block] at this | exact this) GW366.out)) | (dsimp only; exact Nat.ne_of_lt (Nat.lt_of_lt_of_le (by have := World.block_lt_of_cell? _ _ hw360_0; first | rwa [add_block] at this | exact this) GW366.out))) _).trans (hHeld.2.2.1)))))), ((cell_far (p := ⟨gb366, _, none⟩) (by first | exact Nat.ne_of_lt (Nat.lt_of_lt_of_le (by have := World.block_lt_of_cell? _ _ hw361_0; first | rwa [add_block] at this | exact this) GW366.out) | (rw [add_block]; exact Nat.ne_of_lt (Nat.lt_of_lt_of_le (by have := World.block_lt_of_cell? _ _ hw361_0; first | rwa [add_block] at this | exact this) GW366.out)) | (show (Addr.add _ _).block ≠ _; rw [add_block]; exact Nat.ne_of_lt (Nat.lt_of_lt_of_le (by have := World.block_lt_of_cell? _ _ hw361_0; first | rwa [add_block] at this | exact this) GW366.out)) | (dsimp only; exact Nat.ne_of_lt (Nat.lt_of_lt_of_le (by have := World.block_lt_of_cell? _ _ hw361_0; first | rwa [add_block] at this | exact this) GW366.out))) _).trans (((cell_far (p := ⟨gb366, _, none⟩) (by first | exact Nat.ne_of_lt (Nat.lt_of_lt_of_le (by have := World.block_lt_of_cell? _ _ hw361_0; first | rwa [add_block] at this | exact this) GW366.out) | (rw [add_block]; exact Nat.ne_of_lt (Nat.lt_of_lt_of_le (by have := World.block_lt_of_cell? _ _ hw361_0; first | rwa [add_block] at this | exact this) GW366.out)) | (show (Addr.add _ _).block ≠ _; rw [add_block]; exact Nat.ne_of_lt (Nat.lt_of_lt_of_le (by have := World.block_lt_of_cell? _ _ hw361_0; first | rwa [add_block] at this | exact this) GW366.out)) | (dsimp only; exact Nat.ne_of_lt (Nat.lt_of_lt_of_le (by have := World.block_lt_of_cell? _ _ hw361_0; first | rwa [add_block] at this | exact this) GW366.out))) _).trans (((cell_far (p := ⟨gb366, _, none⟩) (by first | exact Nat.ne_of_lt (Nat.lt_of_lt_of_le (by have := World.block_lt_of_cell? _ _ hw361_0; first | rwa [add_block] at this | exact this) GW366.out) | (rw [add_block]; exact Nat.ne_of_lt (Nat.lt_of_lt_of_le (by have := World.block_lt_of_cell? _ _ hw361_0; first | rwa [add_block] at this | exact this) GW366.out)) | (show (Addr.add _ _).block ≠ _; rw [add_block]; exact Nat.ne_of_lt (Nat.lt_of_lt_of_le (by have := World.block_lt_of_cell? _ _ hw361_0; first | rwa [add_block] at this | exact this) GW366.out)) | (dsimp only; exact Nat.ne_of_lt (Nat.lt_of_lt_of_le (by have := World.block_lt_of_cell? _ _ hw361_0; first | rwa [add_block] at this | exact this) GW366.out))) _).trans (hHeld.2.2.2))))))⟩ (fun hHeld => ?_)
        clear hK K
        refine done_ (done_of HT_.out (by kernel_rfl)) ?_
        have hnb46 := NB366_358.out
        have hnc46 := NB358_366.out
        have hnb47 := NB366_359.out
        have hnc47 := NB359_366.out
        obtain ⟨hcz48_0, hcz48_1, hcz48_2, hfz48_0, hfz48_1, hfz48_2⟩ := bc3 BK366.out
        try go_wp2_with (first | ((with_reducible refine gate_callee (f := 30) rfl ?_); refine goesL_ (some 31) rfl rfl Tryd.func30 (by kernel_rfl) rfl #[.agg #[.int .i64 (wrap64 (rd l0_1 0)), .int .i64 (wrap64 (rd l0_1 1)), .slice Ao42 t363.length co42]] rfl (by (try simp only [List.map_toArray, List.map_cons, List.map_nil]); first | done | rfl | (simp only [List.length_drop, List.length_take]; rfl)) ?_; (with_reducible refine (note_Sane.calls (wrap64 (rd l0_1 0)) (wrap64 (rd l0_1 1)) _ _ t363 false _ ?side1 ?side2 A17.out).mono ?_); (case side1 => have hx_ := (Kd.R_far (p := ⟨gb366, 2, none⟩) (Kd.R_far (p := ⟨gb366, 1, none⟩) (Kd.R_far (p := ⟨gb366, 0, none⟩) (Kd.R_types HO365.out BK366.out (by decide)) (fun _ hk => hk.2) (.int .i64 (wrap64 (rd l0_1 0)))) (fun _ hk => hk.2) (.int .i64 (wrap64 (rd l0_1 1)))) (fun _ hk => hk.2) (.slice Ao42 t363.length co42)); (with_reducible repeat (first | apply Kd.C_alloc | apply Kd.C_drewN | apply Kd.C_drew)); exact (Kd.R_reads' hx_).2.2); (case side2 => exact (Kd.R_reads' HO365.out).2.1); rintro e w49 ⟨rfl, hb⟩; refine ⟨_, rfl, ?_⟩; replace HO365 := Aside0.mk (Kd.R_below (by (with_reducible repeat (first | apply Kd.R_alloc | apply Kd.R_drewN | apply Kd.R_drew)); exact (Kd.R_mono (Kd.R_far (p := ⟨gb366, 2, none⟩) (Kd.R_far (p := ⟨gb366, 1, none⟩) (Kd.R_far (p := ⟨gb366, 0, none⟩) (Kd.R_types HO365.out BK366.out (by decide)) (fun _ hk => hk.2) (.int .i64 (wrap64 (rd l0_1 0)))) (fun _ hk => hk.2) (.int .i64 (wrap64 (rd l0_1 1)))) (fun _ hk => hk.2) (.slice Ao42 t363.length co42)) (fun _ h_ => h_.1))) hb); replace BK358 := Aside0.mk (blk_below (g := gb358) (o := .cells #[.int .i64 a0_0, .slice (some ad360) l0_1.length c0_1] 45 (0, 0)) (by (with_reducible repeat first | apply kN | apply kD | apply kA); refine blk_far ?_ NB358_366.out _; (with_reducible repeat first | apply kN | apply kD | apply kA); refine blk_far ?_ NB358_366.out _; (with_reducible repeat first | apply kN | apply kD | apply kA); refine blk_far ?_ NB358_366.out _; (with_reducible repeat first | apply kN | apply kD | apply kA); exact BK358.out) hb); replace BK359 := Aside0.mk (blk_below (g := gb359) (o := .cells #[.int .i64 0, .int .i64 0, .slice none 0 0] 41 (0, 0)) (by (with_reducible repeat first | apply kN | apply kD | apply kA); refine blk_far ?_ NB359_366.out _; (with_reducible repeat first | apply kN | apply kD | apply kA); refine blk_far ?_ NB359_366.out _; (with_reducible repeat first | apply kN | apply kD | apply kA); refine blk_far ?_ NB359_366.out _; (with_reducible repeat first | apply kN | apply kD | apply kA); exact BK359.out) hb); replace BK366 := Aside0.mk (blk_below (g := gb366) (o := .cells #[.int .i64 (wrap64 (rd l0_1 0)), .int .i64 (wrap64 (rd l0_1 1)), .slice Ao42 t363.length co42] 41 (0, 0)) (by (with_reducible repeat first | apply kN | apply kD | apply kA); refine blk_put (cs := #[.int .i64 (wrap64 (rd l0_1 0)), .int .i64 (wrap64 (rd l0_1 1)), .slice none 0 0]) ?_ 2 _ rfl; (with_reducible repeat first | apply kN | apply kD | apply kA); refine blk_put (cs := #[.int .i64 (wrap64 (rd l0_1 0)), .int .i64 0, .slice none 0 0]) ?_ 1 _ rfl; (with_reducible repeat first | apply kN | apply kD | apply kA); refine blk_put (cs := #[.int .i64 0, .int .i64 0, .slice none 0 0]) ?_ 0 _ rfl; (with_reducible repeat first | apply kN | apply kD | apply kA); exact BK366.out) hb); replace HB := Aside0.mk (below_step (by with_reducible repeat first | exact HB.out | apply bA | apply bN | apply bD | refine bS ?_ GE358.out | refine bS ?_ GE359.out | refine bS ?_ GE366.out) hb); (try clear hb); (try clear hb2); (try clear hk); (try clear hi); have hnb50 := NB359_358.out; have hnc50 := NB358_359.out; obtain ⟨hcz51_0, hcz51_1, hcz51_2, hfz51_0, hfz51_1, hfz51_2⟩ := bc3 BK359.out))
        refine bodyPost_ret (results_ct rfl _ _ gb359 41 #[.int .i64 0, .int .i64 0, .slice none 0 0] (0, 0) _ rfl (by (with_reducible repeat first | apply kN | apply kD | apply kA); refine blk_put (cs := #[.int .i64 0, .int .i64 0, .slice none 0 0]) ?_ 2 _ rfl; (with_reducible repeat first | apply kN | apply kD | apply kA); refine blk_put (cs := #[.int .i64 0, .int .i64 0, .slice none 0 0]) ?_ 1 _ rfl; (with_reducible repeat first | apply kN | apply kD | apply kA); refine blk_put (cs := #[.int .i64 0, .int .i64 0, .slice none 0 0]) ?_ 0 _ rfl; (with_reducible repeat first | apply kN | apply kD | apply kA); exact BK359.out) Tryd.underlying41 rfl (by kernel_rfl)) rfl ?_
        exact ⟨_, by first | rfl | (simp <;> rfl) | (simp [*] <;> rfl), by first | exact Kd.R_nil _ _ _ _ _ | exact Kd.N_nil _ _ _ _ _ | exact Kd.V_nil _ _ _ _ _ | exact Kd.Q_nil _ _ _ _ _ | exact Kd.S_nil _ _ _ _ _, by with_reducible repeat first | exact HB.out | apply bA | apply bN | apply bD | refine bS ?_ GE358.out | refine bS ?_ GE359.out | refine bS ?_ GE366.out⟩
      ·
       rw [if_neg c15] at H
       exact absurd H (by simp)
     ·
      rw [if_neg c14] at H
      exact absurd H (by simp)
    ·
     rw [if_neg c13] at H
     exact absurd H (by simp)

end Go.Proofs.YtfbndolhocojiaaDoor.M
