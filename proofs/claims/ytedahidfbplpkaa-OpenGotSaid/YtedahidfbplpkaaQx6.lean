/- Each call of a Go function comes to what the Lean function of its name answers (written out by wip/tools/xprint.py, checked by Lean); conditions: those in each statement. -/
import Derived.Test.YtedahidfbplpkaaQx0
import Derived.Test.YtedahidfbplpkaaQx1
import Derived.Test.YtedahidfbplpkaaQx2
import Derived.Test.YtedahidfbplpkaaQx3
import Derived.Test.YtedahidfbplpkaaQx4
import Derived.Test.YtedahidfbplpkaaQx5
import Derived.Test.YtedahidfbplpkaaXOpenA
import Derived.Test.YtedahidfbplpkaaXRow
import Derived.Test.YtedahidfbplpkaaXLaw
import Derived.Test.YtedahidfbplpkaaXLawB
import Derived.Test.YtedahidfbplpkaaXLawC
import Derived.Deep.MidRow
namespace Go.Proofs.Ytedahidfbplpkaa.Q
open Go.RowKit Go.Proofs.YtedahidfbplpkaaW.PrintWords Go.Proofs.YtedahidfbplpkaaW.PrintLast Go.Proofs.YtedahidfbplpkaaW.PrintMore Go.Proofs.YtedahidfbplpkaaW.PrintX
attribute [local go_sem] max2_int min2_int max_two min_two max_three min_three max_four min_four   -- for this text's walks alone
set_option linter.unusedVariables false
set_option linter.unusedSimpArgs false

/-! ### ridgewaylaw06_OpenGot: function 5 -/
open Classical in
noncomputable def ridgewaylaw06_OpenGot.f (t : Int) (b : List Int) (ax : Int) : Option Bool := if Octs b then some true else none
set_option maxHeartbeats 8000000 in
set_option maxRecDepth 100000 in
theorem ridgewaylaw06_OpenGot.far (t : Int) (A0 : Option Addr) (c0 : Nat) (l0 : List Int) (ax : Int) (w : World) (g1 : (l0.length : Int) > 5000) (hr0 : Kd.C (Kd.int .u8) w A0 l0.length l0) (hc0 : l0.length ≤ c0) :
  Calls Try.prog 5 #[.agg #[.int .i64 t, .slice A0 l0.length c0], .int .i64 ax] w fun e w' => e = .returned (.bool true) ∧ Below w.heap.size w w' := by
 have HR0 := Aside0.mk hr0
 have HC0 := Aside0.mk hc0
 clear hr0 hc0
 have HU0 : ∀ {w1 : World}, Below (w.alloc (Obj.cells #[.int .i64 t, .slice A0 l0.length c0] 26)).heap.size (w.alloc (Obj.cells #[.int .i64 t, .slice A0 l0.length c0] 26)) w1 → w1.cell? ⟨w.heap.size, 0, none⟩ = some (.int .i64 t) ∧ w1.cell? ⟨w.heap.size, 1, none⟩ = some (.slice A0 l0.length c0) ∧ Below w.heap.size w w1 := fun hb => by
  have hv := blk_below (heap_alloc_new w _) hb
  exact ⟨(blk_cell hv 0).trans rfl, (blk_cell hv 1).trans rfl, below_step (below_alloc (Below.refl _ _) _) hb⟩
 have HU := Aside0.mk @HU0
 clear HU0
 have d1 : decide ((l0.length : Int) > 5000) = true := decide_eq_true g1
 go_enter Try.func5, Try.ntmps5
 go_wp2_with (first | (go_at_call 8; (with_reducible refine (ridgewaylaw06_awake.calls true _ rfl).mono ?_); rintro e w1 ⟨rfl, hb1⟩; obtain ⟨m0, m1, hB1⟩ := HU.out hb1; have K1 := Aside0.mk hb1; clear hb1))
 go_ret
 exact ⟨rfl, hB1⟩
section
attribute [local go_sem high] eqA23
set_option maxHeartbeats 8000000 in
set_option maxRecDepth 100000 in
theorem ridgewaylaw06_OpenGot.bad (t : Int) (A0 : Option Addr) (c0 : Nat) (l0 : List Int) (ax : Int) (w : World) (g1 : ¬ ((l0.length : Int) > 5000)) (sub : Int) (d : List Int) (hg : open_Get.f t l0 ax = some (0, 0, 0, 0, 2, sub, d)) (hr0 : Kd.C (Kd.int .u8) w A0 l0.length l0) (hc0 : l0.length ≤ c0) :
  Calls Try.prog 5 #[.agg #[.int .i64 t, .slice A0 l0.length c0], .int .i64 ax] w fun e w' => e = .returned (.bool true) ∧ Below w.heap.size w w' := by
 have HR0 := Aside0.mk hr0
 have HC0 := Aside0.mk hc0
 clear hr0 hc0
 have HU0 : ∀ {w1 : World}, Below (w.alloc (Obj.cells #[.int .i64 t, .slice A0 l0.length c0] 26)).heap.size (w.alloc (Obj.cells #[.int .i64 t, .slice A0 l0.length c0] 26)) w1 → w1.cell? ⟨w.heap.size, 0, none⟩ = some (.int .i64 t) ∧ w1.cell? ⟨w.heap.size, 1, none⟩ = some (.slice A0 l0.length c0) ∧ Below w.heap.size w w1 := fun hb => by
  have hv := blk_below (heap_alloc_new w _) hb
  exact ⟨(blk_cell hv 0).trans rfl, (blk_cell hv 1).trans rfl, below_step (below_alloc (Below.refl _ _) _) hb⟩
 have HU := Aside0.mk @HU0
 clear HU0
 have d1 : decide ((l0.length : Int) > 5000) = false := decide_eq_false g1
 have HG := Aside0.mk hg
 clear hg
 go_enter Try.func5, Try.ntmps5
 go_wp2_with (first
  | (go_at_call 8; (with_reducible refine (ridgewaylaw06_awake.calls true _ rfl).mono ?_); rintro e w1 ⟨rfl, hb1⟩; obtain ⟨m0, m1, hB1⟩ := HU.out hb1; have K1 := Aside0.mk hb1; clear hb1)
  | (go_at_call 9; (with_reducible refine (open_Get.calls t A0 c0 l0 ax 0 0 0 0 2 sub d _ (Kd.C_below HR0.out hB1) HC0.out HG.out).mono ?_); rintro e w2 ⟨v2, rfl, hV2, hb2⟩; obtain ⟨A2, c2, rfl⟩ := Kd.V_slice hV2; try simp only [List.length_nil]; have K2 := Aside0.mk (below_step K1.out hb2); clear hV2 hb2 m0 m1 hB1))
 go_ret
 exact ⟨rfl, (HU.out (below_alloc (below_alloc K2.out _) _)).2.2⟩
end
set_option maxHeartbeats 8000000 in
set_option maxRecDepth 100000 in
theorem ridgewaylaw06_OpenGot.big (t : Int) (A0 : Option Addr) (c0 : Nat) (l0 : List Int) (ax : Int) (w : World) (g1 : ¬ ((l0.length : Int) > 5000)) (h i rl : Int) (hg : open_Get.f t l0 ax = some (ax, h, i, rl, 0, 0, [])) (ht : t = 1) (hm : msg_Sane.f t l0 = some true) (q1 : -1 ≤ rl) (q2 : rl ≤ 255) (g2 : rl > 4) (hs : open_Sane.f ax h i 4 = some true) (hr0 : Kd.C (Kd.int .u8) w A0 l0.length l0) (hc0 : l0.length ≤ c0) :
  Calls Try.prog 5 #[.agg #[.int .i64 t, .slice A0 l0.length c0], .int .i64 ax] w fun e w' => e = .returned (.bool true) ∧ Below w.heap.size w w' := by
 have HR0 := Aside0.mk hr0
 have HC0 := Aside0.mk hc0
 clear hr0 hc0
 have HU0 : ∀ {w1 : World}, Below (w.alloc (Obj.cells #[.int .i64 t, .slice A0 l0.length c0] 26)).heap.size (w.alloc (Obj.cells #[.int .i64 t, .slice A0 l0.length c0] 26)) w1 → w1.cell? ⟨w.heap.size, 0, none⟩ = some (.int .i64 t) ∧ w1.cell? ⟨w.heap.size, 1, none⟩ = some (.slice A0 l0.length c0) ∧ Below w.heap.size w w1 := fun hb => by
  have hv := blk_below (heap_alloc_new w _) hb
  exact ⟨(blk_cell hv 0).trans rfl, (blk_cell hv 1).trans rfl, below_step (below_alloc (Below.refl _ _) _) hb⟩
 have HU := Aside0.mk @HU0
 clear HU0
 have d1 : decide ((l0.length : Int) > 5000) = false := decide_eq_false g1
 have HG := Aside0.mk hg
 clear hg
 have d2 : decide (rl > 4) = true := decide_eq_true g2
 have HS := Aside0.mk hs
 have HM := Aside0.mk hm
 have d3 : (t == 1) = true := by simp [ht]
 clear hs hm ht
 go_enter Try.func5, Try.ntmps5
 go_wp2_with (first
  | (go_at_call 8; (with_reducible refine (ridgewaylaw06_awake.calls true _ rfl).mono ?_); rintro e w1 ⟨rfl, hb1⟩; obtain ⟨m0, m1, hB1⟩ := HU.out hb1; have K1 := Aside0.mk hb1; clear hb1)
  | (go_at_call 9; (with_reducible refine (open_Get.calls t A0 c0 l0 ax ax h i rl 0 0 [] _ (Kd.C_below HR0.out hB1) HC0.out HG.out).mono ?_); rintro e w2 ⟨v2, rfl, hV2, hb2⟩; obtain ⟨A2, c2, rfl⟩ := Kd.V_slice hV2; try simp only [List.length_nil]; have K2 := Aside0.mk (below_step K1.out hb2); clear hV2 hb2 m0 m1 hB1)
  | (go_at_call 12; (with_reducible refine (open_Sane.calls ax h i 4 true _ HS.out).mono ?_); rintro e w3 ⟨rfl, hb3⟩; have K3 := Aside0.mk (below_step (below_alloc (below_alloc (below_alloc K2.out (Obj.cells #[.int .i64 ax, .int .i64 h, .int .i64 i, .int .i64 rl] 23)) (Obj.cells #[.int .i64 0, .int .i64 0, .slice A2 0 c2] 29)) (Obj.cells #[.int .i64 ax, .int .i64 h, .int .i64 i, .int .i64 4] 23)) hb3); obtain ⟨m0, m1, hB3⟩ := HU.out K3.out; clear hb3)
  | (go_at_call 17; (with_reducible refine (msg_Sane.calls t A0 c0 l0 true _ (Kd.C_below HR0.out hB3) HC0.out HM.out).mono ?_); rintro e w4 ⟨rfl, hb4⟩; have hB4 := below_step hB3 hb4)
  )
 go_ret
 exact ⟨rfl, hB4⟩
set_option maxHeartbeats 8000000 in
set_option maxRecDepth 100000 in
theorem ridgewaylaw06_OpenGot.small (t : Int) (A0 : Option Addr) (c0 : Nat) (l0 : List Int) (ax : Int) (w : World) (g1 : ¬ ((l0.length : Int) > 5000)) (h i rl : Int) (hg : open_Get.f t l0 ax = some (ax, h, i, rl, 0, 0, [])) (ht : t = 1) (hm : msg_Sane.f t l0 = some true) (q1 : -1 ≤ rl) (q2 : rl ≤ 255) (g2 : ¬ rl > 4) (hs : open_Sane.f ax h i rl = some true) (hr0 : Kd.C (Kd.int .u8) w A0 l0.length l0) (hc0 : l0.length ≤ c0) :
  Calls Try.prog 5 #[.agg #[.int .i64 t, .slice A0 l0.length c0], .int .i64 ax] w fun e w' => e = .returned (.bool true) ∧ Below w.heap.size w w' := by
 have HR0 := Aside0.mk hr0
 have HC0 := Aside0.mk hc0
 clear hr0 hc0
 have HU0 : ∀ {w1 : World}, Below (w.alloc (Obj.cells #[.int .i64 t, .slice A0 l0.length c0] 26)).heap.size (w.alloc (Obj.cells #[.int .i64 t, .slice A0 l0.length c0] 26)) w1 → w1.cell? ⟨w.heap.size, 0, none⟩ = some (.int .i64 t) ∧ w1.cell? ⟨w.heap.size, 1, none⟩ = some (.slice A0 l0.length c0) ∧ Below w.heap.size w w1 := fun hb => by
  have hv := blk_below (heap_alloc_new w _) hb
  exact ⟨(blk_cell hv 0).trans rfl, (blk_cell hv 1).trans rfl, below_step (below_alloc (Below.refl _ _) _) hb⟩
 have HU := Aside0.mk @HU0
 clear HU0
 have d1 : decide ((l0.length : Int) > 5000) = false := decide_eq_false g1
 have HG := Aside0.mk hg
 clear hg
 have d2 : decide (rl > 4) = false := decide_eq_false g2
 have HS := Aside0.mk hs
 have HM := Aside0.mk hm
 have d3 : (t == 1) = true := by simp [ht]
 clear hs hm ht
 go_enter Try.func5, Try.ntmps5
 go_wp2_with (first
  | (go_at_call 8; (with_reducible refine (ridgewaylaw06_awake.calls true _ rfl).mono ?_); rintro e w1 ⟨rfl, hb1⟩; obtain ⟨m0, m1, hB1⟩ := HU.out hb1; have K1 := Aside0.mk hb1; clear hb1)
  | (go_at_call 9; (with_reducible refine (open_Get.calls t A0 c0 l0 ax ax h i rl 0 0 [] _ (Kd.C_below HR0.out hB1) HC0.out HG.out).mono ?_); rintro e w2 ⟨v2, rfl, hV2, hb2⟩; obtain ⟨A2, c2, rfl⟩ := Kd.V_slice hV2; try simp only [List.length_nil]; have K2 := Aside0.mk (below_step K1.out hb2); clear hV2 hb2 m0 m1 hB1)
  | (go_at_call 12; (with_reducible refine (open_Sane.calls ax h i rl true _ HS.out).mono ?_); rintro e w3 ⟨rfl, hb3⟩; have K3 := Aside0.mk (below_step (below_alloc (below_alloc (below_alloc K2.out (Obj.cells #[.int .i64 ax, .int .i64 h, .int .i64 i, .int .i64 rl] 23)) (Obj.cells #[.int .i64 0, .int .i64 0, .slice A2 0 c2] 29)) (Obj.cells #[.int .i64 ax, .int .i64 h, .int .i64 i, .int .i64 rl] 23)) hb3); obtain ⟨m0, m1, hB3⟩ := HU.out K3.out; clear hb3)
  | (go_at_call 17; (with_reducible refine (msg_Sane.calls t A0 c0 l0 true _ (Kd.C_below HR0.out hB3) HC0.out HM.out).mono ?_); rintro e w4 ⟨rfl, hb4⟩; have hB4 := below_step hB3 hb4)
  )
 go_ret
 exact ⟨rfl, hB4⟩
theorem ridgewaylaw06_OpenGot.calls (t : Int) (A0 : Option Addr) (c0 : Nat) (l0 : List Int) (ax : Int) (w : World) (hr0 : Kd.C (Kd.int .u8) w A0 l0.length l0) (hc0 : l0.length ≤ c0) (h : ridgewaylaw06_OpenGot.f t l0 ax = some true) :
  Calls Try.prog 5 #[.agg #[.int .i64 t, .slice A0 l0.length c0], .int .i64 ax] w fun e w' => e = .returned (.bool true) ∧ Below w.heap.size w w' := by
 unfold ridgewaylaw06_OpenGot.f at h
 split at h
 case isFalse => cases h
 rename_i ho
 by_cases g1 : (l0.length : Int) > 5000
 ·
  exact ridgewaylaw06_OpenGot.far t A0 c0 l0 ax w g1 hr0 hc0
 ·
  obtain ⟨r, hr, hc⟩ := Pure.get_any t ax l0 ho (by omega)
  rcases hc with ⟨sub, d, rfl⟩ | ⟨h, i, rl, rfl, h1, h2, h3, h4, h5, h6, h7, h8, h9⟩
  ·
   exact ridgewaylaw06_OpenGot.bad t A0 c0 l0 ax w g1 sub d hr hr0 hc0
  ·
   have hm : msg_Sane.f t l0 = some true := by rw [Pure.sane_eq _ _ (by omega), h1, h2]
   by_cases g : rl > 4
   ·
    exact ridgewaylaw06_OpenGot.big t A0 c0 l0 ax w g1 h i rl hr h1 hm h8 h9 g (by rw [Pure.saneH_eq, (Pure.saneH_iff ax h i 4).mpr ⟨h5, h3, h4, h6, h7, by omega, by omega⟩]) hr0 hc0
   ·
    exact ridgewaylaw06_OpenGot.small t A0 c0 l0 ax w g1 h i rl hr h1 hm h8 h9 g (by rw [Pure.saneH_eq, (Pure.saneH_iff ax h i rl).mpr ⟨h5, h3, h4, h6, h7, by omega, by omega⟩]) hr0 hc0

/-- THE ONE PURE STATEMENT of ridgewaylaw06_OpenGot. -/
def ridgewaylaw06_OpenGot.Pure : Prop := ∀ (x0 : S26) (a1 : Int), (wf26 x0) → ((Lit.int .i64 a1).wf = true) → ridgewaylaw06_OpenGot.f (x0.f0) (x0.f1) a1 = some true

end Go.Proofs.Ytedahidfbplpkaa.Q
