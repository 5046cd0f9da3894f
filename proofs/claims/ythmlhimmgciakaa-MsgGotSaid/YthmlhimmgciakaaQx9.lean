/- Each call of a Go function comes to what the Lean function of its name answers (written out by wip/tools/xprint.py, checked by Lean); conditions: those in each statement. -/
import Derived.Test.YthmlhimmgciakaaQx0
import Derived.Test.YthmlhimmgciakaaQx2
import Derived.Test.YthmlhimmgciakaaQx3
import Derived.Test.YthmlhimmgciakaaQx4
import Derived.Test.YthmlhimmgciakaaXMsgLaw
import Derived.Test.YthmlhimmgciakaaXMsgRef
import Derived.Test.YthmlhimmgciakaaXRow
import Derived.Test.YthmlhimmgciakaaXLaw
import Derived.Test.YthmlhimmgciakaaXLawB
import Derived.Deep.MidRow
import Derived.Deep.DrawnRows
import Derived.Deep.QuietTactic
import Derived.BigQuiet
import Derived.Deep.RegionWith
namespace Go.Proofs.Ythmlhimmgciakaa.Q
open Go.RowKit Go.Proofs.YthmlhimmgciakaaW.PrintWords Go.Proofs.YthmlhimmgciakaaW.PrintLast Go.Proofs.YthmlhimmgciakaaW.PrintMore Go.Proofs.YthmlhimmgciakaaW.PrintX
attribute [local go_sem] max2_int min2_int max_two min_two max_three min_three max_four min_four   -- for this text's walks alone
set_option linter.unusedVariables false
set_option linter.unusedSimpArgs false

/-! ### ridgewaylaw03_MsgGot: function 5 -/
open Classical in
noncomputable def ridgewaylaw03_MsgGot.f (l : List Int) : Option Bool := if Octs l then some true else none
set_option maxHeartbeats 8000000 in
set_option maxRecDepth 100000 in
theorem ridgewaylaw03_MsgGot.far (A0 : Option Addr) (c0 : Nat) (l0 : List Int) (w : World) (hr0 : Kd.C (Kd.int .u8) w A0 l0.length l0) (hc0 : l0.length ≤ c0) (g1 : (l0.length : Int) > 5000) :
  Calls Try.prog 5 #[.slice A0 l0.length c0] w fun e w' => e = .returned (.bool true) ∧ Below w.heap.size w w' := by
 have HR0 := Aside0.mk hr0
 have HC0 := Aside0.mk hc0
 clear hr0 hc0
 have d1 : decide ((l0.length : Int) > 5000) = true := decide_eq_true g1
 go_enter Try.func5, Try.ntmps5
 go_wp2_with (first | (go_at_call 8; refine (ridgewaylaw03_awake.calls true _ rfl).mono ?_; rintro e w1 ⟨rfl, hb1⟩))
 go_ret
 exact ⟨rfl, hb1⟩
set_option maxHeartbeats 8000000 in
set_option maxRecDepth 100000 in
theorem ridgewaylaw03_MsgGot.more (A0 : Option Addr) (c0 : Nat) (l0 : List Int) (w : World) (hr0 : Kd.C (Kd.int .u8) w A0 l0.length l0) (hc0 : l0.length ≤ c0) (g1 : ¬ ((l0.length : Int) > 5000)) (g2 : (l0.length : Int) < 4096) (hg : msg_Get.f 100 l0 = some (0, [], 0, 0, 0, [])) :
  Calls Try.prog 5 #[.slice A0 l0.length c0] w fun e w' => e = .returned (.bool true) ∧ Below w.heap.size w w' := by
 have HR0 := Aside0.mk hr0
 have HC0 := Aside0.mk hc0
 have HG := Aside0.mk hg
 clear hr0 hc0 hg
 have d1 : decide ((l0.length : Int) > 5000) = false := decide_eq_false g1
 go_enter Try.func5, Try.ntmps5
 go_wp2_with (first
  | (go_at_call 8; refine (ridgewaylaw03_awake.calls true _ rfl).mono ?_; rintro e w1 ⟨rfl, hb1⟩)
  | (go_at_call 9; with_reducible refine (msg_Get.calls 100 A0 c0 l0 _ _ _ _ _ _ w1 (Kd.C_below HR0.out hb1) HC0.out HG.out).mono ?_; rintro e w2 ⟨v2, v3, rfl, hR2, hR3, hb2⟩; obtain ⟨A2, c2, rfl, hl2, hC2⟩ := Kd.R_reads hR2; obtain ⟨A3, c3, rfl, hl3, hC3⟩ := Kd.R_reads hR3; clear hR2 hR3; try simp only [List.length_nil]; have hB2 := below_step hb1 hb2; have HB3 := Aside0.mk (below_alloc (below_alloc hB2 (Obj.cells #[.int .i64 0, .slice A2 0 c2] 24)) (Obj.cells #[.int .i64 0, .int .i64 0, .slice A3 0 c3] 27)); have hC2 := Aside0.mk hC2; have hC3 := Aside0.mk hC3; have hl2 := Aside0.mk hl2; clear hb1 hb2 hB2 hl3))
 go_ret
 exact ⟨rfl, HB3.out⟩
set_option maxHeartbeats 8000000 in
set_option maxRecDepth 100000 in
theorem ridgewaylaw03_MsgGot.bad1 (A0 : Option Addr) (c0 : Nat) (l0 : List Int) (w : World) (hr0 : Kd.C (Kd.int .u8) w A0 l0.length l0) (hc0 : l0.length ≤ c0) (g1 : ¬ ((l0.length : Int) > 5000)) (g2 : 19 ≤ (l0.length : Int)) (hg : msg_Get.f 100 l0 = some (0, [], 0, 1, 1, [])) :
  Calls Try.prog 5 #[.slice A0 l0.length c0] w fun e w' => e = .returned (.bool true) ∧ Below w.heap.size w w' := by
 obtain ⟨ad0, rfl, -⟩ := hr0.2.2 (by omega)
 have q0 : (19 : Int) ≤ (c0 : Int) := by omega
 have HR0 := Aside0.mk hr0
 have HC0 := Aside0.mk hc0
 have HG := Aside0.mk hg
 clear hr0 hc0 hg
 have d1 : decide ((l0.length : Int) > 5000) = false := decide_eq_false g1
 go_enter Try.func5, Try.ntmps5
 go_wp2_with (first
  | (go_at_call 8; refine (ridgewaylaw03_awake.calls true _ rfl).mono ?_; rintro e w1 ⟨rfl, hb1⟩)
  | (go_at_call 9; with_reducible refine (msg_Get.calls 100 (some ad0) c0 l0 _ _ _ _ _ _ w1 (Kd.C_below HR0.out hb1) HC0.out HG.out).mono ?_; rintro e w2 ⟨v2, v3, rfl, hR2, hR3, hb2⟩; obtain ⟨A2, c2, rfl, hl2, hC2⟩ := Kd.R_reads hR2; obtain ⟨A3, c3, rfl, hl3, hC3⟩ := Kd.R_reads hR3; clear hR2 hR3; try simp only [List.length_nil]; have hB2 := below_step hb1 hb2; have HB3 := Aside0.mk (below_alloc (below_alloc hB2 (Obj.cells #[.int .i64 0, .slice A2 0 c2] 24)) (Obj.cells #[.int .i64 1, .int .i64 1, .slice A3 0 c3] 27)); have hC2 := Aside0.mk hC2; have hC3 := Aside0.mk hC3; have hl2 := Aside0.mk hl2; clear hb1 hb2 hB2 hl3))
 have d2 : decide ((l0.length : Int) < 19) = false := decide_eq_false (by omega)
 go_quiet (fail)
 go_wp2
 go_ret
 exact ⟨rfl, pw_below_drewN HB3.out _⟩
set_option maxHeartbeats 8000000 in
set_option maxRecDepth 100000 in
theorem ridgewaylaw03_MsgGot.bad2 (A0 : Option Addr) (c0 : Nat) (l0 : List Int) (w : World) (hr0 : Kd.C (Kd.int .u8) w A0 l0.length l0) (hc0 : l0.length ≤ c0) (g1 : ¬ ((l0.length : Int) > 5000)) (g2 : 19 ≤ (l0.length : Int)) (hg : msg_Get.f 100 l0 = some (0, [], 0, 1, 2, ((l0.take 18).drop 16))) :
  Calls Try.prog 5 #[.slice A0 l0.length c0] w fun e w' => e = .returned (.bool true) ∧ Below w.heap.size w w' := by
 obtain ⟨ad0, rfl, -⟩ := hr0.2.2 (by omega)
 have q0 : (19 : Int) ≤ (c0 : Int) := by omega
 have hne : ¬ (c0 = 16) := by omega
 have HD : Aside0 (((l0.take 18).drop 16).length = 2) := ⟨by rw [List.length_drop, List.length_take]; omega⟩
 obtain ⟨i0, hi0, -, hsz, -⟩ := info_parts info5
 have hcut : ∀ W : World, (Instr.slice 22 (.slice (some ad0) l0.length c0) (some (.int .i64 16)) (some (.int .i64 18)) none).run Try.prog W = .ok (.slice (some ⟨ad0.block, ad0.off + 16, none⟩) 2 (c0 - 16)) W := fun W => by
  have h := cut_mid (P := Try.prog) 22 5 .i64 .i64 Try.underlying22 hi0 1 hsz (some ad0) l0.length c0 16 18 (by omega) (by omega) (by omega) hc0 W
  rw [if_neg (show ¬ c0 = (16 : Int).toNat from hne)] at h
  exact h
 clear hi0 hsz
 have HK := Aside0.mk (Kd.C_mid (c := c0) hr0 (lo := 16) (hi := 18) (by omega) (by omega) hc0)
 have HR0 := Aside0.mk hr0
 have HC0 := Aside0.mk hc0
 have HG := Aside0.mk hg
 clear hr0 hc0 hg
 have d1 : decide ((l0.length : Int) > 5000) = false := decide_eq_false g1
 go_enter Try.func5, Try.ntmps5
 go_wp2_with (first
  | (go_at_call 8; refine (ridgewaylaw03_awake.calls true _ rfl).mono ?_; rintro e w1 ⟨rfl, hb1⟩)
  | (go_at_call 9; with_reducible refine (msg_Get.calls 100 (some ad0) c0 l0 _ _ _ _ _ _ w1 (Kd.C_below HR0.out hb1) HC0.out HG.out).mono ?_; rintro e w2 ⟨v2, v3, rfl, hR2, hR3, hb2⟩; obtain ⟨A2, c2, rfl, hl2, hC2⟩ := Kd.R_reads hR2; obtain ⟨A3, c3, rfl, hl3, hC3⟩ := Kd.R_reads hR3; clear hR2 hR3; simp only [List.length_nil]; rw [HD.out] at hC3; rw [HD.out]; have hB2 := below_step hb1 hb2; have HB3 := Aside0.mk (below_alloc (below_alloc hB2 (Obj.cells #[.int .i64 0, .slice A2 0 c2] 24)) (Obj.cells #[.int .i64 1, .int .i64 2, .slice A3 2 c3] 27)); have hC2 := Aside0.mk hC2; have hC3 := Aside0.mk hC3; have hl2 := Aside0.mk hl2; clear hb1 hb2 hB2 hl3))
 have hcv1 : ∀ m : Nat, (convert 22 9 (.slice A3 2 c3)).run Try.prog (((w2.alloc (Obj.cells #[.int .i64 0, .slice A2 0 c2] 24)).alloc (Obj.cells #[.int .i64 1, .int .i64 2, .slice A3 2 c3] 27)).drewN m) = .ok (.string (strOfNums ((l0.take 18).drop 16))) (((w2.alloc (Obj.cells #[.int .i64 0, .slice A2 0 c2] 24)).alloc (Obj.cells #[.int .i64 1, .int .i64 2, .slice A3 2 c3] 27)).drewN m) := fun m => Kd.C_string Try.underlying22 Try.underlying5 Try.underlying9 (Kd.C_drewN (Kd.C_alloc (Kd.C_alloc hC3.out _) _) m)
 have hcv2 : ∀ m : Nat, (convert 22 9 (.slice (some ⟨ad0.block, ad0.off + 16, none⟩) 2 (c0 - 16))).run Try.prog (((w2.alloc (Obj.cells #[.int .i64 0, .slice A2 0 c2] 24)).alloc (Obj.cells #[.int .i64 1, .int .i64 2, .slice A3 2 c3] 27)).drewN m) = .ok (.string (strOfNums ((l0.take 18).drop 16))) (((w2.alloc (Obj.cells #[.int .i64 0, .slice A2 0 c2] 24)).alloc (Obj.cells #[.int .i64 1, .int .i64 2, .slice A3 2 c3] 27)).drewN m) := fun m => Kd.C_string Try.underlying22 Try.underlying5 Try.underlying9 (by have h := Kd.C_drewN (Kd.C_below HK.out HB3.out) m; rw [HD.out, if_neg hne] at h; exact h)
 have d2 : decide ((l0.length : Int) < 19) = false := decide_eq_false (by omega)
 go_quiet (fail)
 go_wp2
 go_ret
 exact ⟨rfl, pw_below_drewN HB3.out _⟩
set_option maxHeartbeats 8000000 in
set_option maxRecDepth 100000 in
theorem ridgewaylaw03_MsgGot.bad3 (A0 : Option Addr) (c0 : Nat) (l0 : List Int) (w : World) (hr0 : Kd.C (Kd.int .u8) w A0 l0.length l0) (hc0 : l0.length ≤ c0) (g1 : ¬ ((l0.length : Int) > 5000)) (g2 : 19 ≤ (l0.length : Int)) (hg : msg_Get.f 100 l0 = some (0, [], 0, 1, 3, ((l0.take 19).drop 18))) :
  Calls Try.prog 5 #[.slice A0 l0.length c0] w fun e w' => e = .returned (.bool true) ∧ Below w.heap.size w w' := by
 obtain ⟨ad0, rfl, -⟩ := hr0.2.2 (by omega)
 have q0 : (19 : Int) ≤ (c0 : Int) := by omega
 have hne : ¬ (c0 = 18) := by omega
 have HD : Aside0 (((l0.take 19).drop 18).length = 1) := ⟨by rw [List.length_drop, List.length_take]; omega⟩
 obtain ⟨i0, hi0, -, hsz, -⟩ := info_parts info5
 have hcut : ∀ W : World, (Instr.slice 22 (.slice (some ad0) l0.length c0) (some (.int .i64 18)) (some (.int .i64 19)) none).run Try.prog W = .ok (.slice (some ⟨ad0.block, ad0.off + 18, none⟩) 1 (c0 - 18)) W := fun W => by
  have h := cut_mid (P := Try.prog) 22 5 .i64 .i64 Try.underlying22 hi0 1 hsz (some ad0) l0.length c0 18 19 (by omega) (by omega) (by omega) hc0 W
  rw [if_neg (show ¬ c0 = (18 : Int).toNat from hne)] at h
  exact h
 clear hi0 hsz
 have HK := Aside0.mk (Kd.C_mid (c := c0) hr0 (lo := 18) (hi := 19) (by omega) (by omega) hc0)
 have HR0 := Aside0.mk hr0
 have HC0 := Aside0.mk hc0
 have HG := Aside0.mk hg
 clear hr0 hc0 hg
 have d1 : decide ((l0.length : Int) > 5000) = false := decide_eq_false g1
 go_enter Try.func5, Try.ntmps5
 go_wp2_with (first
  | (go_at_call 8; refine (ridgewaylaw03_awake.calls true _ rfl).mono ?_; rintro e w1 ⟨rfl, hb1⟩)
  | (go_at_call 9; with_reducible refine (msg_Get.calls 100 (some ad0) c0 l0 _ _ _ _ _ _ w1 (Kd.C_below HR0.out hb1) HC0.out HG.out).mono ?_; rintro e w2 ⟨v2, v3, rfl, hR2, hR3, hb2⟩; obtain ⟨A2, c2, rfl, hl2, hC2⟩ := Kd.R_reads hR2; obtain ⟨A3, c3, rfl, hl3, hC3⟩ := Kd.R_reads hR3; clear hR2 hR3; simp only [List.length_nil]; rw [HD.out] at hC3; rw [HD.out]; have hB2 := below_step hb1 hb2; have HB3 := Aside0.mk (below_alloc (below_alloc hB2 (Obj.cells #[.int .i64 0, .slice A2 0 c2] 24)) (Obj.cells #[.int .i64 1, .int .i64 3, .slice A3 1 c3] 27)); have hC2 := Aside0.mk hC2; have hC3 := Aside0.mk hC3; have hl2 := Aside0.mk hl2; clear hb1 hb2 hB2 hl3))
 have hcv1 : ∀ m : Nat, (convert 22 9 (.slice A3 1 c3)).run Try.prog (((w2.alloc (Obj.cells #[.int .i64 0, .slice A2 0 c2] 24)).alloc (Obj.cells #[.int .i64 1, .int .i64 3, .slice A3 1 c3] 27)).drewN m) = .ok (.string (strOfNums ((l0.take 19).drop 18))) (((w2.alloc (Obj.cells #[.int .i64 0, .slice A2 0 c2] 24)).alloc (Obj.cells #[.int .i64 1, .int .i64 3, .slice A3 1 c3] 27)).drewN m) := fun m => Kd.C_string Try.underlying22 Try.underlying5 Try.underlying9 (Kd.C_drewN (Kd.C_alloc (Kd.C_alloc hC3.out _) _) m)
 have hcv2 : ∀ m : Nat, (convert 22 9 (.slice (some ⟨ad0.block, ad0.off + 18, none⟩) 1 (c0 - 18))).run Try.prog (((w2.alloc (Obj.cells #[.int .i64 0, .slice A2 0 c2] 24)).alloc (Obj.cells #[.int .i64 1, .int .i64 3, .slice A3 1 c3] 27)).drewN m) = .ok (.string (strOfNums ((l0.take 19).drop 18))) (((w2.alloc (Obj.cells #[.int .i64 0, .slice A2 0 c2] 24)).alloc (Obj.cells #[.int .i64 1, .int .i64 3, .slice A3 1 c3] 27)).drewN m) := fun m => Kd.C_string Try.underlying22 Try.underlying5 Try.underlying9 (by have h := Kd.C_drewN (Kd.C_below HK.out HB3.out) m; rw [HD.out, if_neg hne] at h; exact h)
 have d2 : decide ((l0.length : Int) < 19) = false := decide_eq_false (by omega)
 go_quiet (fail)
 go_wp2
 go_ret
 exact ⟨rfl, pw_below_drewN HB3.out _⟩
set_option maxHeartbeats 8000000 in
set_option maxRecDepth 100000 in
theorem ridgewaylaw03_MsgGot.good (A0 : Option Addr) (c0 : Nat) (l0 : List Int) (w : World) (hr0 : Kd.C (Kd.int .u8) w A0 l0.length l0) (hc0 : l0.length ≤ c0) (g1 : ¬ ((l0.length : Int) > 5000)) (tt : Int) (l2 : List Int) (m : Nat) (g2 : 19 ≤ m) (g3 : m ≤ l0.length) (hg : msg_Get.f 100 l0 = some (tt, l2, (m : Int), 0, 0, [])) (hs : msg_Sane.f tt l2 = some true) (hp : msg_Put.f 100 [] tt l2 = some (l0.take m)) :
  Calls Try.prog 5 #[.slice A0 l0.length c0] w fun e w' => e = .returned (.bool true) ∧ Below w.heap.size w w' := by
 have HK := Aside0.mk (Kd.C_take hr0 g3)
 have HM := Aside0.mk g3
 have q1 : (19 : Int) ≤ (m : Int) := by omega
 have q2 : (m : Int) ≤ (l0.length : Int) := by omega
 have q3 : (m : Int) ≤ (c0 : Int) := by omega
 have HR0 := Aside0.mk hr0
 have HC0 := Aside0.mk hc0
 have HG := Aside0.mk hg
 have HS := Aside0.mk hs
 have HP := Aside0.mk hp
 clear hr0 hc0 hg hs hp g2 g3
 have d1 : decide ((l0.length : Int) > 5000) = false := decide_eq_false g1
 go_enter Try.func5, Try.ntmps5
 go_wp2_with (first
  | (go_at_call 8; refine (ridgewaylaw03_awake.calls true _ rfl).mono ?_; rintro e w1 ⟨rfl, hb1⟩)
  | (go_at_call 9; with_reducible refine (msg_Get.calls 100 A0 c0 l0 _ _ _ _ _ _ w1 (Kd.C_below HR0.out hb1) HC0.out HG.out).mono ?_; rintro e w2 ⟨v2, v3, rfl, hR2, hR3, hb2⟩; obtain ⟨A2, c2, rfl, hl2, hC2⟩ := Kd.R_reads hR2; obtain ⟨A3, c3, rfl, hl3, hC3⟩ := Kd.R_reads hR3; clear hR2 hR3; try simp only [List.length_nil]; have hB2 := below_step hb1 hb2; have HB3 := Aside0.mk (below_alloc (below_alloc hB2 (Obj.cells #[.int .i64 tt, .slice A2 l2.length c2] 24)) (Obj.cells #[.int .i64 0, .int .i64 0, .slice A3 0 c3] 27)); have hC2 := Aside0.mk hC2; have hC3 := Aside0.mk hC3; have hl2 := Aside0.mk hl2; clear hb1 hb2 hB2 hl3))
 have HCV : ∀ w' : World, Below ((w2.alloc (Obj.cells #[.int .i64 tt, .slice A2 l2.length c2] 24)).alloc (Obj.cells #[.int .i64 0, .int .i64 0, .slice A3 0 c3] 27)).heap.size ((w2.alloc (Obj.cells #[.int .i64 tt, .slice A2 l2.length c2] 24)).alloc (Obj.cells #[.int .i64 0, .int .i64 0, .slice A3 0 c3] 27)) w' → (w'.cell? ⟨w2.heap.size, 0, none⟩ = some (.int .i64 tt) ∧ w'.cell? ⟨w2.heap.size, 1, none⟩ = some (.slice A2 l2.length c2) ∧ (convert 22 9 (.slice A0 m c0)).run Try.prog w' = .ok (.string (strOfNums (l0.take m))) w' ∧ Below w.heap.size w w' ∧ Aside0 (Below ((w2.alloc (Obj.cells #[.int .i64 tt, .slice A2 l2.length c2] 24)).alloc (Obj.cells #[.int .i64 0, .int .i64 0, .slice A3 0 c3] 27)).heap.size ((w2.alloc (Obj.cells #[.int .i64 tt, .slice A2 l2.length c2] 24)).alloc (Obj.cells #[.int .i64 0, .int .i64 0, .slice A3 0 c3] 27)) w')) := fun w' hb => ⟨(new2_cell hb 0).trans rfl, (new2_cell hb 1).trans rfl, Kd.C_string Try.underlying22 Try.underlying5 Try.underlying9 (by have h := Kd.C_below (Kd.C_below HK.out HB3.out) hb; rw [List.length_take, Nat.min_eq_left HM.out] at h; exact h), below_step HB3.out hb, ⟨hb⟩⟩
 have HCT : Aside0 (∀ w1 w' : World, (w1.cell? ⟨w2.heap.size, 0, none⟩ = some (.int .i64 tt) ∧ w1.cell? ⟨w2.heap.size, 1, none⟩ = some (.slice A2 l2.length c2) ∧ (convert 22 9 (.slice A0 m c0)).run Try.prog w1 = .ok (.string (strOfNums (l0.take m))) w1 ∧ Below w.heap.size w w1 ∧ Aside0 (Below ((w2.alloc (Obj.cells #[.int .i64 tt, .slice A2 l2.length c2] 24)).alloc (Obj.cells #[.int .i64 0, .int .i64 0, .slice A3 0 c3] 27)).heap.size ((w2.alloc (Obj.cells #[.int .i64 tt, .slice A2 l2.length c2] 24)).alloc (Obj.cells #[.int .i64 0, .int .i64 0, .slice A3 0 c3] 27)) w1)) → Below w1.heap.size w1 w' → (w'.cell? ⟨w2.heap.size, 0, none⟩ = some (.int .i64 tt) ∧ w'.cell? ⟨w2.heap.size, 1, none⟩ = some (.slice A2 l2.length c2) ∧ (convert 22 9 (.slice A0 m c0)).run Try.prog w' = .ok (.string (strOfNums (l0.take m))) w' ∧ Below w.heap.size w w' ∧ Aside0 (Below ((w2.alloc (Obj.cells #[.int .i64 tt, .slice A2 l2.length c2] 24)).alloc (Obj.cells #[.int .i64 0, .int .i64 0, .slice A3 0 c3] 27)).heap.size ((w2.alloc (Obj.cells #[.int .i64 tt, .slice A2 l2.length c2] 24)).alloc (Obj.cells #[.int .i64 0, .int .i64 0, .slice A3 0 c3] 27)) w'))) := ⟨fun w1 w' hs hb => HCV w' (below_step hs.2.2.2.2.out hb)⟩
 have HCV := Aside0.mk HCV
 obtain ⟨hv0, hv1, hcv0, hB3, hb3⟩ := HCV.out _ (below_drew1 (Below.refl _ _))
 go_region_with (first
  | (go_at_call 15; with_reducible refine (msg_Sane.calls tt A2 c2 l2 true _ (Kd.C_drew (Kd.C_alloc (Kd.C_alloc hC2.out _) _)) hl2.out HS.out).mono ?_; rintro e w3 ⟨rfl, hbP⟩; obtain ⟨hu0, hu1, hcu, hB4, hb4⟩ := HCV.out _ (below_step hb3.out hbP))
  | (go_at_call 17; refine (msg_Put.calls 100 (fun _ => False) none 0 [] tt A2 c2 l2 (l0.take m) _ (Kd.V_nil _ _ _ _ _) (Kd.C_below (Kd.C_alloc (Kd.C_alloc hC2.out _) _) hb4.out) hl2.out HP.out).mono ?_; rintro e w4 ⟨v4, rfl, hRP, hbQ⟩; have hcv4 := own_string (P := Try.prog) Try.underlying22 Try.underlying5 Try.underlying9 (Kd.own_of_R hRP); obtain ⟨ht0, ht1, hct, hB5, hb5⟩ := HCV.out _ (below_step hb4.out hbQ)))
 all_goals (go_wp2; go_ret; exact ⟨rfl, hB5⟩)
theorem ridgewaylaw03_MsgGot.calls (A0 : Option Addr) (c0 : Nat) (l0 : List Int) (w : World) (hr0 : Kd.C (Kd.int .u8) w A0 l0.length l0) (hc0 : l0.length ≤ c0) (h : ridgewaylaw03_MsgGot.f l0 = some true) :
  Calls Try.prog 5 #[.slice A0 l0.length c0] w fun e w' => e = .returned (.bool true) ∧ Below w.heap.size w w' := by
 unfold ridgewaylaw03_MsgGot.f at h
 split at h
 case isFalse => cases h
 rename_i ho
 by_cases g1 : (l0.length : Int) > 5000
 ·
  exact ridgewaylaw03_MsgGot.far A0 c0 l0 w hr0 hc0 g1
 ·
  have hg := Pure.msg_get 100 l0 ho (by omega) (by omega)
  rcases hgv : Pure.getV l0 with ⟨t, b, n, c, s, d⟩
  rw [hgv] at hg
  rcases Pure.got_enc l0 ho t n c s b d hgv with ⟨rfl, rfl, rfl, rfl, rfl, rfl, h4⟩ | ⟨rfl, rfl, rfl, h1, h2, h3, h4, h5⟩ | ⟨rfl, rfl, rfl, rfl, h1, ⟨rfl, rfl⟩ | ⟨rfl, rfl⟩ | ⟨rfl, rfl⟩⟩
  ·
   exact ridgewaylaw03_MsgGot.more A0 c0 l0 w hr0 hc0 g1 h4 hg
  ·
   obtain ⟨m, rfl⟩ : ∃ m : Nat, n = (m : Int) := ⟨n.toNat, by omega⟩
   have hbl : b.length ≤ 4096 := by
    have := congrArg List.length h5
    rw [Pure.encM_length, List.length_take] at this
    omega
   refine ridgewaylaw03_MsgGot.good A0 c0 l0 w hr0 hc0 g1 t b m (by omega) (by omega) hg (by rw [Pure.sane_eq t b (by omega), h4]) ?_
   rw [Pure.msg_put 100 [] t b (by omega) (by simp) (by omega)]
   unfold Pure.putV
   rw [if_pos h4, List.nil_append, h5, Int.toNat_natCast]
  ·
   exact ridgewaylaw03_MsgGot.bad1 A0 c0 l0 w hr0 hc0 g1 h1 hg
  ·
   exact ridgewaylaw03_MsgGot.bad2 A0 c0 l0 w hr0 hc0 g1 h1 hg
  ·
   exact ridgewaylaw03_MsgGot.bad3 A0 c0 l0 w hr0 hc0 g1 h1 hg

/-- THE ONE PURE STATEMENT of ridgewaylaw03_MsgGot. -/
def ridgewaylaw03_MsgGot.Pure : Prop := ∀ (l0 : List Int), (l0.length ≤ maxLen ∧ ∀ y ∈ l0, (Lit.int .u8 y).wf = true) → ridgewaylaw03_MsgGot.f l0 = some true

end Go.Proofs.Ythmlhimmgciakaa.Q
