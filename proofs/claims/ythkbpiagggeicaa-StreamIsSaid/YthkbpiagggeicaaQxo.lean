/- Each call of a Go function comes to what the Lean function of its name answers (written out by wip/tools/xprint.py, checked by Lean); conditions: those in each statement. -/
import Derived.Test.YthkbpiagggeicaaQx0
import Derived.Test.YthkbpiagggeicaaXOpen
namespace Go.Proofs.Ythkbpiagggeicaa.Q
open Go.RowKit Go.Proofs.YthkbpiagggeicaaW.PrintWords Go.Proofs.YthkbpiagggeicaaW.PrintLast Go.Proofs.YthkbpiagggeicaaW.PrintMore Go.Proofs.YthkbpiagggeicaaW.PrintX
attribute [local go_sem] max2_int min2_int max_two min_two max_three min_three max_four min_four   -- for this text's walks alone
set_option linter.unusedVariables false
set_option linter.unusedSimpArgs false

theorem opens43 : Opens Try.prog 43 k43 wf43 := by
 intro H enc w fuel cs x h
 obtain ⟨xs, n, _, _, hl, hs, hf⟩ := DataW.trod_struct Try.underlying43 h
 have hl0 : cs.length = 2 := hl.trans (by kernel_rfl)
 obtain ⟨z0, hz0⟩ := field_of hs hf 0 _ rfl
 replace hz0 : DataW.trod enc Try.prog w 0 (fun _ => true) true n 3 ((cs.drop 0).take (Try.prog.cellsOf 3)) = some z0 := hz0
 rw [show Try.prog.cellsOf 3 = 1 from by kernel_rfl] at hz0
 obtain ⟨y0, hk0, hw0⟩ := (opens_int Try.underlying3) H enc w n _ _ hz0
 obtain ⟨z1, hz1⟩ := field_of hs hf 1 _ rfl
 replace hz1 : DataW.trod enc Try.prog w 0 (fun _ => true) true n 22 ((cs.drop 1).take (Try.prog.cellsOf 22)) = some z1 := hz1
 rw [show Try.prog.cellsOf 22 = 1 from by kernel_rfl] at hz1
 obtain ⟨y1, hk1, hw1⟩ := (opens_slice Try.underlying22 (show Try.prog.cellsOf 5 = (Kd.int .u8).sz by kernel_rfl) (opens_int Try.underlying5)) H enc w n _ _ hz1
 have h := K_pair (off := 0) hk0 (K_last (off := 1) (by omega) hk1)
 rw [List.drop_zero] at h
 exact ⟨⟨y0, y1⟩, h, hw0, hw1⟩
theorem opens24 : Opens Try.prog 24 k24 wf24 := by
 intro H enc w fuel cs x h
 obtain ⟨xs, n, _, _, hl, hs, hf⟩ := DataW.trod_struct Try.underlying24 h
 have hl0 : cs.length = 2 := hl.trans (by kernel_rfl)
 obtain ⟨z0, hz0⟩ := field_of hs hf 0 _ rfl
 replace hz0 : DataW.trod enc Try.prog w 0 (fun _ => true) true n 22 ((cs.drop 0).take (Try.prog.cellsOf 22)) = some z0 := hz0
 rw [show Try.prog.cellsOf 22 = 1 from by kernel_rfl] at hz0
 obtain ⟨y0, hk0, hw0⟩ := (opens_slice Try.underlying22 (show Try.prog.cellsOf 5 = (Kd.int .u8).sz by kernel_rfl) (opens_int Try.underlying5)) H enc w n _ _ hz0
 obtain ⟨z1, hz1⟩ := field_of hs hf 1 _ rfl
 replace hz1 : DataW.trod enc Try.prog w 0 (fun _ => true) true n 4 ((cs.drop 1).take (Try.prog.cellsOf 4)) = some z1 := hz1
 rw [show Try.prog.cellsOf 4 = 1 from by kernel_rfl] at hz1
 obtain ⟨y1, hk1, hw1⟩ := (opens_bool Try.underlying4) H enc w n _ _ hz1
 have h := K_pair (off := 0) hk0 (K_last (off := 1) (by omega) hk1)
 rw [List.drop_zero] at h
 exact ⟨⟨y0, y1⟩, h, hw0, hw1⟩
theorem k24_open' {w : World} {x : S24} {cs : List Value} (h : k24.K w x cs) : ∃ A0 c0, cs = [.slice A0 (x.f0).length c0, .bool x.f1] ∧ (x.f0).length ≤ c0 ∧ Kd.C (Kd.int .u8) w A0 (x.f0).length x.f0 := by
 obtain ⟨A0, c0, h0_, hc0, hr0⟩ := k24_open h
 exact ⟨A0, c0, h0_, hc0, hr0⟩
end Go.Proofs.Ythkbpiagggeicaa.Q
