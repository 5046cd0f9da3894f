/- Each call of a Go function comes to what the Lean function of its name answers (written out by wip/tools/xprint.py, checked by Lean); conditions: those in each statement. -/
import Derived.Test.YtfmhclbcoladpaaEx0
import Derived.Test.YtfmhclbcoladpaaXOpen
namespace Go.Proofs.Ytfmhclbcoladpaa.E
open Go.RowKit Go.Proofs.YtfmhclbcoladpaaW.PrintWords Go.Proofs.YtfmhclbcoladpaaW.PrintLast Go.Proofs.YtfmhclbcoladpaaW.PrintMore Go.Proofs.YtfmhclbcoladpaaW.PrintX
attribute [local go_sem] max2_int min2_int max_two min_two max_three min_three max_four min_four   -- for this text's walks alone
set_option linter.unusedVariables false
set_option linter.unusedSimpArgs false

theorem opens27 : Opens Try.prog 27 k27 wf27 := by
 intro H enc w fuel cs x h
 obtain ⟨xs, n, _, _, hl, hs, hf⟩ := DataW.trod_struct Try.underlying27 h
 have hl0 : cs.length = 4 := hl.trans (by kernel_rfl)
 obtain ⟨z0, hz0⟩ := field_of hs hf 0 _ rfl
 replace hz0 : DataW.trod enc Try.prog w 0 (fun _ => true) true n 3 ((cs.drop 0).take (Try.prog.cellsOf 3)) = some z0 := hz0
 rw [show Try.prog.cellsOf 3 = 1 from by kernel_rfl] at hz0
 obtain ⟨y0, hk0, hw0⟩ := (opens_int Try.underlying3) H enc w n _ _ hz0
 obtain ⟨z1, hz1⟩ := field_of hs hf 1 _ rfl
 replace hz1 : DataW.trod enc Try.prog w 0 (fun _ => true) true n 25 ((cs.drop 1).take (Try.prog.cellsOf 25)) = some z1 := hz1
 rw [show Try.prog.cellsOf 25 = 1 from by kernel_rfl] at hz1
 obtain ⟨y1, hk1, hw1⟩ := (opens_slice Try.underlying25 (show Try.prog.cellsOf 3 = (Kd.int .i64).sz by kernel_rfl) (opens_int Try.underlying3)) H enc w n _ _ hz1
 obtain ⟨z2, hz2⟩ := field_of hs hf 2 _ rfl
 replace hz2 : DataW.trod enc Try.prog w 0 (fun _ => true) true n 3 ((cs.drop 2).take (Try.prog.cellsOf 3)) = some z2 := hz2
 rw [show Try.prog.cellsOf 3 = 1 from by kernel_rfl] at hz2
 obtain ⟨y2, hk2, hw2⟩ := (opens_int Try.underlying3) H enc w n _ _ hz2
 obtain ⟨z3, hz3⟩ := field_of hs hf 3 _ rfl
 replace hz3 : DataW.trod enc Try.prog w 0 (fun _ => true) true n 3 ((cs.drop 3).take (Try.prog.cellsOf 3)) = some z3 := hz3
 rw [show Try.prog.cellsOf 3 = 1 from by kernel_rfl] at hz3
 obtain ⟨y3, hk3, hw3⟩ := (opens_int Try.underlying3) H enc w n _ _ hz3
 have h := K_pair (off := 0) hk0 (K_pair (off := 1) hk1 (K_pair (off := 2) hk2 (K_last (off := 3) (by omega) hk3)))
 rw [List.drop_zero] at h
 exact ⟨⟨y0, y1, y2, y3⟩, h, hw0, hw1, hw2, hw3⟩
theorem k27_open' {w : World} {x : S27} {cs : List Value} (h : k27.K w x cs) : ∃ A1 c1, cs = [.int .i64 x.f0, .slice A1 (x.f1).length c1, .int .i64 x.f2, .int .i64 x.f3] ∧ (x.f1).length ≤ c1 ∧ Kd.C (Kd.int .i64) w A1 (x.f1).length x.f1 := by
 obtain ⟨A1, c1, h0_, hc1, hr1⟩ := k27_open h
 exact ⟨A1, c1, h0_, hc1, hr1⟩
end Go.Proofs.Ytfmhclbcoladpaa.E
