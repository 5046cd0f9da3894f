/- Each call of a Go function comes to what the Lean function of its name answers (written out by wip/tools/xprint.py, checked by Lean); conditions: those in each statement. -/
import Derived.Test.YtfbndolhocojiaaDoorKx0
import Derived.Test.YtfbndolhocojiaaDoorXOpen
namespace Go.Proofs.YtfbndolhocojiaaDoor.K
open Go.RowKit Go.Proofs.YtfbndolhocojiaaDoorW.PrintWords Go.Proofs.YtfbndolhocojiaaDoorW.PrintLast Go.Proofs.YtfbndolhocojiaaDoorW.PrintMore Go.Proofs.YtfbndolhocojiaaDoorW.PrintX
attribute [local go_sem] max2_int min2_int max_two min_two max_three min_three max_four min_four   -- for this text's walks alone
set_option linter.unusedVariables false
set_option linter.unusedSimpArgs false

theorem opens34 : Opens Tryd.prog 34 k34 wf34 := by
 intro H enc w fuel cs x h
 obtain ⟨xs, n, _, _, hl, hs, hf⟩ := DataW.trod_struct Tryd.underlying34 h
 have hl0 : cs.length = 4 := hl.trans (by kernel_rfl)
 obtain ⟨z0, hz0⟩ := field_of hs hf 0 _ rfl
 replace hz0 : DataW.trod enc Tryd.prog w 0 (fun _ => true) true n 3 ((cs.drop 0).take (Tryd.prog.cellsOf 3)) = some z0 := hz0
 rw [show Tryd.prog.cellsOf 3 = 1 from by kernel_rfl] at hz0
 obtain ⟨y0, hk0, hw0⟩ := (opens_int Tryd.underlying3) H enc w n _ _ hz0
 obtain ⟨z1, hz1⟩ := field_of hs hf 1 _ rfl
 replace hz1 : DataW.trod enc Tryd.prog w 0 (fun _ => true) true n 3 ((cs.drop 1).take (Tryd.prog.cellsOf 3)) = some z1 := hz1
 rw [show Tryd.prog.cellsOf 3 = 1 from by kernel_rfl] at hz1
 obtain ⟨y1, hk1, hw1⟩ := (opens_int Tryd.underlying3) H enc w n _ _ hz1
 obtain ⟨z2, hz2⟩ := field_of hs hf 2 _ rfl
 replace hz2 : DataW.trod enc Tryd.prog w 0 (fun _ => true) true n 3 ((cs.drop 2).take (Tryd.prog.cellsOf 3)) = some z2 := hz2
 rw [show Tryd.prog.cellsOf 3 = 1 from by kernel_rfl] at hz2
 obtain ⟨y2, hk2, hw2⟩ := (opens_int Tryd.underlying3) H enc w n _ _ hz2
 obtain ⟨z3, hz3⟩ := field_of hs hf 3 _ rfl
 replace hz3 : DataW.trod enc Tryd.prog w 0 (fun _ => true) true n 3 ((cs.drop 3).take (Tryd.prog.cellsOf 3)) = some z3 := hz3
 rw [show Tryd.prog.cellsOf 3 = 1 from by kernel_rfl] at hz3
 obtain ⟨y3, hk3, hw3⟩ := (opens_int Tryd.underlying3) H enc w n _ _ hz3
 have h := K_pair (off := 0) hk0 (K_pair (off := 1) hk1 (K_pair (off := 2) hk2 (K_last (off := 3) (by omega) hk3)))
 rw [List.drop_zero] at h
 exact ⟨⟨y0, y1, y2, y3⟩, h, hw0, hw1, hw2, hw3⟩
theorem opens62 : Opens Tryd.prog 62 k62 wf62 := by
 intro H enc w fuel cs x h
 obtain ⟨xs, n, _, _, hl, hs, hf⟩ := DataW.trod_struct Tryd.underlying62 h
 have hl0 : cs.length = 2 := hl.trans (by kernel_rfl)
 obtain ⟨z0, hz0⟩ := field_of hs hf 0 _ rfl
 replace hz0 : DataW.trod enc Tryd.prog w 0 (fun _ => true) true n 3 ((cs.drop 0).take (Tryd.prog.cellsOf 3)) = some z0 := hz0
 rw [show Tryd.prog.cellsOf 3 = 1 from by kernel_rfl] at hz0
 obtain ⟨y0, hk0, hw0⟩ := (opens_int Tryd.underlying3) H enc w n _ _ hz0
 obtain ⟨z1, hz1⟩ := field_of hs hf 1 _ rfl
 replace hz1 : DataW.trod enc Tryd.prog w 0 (fun _ => true) true n 3 ((cs.drop 1).take (Tryd.prog.cellsOf 3)) = some z1 := hz1
 rw [show Tryd.prog.cellsOf 3 = 1 from by kernel_rfl] at hz1
 obtain ⟨y1, hk1, hw1⟩ := (opens_int Tryd.underlying3) H enc w n _ _ hz1
 have h := K_pair (off := 0) hk0 (K_last (off := 1) (by omega) hk1)
 rw [List.drop_zero] at h
 exact ⟨⟨y0, y1⟩, h, hw0, hw1⟩
theorem opens95 : Opens Tryd.prog 95 k95 wf95 := by
 intro H enc w fuel cs x h
 obtain ⟨xs, n, _, _, hl, hs, hf⟩ := DataW.trod_struct Tryd.underlying95 h
 have hl0 : cs.length = 6 := hl.trans (by kernel_rfl)
 obtain ⟨z0, hz0⟩ := field_of hs hf 0 _ rfl
 replace hz0 : DataW.trod enc Tryd.prog w 0 (fun _ => true) true n 3 ((cs.drop 0).take (Tryd.prog.cellsOf 3)) = some z0 := hz0
 rw [show Tryd.prog.cellsOf 3 = 1 from by kernel_rfl] at hz0
 obtain ⟨y0, hk0, hw0⟩ := (opens_int Tryd.underlying3) H enc w n _ _ hz0
 obtain ⟨z1, hz1⟩ := field_of hs hf 1 _ rfl
 replace hz1 : DataW.trod enc Tryd.prog w 0 (fun _ => true) true n 62 ((cs.drop 1).take (Tryd.prog.cellsOf 62)) = some z1 := hz1
 rw [show Tryd.prog.cellsOf 62 = 2 from by kernel_rfl] at hz1
 obtain ⟨y1, hk1, hw1⟩ := opens62 H enc w n _ _ hz1
 obtain ⟨z2, hz2⟩ := field_of hs hf 2 _ rfl
 replace hz2 : DataW.trod enc Tryd.prog w 0 (fun _ => true) true n 3 ((cs.drop 3).take (Tryd.prog.cellsOf 3)) = some z2 := hz2
 rw [show Tryd.prog.cellsOf 3 = 1 from by kernel_rfl] at hz2
 obtain ⟨y2, hk2, hw2⟩ := (opens_int Tryd.underlying3) H enc w n _ _ hz2
 obtain ⟨z3, hz3⟩ := field_of hs hf 3 _ rfl
 replace hz3 : DataW.trod enc Tryd.prog w 0 (fun _ => true) true n 3 ((cs.drop 4).take (Tryd.prog.cellsOf 3)) = some z3 := hz3
 rw [show Tryd.prog.cellsOf 3 = 1 from by kernel_rfl] at hz3
 obtain ⟨y3, hk3, hw3⟩ := (opens_int Tryd.underlying3) H enc w n _ _ hz3
 obtain ⟨z4, hz4⟩ := field_of hs hf 4 _ rfl
 replace hz4 : DataW.trod enc Tryd.prog w 0 (fun _ => true) true n 3 ((cs.drop 5).take (Tryd.prog.cellsOf 3)) = some z4 := hz4
 rw [show Tryd.prog.cellsOf 3 = 1 from by kernel_rfl] at hz4
 obtain ⟨y4, hk4, hw4⟩ := (opens_int Tryd.underlying3) H enc w n _ _ hz4
 have h := K_pair (off := 0) hk0 (K_pair (off := 1) hk1 (K_pair (off := 3) hk2 (K_pair (off := 4) hk3 (K_last (off := 5) (by omega) hk4))))
 rw [List.drop_zero] at h
 exact ⟨⟨y0, y1, y2, y3, y4⟩, h, hw0, hw1, hw2, hw3, hw4⟩
theorem opens31 : Opens Tryd.prog 31 k31 wf31 := by
 intro H enc w fuel cs x h
 obtain ⟨xs, n, _, _, hl, hs, hf⟩ := DataW.trod_struct Tryd.underlying31 h
 have hl0 : cs.length = 4 := hl.trans (by kernel_rfl)
 obtain ⟨z0, hz0⟩ := field_of hs hf 0 _ rfl
 replace hz0 : DataW.trod enc Tryd.prog w 0 (fun _ => true) true n 3 ((cs.drop 0).take (Tryd.prog.cellsOf 3)) = some z0 := hz0
 rw [show Tryd.prog.cellsOf 3 = 1 from by kernel_rfl] at hz0
 obtain ⟨y0, hk0, hw0⟩ := (opens_int Tryd.underlying3) H enc w n _ _ hz0
 obtain ⟨z1, hz1⟩ := field_of hs hf 1 _ rfl
 replace hz1 : DataW.trod enc Tryd.prog w 0 (fun _ => true) true n 3 ((cs.drop 1).take (Tryd.prog.cellsOf 3)) = some z1 := hz1
 rw [show Tryd.prog.cellsOf 3 = 1 from by kernel_rfl] at hz1
 obtain ⟨y1, hk1, hw1⟩ := (opens_int Tryd.underlying3) H enc w n _ _ hz1
 obtain ⟨z2, hz2⟩ := field_of hs hf 2 _ rfl
 replace hz2 : DataW.trod enc Tryd.prog w 0 (fun _ => true) true n 29 ((cs.drop 2).take (Tryd.prog.cellsOf 29)) = some z2 := hz2
 rw [show Tryd.prog.cellsOf 29 = 1 from by kernel_rfl] at hz2
 obtain ⟨y2, hk2, hw2⟩ := (opens_slice Tryd.underlying29 (show Tryd.prog.cellsOf 95 = k95.sz by kernel_rfl) opens95) H enc w n _ _ hz2
 obtain ⟨z3, hz3⟩ := field_of hs hf 3 _ rfl
 replace hz3 : DataW.trod enc Tryd.prog w 0 (fun _ => true) true n 29 ((cs.drop 3).take (Tryd.prog.cellsOf 29)) = some z3 := hz3
 rw [show Tryd.prog.cellsOf 29 = 1 from by kernel_rfl] at hz3
 obtain ⟨y3, hk3, hw3⟩ := (opens_slice Tryd.underlying29 (show Tryd.prog.cellsOf 95 = k95.sz by kernel_rfl) opens95) H enc w n _ _ hz3
 have h := K_pair (off := 0) hk0 (K_pair (off := 1) hk1 (K_pair (off := 2) hk2 (K_last (off := 3) (by omega) hk3)))
 rw [List.drop_zero] at h
 exact ⟨⟨y0, y1, y2, y3⟩, h, hw0, hw1, hw2, hw3⟩
theorem opens26 : Opens Tryd.prog 26 k26 wf26 := by
 intro H enc w fuel cs x h
 obtain ⟨xs, n, _, _, hl, hs, hf⟩ := DataW.trod_struct Tryd.underlying26 h
 have hl0 : cs.length = 6 := hl.trans (by kernel_rfl)
 obtain ⟨z0, hz0⟩ := field_of hs hf 0 _ rfl
 replace hz0 : DataW.trod enc Tryd.prog w 0 (fun _ => true) true n 3 ((cs.drop 0).take (Tryd.prog.cellsOf 3)) = some z0 := hz0
 rw [show Tryd.prog.cellsOf 3 = 1 from by kernel_rfl] at hz0
 obtain ⟨y0, hk0, hw0⟩ := (opens_int Tryd.underlying3) H enc w n _ _ hz0
 obtain ⟨z1, hz1⟩ := field_of hs hf 1 _ rfl
 replace hz1 : DataW.trod enc Tryd.prog w 0 (fun _ => true) true n 3 ((cs.drop 1).take (Tryd.prog.cellsOf 3)) = some z1 := hz1
 rw [show Tryd.prog.cellsOf 3 = 1 from by kernel_rfl] at hz1
 obtain ⟨y1, hk1, hw1⟩ := (opens_int Tryd.underlying3) H enc w n _ _ hz1
 obtain ⟨z2, hz2⟩ := field_of hs hf 2 _ rfl
 replace hz2 : DataW.trod enc Tryd.prog w 0 (fun _ => true) true n 3 ((cs.drop 2).take (Tryd.prog.cellsOf 3)) = some z2 := hz2
 rw [show Tryd.prog.cellsOf 3 = 1 from by kernel_rfl] at hz2
 obtain ⟨y2, hk2, hw2⟩ := (opens_int Tryd.underlying3) H enc w n _ _ hz2
 obtain ⟨z3, hz3⟩ := field_of hs hf 3 _ rfl
 replace hz3 : DataW.trod enc Tryd.prog w 0 (fun _ => true) true n 3 ((cs.drop 3).take (Tryd.prog.cellsOf 3)) = some z3 := hz3
 rw [show Tryd.prog.cellsOf 3 = 1 from by kernel_rfl] at hz3
 obtain ⟨y3, hk3, hw3⟩ := (opens_int Tryd.underlying3) H enc w n _ _ hz3
 obtain ⟨z4, hz4⟩ := field_of hs hf 4 _ rfl
 replace hz4 : DataW.trod enc Tryd.prog w 0 (fun _ => true) true n 23 ((cs.drop 4).take (Tryd.prog.cellsOf 23)) = some z4 := hz4
 rw [show Tryd.prog.cellsOf 23 = 1 from by kernel_rfl] at hz4
 obtain ⟨y4, hk4, hw4⟩ := (opens_slice Tryd.underlying23 (show Tryd.prog.cellsOf 62 = k62.sz by kernel_rfl) opens62) H enc w n _ _ hz4
 obtain ⟨z5, hz5⟩ := field_of hs hf 5 _ rfl
 replace hz5 : DataW.trod enc Tryd.prog w 0 (fun _ => true) true n 24 ((cs.drop 5).take (Tryd.prog.cellsOf 24)) = some z5 := hz5
 rw [show Tryd.prog.cellsOf 24 = 1 from by kernel_rfl] at hz5
 obtain ⟨y5, hk5, hw5⟩ := (opens_slice Tryd.underlying24 (show Tryd.prog.cellsOf 31 = k31.sz by kernel_rfl) opens31) H enc w n _ _ hz5
 have h := K_pair (off := 0) hk0 (K_pair (off := 1) hk1 (K_pair (off := 2) hk2 (K_pair (off := 3) hk3 (K_pair (off := 4) hk4 (K_last (off := 5) (by omega) hk5)))))
 rw [List.drop_zero] at h
 exact ⟨⟨y0, y1, y2, y3, y4, y5⟩, h, hw0, hw1, hw2, hw3, hw4, hw5⟩
theorem opens45 : Opens Tryd.prog 45 k45 wf45 := by
 intro H enc w fuel cs x h
 obtain ⟨xs, n, _, _, hl, hs, hf⟩ := DataW.trod_struct Tryd.underlying45 h
 have hl0 : cs.length = 2 := hl.trans (by kernel_rfl)
 obtain ⟨z0, hz0⟩ := field_of hs hf 0 _ rfl
 replace hz0 : DataW.trod enc Tryd.prog w 0 (fun _ => true) true n 3 ((cs.drop 0).take (Tryd.prog.cellsOf 3)) = some z0 := hz0
 rw [show Tryd.prog.cellsOf 3 = 1 from by kernel_rfl] at hz0
 obtain ⟨y0, hk0, hw0⟩ := (opens_int Tryd.underlying3) H enc w n _ _ hz0
 obtain ⟨z1, hz1⟩ := field_of hs hf 1 _ rfl
 replace hz1 : DataW.trod enc Tryd.prog w 0 (fun _ => true) true n 39 ((cs.drop 1).take (Tryd.prog.cellsOf 39)) = some z1 := hz1
 rw [show Tryd.prog.cellsOf 39 = 1 from by kernel_rfl] at hz1
 obtain ⟨y1, hk1, hw1⟩ := (opens_slice Tryd.underlying39 (show Tryd.prog.cellsOf 5 = (Kd.int .u8).sz by kernel_rfl) (opens_int Tryd.underlying5)) H enc w n _ _ hz1
 have h := K_pair (off := 0) hk0 (K_last (off := 1) (by omega) hk1)
 rw [List.drop_zero] at h
 exact ⟨⟨y0, y1⟩, h, hw0, hw1⟩
theorem k26_open' {w : World} {x : S26} {cs : List Value} (h : k26.K w x cs) : ∃ A4 c4 A5 c5, cs = [.int .i64 x.f0, .int .i64 x.f1, .int .i64 x.f2, .int .i64 x.f3, .slice A4 (x.f4).length c4, .slice A5 (x.f5).length c5] ∧ (x.f4).length ≤ c4 ∧ Kd.C k62 w A4 (x.f4).length x.f4 ∧ (x.f5).length ≤ c5 ∧ Kd.C k31 w A5 (x.f5).length x.f5 := by
 obtain ⟨A4, c4, A5, c5, h0_, hc4, hr4, hc5, hr5⟩ := k26_open h
 exact ⟨A4, c4, A5, c5, h0_, hc4, hr4, hc5, hr5⟩
theorem k45_open' {w : World} {x : S45} {cs : List Value} (h : k45.K w x cs) : ∃ A1 c1, cs = [.int .i64 x.f0, .slice A1 (x.f1).length c1] ∧ (x.f1).length ≤ c1 ∧ Kd.C (Kd.int .u8) w A1 (x.f1).length x.f1 := by
 obtain ⟨A1, c1, h0_, hc1, hr1⟩ := k45_open h
 exact ⟨A1, c1, h0_, hc1, hr1⟩
end Go.Proofs.YtfbndolhocojiaaDoor.K
