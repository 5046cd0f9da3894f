/- Each call of a Go function comes to what the Lean function of its name answers (written out by wip/tools/xprint.py, checked by Lean); conditions: those in each statement. -/
import Derived.Test.YtfbndolhocojiaaDoorKx0
import Derived.Test.YtfbndolhocojiaaDoorKx3
import Derived.Test.YtfbndolhocojiaaDoorKx4
import Derived.Test.YtfbndolhocojiaaDoorKx5
namespace Go.Proofs.YtfbndolhocojiaaDoor.K
open Go.RowKit Go.Proofs.YtfbndolhocojiaaDoorW.PrintWords Go.Proofs.YtfbndolhocojiaaDoorW.PrintLast Go.Proofs.YtfbndolhocojiaaDoorW.PrintMore Go.Proofs.YtfbndolhocojiaaDoorW.PrintX
attribute [local go_sem] max2_int min2_int max_two min_two max_three min_three max_four min_four   -- for this text's walks alone
set_option linter.unusedVariables false
set_option linter.unusedSimpArgs false

/-! ### policy_kinds_5: function 75 -/
def policy_kinds_5.f (a0_0 : Int) (a0_1 : Int) (a0_2 : Int) (a0_3 : Int) (a0_4 : Int) (a0_5 : Int) : Option (Bool) := (policy_number.f a0_0 a0_1 a0_2 a0_3 a0_4 a0_5 1 4294967295).bind fun t129 => (some t129)
set_option maxHeartbeats 8000000 in
set_option maxRecDepth 100000 in
theorem policy_kinds_5.calls (a0_0 : Int) (a0_1 : Int) (a0_2 : Int) (a0_3 : Int) (a0_4 : Int) (a0_5 : Int) (r : Bool) (w : World) (h : policy_kinds_5.f a0_0 a0_1 a0_2 a0_3 a0_4 a0_5 = some r) :
  Calls Tryd.prog 75 #[.agg #[.int .i64 a0_0, .int .i64 a0_1, .int .i64 a0_2, .int .i64 a0_3, .int .i64 a0_4, .int .i64 a0_5]] w fun e w' => e = .returned (.bool r) ∧ Below w.heap.size w w' := by
 have hu95 := Tryd.underlying95
 have HB := Aside0.mk (Below.refl w.heap.size w)
 have H : ((policy_number.f a0_0 a0_1 a0_2 a0_3 a0_4 a0_5 1 4294967295).bind fun t129 => (some t129)) = some r := h
 clear h
 replace H := Option.bind_eq_some_iff.mp H
 obtain ⟨t129, A20, H⟩ := H
 replace H : (some t129) = some r := H
 have A2 := Aside0.mk A20
 clear A20
 obtain rfl := Option.some.inj H
 go_enter Tryd.func75, Tryd.ntmps75
 go_wp2_with (first | ((with_reducible refine gate_dst (N := 1) rfl ?_); refine box_event ?hg (N := 1) ?hd (cs := #[.int .i64 a0_0, .int .i64 a0_1, .int .i64 a0_2, .int .i64 a0_3, .int .i64 a0_4, .int .i64 a0_5]) (t := 95) ?hr ?_; (case hd | hg => rfl); (case hr => first | (go_simp; done) | (go_simp; rfl)); intro gb128 hg w3 hbox hb; obtain ⟨hy, hz⟩ := bfst (by with_reducible repeat first | exact HB.out | apply bA | apply bN | apply bD) hb hg; replace HB := hy; have BK128 := Aside0.mk (hbox); have GE128 := hz; have GW128 := GE128; clear hy hz hb hbox hg; obtain ⟨hcz4_0, hcz4_1, hcz4_2, hcz4_3, hcz4_4, hcz4_5, hfz4_0, hfz4_1, hfz4_2, hfz4_3, hfz4_4, hfz4_5⟩ := bc6 BK128.out) | ((with_reducible refine gate_callee (f := 70) rfl ?_); refine goesL_ (some 4) rfl rfl Tryd.func70 (by kernel_rfl) rfl #[.agg #[.int .i64 a0_0, .int .i64 a0_1, .int .i64 a0_2, .int .i64 a0_3, .int .i64 a0_4, .int .i64 a0_5], .int .i64 1, .int .i64 4294967295] rfl (by (try simp only [List.map_toArray, List.map_cons, List.map_nil]); first | done | rfl | (simp only [List.length_drop, List.length_take]; rfl)) ?_; (with_reducible refine (policy_number.calls a0_0 a0_1 a0_2 a0_3 a0_4 a0_5 1 4294967295 t129 _ A2.out).mono ?_); rintro e w5 ⟨rfl, hb⟩; refine ⟨_, rfl, ?_⟩; have hy := bQ BK128.out (by with_reducible repeat first | apply bA | apply bN | apply bD | exact Below.refl _ _) hb; replace BK128 := Aside0.mk (blk_below BK128.out hy); replace HB := Aside0.mk (below_step HB.out hy); clear hy; (try clear hb); (try clear hb2); (try clear hk); (try clear hi)))
 go_ret
 exact ⟨by first | rfl | (simp <;> rfl) | (simp [*] <;> rfl), by with_reducible repeat first | exact HB.out | apply bA | apply bN | apply bD | refine bS ?_ GE128.out⟩

/-! ### policy_kinds_7: function 78 -/
def policy_kinds_7.f (a0_0 : Int) (a0_1 : Int) (a0_2 : Int) (a0_3 : Int) (a0_4 : Int) (a0_5 : Int) : Option (Bool) := (policy_number.f a0_0 a0_1 a0_2 a0_3 a0_4 a0_5 0 32).bind fun t136 => (some t136)
set_option maxHeartbeats 8000000 in
set_option maxRecDepth 100000 in
theorem policy_kinds_7.calls (a0_0 : Int) (a0_1 : Int) (a0_2 : Int) (a0_3 : Int) (a0_4 : Int) (a0_5 : Int) (r : Bool) (w : World) (h : policy_kinds_7.f a0_0 a0_1 a0_2 a0_3 a0_4 a0_5 = some r) :
  Calls Tryd.prog 78 #[.agg #[.int .i64 a0_0, .int .i64 a0_1, .int .i64 a0_2, .int .i64 a0_3, .int .i64 a0_4, .int .i64 a0_5]] w fun e w' => e = .returned (.bool r) ∧ Below w.heap.size w w' := by
 have hu95 := Tryd.underlying95
 have HB := Aside0.mk (Below.refl w.heap.size w)
 have H : ((policy_number.f a0_0 a0_1 a0_2 a0_3 a0_4 a0_5 0 32).bind fun t136 => (some t136)) = some r := h
 clear h
 replace H := Option.bind_eq_some_iff.mp H
 obtain ⟨t136, A20, H⟩ := H
 replace H : (some t136) = some r := H
 have A2 := Aside0.mk A20
 clear A20
 obtain rfl := Option.some.inj H
 go_enter Tryd.func78, Tryd.ntmps78
 go_wp2_with (first | ((with_reducible refine gate_dst (N := 1) rfl ?_); refine box_event ?hg (N := 1) ?hd (cs := #[.int .i64 a0_0, .int .i64 a0_1, .int .i64 a0_2, .int .i64 a0_3, .int .i64 a0_4, .int .i64 a0_5]) (t := 95) ?hr ?_; (case hd | hg => rfl); (case hr => first | (go_simp; done) | (go_simp; rfl)); intro gb135 hg w3 hbox hb; obtain ⟨hy, hz⟩ := bfst (by with_reducible repeat first | exact HB.out | apply bA | apply bN | apply bD) hb hg; replace HB := hy; have BK135 := Aside0.mk (hbox); have GE135 := hz; have GW135 := GE135; clear hy hz hb hbox hg; obtain ⟨hcz4_0, hcz4_1, hcz4_2, hcz4_3, hcz4_4, hcz4_5, hfz4_0, hfz4_1, hfz4_2, hfz4_3, hfz4_4, hfz4_5⟩ := bc6 BK135.out) | ((with_reducible refine gate_callee (f := 70) rfl ?_); refine goesL_ (some 4) rfl rfl Tryd.func70 (by kernel_rfl) rfl #[.agg #[.int .i64 a0_0, .int .i64 a0_1, .int .i64 a0_2, .int .i64 a0_3, .int .i64 a0_4, .int .i64 a0_5], .int .i64 0, .int .i64 32] rfl (by (try simp only [List.map_toArray, List.map_cons, List.map_nil]); first | done | rfl | (simp only [List.length_drop, List.length_take]; rfl)) ?_; (with_reducible refine (policy_number.calls a0_0 a0_1 a0_2 a0_3 a0_4 a0_5 0 32 t136 _ A2.out).mono ?_); rintro e w5 ⟨rfl, hb⟩; refine ⟨_, rfl, ?_⟩; have hy := bQ BK135.out (by with_reducible repeat first | apply bA | apply bN | apply bD | exact Below.refl _ _) hb; replace BK135 := Aside0.mk (blk_below BK135.out hy); replace HB := Aside0.mk (below_step HB.out hy); clear hy; (try clear hb); (try clear hb2); (try clear hk); (try clear hi)))
 go_ret
 exact ⟨by first | rfl | (simp <;> rfl) | (simp [*] <;> rfl), by with_reducible repeat first | exact HB.out | apply bA | apply bN | apply bD | refine bS ?_ GE135.out⟩

/-! ### policy_kinds_9: function 80 -/
def policy_kinds_9.f (a0_0 : Int) (a0_1 : Int) (a0_2 : Int) (a0_3 : Int) (a0_4 : Int) (a0_5 : Int) : Option (Bool) := (policy_number.f a0_0 a0_1 a0_2 a0_3 a0_4 a0_5 0 3).bind fun t140 => (some t140)
set_option maxHeartbeats 8000000 in
set_option maxRecDepth 100000 in
theorem policy_kinds_9.calls (a0_0 : Int) (a0_1 : Int) (a0_2 : Int) (a0_3 : Int) (a0_4 : Int) (a0_5 : Int) (r : Bool) (w : World) (h : policy_kinds_9.f a0_0 a0_1 a0_2 a0_3 a0_4 a0_5 = some r) :
  Calls Tryd.prog 80 #[.agg #[.int .i64 a0_0, .int .i64 a0_1, .int .i64 a0_2, .int .i64 a0_3, .int .i64 a0_4, .int .i64 a0_5]] w fun e w' => e = .returned (.bool r) ∧ Below w.heap.size w w' := by
 have hu95 := Tryd.underlying95
 have HB := Aside0.mk (Below.refl w.heap.size w)
 have H : ((policy_number.f a0_0 a0_1 a0_2 a0_3 a0_4 a0_5 0 3).bind fun t140 => (some t140)) = some r := h
 clear h
 replace H := Option.bind_eq_some_iff.mp H
 obtain ⟨t140, A20, H⟩ := H
 replace H : (some t140) = some r := H
 have A2 := Aside0.mk A20
 clear A20
 obtain rfl := Option.some.inj H
 go_enter Tryd.func80, Tryd.ntmps80
 go_wp2_with (first | ((with_reducible refine gate_dst (N := 1) rfl ?_); refine box_event ?hg (N := 1) ?hd (cs := #[.int .i64 a0_0, .int .i64 a0_1, .int .i64 a0_2, .int .i64 a0_3, .int .i64 a0_4, .int .i64 a0_5]) (t := 95) ?hr ?_; (case hd | hg => rfl); (case hr => first | (go_simp; done) | (go_simp; rfl)); intro gb139 hg w3 hbox hb; obtain ⟨hy, hz⟩ := bfst (by with_reducible repeat first | exact HB.out | apply bA | apply bN | apply bD) hb hg; replace HB := hy; have BK139 := Aside0.mk (hbox); have GE139 := hz; have GW139 := GE139; clear hy hz hb hbox hg; obtain ⟨hcz4_0, hcz4_1, hcz4_2, hcz4_3, hcz4_4, hcz4_5, hfz4_0, hfz4_1, hfz4_2, hfz4_3, hfz4_4, hfz4_5⟩ := bc6 BK139.out) | ((with_reducible refine gate_callee (f := 70) rfl ?_); refine goesL_ (some 4) rfl rfl Tryd.func70 (by kernel_rfl) rfl #[.agg #[.int .i64 a0_0, .int .i64 a0_1, .int .i64 a0_2, .int .i64 a0_3, .int .i64 a0_4, .int .i64 a0_5], .int .i64 0, .int .i64 3] rfl (by (try simp only [List.map_toArray, List.map_cons, List.map_nil]); first | done | rfl | (simp only [List.length_drop, List.length_take]; rfl)) ?_; (with_reducible refine (policy_number.calls a0_0 a0_1 a0_2 a0_3 a0_4 a0_5 0 3 t140 _ A2.out).mono ?_); rintro e w5 ⟨rfl, hb⟩; refine ⟨_, rfl, ?_⟩; have hy := bQ BK139.out (by with_reducible repeat first | apply bA | apply bN | apply bD | exact Below.refl _ _) hb; replace BK139 := Aside0.mk (blk_below BK139.out hy); replace HB := Aside0.mk (below_step HB.out hy); clear hy; (try clear hb); (try clear hb2); (try clear hk); (try clear hi)))
 go_ret
 exact ⟨by first | rfl | (simp <;> rfl) | (simp [*] <;> rfl), by with_reducible repeat first | exact HB.out | apply bA | apply bN | apply bD | refine bS ?_ GE139.out⟩

-- NOT PRINTED: function 68 (policy_kinds)

-- NOT PRINTED: function 65 (policy_find)

/-! ### policy_Sane: function 57 -/
section
attribute [local go_sem ↓] Go.wp_at_zero Go.wp_at_succ
abbrev fnv (n : Nat) : Value := .func (.func n) #[] #[]
abbrev kindsV : Array Value := #[.func (.func 69) #[] #[], .func (.func 71) #[] #[], .func (.func 72) #[] #[], .func (.func 73) #[] #[], .func (.func 75) #[] #[], .func (.func 76) #[] #[], .func (.func 78) #[] #[], .func (.func 79) #[] #[], .func (.func 80) #[] #[], .func (.func 81) #[] #[]]
abbrev rule6 (m a1 a2 a3 a4 a5 : Int) : Array Value := #[.int .i64 m, .int .i64 a1, .int .i64 a2, .int .i64 a3, .int .i64 a4, .int .i64 a5]
set_option maxHeartbeats 8000000 in
set_option maxRecDepth 100000 in
theorem kinds_calls (w : World) : Calls Tryd.prog 68 #[] w fun e w' => e = .returned (.agg kindsV) ∧ w' = w.alloc (.cells kindsV 116) := by
 go_enter Tryd.func68, Tryd.ntmps68
 go_wp2
 refine bodyPost_ret (results_cell_row rfl _ _ w.heap.size 116 kindsV (0, 0) _ rfl ?_ Tryd.underlying116 rfl (by kernel_rfl)) rfl ?_
 ·
  exact heap_alloc_new _ _
 ·
  exact ⟨rfl, rfl⟩
set_option maxHeartbeats 8000000 in
set_option maxRecDepth 100000 in
theorem find_in (w : World) (m a1 a2 a3 a4 a5 : Int) (f g : Nat) (h0 : decide (m < 0) = false) (h5 : decide (5 ≤ m) = false)
  (hix : ∀ w', (Instr.index 116 (.agg kindsV) (.int .i64 m)).run Tryd.prog w' = .ok (.agg #[fnv f, fnv g]) w') :
  Calls Tryd.prog 65 #[.agg (rule6 m a1 a2 a3 a4 a5)] w fun e w' => e = .returned (.tuple #[.agg #[fnv f, fnv g], .bool true]) ∧ w' = (((w.alloc (.cells (rule6 m a1 a2 a3 a4 a5) 95)).alloc (.cells #[fnv f, fnv g] 109)).alloc (.cells kindsV 116)).drew := by
 go_enter Tryd.func65, Tryd.ntmps65
 go_wp2
 go_region_held3 (fun w' => w'.cell? ⟨w.heap.size, 0, none⟩ = some (.int .i64 m)) (go_keep) ((go_at_call 68; refine (kinds_calls _).mono ?_; rintro e w' ⟨rfl, rfl⟩))
 go_wp2
 refine bodyPost_ret (results_ct rfl _ _ (w.heap.size + 1) 109 #[fnv f, fnv g] (0, 0) _ rfl ?_ Tryd.underlying109 rfl (by kernel_rfl)) rfl ?_
 ·
  exact blk_drew (blk_alloc (by simpa using heap_alloc_new (w.alloc _) _) _)
 ·
  exact ⟨rfl, rfl⟩
set_option maxHeartbeats 8000000 in
set_option maxRecDepth 100000 in
theorem find_out (w : World) (m a1 a2 a3 a4 a5 : Int) (h : m < 0 ∨ 5 ≤ m) :
  Calls Tryd.prog 65 #[.agg (rule6 m a1 a2 a3 a4 a5)] w fun e w' => e = .returned (.tuple #[.agg #[.nilFunc, .nilFunc], .bool false]) ∧ w' = ((w.alloc (.cells (rule6 m a1 a2 a3 a4 a5) 95)).alloc (.cells #[.nilFunc, .nilFunc] 109)) := by
 by_cases h0 : m < 0
 ·
  have h0' := decide_eq_true h0
  clear h h0
  go_enter Tryd.func65, Tryd.ntmps65
  go_wp2
  refine bodyPost_ret (results_ct rfl _ _ (w.heap.size + 1) 109 #[.nilFunc, .nilFunc] (0, 0) _ rfl ?_ Tryd.underlying109 rfl (by kernel_rfl)) rfl ?_
  ·
   simpa using heap_alloc_new (w.alloc _) _
  ·
   exact ⟨rfl, rfl⟩
 ·
  have h0' := decide_eq_false h0
  have h5 := decide_eq_true (show 5 ≤ m by omega)
  clear h h0
  go_enter Tryd.func65, Tryd.ntmps65
  go_wp2
  refine bodyPost_ret (results_ct rfl _ _ (w.heap.size + 1) 109 #[.nilFunc, .nilFunc] (0, 0) _ rfl ?_ Tryd.underlying109 rfl (by kernel_rfl)) rfl ?_
  ·
   simpa using heap_alloc_new (w.alloc _) _
  ·
   exact ⟨rfl, rfl⟩
def saneG (t : Bool) (m act nn : Int) (i : Bool) : Bool := t && !(i && m == 4) && (if act = 0 then nn == 0 else if act = 1 then !i && nn == 0 else if act = 2 then i && (decide (0 < nn) && decide (nn < 400)) else if act = 3 then !i && (decide (0 < nn) && decide (nn ≤ 8)) else false)
set_option maxHeartbeats 8000000 in
set_option maxRecDepth 100000 in
theorem Sane_walk (w : World) (m a1 a2 a3 a4 a5 : Int) (f g : Nat) (t i : Bool) (h0 : decide (m < 0) = false) (h5 : decide (5 ≤ m) = false)
  (hix : ∀ w', (Instr.index 116 (.agg kindsV) (.int .i64 m)).run Tryd.prog w' = .ok (.agg #[fnv f, fnv g]) w') 
  (he : ∀ (args : Array Value) (w : World), (callFunc f args).run Tryd.prog w = .ok (.enter f args) w)
  (hg : ∀ w', Below w.heap.size w w' → Calls Tryd.prog f #[.agg (rule6 m a1 a2 a3 a4 a5)] w' fun e w2 => e = .returned (.bool t) ∧ Below w'.heap.size w' w2) :
  Calls Tryd.prog 57 #[.agg (rule6 m a1 a2 a3 a4 a5), .bool i] w fun e w' => e = .returned (.bool (saneG t m a4 a5 i)) ∧ Below w.heap.size w w' := by
 cases t
 ·
  go_enter Tryd.func57, Tryd.ntmps57
  go_wp2_with (first | ((go_at_call 65; refine (find_in _ m a1 a2 a3 a4 a5 f g h0 h5 hix).mono ?_; rintro e w' ⟨rfl, rfl⟩)) | ((refine (hg _ (by repeat (first | exact Below.refl _ _ | refine below_alloc ?_ _ | refine below_drew1 ?_))).mono ?_; rintro e w' ⟨rfl, hb⟩)))
  go_ret
  exact ⟨by simp [saneG], below_step (by repeat (first | exact Below.refl _ _ | refine below_alloc ?_ _ | refine below_drew1 ?_)) hb⟩
 ·
  cases i
  ·
   by_cases hn : 0 < a5
   ·
    have hn1 := decide_eq_true hn
    clear hn
    go_enter Tryd.func57, Tryd.ntmps57
    go_wp2_with (first | ((go_at_call 65; refine (find_in _ m a1 a2 a3 a4 a5 f g h0 h5 hix).mono ?_; rintro e w' ⟨rfl, rfl⟩)) | ((refine (hg _ (by repeat (first | exact Below.refl _ _ | refine below_alloc ?_ _ | refine below_drew1 ?_))).mono ?_; rintro e w' ⟨rfl, hb⟩; have hq := blk_below (g := w.heap.size) (o := .cells (rule6 m a1 a2 a3 a4 a5) 95 (0, 0)) (by repeat (first | exact heap_alloc_new w _ | refine blk_drew ?_ | refine blk_alloc ?_ _)) hb; have hq0 : w'.cell? ⟨w.heap.size, 0, none⟩ = some (.int .i64 m) := (blk_cell hq 0).trans rfl; have hq4 : w'.cell? ⟨w.heap.size, 4, none⟩ = some (.int .i64 a4) := (blk_cell hq 4).trans rfl; have hq5 : w'.cell? ⟨w.heap.size, 5, none⟩ = some (.int .i64 a5) := (blk_cell hq 5).trans rfl)))
    all_goals go_ret
    all_goals (refine ⟨?_, below_step (by repeat (first | exact Below.refl _ _ | refine below_alloc ?_ _ | refine below_drew1 ?_)) hb⟩; clear hg hix he hb; simp_all [saneG] <;> (try (intros; omega)))
   ·
    have hn1 := decide_eq_false hn
    clear hn
    go_enter Tryd.func57, Tryd.ntmps57
    go_wp2_with (first | ((go_at_call 65; refine (find_in _ m a1 a2 a3 a4 a5 f g h0 h5 hix).mono ?_; rintro e w' ⟨rfl, rfl⟩)) | ((refine (hg _ (by repeat (first | exact Below.refl _ _ | refine below_alloc ?_ _ | refine below_drew1 ?_))).mono ?_; rintro e w' ⟨rfl, hb⟩; have hq := blk_below (g := w.heap.size) (o := .cells (rule6 m a1 a2 a3 a4 a5) 95 (0, 0)) (by repeat (first | exact heap_alloc_new w _ | refine blk_drew ?_ | refine blk_alloc ?_ _)) hb; have hq0 : w'.cell? ⟨w.heap.size, 0, none⟩ = some (.int .i64 m) := (blk_cell hq 0).trans rfl; have hq4 : w'.cell? ⟨w.heap.size, 4, none⟩ = some (.int .i64 a4) := (blk_cell hq 4).trans rfl; have hq5 : w'.cell? ⟨w.heap.size, 5, none⟩ = some (.int .i64 a5) := (blk_cell hq 5).trans rfl)))
    all_goals go_ret
    all_goals (refine ⟨?_, below_step (by repeat (first | exact Below.refl _ _ | refine below_alloc ?_ _ | refine below_drew1 ?_)) hb⟩; clear hg hix he hb; simp_all [saneG] <;> (try (intros; omega)))
  ·
   by_cases hn : 0 < a5
   ·
    have hn1 := decide_eq_true hn
    clear hn
    go_enter Tryd.func57, Tryd.ntmps57
    go_wp2_with (first | ((go_at_call 65; refine (find_in _ m a1 a2 a3 a4 a5 f g h0 h5 hix).mono ?_; rintro e w' ⟨rfl, rfl⟩)) | ((refine (hg _ (by repeat (first | exact Below.refl _ _ | refine below_alloc ?_ _ | refine below_drew1 ?_))).mono ?_; rintro e w' ⟨rfl, hb⟩; have hq := blk_below (g := w.heap.size) (o := .cells (rule6 m a1 a2 a3 a4 a5) 95 (0, 0)) (by repeat (first | exact heap_alloc_new w _ | refine blk_drew ?_ | refine blk_alloc ?_ _)) hb; have hq0 : w'.cell? ⟨w.heap.size, 0, none⟩ = some (.int .i64 m) := (blk_cell hq 0).trans rfl; have hq4 : w'.cell? ⟨w.heap.size, 4, none⟩ = some (.int .i64 a4) := (blk_cell hq 4).trans rfl; have hq5 : w'.cell? ⟨w.heap.size, 5, none⟩ = some (.int .i64 a5) := (blk_cell hq 5).trans rfl)))
    all_goals go_ret
    all_goals (refine ⟨?_, below_step (by repeat (first | exact Below.refl _ _ | refine below_alloc ?_ _ | refine below_drew1 ?_)) hb⟩; clear hg hix he hb; simp_all [saneG] <;> (try (intros; omega)))
   ·
    have hn1 := decide_eq_false hn
    clear hn
    go_enter Tryd.func57, Tryd.ntmps57
    go_wp2_with (first | ((go_at_call 65; refine (find_in _ m a1 a2 a3 a4 a5 f g h0 h5 hix).mono ?_; rintro e w' ⟨rfl, rfl⟩)) | ((refine (hg _ (by repeat (first | exact Below.refl _ _ | refine below_alloc ?_ _ | refine below_drew1 ?_))).mono ?_; rintro e w' ⟨rfl, hb⟩; have hq := blk_below (g := w.heap.size) (o := .cells (rule6 m a1 a2 a3 a4 a5) 95 (0, 0)) (by repeat (first | exact heap_alloc_new w _ | refine blk_drew ?_ | refine blk_alloc ?_ _)) hb; have hq0 : w'.cell? ⟨w.heap.size, 0, none⟩ = some (.int .i64 m) := (blk_cell hq 0).trans rfl; have hq4 : w'.cell? ⟨w.heap.size, 4, none⟩ = some (.int .i64 a4) := (blk_cell hq 4).trans rfl; have hq5 : w'.cell? ⟨w.heap.size, 5, none⟩ = some (.int .i64 a5) := (blk_cell hq 5).trans rfl)))
    all_goals go_ret
    all_goals (refine ⟨?_, below_step (by repeat (first | exact Below.refl _ _ | refine below_alloc ?_ _ | refine below_drew1 ?_)) hb⟩; clear hg hix he hb; simp_all [saneG] <;> (try (intros; omega)))
set_option maxHeartbeats 8000000 in
set_option maxRecDepth 100000 in
theorem Sane_out (w : World) (m a1 a2 a3 a4 a5 : Int) (i : Bool) (h : m < 0 ∨ 5 ≤ m) :
  Calls Tryd.prog 57 #[.agg (rule6 m a1 a2 a3 a4 a5), .bool i] w fun e w' => e = .returned (.bool false) ∧ Below w.heap.size w w' := by
 have H := Aside0.mk h
 clear h
 go_enter Tryd.func57, Tryd.ntmps57
 go_wp2_with (first | ((go_at_call 65; refine (find_out _ m a1 a2 a3 a4 a5 H.out).mono ?_; rintro e w' ⟨rfl, rfl⟩)))
 all_goals go_ret
 exact ⟨by simp, (by repeat (first | exact Below.refl _ _ | refine below_alloc ?_ _ | refine below_drew1 ?_))⟩
def policy_Sane.t (a0_0 : Int) (a0_1 : Int) (a0_2 : Int) (a0_3 : Int) (a0_4 : Int) (a0_5 : Int) : Option Bool := if a0_0 = 0 then policy_kinds_1.f a0_0 a0_1 a0_2 a0_3 a0_4 a0_5 else if a0_0 = 1 then policy_kinds_3.f a0_0 a0_1 a0_2 a0_3 a0_4 a0_5 else if a0_0 = 2 then policy_kinds_5.f a0_0 a0_1 a0_2 a0_3 a0_4 a0_5 else if a0_0 = 3 then policy_kinds_7.f a0_0 a0_1 a0_2 a0_3 a0_4 a0_5 else if a0_0 = 4 then policy_kinds_9.f a0_0 a0_1 a0_2 a0_3 a0_4 a0_5 else some false
def policy_Sane.f (a0_0 : Int) (a0_1 : Int) (a0_2 : Int) (a0_3 : Int) (a0_4 : Int) (a0_5 : Int) (a1 : Bool) : Option Bool := (policy_Sane.t a0_0 a0_1 a0_2 a0_3 a0_4 a0_5).bind fun t => some (saneG t a0_0 a0_4 a0_5 a1)
set_option maxHeartbeats 8000000 in
set_option maxRecDepth 100000 in
theorem policy_Sane.calls (a0_0 : Int) (a0_1 : Int) (a0_2 : Int) (a0_3 : Int) (a0_4 : Int) (a0_5 : Int) (a1 : Bool) (r : Bool) (w : World) (h : policy_Sane.f a0_0 a0_1 a0_2 a0_3 a0_4 a0_5 a1 = some r) :
  Calls Tryd.prog 57 #[.agg #[.int .i64 a0_0, .int .i64 a0_1, .int .i64 a0_2, .int .i64 a0_3, .int .i64 a0_4, .int .i64 a0_5], .bool a1] w fun e w' => e = .returned (.bool r) ∧ Below w.heap.size w w' := by
 unfold policy_Sane.f at h
 obtain ⟨t, ht, h⟩ := Option.bind_eq_some_iff.mp h
 obtain rfl := Option.some.inj h
 unfold policy_Sane.t at ht
 clear h
 by_cases c0 : a0_0 = 0
 ·
  subst c0
  rw [if_pos rfl] at ht
  exact Sane_walk w 0 a0_1 a0_2 a0_3 a0_4 a0_5 69 71 t a1 (by decide) (by decide) (fun _ => by kernel_rfl) (fun args w => enters_ Tryd.func69 (by kernel_rfl) rfl args w) (fun w' _ => policy_kinds_1.calls 0 a0_1 a0_2 a0_3 a0_4 a0_5 t w' ht)
 by_cases c1 : a0_0 = 1
 ·
  subst c1
  rw [if_neg (by decide), if_pos rfl] at ht
  exact Sane_walk w 1 a0_1 a0_2 a0_3 a0_4 a0_5 72 73 t a1 (by decide) (by decide) (fun _ => by kernel_rfl) (fun args w => enters_ Tryd.func72 (by kernel_rfl) rfl args w) (fun w' _ => policy_kinds_3.calls 1 a0_1 a0_2 a0_3 a0_4 a0_5 t w' ht)
 by_cases c2 : a0_0 = 2
 ·
  subst c2
  rw [if_neg (by decide), if_neg (by decide), if_pos rfl] at ht
  exact Sane_walk w 2 a0_1 a0_2 a0_3 a0_4 a0_5 75 76 t a1 (by decide) (by decide) (fun _ => by kernel_rfl) (fun args w => enters_ Tryd.func75 (by kernel_rfl) rfl args w) (fun w' _ => policy_kinds_5.calls 2 a0_1 a0_2 a0_3 a0_4 a0_5 t w' ht)
 by_cases c3 : a0_0 = 3
 ·
  subst c3
  rw [if_neg (by decide), if_neg (by decide), if_neg (by decide), if_pos rfl] at ht
  exact Sane_walk w 3 a0_1 a0_2 a0_3 a0_4 a0_5 78 79 t a1 (by decide) (by decide) (fun _ => by kernel_rfl) (fun args w => enters_ Tryd.func78 (by kernel_rfl) rfl args w) (fun w' _ => policy_kinds_7.calls 3 a0_1 a0_2 a0_3 a0_4 a0_5 t w' ht)
 by_cases c4 : a0_0 = 4
 ·
  subst c4
  rw [if_neg (by decide), if_neg (by decide), if_neg (by decide), if_neg (by decide), if_pos rfl] at ht
  exact Sane_walk w 4 a0_1 a0_2 a0_3 a0_4 a0_5 80 81 t a1 (by decide) (by decide) (fun _ => by kernel_rfl) (fun args w => enters_ Tryd.func80 (by kernel_rfl) rfl args w) (fun w' _ => policy_kinds_9.calls 4 a0_1 a0_2 a0_3 a0_4 a0_5 t w' ht)
 rw [if_neg c0, if_neg c1, if_neg c2, if_neg c3, if_neg c4] at ht
 obtain rfl := Option.some.inj ht
 have hf : saneG false a0_0 a0_4 a0_5 a1 = false := by simp [saneG]
 rw [hf]
 exact Sane_out w a0_0 a0_1 a0_2 a0_3 a0_4 a0_5 a1 (by omega)
end

-- NOT PRINTED: function 56 (conf_rules_1)

/-! ### conf_rules: function 42 -/
abbrev cR (x : S95) : Array Value := #[.int .i64 x.f0, .int .i64 x.f1.f0, .int .i64 x.f1.f1, .int .i64 x.f2, .int .i64 x.f3, .int .i64 x.f4]
theorem rdR (l : List S95) (i : Nat) (x : S95) (t : List S95) (h : l.drop i = x :: t) : rd_T95 l (i : Int) = x := by
 have h1 : l[i]? = some x := by
  have := congrArg List.head? h
  simpa [List.head?_drop] using this
 simp [rd_T95, h1]
set_option maxHeartbeats 8000000 in
set_option maxRecDepth 100000 in
theorem ridx_calls (p : S95 → Option Bool) (fn : Nat) (cap : Value) (I : World → Prop) (A : Option Addr) (c : Nat) (l : List S95) (r : Int) (w : World)
  (he : ∀ (args : Array Value) (w : World), (callFunc fn args).run Tryd.prog w = .ok (.enter fn args) w)
  (hr : Kd.C k95 w A l.length l) (hl : l.length < 1000000000000) (hI0 : I w)
  (hI : ∀ w' w'', I w' → Below w'.heap.size w' w'' → I w'')
  (hp : ∀ x b w', p x = some b → I w' → Calls Tryd.prog fn #[.agg (cR x), cap] w' fun e w'' => e = .returned (.bool b) ∧ Below w'.heap.size w' w'')
  (h : idxM p l 0 = some r) :
  Calls Tryd.prog 64 #[.slice A l.length c, .func (.func fn) #[] #[cap]] w fun e w' => e = .returned (.int .i64 r) ∧ Below w.heap.size w w' := by
 have HR := Aside0.mk hr
 have HL := Aside0.mk hl
 have HI := Aside0.mk hI0
 have HII := Aside0.mk hI
 have HP := Aside0.mk hp
 have H := Aside0.mk h
 clear hr hl hI0 hI hp h
 go_enter Tryd.func64, Tryd.ntmps64
 go_wp2
 go_loopg [8] l.length (fun kq v8 w' => ∃ i : Nat, v8 = .int .i64 (i : Int) ∧ Aside0 (i + kq = l.length) ∧ Aside0 (idxM p (l.drop i) (i : Int) = some r) ∧ Aside0 (I w') ∧ Aside0 (Below w.heap.size w w'))
 case atStart => exact ⟨0, rfl, ⟨by simp⟩, ⟨by simpa using H.out⟩, HI, ⟨Below.refl _ _⟩⟩
 case round =>
  clear H HI
  obtain ⟨i, rfl, H1, H2, H3, H4⟩ := hrel
  cases gk with
  | zero =>
   have hi : i = l.length := by have := H1.out; omega
   subst hi
   have hr : r = -1 := by have := H2.out; rw [List.drop_length] at this; simpa [idxM] using this.symm
   subst hr
   have c1 : decide ((l.length : Int) < (l.length : Int)) = false := by simp
   go_wp2
   go_ret
   exact ⟨rfl, H4.out⟩
  | succ k1 =>
   have hlt : i < l.length := by have := H1.out; omega
   have c1 : decide ((i : Int) < (l.length : Int)) = true := decide_eq_true (by omega)
   obtain ⟨x, t, hd⟩ : ∃ x t, l.drop i = x :: t := by
    cases hd : l.drop i with
    | nil => have := congrArg List.length hd; simp at this; omega
    | cons x t => exact ⟨x, t, rfl⟩
   have hx := rdR l i x t hd
   have hd1 : l.drop (i + 1) = t := by rw [← List.drop_drop, hd]; rfl
   have H5 := H2.out
   rw [hd] at H5
   simp only [idxM] at H5
   obtain ⟨b, hb, H6⟩ := Option.bind_eq_some_iff.mp H5
   have p1 : 0 ≤ (i : Int) := by omega
   have q1 : (i : Int) < (l.length : Int) := by omega
   have hat := at_T95 (Kd.C_below HR.out H4.out) (i : Int) p1 q1
   rw [hx] at hat
   obtain ⟨ad1, e1, x0, x1, x2, x3, x4, x5⟩ := hat
   cases e1
   clear hx H5 H2
   have HB := Aside0.mk hb
   have H7 := Aside0.mk H6
   have HD := Aside0.mk hd1
   clear hb H6 hd1 hd
   simp only [Int.toNat_natCast] at x0 x1 x2 x3 x4 x5
   have HW : Aside0 (wrap64 ((i : Int) + 1) = ((i + 1 : Nat) : Int)) := ⟨by have := HL.out; unfold wrap64; omega⟩
   cases b
   ·
    have H8 := Aside0.mk (show idxM p (l.drop (i + 1)) ((i : Int) + 1) = some r by have := H7.out; rw [if_neg (by decide)] at this; rw [HD.out]; exact this)
    clear H7
    go_wp2_with (first | ((refine (HP.out x false _ HB.out H3.out).mono ?_; rintro e w' ⟨rfl, hb⟩)))
    go_roundg k1
    case measure => omega
    case rel => exact ⟨i + 1, by rw [← HW.out], ⟨by have := H1.out; omega⟩, ⟨by rw [show ((i + 1 : Nat) : Int) = (i : Int) + 1 by omega]; exact H8.out⟩, ⟨HII.out _ _ H3.out hb⟩, ⟨below_step H4.out hb⟩⟩
   ·
    have H8 : (i : Int) = r := by have := H7.out; rw [if_pos rfl] at this; exact Option.some.inj this
    subst H8
    clear H7
    go_wp2_with (first | ((refine (HP.out x true _ HB.out H3.out).mono ?_; rintro e w' ⟨rfl, hb⟩)))
    go_ret
    exact ⟨rfl, below_step H4.out hb⟩
set_option maxHeartbeats 8000000 in
set_option maxRecDepth 100000 in
theorem rcont_calls (p : S95 → Option Bool) (fn : Nat) (cap : Value) (I : World → Prop) (A : Option Addr) (c : Nat) (l : List S95) (r : Int) (w : World)
  (he : ∀ (args : Array Value) (w : World), (callFunc fn args).run Tryd.prog w = .ok (.enter fn args) w)
  (hr : Kd.C k95 w A l.length l) (hl : l.length < 1000000000000) (hI0 : I w)
  (hI : ∀ w' w'', I w' → Below w'.heap.size w' w'' → I w'')
  (hp : ∀ x b w', p x = some b → I w' → Calls Tryd.prog fn #[.agg (cR x), cap] w' fun e w'' => e = .returned (.bool b) ∧ Below w'.heap.size w' w'')
  (h : idxM p l 0 = some r) :
  Calls Tryd.prog 55 #[.slice A l.length c, .func (.func fn) #[] #[cap]] w fun e w' => e = .returned (.bool (decide (r ≥ 0))) ∧ Below w.heap.size w w' := by
 have HC := Aside0.mk (ridx_calls p fn cap I A c l r w he hr hl hI0 hI hp h)
 clear he hr hl hI0 hI hp h
 go_enter Tryd.func55, Tryd.ntmps55
 go_wp2_with (first | ((go_at_call 64; refine HC.out.mono ?_; rintro e w' ⟨rfl, hb⟩)))
 go_ret
 exact ⟨rfl, hb⟩
set_option maxHeartbeats 8000000 in
set_option maxRecDepth 100000 in
theorem rule1_calls (x : S95) (b i : Bool) (bx : Nat) (w : World) (hbox : w.heap[bx]? = some (.cells #[.bool i] 4 (0, 0)))
  (h : policy_Sane.f x.f0 x.f1.f0 x.f1.f1 x.f2 x.f3 x.f4 i = some b) :
  Calls Tryd.prog 56 #[.agg (cR x), .pointer (some ⟨bx, 0, none⟩)] w fun e w' => e = .returned (.bool (!b)) ∧ Below w.heap.size w w' := by
 have H := Aside0.mk h
 have b0 : w.cell? ⟨bx, 0, none⟩ = some (.bool i) := (blk_cell hbox 0).trans rfl
 have hlt := blk_lt hbox
 clear h hbox
 go_enter Tryd.func56, Tryd.ntmps56
 go_wp2_with (first | ((go_at_call 57; refine (policy_Sane.calls _ _ _ _ _ _ i b _ H.out).mono ?_; rintro e w' ⟨rfl, hb⟩)))
 go_ret
 exact ⟨rfl, below_step (below_alloc (Below.refl _ _) _) hb⟩
theorem hmfR_ : ∀ (fn : Fn) (first cap : Array Value) (w : World), (Instr.makeFunc fn first cap).run Tryd.prog w = .ok (.func fn first cap) w := fun _ _ _ _ => rfl
def conf_rules.p (i : Bool) (x : S95) : Option Bool := (policy_Sane.f x.f0 x.f1.f0 x.f1.f1 x.f2 x.f3 x.f4 i).map (fun b => !b)
def conf_rules.f (l0 : List S95) (a1 : Bool) : Option Bool := if l0.length ≤ 8 then (idxM (conf_rules.p a1) l0 0).map fun i => !(decide (i ≥ 0)) else some false
set_option maxHeartbeats 8000000 in
set_option maxRecDepth 100000 in
theorem conf_rules.calls (A0 : Option Addr) (c0 : Nat) (l0 : List S95) (a1 : Bool) (r : Bool) (w : World) (hr0 : Kd.C k95 w A0 l0.length l0) (hc0 : l0.length ≤ c0) (h : conf_rules.f l0 a1 = some r) :
  Calls Tryd.prog 42 #[.slice A0 l0.length c0, .bool a1] w fun e w' => e = .returned (.bool r) ∧ Below w.heap.size w w' := by
 unfold conf_rules.f at h
 have hmf := hmfR_
 by_cases hl : l0.length ≤ 8
 ·
  rw [if_pos hl] at h
  obtain ⟨i, hi, h⟩ := Option.map_eq_some_iff.mp h
  subst h
  have d8 : decide ((l0.length : Int) ≤ 8) = true := decide_eq_true (by omega)
  have HC := Aside0.mk (rcont_calls (conf_rules.p a1) 56 (.pointer (some ⟨w.heap.size, 0, none⟩)) (fun W => W.heap[w.heap.size]? = some (.cells #[.bool a1] 4 (0, 0))) A0 c0 l0 i (w.alloc (.cells #[.bool a1] 4)) (fun args w => enters_ Tryd.func56 (by kernel_rfl) rfl args w) (Kd.C_below hr0 (below_alloc (Below.refl _ _) _)) (by omega) (heap_alloc_new w _) (fun w' w'' h1 h2 => blk_below h1 h2) (fun x b w' hb hI => by
   obtain ⟨b', hb', rfl⟩ := Option.map_eq_some_iff.mp hb
   exact rule1_calls x b' a1 w.heap.size w' hI hb') hi)
  clear hr0 hc0 hl hi
  go_enter Tryd.func42, Tryd.ntmps42
  go_wp2_with (first | ((go_at_call 55; refine HC.out.mono ?_; rintro e w' ⟨rfl, hb⟩)))
  go_ret
  exact ⟨rfl, below_step (below_alloc (Below.refl _ _) _) hb⟩
 ·
  rw [if_neg hl] at h
  obtain rfl := Option.some.inj h
  have d8 : decide ((l0.length : Int) ≤ 8) = false := decide_eq_false (by omega)
  clear hr0 hc0 hl h
  go_enter Tryd.func42, Tryd.ntmps42
  go_wp2
  go_ret
  exact ⟨rfl, below_alloc (Below.refl _ _) _⟩

/-! ### conf_side: function 24 -/
def conf_side.f (a0_0 : Int) (a0_1 : Int) (l0_2 : List (S95)) (l0_3 : List (S95)) : Option (Bool) := (conf_within.f a0_0).bind fun t144 => (if t144 = true then (if a0_1 ≥ 1 then (if a0_1 ≤ 3 then ((conf_rules.f l0_2 true).bind fun t145 => (if t145 = true then ((conf_rules.f l0_3 false).bind fun t146 => (some t146)) else (some false))) else (some false)) else (some false)) else (some false))
set_option maxHeartbeats 8000000 in
set_option maxRecDepth 100000 in
theorem conf_side.calls (a0_0 : Int) (a0_1 : Int) (A0_2 : Option Addr) (c0_2 : Nat) (l0_2 : List (S95)) (A0_3 : Option Addr) (c0_3 : Nat) (l0_3 : List (S95)) (r : Bool) (w : World) (hr0_2 : Kd.C k95 w A0_2 l0_2.length l0_2) (hc0_2 : l0_2.length ≤ c0_2) (hr0_3 : Kd.C k95 w A0_3 l0_3.length l0_3) (hc0_3 : l0_3.length ≤ c0_3) (h : conf_side.f a0_0 a0_1 l0_2 l0_3 = some r) :
  Calls Tryd.prog 24 #[.agg #[.int .i64 a0_0, .int .i64 a0_1, .slice A0_2 l0_2.length c0_2, .slice A0_3 l0_3.length c0_3]] w fun e w' => e = .returned (.bool r) ∧ Below w.heap.size w w' := by
 have hu31 := Tryd.underlying31
 have HR0_2 := Aside0.mk hr0_2
 have HC0_2 := Aside0.mk hc0_2
 clear hr0_2 hc0_2
 have HR0_3 := Aside0.mk hr0_3
 have HC0_3 := Aside0.mk hc0_3
 clear hr0_3 hc0_3
 have HB := Aside0.mk (Below.refl w.heap.size w)
 have H : ((conf_within.f a0_0).bind fun t144 => (if t144 = true then (if a0_1 ≥ 1 then (if a0_1 ≤ 3 then ((conf_rules.f l0_2 true).bind fun t145 => (if t145 = true then ((conf_rules.f l0_3 false).bind fun t146 => (some t146)) else (some false))) else (some false)) else (some false)) else (some false))) = some r := h
 clear h
 replace H := Option.bind_eq_some_iff.mp H
 obtain ⟨t144, A20, H⟩ := H
 replace H : (if t144 = true then (if a0_1 ≥ 1 then (if a0_1 ≤ 3 then ((conf_rules.f l0_2 true).bind fun t145 => (if t145 = true then ((conf_rules.f l0_3 false).bind fun t146 => (some t146)) else (some false))) else (some false)) else (some false)) else (some false)) = some r := H
 have A2 := Aside0.mk A20
 clear A20
 by_cases c3 : t144 = true
 ·
  subst c3
  have H1 : (if a0_1 ≥ 1 then (if a0_1 ≤ 3 then ((conf_rules.f l0_2 true).bind fun t145 => (if t145 = true then ((conf_rules.f l0_3 false).bind fun t146 => (some t146)) else (some false))) else (some false)) else (some false)) = some r := by rw [if_pos rfl] at H; first | done | exact H
  clear H
  have H := H1
  clear H1
  by_cases c4 : a0_1 ≥ 1
  ·
   rw [if_pos c4] at H
   have c4b0 : decide (1 ≤ a0_1) = true := decide_eq_true c4
   clear c4
   by_cases c5 : a0_1 ≤ 3
   ·
    rw [if_pos c5] at H
    have c5b0 : decide (a0_1 ≤ 3) = true := decide_eq_true c5
    clear c5
    replace H := Option.bind_eq_some_iff.mp H
    obtain ⟨t145, A60, H⟩ := H
    replace H : (if t145 = true then ((conf_rules.f l0_3 false).bind fun t146 => (some t146)) else (some false)) = some r := H
    have A6 := Aside0.mk A60
    clear A60
    by_cases c7 : t145 = true
    ·
     subst c7
     have H1 : ((conf_rules.f l0_3 false).bind fun t146 => (some t146)) = some r := by rw [if_pos rfl] at H; first | done | exact H
     clear H
     have H := H1
     clear H1
     replace H := Option.bind_eq_some_iff.mp H
     obtain ⟨t146, A80, H⟩ := H
     replace H : (some t146) = some r := H
     have A8 := Aside0.mk A80
     clear A80
     obtain rfl := Option.some.inj H
     go_enter Tryd.func24, Tryd.ntmps24
     go_wp2_with (first | ((with_reducible refine gate_dst (N := 1) rfl ?_); refine box_event ?hg (N := 1) ?hd (cs := #[.int .i64 a0_0, .int .i64 a0_1, .slice A0_2 l0_2.length c0_2, .slice A0_3 l0_3.length c0_3]) (t := 31) ?hr ?_; (case hd | hg => rfl); (case hr => first | (go_simp; done) | (go_simp; rfl)); intro gb143 hg w9 hbox hb; obtain ⟨hy, hz⟩ := bfst (by with_reducible repeat first | exact HB.out | apply bA | apply bN | apply bD) hb hg; replace HB := hy; have BK143 := Aside0.mk (hbox); have GE143 := hz; have GW143 := GE143; clear hy hz hb hbox hg; obtain ⟨hcz10_0, hcz10_1, hcz10_2, hcz10_3, hfz10_0, hfz10_1, hfz10_2, hfz10_3⟩ := bc4 BK143.out) | ((with_reducible refine gate_callee (f := 21) rfl ?_); refine goesL_ (some 5) rfl rfl Tryd.func21 (by kernel_rfl) rfl #[.int .i64 a0_0] rfl (by (try simp only [List.map_toArray, List.map_cons, List.map_nil]); first | done | rfl | (simp only [List.length_drop, List.length_take]; rfl)) ?_; (with_reducible refine (conf_within.calls a0_0 true _ A2.out).mono ?_); rintro e w' ⟨rfl, ⟨nd, rfl⟩⟩; refine ⟨_, rfl, ?_⟩) | (go_at_call 42; (with_reducible refine (conf_rules.calls _ _ l0_2 true true _ ?side1 ?side2 A6.out).mono ?_); (case side1 => repeat (first | exact (Kd.C_below HR0_2.out (by with_reducible repeat first | exact HB.out | apply bA | apply bN | apply bD | refine bS ?_ GE143.out)) | (with_reducible refine Kd.C_alloc ?_ _) | (with_reducible refine Kd.C_drewN ?_ _) | (with_reducible refine Kd.C_drew ?_))); (case side2 => exact HC0_2.out); rintro e w11 ⟨rfl, hb⟩; have hy := bQ BK143.out (by with_reducible repeat first | apply bA | apply bN | apply bD | exact Below.refl _ _) hb; replace BK143 := Aside0.mk (blk_below BK143.out hy); replace HB := Aside0.mk (below_step HB.out hy); clear hy; (try clear hb); (try clear hb2); (try clear hk); (try clear hi); obtain ⟨hcz12_0, hcz12_1, hcz12_2, hcz12_3, hfz12_0, hfz12_1, hfz12_2, hfz12_3⟩ := bc4 BK143.out) | (go_at_call 42; (with_reducible refine (conf_rules.calls _ _ l0_3 false t146 _ ?side1 ?side2 A8.out).mono ?_); (case side1 => repeat first | exact (Kd.C_below HR0_3.out HB.out) | with_reducible first | apply Kd.C_alloc | apply Kd.C_drewN | apply Kd.C_drew); (case side2 => exact HC0_3.out); rintro e w13 ⟨rfl, hb⟩; have hy := bQ BK143.out (by with_reducible repeat first | apply bA | apply bN | apply bD | exact Below.refl _ _) hb; replace BK143 := Aside0.mk (blk_below BK143.out hy); replace HB := Aside0.mk (below_step HB.out hy); clear hy; (try clear hb); (try clear hb2); (try clear hk); (try clear hi)))
     go_ret
     exact ⟨by first | rfl | (simp <;> rfl) | (simp [*] <;> rfl), by with_reducible repeat first | exact HB.out | apply bA | apply bN | apply bD | refine bS ?_ GE143.out⟩
    ·
     replace c7 := Bool.eq_false_iff.mpr c7
     subst c7
     have H1 : (some false) = some r := by rw [if_neg (show ¬ (false = true) by decide)] at H; first | done | exact H
     clear H
     have H := H1
     clear H1
     obtain rfl := Option.some.inj H
     go_enter Tryd.func24, Tryd.ntmps24
     go_wp2_with (first | ((with_reducible refine gate_dst (N := 1) rfl ?_); refine box_event ?hg (N := 1) ?hd (cs := #[.int .i64 a0_0, .int .i64 a0_1, .slice A0_2 l0_2.length c0_2, .slice A0_3 l0_3.length c0_3]) (t := 31) ?hr ?_; (case hd | hg => rfl); (case hr => first | (go_simp; done) | (go_simp; rfl)); intro gb143 hg w14 hbox hb; obtain ⟨hy, hz⟩ := bfst (by with_reducible repeat first | exact HB.out | apply bA | apply bN | apply bD) hb hg; replace HB := hy; have BK143 := Aside0.mk (hbox); have GE143 := hz; have GW143 := GE143; clear hy hz hb hbox hg; obtain ⟨hcz15_0, hcz15_1, hcz15_2, hcz15_3, hfz15_0, hfz15_1, hfz15_2, hfz15_3⟩ := bc4 BK143.out) | ((with_reducible refine gate_callee (f := 21) rfl ?_); refine goesL_ (some 5) rfl rfl Tryd.func21 (by kernel_rfl) rfl #[.int .i64 a0_0] rfl (by (try simp only [List.map_toArray, List.map_cons, List.map_nil]); first | done | rfl | (simp only [List.length_drop, List.length_take]; rfl)) ?_; (with_reducible refine (conf_within.calls a0_0 true _ A2.out).mono ?_); rintro e w' ⟨rfl, ⟨nd, rfl⟩⟩; refine ⟨_, rfl, ?_⟩) | (go_at_call 42; (with_reducible refine (conf_rules.calls _ _ l0_2 true false _ ?side1 ?side2 A6.out).mono ?_); (case side1 => repeat (first | exact (Kd.C_below HR0_2.out (by with_reducible repeat first | exact HB.out | apply bA | apply bN | apply bD | refine bS ?_ GE143.out)) | (with_reducible refine Kd.C_alloc ?_ _) | (with_reducible refine Kd.C_drewN ?_ _) | (with_reducible refine Kd.C_drew ?_))); (case side2 => exact HC0_2.out); rintro e w16 ⟨rfl, hb⟩; have hy := bQ BK143.out (by with_reducible repeat first | apply bA | apply bN | apply bD | exact Below.refl _ _) hb; replace BK143 := Aside0.mk (blk_below BK143.out hy); replace HB := Aside0.mk (below_step HB.out hy); clear hy; (try clear hb); (try clear hb2); (try clear hk); (try clear hi)))
     go_ret
     exact ⟨by first | rfl | (simp <;> rfl) | (simp [*] <;> rfl), by with_reducible repeat first | exact HB.out | apply bA | apply bN | apply bD | refine bS ?_ GE143.out⟩
   ·
    rw [if_neg c5] at H
    have c5b0 : decide (a0_1 ≤ 3) = false := decide_eq_false c5
    clear c5
    obtain rfl := Option.some.inj H
    go_enter Tryd.func24, Tryd.ntmps24
    go_wp2_with (first | ((with_reducible refine gate_dst (N := 1) rfl ?_); refine box_event ?hg (N := 1) ?hd (cs := #[.int .i64 a0_0, .int .i64 a0_1, .slice A0_2 l0_2.length c0_2, .slice A0_3 l0_3.length c0_3]) (t := 31) ?hr ?_; (case hd | hg => rfl); (case hr => first | (go_simp; done) | (go_simp; rfl)); intro gb143 hg w17 hbox hb; obtain ⟨hy, hz⟩ := bfst (by with_reducible repeat first | exact HB.out | apply bA | apply bN | apply bD) hb hg; replace HB := hy; have BK143 := Aside0.mk (hbox); have GE143 := hz; have GW143 := GE143; clear hy hz hb hbox hg; obtain ⟨hcz18_0, hcz18_1, hcz18_2, hcz18_3, hfz18_0, hfz18_1, hfz18_2, hfz18_3⟩ := bc4 BK143.out) | ((with_reducible refine gate_callee (f := 21) rfl ?_); refine goesL_ (some 5) rfl rfl Tryd.func21 (by kernel_rfl) rfl #[.int .i64 a0_0] rfl (by (try simp only [List.map_toArray, List.map_cons, List.map_nil]); first | done | rfl | (simp only [List.length_drop, List.length_take]; rfl)) ?_; (with_reducible refine (conf_within.calls a0_0 true _ A2.out).mono ?_); rintro e w' ⟨rfl, ⟨nd, rfl⟩⟩; refine ⟨_, rfl, ?_⟩))
    go_ret
    exact ⟨by first | rfl | (simp <;> rfl) | (simp [*] <;> rfl), by with_reducible repeat first | exact HB.out | apply bA | apply bN | apply bD | refine bS ?_ GE143.out⟩
  ·
   rw [if_neg c4] at H
   have c4b0 : decide (1 ≤ a0_1) = false := decide_eq_false c4
   clear c4
   obtain rfl := Option.some.inj H
   go_enter Tryd.func24, Tryd.ntmps24
   go_wp2_with (first | ((with_reducible refine gate_dst (N := 1) rfl ?_); refine box_event ?hg (N := 1) ?hd (cs := #[.int .i64 a0_0, .int .i64 a0_1, .slice A0_2 l0_2.length c0_2, .slice A0_3 l0_3.length c0_3]) (t := 31) ?hr ?_; (case hd | hg => rfl); (case hr => first | (go_simp; done) | (go_simp; rfl)); intro gb143 hg w19 hbox hb; obtain ⟨hy, hz⟩ := bfst (by with_reducible repeat first | exact HB.out | apply bA | apply bN | apply bD) hb hg; replace HB := hy; have BK143 := Aside0.mk (hbox); have GE143 := hz; have GW143 := GE143; clear hy hz hb hbox hg; obtain ⟨hcz20_0, hcz20_1, hcz20_2, hcz20_3, hfz20_0, hfz20_1, hfz20_2, hfz20_3⟩ := bc4 BK143.out) | ((with_reducible refine gate_callee (f := 21) rfl ?_); refine goesL_ (some 5) rfl rfl Tryd.func21 (by kernel_rfl) rfl #[.int .i64 a0_0] rfl (by (try simp only [List.map_toArray, List.map_cons, List.map_nil]); first | done | rfl | (simp only [List.length_drop, List.length_take]; rfl)) ?_; (with_reducible refine (conf_within.calls a0_0 true _ A2.out).mono ?_); rintro e w' ⟨rfl, ⟨nd, rfl⟩⟩; refine ⟨_, rfl, ?_⟩))
   go_ret
   exact ⟨by first | rfl | (simp <;> rfl) | (simp [*] <;> rfl), by with_reducible repeat first | exact HB.out | apply bA | apply bN | apply bD | refine bS ?_ GE143.out⟩
 ·
  replace c3 := Bool.eq_false_iff.mpr c3
  subst c3
  have H1 : (some false) = some r := by rw [if_neg (show ¬ (false = true) by decide)] at H; first | done | exact H
  clear H
  have H := H1
  clear H1
  obtain rfl := Option.some.inj H
  go_enter Tryd.func24, Tryd.ntmps24
  go_wp2_with (first | ((with_reducible refine gate_dst (N := 1) rfl ?_); refine box_event ?hg (N := 1) ?hd (cs := #[.int .i64 a0_0, .int .i64 a0_1, .slice A0_2 l0_2.length c0_2, .slice A0_3 l0_3.length c0_3]) (t := 31) ?hr ?_; (case hd | hg => rfl); (case hr => first | (go_simp; done) | (go_simp; rfl)); intro gb143 hg w21 hbox hb; obtain ⟨hy, hz⟩ := bfst (by with_reducible repeat first | exact HB.out | apply bA | apply bN | apply bD) hb hg; replace HB := hy; have BK143 := Aside0.mk (hbox); have GE143 := hz; have GW143 := GE143; clear hy hz hb hbox hg; obtain ⟨hcz22_0, hcz22_1, hcz22_2, hcz22_3, hfz22_0, hfz22_1, hfz22_2, hfz22_3⟩ := bc4 BK143.out) | ((with_reducible refine gate_callee (f := 21) rfl ?_); refine goesL_ (some 5) rfl rfl Tryd.func21 (by kernel_rfl) rfl #[.int .i64 a0_0] rfl (by (try simp only [List.map_toArray, List.map_cons, List.map_nil]); first | done | rfl | (simp only [List.length_drop, List.length_take]; rfl)) ?_; (with_reducible refine (conf_within.calls a0_0 false _ A2.out).mono ?_); rintro e w' ⟨rfl, ⟨nd, rfl⟩⟩; refine ⟨_, rfl, ?_⟩))
  go_ret
  exact ⟨by first | rfl | (simp <;> rfl) | (simp [*] <;> rfl), by with_reducible repeat first | exact HB.out | apply bA | apply bN | apply bD | refine bS ?_ GE143.out⟩

end Go.Proofs.YtfbndolhocojiaaDoor.K
