/- Each call of a Go function comes to what the Lean function of its name answers (written out by wip/tools/xprint.py, checked by Lean); conditions: those in each statement. -/
import Derived.Test.YtclddmjfgceemaaQx0
import Derived.Test.YtclddmjfgceemaaQx5
namespace Go.Proofs.Ytclddmjfgceemaa.Q
open Go.RowKit Go.Proofs.YtclddmjfgceemaaW.PrintWords Go.Proofs.YtclddmjfgceemaaW.PrintLast Go.Proofs.YtclddmjfgceemaaW.PrintMore Go.Proofs.YtclddmjfgceemaaW.PrintX
attribute [local go_sem] max2_int min2_int max_two min_two max_three min_three max_four min_four   -- for this text's walks alone
set_option linter.unusedVariables false
set_option linter.unusedSimpArgs false

/-! ### policy_Reach: function 18 -/
set_option maxHeartbeats 8000000 in
set_option maxRecDepth 100000 in
theorem del_calls (q : S31 → Bool) (fn : Nat) (cap : Value) (I : World → Prop) (v : Value) (l : List S31) (w0 w : World) (ok : Nat → Prop)
  (he : ∀ (args : Array Value) (w : World), (callFunc fn args).run Try.prog w = .ok (.enter fn args) w)
  (hB : Below w0.heap.size w0 w) (hr : k31.R 31 w w0.heap.size ok v l) (hl : l.length < 1000000000000) (hI0 : I w)
  (hI : ∀ w' w'', I w' → Below w'.heap.size w' w'' → I w'')
  (hIs : ∀ w' g o vs, v.ownBlock = some g → I w' → I (w'.setCells g o vs))
  (hp : ∀ x w', I w' → Calls Try.prog fn #[.agg (c31 x), cap] w' fun e w'' => e = .returned (.bool (q x)) ∧ Below w'.heap.size w' w'') :
  Calls Try.prog 27 #[v, .func (.func fn) #[] #[cap]] w fun e w' => ∃ v', e = .returned v' ∧ k31.R 31 w' w0.heap.size ok v' (l.filter (fun x => !q x)) ∧ Below w0.heap.size w0 w' := by
 have hidx := idx_filter q l 0
 obtain ⟨A, c, rfl, hlc, hC⟩ := Kd.R_reads hr
 rcases hidx with ⟨h1, h2, _⟩ | ⟨i0, hi0, h1, h2, h3⟩
 ·
  rw [h2]
  have HI := Aside0.mk hI
  have HP := Aside0.mk hp
  have HR := Aside0.mk hr
  have HC := Aside0.mk hC
  have HL := Aside0.mk hl
  have H0 := Aside0.mk hI0
  have H1 := Aside0.mk h1
  have HB := Aside0.mk hB
  clear hI hp hr hC hl hI0 h1 hB h2 hIs
  go_enter Try.func27, Try.ntmps27
  go_wp2_with (first | ((go_at_call 24; refine (idx_calls (fun x => some (q x)) fn cap I A c l (-1) _ he HC.out HL.out H0.out HI.out (fun x b w' hb hw => by injection hb with hb; subst hb; exact HP.out x w' hw) H1.out).mono ?_; rintro e w' ⟨rfl, hi, hb⟩)))
  go_ret
  exact ⟨_, rfl, Kd.R_below HR.out hb, below_step HB.out hb⟩
 ·
  obtain ⟨g, cc, hv, hbg, hgs, cells, hcells⟩ := Kd.R_form hr (by omega)
  injection hv with hA hn hcc
  subst hA
  subst hcc
  rw [Int.zero_add] at h1
  have HI := Aside0.mk hI
  have HP := Aside0.mk hp
  have HR := Aside0.mk hr
  have HC := Aside0.mk hC
  have HL := Aside0.mk hl
  have H0 := Aside0.mk hI0
  have H1 := Aside0.mk h1
  have HB := Aside0.mk hB
  have H2 := Aside0.mk h2
  have H3 := Aside0.mk h3
  have HIs := Aside0.mk hIs
  clear hI hp hr hC hl hI0 h1 hB h2 h3 hIs hcells
  have hne : ((i0 : Int) == -1) = false := by simp
  go_enter Try.func27, Try.ntmps27
  go_wp2_with (first | ((go_at_call 24; refine (idx_calls (fun x => some (q x)) fn cap I _ c l (i0 : Int) _ he HC.out HL.out H0.out HI.out (fun x b w' hb hw => by injection hb with hb; subst hb; exact HP.out x w' hw) H1.out).mono ?_; rintro e w' ⟨rfl, hi, hb⟩)))
  have HW0 : Aside0 (wrap64 ((i0 : Int) + 1) = ((i0 + 1 : Nat) : Int)) := ⟨by have := HL.out; unfold wrap64; omega⟩
  go_loopg [5, 6] l.length (fun kq v5 v6 w2 => ∃ (i j : Nat) (ys : List S31), v5 = .int .i64 (i : Int) ∧ v6 = .int .i64 (j : Int) ∧ Aside0 (i < j ∧ j ≤ l.length ∧ l.length - j ≤ kq) ∧ Aside0 (ys.length = l.length) ∧
   Aside0 (ys.take i = (l.take j).filter (fun x => !q x)) ∧ Aside0 (ys.drop j = l.drop j) ∧ Aside0 (k31.R 31 w2 w0.heap.size ok (.slice (some ⟨g, 0, none⟩) l.length c) ys) ∧ Aside0 (I w2) ∧ Aside0 (Below w0.heap.size w0 w2))
  case atStart => exact ⟨i0, i0 + 1, l, rfl, by rw [← HW0.out], ⟨⟨by omega, by omega, by omega⟩⟩, ⟨rfl⟩, ⟨H3.out.symm⟩, ⟨rfl⟩, ⟨Kd.R_below HR.out hb⟩, ⟨hi⟩, ⟨below_step HB.out hb⟩⟩
  case round =>
   clear hi hb HW0 HR HC H0 HB H1 H2 H3 hgs
   obtain ⟨i, j, ys, rfl, rfl, J1, J2, J3, J4, J5, J6, J7⟩ := hrel
   have hlt := J1.out
   by_cases hj : j < l.length
   ·
    have c1 : decide ((j : Int) < (l.length : Int)) = true := decide_eq_true (by omega)
    have hlen := J2.out
    have hys : j < ys.length := by omega
    have hiy : i < ys.length := by omega
    obtain ⟨x, t, hd⟩ : ∃ x t, ys.drop j = x :: t := by
     cases hd : ys.drop j with
     | nil => have := congrArg List.length hd; simp at this; omega
     | cons x t => exact ⟨x, t, rfl⟩
    have hx := rd31 ys j x t hd
    have hdl : l.drop j = x :: t := by rw [← J4.out]; exact hd
    have hCw := (Kd.R_reads' J5.out).2.2
    have p1 : 0 ≤ (j : Int) := by omega
    have q1 : (j : Int) < (ys.length : Int) := by omega
    have q2 : (j : Int) < (l.length : Int) := by omega
    have hat := at_T31 hCw (j : Int) p1 q1
    rw [hx] at hat
    obtain ⟨ad1, e1, x0, x1, x2, x3, x4, x5⟩ := hat
    cases e1
    clear hx hCw
    simp only [Int.toNat_natCast] at x0 x1 x2 x3 x4 x5
    have ha : (⟨g, 0, none⟩ : Addr).add (j * 6) = ⟨g, j * 6, none⟩ := by rw [add_at, Nat.zero_add]
    simp only [ha] at x0 x1 x2 x3 x4 x5
    have HW : Aside0 (wrap64 ((j : Int) + 1) = ((j + 1 : Nat) : Int)) := ⟨by have := HL.out; unfold wrap64; omega⟩
    have HX := Aside0.mk hd
    have HXL := Aside0.mk hdl
    clear hd hdl
    obtain ⟨cc, hcc⟩ := blk_of_R J5.out
    have hgr : g < wr.heap.size := blk_lt hcc.1
    have HCC := Aside0.mk hcc
    clear hcc
    have p2 : 0 ≤ (i : Int) := by omega
    have q3 : (i : Int) < (l.length : Int) := by omega
    have hb0 : i * 6 + 5 < c * 6 := by omega
    have HWI : Aside0 (wrap64 ((i : Int) + 1) = ((i + 1 : Nat) : Int)) := ⟨by have := HL.out; unfold wrap64; omega⟩
    have hsz6 : (Try.prog.info? 31).map (·.size) = some 6 := by kernel_rfl
    have HT := Aside0.mk (fun (w2 : World) (hu : w2.heap[g]? = some (.cells cc 31 (0, 0))) => (fun k hk => there_blk hu (i * 6) 6 (by have := HCC.out.2.1; have h6 : k31.sz = 6 := rfl; rw [h6] at this; omega) k hk : w2.there g (i * 6) 6))
    cases hq : q x
    ·
     go_wp2_with (first | ((refine (HP.out x _ (HI.out _ _ J6.out (below_alloc (Below.refl _ _) _))).mono ?_; rintro e w2 ⟨rfl, hb⟩; rw [hq]; have hv := blk_below (g := wr.heap.size) (o := .cells (c31 x) 31 (0, 0)) (heap_alloc_new wr _) hb; have hv0 : w2.cell? ⟨wr.heap.size, 0, none⟩ = some (.int .i64 x.f0) := (blk_cell hv 0).trans rfl; have hv1 : w2.cell? ⟨wr.heap.size, 1, none⟩ = some (.int .i64 x.f1.f0) := (blk_cell hv 1).trans rfl; have hv2 : w2.cell? ⟨wr.heap.size, 2, none⟩ = some (.int .i64 x.f1.f1) := (blk_cell hv 2).trans rfl; have hv3 : w2.cell? ⟨wr.heap.size, 3, none⟩ = some (.int .i64 x.f2) := (blk_cell hv 3).trans rfl; have hv4 : w2.cell? ⟨wr.heap.size, 4, none⟩ = some (.int .i64 x.f3) := (blk_cell hv 4).trans rfl; have hv5 : w2.cell? ⟨wr.heap.size, 5, none⟩ = some (.int .i64 x.f4) := (blk_cell hv 5).trans rfl; clear hv)) | ((with_reducible refine gate_store (t := 31) (p := 33) rfl ?_); (refine wpList_store_mid rfl 31 (.tmp 33) (.tmp 32) rfl g (i * 6) (c31 x) (by rfl) (by rfl) (HT.out _ (blk_below (blk_alloc HCC.out.1 (.cells (c31 x) 31)) hb)) hsz6 (all31 x) ?_)))
     go_roundg (gk - 1)
     case measure => omega
     case rel =>
      refine ⟨i + 1, j + 1, ys.set i x, by rw [← HWI.out], by rw [← HW.out], ⟨⟨by omega, by omega, by omega⟩⟩, ⟨by rw [List.length_set]; exact J2.out⟩, ⟨?_⟩, ⟨?_⟩, ⟨R_write (Kd.R_below (Kd.R_alloc J5.out _) hb) hiy x (c31 x).toList rfl (fun w ok => k31_mkM w _ ok x)⟩, ⟨HIs.out _ g _ _ rfl (HI.out _ _ (HI.out _ _ J6.out (below_alloc (Below.refl _ _) _)) hb)⟩, ⟨below_setCells hbg _ _ (below_step (below_alloc J7.out _) hb)⟩⟩
      ·
       rw [take_set_snoc _ _ _ hiy, take_snoc HXL.out, List.filter_append, J3.out]; simp [hq]
      ·
       rw [List.drop_set_of_lt (by omega), drop_one HX.out, drop_one HXL.out]
    ·
     go_wp2_with (first | ((refine (HP.out x _ (HI.out _ _ J6.out (below_alloc (Below.refl _ _) _))).mono ?_; rintro e w2 ⟨rfl, hb⟩; rw [hq])))
     go_roundg (gk - 1)
     case measure => omega
     case rel =>
      refine ⟨i, j + 1, ys, rfl, by rw [← HW.out], ⟨⟨by omega, by omega, by omega⟩⟩, J2, ⟨?_⟩, ⟨?_⟩, ⟨Kd.R_below (Kd.R_alloc J5.out _) hb⟩, ⟨HI.out _ _ (HI.out _ _ J6.out (below_alloc (Below.refl _ _) _)) hb⟩, ⟨below_step (below_alloc J7.out _) hb⟩⟩
      ·
       rw [take_snoc HXL.out, List.filter_append, J3.out]; simp [hq]
      ·
       rw [drop_one HX.out, drop_one HXL.out]
   ·
    have c1 : decide ((j : Int) < (l.length : Int)) = false := decide_eq_false (by omega)
    have hjl : j = l.length := by omega
    have p2 : 0 ≤ (i : Int) := by omega
    have q3 : (i : Int) < (l.length : Int) := by omega
    have q4 : (i : Int) ≤ (l.length : Int) := by omega
    have q5 : (i : Int) ≤ (c : Int) := by omega
    obtain ⟨cc, hc1, hc2, hc3⟩ := blk_of_R J5.out
    have h6 : k31.sz = 6 := rfl
    rw [h6] at hc2
    obtain ⟨vs, hvs, hcl⟩ : ∃ vs : List Value, vs.length = (l.length - i) * 6 ∧ ∀ ty, (Builtin.clear_ #[22] ty #[.slice (some ⟨g, i * 6, none⟩) (l.length - i) (c - i)]).run Try.prog wr = .ok (.tuple #[]) (wr.setCells g (i * 6) vs) := by
     have hz : ∀ w, (zeroValue 31).run Try.prog w = .ok (.agg (c31 z31)) w := fun _ => by kernel_rfl
     obtain ⟨vs, h1, h2⟩ := run_clear_cells (P := Try.prog) wr 22 31 0 (.agg (c31 z31)) Try.underlying22 hz (by simp [Value.cells, Value.oneCell', c31]) (by simp [Value.cells, c31]) g (i * 6) (l.length - i) (c - i) (by omega) (fun k hk => (there_blk hc1 (i * 6) ((l.length - i) * 6) (by omega) k hk).1) (fun k hk => (there_blk hc1 (i * 6) ((l.length - i) * 6) (by omega) k hk).2)
     exact ⟨vs, h1, fun ty => h2⟩
    have HC1 := Aside0.mk hc1
    clear hc1
    go_wp2
    go_ret
    refine ⟨_, rfl, ?_, below_setCells hbg _ _ J7.out⟩
    have hfin : l.filter (fun x => !q x) = ys.take i := by rw [J3.out, hjl, List.take_length]
    rw [hfin]
    have hR := Kd.R_take J5.out (m := i) (by have := J2.out; omega)
    exact R_tail hR vs (by rw [h6]; exact Nat.le_refl _) (by rw [h6, hvs]; omega)
theorem box1 (w : World) (bx : Nat) (a : Int) (h : w.heap[bx]? = some (.cells #[.int .i64 a] 3 (0, 0))) : w.cell? ⟨bx, 0, none⟩ = some (.int .i64 a) := (blk_cell h 0).trans rfl
def policy_Reach.I (g : Nat) (a : Int) : World → Prop := fun w' => w'.heap[g]? = some (.cells #[.int .i64 a] 3 (0, 0))
def policy_Reach.q1 (a : Int) (x : S31) : Bool := x.f0 == 0 || (x.f0 == 4 && x.f2 == a)
def policy_Reach.q2 (a : Int) (x : S31) : Bool := x.f0 == 4 && x.f2 != a
theorem policy_Reach.q1_f (a : Int) (x : S31) : policy_Total.f x.f0 x.f1.f0 x.f1.f1 x.f2 x.f3 x.f4 a = some (policy_Reach.q1 a x) := by
 unfold policy_Total.f policy_Reach.q1
 by_cases h0 : x.f0 = 0
 ·
  simp [h0]
 ·
  by_cases h4 : x.f0 = 4
  ·
   simp [h4]
  ·
   simp [h0, h4]
set_option maxHeartbeats 8000000 in
set_option maxRecDepth 100000 in
theorem reach1_calls (x : S31) (a : Int) (bx : Nat) (w : World) (hbox : w.heap[bx]? = some (.cells #[.int .i64 a] 3 (0, 0))) :
  Calls Try.prog 26 #[.agg (c31 x), .pointer (some ⟨bx, 0, none⟩)] w fun e w' => e = .returned (.bool (policy_Reach.q1 a x)) ∧ Below w.heap.size w w' := by
 have hlt := blk_lt hbox
 have b0 := box1 w bx a hbox
 clear hbox
 go_enter Try.func26, Try.ntmps26
 go_wp2_with (first | ((go_at_call 13; refine (policy_Total.calls _ _ _ _ _ _ _ (policy_Reach.q1 a x) _ (policy_Reach.q1_f a x)).mono ?_; rintro e w' ⟨rfl, hb⟩)))
 go_ret
 exact ⟨rfl, below_step (below_alloc (Below.refl _ _) _) hb⟩
set_option maxHeartbeats 8000000 in
set_option maxRecDepth 100000 in
theorem reach2_calls (x : S31) (a : Int) (bx : Nat) (w : World) (hbox : w.heap[bx]? = some (.cells #[.int .i64 a] 3 (0, 0))) :
  Calls Try.prog 29 #[.agg (c31 x), .pointer (some ⟨bx, 0, none⟩)] w fun e w' => e = .returned (.bool (policy_Reach.q2 a x)) ∧ Below w.heap.size w w' := by
 have hlt := blk_lt hbox
 have b0 := box1 w bx a hbox
 clear hbox
 unfold policy_Reach.q2
 by_cases h4 : x.f0 = 4
 ·
  have c4 : (x.f0 == 4) = true := by simp [h4]
  clear h4
  go_enter Try.func29, Try.ntmps29
  go_wp2
  go_ret
  exact ⟨by simp [c4], below_alloc (Below.refl _ _) _⟩
 ·
  have c4 : (x.f0 == 4) = false := by simp [h4]
  clear h4
  go_enter Try.func29, Try.ntmps29
  go_wp2
  go_ret
  exact ⟨by simp [c4], below_alloc (Below.refl _ _) _⟩
def policy_Reach.cut (a : Int) (l : List S31) : List S31 := match idxM (fun x => some (policy_Reach.q1 a x)) l 0 with
 | some i => if 0 ≤ i then l.take (i + 1).toNat else l
 | none => l
def policy_Reach.f (l0 : List S31) (a1 : Int) : Option (List S31) := if l0.length < 1000000000000 then some ((policy_Reach.cut a1 l0).filter (fun x => !policy_Reach.q2 a1 x)) else none
theorem idxM_some {α : Type} (q : α → Bool) : ∀ (l : List α) (i : Int), ∃ r, idxM (fun x => some (q x)) l i = some r
 | [], _ => ⟨_, rfl⟩
 | x :: t, i => by
  cases hq : q x
  ·
   obtain ⟨r, hr⟩ := idxM_some q t (i + 1)
   exact ⟨r, by simp [idxM, hq, hr]⟩
  ·
   exact ⟨i, by simp [idxM, hq]⟩
set_option maxHeartbeats 8000000 in
set_option maxRecDepth 100000 in
theorem policy_Reach.calls (A0 : Option Addr) (c0 : Nat) (l0 : List S31) (a1 : Int) (r : List S31) (w : World) (hr0 : Kd.C k31 w A0 l0.length l0) (hc0 : l0.length ≤ c0) (h : policy_Reach.f l0 a1 = some r) :
  Calls Try.prog 18 #[.slice A0 l0.length c0, .int .i64 a1] w fun e w' => ∃ v0_ : Value, e = .returned (v0_) ∧ Kd.R k31 31 w' w.heap.size (fun _ => True) v0_ r ∧ Below w.heap.size w w' := by
 unfold policy_Reach.f at h
 by_cases hl : l0.length < 1000000000000
 case neg => rw [if_neg hl] at h; cases h
 rw [if_pos hl] at h
 obtain rfl := Option.some.inj h
 clear h
 obtain ⟨i, hi⟩ := idxM_some (policy_Reach.q1 a1) l0 0
 have hcut : policy_Reach.cut a1 l0 = if 0 ≤ i then l0.take (i + 1).toNat else l0 := by unfold policy_Reach.cut; rw [hi]
 have hrange := idxM_range _ _ _ _ hi
 have hmf := hmf_
 have he : ∀ (args : Array Value) (w : World), (callFunc 26 args).run Try.prog w = .ok (.enter 26 args) w := fun args w => enters_ Try.func26 (by kernel_rfl) rfl args w
 have he9 : ∀ (args : Array Value) (w : World), (callFunc 29 args).run Try.prog w = .ok (.enter 29 args) w := fun args w => enters_ Try.func29 (by kernel_rfl) rfl args w
 obtain ⟨I, hIdef⟩ : ∃ I : World → Prop, I = policy_Reach.I w.heap.size a1 := ⟨_, rfl⟩
 have HII : Aside0 (∀ w' w'', I w' → Below w'.heap.size w' w'' → I w'') := by subst hIdef; exact ⟨fun w' w'' hI hb => blk_below hI hb⟩
 have HI0 : Aside0 (I (w.alloc (.cells #[.int .i64 a1] 3))) := by subst hIdef; exact ⟨heap_alloc_new w _⟩
 have HP1 : Aside0 (∀ (x : S31) (b : Bool) (w' : World), some (policy_Reach.q1 a1 x) = some b → I w' → Calls Try.prog 26 #[.agg (c31 x), .pointer (some ⟨w.heap.size, 0, none⟩)] w' fun e w'' => e = .returned (.bool b) ∧ Below w'.heap.size w' w'') := by
  subst hIdef
  exact ⟨fun x b w' hb hI => by injection hb with hb; subst hb; exact reach1_calls x a1 w.heap.size w' hI⟩
 have HP2 : Aside0 (∀ (x : S31) (w' : World), I w' → Calls Try.prog 29 #[.agg (c31 x), .pointer (some ⟨w.heap.size, 0, none⟩)] w' fun e w'' => e = .returned (.bool (policy_Reach.q2 a1 x)) ∧ Below w'.heap.size w' w'') := by
  subst hIdef
  exact ⟨fun x w' hI => reach2_calls x a1 w.heap.size w' hI⟩
 have HIs : Aside0 (∀ (ok : Nat → Prop) (W : World) (b : Nat) (v : Value) (l : List S31), Kd.R k31 31 W b ok v l → I W → ∀ (w' : World) (g o : Nat) (vs : List Value), v.ownBlock = some g → I w' → I (w'.setCells g o vs)) := by
  subst hIdef
  refine ⟨fun ok W b v l hR hI w' g o vs hv hI' => ?_⟩
  obtain ⟨inner, ho⟩ := Kd.R_own hR
  obtain ⟨cells, hcl⟩ := own_typed ho g hv
  have hne : w.heap.size ≠ g := fun he => by
   have h2 : W.heap[w.heap.size]? = some (.cells #[.int .i64 a1] 3 (0, 0)) := hI
   rw [he, hcl] at h2
   injection h2 with h2
   injection h2 with _ h3
   exact absurd h3 (by decide)
  exact (setCells_far vs o _ hne).trans hI'
 clear hIdef
 have HR := Aside0.mk hr0
 have HC := Aside0.mk hc0
 have HL := Aside0.mk hl
 have HI := Aside0.mk hi
 have HCUT := Aside0.mk hcut
 clear hr0 hc0 hl hi hcut
 by_cases h0 : 0 ≤ i
 ·
  obtain ⟨n, hn, rfl⟩ : ∃ n : Nat, n < l0.length ∧ i = (n : Int) := by
   rcases hrange with h1 | ⟨n, h1, h2⟩
   ·
    omega
   ·
    exact ⟨n, h1, by omega⟩
  have hc1 : policy_Reach.cut a1 l0 = l0.take (n + 1) := by have := HCUT.out; rw [if_pos h0] at this; rw [this]; congr 1
  rw [hc1]
  have c0' : decide ((0 : Int) ≤ (n : Int)) = true := decide_eq_true h0
  have hlen : (l0.take (n + 1)).length = n + 1 := by rw [List.length_take]; omega
  have HTK := Aside0.mk (Kd.C_take HR.out (m := n + 1) (by omega))
  have hfc : api_Rule_28.f (l0.take (n + 1)) = some (l0.take (n + 1)) := by unfold api_Rule_28.f; rw [if_pos (by have := HL.out; omega)]
  have HFC := Aside0.mk hfc
  have HLEN := Aside0.mk hlen
  have HW : Aside0 (wrap64 ((n : Int) + 1) = ((n + 1 : Nat) : Int)) := ⟨by have := HL.out; unfold wrap64; omega⟩
  have hsl : ∀ W : World, (Instr.slice 22 (.slice A0 l0.length c0) none (some (.int .i64 (wrap64 ((n : Int) + 1)))) none).run Try.prog W = .ok (.slice A0 (n + 1) c0) W := fun W => by
   rw [HW.out]
   obtain ⟨i0, hi0, _⟩ := Option.map_eq_some_iff.1 info31
   have := cut_to (P := Try.prog) 22 31 .i64 Try.underlying22 hi0 A0 l0.length c0 ((n + 1 : Nat) : Int) (by omega) (by omega) HC.out W
   simpa using this
  clear hfc hlen hrange hc1 h0
  have HCALL := Aside0.mk (idx_calls (fun x => some (policy_Reach.q1 a1 x)) 26 (.pointer (some ⟨w.heap.size, 0, none⟩)) I A0 c0 l0 (n : Int) (w.alloc (.cells #[.int .i64 a1] 3)) he (Kd.C_below HR.out (below_alloc (Below.refl _ _) _)) HL.out HI0.out HII.out HP1.out HI.out)
  have HCL : Aside0 (∀ w1, Below (w.alloc (.cells #[.int .i64 a1] 3)).heap.size (w.alloc (.cells #[.int .i64 a1] 3)) w1 → Calls Try.prog 28 #[.slice A0 (n + 1) c0] w1 fun e w' => ∃ v0_ : Value, e = .returned (v0_) ∧ Kd.R k31 31 w' w1.heap.size (fun _ => True) v0_ (l0.take (n + 1)) ∧ Below w1.heap.size w1 w') := ⟨fun w1 hb1 => by
   have h := api_Rule_28.calls A0 c0 (l0.take (n + 1)) (l0.take (n + 1)) w1 (Kd.C_below HTK.out (below_step (below_alloc (Below.refl _ _) _) hb1)) (by have := HLEN.out; have := HC.out; omega) HFC.out
   rw [HLEN.out] at h
   exact h⟩
  have HDEL : Aside0 (∀ w1 w2 v2, I w1 → Below w1.heap.size w1 w2 → Kd.R k31 31 w2 w1.heap.size (fun _ => True) v2 (l0.take (n + 1)) → Calls Try.prog 27 #[v2, .func (.func 29) #[] #[.pointer (some ⟨w.heap.size, 0, none⟩)]] w2 fun e w' => ∃ v', e = .returned v' ∧ k31.R 31 w' w1.heap.size (fun _ => True) v' ((l0.take (n + 1)).filter (fun x => !policy_Reach.q2 a1 x)) ∧ Below w1.heap.size w1 w') := ⟨fun w1 w2 v2 hi1 hb2 hR2 => del_calls (policy_Reach.q2 a1) 29 _ I v2 (l0.take (n + 1)) w1 w2 (fun _ => True) he9 hb2 hR2 (by rw [HLEN.out]; have := HL.out; omega) (HII.out _ _ hi1 hb2) HII.out (HIs.out _ _ _ _ _ hR2 (HII.out _ _ hi1 hb2)) HP2.out⟩
  go_enter Try.func18, Try.ntmps18
  go_wp2_with (first | ((go_at_call 24; refine HCALL.out.mono ?_; rintro e w1 ⟨rfl, hi1, hb1⟩)) | ((go_at_call 28; refine (HCL.out _ hb1).mono ?_; rintro e w2 ⟨v2, rfl, hR2, hb2⟩)) | ((go_at_call 27; refine (HDEL.out _ _ _ hi1 hb2 hR2).mono ?_; rintro e w3 ⟨v3, rfl, hR3, hb3⟩)))
  go_ret
  exact ⟨_, rfl, Kd.R_lower hR3 (below_size (below_step (below_alloc (Below.refl _ _) _) hb1)), below_step (below_step (below_alloc (Below.refl _ _) _) hb1) hb3⟩
 ·
  have hc1 : policy_Reach.cut a1 l0 = l0 := by have := HCUT.out; rw [if_neg h0] at this; exact this
  rw [hc1]
  have d0 : decide ((0 : Int) ≤ i) = false := decide_eq_false h0
  have HTK := HR
  have hfc : api_Rule_28.f l0 = some l0 := by unfold api_Rule_28.f; rw [if_pos (by have := HL.out; omega)]
  have HFC := Aside0.mk hfc
  have HLEN : Aside0 (l0.length = l0.length) := ⟨rfl⟩
  clear hfc hrange hc1 h0
  have HCALL := Aside0.mk (idx_calls (fun x => some (policy_Reach.q1 a1 x)) 26 (.pointer (some ⟨w.heap.size, 0, none⟩)) I A0 c0 l0 i (w.alloc (.cells #[.int .i64 a1] 3)) he (Kd.C_below HR.out (below_alloc (Below.refl _ _) _)) HL.out HI0.out HII.out HP1.out HI.out)
  have HCL : Aside0 (∀ w1, Below (w.alloc (.cells #[.int .i64 a1] 3)).heap.size (w.alloc (.cells #[.int .i64 a1] 3)) w1 → Calls Try.prog 28 #[.slice A0 (l0.length) c0] w1 fun e w' => ∃ v0_ : Value, e = .returned (v0_) ∧ Kd.R k31 31 w' w1.heap.size (fun _ => True) v0_ (l0) ∧ Below w1.heap.size w1 w') := ⟨fun w1 hb1 => by
   have h := api_Rule_28.calls A0 c0 (l0) (l0) w1 (Kd.C_below HTK.out (below_step (below_alloc (Below.refl _ _) _) hb1)) (by have := HLEN.out; have := HC.out; omega) HFC.out
   exact h⟩
  have HDEL : Aside0 (∀ w1 w2 v2, I w1 → Below w1.heap.size w1 w2 → Kd.R k31 31 w2 w1.heap.size (fun _ => True) v2 (l0) → Calls Try.prog 27 #[v2, .func (.func 29) #[] #[.pointer (some ⟨w.heap.size, 0, none⟩)]] w2 fun e w' => ∃ v', e = .returned v' ∧ k31.R 31 w' w1.heap.size (fun _ => True) v' ((l0).filter (fun x => !policy_Reach.q2 a1 x)) ∧ Below w1.heap.size w1 w') := ⟨fun w1 w2 v2 hi1 hb2 hR2 => del_calls (policy_Reach.q2 a1) 29 _ I v2 (l0) w1 w2 (fun _ => True) he9 hb2 hR2 (by have := HL.out; omega) (HII.out _ _ hi1 hb2) HII.out (HIs.out _ _ _ _ _ hR2 (HII.out _ _ hi1 hb2)) HP2.out⟩
  go_enter Try.func18, Try.ntmps18
  go_wp2_with (first | ((go_at_call 24; refine HCALL.out.mono ?_; rintro e w1 ⟨rfl, hi1, hb1⟩)) | ((go_at_call 28; refine (HCL.out _ hb1).mono ?_; rintro e w2 ⟨v2, rfl, hR2, hb2⟩)) | ((go_at_call 27; refine (HDEL.out _ _ _ hi1 hb2 hR2).mono ?_; rintro e w3 ⟨v3, rfl, hR3, hb3⟩)))
  go_ret
  exact ⟨_, rfl, Kd.R_lower hR3 (below_size (below_step (below_alloc (Below.refl _ _) _) hb1)), below_step (below_step (below_alloc (Below.refl _ _) _) hb1) hb3⟩

end Go.Proofs.Ytclddmjfgceemaa.Q
