/- Each call of a Go function comes to what the Lean function of its name answers (written out by wip/tools/xprint.py, checked by Lean); conditions: those in each statement. -/
import Derived.Test.YtfmhclbcoladpaaEx0
import Derived.Test.YtfmhclbcoladpaaEx3
import Derived.Test.YtfmhclbcoladpaaEx4
import Derived.Test.YtfmhclbcoladpaaEx6
import Derived.Test.YtfmhclbcoladpaaEx7
import Derived.Test.YtfmhclbcoladpaaXNeedsP
import Derived.Test.YtfmhclbcoladpaaXRow
import Derived.Test.YtfmhclbcoladpaaXLaw
import Derived.Test.YtfmhclbcoladpaaXLawB
import Derived.Test.YtfmhclbcoladpaaXLawC
import Derived.Deep.MidRow
namespace Go.Proofs.Ytfmhclbcoladpaa.E
open Go.RowKit Go.Proofs.YtfmhclbcoladpaaW.PrintWords Go.Proofs.YtfmhclbcoladpaaW.PrintLast Go.Proofs.YtfmhclbcoladpaaW.PrintMore Go.Proofs.YtfmhclbcoladpaaW.PrintX
attribute [local go_sem] max2_int min2_int max_two min_two max_three min_three max_four min_four   -- for this text's walks alone
set_option linter.unusedVariables false
set_option linter.unusedSimpArgs false

/-! ### ridgewaylaw07_AttrNeeds: function 7 -/
def ridgewaylaw07_AttrNeeds.f (o : Int) (as_ : List Int) (h t k fl : Int) : Option Bool := if as_.length ≤ 9223372036854775807 then some true else none
set_option maxHeartbeats 8000000 in
set_option maxRecDepth 100000 in
theorem nd_off (o : Int) (A : Option Addr) (c : Nat) (as_ : List Int) (h t k fl : Int) (w : World) (hr : Kd.C (Kd.int .i64) w A as_.length as_) (hc : as_.length ≤ c) (hs : attr_Sane.f o as_ h t = some false) :
  Calls Try.prog 7 #[.agg #[.int .i64 o, .slice A as_.length c, .int .i64 h, .int .i64 t], .int .i64 k, .int .i64 fl] w fun e w' => e = .returned (.bool true) ∧ Below w.heap.size w w' := by
 have HR := Aside0.mk hr
 have HC := Aside0.mk hc
 have HS := Aside0.mk hs
 have HO := Aside0.mk (Pure.of_bad 100 o as_ h t hs)
 clear hr hc hs
 go_enter Try.func7, Try.ntmps7
 go_wp2_with (first
  | (go_at_call 10; have hh := ridgewaylaw07_awake.calls true (w.alloc (.cells #[.int .i64 o, .slice A as_.length c, .int .i64 h, .int .i64 t] 27)) rfl; (with_reducible refine hh.mono ?_); clear hh; rintro e w1 ⟨rfl, hb_⟩; have H1 := Aside0.mk (show Below w.heap.size w w1 ∧ _ from ⟨below_step (below_alloc (Below.refl _ _) _) hb_, blk_below (heap_alloc_new w _) hb_⟩); clear hb_; obtain ⟨e0, e1, e2, e3, -, -, -, -⟩ := bc4 H1.out.2)
  | (go_at_call 20; have hh := attr_Of.calls 100 o A c as_ h t [] w1 (Kd.C_below HR.out H1.out.1) HC.out HO.out; (with_reducible refine hh.mono ?_); clear hh; rintro e w2 ⟨v0, rfl, hn_, hb_⟩; obtain ⟨A8, c8, rfl⟩ := Kd.N_slice hn_; have H2 := Aside0.mk (show Below w.heap.size w w2 ∧ _ from ⟨below_step H1.out.1 hb_, blk_below H1.out.2 hb_⟩); clear hb_ hn_ e0 e1 e2 e3; obtain ⟨e0, e1, e2, e3, -, -, -, -⟩ := bc4 H2.out.2)
  | (go_at_call 18; have hh := attr_Sane.calls o A c as_ h t false w2 (Kd.C_below HR.out H2.out.1) HC.out HS.out; (with_reducible refine hh.mono ?_); clear hh; rintro e w3 ⟨rfl, hb_⟩; have H3 := Aside0.mk (show Below w.heap.size w w3 ∧ _ from ⟨below_step H2.out.1 hb_, blk_below H2.out.2 hb_⟩); clear hb_ e0 e1 e2 e3; obtain ⟨e0, e1, e2, e3, -, -, -, -⟩ := bc4 H3.out.2))
 all_goals go_ret
 all_goals first | exact ⟨rfl, H2.out.1⟩ | exact ⟨rfl, H3.out.1⟩
theorem nd_some {W : World} {A : Option Addr} {l : List Pure.AT} (h : Kd.C k24 W A l.length l) (hl : 0 < l.length) : ∃ ad, A = some ad := by
 obtain ⟨ad', B2, d2, e, -⟩ := at_T24 h 0 (by omega) (by omega)
 exact ⟨ad', e⟩
theorem n_empty {α : Type} (d : Kd α) (e : Nat) (W : World) (ok : Nat → Prop) (ho : ok W.heap.size) : Kd.N d e (W.alloc (.cells #[] e)) W.heap.size ok (.slice (some ⟨W.heap.size, 0, none⟩) 0 0) [] := by
 refine ⟨fun k hk => ?_, [], rfl, ⟨fun k hk => hk.symm, [], ⟨by simp, .inr ⟨W.heap.size, 0, #[], rfl, Nat.le_refl _, heap_alloc_new W _, Nat.le_refl _, Nat.zero_le _, by simp, by simp⟩⟩, Reps.none _ _⟩, fun j x c hx => by simp at hx⟩
 cases hk
 exact ho
theorem nd_drop {W W1 : World} {ad : Addr} {Ac : Option Addr} {L y2 : List Pure.AT} {i c : Nat} (hy : y2 = L.drop (i + 1)) (h : Kd.C k24 W (some ad) L.length L) (hb : Below W.heap.size W W1) (hi : i < 3) (hl : 3 ≤ L.length) (hc : L.length ≤ c) (hA : Ac = (if c = i + 1 then some ad else (some ad).map (·.add ((i + 1) * 3)))) : Kd.F k24 W1 (fun k_ => k_ < W.heap.size) Ac (L.length - (i + 1)) y2 := by
 subst hy hA
 have hC := Kd.C_drop h (show i + 1 ≤ L.length by omega) hc
 rw [List.length_drop] at hC
 exact Kd.F_below (Kd.C_F k24_heap hC) hb
theorem nd_whole {W W1 : World} {ad : Addr} {L : List Pure.AT} (h : Kd.C k24 W (some ad) L.length L) (hb : Below W.heap.size W W1) : Kd.F k24 W1 (fun k_ => k_ < W.heap.size) (some ad) L.length L := Kd.F_below (Kd.C_F k24_heap h) hb
theorem nd_own0 {W0 W1 : World} (hb : Below W0.heap.size W0 W1) : ∀ k, k < W0.heap.size → (True ∧ some k ≠ (Value.slice (some ⟨W1.heap.size, 0, none⟩) 0 0).ownBlock) := fun k hk => ⟨trivial, fun e_ => by
 have h2 : k = W1.heap.size := Option.some.inj e_
 have h3 : W0.heap.size ≤ W1.heap.size := hb.size
 omega⟩
theorem nd_elem {W : World} {base g n cap : Nat} {ok : Nat → Prop} {l : List Pure.AT} {i : Nat} {x : Pure.AT} (h : Kd.N k24 24 W base ok (.slice (some ⟨g, 0, none⟩) n cap) l) (hx : l[i]? = some x) : ∃ A2 c2, W.cell? ⟨g, i * 3, none⟩ = some (.int .i64 x.f0) ∧ W.cell? ⟨g, i * 3 + 1, none⟩ = some (.int .i64 x.f1) ∧ W.cell? ⟨g, i * 3 + 2, none⟩ = some (.slice A2 x.f2.length c2) ∧ W.frozen? ⟨g, i * 3, none⟩ = false ∧ W.frozen? ⟨g, i * 3 + 2, none⟩ = false ∧ x.f2.length ≤ c2 ∧ Kd.F (Kd.int .u8) W (fun k => ok k ∧ k ≠ g) A2 x.f2.length x.f2 := by
 have hn := (Kd.N_reads' h).1
 have hi : i < l.length := (List.getElem?_eq_some_iff.1 hx).1
 obtain ⟨c, hcl, hF, hcc, hfr⟩ := Kd.N_elem h z24 (i : Int) (by omega) (by omega)
 rw [Int.toNat_natCast] at hF hcc hfr
 rw [List.getD_eq_getElem?_getD, hx, Option.getD_some] at hF
 obtain ⟨A2, c2, rfl, hl2, hF2⟩ := k24_openF hF
 exact ⟨A2, c2, hcc 0 _ rfl, hcc 1 _ rfl, hcc 2 _ rfl, hfr 0, hfr 2, hl2, hF2⟩
theorem n_empty' {α : Type} (d : Kd α) (e n : Nat) (W : World) (ok : Nat → Prop) (hn : W.heap.size = n) (ho : ok W.heap.size) : Kd.N d e (W.alloc (.cells #[] e)) W.heap.size ok (.slice (some ⟨n, 0, none⟩) 0 0) [] := by
 subst hn
 exact n_empty d e W ok ho
theorem nd_own1 {W0 W1 : World} {n : Nat} (hb : Below W0.heap.size W0 W1) (hn : W1.heap.size = n) : ∀ k, k < W0.heap.size → (True ∧ some k ≠ (Value.slice (some ⟨n, 0, none⟩) 0 0).ownBlock) := by
 subst hn
 exact nd_own0 hb
theorem nd_get {W : World} {ad : Addr} {n : Nat} {l : List Pure.AT} {i : Nat} {x : Pure.AT} (h : Kd.C k24 W (some ad) n l) (hn : n = l.length) (hx : l[i]? = some x) : ∃ A2 c2, W.cell? ⟨(ad.add (i * 3)).block, (ad.add (i * 3)).off + 2, none⟩ = some (.slice A2 x.f2.length c2) ∧ x.f2.length ≤ c2 ∧ Kd.C (Kd.int .u8) W A2 x.f2.length x.f2 ∧ (ad.add (i * 3)).block < W.heap.size := by
 have hi : i < l.length := (List.getElem?_eq_some_iff.1 hx).1
 obtain ⟨ad', A2, c2, e, q0, q1, q2, hl2, hC⟩ := at_T24 h (i : Int) (by omega) (by omega)
 cases e
 have hr : rd_T24 l (i : Int) = x := by
  unfold rd_T24
  rw [Int.toNat_natCast, List.getD_eq_getElem?_getD, hx, Option.getD_some]
 rw [Int.toNat_natCast] at q0 q2
 rw [hr] at q2 hl2 hC
 exact ⟨A2, c2, q2, hl2, hC, by have := World.block_lt_of_cell? _ _ q0; exact this⟩
theorem nd_size (w : World) (a : Addr) (v : Value) : (w.setCell a v).heap.size = w.heap.size := by simp [World.setCell]
theorem nd_lit0 {W : World} {base : Nat} (hb : base ≤ W.heap.size) : (Kd.int .u8).R 5 (W.alloc (.cells #[] 5)) base (fun _ => True) (.slice (some ⟨W.heap.size, 0, none⟩) 0 0) [] := R_lit8 W base 5 hb [] (by simp)
theorem nd_u8 {W : World} {o : Obj} {A : Option Addr} {l : List Int} (h : Kd.C (Kd.int .u8) W A l.length l) : Kd.C (Kd.int .u8) (W.alloc o) A l.length l := Kd.C_below h (below_alloc (Below.refl _ _) _)
theorem nd_at {W : World} {o : Obj} {v1 : Value} (h : v1.ownBlock = (Value.slice (some ⟨W.heap.size, 0, none⟩) 0 0).ownBlock ∨ ∃ b, v1.ownBlock = some b ∧ (W.alloc o).heap.size ≤ b) : ∀ k, v1.ownBlock = some k → W.heap.size ≤ k := by
 intro k hk
 rcases h with h | ⟨b, hb, hl⟩
 ·
  rw [hk] at h
  have := Option.some.inj h
  simp at this
  omega
 ·
  rw [hk] at hb
  have := Option.some.inj hb
  rw [World.size_alloc] at hl
  omega
theorem nd_grown {W w1 : World} {o : Obj} (h : (W.alloc o).grownBy w1 (Value.slice (some ⟨W.heap.size, 0, none⟩) 0 0).ownBlock) : Below W.heap.size W w1 :=
 ⟨h.os, h.tape, h.output, Nat.le_trans (Nat.le_of_lt (by rw [World.size_alloc]; omega)) h.size, fun k hk => (h.block k (by rw [World.size_alloc]; omega) (fun e => by have := Option.some.inj e; simp at this; omega)).trans ((below_alloc (Below.refl W.heap.size W) o).block k hk)⟩
theorem nd_off8 {g n : Nat} {v : Value} (h : ∀ k, v.ownBlock = some k → n ≤ k) (hg : g < n) : some g ≠ v.ownBlock := fun e => by have := h g e.symm; omega
theorem nd_keep8 {w8 : World} {base g j : Nat} {v u : Value} {o : Obj} {l : List Int} (h : (Kd.int .u8).R 5 w8 base (fun _ => True) v l) (hne : some g ≠ v.ownBlock) : (Kd.int .u8).R 5 ((w8.setCell ⟨g, j, none⟩ u).alloc o) base (fun _ => True) v l := Kd.R_alloc (Kd.R_mono (Kd.R_far (Kd.R_far1 h rfl hne) (fun _ hk => hk.2) u) (fun _ _ => trivial)) o
theorem nd_nine {W : World} {n : Nat} (hn : W.heap.size = n) : Kd.C (Kd.int .u8) (W.alloc (.cells #[.int .u8 9] 5)) (some ⟨n, 0, none⟩) 1 [9] := by
 subst hn
 exact (Kd.R_reads' (R_lit8 W W.heap.size 5 (Nat.le_refl _) [9] (by simp))).2.2
theorem nd_two {a b c : World} (h : Below a.heap.size a b) (k : Below b.heap.size b c) : Below a.heap.size a c := below_step h k
theorem nd_own {e : Nat} {W : World} {base : Nat} {ok : Nat → Prop} {v : Value} {l : List Pure.AT} (h : Kd.N k24 e W base ok v l) : ∀ k, k < base → (True ∧ some k ≠ v.ownBlock) := fun k hk => ⟨trivial, fun e_ => Nat.lt_irrefl _ (Nat.lt_of_lt_of_le hk (Kd.N_base h k e_.symm))⟩
theorem nd_take {W : World} {ad : Addr} {L y1 : List Pure.AT} {i : Nat} (hy : y1 = L.take i) (h : Kd.C k24 W (some ad) L.length L) (hi : i < 3) (hl : 3 ≤ L.length) : Kd.F k24 (W.alloc (.cells #[] 24)) (fun k_ => k_ < W.heap.size) (some ad) i y1 := by
 subst hy
 have hF := Kd.F_take (Kd.C_F k24_heap h) (m := i) (by omega)
 rw [List.length_take, Nat.min_eq_left (by omega)] at hF
 exact Kd.F_below hF (below_alloc (Below.refl _ _) _)
theorem nd_turn {W : World} {base g n cap : Nat} {ok : Nat → Prop} {l : List Pure.AT} {i : Nat} {x : Pure.AT} (f : Int) (h : Kd.N k24 24 W base ok (.slice (some ⟨g, 0, none⟩) n cap) l) (hx : l[i]? = some x) : Kd.N k24 24 (W.setCell ⟨g, i * 3, none⟩ (.int .i64 f)) base ok (.slice (some ⟨g, 0, none⟩) n cap) (l.set i (Pure.flagA x f)) := by
 have hn := (Kd.N_reads' h).1
 have hi : i < l.length := (List.getElem?_eq_some_iff.1 hx).1
 obtain ⟨c, hcl, hF, hcc, hfr⟩ := Kd.N_elem h z24 (i : Int) (by omega) (by omega)
 rw [Int.toNat_natCast, List.getD_eq_getElem?_getD, hx, Option.getD_some] at hF
 obtain ⟨A2, c2, rfl, hl2, hF2⟩ := k24_openF hF
 have hs := (Kd.N_seg h (i : Int) (by omega) (by omega) (seg := [.int .i64 f]) (j := 0) (x' := Pure.flagA x f) (okp := fun k => ok k ∧ k ≠ g) hcl hcc (by show (0 + 1 : Nat) ≤ 3; omega) (k24_mkF W _ (Pure.flagA x f) hl2 hF2) (fun k hk => hk)).1
 rw [Int.toNat_natCast] at hs
 exact hs
theorem nd_long {w7 w8 w9 : World} {base base' g n cap m c95 : Nat} {l : List Pure.AT} {i : Nat} {x : Pure.AT} {v84 : Value} {A95 : Option Addr} (h : Kd.N k24 24 w7 base (fun _ => True) (.slice (some ⟨g, 0, none⟩) n cap) l) (hx : l[i]? = some x) (hg : g < w7.heap.size) (hb8 : Below w7.heap.size w7 w8) (h9 : ∀ k, k < w7.heap.size → w9.heap[k]? = (w8.setCell ⟨g, i * 3 + 2, none⟩ v84).heap[k]?)
  (hR : (Kd.int .u8).R 5 w9 base' (fun _ => True) (.slice A95 m c95) (x.f2 ++ [9])) (hne : some g ≠ (Value.slice A95 m c95).ownBlock) : Kd.C k24 (w9.setCell ⟨g, i * 3 + 2, none⟩ (.slice A95 (x.f2.length + 1) c95)) (some ⟨g, 0, none⟩) (l.set i (Pure.moreA x)).length (l.set i (Pure.moreA x)) ∧ (l.set i (Pure.moreA x)).length ≤ cap := by
 have hn := (Kd.N_reads' h).1
 have hi : i < l.length := (List.getElem?_eq_some_iff.1 hx).1
 obtain ⟨c, hcl, hF, hcc, hfr⟩ := Kd.N_elem h z24 (i : Int) (by omega) (by omega)
 rw [Int.toNat_natCast] at hF hcc
 rw [List.getD_eq_getElem?_getD, hx, Option.getD_some] at hF
 obtain ⟨A2, c2, rfl, hl2, hF2⟩ := k24_openF hF
 obtain ⟨vold, hvo⟩ : ∃ v, v = Value.slice A2 x.f2.length c2 := ⟨_, rfl⟩
 have hold : w7.cell? ⟨g, i * 3 + 2, none⟩ = some vold := by rw [hvo]; exact hcc 2 _ rfl
 obtain ⟨g', cap', hv, -, -, cur, hblk⟩ := Kd.N_form h (by omega)
 obtain rfl : g = g' := by injection hv with h1 _ _; injection h1 with h1; injection h1
 have hcur : cur[i * 3 + 2]? = some vold := (blk_cell hblk _).symm.trans hold
 have h9g : w9.heap[g]? = some (.cells (cur.setIfInBounds (i * 3 + 2) v84) 24 (0, 0)) := (h9 g hg).trans (blk_set (blk_below hblk hb8) _ _)
 have hW : ∀ k, k < w7.heap.size → (w9.setCell ⟨g, i * 3 + 2, none⟩ vold).heap[k]? = w7.heap[k]? := by
  intro k hk
  by_cases e : k = g
  ·
   subst e
   rw [blk_set h9g, hblk, Array.setIfInBounds_setIfInBounds]
   congr 2
   refine Array.ext_getElem? fun j => ?_
   rw [Array.getElem?_setIfInBounds]
   split
   ·
    next e => subst e; rw [hcur]; split <;> first | rfl | (have := (Array.getElem?_eq_some_iff.1 hcur).1; omega)
   ·
    rfl
  ·
   rw [Below.heap_setCell _ _ _ _ e, h9 k hk, Below.heap_setCell _ _ _ _ e]
   exact hb8.block k hk
 have hN := Kd.N_step h (fun k _ hk => hW k hk)
 have hr2 := Kd.R_reads' hR
 have hF9 := Kd.F_step (Kd.R_F (Kd.R_far1 hR rfl hne)) (fun k hk _ => Below.heap_setCell w9 ⟨g, i * 3 + 2, none⟩ vold k hk.2)
 have hcc2 : ∀ j u, [Value.int .i64 x.f0, Value.int .i64 x.f1, Value.slice A2 x.f2.length c2][j]? = some u → (w9.setCell ⟨g, i * 3 + 2, none⟩ vold).cell? ⟨g, i * 3 + j, none⟩ = some u := fun j u hu => (World.cell?_of_block (hW g hg)).trans (hcc j u hu)
 rw [hr2.1] at hF9
 have hM : Kd.FK k24 (w9.setCell ⟨g, i * 3 + 2, none⟩ vold) (fun k => True ∧ k ≠ g) (Pure.moreA x) [.int .i64 x.f0, .int .i64 x.f1, .slice A95 (x.f2 ++ [9]).length c95] := k24_mkF _ _ (Pure.moreA x) (by rw [← hr2.1]; exact hr2.2.1) hF9
 have hs := (Kd.N_seg hN (i : Int) (by omega) (by omega) (seg := [Value.slice A95 (x.f2 ++ ([9] : List Int)).length c95]) (j := 2) (x' := Pure.moreA x) (okp := fun k => True ∧ k ≠ g) hcl (by rw [Int.toNat_natCast]; exact hcc2) (by show (2 + 1 : Nat) ≤ 3; omega) hM (fun k hk => hk)).1
 rw [Int.toNat_natCast] at hs
 have hs2 : Kd.N k24 24 ((w9.setCell ⟨g, i * 3 + 2, none⟩ vold).setCell ⟨g, i * 3 + 2, none⟩ (.slice A95 (x.f2 ++ [9]).length c95)) base (fun _ => True) (.slice (some ⟨g, 0, none⟩) n cap) (l.set i (Pure.moreA x)) := hs
 have hs3 := Kd.N_step (w1 := w9.setCell ⟨g, i * 3 + 2, none⟩ (.slice A95 (x.f2.length + 1) c95)) hs2 (fun k _ _ => by
  by_cases e : k = g
  ·
   subst e
   rw [blk_set h9g, blk_set (blk_set h9g _ _), Array.setIfInBounds_setIfInBounds, Array.setIfInBounds_setIfInBounds, Array.setIfInBounds_setIfInBounds, List.length_append, List.length_singleton]
  ·
   rw [Below.heap_setCell _ _ _ _ e, Below.heap_setCell _ _ _ _ e, Below.heap_setCell _ _ _ _ e])
 have hz := Kd.N_reads' hs3
 exact ⟨hz.2.2, by rw [← hz.1]; exact hz.2.1⟩
theorem nd_same {w7 w8 w9 : World} {a : Addr} {u : Value} {o : Obj} {row : Option Nat} (hb8 : Below w7.heap.size w7 w8) (hg : ((w8.setCell a u).alloc o).grownBy w9 row) (hr : ∀ k, row = some k → w7.heap.size ≤ k) : ∀ k, k < w7.heap.size → w9.heap[k]? = (w8.setCell a u).heap[k]? := by
 intro k hk
 have hk8 : k < (w8.setCell a u).heap.size := by rw [nd_size]; exact Nat.lt_of_lt_of_le hk hb8.size
 exact (hg.block k (by rw [World.size_alloc]; omega) (fun e => by have := hr k e.symm; omega)).trans ((below_alloc (Below.refl (w8.setCell a u).heap.size (w8.setCell a u)) o).block k hk8)
theorem nd_own95 {w7 w8 : World} {a : Addr} {u v84 v95 : Value} {o : Obj} (h84 : ∀ k, v84.ownBlock = some k → w7.heap.size ≤ k) (h : v95.ownBlock = v84.ownBlock ∨ ∃ b, v95.ownBlock = some b ∧ ((w8.setCell a u).alloc o).heap.size ≤ b) (hb : Below w7.heap.size w7 w8) : ∀ k, v95.ownBlock = some k → w7.heap.size ≤ k := by
 intro k hk
 rcases h with h | ⟨b, h, hl⟩
 ·
  exact h84 k (h.symm.trans hk)
 ·
  have e := Option.some.inj (hk.symm.trans h)
  rw [World.size_alloc, nd_size] at hl
  have := hb.size
  omega
def NdJ (w : World) (A1 A2 : Option Addr) (l1 l2 : List Pure.AT) (W : World) : Prop := Below w.heap.size w W ∧ Kd.C k24 W A1 l1.length l1 ∧ Kd.C k24 W A2 l2.length l2
theorem NdJ.b {w : World} {A1 A2 : Option Addr} {l1 l2 : List Pure.AT} {W : World} (h : NdJ w A1 A2 l1 l2 W) : Below w.heap.size w W := h.1
theorem NdJ.below {w : World} {A1 A2 : Option Addr} {l1 l2 : List Pure.AT} {W W' : World} (h : NdJ w A1 A2 l1 l2 W) (hb : Below W.heap.size W W') : NdJ w A1 A2 l1 l2 W' := ⟨below_step h.1 hb, Kd.C_below h.2.1 hb, Kd.C_below h.2.2 hb⟩
def NdB (w : World) (o : Int) (A : Option Addr) (n c : Nat) (h t : Int) (W : World) : Prop := Below w.heap.size w W ∧ W.heap[w.heap.size]? = some (.cells #[.int .i64 o, .slice A n c, .int .i64 h, .int .i64 t] 27 (0, 0))
theorem NdB.below {w : World} {o : Int} {A : Option Addr} {n c : Nat} {h t : Int} {W W' : World} (x : NdB w o A n c h t W) (hb : Below W.heap.size W W') : NdB w o A n c h t W' := ⟨below_step x.1 hb, blk_below x.2 hb⟩
set_option maxHeartbeats 8000000 in
set_option maxRecDepth 100000 in
theorem nd_on (o : Int) (A : Option Addr) (c : Nat) (as_ : List Int) (h t k fl : Int) (w : World) (hr : Kd.C (Kd.int .i64) w A as_.length as_) (hc : as_.length ≤ c) (hs : attr_Sane.f o as_ h t = some true) (L y1 y2 : List Pure.AT) (i : Nat) (x : Pure.AT) (v : Int) (hy1 : y1 = L.take i) (hy2 : y2 = L.drop (i + 1)) (hl3 : 3 ≤ L.length) (hl4 : L.length ≤ 4) (hi3 : i < 3) (hx : L[i]? = some x) (hxl : x.f2.length ≤ 1100) (hal : as_.length ≤ 255)
  (hof : attr_Of.f 300 o as_ h t = some L) (hi : Int.tmod (Go.bits .and .i64 k 65535) 3 = (i : Int)) (j1 : attr_Judge.f (y1 ++ y2) = some Pure.spoiltR) (R2 : JR) (j2 : attr_Judge.f (L.set i (Pure.flagA x fl)) = some R2) (j2c : R2.2.2.2.2.2.1 = 0) (j2v : (R2.2.2.2.2.1 == 0) = (Go.bits .and .i64 fl 192 == 64)) (j3 : attr_Judge.f (L.set i (Pure.moreA x)) = some Pure.spoiltR) :
  Calls Try.prog 7 #[.agg #[.int .i64 o, .slice A as_.length c, .int .i64 h, .int .i64 t], .int .i64 k, .int .i64 fl] w fun e w' => e = .returned (.bool true) ∧ Below w.heap.size w w' := by
 obtain ⟨r0, r1, r2, r3, r4, r5, r6, r7⟩ := R2
 have hj5 : (r5 == 0) = true := by simpa using j2c
 have hj4 : (r4 == 0) = (Go.bits .and .i64 fl 192 == 64) := j2v
 clear j2c j2v
 have HR := Aside0.mk hr
 have HC := Aside0.mk hc
 have HS := Aside0.mk hs
 have HO := Aside0.mk hof
 have HJ1 := Aside0.mk j1
 have HJ2 := Aside0.mk j2
 have HJ3 := Aside0.mk j3
 have HX := Aside0.mk hx
 have HXL := Aside0.mk hxl
 have d1 : decide ((300 : Int) < (as_.length : Int)) = false := decide_eq_false (by omega)
 have d2 : decide ((L.length : Int) < 3) = false := decide_eq_false (by omega)
 have hib : (i : Int) ≤ 2 := by omega
 have hil : ((i : Int) < (L.length : Int)) = True := eq_true (by omega)
 have hil2 : (i < L.length) = True := eq_true (by omega)
 have hln : (L.length : Int) ≤ 4 := by omega
 have HL3 := Aside0.mk hl3
 have HL4 := Aside0.mk hl4
 have HI3 := Aside0.mk hi3
 have HY1 := Aside0.mk hy1
 have HY2 := Aside0.mk hy2
 clear hr hc hs hof j1 j2 j3 hx hxl hal hl3 hl4 hi3 hy1 hy2
 go_enter Try.func7, Try.ntmps7
 go_wp2_with (first
  | (go_at_call 10; have hh := ridgewaylaw07_awake.calls true (w.alloc (.cells #[.int .i64 o, .slice A as_.length c, .int .i64 h, .int .i64 t] 27)) rfl; (with_reducible refine hh.mono ?_); clear hh; rintro e w1 ⟨rfl, hb_⟩; have H1 := Aside0.mk (show NdB w o A as_.length c h t w1 from ⟨below_step (below_alloc (Below.refl _ _) _) hb_, blk_below (heap_alloc_new w _) hb_⟩); clear hb_; obtain ⟨e0, e1, e2, e3, -, -, -, -⟩ := bc4 H1.out.2)
  | (go_at_call 20; have hh := attr_Of.calls 300 o A c as_ h t L w1 (Kd.C_below HR.out H1.out.1) HC.out HO.out; (with_reducible refine hh.mono ?_); clear hh; rintro e w2 ⟨v0, rfl, hn_, hb_⟩; obtain ⟨A8, c8, rfl⟩ := Kd.N_slice hn_; have H2 := Aside0.mk (H1.out.below hb_); have C2 := Aside0.mk (Kd.N_reads' hn_).2; clear hb_ hn_ e0 e1 e2 e3; obtain ⟨e0, e1, e2, e3, -, -, -, -⟩ := bc4 H2.out.2)
  | (go_at_call 18; have hh := attr_Sane.calls o A c as_ h t true w2 (Kd.C_below HR.out H2.out.1) HC.out HS.out; (with_reducible refine hh.mono ?_); clear hh; rintro e w3 ⟨rfl, hb_⟩; have H3 := Aside0.mk (H2.out.below hb_); obtain ⟨ad, rfl⟩ := nd_some (Kd.C_below C2.out.2 hb_) (by have := HL3.out; omega); have C3 := Aside0.mk (show L.length ≤ c8 ∧ Kd.C k24 w3 (some ad) L.length L from ⟨C2.out.1, Kd.C_below C2.out.2 hb_⟩); have hc1 := cut_to (P := Try.prog) 31 24 .i64 Try.underlying31 rfl (some ad) L.length c8 (i : Int) (by omega) (by have := HL3.out; omega) C3.out.1; rw [Int.toNat_natCast] at hc1; have hc2 := cut_from (P := Try.prog) 31 24 .i64 Try.underlying31 rfl 3 rfl (some ad) L.length c8 ((i : Int) + 1) (by omega) (by have := HL3.out; omega); rw [show ((i : Int) + 1).toNat = i + 1 from by omega] at hc2; obtain ⟨Ac, hAc⟩ : ∃ Ac, Ac = (if c8 = i + 1 then some ad else (some ad).map (·.add ((i + 1) * 3))) := ⟨_, rfl⟩; rw [← hAc] at hc2; have HAC := Aside0.mk hAc; clear hAc; clear hb_ e0 e1 e2 e3; obtain ⟨e0, e1, e2, e3, -, -, -, -⟩ := bc4 H3.out.2)
  | ((with_reducible refine gate_builtin (b := .append) (xs := #[.tmp 54, .tmp 57]) rfl ?_); at_builtin; refine Kd.N_append_rows k24 (w0 := w3) w3.heap.size rfl (.tmp 54) (.tmp 57) 31 24 (.agg #[(.int .i64 0), (.int .i64 0), (.slice none 0 0)]) 40 rfl Try.underlying31 info24 rfl (by decide) (by omega) (.slice (some ⟨w3.heap.size, 0, none⟩) 0 0) [] y1 (some ad) i c8 (fun _ => True) (fun k_ => k_ < w3.heap.size) rfl rfl (n_empty _ _ _ _ trivial) (nd_take HY1.out C3.out.2 HI3.out HL3.out) (fun k_ hk_ => ⟨trivial, by intro e_; cases e_; exact Nat.lt_irrefl _ hk_⟩) (fun _ _ => trivial) (below_alloc (Below.refl _ _) _) (below_size (below_alloc (Below.refl _ _) _)) (by have := HI3.out; simp; omega) ?_; intro v10 w4 hn_ hb_ hg_ hat_; obtain ⟨A10, c10, rfl⟩ := Kd.N_slice hn_; rw [List.nil_append] at hn_; have HN4 := Aside0.mk hn_; have HB4 := Aside0.mk hb_; clear hn_ hb_ hg_ hat_)
  | ((with_reducible refine gate_builtin (b := .append) (xs := #[.tmp 59, .tmp 63]) rfl ?_); at_builtin; refine Kd.N_append_rows k24 (w0 := w3) w3.heap.size rfl (.tmp 59) (.tmp 63) 31 24 (.agg #[(.int .i64 0), (.int .i64 0), (.slice none 0 0)]) 40 rfl Try.underlying31 info24 rfl (by decide) (by omega) (.slice A10 y1.length c10) y1 y2 Ac (L.length - (i + 1)) (c8 - (i + 1)) (fun _ => True) (fun k_ => k_ < w3.heap.size) rfl rfl HN4.out (nd_drop HY2.out C3.out.2 HB4.out HI3.out HL3.out C3.out.1 HAC.out) (nd_own HN4.out) (fun _ _ => trivial) HB4.out (below_size HB4.out) (by have := HL4.out; have := HI3.out; have := congrArg List.length HY1.out; rw [List.length_take] at this; omega) ?_; intro v10 w5 hn_ hb_ hg_ hat_; obtain ⟨A10', c10', rfl⟩ := Kd.N_slice hn_; have HN5 := Aside0.mk hn_; have HB5 := Aside0.mk hb_; clear hn_ hb_ hg_ hat_)
  | ((with_reducible refine gate_builtin (b := .append) (xs := #[.tmp 65, .tmp 66]) rfl ?_); at_builtin; refine Kd.N_append_rows k24 (w0 := w5) w5.heap.size rfl (.tmp 65) (.tmp 66) 31 24 (.agg #[(.int .i64 0), (.int .i64 0), (.slice none 0 0)]) 40 rfl Try.underlying31 info24 rfl (by decide) (by omega) (.slice (some ⟨w5.heap.size, 0, none⟩) 0 0) [] L (some ad) L.length c8 (fun _ => True) (fun k_ => k_ < w3.heap.size) rfl rfl (n_empty _ _ _ _ trivial) (nd_whole C3.out.2 (below_alloc HB5.out _)) (nd_own0 HB5.out) (fun _ _ => trivial) (below_alloc (Below.refl _ _) _) (below_size (below_alloc (Below.refl _ _) _)) (by have := HL4.out; simp; omega) ?_; intro v11 w6 hn_ hb_ hg_ hat_; rw [List.nil_append] at hn_; obtain ⟨g11, c11, rfl, hge_, hlt_, -⟩ := Kd.N_form hn_ (by have := HL3.out; omega); have HN6 := Aside0.mk hn_; have HB6 := Aside0.mk hb_; have HG6 := Aside0.mk hge_; clear hn_ hb_ hg_ hat_ hge_; have HS6 := Aside0.mk (show Below w3.heap.size w3 (w6.setCell ⟨g11, i * 3, none⟩ (.int .i64 fl)) from bS (below_step HB5.out HB6.out) (Nat.le_trans (below_size HB5.out) HG6.out)); obtain ⟨X2, x2, f0_, f1_, f2_, z0_, -, -, -⟩ := nd_elem HN6.out HX.out)
  | ((with_reducible refine gate_builtin (b := .append) (xs := #[.tmp 73, .tmp 74]) rfl ?_); at_builtin; refine Kd.N_append_rows k24 (w0 := (w6.setCell ⟨g11, i * 3, none⟩ (.int .i64 fl))) (w6.setCell ⟨g11, i * 3, none⟩ (.int .i64 fl)).heap.size rfl (.tmp 73) (.tmp 74) 31 24 (.agg #[(.int .i64 0), (.int .i64 0), (.slice none 0 0)]) 40 rfl Try.underlying31 info24 rfl (by decide) (by omega) (.slice (some ⟨w6.heap.size, 0, none⟩) 0 0) [] L (some ad) L.length c8 (fun _ => True) (fun k_ => k_ < w3.heap.size) rfl rfl (n_empty' _ _ _ _ _ (nd_size _ _ _) trivial) (nd_whole C3.out.2 (below_alloc HS6.out _)) (nd_own1 HS6.out (nd_size _ _ _)) (fun _ _ => trivial) (below_alloc (Below.refl _ _) _) (below_size (below_alloc (Below.refl _ _) _)) (by have := HL4.out; simp; omega) ?_; intro v12 w7 hn_ hb_ hg_ hat_; rw [List.nil_append] at hn_; obtain ⟨g12, c12, rfl, hge_, hlt_, -⟩ := Kd.N_form hn_ (by have := HL3.out; omega); have HN7 := Aside0.mk hn_; have HB7 := Aside0.mk hb_; have HG7 := Aside0.mk hge_; have HT7 := Aside0.mk hlt_; clear hn_ hb_ hg_ hat_ hge_ hlt_ f0_ f1_ f2_ z0_; have HS7 := Aside0.mk (nd_two HS6.out HB7.out); obtain ⟨Al, cl, q2_, ql_, qc_, qb_⟩ := nd_get (Kd.C_below C3.out.2 HS7.out) rfl HX.out; have HQ := Aside0.mk qc_; have HQL := Aside0.mk ql_; clear qc_ ql_)
  | ((with_reducible refine gate_builtin (b := .append) (xs := #[.tmp 78, .tmp 83]) rfl ?_); at_builtin; refine Kd.R_append_rows (Kd.int .u8) (w0 := (w6.setCell ⟨g11, i * 3, none⟩ (.int .i64 fl))) (w6.setCell ⟨g11, i * 3, none⟩ (.int .i64 fl)).heap.size rfl (.tmp 78) (.tmp 83) 22 5 (.int .u8 0) 1 rfl Try.underlying22 info5 rfl (by decide) (by omega) (.slice (some ⟨w7.heap.size, 0, none⟩) 0 0) [] x.f2 Al x.f2.length cl (fun _ => True) (fun _ => False) rfl rfl (nd_lit0 (below_size HB7.out)) (nd_u8 HQ.out) (fun _ _ h => h) (fun _ h => h.elim) (fun _ _ => trivial) (below_alloc HB7.out _) (below_size (below_alloc HB7.out _)) (by have := HXL.out; simp; omega) ?_; intro v84 w8 hn_ hb_ hg_ hat_; rw [List.nil_append] at hn_; obtain ⟨A84, c84, rfl⟩ := Kd.R_slice hn_; have HN8 := Aside0.mk hn_; have HB8 := Aside0.mk hb_; have HO8 := Aside0.mk (nd_at hat_); have HG8 := Aside0.mk (nd_grown hg_); clear hn_ hb_ hg_ hat_ q2_ qb_; obtain ⟨X3, x3, f0_, f1_, f2_, z0_, z2_, -, -⟩ := nd_elem (Kd.N_below HN7.out HG8.out) HX.out; have fb_ : g12 < w8.heap.size := Nat.lt_of_lt_of_le HT7.out (below_size HG8.out))
  | ((with_reducible refine gate_builtin (b := .append) (xs := #[.tmp 93, .tmp 94]) rfl ?_); at_builtin; refine Kd.R_append_rows (Kd.int .u8) (w0 := (w6.setCell ⟨g11, i * 3, none⟩ (.int .i64 fl))) (w6.setCell ⟨g11, i * 3, none⟩ (.int .i64 fl)).heap.size rfl (.tmp 93) (.tmp 94) 22 5 (.int .u8 0) 1 rfl Try.underlying22 info5 rfl (by decide) (by omega) (.slice A84 x.f2.length c84) x.f2 [9] (some ⟨w8.heap.size, 0, none⟩) 1 1 (fun _ => True) (fun _ => False) rfl rfl (nd_keep8 HN8.out (nd_off8 HO8.out HT7.out)) (nd_nine (nd_size _ _ _)) (fun _ _ h => h) (fun _ h => h.elim) (fun _ _ => trivial) (below_alloc (bS HB8.out HG7.out) _) (below_size (below_alloc (bS HB8.out HG7.out) _)) (by have := HXL.out; omega) ?_; intro v95 w9 hn_ hb_ hg_ hat_; obtain ⟨A95, c95, rfl⟩ := Kd.R_slice hn_; have HN9 := Aside0.mk hn_; have HB9 := Aside0.mk hb_; have HX9 := Aside0.mk (nd_same HG8.out hg_ HO8.out); have HO9 := Aside0.mk (nd_own95 HO8.out hat_ HG8.out); clear hn_ hb_ hg_ hat_ f0_ f1_; have r9_ : w9.cell? ⟨g12, i * 3 + 2, none⟩ = some (.slice A84 x.f2.length c84) := (World.cell?_of_block (HX9.out g12 HT7.out)).trans (World.cell?_setCell_same _ _ _ f2_); have s9_ : w9.frozen? ⟨g12, i * 3 + 2, none⟩ = false := ((World.frozen?_of_block (HX9.out g12 HT7.out)).trans (World.frozen?_setCell _ _ _ _)).trans z2_; clear f2_ z0_ z2_ fb_)
  | (go_at_call 23; have HF := Aside0.mk (show Below (w6.setCell ⟨g11, i * 3, none⟩ (.int .i64 fl)).heap.size (w6.setCell ⟨g11, i * 3, none⟩ (.int .i64 fl)) (w9.setCell ⟨g12, i * 3 + 2, none⟩ (.slice A95 (x.f2.length + 1) c95)) from bS HB9.out HG7.out); have HT := Aside0.mk (Kd.N_reads' (nd_turn fl HN6.out HX.out)).2; have HL := Aside0.mk (nd_long HN7.out HX.out HT7.out HG8.out HX9.out HN9.out (nd_off8 HO9.out HT7.out)); have HJ := Aside0.mk (show NdJ w (some ⟨g11, 0, none⟩) (some ⟨g12, 0, none⟩) (L.set i (Pure.flagA x fl)) (L.set i (Pure.moreA x)) (w9.setCell ⟨g12, i * 3 + 2, none⟩ (.slice A95 (x.f2.length + 1) c95)) from ⟨below_step (below_step H3.out.1 HS6.out) HF.out, Kd.C_below HT.out.2 HF.out, HL.out.1⟩); have hh := attr_Judge.calls A10' c10' (y1 ++ y2) 0 [] 0 0 1 0 0 [] (w9.setCell ⟨g12, i * 3 + 2, none⟩ (.slice A95 (x.f2.length + 1) c95)) (Kd.C_below (Kd.N_reads' HN5.out).2.2 (below_step (bS HB6.out HG6.out) HF.out)) (Kd.N_reads' HN5.out).2.1 HJ1.out; rw [List.length_append] at hh; (with_reducible refine hh.mono ?_); clear hh; rintro e w11 ⟨v1, v7, rfl, hv1, hv7, hb_⟩; obtain ⟨P1, p1, rfl⟩ := Kd.V_slice hv1; obtain ⟨Q1, q1, rfl⟩ := Kd.V_slice hv7; have H11 := Aside0.mk (HJ.out.below hb_); clear hv1 hv7 hb_ r9_ s9_)
  | (go_at_call 23; have HJ := Aside0.mk (H11.out.below (show Below w11.heap.size w11 ((w11.alloc (.cells #[.int .i64 0, .slice P1 0 p1, .int .i64 0, .int .i64 0] 27)).alloc (.cells #[.int .i64 0, .int .i64 0, .slice Q1 0 q1] 41)) from (below_alloc (below_alloc (Below.refl _ _) _) _))); have hh := attr_Judge.calls (some ⟨g11, 0, none⟩) c11 (L.set i (Pure.flagA x fl)) r0 r1 r2 r3 r4 r5 r6 r7 ((w11.alloc (.cells #[.int .i64 0, .slice P1 0 p1, .int .i64 0, .int .i64 0] 27)).alloc (.cells #[.int .i64 0, .int .i64 0, .slice Q1 0 q1] 41)) HJ.out.2.1 (by rw [List.length_set]; exact HT.out.1) HJ2.out; rw [List.length_set] at hh; (with_reducible refine hh.mono ?_); clear hh; rintro e w12 ⟨v1, v7, rfl, hv1, hv7, hb_⟩; obtain ⟨P2, p2, rfl⟩ := Kd.V_slice hv1; obtain ⟨Q2, q2, rfl⟩ := Kd.V_slice hv7; have H12 := Aside0.mk (HJ.out.below hb_); have G1 := Aside0.mk (blk_below (blk_alloc (heap_alloc_new w11 (.cells #[.int .i64 0, .slice P1 0 p1, .int .i64 0, .int .i64 0] 27)) (.cells #[.int .i64 0, .int .i64 0, .slice Q1 0 q1] 41)) hb_); have G2 := Aside0.mk (show w12.heap[w11.heap.size + 1]? = some (.cells #[.int .i64 0, .int .i64 0, .slice Q1 0 q1] 41 (0, 0)) from by have h_ := blk_below (heap_alloc_new (w11.alloc (.cells #[.int .i64 0, .slice P1 0 p1, .int .i64 0, .int .i64 0] 27)) (.cells #[.int .i64 0, .int .i64 0, .slice Q1 0 q1] 41)) hb_; rwa [World.size_alloc] at h_); clear hv1 hv7 hb_ HJ)
  | (go_at_call 23; have HJ := Aside0.mk (H12.out.below (show Below w12.heap.size w12 ((w12.alloc (.cells #[.int .i64 r0, .slice P2 r1.length p2, .int .i64 r2, .int .i64 r3] 27)).alloc (.cells #[.int .i64 r5, .int .i64 r6, .slice Q2 r7.length q2] 41)) from (below_alloc (below_alloc (Below.refl _ _) _) _))); have hh := attr_Judge.calls (some ⟨g12, 0, none⟩) c12 (L.set i (Pure.moreA x)) 0 [] 0 0 1 0 0 [] ((w12.alloc (.cells #[.int .i64 r0, .slice P2 r1.length p2, .int .i64 r2, .int .i64 r3] 27)).alloc (.cells #[.int .i64 r5, .int .i64 r6, .slice Q2 r7.length q2] 41)) HJ.out.2.2 HL.out.2 HJ3.out; rw [List.length_set] at hh; (with_reducible refine hh.mono ?_); clear hh; rintro e w13 ⟨v1, v7, rfl, hv1, hv7, hb_⟩; obtain ⟨P3, p3, rfl⟩ := Kd.V_slice hv1; obtain ⟨Q3, q3, rfl⟩ := Kd.V_slice hv7; have H13 := Aside0.mk (HJ.out.below hb_); have k1_ := blk_below (blk_below G1.out (show Below w12.heap.size w12 ((w12.alloc (.cells #[.int .i64 r0, .slice P2 r1.length p2, .int .i64 r2, .int .i64 r3] 27)).alloc (.cells #[.int .i64 r5, .int .i64 r6, .slice Q2 r7.length q2] 41)) from (below_alloc (below_alloc (Below.refl _ _) _) _))) hb_; have k2_ := blk_below (blk_below G2.out (show Below w12.heap.size w12 ((w12.alloc (.cells #[.int .i64 r0, .slice P2 r1.length p2, .int .i64 r2, .int .i64 r3] 27)).alloc (.cells #[.int .i64 r5, .int .i64 r6, .slice Q2 r7.length q2] 41)) from (below_alloc (below_alloc (Below.refl _ _) _) _))) hb_; have k3_ : w13.heap[w12.heap.size + 1]? = some (.cells #[.int .i64 r5, .int .i64 r6, .slice Q2 r7.length q2] 41 (0, 0)) := (by have h_ := blk_below (heap_alloc_new (w12.alloc (.cells #[.int .i64 r0, .slice P2 r1.length p2, .int .i64 r2, .int .i64 r3] 27)) (.cells #[.int .i64 r5, .int .i64 r6, .slice Q2 r7.length q2] 41)) hb_; rwa [World.size_alloc] at h_); obtain ⟨u0, u1, u2, u3, -, -, -, -⟩ := bc4 k1_; obtain ⟨v0_, v1_, v2_, -, -, -⟩ := bc3 k2_; obtain ⟨t0_, t1_, t2_, -, -, -⟩ := bc3 k3_; have l1_ := blk_lt k1_; have l2_ := blk_lt k2_; have l3_ := blk_lt k3_; have l4_ : w12.heap.size < w13.heap.size := Nat.lt_of_succ_lt l3_; clear hv1 hv7 hb_ HJ k1_ k2_ k3_))
 go_ret
 exact ⟨rfl, by with_reducible repeat first | exact H13.out.b | apply bA⟩
theorem ridgewaylaw07_AttrNeeds.calls (o : Int) (A : Option Addr) (c : Nat) (as_ : List Int) (h t k fl : Int) (w : World) (hr : Kd.C (Kd.int .i64) w A as_.length as_) (hc : as_.length ≤ c) (hf : ridgewaylaw07_AttrNeeds.f o as_ h t k fl = some true) :
  Calls Try.prog 7 #[.agg #[.int .i64 o, .slice A as_.length c, .int .i64 h, .int .i64 t], .int .i64 k, .int .i64 fl] w fun e w' => e = .returned (.bool true) ∧ Below w.heap.size w w' := by
 unfold ridgewaylaw07_AttrNeeds.f at hf
 by_cases cl : as_.length ≤ 9223372036854775807
 ·
  obtain ⟨b, hb, hs⟩ := Pure.sane_tot o as_ h t cl
  cases b
  ·
   exact nd_off o A c as_ h t k fl w hr hc hb
  have hs := hs rfl
  have hand : Go.bits .and .i64 k 65535 = k % 65536 := and_mask k 16 (by omega)
  have h1 : 0 ≤ k % 65536 := Int.emod_nonneg _ (by decide)
  have h2 := Int.tmod_nonneg 3 h1
  have h3 := Int.tmod_lt_of_pos (k % 65536) (show (0 : Int) < 3 by decide)
  obtain ⟨i, hi⟩ : ∃ i : Nat, Int.tmod (k % 65536) 3 = (i : Int) := ⟨(Int.tmod (k % 65536) 3).toNat, by omega⟩
  have hi3 : i < 3 := by omega
  rw [← hand] at hi
  have hel := Pure.el_len o as_ h hs.2.1 i
  obtain ⟨R, hR, hr35, hlr⟩ := Pure.ofL_sub o as_ h t
  have hL : (Pure.ofL o as_ h t).length = 3 + R.length := by rw [hR]; simp; omega
  by_cases hfl : Go.bits .and .i64 fl 192 = 64
  ·
   exact nd_on o A c as_ h t k fl w hr hc hb (Pure.ofL o as_ h t) _ _ i (Pure.elL o as_ h i) 0 rfl rfl (by omega) (by omega) hi3 (Pure.el_get o as_ h t i hi3) hel.1 hs.2.1 (Pure.of_eq 300 o as_ h t hb (by have := hs.2.1; omega) (by have := hs.2.1; omega)) hi (Pure.less_judge o as_ h t hs.2.1 i hi3) _ (Pure.turned_good o as_ h t hs i hi3 fl hfl) rfl (by simp [hfl]) (Pure.longer_judge o as_ h t hs i hi3)
  ·
   exact nd_on o A c as_ h t k fl w hr hc hb (Pure.ofL o as_ h t) _ _ i (Pure.elL o as_ h i) 0 rfl rfl (by omega) (by omega) hi3 (Pure.el_get o as_ h t i hi3) hel.1 hs.2.1 (Pure.of_eq 300 o as_ h t hb (by have := hs.2.1; omega) (by have := hs.2.1; omega)) hi (Pure.less_judge o as_ h t hs.2.1 i hi3) _ (Pure.turned_bad o as_ h t hs i hi3 fl hfl) rfl (by simp [hfl]) (Pure.longer_judge o as_ h t hs i hi3)
 ·
  rw [if_neg cl] at hf
  cases hf

/-- THE ONE PURE STATEMENT of ridgewaylaw07_AttrNeeds. -/
def ridgewaylaw07_AttrNeeds.Pure : Prop := ∀ (x0 : S27) (a1 : Int) (a2 : Int), (wf27 x0) → ((Lit.int .i64 a1).wf = true) → ((Lit.int .i64 a2).wf = true) → ridgewaylaw07_AttrNeeds.f (x0.f0) (x0.f1) (x0.f2) (x0.f3) a1 a2 = some true

end Go.Proofs.Ytfmhclbcoladpaa.E
