/- Each call of a Go function comes to what the Lean function of its name answers (written out by wip/tools/xprint.py, checked by Lean); conditions: those in each statement. -/
import Derived.Test.YthkbpiagggeicaaQx0
import Derived.Test.YthkbpiagggeicaaQx2
import Derived.Test.YthkbpiagggeicaaQx3
namespace Go.Proofs.Ythkbpiagggeicaa.Q
open Go.RowKit Go.Proofs.YthkbpiagggeicaaW.PrintWords Go.Proofs.YthkbpiagggeicaaW.PrintLast Go.Proofs.YthkbpiagggeicaaW.PrintMore Go.Proofs.YthkbpiagggeicaaW.PrintX
attribute [local go_sem] max2_int min2_int max_two min_two max_three min_three max_four min_four   -- for this text's walks alone
set_option linter.unusedVariables false
set_option linter.unusedSimpArgs false

/-! ### stream_Feed: function 8 -/
/-- The messages with which octets begin, what is left, and the note behind them. -/
def msgsF (K : Nat) : Nat → List Int → Option (List S43 × List Int × Int × Int × List Int)
 | 0, _ => none
 | j + 1, b => (msg_Get.f K b).bind fun r => if r.2.2.2.1 = 0 then (if r.2.2.1 = 0 then some ([], b, 0, 0, []) else if 0 ≤ r.2.2.1 ∧ r.2.2.1 ≤ (b.length : Int) then (msgsF K j (b.drop r.2.2.1.toNat)).bind fun q => some (⟨r.1, r.2.1⟩ :: q.1, q.2) else none) else some ([], b, r.2.2.2.1, r.2.2.2.2.1, r.2.2.2.2.2)
/-- Where the loop is: rounds that are left, the messages that have come, how many octets are behind it. -/
abbrev FS := Nat × List S43 × Nat
def okA (lo m k : Nat) : Prop := lo ≤ k ∧ k < m
def okN (m k : Nat) : Prop := m + 5 ≤ k
/-- The octets' own answer. -/
def goodF (K : Nat) (all : List Int) (R : List S43 × List Int × Int × Int × List Int) (s : FS) : Prop := s.2.2 ≤ all.length ∧ ∃ q, msgsF K s.1 (all.drop s.2.2) = some q ∧ R = (s.2.1 ++ q.1, q.2)
def restF (all : List Int) (lo m : Nat) (g4 : Nat) (w : World) (out : List S43) (att : Int) (Aall : Option Addr) (call : Nat) (W : World) : Prop :=
 (∃ vo, W.heap[m]? = some (.cells #[vo] 27 (0, 0)) ∧ Kd.N k43 43 W w.heap.size (okN m) vo out) ∧
 W.heap[m + 1]? = some (.cells #[.int .i64 att] 3 (0, 0)) ∧
 Kd.V (Kd.int .u8) 5 W 0 (okA lo m) (.slice Aall all.length call) all ∧
 W.heap[g4]? = some (.cells #[.slice none 0 0, .bool false] 26 (0, 0)) ∧ W.heap[g4 + 1]? = some (.cells #[.slice none 0 0] 27 (0, 0)) ∧ W.heap[g4 + 2]? = some (.cells #[.int .i64 0, .int .i64 0, .slice none 0 0] 29 (0, 0)) ∧
 Below w.heap.size w W
def boxF (lo m : Nat) (b : List Int) (W : World) : Prop := ∃ A c, W.heap[m + 2]? = some (.cells #[.slice A b.length c] 22 (0, 0)) ∧ Kd.V (Kd.int .u8) 5 W 0 (okA lo m) (.slice A b.length c) b
def iF (K : Nat) (all : List Int) (R : List S43 × List Int × Int × Int × List Int) (lo m g4 : Nat) (w : World) (Aall : Option Addr) (call : Nat) (s : FS) (W : World) : Prop :=
 goodF K all R s ∧ restF all lo m g4 w s.2.1 s.2.2 Aall call W ∧ boxF lo m (all.drop s.2.2) W
def iF' (K : Nat) (all : List Int) (R : List S43 × List Int × Int × Int × List Int) (lo m g4 : Nat) (w : World) (Aall : Option Addr) (call : Nat) (s : FS) (W : World) : Prop :=
 boxF lo m (all.drop s.2.2) W ∧ ∃ r : Int × List Int × Int × Int × Int × List Int, msg_Get.f K (all.drop s.2.2) = some r ∧ r.2.2.2.1 = 0 ∧ restF all lo m g4 w (s.2.1 ++ [⟨r.1, r.2.1⟩]) ((s.2.2 : Int) + r.2.2.1) Aall call W
def xF (K : Nat) (all : List Int) (lo m : Nat) (s : FS) (xs : Array Value) (W : World) : Prop := ∃ r : Int × List Int × Int × Int × Int × List Int, msg_Get.f K (all.drop s.2.2) = some r ∧ ∃ vo : Value, W.heap[m]? = some (.cells #[vo] 27 (0, 0)) ∧
 ((r.2.2.2.1 = 0 ∧ 0 < r.2.2.1 ∧ r.2.2.1 ≤ ((all.drop s.2.2).length : Int) ∧ ∃ v, xs = #[.int .i64 r.2.2.1, .iface 43 (.agg #[.int .i64 r.1, v])] ∧ Kd.V (Kd.int .u8) 5 W 0 (fun k => okN m k ∧ some k ≠ vo.ownBlock) v r.2.1) ∨
  (r.2.2.2.1 ≠ 0 ∧ ∃ v, xs = #[.int .i64 0, .iface 29 (.agg #[.int .i64 r.2.2.2.1, .int .i64 r.2.2.2.2.1, v])] ∧ Kd.V (Kd.int .u8) 5 W 0 (fun k => okN m k ∧ some k ≠ vo.ownBlock) v r.2.2.2.2.2))
def endF (R : List S43 × List Int × Int × Int × List Int) (lo m g4 : Nat) (w : World) (_s : FS) (W : World) : Prop :=
 R.2.2.1 ≠ 0 ∧ W.heap[g4]? = some (.cells #[.slice none 0 0, .bool true] 26 (0, 0)) ∧ ∃ vo, W.heap[g4 + 1]? = some (.cells #[vo] 27 (0, 0)) ∧ Kd.N k43 43 W w.heap.size (okN m) vo R.1 ∧
 (∃ v, W.heap[g4 + 2]? = some (.cells #[.int .i64 R.2.2.1, .int .i64 R.2.2.2.1, v] 29 (0, 0)) ∧ Kd.V (Kd.int .u8) 5 W 0 (fun k => okN m k ∧ some k ≠ vo.ownBlock) v R.2.2.2.2) ∧ Below w.heap.size w W
def finF (K : Nat) (all : List Int) (s : FS) : Prop := ∃ r : Int × List Int × Int × Int × Int × List Int, msg_Get.f K (all.drop s.2.2) = some r ∧ r.2.2.2.1 = 0 ∧ r.2.2.1 = 0
theorem okA_not {lo m k : Nat} (h : okA lo m k) : ¬ (k = m + 3 ∨ k = m + 4) := by unfold okA at h; omega
theorem okN_not {m k : Nat} (h : okN m k) : ¬ (k = m + 3 ∨ k = m + 4) := by unfold okN at h; omega
theorem okN_new {m k : Nat} (h : m + 5 ≤ k) : okN m k := h
theorem restF.turn {all : List Int} {lo m g4 : Nat} {w : World} {out : List S43} {att : Int} {Aall : Option Addr} {call : Nat} {W W' : World} (hg : g4 + 2 < lo) (hl : lo ≤ m) (hw : w.heap.size ≤ g4) (h : restF all lo m g4 w out att Aall call W) (ht : Turn (m + 3) W W') : restF all lo m g4 w out att Aall call W' := by
 obtain ⟨⟨vo, h1, h2⟩, h3, h4, h5, h6, h7, h8⟩ := h
 exact ⟨⟨vo, blk_kept h1 ht.1 (by omega), Kd.N_kept h2 ht.1 (fun k hk => okN_not hk)⟩, blk_kept h3 ht.1 (by omega), Kd.V_kept h4 ht.1 (fun k hk => okA_not hk), blk_kept h5 ht.1 (by omega), blk_kept h6 ht.1 (by omega), blk_kept h7 ht.1 (by omega), ht.2 w (by omega) h8⟩
theorem boxF.turn {lo m : Nat} {b : List Int} {W W' : World} (h : boxF lo m b W) (ht : Turn (m + 3) W W') : boxF lo m b W' := by
 obtain ⟨A, c, h1, h2⟩ := h
 exact ⟨A, c, blk_kept h1 ht.1 (by omega), Kd.V_kept h2 ht.1 (fun k hk => okA_not hk)⟩
theorem xF.turn {K : Nat} {all : List Int} {lo m : Nat} {s : FS} {xs : Array Value} {W W' : World} (h : xF K all lo m s xs W) (ht : Turn (m + 3) W W') : xF K all lo m s xs W' := by
 obtain ⟨r, h0, vo, hvo, ⟨h1, h2, h3, v, h4, h5⟩ | ⟨h1, v, h4, h5⟩⟩ := h
 ·
  exact ⟨r, h0, vo, blk_kept hvo ht.1 (by omega), .inl ⟨h1, h2, h3, v, h4, Kd.V_kept h5 ht.1 (fun k hk => okN_not hk.1)⟩⟩
 ·
  exact ⟨r, h0, vo, blk_kept hvo ht.1 (by omega), .inr ⟨h1, v, h4, Kd.V_kept h5 ht.1 (fun k hk => okN_not hk.1)⟩⟩
theorem endF.turn {R : List S43 × List Int × Int × Int × List Int} {lo m g4 : Nat} {w : World} {s : FS} {W W' : World} (hg : g4 + 2 < lo) (hl : lo ≤ m) (hw : w.heap.size ≤ g4) (h : endF R lo m g4 w s W) (ht : Turn (m + 3) W W') : endF R lo m g4 w s W' := by
 obtain ⟨h0, h1, vo, h2, h3, ⟨v, h4, h5⟩, h6⟩ := h
 exact ⟨h0, blk_kept h1 ht.1 (by omega), vo, blk_kept h2 ht.1 (by omega), Kd.N_kept h3 ht.1 (fun k hk => okN_not hk), ⟨v, blk_kept h4 ht.1 (by omega), Kd.V_kept h5 ht.1 (fun k hk => okN_not hk.1)⟩, ht.2 w (by omega) h6⟩
theorem iF.turn {K : Nat} {all : List Int} {R : List S43 × List Int × Int × Int × List Int} {lo m g4 : Nat} {w : World} {Aall : Option Addr} {call : Nat} {s : FS} {W W' : World} (hg : g4 + 2 < lo) (hl : lo ≤ m) (hw : w.heap.size ≤ g4) (h : iF K all R lo m g4 w Aall call s W) (ht : Turn (m + 3) W W') : iF K all R lo m g4 w Aall call s W' := ⟨h.1, h.2.1.turn hg hl hw ht, h.2.2.turn ht⟩
theorem iF'.turn {K : Nat} {all : List Int} {R : List S43 × List Int × Int × Int × List Int} {lo m g4 : Nat} {w : World} {Aall : Option Addr} {call : Nat} {s : FS} {W W' : World} (hg : g4 + 2 < lo) (hl : lo ≤ m) (hw : w.heap.size ≤ g4) (h : iF' K all R lo m g4 w Aall call s W) (ht : Turn (m + 3) W W') : iF' K all R lo m g4 w Aall call s W' := by
 obtain ⟨h0, r, h1, h2, h3⟩ := h
 exact ⟨h0.turn ht, r, h1, h2, h3.turn hg hl hw ht⟩
theorem newV {m : Nat} {w w' : World} {v vo : Value} {xs : List Int} {ok : Nat → Prop} (h : Kd.R (Kd.int .u8) 5 w' w.heap.size ok v xs) (hs : m + 5 ≤ w.heap.size) (hvo : ∀ k, vo.ownBlock = some k → k < w.heap.size) (b : Nat) : Kd.V (Kd.int .u8) 5 w' b (fun k => okN m k ∧ some k ≠ vo.ownBlock) v xs :=
 Kd.V_mono (base := b) (Kd.R_V (base' := b) (Kd.R_mono (Kd.R_bound h) (fun _ hk => hk.2.1))) (fun k hk => ⟨okN_new (Nat.le_trans hs hk), fun he => by have h1 := hvo k he.symm; have h2 : w.heap.size ≤ k := hk; omega⟩)
/-- A cut of octets that are shared. -/
theorem cutV (W : World) (A : Option Addr) (c : Nat) (b : List Int) (ok : Nat → Prop) (base : Nat) (n : Int) (h : Kd.V (Kd.int .u8) 5 W base ok (.slice A b.length c) b) (h0 : 0 ≤ n) (hn : n ≤ (b.length : Int)) :
  ∃ A1, (∀ W' : World, (Instr.slice 22 (.slice A b.length c) (some (.int .i64 n)) none none).run Try.prog W' = .ok (.slice A1 (b.drop n.toNat).length (c - n.toNat)) W') ∧ Kd.V (Kd.int .u8) 5 W base ok (.slice A1 (b.drop n.toNat).length (c - n.toNat)) (b.drop n.toNat) := by
 obtain ⟨i0, hi0, -, hsz, -⟩ := info_parts info5
 have hc := (Kd.V_at h).2.1
 have he : (b.drop n.toNat).length = b.length - n.toNat := by rw [List.length_drop]
 rw [he]
 refine ⟨if c = n.toNat then A else A.map (·.add (n.toNat * 1)), cut_from (P := Try.prog) 22 5 .i64 Try.underlying22 hi0 1 hsz A b.length c n h0 hn, ?_⟩
 rw [← he]
 exact Kd.V_mk (by rw [List.length_drop]; omega) (Kd.F_cut (Kd.V_F h) (by omega) hc)
attribute [local go_sem] Oper.semAt_some
set_option maxHeartbeats 8000000 in
set_option maxRecDepth 100000 in
theorem messages_ok (K : Nat) (all : List Int) (R : List S43 × List Int × Int × Int × List Int) (lo m g4 : Nat) (w : World) (Aall : Option Addr) (call : Nat) (hg : g4 + 2 < lo) (hlo : lo ≤ m) (hw : w.heap.size ≤ g4) (s0 : FS) :
  IterOk Fence.wide 4 Try.prog 27 #[.pointer (some ⟨m + 2, 0, none⟩)] (m + 3) (iF K all R lo m g4 w Aall call) (iF' K all R lo m g4 w Aall call) (endF R lo m g4 w) (xF K all lo m) (finF K all) s0 := by
 intro l B Bx hBk hBlt hY W hi hB
 have HY := Aside0.mk hY
 have HBk := Aside0.mk hBk
 have HBlt := Aside0.mk hBlt
 have HI := Aside0.mk hi
 have HB := Aside0.mk hB
 clear hY hBk hBlt hi hB
 refine callsIn_of_wp Try.func27 rfl trivial ?_ rfl
 simp only [Try.ntmps27, List.size_toArray, List.length_cons, List.length_nil, Nat.reduceAdd, Nat.reduceSub, Array.replicate_succ, Array.replicate_zero, List.push_toArray, List.append_toArray, List.nil_append, List.cons_append]
 gi_wp2
 gi_loopg [] s0.1 (fun kq w' => ∃ s : FS, Aside0 (s.1 = kq) ∧ Aside0 (iF K all R lo m g4 w Aall call s w') ∧ Aside0 (B w'))
 case atStart => exact ⟨s0, ⟨rfl⟩, HI, HB⟩
 case round =>
  clear HI HB
  obtain ⟨s, hs, HI, HB⟩ := hrel
  obtain ⟨j, out, p⟩ := s
  obtain rfl : j = gk := hs.out
  obtain ⟨⟨hp, q, hq, hRq⟩, hrest, A, cA, hbx, hV⟩ := HI.out
  dsimp only at hp hq hRq hrest hbx hV
  obtain ⟨b, hbd⟩ : ∃ b, b = all.drop p := ⟨_, rfl⟩
  rw [← hbd] at hq hbx hV
  cases j with
  | zero => simp [msgsF] at hq
  | succ k1 =>
   simp only [msgsF] at hq
   obtain ⟨⟨t, bd, n, c, sc, dd⟩, hgm, hq⟩ := Option.bind_eq_some_iff.mp hq
   dsimp only at hq
   have hsz := HBlt.out wr HB.out
   have x0 : wr.cell? ⟨m + 2, 0, none⟩ = some (.slice A b.length cA) := (blk_cell hbx 0).trans rfl
   have HV := Aside0.mk hV
   have HG := Aside0.mk hgm
   obtain ⟨vo, hvo, hVO⟩ := hrest.1
   have HVO := Aside0.mk hvo
   have HVL := Aside0.mk (Kd.N_lt hVO)
   clear hvo hVO
   have HRest := Aside0.mk hrest
   have HBx := Aside0.mk hbx
   have HRq := Aside0.mk hRq
   have HBD := Aside0.mk hbd
   clear hV hgm hrest hbx hRq hbd
   by_cases g1 : c = 0
   rotate_left
   ·
    rw [if_neg g1] at hq
    have d1 : (c == 0) = false := by simp [g1]
    have d2 : (c != 0) = true := by simp [g1]
    gi_wp2_with (first
     | (refine ⟨trivial, ?_⟩; gi_at_call 20; (with_reducible refine (callsIn_wide.2 (msg_Get.calls K A cA b t bd n c sc dd wr (Kd.V_reads' HV.out).2.2 (Kd.V_reads' HV.out).2.1 HG.out)).mono ?_); rintro e w3 ⟨v1, v5, rfl, hR1, hR5, hb3⟩; obtain ⟨A1, c1, rfl⟩ := Kd.V_slice (Kd.R_V (base' := 0) hR1); obtain ⟨A5, c5, rfl⟩ := Kd.V_slice (Kd.R_V (base' := 0) hR5); have hb5 := below_alloc (below_alloc hb3 (Obj.cells #[.int .i64 t, .slice A1 bd.length c1] 43)) (Obj.cells #[.int .i64 c, .int .i64 sc, .slice A5 dd.length c5] 29); have HI5 := Aside0.mk (HI.out.turn hg hlo hw (Turn.below hb5)); have HB5 := Aside0.mk (HBk.out _ _ HB.out (Fixed.refl.below hsz hb5)); obtain ⟨fn, tmps, assign, body, hy, hR⟩ := HY.out (k1 + 1, out, p) #[.int .i64 0, .iface 29 (.agg #[.int .i64 c, .int .i64 sc, .slice A5 dd.length c5])] ((w3.alloc (Obj.cells #[.int .i64 t, .slice A1 bd.length c1] 43)).alloc (Obj.cells #[.int .i64 c, .int .i64 sc, .slice A5 dd.length c5] 29)) HI5.out HB5.out ⟨(t, bd, n, c, sc, dd), (by rw [← HBD.out]; exact HG.out), vo, blk_below HVO.out hb5, .inr ⟨g1, _, rfl, Kd.V_alloc (Kd.V_alloc (newV hR5 hsz HVL.out 0) _) _⟩⟩; have HR := Aside0.mk hR; clear hR hR1 hR5 hb3 hb5))
    refine HR.out.mono ?_
    rintro e W6 (⟨rfl, hI6, hB6⟩ | ⟨rfl, hX6, hBx6⟩)
    ·
     obtain ⟨-, r, hr1, hr2, -⟩ := hI6
     rw [← HBD.out, HG.out] at hr1
     cases hr1
     exact absurd hr2 g1
    ·
     gi_wp2
     refine bodyPost_ret (results_none rfl _ _ _) rfl ?_
     exact ⟨⟨_, rfl⟩, .inr ⟨_, hX6, hBx6⟩⟩
   ·
    subst g1
    rw [if_pos rfl] at hq
    by_cases g2 : n = 0
    ·
     subst g2
     clear hq
     gi_wp2_with (first
      | (refine ⟨trivial, ?_⟩; gi_at_call 20; (with_reducible refine (callsIn_wide.2 (msg_Get.calls K A cA b t bd 0 0 sc dd wr (Kd.V_reads' HV.out).2.2 (Kd.V_reads' HV.out).2.1 HG.out)).mono ?_); rintro e w3 ⟨v1, v5, rfl, hR1, hR5, hb3⟩; obtain ⟨A1, c1, rfl⟩ := Kd.V_slice (Kd.R_V (base' := 0) hR1); obtain ⟨A5, c5, rfl⟩ := Kd.V_slice (Kd.R_V (base' := 0) hR5); have hb5 := below_alloc (below_alloc hb3 (Obj.cells #[.int .i64 t, .slice A1 bd.length c1] 43)) (Obj.cells #[.int .i64 0, .int .i64 sc, .slice A5 dd.length c5] 29); have HI5 := Aside0.mk (HI.out.turn hg hlo hw (Turn.below hb5)); have HB5 := Aside0.mk (HBk.out _ _ HB.out (Fixed.refl.below hsz hb5)); clear hR1 hR5 hb3 hb5))
     refine ⟨fun _ h => (by cases h), ?_⟩
     gi_wp2
     refine bodyPost_ret (results_none rfl _ _ _) rfl ?_
     exact ⟨⟨_, rfl⟩, .inl ⟨(k1 + 1, out, p), ⟨(t, bd, 0, 0, sc, dd), (by rw [← HBD.out]; exact HG.out), rfl, rfl⟩, HI5.out, HB5.out⟩⟩
    ·
     rw [if_neg g2] at hq
     have d3 : (n == 0) = false := by simp [g2]
     by_cases g3 : 0 ≤ n ∧ n ≤ (b.length : Int)
     rotate_left
     ·
      rw [if_neg g3] at hq
      cases hq
     rw [if_pos g3] at hq
     obtain ⟨q1, hq1, hq⟩ := Option.bind_eq_some_iff.mp hq
     have HQ1 := Aside0.mk hq1
     have HQ := Aside0.mk hq
     clear hq1 hq
     obtain ⟨g4_, g5_⟩ := g3
     gi_wp2_with (first
      | (refine ⟨trivial, ?_⟩; gi_at_call 20; (with_reducible refine (callsIn_wide.2 (msg_Get.calls K A cA b t bd n 0 sc dd wr (Kd.V_reads' HV.out).2.2 (Kd.V_reads' HV.out).2.1 HG.out)).mono ?_); rintro e w3 ⟨v1, v5, rfl, hR1, hR5, hb3⟩; obtain ⟨A1, c1, rfl⟩ := Kd.V_slice (Kd.R_V (base' := 0) hR1); obtain ⟨A5, c5, rfl⟩ := Kd.V_slice (Kd.R_V (base' := 0) hR5); have hb5 := below_alloc (below_alloc hb3 (Obj.cells #[.int .i64 t, .slice A1 bd.length c1] 43)) (Obj.cells #[.int .i64 0, .int .i64 sc, .slice A5 dd.length c5] 29); have HI5 := Aside0.mk (HI.out.turn hg hlo hw (Turn.below hb5)); have HB5 := Aside0.mk (HBk.out _ _ HB.out (Fixed.refl.below hsz hb5)); obtain ⟨fn, tmps, assign, body, hy, hR⟩ := HY.out (k1 + 1, out, p) #[.int .i64 n, .iface 43 (.agg #[.int .i64 t, .slice A1 bd.length c1])] ((w3.alloc (Obj.cells #[.int .i64 t, .slice A1 bd.length c1] 43)).alloc (Obj.cells #[.int .i64 0, .int .i64 sc, .slice A5 dd.length c5] 29)) HI5.out HB5.out ⟨(t, bd, n, 0, sc, dd), (by rw [← HBD.out]; exact HG.out), vo, blk_below HVO.out hb5, .inl ⟨rfl, (by show 0 < n; omega), (by rw [← HBD.out]; exact g5_), _, rfl, Kd.V_alloc (Kd.V_alloc (newV hR1 hsz HVL.out 0) _) _⟩⟩; have HR := Aside0.mk hR; clear hR hR1 hR5 hb3 hb5))
     refine HR.out.mono ?_
     rintro e W6 (⟨rfl, hI6, hB6⟩ | ⟨rfl, hX6, hBx6⟩)
     ·
      obtain ⟨⟨A6, c6, hbx6, hV6⟩, r, hr1, hr2, hrest6⟩ := hI6
      rw [← HBD.out, HG.out] at hr1
      cases hr1
      dsimp only at hrest6 hbx6 hV6
      rw [← HBD.out] at hbx6 hV6
      have x6 : W6.cell? ⟨m + 2, 0, none⟩ = some (.slice A6 b.length c6) := (blk_cell hbx6 0).trans rfl
      have f6 : W6.frozen? ⟨m + 2, 0, none⟩ = false := blk_frozen hbx6 0
      obtain ⟨A7, hcut, hV7⟩ := cutV W6 A6 c6 b _ 0 n hV6 g4_ g5_
      have HX6 := Aside0.mk hbx6
      have HV7 := Aside0.mk hV7
      have HREST6 := Aside0.mk hrest6
      have HB6 := Aside0.mk hB6
      clear hbx6 hV6 hV7 hrest6 hB6
      gi_wp2
      gi_roundg k1
      case measure => omega
      case rel =>
       have e1 := HBD.out
       have e2 : b.length = all.length - p := by rw [e1, List.length_drop]
       have e3 : b.drop n.toNat = all.drop (p + n.toNat) := by rw [e1, List.drop_drop]
       have e4 : q = (⟨t, bd⟩ :: q1.1, q1.2) := (Option.some.inj HQ.out).symm
       have e5 := HRq.out
       rw [e4] at e5
       have e6 := HQ1.out
       rw [e3] at e6
       have e7 := HV7.out
       rw [List.length_drop] at e7
       obtain ⟨⟨vo, h1, h2⟩, h3, h4, h5, h6, h7, h8⟩ := HREST6.out
       have e8 : ∀ k, okN m k → k ≠ m + 2 := fun k hk => by unfold okN at hk; omega
       have e8a : ∀ k, okA lo m k → k ≠ m + 2 := fun k hk => by unfold okA at hk; omega
       have e9 : ((p + n.toNat : Nat) : Int) = (p : Int) + n := by omega
       refine ⟨(k1, out ++ [⟨t, bd⟩], p + n.toNat), ⟨rfl⟩, ⟨⟨by show p + n.toNat ≤ all.length; omega, q1, e6, by rw [e5]; simp⟩, ⟨⟨vo, blk_far h1 (p := ⟨m + 2, 0, none⟩) (by show m ≠ m + 2; omega) _, Kd.N_far h2 (p := ⟨m + 2, 0, none⟩) e8 _⟩, by rw [e9]; exact blk_far h3 (p := ⟨m + 2, 0, none⟩) (by show m + 1 ≠ m + 2; omega) _, Kd.V_far h4 (p := ⟨m + 2, 0, none⟩) e8a _, blk_far h5 (p := ⟨m + 2, 0, none⟩) (by show g4 ≠ m + 2; omega) _, blk_far h6 (p := ⟨m + 2, 0, none⟩) (by show g4 + 1 ≠ m + 2; omega) _, blk_far h7 (p := ⟨m + 2, 0, none⟩) (by show g4 + 2 ≠ m + 2; omega) _, set_below (g := m + 2) (j := 0) _ h8 (by omega)⟩, ?_⟩, ⟨HBk.out _ _ HB6.out (Fixed.refl.set (by show m + 2 ≠ m + 3; omega) (by show m + 2 ≠ m + 3 + 1; omega) _)⟩⟩
       refine ⟨A7, c6 - n.toNat, ?_, ?_⟩
       ·
        show _ = some (Obj.cells #[.slice A7 (all.drop (p + n.toNat)).length (c6 - n.toNat)] _ _)
        rw [← e3, List.length_drop]
        exact blk_put HX6.out 0 _ rfl
       ·
        show Kd.V (Kd.int .u8) 5 _ 0 (okA lo m) (.slice A7 (all.drop (p + n.toNat)).length (c6 - n.toNat)) (all.drop (p + n.toNat))
        rw [← e3, List.length_drop]
        exact Kd.V_far e7 (p := ⟨m + 2, 0, none⟩) e8a _
     ·
      gi_wp2
      refine bodyPost_ret (results_none rfl _ _ _) rfl ?_
      exact ⟨⟨_, rfl⟩, .inr ⟨_, hX6, hBx6⟩⟩
def feedPost (w : World) (R : List S43 × List Int × Int × Int × List Int) (e : Ending) (w' : World) : Prop := ∃ v0_ v2_ v5_ : Value, e = .returned (.tuple #[.agg #[v0_, .bool (R.2.2.1 != 0)], v2_, .agg #[.int .i64 (if R.2.2.1 = 0 then 0 else R.2.2.1), .int .i64 (if R.2.2.1 = 0 then 0 else R.2.2.2.1), v5_]]) ∧
   Kd.V (Kd.int .u8) 5 w' w.heap.size (fun k_ => w.heap.size ≤ k_ ∧ some k_ ≠ (v2_ : Value).ownBlock) v0_ (if R.2.2.1 = 0 then R.2.1 else []) ∧ Kd.N k43 43 w' w.heap.size (fun k_ => w.heap.size ≤ k_) v2_ R.1 ∧ Kd.V (Kd.int .u8) 5 w' w.heap.size (fun k_ => w.heap.size ≤ k_ ∧ some k_ ≠ (v2_ : Value).ownBlock) v5_ (if R.2.2.1 = 0 then [] else R.2.2.2.2) ∧ Below w.heap.size w w'
theorem feed_size (w : World) (a : Addr) (v : Value) : (w.setCell a v).heap.size = w.heap.size := by simp [World.setCell]
theorem msgsF_note {K j : Nat} {b : List Int} {r : Int × List Int × Int × Int × Int × List Int} {q : List S43 × List Int × Int × Int × List Int} (h : msgsF K j b = some q) (hr : msg_Get.f K b = some r) (hc : r.2.2.2.1 ≠ 0) : q = ([], b, r.2.2.2.1, r.2.2.2.2.1, r.2.2.2.2.2) := by
 cases j with
 | zero => simp [msgsF] at h
 | succ j =>
  simp only [msgsF, hr, Option.bind_some] at h
  rw [if_neg hc] at h
  exact (Option.some.inj h).symm
theorem msgsF_end {K j : Nat} {b : List Int} {r : Int × List Int × Int × Int × Int × List Int} {q : List S43 × List Int × Int × Int × List Int} (h : msgsF K j b = some q) (hr : msg_Get.f K b = some r) (hc : r.2.2.2.1 = 0) (hn : r.2.2.1 = 0) : q = ([], b, 0, 0, []) := by
 cases j with
 | zero => simp [msgsF] at h
 | succ j =>
  simp only [msgsF, hr, Option.bind_some] at h
  rw [if_pos hc, if_pos hn] at h
  exact (Option.some.inj h).symm
theorem feed_puts {W : World} {g : Nat} (h4 : W.heap[g]? = some (.cells #[.slice none 0 0, .bool false] 26 (0, 0))) (h5 : W.heap[g + 1]? = some (.cells #[.slice none 0 0] 27 (0, 0))) (h6 : W.heap[g + 2]? = some (.cells #[.int .i64 0, .int .i64 0, .slice none 0 0] 29 (0, 0))) (v0 v2 v5 c s b : Value) :
  ((((((W.setCell ⟨g, 0, none⟩ v0).setCell ⟨g, 1, none⟩ b).setCell ⟨g + 1, 0, none⟩ v2).setCell ⟨g + 1 + 1, 0, none⟩ c).setCell ⟨g + 1 + 1, 1, none⟩ s).setCell ⟨g + 1 + 1, 2, none⟩ v5).heap[g]? = some (.cells #[v0, b] 26 (0, 0)) ∧
  ((((((W.setCell ⟨g, 0, none⟩ v0).setCell ⟨g, 1, none⟩ b).setCell ⟨g + 1, 0, none⟩ v2).setCell ⟨g + 1 + 1, 0, none⟩ c).setCell ⟨g + 1 + 1, 1, none⟩ s).setCell ⟨g + 1 + 1, 2, none⟩ v5).heap[g + 1]? = some (.cells #[v2] 27 (0, 0)) ∧
  ((((((W.setCell ⟨g, 0, none⟩ v0).setCell ⟨g, 1, none⟩ b).setCell ⟨g + 1, 0, none⟩ v2).setCell ⟨g + 1 + 1, 0, none⟩ c).setCell ⟨g + 1 + 1, 1, none⟩ s).setCell ⟨g + 1 + 1, 2, none⟩ v5).heap[g + 2]? = some (.cells #[c, s, v5] 29 (0, 0)) ∧
  ∀ k, k ≠ g → k ≠ g + 1 → k ≠ g + 2 → ((((((W.setCell ⟨g, 0, none⟩ v0).setCell ⟨g, 1, none⟩ b).setCell ⟨g + 1, 0, none⟩ v2).setCell ⟨g + 1 + 1, 0, none⟩ c).setCell ⟨g + 1 + 1, 1, none⟩ s).setCell ⟨g + 1 + 1, 2, none⟩ v5).heap[k]? = W.heap[k]? := by
 have hs : ∀ (W : World) (k j : Nat) (i : Nat) (v : Value), i ≠ k → (W.setCell ⟨k, j, none⟩ v).heap[i]? = W.heap[i]? := fun W k j i v h => Below.heap_setCell W ⟨k, j, none⟩ v i h
 refine ⟨?_, ?_, ?_, fun k k1 k2 k3 => ?_⟩
 ·
  rw [hs _ _ _ _ _ (by omega), hs _ _ _ _ _ (by omega), hs _ _ _ _ _ (by omega), hs _ _ _ _ _ (by omega)]
  exact blk_put (blk_put h4 0 _ rfl) 1 _ rfl
 ·
  rw [hs _ _ _ _ _ (by omega), hs _ _ _ _ _ (by omega), hs _ _ _ _ _ (by omega)]
  refine blk_put (cs := #[.slice none 0 0]) ?_ 0 _ rfl
  rw [hs _ _ _ _ _ (by omega), hs _ _ _ _ _ (by omega)]
  exact h5
 ·
  refine blk_put (cs := #[c, s, .slice none 0 0]) (blk_put (cs := #[c, .int .i64 0, .slice none 0 0]) (blk_put (cs := #[.int .i64 0, .int .i64 0, .slice none 0 0]) ?_ 0 _ rfl) 1 _ rfl) 2 _ rfl
  rw [hs _ _ _ _ _ (by omega), hs _ _ _ _ _ (by omega), hs _ _ _ _ _ (by omega)]
  exact h6
 ·
  rw [hs _ _ _ _ _ (by omega), hs _ _ _ _ _ (by omega), hs _ _ _ _ _ (by omega), hs _ _ _ _ _ (by omega), hs _ _ _ _ _ (by omega), hs _ _ _ _ _ (by omega)]
theorem msgsF_len (K : Nat) : ∀ (j : Nat) (b : List Int) (q : List S43 × List Int × Int × Int × List Int), msgsF K j b = some q → q.1.length ≤ j := by
 intro j
 induction j with
 | zero => intro b q h; simp [msgsF] at h
 | succ j ih =>
  intro b q h
  simp only [msgsF] at h
  obtain ⟨r, hr, h⟩ := Option.bind_eq_some_iff.mp h
  by_cases c : r.2.2.2.1 = 0
  ·
   rw [if_pos c] at h
   by_cases n : r.2.2.1 = 0
   ·
    rw [if_pos n] at h; cases h; simp
   ·
    rw [if_neg n] at h
    by_cases g : 0 ≤ r.2.2.1 ∧ r.2.2.1 ≤ (b.length : Int)
    ·
     rw [if_pos g] at h
     obtain ⟨q', hq', h⟩ := Option.bind_eq_some_iff.mp h
     cases h
     have := ih _ _ hq'
     simp; omega
    ·
     rw [if_neg g] at h; cases h
  ·
   rw [if_neg c] at h; cases h; simp
theorem taM_ : ∀ (w : World) (v : Value), (Instr.typeAssert (.iface 43 v) 20 43 true).run Try.prog w = .ok (.tuple #[v, .bool true]) w := fun w v => rfl
theorem taN_ : ∀ (w : World) (v : Value), (Instr.typeAssert (.iface 29 v) 20 43 true).run Try.prog w = .ok (.tuple #[.agg #[.int .i64 0, .slice none 0 0], .bool false]) w := fun w v => by first | rfl | kernel_rfl
theorem taO_ : ∀ (w : World) (v : Value), (Instr.typeAssert (.iface 29 v) 20 29 false).run Try.prog w = .ok v w := fun w v => rfl
/-- What the octets come to behind a state. -/
def feedF (all : List Int) : Option (List Int × Bool × List S43 × Int × Int × List Int) :=
 if all.length < 1000000000 then (msgsF 100 (all.length + 1) all).map fun R => if R.2.2.1 = 0 then (R.2.1, false, R.1, 0, 0, []) else ([], true, R.1, R.2.2.1, R.2.2.2.1, R.2.2.2.2) else none
def stream_Feed.f (b0 : List Int) (bad : Bool) (b : List Int) : Option (List Int × Bool × List S43 × Int × Int × List Int) :=
 (stream_Sane.f 100 b0 bad).bind fun ok => if ok = true then (if bad = true then some (b0, true, [], 0, 0, []) else feedF (b0 ++ b)) else feedF b
theorem hmfF_ : ∀ (fn : Fn) (first cap : Array Value) (w : World), (Instr.makeFunc fn first cap).run Try.prog w = .ok (.func fn first cap) w := fun _ _ _ _ => rfl
set_option maxHeartbeats 8000000 in
theorem messages_calls (A : Option Addr) (n c : Nat) (w : World) :
  Calls Try.prog 18 #[.slice A n c] w fun e w' => e = .returned (.func (.func 27) #[] #[.pointer (some ⟨w.heap.size, 0, none⟩)]) ∧ w' = w.alloc (.cells #[.slice A n c] 22) := by
 have hmf := hmfF_
 go_enter Try.func18, Try.ntmps18
 go_wp2
 go_ret
 exact ⟨rfl, rfl⟩
theorem feed_boxes {A0_0 : Option Addr} {n c0_0 : Nat} {bad : Bool} {w w1 : World} (hb : Below ((((w.alloc (.cells #[.slice A0_0 n c0_0, .bool bad] 26)).alloc (.cells #[.slice none 0 0, .bool false] 26)).alloc (.cells #[.slice none 0 0] 27)).alloc (.cells #[.int .i64 0, .int .i64 0, .slice none 0 0] 29)).heap.size ((((w.alloc (.cells #[.slice A0_0 n c0_0, .bool bad] 26)).alloc (.cells #[.slice none 0 0, .bool false] 26)).alloc (.cells #[.slice none 0 0] 27)).alloc (.cells #[.int .i64 0, .int .i64 0, .slice none 0 0] 29)) w1) :
  w1.heap[w.heap.size]? = some (.cells #[.slice A0_0 n c0_0, .bool bad] 26 (0, 0)) ∧ w1.heap[w.heap.size + 1]? = some (.cells #[.slice none 0 0, .bool false] 26 (0, 0)) ∧ w1.heap[w.heap.size + 2]? = some (.cells #[.slice none 0 0] 27 (0, 0)) ∧ w1.heap[w.heap.size + 3]? = some (.cells #[.int .i64 0, .int .i64 0, .slice none 0 0] 29 (0, 0)) ∧ Below w.heap.size w w1 ∧ w.heap.size + 4 ≤ w1.heap.size := by
 have s1 : ∀ (W : World) (o : Obj), (W.alloc o).heap.size = W.heap.size + 1 := fun W o => by simp only [World.alloc, Array.size_push]
 have e1 := blk_below (blk_alloc (blk_alloc (blk_alloc (heap_alloc_new w _) _) _) _) hb
 have e2 := blk_below (blk_alloc (blk_alloc (heap_alloc_new (w.alloc _) _) _) _) hb
 have e3 := blk_below (blk_alloc (heap_alloc_new ((w.alloc _).alloc _) _) _) hb
 have e4 := blk_below (heap_alloc_new (((w.alloc _).alloc _).alloc _) _) hb
 simp only [s1] at e2 e3 e4
 have hz := hb.size
 simp only [s1] at hz
 exact ⟨e1, e2, e3, e4, below_step (below_alloc (below_alloc (below_alloc (below_alloc (Below.refl _ _) _) _) _) _) hb, hz⟩
set_option maxHeartbeats 8000000 in
set_option maxRecDepth 100000 in
theorem feed_bad (A0_0 : Option Addr) (c0_0 : Nat) (l0_0 : List Int) (A1 : Option Addr) (c1 : Nat) (l1 : List Int) (w : World) (hr0_0 : Kd.C (Kd.int .u8) w A0_0 l0_0.length l0_0) (hc0_0 : l0_0.length ≤ c0_0) (hs : stream_Sane.f 100 l0_0 true = some true) :
  Calls Try.prog 8 #[.agg #[.slice A0_0 l0_0.length c0_0, .bool true], .slice A1 l1.length c1] w fun e w' => e = .returned (.tuple #[.agg #[.slice A0_0 l0_0.length c0_0, .bool true], .slice none 0 0, .agg #[.int .i64 0, .int .i64 0, .slice none 0 0]]) ∧ Below w.heap.size w w' := by
 have HR := Aside0.mk hr0_0
 have HC := Aside0.mk hc0_0
 have HS := Aside0.mk hs
 clear hr0_0 hc0_0 hs
 go_enter Try.func8, Try.ntmps8
 go_wp2_with (first | (go_at_call 10; (with_reducible refine (stream_Sane.calls 100 _ _ l0_0 true true _ (Kd.C_alloc (Kd.C_alloc (Kd.C_alloc (Kd.C_alloc HR.out _) _) _) _) HC.out HS.out).mono ?_); rintro e w1 ⟨rfl, hb⟩; obtain ⟨k1, k2, k3, k4, kB, kz⟩ := feed_boxes hb; have x0 : w1.cell? ⟨w.heap.size, 0, none⟩ = some (.slice A0_0 l0_0.length c0_0) := (blk_cell k1 0).trans rfl; have x1 : w1.cell? ⟨w.heap.size, 1, none⟩ = some (.bool true) := (blk_cell k1 1).trans rfl; have x2 : w1.cell? ⟨w.heap.size + 1, 0, none⟩ = some (.slice none 0 0) := (blk_cell k2 0).trans rfl; have x3 : w1.cell? ⟨w.heap.size + 1, 1, none⟩ = some (.bool false) := (blk_cell k2 1).trans rfl; have x4 : w1.cell? ⟨w.heap.size + 2, 0, none⟩ = some (.slice none 0 0) := (blk_cell k3 0).trans rfl; have x5 : w1.cell? ⟨w.heap.size + 3, 0, none⟩ = some (.int .i64 0) := (blk_cell k4 0).trans rfl; have x6 : w1.cell? ⟨w.heap.size + 3, 1, none⟩ = some (.int .i64 0) := (blk_cell k4 1).trans rfl; have x7 : w1.cell? ⟨w.heap.size + 3, 2, none⟩ = some (.slice none 0 0) := (blk_cell k4 2).trans rfl; have f2 := blk_frozen k2 0; have f3 := blk_frozen k2 1; have f4 := blk_frozen k3 0; have f5 := blk_frozen k4 0; have f6 := blk_frozen k4 1; have f7 := blk_frozen k4 2; have KB := Aside0.mk kB; clear hb k1 k2 k3 k4 kB))
 refine bodyPost_ret (v := .tuple #[.agg #[.slice A0_0 l0_0.length c0_0, .bool true], .slice none 0 0, .agg #[.int .i64 0, .int .i64 0, .slice none 0 0]]) ?_ rfl ⟨rfl, ?_⟩
 ·
  simp [results, Try.results8, go_sem, x0, x1, x2, x3, x4, x5, x6, x7]
 ·
  exact set_below _ (set_below _ (set_below _ (set_below _ (set_below _ (set_below _ KB.out (by omega)) (by omega)) (by omega)) (by omega)) (by omega)) (by omega)
theorem C_two {W : World} {g : Nat} {A A1 : Option Addr} {c c1 : Nat} {b b1 : List Int} (h : W.heap[g]? = some (.cells #[.slice A b.length c, .slice A1 b1.length c1] 22 (0, 0))) (hc : b.length ≤ c) (hA : Kd.C (Kd.int .u8) W A b.length b) (hc1 : b1.length ≤ c1) (hA1 : Kd.C (Kd.int .u8) W A1 b1.length b1) :
  Kd.C (Kd.slice 5 (Kd.int .u8)) W (some ⟨g, 0, none⟩) 2 [b, b1] := by
 refine ⟨rfl, by decide, fun _ => ⟨_, rfl, fun j p hj => ?_⟩⟩
 rcases j with _ | _ | j
 ·
  simp only [List.getElem?_cons_zero, Option.some.injEq] at hj
  subst hj
  refine ⟨[.slice A b.length c], rfl, ⟨A, c, rfl, hc, hA⟩, fun i u hu => ?_⟩
  rcases i with _ | i
  ·
   simp only [List.getElem?_cons_zero, Option.some.injEq] at hu
   subst hu
   exact (blk_cell h 0).trans rfl
  ·
   simp at hu
 ·
  simp only [List.getElem?_cons_succ, List.getElem?_cons_zero, Option.some.injEq] at hj
  subst hj
  refine ⟨[.slice A1 b1.length c1], rfl, ⟨A1, c1, rfl, hc1, hA1⟩, fun i u hu => ?_⟩
  rcases i with _ | i
  ·
   simp only [List.getElem?_cons_zero, Option.some.injEq] at hu
   subst hu
   exact (blk_cell h 1).trans rfl
  ·
   simp at hu
 ·
  simp at hj
set_option maxHeartbeats 8000000 in
set_option maxRecDepth 100000 in
theorem feed_go (A0_0 : Option Addr) (c0_0 : Nat) (l0_0 : List Int) (A1 : Option Addr) (c1 : Nat) (l1 all : List Int) (R : List S43 × List Int × Int × Int × List Int) (w : World) (hr0_0 : Kd.C (Kd.int .u8) w A0_0 l0_0.length l0_0) (hc0_0 : l0_0.length ≤ c0_0) (hr1 : Kd.C (Kd.int .u8) w A1 l1.length l1) (hc1 : l1.length ≤ c1)
  (hs : stream_Sane.f 100 l0_0 false = some true) (hall : all = l0_0 ++ l1) (hl : all.length < 1000000000) (hm : msgsF 100 (all.length + 1) all = some R) :
  Calls Try.prog 8 #[.agg #[.slice A0_0 l0_0.length c0_0, .bool false], .slice A1 l1.length c1] w (feedPost w R) := by
 have HR := Aside0.mk hr0_0
 have HC := Aside0.mk hc0_0
 have HR1 := Aside0.mk hr1
 have HC1 := Aside0.mk hc1
 have HS := Aside0.mk hs
 have HL := Aside0.mk hl
 have HRL := Aside0.mk (show R.1.length ≤ 1000000000 from by have := msgsF_len 100 _ _ _ hm; omega)
 have HM := Aside0.mk hm
 have HCF := Aside0.mk (show slices_Concat_byte_byte.f [l0_0, l1] = some all by
  unfold slices_Concat_byte_byte.f
  rw [hall] at hl ⊢
  rw [if_pos (by constructor <;> simp at hl ⊢ <;> omega)]
  simp)
 clear hr0_0 hc0_0 hr1 hc1 hs hl hm hall
 refine (callsIn_wide (n := 5)).1 (callsIn_of_wp_marks Try.func8 rfl trivial ?_ rfl)
 simp only [Try.ntmps8, List.size_toArray, List.length_cons, List.length_nil, Nat.reduceAdd, Nat.reduceSub, Array.replicate_succ, Array.replicate_zero, List.push_toArray, List.append_toArray, List.nil_append, List.cons_append]
 gi_wp2_with (first
  | (refine ⟨trivial, ?_⟩; gi_at_call 10; (with_reducible refine (callsIn_wide.2 (stream_Sane.calls 100 _ _ l0_0 false true _ (Kd.C_alloc (Kd.C_alloc (Kd.C_alloc (Kd.C_alloc HR.out _) _) _) _) HC.out HS.out)).mono ?_); rintro e w1 ⟨rfl, hb⟩; obtain ⟨k1, k2, k3, k4, kB, kz⟩ := feed_boxes hb; have x0 : w1.cell? ⟨w.heap.size, 0, none⟩ = some (.slice A0_0 l0_0.length c0_0) := (blk_cell k1 0).trans rfl; have x1 : w1.cell? ⟨w.heap.size, 1, none⟩ = some (.bool false) := (blk_cell k1 1).trans rfl; have x2 : w1.cell? ⟨w.heap.size + 1, 0, none⟩ = some (.slice none 0 0) := (blk_cell k2 0).trans rfl; have x3 : w1.cell? ⟨w.heap.size + 1, 1, none⟩ = some (.bool false) := (blk_cell k2 1).trans rfl; have x4 : w1.cell? ⟨w.heap.size + 2, 0, none⟩ = some (.slice none 0 0) := (blk_cell k3 0).trans rfl; have x5 : w1.cell? ⟨w.heap.size + 3, 0, none⟩ = some (.int .i64 0) := (blk_cell k4 0).trans rfl; have x6 : w1.cell? ⟨w.heap.size + 3, 1, none⟩ = some (.int .i64 0) := (blk_cell k4 1).trans rfl; have x7 : w1.cell? ⟨w.heap.size + 3, 2, none⟩ = some (.slice none 0 0) := (blk_cell k4 2).trans rfl; have f2 := blk_frozen k2 0; have f3 := blk_frozen k2 1; have f4 := blk_frozen k3 0; have f5 := blk_frozen k4 0; have f6 := blk_frozen k4 1; have f7 := blk_frozen k4 2; have KB := Aside0.mk kB; have K2 := Aside0.mk k2; have K3 := Aside0.mk k3; have K4 := Aside0.mk k4; have f0 := blk_frozen k1 0; have f1 := blk_frozen k1 1; clear hb k1 k2 k3 k4 kB)
  | (refine ⟨trivial, ?_⟩; gi_at_call 17; refine (callsIn_wide.2 (slices_Concat_byte_byte.calls _ _ [l0_0, l1] all _ (C_two (heap_alloc_new _ _) HC.out (Kd.C_below HR.out (below_alloc KB.out _)) HC1.out (Kd.C_below HR1.out (below_alloc KB.out _))) (Nat.le_refl _) HCF.out)).mono ?_; rintro e w5 ⟨va, rfl, hRa, hb5⟩; obtain ⟨Aa, ca, rfl⟩ := Kd.V_slice (Kd.R_V (base' := 0) hRa); have HRA := Aside0.mk hRa; have HB5 := Aside0.mk hb5; clear hRa hb5)
  | (refine ⟨trivial, ?_⟩; gi_at_call 18; (with_reducible refine (callsIn_wide.2 (messages_calls _ _ _ _)).mono ?_); rintro e w' ⟨rfl, rfl⟩))
 clear f0 f1 f2 f3 f4 f5 f6 f7 x0 x1 x2 x3 x4 x5 x6 x7
 have hz5 := HB5.out.size
 rw [show (w1.alloc (.cells #[.slice A0_0 l0_0.length c0_0, .slice A1 l1.length c1] 22)).heap.size = w1.heap.size + 1 by simp only [World.alloc, Array.size_push]] at hz5
 have hkb := below_step (below_alloc KB.out _) HB5.out
 have hV : Kd.V (Kd.int .u8) 5 w5 0 (okA w1.heap.size w5.heap.size) (.slice Aa all.length ca) all := Kd.V_mono (base := 0) (Kd.R_V (base' := 0) (Kd.R_bound HRA.out)) (fun k hk => (by have := hk.2; unfold okA; rw [show (w1.alloc (.cells #[.slice A0_0 l0_0.length c0_0, .slice A1 l1.length c1] 22)).heap.size = w1.heap.size + 1 by simp only [World.alloc, Array.size_push]] at this; omega))
 have hW : (((w5.alloc (.cells #[.slice none 0 0] 27)).alloc (.cells #[.int .i64 0] 3)).alloc (.cells #[.slice Aa all.length ca] 22)).heap.size = w5.heap.size + 3 := by simp only [World.alloc, Array.size_push]
 have hsz1 : ∀ (W : World) (o : Obj), (W.alloc o).heap.size = W.heap.size + 1 := fun W o => by simp only [World.alloc, Array.size_push]
 have hb0 := below_alloc (below_alloc (below_alloc hkb (.cells #[.slice none 0 0] 27)) (.cells #[.int .i64 0] 3)) (.cells #[.slice Aa all.length ca] 22)
 have hI0 : iF 100 all R w1.heap.size w5.heap.size (w.heap.size + 1) w Aa ca (all.length + 1, [], 0) (((w5.alloc (.cells #[.slice none 0 0] 27)).alloc (.cells #[.int .i64 0] 3)).alloc (.cells #[.slice Aa all.length ca] 22)) := by
  refine ⟨⟨Nat.zero_le _, R, HM.out, by simp⟩, ⟨⟨.slice none 0 0, blk_alloc (blk_alloc (heap_alloc_new w5 _) _) _, Kd.N_nil _ _ _ _ _⟩, ?_, Kd.V_alloc (Kd.V_alloc (Kd.V_alloc hV _) _) _, ?_, ?_, ?_, hb0⟩, ⟨Aa, ca, ?_, Kd.V_alloc (Kd.V_alloc (Kd.V_alloc hV _) _) _⟩⟩
  ·
   have h := blk_alloc (heap_alloc_new (w5.alloc (.cells #[.slice none 0 0] 27)) (.cells #[.int .i64 0] 3)) (.cells #[.slice Aa all.length ca] 22)
   rw [hsz1] at h
   exact h
  ·
   exact blk_alloc (blk_alloc (blk_alloc (blk_below (blk_alloc K2.out _) HB5.out) _) _) _
  ·
   exact blk_alloc (blk_alloc (blk_alloc (blk_below (blk_alloc K3.out _) HB5.out) _) _) _
  ·
   exact blk_alloc (blk_alloc (blk_alloc (blk_below (blk_alloc K4.out _) HB5.out) _) _) _
  ·
   have h := heap_alloc_new ((w5.alloc (.cells #[.slice none 0 0] 27)).alloc (.cells #[.int .i64 0] 3)) (.cells #[.slice Aa all.length ca] 22)
   rw [hsz1, hsz1] at h
   exact h
 have HI0 := Aside0.mk hI0
 clear hI0 hb0 hV hkb
 have h1 : w.heap.size + 1 + 2 < w1.heap.size := by omega
 have h2 : w1.heap.size ≤ w5.heap.size := by omega
 have h3 : w.heap.size ≤ w.heap.size + 1 := by omega
 refine range_seq (F := Fence.wide) (n := 5) rfl (by decide) (gf := 27) (lb := #[.pointer (some ⟨w5.heap.size + 1 + 1, 0, none⟩)]) rfl trivial (fun args w => enters_ Try.func27 (by kernel_rfl) rfl args w) (iF 100 all R w1.heap.size w5.heap.size (w.heap.size + 1) w Aa ca) (iF' 100 all R w1.heap.size w5.heap.size (w.heap.size + 1) w Aa ca) (endF R w1.heap.size w5.heap.size (w.heap.size + 1) w) (xF 100 all w1.heap.size w5.heap.size) (finF 100 all) (all.length + 1, [], 0) ?t1 ?t2 ?t3 ?t4 HI0.out ?round ?it ?done ?stop
 case t1 => intro s W W' h ht; rw [hW] at ht; exact h.turn h1 h2 h3 ht
 case t2 => intro s W W' h ht; rw [hW] at ht; exact h.turn h1 h2 h3 ht
 case t3 => intro s W W' h ht; rw [hW] at ht; exact h.turn h1 h2 h3 ht
 case t4 => intro s xs W W' h ht; rw [hW] at ht; exact h.turn ht
 case it => rw [hW]; exact messages_ok 100 all R w1.heap.size w5.heap.size (w.heap.size + 1) w Aa ca h1 h2 h3 _
 case round =>
  intro l s xs W hI hX
  obtain ⟨x0v, x1v, rfl⟩ : ∃ x0 x1, xs = #[x0, x1] := by
   obtain ⟨r, -, vo, -, ⟨-, -, -, v, h, -⟩ | ⟨-, v, h, -⟩⟩ := hX
   ·
    exact ⟨_, _, h⟩
   ·
    exact ⟨_, _, h⟩
  refine ⟨rfl, ?_⟩
  apply Exists.intro
  refine ⟨?_, ?_⟩
  ·
   intro K hK
   gi_wp2_with (rw [Oper.semAt_eq _ _ _ (fun c h => by cases h)]; go_simp; try go_bits)
   exact hK
  intro W1 hI1 hX1 hz1
  clear hI hX HI0
  rw [hW] at hz1 ⊢
  clear hW hsz1
  obtain ⟨j, out, p⟩ := s
  obtain ⟨⟨hp, q, hq, hRq⟩, ⟨⟨vo, hvo, hN⟩, hat, hVa, hg4, hg5, hg6, hbw⟩, hbox⟩ := hI1
  obtain ⟨r, hr, vo', hvo', hX1⟩ := hX1
  dsimp only at hp hq hRq hvo hN hat hVa hbox hr
  have hvv : vo' = vo := by
   rw [hvo] at hvo'
   injection hvo' with hvo'
   injection hvo' with h
   have := congrArg (fun a : Array Value => a.toList) h
   simpa using this.symm
  subst hvv
  have ho : out.length ≤ 1000000000 := by have := HRL.out; rw [hRq] at this; simp only [List.length_append] at this; omega
  have hall := HL.out
  have hmz : w5.heap.size + 1 < W1.heap.size := by omega
  have hmz0 : w5.heap.size < W1.heap.size := by omega
  have xm : W1.cell? ⟨w5.heap.size, 0, none⟩ = some vo' := (blk_cell hvo 0).trans rfl
  have fm := blk_frozen hvo 0
  have xa : W1.cell? ⟨w5.heap.size + 1, 0, none⟩ = some (.int .i64 (p : Int)) := (blk_cell hat 0).trans rfl
  have fa := blk_frozen hat 0
  rcases hX1 with ⟨e1, e2, e3, v, hxs, hv⟩ | ⟨e1, v, hxs, hv⟩
  ·
   have hx := congrArg Array.toList hxs
   simp only [List.cons.injEq, and_true] at hx
   obtain ⟨rfl, rfl⟩ := hx
   obtain ⟨Av, cv, rfl⟩ := Kd.V_slice hv
   obtain ⟨rt, rb, rn, rc, rs, rd_⟩ := r
   dsimp only at e1 e2 e3 hv hr
   have b1 : (0 : Int) ≤ rn := by omega
   have b2 : rn ≤ 1000000000 := by rw [List.length_drop] at e3; omega
   have b3 : (0 : Int) ≤ (p : Int) := by omega
   have b4 : (p : Int) ≤ 1000000000 := by omega
   have HE := Aside0.mk (show rc = 0 ∧ rn ≤ ((all.drop p).length : Int) from ⟨e1, e3⟩)
   have HVO := Aside0.mk hvo
   have HN := Aside0.mk hN
   have HATT := Aside0.mk hat
   have HVA := Aside0.mk hVa
   have HG4 := Aside0.mk hg4
   have HG5 := Aside0.mk hg5
   have HG6 := Aside0.mk hg6
   have HBW := Aside0.mk hbw
   have HBX := Aside0.mk hbox
   have HV := Aside0.mk hv
   have HR_ := Aside0.mk hr
   have HHO := Aside0.mk ho
   clear hxs e1 e2 e3 hvo hN hat hVa hg4 hg5 hg6 hbw hbox hv hr hvo' hq hRq ho hall hp
   have ta := taM_
   gi_wp2_with (first
    | (gi_at_builtin; refine listIn_of_list rfl (by intro c h; cases h) ⟨_, _, rfl⟩ ?_; refine Kd.N_append k43 (w0 := w) w.heap.size rfl (.tmp 42) (.tmp 44) 27 43 (.agg #[(.int .i64 0), (.slice none 0 0)]) 32 rfl Try.underlying27 info43 rfl (by decide) (by omega) vo' out (⟨rt, rb⟩ : S43) [.int .i64 rt, .slice Av rb.length cv] (okN w5.heap.size) (fun k => okN w5.heap.size k ∧ some k ≠ vo'.ownBlock) rfl ?aX ?aP (fun _ hk => hk) ?aF ?aO ?aB ?aS ?aL ?_; (case aX => rw [World.size_alloc]; rfl); (case aP => exact k43_mkF _ _ (⟨rt, rb⟩ : S43) (Kd.V_reads' HV.out).2.1 (Kd.V_F (Kd.V_alloc HV.out _))); (case aF => exact fun k hk => (by unfold okN; simp only [World.alloc, Array.size_push] at hk; omega)); (case aO => exact Kd.N_alloc HN.out _); (case aB => exact below_alloc HBW.out _); (case aS => have := HBW.out.size; simp only [World.alloc, Array.size_push]; omega); (case aL => have := HHO.out; omega); intro v3 w3 hN3 hb3 hg3 hat3; obtain ⟨A3, c3, rfl⟩ := Kd.N_slice hN3; have hm3 := (hg3.block w5.heap.size (by simp only [World.alloc, Array.size_push]; omega) (Kd.N_ne (Kd.N_alloc HN.out (.cells #[.int .i64 rt, .slice Av rb.length cv] 43)) (blk_alloc HVO.out _) (by decide))).trans (blk_alloc HVO.out _); have ha3 := (hg3.block (w5.heap.size + 1) (by simp only [World.alloc, Array.size_push]; omega) (Kd.N_ne (Kd.N_alloc HN.out (.cells #[.int .i64 rt, .slice Av rb.length cv] 43)) (blk_alloc HATT.out _) (by decide))).trans (blk_alloc HATT.out _); have ym : w3.cell? ⟨w5.heap.size, 0, none⟩ = some vo' := (blk_cell hm3 0).trans rfl; have ya : w3.cell? ⟨w5.heap.size + 1, 0, none⟩ = some (.int .i64 (p : Int)) := (blk_cell ha3 0).trans rfl; have ym_ := blk_frozen hm3 0; have ya_ := blk_frozen ha3 0; have HM3 := Aside0.mk hm3; have HA3 := Aside0.mk ha3; have HN3 := Aside0.mk hN3; have HB3 := Aside0.mk hb3; have HG3 := Aside0.mk hg3; have HAT3 := Aside0.mk hat3; clear hm3 ha3 hN3 hb3 hg3 hat3; dsimp only [wpList])
    | (rw [Oper.semAt_eq _ _ _ (fun c h => by cases h)]; go_simp; try go_bits))
   have hpl := HE.out.2
   have hpl2 : (all.drop p).length = all.length - p := List.length_drop
   refine ⟨⟨?_, ?_⟩, ?_⟩
   ·
    rw [Below.heap_setCell _ _ _ _ (by show w5.heap.size + 3 ≠ w5.heap.size + 1; omega), Below.heap_setCell _ _ _ _ (by show w5.heap.size + 3 ≠ w5.heap.size; omega)]
    exact (HG3.out.block (w5.heap.size + 3) (by simp only [World.alloc, Array.size_push]; omega) (fun he => by have := HN.out.1 _ he.symm; unfold okN at this; omega)).trans (Below.heap_alloc _ _ _ (by omega))
   ·
    rw [Below.heap_setCell _ _ _ _ (by show w5.heap.size + 3 + 1 ≠ w5.heap.size + 1; omega), Below.heap_setCell _ _ _ _ (by show w5.heap.size + 3 + 1 ≠ w5.heap.size; omega)]
    exact (HG3.out.block (w5.heap.size + 3 + 1) (by simp only [World.alloc, Array.size_push]; omega) (fun he => by have := HN.out.1 _ he.symm; unfold okN at this; omega)).trans (Below.heap_alloc _ _ _ (by omega))
   ·
    have hne : ∀ k, okA w1.heap.size w5.heap.size k → some k ≠ vo'.ownBlock := fun k hk he => by have := HN.out.1 _ he.symm; unfold okN at this; unfold okA at hk; omega
    have hnb : ∀ k, k < w5.heap.size → some k ≠ vo'.ownBlock := fun k hk he => by have := HN.out.1 _ he.symm; unfold okN at this; omega
    have old : ∀ (g : Nat) (o : Obj), g < w5.heap.size → W1.heap[g]? = some o → ((w3.setCell ⟨w5.heap.size, 0, none⟩ (.slice A3 (out.length + 1) c3)).setCell ⟨w5.heap.size + 1, 0, none⟩ (.int .i64 ((p : Int) + rn))).heap[g]? = some o := fun g o hg h => by
     rw [Below.heap_setCell _ _ _ _ (by show g ≠ w5.heap.size + 1; omega), Below.heap_setCell _ _ _ _ (by show g ≠ w5.heap.size; omega)]
     exact (HG3.out.block g (by simp only [World.alloc, Array.size_push]; omega) (hnb g hg)).trans (blk_alloc h _)
    have hVall : ∀ (A : Option Addr) (c : Nat) (b : List Int), Kd.V (Kd.int .u8) 5 W1 0 (okA w1.heap.size w5.heap.size) (.slice A b.length c) b → Kd.V (Kd.int .u8) 5 ((w3.setCell ⟨w5.heap.size, 0, none⟩ (.slice A3 (out.length + 1) c3)).setCell ⟨w5.heap.size + 1, 0, none⟩ (.int .i64 ((p : Int) + rn))) 0 (okA w1.heap.size w5.heap.size) (.slice A b.length c) b := fun A c b h => Kd.V_far (p := ⟨w5.heap.size + 1, 0, none⟩) (Kd.V_far (p := ⟨w5.heap.size, 0, none⟩) (Kd.V_grown (Kd.V_alloc h _) HG3.out hne) (fun k hk => by unfold okA at hk; show k ≠ w5.heap.size; omega) _) (fun k hk => by unfold okA at hk; show k ≠ w5.heap.size + 1; omega) _
    obtain ⟨Ab, cb, hb1, hb2⟩ := HBX.out
    have hbox3 : w3.heap[w5.heap.size + 2]? = some (.cells #[.slice Ab (all.drop p).length cb] 22 (0, 0)) := (HG3.out.block (w5.heap.size + 2) (by simp only [World.alloc, Array.size_push]; omega) (fun he => by have := HN.out.1 _ he.symm; unfold okN at this; omega)).trans (blk_alloc hb1 _)
    refine ⟨⟨Ab, cb, ?_, hVall _ _ _ hb2⟩, (rt, rb, rn, rc, rs, rd_), HR_.out, HE.out.1, ⟨⟨.slice A3 (out.length + 1) c3, ?_, ?_⟩, ?_, hVall _ _ _ HVA.out, old _ _ (by omega) HG4.out, old _ _ (by omega) HG5.out, old _ _ (by omega) HG6.out, ?_⟩⟩
    ·
     rw [Below.heap_setCell _ _ _ _ (by show w5.heap.size + 2 ≠ w5.heap.size + 1; omega), Below.heap_setCell _ _ _ _ (by show w5.heap.size + 2 ≠ w5.heap.size; omega)]
     exact hbox3
    ·
     rw [Below.heap_setCell _ _ _ _ (by show w5.heap.size ≠ w5.heap.size + 1; omega)]
     exact blk_put HM3.out 0 _ rfl
    ·
     have h := HN3.out
     rw [List.length_append, List.length_singleton] at h
     exact Kd.N_far (p := ⟨w5.heap.size + 1, 0, none⟩) (Kd.N_far (p := ⟨w5.heap.size, 0, none⟩) h (fun k hk => by unfold okN at hk; show k ≠ w5.heap.size; omega) _) (fun k hk => by unfold okN at hk; show k ≠ w5.heap.size + 1; omega) _
    ·
     exact blk_put ((Below.heap_setCell _ _ _ _ (by show w5.heap.size + 1 ≠ w5.heap.size; omega)).trans HA3.out) 0 _ rfl
    ·
     exact set_below _ (set_below _ HB3.out (by omega)) (by omega)
  ·
   have hx := congrArg Array.toList hxs
   simp only [List.cons.injEq, and_true] at hx
   obtain ⟨rfl, rfl⟩ := hx
   obtain ⟨Av, cv, rfl⟩ := Kd.V_slice hv
   obtain ⟨rt, rb, rn, rc, rs, rd_⟩ := r
   dsimp only at e1 hv hr
   have y0 : W1.cell? ⟨w.heap.size + 1, 0, none⟩ = some (.slice none 0 0) := (blk_cell hg4 0).trans rfl
   have y1 : W1.cell? ⟨w.heap.size + 1, 1, none⟩ = some (.bool false) := (blk_cell hg4 1).trans rfl
   have y2 : W1.cell? ⟨w.heap.size + 1 + 1, 0, none⟩ = some (.slice none 0 0) := (blk_cell hg5 0).trans rfl
   have y3 : W1.cell? ⟨w.heap.size + 1 + 1 + 1, 0, none⟩ = some (.int .i64 0) := (blk_cell hg6 0).trans rfl
   have y4 : W1.cell? ⟨w.heap.size + 1 + 1 + 1, 1, none⟩ = some (.int .i64 0) := (blk_cell hg6 1).trans rfl
   have y5 : W1.cell? ⟨w.heap.size + 1 + 1 + 1, 2, none⟩ = some (.slice none 0 0) := (blk_cell hg6 2).trans rfl
   have z0 := blk_frozen hg4 0
   have z1 := blk_frozen hg4 1
   have z2 := blk_frozen hg5 0
   have z3 : W1.frozen? ⟨w.heap.size + 1 + 1 + 1, 0, none⟩ = false := blk_frozen hg6 0
   have z4 : W1.frozen? ⟨w.heap.size + 1 + 1 + 1, 1, none⟩ = false := blk_frozen hg6 1
   have z5 : W1.frozen? ⟨w.heap.size + 1 + 1 + 1, 2, none⟩ = false := blk_frozen hg6 2
   have lt1 : w.heap.size + 1 < W1.heap.size := by omega
   have lt2 : w.heap.size + 1 + 1 < W1.heap.size := by omega
   have lt3 : w.heap.size + 1 + 1 + 1 < W1.heap.size := by omega
   have HE := Aside0.mk e1
   have HVO := Aside0.mk hvo
   have HN := Aside0.mk hN
   have HBW := Aside0.mk hbw
   have HV := Aside0.mk hv
   have HQ := Aside0.mk hq
   have HRQ := Aside0.mk hRq
   have HR_ := Aside0.mk hr
   have HG4 := Aside0.mk hg4
   have HG5 := Aside0.mk hg5
   have HG6 := Aside0.mk hg6
   obtain ⟨Ao, co, rfl⟩ := Kd.N_slice hN
   clear hxs e1 hvo hN hat hVa hg4 hg5 hg6 hbw hbox hv hr hvo' hq hRq ho hall hp
   have ta := taN_
   have tb := taO_
   gi_wp2_with (rw [Oper.semAt_eq _ _ _ (fun c h => by cases h)]; go_simp; try go_bits)
   gi_region_with (rw [Oper.semAt_eq _ _ _ (fun c h => by cases h)]; go_simp; try go_bits)
   all_goals gi_wp2_with (rw [Oper.semAt_eq _ _ _ (fun c h => by cases h)]; go_simp; try go_bits)
   all_goals
    obtain ⟨p1, p2, p3, p4⟩ := feed_puts HG4.out HG5.out HG6.out (.slice none 0 0) (.slice Ao out.length co) (.slice Av rd_.length cv) (.int .i64 rc) (.int .i64 rs) (.bool true)
    have hR : R = (out, all.drop p, rc, rs, rd_) := by
     have h1 := msgsF_note HQ.out HR_.out HE.out
     have h2 := HRQ.out
     rw [h1] at h2
     simpa using h2
    have hlt : ∀ k, k < W1.heap.size → k ≠ w.heap.size + 1 → k ≠ w.heap.size + 1 + 1 → k ≠ w.heap.size + 1 + 2 → (((((((W1.setCell ⟨w.heap.size + 1, 0, none⟩ (.slice none 0 0)).setCell ⟨w.heap.size + 1, 1, none⟩ (.bool true)).setCell ⟨w.heap.size + 1 + 1, 0, none⟩ (.slice Ao out.length co)).setCell ⟨w.heap.size + 1 + 1 + 1, 0, none⟩ (.int .i64 rc)).setCell ⟨w.heap.size + 1 + 1 + 1, 1, none⟩ (.int .i64 rs)).setCell ⟨w.heap.size + 1 + 1 + 1, 2, none⟩ (.slice Av rd_.length cv)).alloc (.cells #[.int .i64 0, .slice none 0 0] 43)).heap[k]? = W1.heap[k]? := fun k hk e1 e2 e3 => (Below.heap_alloc _ _ _ (by simp only [feed_size]; exact hk)).trans (p4 k e1 e2 e3)
    refine ⟨⟨hlt _ (by omega) (by omega) (by omega) (by omega), hlt _ (by omega) (by omega) (by omega) (by omega)⟩, ?_⟩
    subst hR
    refine ⟨HE.out, blk_drew (blk_alloc p1 _), _, blk_drew (blk_alloc p2 _), ?_, ⟨_, blk_drew (blk_alloc p3 _), ?_⟩, ?_⟩
    ·
     exact Kd.N_step HN.out (fun k hk hl => hlt k hl (by unfold okN at hk; omega) (by unfold okN at hk; omega) (by unfold okN at hk; omega))
    ·
     exact Kd.V_step HV.out (fun k hk hl => hlt k hl (by have := hk.1; unfold okN at this; omega) (by have := hk.1; unfold okN at this; omega) (by have := hk.1; unfold okN at this; omega))
    ·
     exact below_drew1 (below_alloc (set_below _ (set_below _ (set_below _ (set_below _ (set_below _ (set_below _ HBW.out (by omega)) (by omega)) (by omega)) (by omega)) (by omega)) (by omega)) _)
 case done =>
  intro s W hF hI hD
  rw [hW] at hD
  have HZ := Aside0.mk hW
  clear HI0 hW hsz1
  obtain ⟨j, out, p⟩ := s
  obtain ⟨⟨hp, q, hq, hRq⟩, ⟨⟨vo, hvo, hN⟩, hat, hVa, hg4, hg5, hg6, hbw⟩, hbox⟩ := hI
  obtain ⟨r, hr, hc0, hn0⟩ := hF
  dsimp only at hp hq hRq hvo hN hat hVa hbox hr
  have hR : R = (out, all.drop p, 0, 0, []) := by
   have h1 := msgsF_end hq hr hc0 hn0
   rw [h1] at hRq
   simpa using hRq
  clear hq hr hc0 hn0 hRq r q
  have hall := HL.out
  have xm : W.cell? ⟨w5.heap.size, 0, none⟩ = some vo := (blk_cell hvo 0).trans rfl
  have xa : W.cell? ⟨w5.heap.size + 1, 0, none⟩ = some (.int .i64 (p : Int)) := (blk_cell hat 0).trans rfl
  have hBz := blk_lt hD
  have y0 : W.cell? ⟨w.heap.size + 1, 0, none⟩ = some (.slice none 0 0) := (blk_cell hg4 0).trans rfl
  have y1 : W.cell? ⟨w.heap.size + 1, 1, none⟩ = some (.bool false) := (blk_cell hg4 1).trans rfl
  have y2 : W.cell? ⟨w.heap.size + 1 + 1, 0, none⟩ = some (.slice none 0 0) := (blk_cell hg5 0).trans rfl
  have y3 : W.cell? ⟨w.heap.size + 1 + 1 + 1, 0, none⟩ = some (.int .i64 0) := (blk_cell hg6 0).trans rfl
  have y4 : W.cell? ⟨w.heap.size + 1 + 1 + 1, 1, none⟩ = some (.int .i64 0) := (blk_cell hg6 1).trans rfl
  have y5 : W.cell? ⟨w.heap.size + 1 + 1 + 1, 2, none⟩ = some (.slice none 0 0) := (blk_cell hg6 2).trans rfl
  have z0 := blk_frozen hg4 0
  have z1 := blk_frozen hg4 1
  have z2 := blk_frozen hg5 0
  have z3 : W.frozen? ⟨w.heap.size + 1 + 1 + 1, 0, none⟩ = false := blk_frozen hg6 0
  have z4 : W.frozen? ⟨w.heap.size + 1 + 1 + 1, 1, none⟩ = false := blk_frozen hg6 1
  have z5 : W.frozen? ⟨w.heap.size + 1 + 1 + 1, 2, none⟩ = false := blk_frozen hg6 2
  obtain ⟨A7, hcut, hV7⟩ := cutV W Aa ca all _ 0 (p : Int) hVa (by omega) (by omega)
  rw [Int.toNat_natCast] at hcut hV7
  have bp0 : (0 : Int) ≤ (p : Int) := by omega
  have bp1 : (p : Int) ≤ 1000000000 := by omega
  have HN := Aside0.mk hN
  have HV7 := Aside0.mk hV7
  have HG4 := Aside0.mk hg4
  have HG5 := Aside0.mk hg5
  have HG6 := Aside0.mk hg6
  have HBW := Aside0.mk hbw
  have HD := Aside0.mk hD
  have HR_ := Aside0.mk hR
  obtain ⟨Ao, co, rfl⟩ := Kd.N_slice hN
  clear hvo hN hat hVa hg4 hg5 hg6 hbw hbox hp hall hD hR hV7
  gi_wp2
  gi_region
  all_goals gi_wp2
  all_goals
   obtain ⟨p1, p2, p3, p4⟩ := feed_puts HG4.out HG5.out HG6.out (.slice A7 (all.drop p).length (ca - p)) (.slice Ao out.length co) (.slice none 0 0) (.int .i64 0) (.int .i64 0) (.bool false)
   have hR := HR_.out
   rw [hR]
   have hs : ∀ (W : World) (k j : Nat) (i : Nat) (v : Value), i ≠ k → (W.setCell ⟨k, j, none⟩ v).heap[i]? = W.heap[i]? := fun W k j i v h => Below.heap_setCell W ⟨k, j, none⟩ v i h
   simp only [List.length_drop] at p1 p2 p3 p4
   obtain ⟨W2, hW2⟩ : ∃ W2 : World, W2 = ((((((W.setCell ⟨w.heap.size + 1, 0, none⟩ (.slice A7 (all.length - p) (ca - p))).setCell ⟨w.heap.size + 1, 1, none⟩ (.bool false)).setCell ⟨w.heap.size + 1 + 1, 0, none⟩ (.slice Ao out.length co)).setCell ⟨w.heap.size + 1 + 1 + 1, 0, none⟩ (.int .i64 0)).setCell ⟨w.heap.size + 1 + 1 + 1, 1, none⟩ (.int .i64 0)).setCell ⟨w.heap.size + 1 + 1 + 1, 2, none⟩ (.slice none 0 0)) := ⟨_, rfl⟩
   have hz2 : W2.heap.size = W.heap.size := by rw [hW2]; simp only [feed_size]
   have hbb : Below w.heap.size w W2 := by rw [hW2]; exact set_below _ (set_below _ (set_below _ (set_below _ (set_below _ (set_below _ HBW.out (by omega)) (by omega)) (by omega)) (by omega)) (by omega)) (by omega)
   rw [← hW2] at p1 p2 p3 p4 ⊢
   clear hW2
   have hd2 : W2.drew.heap[w5.heap.size + 3]? = some (.deferred (some [])) := (p4 _ (by omega) (by omega) (by omega)).trans HD.out
   have hp : ∀ k, k ≠ w5.heap.size + 3 → (W2.drew.putObj (w5.heap.size + 3) (.deferred none)).heap[k]? = W2.heap[k]? := fun k hk => World.putObj_heap_other (w := W2.drew) (by omega)
   have c0 : (W2.drew.putObj (w5.heap.size + 3) (.deferred none)).cell? ⟨w.heap.size + 1, 0, none⟩ = some (.slice A7 (all.length - p) (ca - p)) := (blk_cell ((hp _ (by omega)).trans p1) 0).trans rfl
   have c1_ : (W2.drew.putObj (w5.heap.size + 3) (.deferred none)).cell? ⟨w.heap.size + 1, 1, none⟩ = some (.bool false) := (blk_cell ((hp _ (by omega)).trans p1) 1).trans rfl
   have c2 : (W2.drew.putObj (w5.heap.size + 3) (.deferred none)).cell? ⟨w.heap.size + 1 + 1, 0, none⟩ = some (.slice Ao out.length co) := (blk_cell ((hp _ (by omega)).trans p2) 0).trans rfl
   have c3 : (W2.drew.putObj (w5.heap.size + 3) (.deferred none)).cell? ⟨w.heap.size + 1 + 1 + 1, 0, none⟩ = some (.int .i64 0) := (blk_cell ((hp _ (by omega)).trans p3) 0).trans rfl
   have c4 : (W2.drew.putObj (w5.heap.size + 3) (.deferred none)).cell? ⟨w.heap.size + 1 + 1 + 1, 1, none⟩ = some (.int .i64 0) := (blk_cell ((hp _ (by omega)).trans p3) 1).trans rfl
   have c5 : (W2.drew.putObj (w5.heap.size + 3) (.deferred none)).cell? ⟨w.heap.size + 1 + 1 + 1, 2, none⟩ = some (.slice none 0 0) := (blk_cell ((hp _ (by omega)).trans p3) 2).trans rfl
   refine ⟨by simp, .inl ⟨w5.heap.size + 3, _, by show Target.collected _ = _; rw [HZ.out], run_takeDeferred hd2, ?_⟩⟩
   refine ⟨.tuple #[.agg #[.slice A7 (all.length - p) (ca - p), .bool false], .slice Ao out.length co, .agg #[.int .i64 0, .int .i64 0, .slice none 0 0]], ?_, ?_⟩
   ·
    simp [results, Try.results8, go_sem, c0, c1_, c2, c3, c4, c5]
   ·
    have hin : ∀ k, k < W.heap.size → k ≠ w.heap.size + 1 → k ≠ w.heap.size + 2 → k ≠ w.heap.size + 3 → k ≠ w5.heap.size + 3 → (W2.drew.putObj (w5.heap.size + 3) (.deferred none)).heap[k]? = W.heap[k]? := fun k _ h1 h2 h3 h4 => (hp k h4).trans (p4 k h1 (by omega) (by omega))
    have hNf := Kd.N_step HN.out (w1 := W2.drew.putObj (w5.heap.size + 3) (.deferred none)) (fun k hk hl => hin k hl (by unfold okN at hk; omega) (by unfold okN at hk; omega) (by unfold okN at hk; omega) (by unfold okN at hk; omega))
    have hVf := Kd.V_step HV7.out (w1 := W2.drew.putObj (w5.heap.size + 3) (.deferred none)) (fun k hk hl => hin k hl (by unfold okA at hk; omega) (by unfold okA at hk; omega) (by unfold okA at hk; omega) (by unfold okA at hk; omega))
    rw [List.length_drop] at hVf
    refine ⟨.slice A7 (all.length - p) (ca - p), .slice Ao out.length co, .slice none 0 0, rfl, Kd.V_map (base' := w.heap.size) hVf (fun _ hf => Kd.F_mono hf (fun k hk => ⟨by unfold okA at hk; omega, fun he => by have := hNf.1 k he.symm; unfold okN at this; unfold okA at hk; omega⟩)), Kd.N_mono hNf (fun k hk => by unfold okN at hk; omega), Kd.V_nil _ _ _ _ _, ?_⟩
    exact (below_drew1 hbb).grown (grownBy_putObj' W2.drew (w5.heap.size + 3) _) (below_drew1 hbb).size (fun k e => by injection e with e; subst e; omega)
 case stop =>
  intro s W hX hD
  rw [hW] at hD
  have HZ := Aside0.mk hW
  clear HI0 hW hsz1
  obtain ⟨e1, hg4, vo, hg5, hN, ⟨v, hg6, hV⟩, hbw⟩ := hX
  have HN := Aside0.mk hN
  have HV := Aside0.mk hV
  have HG4 := Aside0.mk hg4
  have HG5 := Aside0.mk hg5
  have HG6 := Aside0.mk hg6
  have HBW := Aside0.mk hbw
  have HD := Aside0.mk hD
  have HE := Aside0.mk e1
  clear hN hV hg4 hg5 hg6 hbw hD e1
  gi_wp2
  have hBz := blk_lt HD.out
  have hp : ∀ k, k ≠ w5.heap.size + 3 → (W.putObj (w5.heap.size + 3) (.deferred none)).heap[k]? = W.heap[k]? := fun k hk => World.putObj_heap_other (w := W) (by omega)
  obtain ⟨Ao, co, rfl⟩ := Kd.N_slice HN.out
  obtain ⟨Av, cv, rfl⟩ := Kd.V_slice HV.out
  have c0 : (W.putObj (w5.heap.size + 3) (.deferred none)).cell? ⟨w.heap.size + 1, 0, none⟩ = some (.slice none 0 0) := (blk_cell ((hp _ (by omega)).trans HG4.out) 0).trans rfl
  have c1_ : (W.putObj (w5.heap.size + 3) (.deferred none)).cell? ⟨w.heap.size + 1, 1, none⟩ = some (.bool true) := (blk_cell ((hp _ (by omega)).trans HG4.out) 1).trans rfl
  have c2 : (W.putObj (w5.heap.size + 3) (.deferred none)).cell? ⟨w.heap.size + 1 + 1, 0, none⟩ = some (.slice Ao R.1.length co) := (blk_cell ((hp _ (by omega)).trans HG5.out) 0).trans rfl
  have c3 : (W.putObj (w5.heap.size + 3) (.deferred none)).cell? ⟨w.heap.size + 1 + 1 + 1, 0, none⟩ = some (.int .i64 R.2.2.1) := (blk_cell ((hp _ (by omega)).trans HG6.out) 0).trans rfl
  have c4 : (W.putObj (w5.heap.size + 3) (.deferred none)).cell? ⟨w.heap.size + 1 + 1 + 1, 1, none⟩ = some (.int .i64 R.2.2.2.1) := (blk_cell ((hp _ (by omega)).trans HG6.out) 1).trans rfl
  have c5 : (W.putObj (w5.heap.size + 3) (.deferred none)).cell? ⟨w.heap.size + 1 + 1 + 1, 2, none⟩ = some (.slice Av R.2.2.2.2.length cv) := (blk_cell ((hp _ (by omega)).trans HG6.out) 2).trans rfl
  refine ⟨by simp, .inl ⟨w5.heap.size + 3, _, by show Target.collected _ = _; rw [HZ.out], run_takeDeferred HD.out, ?_⟩⟩
  refine ⟨.tuple #[.agg #[.slice none 0 0, .bool true], .slice Ao R.1.length co, .agg #[.int .i64 R.2.2.1, .int .i64 R.2.2.2.1, .slice Av R.2.2.2.2.length cv]], ?_, ?_⟩
  ·
   simp [results, Try.results8, go_sem, c0, c1_, c2, c3, c4, c5]
  ·
   have hNf := Kd.N_step HN.out (w1 := W.putObj (w5.heap.size + 3) (.deferred none)) (fun k hk hl => hp k (by unfold okN at hk; omega))
   have hVf := Kd.V_step HV.out (w1 := W.putObj (w5.heap.size + 3) (.deferred none)) (fun k hk hl => hp k (by have := hk.1; unfold okN at this; omega))
   have e2 : (R.2.2.1 != 0) = true := by simpa using HE.out
   refine ⟨.slice none 0 0, .slice Ao R.1.length co, .slice Av R.2.2.2.2.length cv, by rw [if_neg HE.out, if_neg HE.out, e2], by rw [if_neg HE.out]; exact Kd.V_nil _ _ _ _ _, Kd.N_mono hNf (fun k hk => by unfold okN at hk; omega), ?_, ?_⟩
   ·
    rw [if_neg HE.out]
    exact Kd.V_map (base' := w.heap.size) hVf (fun _ hf => Kd.F_mono hf (fun k hk => ⟨by have := hk.1; unfold okN at this; omega, hk.2⟩))
   ·
    exact HBW.out.grown (grownBy_putObj' W (w5.heap.size + 3) _) HBW.out.size (fun k e => by injection e with e; subst e; omega)
set_option maxHeartbeats 8000000 in
set_option maxRecDepth 100000 in
theorem feed_no (A0_0 : Option Addr) (c0_0 : Nat) (l0_0 : List Int) (a0_1 : Bool) (A1 : Option Addr) (c1 : Nat) (l1 all : List Int) (R : List S43 × List Int × Int × Int × List Int) (w : World) (hr0_0 : Kd.C (Kd.int .u8) w A0_0 l0_0.length l0_0) (hc0_0 : l0_0.length ≤ c0_0) (hr1 : Kd.C (Kd.int .u8) w A1 l1.length l1) (hc1 : l1.length ≤ c1)
  (hs : stream_Sane.f 100 l0_0 a0_1 = some false) (hall : all = [] ++ l1) (hl : all.length < 1000000000) (hm : msgsF 100 (all.length + 1) all = some R) :
  Calls Try.prog 8 #[.agg #[.slice A0_0 l0_0.length c0_0, .bool a0_1], .slice A1 l1.length c1] w (feedPost w R) := by
 have HR := Aside0.mk hr0_0
 have HC := Aside0.mk hc0_0
 have HR1 := Aside0.mk hr1
 have HC1 := Aside0.mk hc1
 have HS := Aside0.mk hs
 have HL := Aside0.mk hl
 have HRL := Aside0.mk (show R.1.length ≤ 1000000000 from by have := msgsF_len 100 _ _ _ hm; omega)
 have HM := Aside0.mk hm
 have HCF := Aside0.mk (show slices_Concat_byte_byte.f [[], l1] = some all by
  unfold slices_Concat_byte_byte.f
  rw [hall] at hl ⊢
  rw [if_pos (by constructor <;> simp at hl ⊢ <;> omega)]
  simp)
 clear hr0_0 hc0_0 hr1 hc1 hs hl hm hall
 refine (callsIn_wide (n := 5)).1 (callsIn_of_wp_marks Try.func8 rfl trivial ?_ rfl)
 simp only [Try.ntmps8, List.size_toArray, List.length_cons, List.length_nil, Nat.reduceAdd, Nat.reduceSub, Array.replicate_succ, Array.replicate_zero, List.push_toArray, List.append_toArray, List.nil_append, List.cons_append]
 gi_wp2_with (first
  | (refine ⟨trivial, ?_⟩; gi_at_call 10; (with_reducible refine (callsIn_wide.2 (stream_Sane.calls 100 _ _ l0_0 a0_1 false _ (Kd.C_alloc (Kd.C_alloc (Kd.C_alloc (Kd.C_alloc HR.out _) _) _) _) HC.out HS.out)).mono ?_); rintro e w1 ⟨rfl, hb⟩; obtain ⟨k1, k2, k3, k4, kB, kz⟩ := feed_boxes hb; have x0 : w1.cell? ⟨w.heap.size, 0, none⟩ = some (.slice A0_0 l0_0.length c0_0) := (blk_cell k1 0).trans rfl; have x1 : w1.cell? ⟨w.heap.size, 1, none⟩ = some (.bool a0_1) := (blk_cell k1 1).trans rfl; have x2 : w1.cell? ⟨w.heap.size + 1, 0, none⟩ = some (.slice none 0 0) := (blk_cell k2 0).trans rfl; have x3 : w1.cell? ⟨w.heap.size + 1, 1, none⟩ = some (.bool false) := (blk_cell k2 1).trans rfl; have x4 : w1.cell? ⟨w.heap.size + 2, 0, none⟩ = some (.slice none 0 0) := (blk_cell k3 0).trans rfl; have x5 : w1.cell? ⟨w.heap.size + 3, 0, none⟩ = some (.int .i64 0) := (blk_cell k4 0).trans rfl; have x6 : w1.cell? ⟨w.heap.size + 3, 1, none⟩ = some (.int .i64 0) := (blk_cell k4 1).trans rfl; have x7 : w1.cell? ⟨w.heap.size + 3, 2, none⟩ = some (.slice none 0 0) := (blk_cell k4 2).trans rfl; have f2 := blk_frozen k2 0; have f3 := blk_frozen k2 1; have f4 := blk_frozen k3 0; have f5 := blk_frozen k4 0; have f6 := blk_frozen k4 1; have f7 := blk_frozen k4 2; have KB := Aside0.mk kB; have K2 := Aside0.mk k2; have K3 := Aside0.mk k3; have K4 := Aside0.mk k4; have f0 := blk_frozen k1 0; have f1 := blk_frozen k1 1; clear hb k1 k2 k3 k4 kB)
  | (refine ⟨trivial, ?_⟩; gi_at_call 17; refine (callsIn_wide.2 (slices_Concat_byte_byte.calls _ _ [[], l1] all _ (C_two (g := w1.heap.size) (A := none) (c := 0) (b := []) (by have h := heap_alloc_new ((w1.setCell ⟨w.heap.size, 0, none⟩ (.slice none 0 0)).setCell ⟨w.heap.size, 1, none⟩ (.bool false)) (.cells #[.slice none 0 0, .slice A1 l1.length c1] 22); rw [feed_size, feed_size] at h; exact h) (Nat.le_refl _) (Kd.C_nil _ _) HC1.out (Kd.C_below HR1.out (below_alloc (set_below _ (set_below _ KB.out (Nat.le_refl _)) (Nat.le_refl _)) _))) (Nat.le_refl _) HCF.out)).mono ?_; rintro e w5 ⟨va, rfl, hRa, hb5⟩; obtain ⟨Aa, ca, rfl⟩ := Kd.V_slice (Kd.R_V (base' := 0) hRa); have HRA := Aside0.mk hRa; have HB5 := Aside0.mk hb5; clear hRa hb5)
  | (refine ⟨trivial, ?_⟩; gi_at_call 18; (with_reducible refine (callsIn_wide.2 (messages_calls _ _ _ _)).mono ?_); rintro e w' ⟨rfl, rfl⟩))
 clear f0 f1 f2 f3 f4 f5 f6 f7 x0 x1 x2 x3 x4 x5 x6 x7
 have hz5 := HB5.out.size
 have hz1 : (((w1.setCell ⟨w.heap.size, 0, none⟩ (.slice none 0 0)).setCell ⟨w.heap.size, 1, none⟩ (.bool false)).alloc (.cells #[.slice none 0 0, .slice A1 l1.length c1] 22)).heap.size = w1.heap.size + 1 := by simp only [World.alloc, Array.size_push, feed_size]
 rw [hz1] at hz5
 have hkb := below_step (below_alloc (set_below _ (set_below _ KB.out (Nat.le_refl _)) (Nat.le_refl _)) _) HB5.out
 have hV : Kd.V (Kd.int .u8) 5 w5 0 (okA w1.heap.size w5.heap.size) (.slice Aa all.length ca) all := Kd.V_mono (base := 0) (Kd.R_V (base' := 0) (Kd.R_bound HRA.out)) (fun k hk => (by have := hk.2; unfold okA; rw [hz1] at this; omega))
 have hW : (((w5.alloc (.cells #[.slice none 0 0] 27)).alloc (.cells #[.int .i64 0] 3)).alloc (.cells #[.slice Aa all.length ca] 22)).heap.size = w5.heap.size + 3 := by simp only [World.alloc, Array.size_push]
 have hsz1 : ∀ (W : World) (o : Obj), (W.alloc o).heap.size = W.heap.size + 1 := fun W o => by simp only [World.alloc, Array.size_push]
 have hb0 := below_alloc (below_alloc (below_alloc hkb (.cells #[.slice none 0 0] 27)) (.cells #[.int .i64 0] 3)) (.cells #[.slice Aa all.length ca] 22)
 have hI0 : iF 100 all R w1.heap.size w5.heap.size (w.heap.size + 1) w Aa ca (all.length + 1, [], 0) (((w5.alloc (.cells #[.slice none 0 0] 27)).alloc (.cells #[.int .i64 0] 3)).alloc (.cells #[.slice Aa all.length ca] 22)) := by
  refine ⟨⟨Nat.zero_le _, R, HM.out, by simp⟩, ⟨⟨.slice none 0 0, blk_alloc (blk_alloc (heap_alloc_new w5 _) _) _, Kd.N_nil _ _ _ _ _⟩, ?_, Kd.V_alloc (Kd.V_alloc (Kd.V_alloc hV _) _) _, ?_, ?_, ?_, hb0⟩, ⟨Aa, ca, ?_, Kd.V_alloc (Kd.V_alloc (Kd.V_alloc hV _) _) _⟩⟩
  ·
   have h := blk_alloc (heap_alloc_new (w5.alloc (.cells #[.slice none 0 0] 27)) (.cells #[.int .i64 0] 3)) (.cells #[.slice Aa all.length ca] 22)
   rw [hsz1] at h
   exact h
  ·
   exact blk_alloc (blk_alloc (blk_alloc (blk_below (blk_alloc ((Below.heap_setCell _ _ _ _ (by show _ ≠ w.heap.size; omega)).trans ((Below.heap_setCell _ _ _ _ (by show _ ≠ w.heap.size; omega)).trans K2.out)) _) HB5.out) _) _) _
  ·
   exact blk_alloc (blk_alloc (blk_alloc (blk_below (blk_alloc ((Below.heap_setCell _ _ _ _ (by show _ ≠ w.heap.size; omega)).trans ((Below.heap_setCell _ _ _ _ (by show _ ≠ w.heap.size; omega)).trans K3.out)) _) HB5.out) _) _) _
  ·
   exact blk_alloc (blk_alloc (blk_alloc (blk_below (blk_alloc ((Below.heap_setCell _ _ _ _ (by show _ ≠ w.heap.size; omega)).trans ((Below.heap_setCell _ _ _ _ (by show _ ≠ w.heap.size; omega)).trans K4.out)) _) HB5.out) _) _) _
  ·
   have h := heap_alloc_new ((w5.alloc (.cells #[.slice none 0 0] 27)).alloc (.cells #[.int .i64 0] 3)) (.cells #[.slice Aa all.length ca] 22)
   rw [hsz1, hsz1] at h
   exact h
 have HI0 := Aside0.mk hI0
 clear hI0 hb0 hV hkb
 have h1 : w.heap.size + 1 + 2 < w1.heap.size := by omega
 have h2 : w1.heap.size ≤ w5.heap.size := by omega
 have h3 : w.heap.size ≤ w.heap.size + 1 := by omega
 refine range_seq (F := Fence.wide) (n := 5) rfl (by decide) (gf := 27) (lb := #[.pointer (some ⟨w5.heap.size + 1 + 1, 0, none⟩)]) rfl trivial (fun args w => enters_ Try.func27 (by kernel_rfl) rfl args w) (iF 100 all R w1.heap.size w5.heap.size (w.heap.size + 1) w Aa ca) (iF' 100 all R w1.heap.size w5.heap.size (w.heap.size + 1) w Aa ca) (endF R w1.heap.size w5.heap.size (w.heap.size + 1) w) (xF 100 all w1.heap.size w5.heap.size) (finF 100 all) (all.length + 1, [], 0) ?t1 ?t2 ?t3 ?t4 HI0.out ?round ?it ?done ?stop
 case t1 => intro s W W' h ht; rw [hW] at ht; exact h.turn h1 h2 h3 ht
 case t2 => intro s W W' h ht; rw [hW] at ht; exact h.turn h1 h2 h3 ht
 case t3 => intro s W W' h ht; rw [hW] at ht; exact h.turn h1 h2 h3 ht
 case t4 => intro s xs W W' h ht; rw [hW] at ht; exact h.turn ht
 case it => rw [hW]; exact messages_ok 100 all R w1.heap.size w5.heap.size (w.heap.size + 1) w Aa ca h1 h2 h3 _
 case round =>
  intro l s xs W hI hX
  obtain ⟨x0v, x1v, rfl⟩ : ∃ x0 x1, xs = #[x0, x1] := by
   obtain ⟨r, -, vo, -, ⟨-, -, -, v, h, -⟩ | ⟨-, v, h, -⟩⟩ := hX
   ·
    exact ⟨_, _, h⟩
   ·
    exact ⟨_, _, h⟩
  refine ⟨rfl, ?_⟩
  apply Exists.intro
  refine ⟨?_, ?_⟩
  ·
   intro K hK
   gi_wp2_with (rw [Oper.semAt_eq _ _ _ (fun c h => by cases h)]; go_simp; try go_bits)
   exact hK
  intro W1 hI1 hX1 hz1
  clear hI hX HI0
  rw [hW] at hz1 ⊢
  clear hW hsz1
  obtain ⟨j, out, p⟩ := s
  obtain ⟨⟨hp, q, hq, hRq⟩, ⟨⟨vo, hvo, hN⟩, hat, hVa, hg4, hg5, hg6, hbw⟩, hbox⟩ := hI1
  obtain ⟨r, hr, vo', hvo', hX1⟩ := hX1
  dsimp only at hp hq hRq hvo hN hat hVa hbox hr
  have hvv : vo' = vo := by
   rw [hvo] at hvo'
   injection hvo' with hvo'
   injection hvo' with h
   have := congrArg (fun a : Array Value => a.toList) h
   simpa using this.symm
  subst hvv
  have ho : out.length ≤ 1000000000 := by have := HRL.out; rw [hRq] at this; simp only [List.length_append] at this; omega
  have hall := HL.out
  have hmz : w5.heap.size + 1 < W1.heap.size := by omega
  have hmz0 : w5.heap.size < W1.heap.size := by omega
  have xm : W1.cell? ⟨w5.heap.size, 0, none⟩ = some vo' := (blk_cell hvo 0).trans rfl
  have fm := blk_frozen hvo 0
  have xa : W1.cell? ⟨w5.heap.size + 1, 0, none⟩ = some (.int .i64 (p : Int)) := (blk_cell hat 0).trans rfl
  have fa := blk_frozen hat 0
  rcases hX1 with ⟨e1, e2, e3, v, hxs, hv⟩ | ⟨e1, v, hxs, hv⟩
  ·
   have hx := congrArg Array.toList hxs
   simp only [List.cons.injEq, and_true] at hx
   obtain ⟨rfl, rfl⟩ := hx
   obtain ⟨Av, cv, rfl⟩ := Kd.V_slice hv
   obtain ⟨rt, rb, rn, rc, rs, rd_⟩ := r
   dsimp only at e1 e2 e3 hv hr
   have b1 : (0 : Int) ≤ rn := by omega
   have b2 : rn ≤ 1000000000 := by rw [List.length_drop] at e3; omega
   have b3 : (0 : Int) ≤ (p : Int) := by omega
   have b4 : (p : Int) ≤ 1000000000 := by omega
   have HE := Aside0.mk (show rc = 0 ∧ rn ≤ ((all.drop p).length : Int) from ⟨e1, e3⟩)
   have HVO := Aside0.mk hvo
   have HN := Aside0.mk hN
   have HATT := Aside0.mk hat
   have HVA := Aside0.mk hVa
   have HG4 := Aside0.mk hg4
   have HG5 := Aside0.mk hg5
   have HG6 := Aside0.mk hg6
   have HBW := Aside0.mk hbw
   have HBX := Aside0.mk hbox
   have HV := Aside0.mk hv
   have HR_ := Aside0.mk hr
   have HHO := Aside0.mk ho
   clear hxs e1 e2 e3 hvo hN hat hVa hg4 hg5 hg6 hbw hbox hv hr hvo' hq hRq ho hall hp
   have ta := taM_
   gi_wp2_with (first
    | (gi_at_builtin; refine listIn_of_list rfl (by intro c h; cases h) ⟨_, _, rfl⟩ ?_; refine Kd.N_append k43 (w0 := w) w.heap.size rfl (.tmp 42) (.tmp 44) 27 43 (.agg #[(.int .i64 0), (.slice none 0 0)]) 32 rfl Try.underlying27 info43 rfl (by decide) (by omega) vo' out (⟨rt, rb⟩ : S43) [.int .i64 rt, .slice Av rb.length cv] (okN w5.heap.size) (fun k => okN w5.heap.size k ∧ some k ≠ vo'.ownBlock) rfl ?aX ?aP (fun _ hk => hk) ?aF ?aO ?aB ?aS ?aL ?_; (case aX => rw [World.size_alloc]; rfl); (case aP => exact k43_mkF _ _ (⟨rt, rb⟩ : S43) (Kd.V_reads' HV.out).2.1 (Kd.V_F (Kd.V_alloc HV.out _))); (case aF => exact fun k hk => (by unfold okN; simp only [World.alloc, Array.size_push] at hk; omega)); (case aO => exact Kd.N_alloc HN.out _); (case aB => exact below_alloc HBW.out _); (case aS => have := HBW.out.size; simp only [World.alloc, Array.size_push]; omega); (case aL => have := HHO.out; omega); intro v3 w3 hN3 hb3 hg3 hat3; obtain ⟨A3, c3, rfl⟩ := Kd.N_slice hN3; have hm3 := (hg3.block w5.heap.size (by simp only [World.alloc, Array.size_push]; omega) (Kd.N_ne (Kd.N_alloc HN.out (.cells #[.int .i64 rt, .slice Av rb.length cv] 43)) (blk_alloc HVO.out _) (by decide))).trans (blk_alloc HVO.out _); have ha3 := (hg3.block (w5.heap.size + 1) (by simp only [World.alloc, Array.size_push]; omega) (Kd.N_ne (Kd.N_alloc HN.out (.cells #[.int .i64 rt, .slice Av rb.length cv] 43)) (blk_alloc HATT.out _) (by decide))).trans (blk_alloc HATT.out _); have ym : w3.cell? ⟨w5.heap.size, 0, none⟩ = some vo' := (blk_cell hm3 0).trans rfl; have ya : w3.cell? ⟨w5.heap.size + 1, 0, none⟩ = some (.int .i64 (p : Int)) := (blk_cell ha3 0).trans rfl; have ym_ := blk_frozen hm3 0; have ya_ := blk_frozen ha3 0; have HM3 := Aside0.mk hm3; have HA3 := Aside0.mk ha3; have HN3 := Aside0.mk hN3; have HB3 := Aside0.mk hb3; have HG3 := Aside0.mk hg3; have HAT3 := Aside0.mk hat3; clear hm3 ha3 hN3 hb3 hg3 hat3; dsimp only [wpList])
    | (rw [Oper.semAt_eq _ _ _ (fun c h => by cases h)]; go_simp; try go_bits))
   have hpl := HE.out.2
   have hpl2 : (all.drop p).length = all.length - p := List.length_drop
   refine ⟨⟨?_, ?_⟩, ?_⟩
   ·
    rw [Below.heap_setCell _ _ _ _ (by show w5.heap.size + 3 ≠ w5.heap.size + 1; omega), Below.heap_setCell _ _ _ _ (by show w5.heap.size + 3 ≠ w5.heap.size; omega)]
    exact (HG3.out.block (w5.heap.size + 3) (by simp only [World.alloc, Array.size_push]; omega) (fun he => by have := HN.out.1 _ he.symm; unfold okN at this; omega)).trans (Below.heap_alloc _ _ _ (by omega))
   ·
    rw [Below.heap_setCell _ _ _ _ (by show w5.heap.size + 3 + 1 ≠ w5.heap.size + 1; omega), Below.heap_setCell _ _ _ _ (by show w5.heap.size + 3 + 1 ≠ w5.heap.size; omega)]
    exact (HG3.out.block (w5.heap.size + 3 + 1) (by simp only [World.alloc, Array.size_push]; omega) (fun he => by have := HN.out.1 _ he.symm; unfold okN at this; omega)).trans (Below.heap_alloc _ _ _ (by omega))
   ·
    have hne : ∀ k, okA w1.heap.size w5.heap.size k → some k ≠ vo'.ownBlock := fun k hk he => by have := HN.out.1 _ he.symm; unfold okN at this; unfold okA at hk; omega
    have hnb : ∀ k, k < w5.heap.size → some k ≠ vo'.ownBlock := fun k hk he => by have := HN.out.1 _ he.symm; unfold okN at this; omega
    have old : ∀ (g : Nat) (o : Obj), g < w5.heap.size → W1.heap[g]? = some o → ((w3.setCell ⟨w5.heap.size, 0, none⟩ (.slice A3 (out.length + 1) c3)).setCell ⟨w5.heap.size + 1, 0, none⟩ (.int .i64 ((p : Int) + rn))).heap[g]? = some o := fun g o hg h => by
     rw [Below.heap_setCell _ _ _ _ (by show g ≠ w5.heap.size + 1; omega), Below.heap_setCell _ _ _ _ (by show g ≠ w5.heap.size; omega)]
     exact (HG3.out.block g (by simp only [World.alloc, Array.size_push]; omega) (hnb g hg)).trans (blk_alloc h _)
    have hVall : ∀ (A : Option Addr) (c : Nat) (b : List Int), Kd.V (Kd.int .u8) 5 W1 0 (okA w1.heap.size w5.heap.size) (.slice A b.length c) b → Kd.V (Kd.int .u8) 5 ((w3.setCell ⟨w5.heap.size, 0, none⟩ (.slice A3 (out.length + 1) c3)).setCell ⟨w5.heap.size + 1, 0, none⟩ (.int .i64 ((p : Int) + rn))) 0 (okA w1.heap.size w5.heap.size) (.slice A b.length c) b := fun A c b h => Kd.V_far (p := ⟨w5.heap.size + 1, 0, none⟩) (Kd.V_far (p := ⟨w5.heap.size, 0, none⟩) (Kd.V_grown (Kd.V_alloc h _) HG3.out hne) (fun k hk => by unfold okA at hk; show k ≠ w5.heap.size; omega) _) (fun k hk => by unfold okA at hk; show k ≠ w5.heap.size + 1; omega) _
    obtain ⟨Ab, cb, hb1, hb2⟩ := HBX.out
    have hbox3 : w3.heap[w5.heap.size + 2]? = some (.cells #[.slice Ab (all.drop p).length cb] 22 (0, 0)) := (HG3.out.block (w5.heap.size + 2) (by simp only [World.alloc, Array.size_push]; omega) (fun he => by have := HN.out.1 _ he.symm; unfold okN at this; omega)).trans (blk_alloc hb1 _)
    refine ⟨⟨Ab, cb, ?_, hVall _ _ _ hb2⟩, (rt, rb, rn, rc, rs, rd_), HR_.out, HE.out.1, ⟨⟨.slice A3 (out.length + 1) c3, ?_, ?_⟩, ?_, hVall _ _ _ HVA.out, old _ _ (by omega) HG4.out, old _ _ (by omega) HG5.out, old _ _ (by omega) HG6.out, ?_⟩⟩
    ·
     rw [Below.heap_setCell _ _ _ _ (by show w5.heap.size + 2 ≠ w5.heap.size + 1; omega), Below.heap_setCell _ _ _ _ (by show w5.heap.size + 2 ≠ w5.heap.size; omega)]
     exact hbox3
    ·
     rw [Below.heap_setCell _ _ _ _ (by show w5.heap.size ≠ w5.heap.size + 1; omega)]
     exact blk_put HM3.out 0 _ rfl
    ·
     have h := HN3.out
     rw [List.length_append, List.length_singleton] at h
     exact Kd.N_far (p := ⟨w5.heap.size + 1, 0, none⟩) (Kd.N_far (p := ⟨w5.heap.size, 0, none⟩) h (fun k hk => by unfold okN at hk; show k ≠ w5.heap.size; omega) _) (fun k hk => by unfold okN at hk; show k ≠ w5.heap.size + 1; omega) _
    ·
     exact blk_put ((Below.heap_setCell _ _ _ _ (by show w5.heap.size + 1 ≠ w5.heap.size; omega)).trans HA3.out) 0 _ rfl
    ·
     exact set_below _ (set_below _ HB3.out (by omega)) (by omega)
  ·
   have hx := congrArg Array.toList hxs
   simp only [List.cons.injEq, and_true] at hx
   obtain ⟨rfl, rfl⟩ := hx
   obtain ⟨Av, cv, rfl⟩ := Kd.V_slice hv
   obtain ⟨rt, rb, rn, rc, rs, rd_⟩ := r
   dsimp only at e1 hv hr
   have y0 : W1.cell? ⟨w.heap.size + 1, 0, none⟩ = some (.slice none 0 0) := (blk_cell hg4 0).trans rfl
   have y1 : W1.cell? ⟨w.heap.size + 1, 1, none⟩ = some (.bool false) := (blk_cell hg4 1).trans rfl
   have y2 : W1.cell? ⟨w.heap.size + 1 + 1, 0, none⟩ = some (.slice none 0 0) := (blk_cell hg5 0).trans rfl
   have y3 : W1.cell? ⟨w.heap.size + 1 + 1 + 1, 0, none⟩ = some (.int .i64 0) := (blk_cell hg6 0).trans rfl
   have y4 : W1.cell? ⟨w.heap.size + 1 + 1 + 1, 1, none⟩ = some (.int .i64 0) := (blk_cell hg6 1).trans rfl
   have y5 : W1.cell? ⟨w.heap.size + 1 + 1 + 1, 2, none⟩ = some (.slice none 0 0) := (blk_cell hg6 2).trans rfl
   have z0 := blk_frozen hg4 0
   have z1 := blk_frozen hg4 1
   have z2 := blk_frozen hg5 0
   have z3 : W1.frozen? ⟨w.heap.size + 1 + 1 + 1, 0, none⟩ = false := blk_frozen hg6 0
   have z4 : W1.frozen? ⟨w.heap.size + 1 + 1 + 1, 1, none⟩ = false := blk_frozen hg6 1
   have z5 : W1.frozen? ⟨w.heap.size + 1 + 1 + 1, 2, none⟩ = false := blk_frozen hg6 2
   have lt1 : w.heap.size + 1 < W1.heap.size := by omega
   have lt2 : w.heap.size + 1 + 1 < W1.heap.size := by omega
   have lt3 : w.heap.size + 1 + 1 + 1 < W1.heap.size := by omega
   have HE := Aside0.mk e1
   have HVO := Aside0.mk hvo
   have HN := Aside0.mk hN
   have HBW := Aside0.mk hbw
   have HV := Aside0.mk hv
   have HQ := Aside0.mk hq
   have HRQ := Aside0.mk hRq
   have HR_ := Aside0.mk hr
   have HG4 := Aside0.mk hg4
   have HG5 := Aside0.mk hg5
   have HG6 := Aside0.mk hg6
   obtain ⟨Ao, co, rfl⟩ := Kd.N_slice hN
   clear hxs e1 hvo hN hat hVa hg4 hg5 hg6 hbw hbox hv hr hvo' hq hRq ho hall hp
   have ta := taN_
   have tb := taO_
   gi_wp2_with (rw [Oper.semAt_eq _ _ _ (fun c h => by cases h)]; go_simp; try go_bits)
   gi_region_with (rw [Oper.semAt_eq _ _ _ (fun c h => by cases h)]; go_simp; try go_bits)
   all_goals gi_wp2_with (rw [Oper.semAt_eq _ _ _ (fun c h => by cases h)]; go_simp; try go_bits)
   all_goals
    obtain ⟨p1, p2, p3, p4⟩ := feed_puts HG4.out HG5.out HG6.out (.slice none 0 0) (.slice Ao out.length co) (.slice Av rd_.length cv) (.int .i64 rc) (.int .i64 rs) (.bool true)
    have hR : R = (out, all.drop p, rc, rs, rd_) := by
     have h1 := msgsF_note HQ.out HR_.out HE.out
     have h2 := HRQ.out
     rw [h1] at h2
     simpa using h2
    have hlt : ∀ k, k < W1.heap.size → k ≠ w.heap.size + 1 → k ≠ w.heap.size + 1 + 1 → k ≠ w.heap.size + 1 + 2 → (((((((W1.setCell ⟨w.heap.size + 1, 0, none⟩ (.slice none 0 0)).setCell ⟨w.heap.size + 1, 1, none⟩ (.bool true)).setCell ⟨w.heap.size + 1 + 1, 0, none⟩ (.slice Ao out.length co)).setCell ⟨w.heap.size + 1 + 1 + 1, 0, none⟩ (.int .i64 rc)).setCell ⟨w.heap.size + 1 + 1 + 1, 1, none⟩ (.int .i64 rs)).setCell ⟨w.heap.size + 1 + 1 + 1, 2, none⟩ (.slice Av rd_.length cv)).alloc (.cells #[.int .i64 0, .slice none 0 0] 43)).heap[k]? = W1.heap[k]? := fun k hk e1 e2 e3 => (Below.heap_alloc _ _ _ (by simp only [feed_size]; exact hk)).trans (p4 k e1 e2 e3)
    refine ⟨⟨hlt _ (by omega) (by omega) (by omega) (by omega), hlt _ (by omega) (by omega) (by omega) (by omega)⟩, ?_⟩
    subst hR
    refine ⟨HE.out, blk_drew (blk_alloc p1 _), _, blk_drew (blk_alloc p2 _), ?_, ⟨_, blk_drew (blk_alloc p3 _), ?_⟩, ?_⟩
    ·
     exact Kd.N_step HN.out (fun k hk hl => hlt k hl (by unfold okN at hk; omega) (by unfold okN at hk; omega) (by unfold okN at hk; omega))
    ·
     exact Kd.V_step HV.out (fun k hk hl => hlt k hl (by have := hk.1; unfold okN at this; omega) (by have := hk.1; unfold okN at this; omega) (by have := hk.1; unfold okN at this; omega))
    ·
     exact below_drew1 (below_alloc (set_below _ (set_below _ (set_below _ (set_below _ (set_below _ (set_below _ HBW.out (by omega)) (by omega)) (by omega)) (by omega)) (by omega)) (by omega)) _)
 case done =>
  intro s W hF hI hD
  rw [hW] at hD
  have HZ := Aside0.mk hW
  clear HI0 hW hsz1
  obtain ⟨j, out, p⟩ := s
  obtain ⟨⟨hp, q, hq, hRq⟩, ⟨⟨vo, hvo, hN⟩, hat, hVa, hg4, hg5, hg6, hbw⟩, hbox⟩ := hI
  obtain ⟨r, hr, hc0, hn0⟩ := hF
  dsimp only at hp hq hRq hvo hN hat hVa hbox hr
  have hR : R = (out, all.drop p, 0, 0, []) := by
   have h1 := msgsF_end hq hr hc0 hn0
   rw [h1] at hRq
   simpa using hRq
  clear hq hr hc0 hn0 hRq r q
  have hall := HL.out
  have xm : W.cell? ⟨w5.heap.size, 0, none⟩ = some vo := (blk_cell hvo 0).trans rfl
  have xa : W.cell? ⟨w5.heap.size + 1, 0, none⟩ = some (.int .i64 (p : Int)) := (blk_cell hat 0).trans rfl
  have hBz := blk_lt hD
  have y0 : W.cell? ⟨w.heap.size + 1, 0, none⟩ = some (.slice none 0 0) := (blk_cell hg4 0).trans rfl
  have y1 : W.cell? ⟨w.heap.size + 1, 1, none⟩ = some (.bool false) := (blk_cell hg4 1).trans rfl
  have y2 : W.cell? ⟨w.heap.size + 1 + 1, 0, none⟩ = some (.slice none 0 0) := (blk_cell hg5 0).trans rfl
  have y3 : W.cell? ⟨w.heap.size + 1 + 1 + 1, 0, none⟩ = some (.int .i64 0) := (blk_cell hg6 0).trans rfl
  have y4 : W.cell? ⟨w.heap.size + 1 + 1 + 1, 1, none⟩ = some (.int .i64 0) := (blk_cell hg6 1).trans rfl
  have y5 : W.cell? ⟨w.heap.size + 1 + 1 + 1, 2, none⟩ = some (.slice none 0 0) := (blk_cell hg6 2).trans rfl
  have z0 := blk_frozen hg4 0
  have z1 := blk_frozen hg4 1
  have z2 := blk_frozen hg5 0
  have z3 : W.frozen? ⟨w.heap.size + 1 + 1 + 1, 0, none⟩ = false := blk_frozen hg6 0
  have z4 : W.frozen? ⟨w.heap.size + 1 + 1 + 1, 1, none⟩ = false := blk_frozen hg6 1
  have z5 : W.frozen? ⟨w.heap.size + 1 + 1 + 1, 2, none⟩ = false := blk_frozen hg6 2
  obtain ⟨A7, hcut, hV7⟩ := cutV W Aa ca all _ 0 (p : Int) hVa (by omega) (by omega)
  rw [Int.toNat_natCast] at hcut hV7
  have bp0 : (0 : Int) ≤ (p : Int) := by omega
  have bp1 : (p : Int) ≤ 1000000000 := by omega
  have HN := Aside0.mk hN
  have HV7 := Aside0.mk hV7
  have HG4 := Aside0.mk hg4
  have HG5 := Aside0.mk hg5
  have HG6 := Aside0.mk hg6
  have HBW := Aside0.mk hbw
  have HD := Aside0.mk hD
  have HR_ := Aside0.mk hR
  obtain ⟨Ao, co, rfl⟩ := Kd.N_slice hN
  clear hvo hN hat hVa hg4 hg5 hg6 hbw hbox hp hall hD hR hV7
  gi_wp2
  gi_region
  all_goals gi_wp2
  all_goals
   obtain ⟨p1, p2, p3, p4⟩ := feed_puts HG4.out HG5.out HG6.out (.slice A7 (all.drop p).length (ca - p)) (.slice Ao out.length co) (.slice none 0 0) (.int .i64 0) (.int .i64 0) (.bool false)
   have hR := HR_.out
   rw [hR]
   have hs : ∀ (W : World) (k j : Nat) (i : Nat) (v : Value), i ≠ k → (W.setCell ⟨k, j, none⟩ v).heap[i]? = W.heap[i]? := fun W k j i v h => Below.heap_setCell W ⟨k, j, none⟩ v i h
   simp only [List.length_drop] at p1 p2 p3 p4
   obtain ⟨W2, hW2⟩ : ∃ W2 : World, W2 = ((((((W.setCell ⟨w.heap.size + 1, 0, none⟩ (.slice A7 (all.length - p) (ca - p))).setCell ⟨w.heap.size + 1, 1, none⟩ (.bool false)).setCell ⟨w.heap.size + 1 + 1, 0, none⟩ (.slice Ao out.length co)).setCell ⟨w.heap.size + 1 + 1 + 1, 0, none⟩ (.int .i64 0)).setCell ⟨w.heap.size + 1 + 1 + 1, 1, none⟩ (.int .i64 0)).setCell ⟨w.heap.size + 1 + 1 + 1, 2, none⟩ (.slice none 0 0)) := ⟨_, rfl⟩
   have hz2 : W2.heap.size = W.heap.size := by rw [hW2]; simp only [feed_size]
   have hbb : Below w.heap.size w W2 := by rw [hW2]; exact set_below _ (set_below _ (set_below _ (set_below _ (set_below _ (set_below _ HBW.out (by omega)) (by omega)) (by omega)) (by omega)) (by omega)) (by omega)
   rw [← hW2] at p1 p2 p3 p4 ⊢
   clear hW2
   have hd2 : W2.drew.heap[w5.heap.size + 3]? = some (.deferred (some [])) := (p4 _ (by omega) (by omega) (by omega)).trans HD.out
   have hp : ∀ k, k ≠ w5.heap.size + 3 → (W2.drew.putObj (w5.heap.size + 3) (.deferred none)).heap[k]? = W2.heap[k]? := fun k hk => World.putObj_heap_other (w := W2.drew) (by omega)
   have c0 : (W2.drew.putObj (w5.heap.size + 3) (.deferred none)).cell? ⟨w.heap.size + 1, 0, none⟩ = some (.slice A7 (all.length - p) (ca - p)) := (blk_cell ((hp _ (by omega)).trans p1) 0).trans rfl
   have c1_ : (W2.drew.putObj (w5.heap.size + 3) (.deferred none)).cell? ⟨w.heap.size + 1, 1, none⟩ = some (.bool false) := (blk_cell ((hp _ (by omega)).trans p1) 1).trans rfl
   have c2 : (W2.drew.putObj (w5.heap.size + 3) (.deferred none)).cell? ⟨w.heap.size + 1 + 1, 0, none⟩ = some (.slice Ao out.length co) := (blk_cell ((hp _ (by omega)).trans p2) 0).trans rfl
   have c3 : (W2.drew.putObj (w5.heap.size + 3) (.deferred none)).cell? ⟨w.heap.size + 1 + 1 + 1, 0, none⟩ = some (.int .i64 0) := (blk_cell ((hp _ (by omega)).trans p3) 0).trans rfl
   have c4 : (W2.drew.putObj (w5.heap.size + 3) (.deferred none)).cell? ⟨w.heap.size + 1 + 1 + 1, 1, none⟩ = some (.int .i64 0) := (blk_cell ((hp _ (by omega)).trans p3) 1).trans rfl
   have c5 : (W2.drew.putObj (w5.heap.size + 3) (.deferred none)).cell? ⟨w.heap.size + 1 + 1 + 1, 2, none⟩ = some (.slice none 0 0) := (blk_cell ((hp _ (by omega)).trans p3) 2).trans rfl
   refine ⟨by simp, .inl ⟨w5.heap.size + 3, _, by show Target.collected _ = _; rw [HZ.out], run_takeDeferred hd2, ?_⟩⟩
   refine ⟨.tuple #[.agg #[.slice A7 (all.length - p) (ca - p), .bool false], .slice Ao out.length co, .agg #[.int .i64 0, .int .i64 0, .slice none 0 0]], ?_, ?_⟩
   ·
    simp [results, Try.results8, go_sem, c0, c1_, c2, c3, c4, c5]
   ·
    have hin : ∀ k, k < W.heap.size → k ≠ w.heap.size + 1 → k ≠ w.heap.size + 2 → k ≠ w.heap.size + 3 → k ≠ w5.heap.size + 3 → (W2.drew.putObj (w5.heap.size + 3) (.deferred none)).heap[k]? = W.heap[k]? := fun k _ h1 h2 h3 h4 => (hp k h4).trans (p4 k h1 (by omega) (by omega))
    have hNf := Kd.N_step HN.out (w1 := W2.drew.putObj (w5.heap.size + 3) (.deferred none)) (fun k hk hl => hin k hl (by unfold okN at hk; omega) (by unfold okN at hk; omega) (by unfold okN at hk; omega) (by unfold okN at hk; omega))
    have hVf := Kd.V_step HV7.out (w1 := W2.drew.putObj (w5.heap.size + 3) (.deferred none)) (fun k hk hl => hin k hl (by unfold okA at hk; omega) (by unfold okA at hk; omega) (by unfold okA at hk; omega) (by unfold okA at hk; omega))
    rw [List.length_drop] at hVf
    refine ⟨.slice A7 (all.length - p) (ca - p), .slice Ao out.length co, .slice none 0 0, rfl, Kd.V_map (base' := w.heap.size) hVf (fun _ hf => Kd.F_mono hf (fun k hk => ⟨by unfold okA at hk; omega, fun he => by have := hNf.1 k he.symm; unfold okN at this; unfold okA at hk; omega⟩)), Kd.N_mono hNf (fun k hk => by unfold okN at hk; omega), Kd.V_nil _ _ _ _ _, ?_⟩
    exact (below_drew1 hbb).grown (grownBy_putObj' W2.drew (w5.heap.size + 3) _) (below_drew1 hbb).size (fun k e => by injection e with e; subst e; omega)
 case stop =>
  intro s W hX hD
  rw [hW] at hD
  have HZ := Aside0.mk hW
  clear HI0 hW hsz1
  obtain ⟨e1, hg4, vo, hg5, hN, ⟨v, hg6, hV⟩, hbw⟩ := hX
  have HN := Aside0.mk hN
  have HV := Aside0.mk hV
  have HG4 := Aside0.mk hg4
  have HG5 := Aside0.mk hg5
  have HG6 := Aside0.mk hg6
  have HBW := Aside0.mk hbw
  have HD := Aside0.mk hD
  have HE := Aside0.mk e1
  clear hN hV hg4 hg5 hg6 hbw hD e1
  gi_wp2
  have hBz := blk_lt HD.out
  have hp : ∀ k, k ≠ w5.heap.size + 3 → (W.putObj (w5.heap.size + 3) (.deferred none)).heap[k]? = W.heap[k]? := fun k hk => World.putObj_heap_other (w := W) (by omega)
  obtain ⟨Ao, co, rfl⟩ := Kd.N_slice HN.out
  obtain ⟨Av, cv, rfl⟩ := Kd.V_slice HV.out
  have c0 : (W.putObj (w5.heap.size + 3) (.deferred none)).cell? ⟨w.heap.size + 1, 0, none⟩ = some (.slice none 0 0) := (blk_cell ((hp _ (by omega)).trans HG4.out) 0).trans rfl
  have c1_ : (W.putObj (w5.heap.size + 3) (.deferred none)).cell? ⟨w.heap.size + 1, 1, none⟩ = some (.bool true) := (blk_cell ((hp _ (by omega)).trans HG4.out) 1).trans rfl
  have c2 : (W.putObj (w5.heap.size + 3) (.deferred none)).cell? ⟨w.heap.size + 1 + 1, 0, none⟩ = some (.slice Ao R.1.length co) := (blk_cell ((hp _ (by omega)).trans HG5.out) 0).trans rfl
  have c3 : (W.putObj (w5.heap.size + 3) (.deferred none)).cell? ⟨w.heap.size + 1 + 1 + 1, 0, none⟩ = some (.int .i64 R.2.2.1) := (blk_cell ((hp _ (by omega)).trans HG6.out) 0).trans rfl
  have c4 : (W.putObj (w5.heap.size + 3) (.deferred none)).cell? ⟨w.heap.size + 1 + 1 + 1, 1, none⟩ = some (.int .i64 R.2.2.2.1) := (blk_cell ((hp _ (by omega)).trans HG6.out) 1).trans rfl
  have c5 : (W.putObj (w5.heap.size + 3) (.deferred none)).cell? ⟨w.heap.size + 1 + 1 + 1, 2, none⟩ = some (.slice Av R.2.2.2.2.length cv) := (blk_cell ((hp _ (by omega)).trans HG6.out) 2).trans rfl
  refine ⟨by simp, .inl ⟨w5.heap.size + 3, _, by show Target.collected _ = _; rw [HZ.out], run_takeDeferred HD.out, ?_⟩⟩
  refine ⟨.tuple #[.agg #[.slice none 0 0, .bool true], .slice Ao R.1.length co, .agg #[.int .i64 R.2.2.1, .int .i64 R.2.2.2.1, .slice Av R.2.2.2.2.length cv]], ?_, ?_⟩
  ·
   simp [results, Try.results8, go_sem, c0, c1_, c2, c3, c4, c5]
  ·
   have hNf := Kd.N_step HN.out (w1 := W.putObj (w5.heap.size + 3) (.deferred none)) (fun k hk hl => hp k (by unfold okN at hk; omega))
   have hVf := Kd.V_step HV.out (w1 := W.putObj (w5.heap.size + 3) (.deferred none)) (fun k hk hl => hp k (by have := hk.1; unfold okN at this; omega))
   have e2 : (R.2.2.1 != 0) = true := by simpa using HE.out
   refine ⟨.slice none 0 0, .slice Ao R.1.length co, .slice Av R.2.2.2.2.length cv, by rw [if_neg HE.out, if_neg HE.out, e2], by rw [if_neg HE.out]; exact Kd.V_nil _ _ _ _ _, Kd.N_mono hNf (fun k hk => by unfold okN at hk; omega), ?_, ?_⟩
   ·
    rw [if_neg HE.out]
    exact Kd.V_map (base' := w.heap.size) hVf (fun _ hf => Kd.F_mono hf (fun k hk => ⟨by have := hk.1; unfold okN at this; omega, hk.2⟩))
   ·
    exact HBW.out.grown (grownBy_putObj' W (w5.heap.size + 3) _) HBW.out.size (fun k e => by injection e with e; subst e; omega)
set_option maxHeartbeats 8000000 in
theorem stream_Feed.calls (A0_0 : Option Addr) (c0_0 : Nat) (l0_0 : List Int) (a0_1 : Bool) (A1 : Option Addr) (c1 : Nat) (l1 : List Int) (r1 : List Int) (r2 : Bool) (r3 : List S43) (r4 r5 : Int) (r6 : List Int) (w : World) (hr0_0 : Kd.C (Kd.int .u8) w A0_0 l0_0.length l0_0) (hc0_0 : l0_0.length ≤ c0_0) (hr1 : Kd.C (Kd.int .u8) w A1 l1.length l1) (hc1 : l1.length ≤ c1) (h : stream_Feed.f l0_0 a0_1 l1 = some (r1, r2, r3, r4, r5, r6)) :
  Calls Try.prog 8 #[.agg #[.slice A0_0 l0_0.length c0_0, .bool a0_1], .slice A1 l1.length c1] w fun e w' => ∃ v0_ v2_ v5_ : Value, e = .returned (.tuple #[.agg #[v0_, .bool r2], v2_, .agg #[.int .i64 r4, .int .i64 r5, v5_]]) ∧
   Kd.V (Kd.int .u8) 5 w' w.heap.size (fun k_ => w.heap.size ≤ k_ ∧ some k_ ≠ (v2_ : Value).ownBlock) v0_ r1 ∧ Kd.N k43 43 w' w.heap.size (fun k_ => w.heap.size ≤ k_) v2_ r3 ∧ Kd.V (Kd.int .u8) 5 w' w.heap.size (fun k_ => w.heap.size ≤ k_ ∧ some k_ ≠ (v2_ : Value).ownBlock) v5_ r6 ∧ Below w.heap.size w w' := by
 unfold stream_Feed.f at h
 obtain ⟨ok, hok, h⟩ := Option.bind_eq_some_iff.mp h
 have tail : ∀ all : List Int, feedF all = some (r1, r2, r3, r4, r5, r6) → all.length < 1000000000 ∧ ∃ R, msgsF 100 (all.length + 1) all = some R ∧ ∀ e w', feedPost w R e w' → ∃ v0_ v2_ v5_ : Value, e = .returned (.tuple #[.agg #[v0_, .bool r2], v2_, .agg #[.int .i64 r4, .int .i64 r5, v5_]]) ∧
   Kd.V (Kd.int .u8) 5 w' w.heap.size (fun k_ => w.heap.size ≤ k_ ∧ some k_ ≠ (v2_ : Value).ownBlock) v0_ r1 ∧ Kd.N k43 43 w' w.heap.size (fun k_ => w.heap.size ≤ k_) v2_ r3 ∧ Kd.V (Kd.int .u8) 5 w' w.heap.size (fun k_ => w.heap.size ≤ k_ ∧ some k_ ≠ (v2_ : Value).ownBlock) v5_ r6 ∧ Below w.heap.size w w' := by
  intro all h
  unfold feedF at h
  by_cases hl : all.length < 1000000000
  ·
   rw [if_pos hl] at h
   obtain ⟨R, hR, h⟩ := Option.map_eq_some_iff.mp h
   refine ⟨hl, R, hR, ?_⟩
   intro e w' hp
   obtain ⟨v0, v2, v5, h1, h2, h3, h4, h5⟩ := hp
   by_cases c : R.2.2.1 = 0
   ·
    rw [if_pos c] at h
    simp only [Prod.mk.injEq] at h
    obtain ⟨rfl, rfl, rfl, rfl, rfl, rfl⟩ := h
    have e2 : (R.2.2.1 != 0) = false := by simpa using c
    rw [if_pos c] at h2 h4
    rw [if_pos c, if_pos c, e2] at h1
    exact ⟨v0, v2, v5, h1, h2, h3, h4, h5⟩
   ·
    rw [if_neg c] at h
    simp only [Prod.mk.injEq] at h
    obtain ⟨rfl, rfl, rfl, rfl, rfl, rfl⟩ := h
    have e2 : (R.2.2.1 != 0) = true := by simpa using c
    rw [if_neg c] at h2 h4
    rw [if_neg c, if_neg c, e2] at h1
    exact ⟨v0, v2, v5, h1, h2, h3, h4, h5⟩
  ·
   rw [if_neg hl] at h
   cases h
 cases ok
 ·
  rw [if_neg (by decide)] at h
  obtain ⟨hl, R, hm, hp⟩ := tail _ h
  exact (feed_no A0_0 c0_0 l0_0 a0_1 A1 c1 l1 l1 R w hr0_0 hc0_0 hr1 hc1 hok rfl hl hm).mono hp
 ·
  rw [if_pos rfl] at h
  cases a0_1
  ·
   rw [if_neg (by decide)] at h
   obtain ⟨hl, R, hm, hp⟩ := tail _ h
   exact (feed_go A0_0 c0_0 l0_0 A1 c1 l1 (l0_0 ++ l1) R w hr0_0 hc0_0 hr1 hc1 hok rfl hl hm).mono hp
  ·
   rw [if_pos rfl] at h
   simp only [Option.some.injEq, Prod.mk.injEq] at h
   obtain ⟨rfl, rfl, rfl, rfl, rfl, rfl⟩ := h
   have h0 : l0_0 = [] := by
    unfold stream_Sane.f at hok
    rw [if_pos rfl] at hok
    have := Option.some.inj hok
    simp only [beq_iff_eq] at this
    exact List.eq_nil_of_length_eq_zero (by omega)
   refine (feed_bad A0_0 c0_0 l0_0 A1 c1 l1 w hr0_0 hc0_0 hok).mono ?_
   rintro e w' ⟨rfl, hb⟩
   subst h0
   exact ⟨_, _, _, rfl, ⟨A0_0, c0_0, rfl, Nat.zero_le _, fun W' _ => ⟨rfl, by decide, fun h => absurd h (by simp)⟩⟩, Kd.N_nil _ _ _ _ _, Kd.V_nil _ _ _ _ _, hb⟩

end Go.Proofs.Ythkbpiagggeicaa.Q
