/- Each call of a Go function comes to what the Lean function of its name answers (written out by wip/tools/xprint.py, checked by Lean); conditions: those in each statement. -/
import Derived.Test.YtfmhclbcoladpaaEx0
import Derived.Test.YtfmhclbcoladpaaEx2
import Derived.Test.YtfmhclbcoladpaaEx5
namespace Go.Proofs.Ytfmhclbcoladpaa.E
open Go.RowKit Go.Proofs.YtfmhclbcoladpaaW.PrintWords Go.Proofs.YtfmhclbcoladpaaW.PrintLast Go.Proofs.YtfmhclbcoladpaaW.PrintMore Go.Proofs.YtfmhclbcoladpaaW.PrintX
attribute [local go_sem] max2_int min2_int max_two min_two max_three min_three max_four min_four   -- for this text's walks alone
set_option linter.unusedVariables false
set_option linter.unusedSimpArgs false

/-! ### attr_Judge: function 23 -/
theorem bits_or_zero (x : Int) (h0 : 0 ≤ x) (h1 : x < 256) : Go.bits .or .i64 0 (wrap64 x) = x := by
 have : ∀ n : Fin 256, Go.bits .or .i64 0 (wrap64 ((n.val : Int))) = n.val := by decide +kernel
 have h := this ⟨x.toNat, by omega⟩
 have e : ((x.toNat : Nat) : Int) = x := by omega
 dsimp only at h
 rw [e] at h
 exact h
/-- octet.Get of one octet: told with the row that it cuts. -/
def addrFrom (A : Option Addr) (c m : Nat) : Option Addr := if c = m then A else A.map (·.add (m * 1))
set_option maxHeartbeats 8000000 in
set_option maxRecDepth 100000 in
theorem get1_none (A : Option Addr) (c : Nat) (w : World) :
  Calls Try.prog 27 #[.slice A 0 c, .int .i64 1] w fun e w' => e = .returned (.tuple #[.int .i64 0, .slice none 0 0, .bool false]) ∧ Below w.heap.size w w' := by
 go_enter Try.func27, Try.ntmps27
 go_wp2
 go_ret3
 exact ⟨rfl, by repeat (first | exact Below.refl _ _ | exact pw_below_drewN (Below.refl _ _) _ | apply below_drew)⟩
set_option maxHeartbeats 8000000 in
set_option maxRecDepth 100000 in
theorem get1_some (x : Int) (l : List Int) (A : Option Addr) (c : Nat) (w : World) (hr : Kd.C (Kd.int .u8) w A (l.length + 1) (x :: l)) (hc : l.length + 1 ≤ c) (h0 : 0 ≤ x) (h1 : x < 256) :
  Calls Try.prog 27 #[.slice A (l.length + 1) c, .int .i64 1] w fun e w' => e = .returned (.tuple #[.int .i64 x, .slice (addrFrom A c 1) l.length (c - 1), .bool true]) ∧ Below w.heap.size w w' := by
 obtain ⟨ad, e1, x0⟩ := Kd.at_int hr (0 : Int) (by decide) (by omega)
 cases e1
 simp only [rd, Int.toNat_zero, Addr.add_zero', List.getD_cons_zero] at x0
 have d1 : decide (((l.length + 1 : Nat) : Int) < 1) = false := decide_eq_false (by omega)
 obtain ⟨i0, hi0, -, hsz, -⟩ := info_parts info5
 have hcut := cut_from (P := Try.prog) 22 5 .i64 Try.underlying22 hi0 1 hsz (some ad) (l.length + 1) c 1 (by decide) (by omega)
 rw [show l.length + 1 - (1 : Int).toNat = l.length from rfl, show c - (1 : Int).toNat = c - 1 from rfl] at hcut
 rw [show (if c = (1 : Int).toNat then some ad else (some ad).map (·.add ((1 : Int).toNat * 1))) = addrFrom (some ad) c 1 from rfl] at hcut
 have hbits := bits_or_zero x h0 h1
 have hmx := Kd.C_max hr
 have HX := Aside0.mk h0
 have HY := Aside0.mk h1
 have HB := Aside0.mk hbits
 obtain ⟨A', hA'⟩ : ∃ A', A' = addrFrom (some ad) c 1 := ⟨_, rfl⟩
 rw [← hA'] at hcut ⊢
 have HA := Aside0.mk hA'
 clear hr h0 h1 hbits hc hA' hi0 hsz
 go_enter Try.func27, Try.ntmps27
 go_wp2
 go_loopg [7, 22] 2 (fun kq v7 v22 w' => (Aside0 ((kq = 2 ∧ v7 = .int .i64 0 ∧ v22 = .int .i64 0) ∨ (kq = 1 ∧ v7 = .int .i64 x ∧ v22 = .int .i64 1))) ∧ w' = w)
 case atStart => exact ⟨⟨.inl ⟨rfl, rfl, rfl⟩⟩, rfl⟩
 case round =>
  obtain ⟨hv, rfl⟩ := hrel
  rcases hv.out with ⟨rfl, rfl, rfl⟩ | ⟨rfl, rfl, rfl⟩
  ·
   go_wp2
   go_roundg 1
   case measure => omega
   case rel =>
    refine ⟨⟨.inr ⟨rfl, ?_, rfl⟩⟩, rfl⟩
    exact congrArg (Value.int .i64) HB.out
  ·
   go_wp2
   repeat (go_quiet (fail); try go_wp2)
   go_ret3
   exact ⟨rfl, by repeat (first | exact Below.refl _ _ | exact pw_below_drewN (Below.refl _ _) _ | apply below_drew)⟩
set_option maxHeartbeats 8000000 in
set_option maxRecDepth 100000 in
theorem take_no (n : Int) (A : Option Addr) (m c : Nat) (w : World) (h : n < 0 ∨ (m : Int) < n) :
  Calls Try.prog 28 #[.slice A m c, .int .i64 n] w fun e w' => e = .returned (.tuple #[.slice none 0 0, .slice none 0 0, .bool false]) ∧ Below w.heap.size w w' := by
 rcases h with h | h
 ·
  have d1 : decide (n < 0) = true := decide_eq_true h
  clear h
  go_enter Try.func28, Try.ntmps28
  go_wp2
  go_ret3
  exact ⟨rfl, by repeat (first | exact Below.refl _ _ | exact pw_below_drewN (Below.refl _ _) _ | apply below_drew)⟩
 ·
  have d1 : decide (n < 0) = false := decide_eq_false (by omega)
  have d2 : decide ((m : Int) < n) = true := decide_eq_true h
  clear h
  go_enter Try.func28, Try.ntmps28
  go_wp2
  go_ret3
  exact ⟨rfl, by repeat (first | exact Below.refl _ _ | exact pw_below_drewN (Below.refl _ _) _ | apply below_drew)⟩
set_option maxHeartbeats 8000000 in
set_option maxRecDepth 100000 in
theorem take_yes (n : Nat) (A : Option Addr) (m c : Nat) (w : World) (h : n ≤ m) (hc : m ≤ c) :
  Calls Try.prog 28 #[.slice A m c, .int .i64 n] w fun e w' => e = .returned (.tuple #[.slice A n n, .slice (addrFrom A c n) (m - n) (c - n), .bool true]) ∧ Below w.heap.size w w' := by
 have d1 : decide ((n : Int) < 0) = false := decide_eq_false (by omega)
 have d2 : decide (m < n) = false := decide_eq_false (by omega)
 have d3 : (n : Int) ≤ (m : Int) := by omega
 obtain ⟨i0, hi0, -, hsz, -⟩ := info_parts info5
 have hcut := cut_from (P := Try.prog) 22 5 .i64 Try.underlying22 hi0 1 hsz A m c (n : Int) (by omega) (by omega)
 have hto := cut_to3 (P := Try.prog) 22 5 .i64 .i64 Try.underlying22 hi0 A m c (n : Int) (by omega) (by omega) (by omega)
 simp only [Int.toNat_natCast] at hcut hto
 rw [show (if c = n then A else A.map (·.add (n * 1))) = addrFrom A c n from rfl] at hcut
 obtain ⟨A', hA'⟩ : ∃ A', A' = addrFrom A c n := ⟨_, rfl⟩
 rw [← hA'] at hcut ⊢
 have HA := Aside0.mk hA'
 clear h hc hA' hi0 hsz
 go_enter Try.func28, Try.ntmps28
 go_wp2
 repeat (go_quiet (fail); try go_wp2)
 go_ret3
 exact ⟨rfl, by repeat (first | exact Below.refl _ _ | exact pw_below_drewN (Below.refl _ _) _ | apply below_drew)⟩
/-- What chunks of four say. -/
def quads (K : Nat) : Nat → List Int → List Int → Option (List Int × Bool)
 | 0, _, _ => none
 | j + 1, acc, b => if b.length = 0 then some (acc, true) else (attr_number.f K (b.take 4)).bind fun r => if r.2 = true then quads K j (acc ++ [r.1]) (b.drop 4) else some (acc, false)
abbrev CS := Nat × List Int × Nat
def okR (m b k : Nat) : Prop := m + 2 ≤ k ∧ k ≠ b ∧ k ≠ b + 1 ∧ k ≠ b + 2 ∧ k ≠ b + 3
def restC (w0 w : World) (g : Nat) (o h t : Int) (b : Nat) (bs : List Nat) (Ai : Option Addr) (ni ci : Nat) (acc : List Int) (W : World) : Prop :=
 (∃ va, W.heap[g]? = some (.cells #[.int .i64 o, va, .int .i64 h, .int .i64 t] 27 (0, 0)) ∧ Kd.N (Kd.int .i64) 3 W w.heap.size (okR w.heap.size b) va acc) ∧
 W.heap[w.heap.size]? = some (.cells #[.pointer (some ⟨g, 0, none⟩)] 64 (0, 0)) ∧
 W.heap[w.heap.size + 1]? = some (.cells #[.bool false] 4 (0, 0)) ∧
 W.heap[b]? = some (.cells #[.slice Ai ni ci] 22 (0, 0)) ∧
 W.heap[b + 1]? = some (.cells #[.int .i64 4] 3 (0, 0)) ∧
 KeepBut w W g none ∧ Below w0.heap.size w0 W ∧ (∀ x ∈ bs, x < b ∧ w.heap.size + 2 ≤ x ∧ W.heap[x]? = some (.deferred (some [])))
def iC (K : Nat) (inn : List Int) (Q : List Int × Bool) (w0 w : World) (g : Nat) (o h t : Int) (b : Nat) (bs : List Nat) (Ai : Option Addr) (ci : Nat) (s : CS) (W : World) : Prop :=
 (quads K s.1 s.2.1 (inn.drop s.2.2) = some Q ∧ s.2.2 < inn.length + 4) ∧ restC w0 w g o h t b bs Ai inn.length ci s.2.1 W
def iC' (K : Nat) (inn : List Int) (Q : List Int × Bool) (w0 w : World) (g : Nat) (o h t : Int) (b : Nat) (bs : List Nat) (Ai : Option Addr) (ci : Nat) (s : CS) (W : World) : Prop :=
 ∃ r, attr_number.f K ((inn.drop s.2.2).take 4) = some (r, true) ∧ restC w0 w g o h t b bs Ai inn.length ci (s.2.1 ++ [r]) W
def xC (inn : List Int) (w0 : World) (s : CS) (xs : Array Value) (_W : World) : Prop :=
 s.2.2 < inn.length ∧ ∃ A, xs = #[.slice A ((inn.drop s.2.2).take 4).length ((inn.drop s.2.2).take 4).length] ∧ Kd.C (Kd.int .u8) w0 A ((inn.drop s.2.2).take 4).length ((inn.drop s.2.2).take 4)
def endC (Q : List Int × Bool) (inn : List Int) (w0 w : World) (g : Nat) (o h t : Int) (b : Nat) (bs : List Nat) (Ai : Option Addr) (ci : Nat) (s : CS) (W : World) : Prop :=
 Q.2 = false ∧ restC w0 w g o h t b bs Ai inn.length ci Q.1 W
def finC (inn : List Int) (s : CS) : Prop := inn.length ≤ s.2.2
theorem keep_turn {w W W' : World} {g b : Nat} (hb : w.heap.size ≤ b) (h : KeepBut w W g none) (ht : Turn (b + 2) W W') : KeepBut w W' g none :=
 ⟨Nat.le_trans h.1 ht.1.1, fun i hi hg hr => (ht.1.2 i (Nat.lt_of_lt_of_le hi h.1) (by omega)).trans (h.2 i hi hg hr)⟩
theorem okR_not {m b k : Nat} (h : okR m b k) : ¬ (k = b + 2 ∨ k = b + 2 + 1) := by unfold okR at h; omega
theorem restC.turn {w0 w : World} {g : Nat} {o h t : Int} {b : Nat} {bs : List Nat} {Ai : Option Addr} {ni ci : Nat} {acc : List Int} {W W' : World} (hg : g < w.heap.size) (hw : w0.heap.size ≤ w.heap.size) (hb : w.heap.size + 2 ≤ b) (H : restC w0 w g o h t b bs Ai ni ci acc W) (ht : Turn (b + 2) W W') : restC w0 w g o h t b bs Ai ni ci acc W' := by
 obtain ⟨⟨va, h1, h2⟩, h3, h4, h5, h6, h7, h8, h9⟩ := H
 exact ⟨⟨va, blk_kept h1 ht.1 (by omega), Kd.N_kept h2 ht.1 (fun k hk => okR_not hk)⟩, blk_kept h3 ht.1 (by omega), blk_kept h4 ht.1 (by omega), blk_kept h5 ht.1 (by omega), blk_kept h6 ht.1 (by omega), keep_turn (by omega) h7 ht, ht.2 w0 (by omega) h8, fun x hx => ⟨(h9 x hx).1, (h9 x hx).2.1, blk_kept (h9 x hx).2.2 ht.1 (by have := (h9 x hx).1; omega)⟩⟩
theorem cut_mid3 (t e : TypeId) (kl kh km : IntKind) {i : TypeInfo} {P : Program} (ht : P.underlying t = some (.slice e)) (hi : P.info? e = some i) (size : Nat) (hsz : i.size = size) (A : Option Addr) (n c : Nat) (lo hi' : Nat) (h1 : lo < hi') (h2 : hi' ≤ n) (hc : n ≤ c) :
  ∀ W : World, (Instr.slice t (.slice A n c) (some (.int kl (lo : Int))) (some (.int kh (hi' : Int))) (some (.int km (hi' : Int)))).run P W = .ok (.slice (A.map (·.add (lo * size))) (hi' - lo) (hi' - lo)) W := by
 intro W
 have hel : P.elem t = e := by simp [Program.elem, ht]
 have hu : P.underlying t = some (.slice (P.elem t)) := by rw [hel]; exact ht
 rw [run_slice_lhm W t A n c hu kl kh km (lo : Int) (hi' : Int) (hi' : Int) (by omega) (by omega) (by omega) (by omega), hel]
 have hne : ¬ (hi' = lo) := by omega
 have hne2 : ¬ (hi' - lo = 0) := by omega
 simp [sizeOf, typeInfo, hi, hsz, sliced, Result.andThen, hne, hne2]
theorem xC_mk {inn : List Int} {w0 : World} {Ai : Option Addr} {k p m : Nat} {acc : List Int} {W : World} (hr : Kd.C (Kd.int .u8) w0 Ai inn.length inn) (hp : p < inn.length) (hm : (inn.length - p < 4 → m = inn.length - p) ∧ (4 ≤ inn.length - p → m = 4)) : xC inn w0 (k, acc, p) #[.slice (Ai.map (fun x => x.add p)) m m] W := by
 have hl : ((inn.drop p).take 4).length = m := by rw [List.length_take, List.length_drop]; omega
 have h1 := Kd.C_drop (m := p) (c := inn.length + p + 1) hr (by omega) (by omega)
 rw [if_neg (by omega)] at h1
 have e1 : (Kd.int IntKind.u8).sz = 1 := rfl
 rw [e1, show p * 1 = p by omega] at h1
 refine ⟨hp, Ai.map (fun x => x.add p), ?_, ?_⟩
 ·
  show #[Value.slice _ m m] = #[Value.slice _ ((inn.drop p).take 4).length ((inn.drop p).take 4).length]
  rw [hl]
 ·
  show Kd.C _ _ _ ((inn.drop p).take 4).length ((inn.drop p).take 4)
  by_cases c : inn.length - p < 4
  ·
   rw [List.take_of_length_le (by rw [List.length_drop]; omega)]
   exact h1
  ·
   exact Kd.C_take h1 (by rw [List.length_drop]; omega)
theorem quads_step {K k p : Nat} {acc inn : List Int} {Q : List Int × Bool} {r : Int} (h : quads K (k + 1) acc (inn.drop p) = some Q) (hp : p < inn.length) (hr : attr_number.f K ((inn.drop p).take 4) = some (r, true)) : quads K k (acc ++ [r]) (inn.drop (p + 4)) = some Q := by
 simp only [quads] at h
 rw [if_neg (by rw [List.length_drop]; omega), hr] at h
 simpa [List.drop_drop] using h
theorem quads_bad {K k p : Nat} {acc inn : List Int} {Q : List Int × Bool} {r : Int} (h : quads K (k + 1) acc (inn.drop p) = some Q) (hp : p < inn.length) (hr : attr_number.f K ((inn.drop p).take 4) = some (r, false)) : Q = (acc, false) := by
 simp only [quads] at h
 rw [if_neg (by rw [List.length_drop]; omega), hr] at h
 simpa using h.symm
theorem quads_some {K k p : Nat} {acc inn : List Int} {Q : List Int × Bool} (h : quads K (k + 1) acc (inn.drop p) = some Q) (hp : p < inn.length) : ∃ r b, attr_number.f K ((inn.drop p).take 4) = some (r, b) := by
 simp only [quads] at h
 rw [if_neg (by rw [List.length_drop]; omega)] at h
 obtain ⟨⟨r, b⟩, h1, _⟩ := Option.bind_eq_some_iff.mp h
 exact ⟨r, b, h1⟩
theorem quads_end {K k p : Nat} {acc inn : List Int} {Q : List Int × Bool} (h : quads K k acc (inn.drop p) = some Q) (hp : inn.length ≤ p) : Q = (acc, true) := by
 cases k with
 | zero => simp [quads] at h
 | succ k =>
  simp only [quads] at h
  rw [if_pos (by rw [List.length_drop]; omega)] at h
  simpa using h.symm
attribute [local go_sem] Oper.semAt_some
set_option maxHeartbeats 8000000 in
set_option maxRecDepth 100000 in
theorem chunk_ok (K : Nat) (inn : List Int) (Q : List Int × Bool) (w0 w : World) (g : Nat) (o h t : Int) (b : Nat) (bs : List Nat) (Ai : Option Addr) (ci : Nat) (hg : g < w.heap.size) (hw : w0.heap.size ≤ w.heap.size) (hb : w.heap.size + 2 ≤ b) (hr : Kd.C (Kd.int .u8) w0 Ai inn.length inn) (hc : inn.length ≤ ci) (hn : inn.length < 1000000) (s0 : CS) (hs0 : s0.2.2 = 0) :
  IterOk Fence.wide 4 Try.prog 50 #[.pointer (some ⟨b, 0, none⟩), .pointer (some ⟨b + 1, 0, none⟩)] (b + 2) (iC K inn Q w0 w g o h t b bs Ai ci) (iC' K inn Q w0 w g o h t b bs Ai ci) (endC Q inn w0 w g o h t b bs Ai ci) (xC inn w0) (finC inn) s0 := by
 intro l B Bx hBk hBlt hY W hi hB
 have HY := Aside0.mk hY
 have HBk := Aside0.mk hBk
 have HBlt := Aside0.mk hBlt
 have HI := Aside0.mk hi
 have HB := Aside0.mk hB
 have HR := Aside0.mk hr
 have HC := Aside0.mk hc
 have HG := Aside0.mk (show g < w.heap.size ∧ w0.heap.size ≤ w.heap.size ∧ w.heap.size + 2 ≤ b from ⟨hg, hw, hb⟩)
 have HN := Aside0.mk hn
 clear hY hBk hBlt hi hB hr hc hg hw hb hn
 refine callsIn_of_wp Try.func50 rfl trivial ?_ rfl
 simp only [Try.ntmps50, List.size_toArray, List.length_cons, List.length_nil, Nat.reduceAdd, Nat.reduceSub, Array.replicate_succ, Array.replicate_zero, List.push_toArray, List.append_toArray, List.nil_append, List.cons_append]
 gi_wp2
 gi_loopg [4] s0.1 (fun kq v4 w' => ∃ (acc : List Int) (p : Nat), v4 = .int .i64 (p : Int) ∧ Aside0 (iC K inn Q w0 w g o h t b bs Ai ci (kq, acc, p) w') ∧ Aside0 (B w'))
 case atStart =>
  obtain ⟨j0, acc0, p0⟩ := s0
  cases hs0
  exact ⟨acc0, 0, rfl, HI, HB⟩
 case round =>
  clear HI HB
  obtain ⟨acc, p, rfl, HI, HB⟩ := hrel
  obtain ⟨⟨hq, hp⟩, ⟨va, h1, h2⟩, h3, h4, h5, h6, h7, h8, h9⟩ := HI.out
  dsimp only at hq hp h1 h2
  have hin := HN.out
  have x0 : wr.cell? ⟨b, 0, none⟩ = some (.slice Ai inn.length ci) := (blk_cell h5 0).trans rfl
  have x1 : wr.cell? ⟨b + 1, 0, none⟩ = some (.int .i64 4) := (blk_cell h6 0).trans rfl
  have HQ := Aside0.mk hq
  have H8 := Aside0.mk h8
  clear h1 h2 h3 h4 h5 h6 h7 h8 h9 hq
  by_cases c1 : p < inn.length
  ·
   have d1 : decide (p < inn.length) = true := decide_eq_true c1
   obtain ⟨i0, hi0, -, hsz, -⟩ := info_parts info5
   have hcut1 := cut_from (P := Try.prog) 22 5 .i64 Try.underlying22 hi0 1 hsz Ai inn.length ci (p : Int) (by omega) (by omega)
   simp only [Int.toNat_natCast] at hcut1
   obtain ⟨A1, hA1⟩ : ∃ A1, A1 = (if ci = p then Ai else Ai.map (·.add (p * 1))) := ⟨_, rfl⟩
   obtain ⟨e, he⟩ : ∃ e, e = inn.length - p := ⟨_, rfl⟩
   rw [← hA1, ← he] at hcut1
   have HI1 := Aside0.mk (show iC K inn Q w0 w g o h t b bs Ai ci (gk, acc, p) wr.drew from ⟨HI.out.1, HI.out.2.turn HG.out.1 HG.out.2.1 HG.out.2.2 (Turn.below (below_drew (Below.refl _ _)))⟩)
   have HB1 := Aside0.mk (HBk.out _ _ HB.out (show Fixed (b + 2) wr wr.drew from Fixed.refl))
   have HP := Aside0.mk c1
   clear hA1
   cases gk with
   | zero => exact absurd HQ.out (by simp [quads])
   | succ k1 =>
    rcases Nat.lt_trichotomy e 4 with c4 | c4 | c4
    ·
     have m4 : (e : Int) < 4 := by omega
     obtain ⟨fn, tmps, assign, body, hy, hR⟩ := HY.out (k1 + 1, acc, p) #[.slice (Ai.map (fun x => x.add p)) e e] wr.drew HI1.out HB1.out (xC_mk HR.out c1 (by omega))
     have hcut3 := cut_mid3 (P := Try.prog) 22 5 .i64 .i64 .i64 Try.underlying22 hi0 1 hsz Ai inn.length ci p (p + e) (by omega) (by omega) HC.out
     rw [show p + e - p = e by omega, show p * 1 = p by omega] at hcut3
     rw [show ((p + e : Nat) : Int) = (p : Int) + (e : Int) by omega] at hcut3
     have HR_ := Aside0.mk hR
     have HE := Aside0.mk he
     have pb : (p : Int) ≤ 1000000 := by omega
     have eb : (e : Int) ≤ 1000000 := by omega
     clear hR c1 hp he hi0 hsz
     gi_wp2
     gi_region_with (rw [Oper.semAt_eq _ _ _ (fun c h => by cases h)]; go_simp; try go_bits)
     all_goals gi_wp2
     all_goals
      refine HR_.out.mono ?_
      rintro e_ W6 (⟨rfl, hI6, hB6⟩ | ⟨rfl, hX6, hBx6⟩)
      ·
       obtain ⟨r, hr1, hrest6⟩ := hI6
       dsimp only at hr1 hrest6
       have x6 : W6.cell? ⟨b + 1, 0, none⟩ = some (.int .i64 4) := (blk_cell hrest6.2.2.2.2.1 0).trans rfl
       have HREST6 := Aside0.mk hrest6
       have HB6 := Aside0.mk hB6
       have HR1 := Aside0.mk hr1
       clear hr1 hrest6 hB6
       gi_wp2
       gi_roundg k1
       case measure => omega
       case rel => exact ⟨acc ++ [r], p + 4, by rw [show ((p + 4 : Nat) : Int) = (p : Int) + 4 by omega], ⟨⟨⟨quads_step HQ.out HP.out HR1.out, by show p + 4 < inn.length + 4; have := HP.out; omega⟩, HREST6.out⟩⟩, HB6⟩
      ·
       gi_wp2
       refine bodyPost_ret (results_none rfl _ _ _) rfl ?_
       exact ⟨⟨_, rfl⟩, .inr ⟨_, hX6, hBx6⟩⟩
    ·
     subst c4
     obtain ⟨fn, tmps, assign, body, hy, hR⟩ := HY.out (k1 + 1, acc, p) #[.slice (Ai.map (fun x => x.add p)) 4 4] wr.drew HI1.out HB1.out (xC_mk HR.out c1 (by omega))
     have hcut3 := cut_mid3 (P := Try.prog) 22 5 .i64 .i64 .i64 Try.underlying22 hi0 1 hsz Ai inn.length ci p (p + 4) (by omega) (by omega) HC.out
     rw [show p + 4 - p = 4 by omega, show p * 1 = p by omega] at hcut3
     rw [show ((p + 4 : Nat) : Int) = (p : Int) + 4 by omega] at hcut3
     have HR_ := Aside0.mk hR
     have HE := Aside0.mk he
     have pb : (p : Int) ≤ 1000000 := by omega
     clear hR c1 hp he hi0 hsz
     gi_wp2
     gi_region_with (rw [Oper.semAt_eq _ _ _ (fun c h => by cases h)]; go_simp; try go_bits)
     all_goals gi_wp2
     all_goals
      refine HR_.out.mono ?_
      rintro e_ W6 (⟨rfl, hI6, hB6⟩ | ⟨rfl, hX6, hBx6⟩)
      ·
       obtain ⟨r, hr1, hrest6⟩ := hI6
       dsimp only at hr1 hrest6
       have x6 : W6.cell? ⟨b + 1, 0, none⟩ = some (.int .i64 4) := (blk_cell hrest6.2.2.2.2.1 0).trans rfl
       have HREST6 := Aside0.mk hrest6
       have HB6 := Aside0.mk hB6
       have HR1 := Aside0.mk hr1
       clear hr1 hrest6 hB6
       gi_wp2
       gi_roundg k1
       case measure => omega
       case rel => exact ⟨acc ++ [r], p + 4, by rw [show ((p + 4 : Nat) : Int) = (p : Int) + 4 by omega], ⟨⟨⟨quads_step HQ.out HP.out HR1.out, by show p + 4 < inn.length + 4; have := HP.out; omega⟩, HREST6.out⟩⟩, HB6⟩
      ·
       gi_wp2
       refine bodyPost_ret (results_none rfl _ _ _) rfl ?_
       exact ⟨⟨_, rfl⟩, .inr ⟨_, hX6, hBx6⟩⟩
    ·
     have m4 : (4 : Int) < (e : Int) := by omega
     obtain ⟨fn, tmps, assign, body, hy, hR⟩ := HY.out (k1 + 1, acc, p) #[.slice (Ai.map (fun x => x.add p)) 4 4] wr.drew HI1.out HB1.out (xC_mk HR.out c1 (by omega))
     have hcut3 := cut_mid3 (P := Try.prog) 22 5 .i64 .i64 .i64 Try.underlying22 hi0 1 hsz Ai inn.length ci p (p + 4) (by omega) (by omega) HC.out
     rw [show p + 4 - p = 4 by omega, show p * 1 = p by omega] at hcut3
     rw [show ((p + 4 : Nat) : Int) = (p : Int) + 4 by omega] at hcut3
     have HR_ := Aside0.mk hR
     have HE := Aside0.mk he
     have pb : (p : Int) ≤ 1000000 := by omega
     have eb : (e : Int) ≤ 1000000 := by omega
     clear hR c1 hp he hi0 hsz
     gi_wp2
     gi_region_with (rw [Oper.semAt_eq _ _ _ (fun c h => by cases h)]; go_simp; try go_bits)
     all_goals gi_wp2
     all_goals
      refine HR_.out.mono ?_
      rintro e_ W6 (⟨rfl, hI6, hB6⟩ | ⟨rfl, hX6, hBx6⟩)
      ·
       obtain ⟨r, hr1, hrest6⟩ := hI6
       dsimp only at hr1 hrest6
       have x6 : W6.cell? ⟨b + 1, 0, none⟩ = some (.int .i64 4) := (blk_cell hrest6.2.2.2.2.1 0).trans rfl
       have HREST6 := Aside0.mk hrest6
       have HB6 := Aside0.mk hB6
       have HR1 := Aside0.mk hr1
       clear hr1 hrest6 hB6
       gi_wp2
       gi_roundg k1
       case measure => omega
       case rel => exact ⟨acc ++ [r], p + 4, by rw [show ((p + 4 : Nat) : Int) = (p : Int) + 4 by omega], ⟨⟨⟨quads_step HQ.out HP.out HR1.out, by show p + 4 < inn.length + 4; have := HP.out; omega⟩, HREST6.out⟩⟩, HB6⟩
      ·
       gi_wp2
       refine bodyPost_ret (results_none rfl _ _ _) rfl ?_
       exact ⟨⟨_, rfl⟩, .inr ⟨_, hX6, hBx6⟩⟩
  ·
   have d1 : decide (p < inn.length) = false := decide_eq_false c1
   gi_wp2
   refine bodyPost_end (results_none rfl _ _ _) rfl ?_
   exact ⟨⟨_, rfl⟩, .inl ⟨_, Nat.le_of_not_lt c1, HI.out, HB.out⟩⟩
/-- The loops that a call has gone through. -/
def marks (bs : List Nat) : List Deferred := bs.map fun b => { target := .collected b, args := #[] }
theorem leaves_marks {F : Fence} {n : Nat} {P : Program} {fn : Func} {tmps : Array Value} {R : Ending → World → Prop} : ∀ (bs : List Nat) (w : World), bs.Nodup → (∀ b ∈ bs, w.heap[b]? = some (.deferred (some []))) →
  (∀ w' : World, w'.heap.size = w.heap.size → (∀ i, i ∉ bs → w'.heap[i]? = w.heap[i]?) → w'.os = w.os ∧ w'.tape = w.tape ∧ w'.output = w.output → LeavesIn F n P fn tmps R [] .returning w') → LeavesInM F n P fn tmps R (marks bs) .returning w
 | [], w, _, _, h => h w rfl (fun _ _ => rfl) ⟨rfl, rfl, rfl⟩
 | b :: bs, w, hn, hb, h => by
  have hb0 := hb b (by simp)
  refine ⟨by simp, .inl ⟨b, _, rfl, run_takeDeferred hb0, ?_⟩⟩
  have hn' := List.nodup_cons.1 hn
  have ho : ∀ i, i ≠ b → (w.putObj b (.deferred none)).heap[i]? = w.heap[i]? := fun i hi => World.putObj_heap_other hi
  refine leaves_marks bs _ hn'.2 (fun x hx => (ho x (fun e => hn'.1 (e ▸ hx))).trans (hb x (by simp [hx]))) ?_
  intro w' hs hi he
  refine h w' (hs.trans (by simp)) (fun i hni => ?_) he
  simp only [List.mem_cons, not_or] at hni
  exact (hi i hni.2).trans (ho i hni.1)
theorem N_int_ok {k : IntKind} {e base : Nat} {w : World} {ok ok' : Nat → Prop} {v : Value} {xs : List Int} (h : Kd.N (Kd.int k) e w base ok v xs) (hk : ∀ b, v.ownBlock = some b → ok' b) : Kd.N (Kd.int k) e w base ok' v xs := by
 obtain ⟨_, rows, hl, hR, hf⟩ := h
 exact ⟨hk, rows, hl, hR, fun j x c hx hc W _ => (Kd.FK_now (W := w) (hf j x c hx hc) : c = _)⟩
theorem hmfC_ : ∀ (fn : Fn) (first cap : Array Value) (w : World), (Instr.makeFunc fn first cap).run Try.prog w = .ok (.func fn first cap) w := fun _ _ _ _ => rfl
set_option maxHeartbeats 8000000 in
theorem chunk_calls (A : Option Addr) (n c : Nat) (w : World) :
  Calls Try.prog 47 #[.slice A n c, .int .i64 4] w fun e w' => e = .returned (.func (.func 50) #[] #[.pointer (some ⟨w.heap.size, 0, none⟩), .pointer (some ⟨w.heap.size + 1, 0, none⟩)]) ∧ w' = (w.alloc (.cells #[.slice A n c] 22)).alloc (.cells #[.int .i64 4] 3) := by
 have hmf := hmfC_
 go_enter Try.func47, Try.ntmps47
 go_wp2
 go_ret
 exact ⟨rfl, rfl⟩

/-- What segments say. -/
def segL (K : Nat) : Nat → List Int → List Int → Option (List Int × Bool)
 | 0, _, _ => none
 | j + 1, acc, b => if b.length = 0 then some (acc, true) else if b.length < 2 ∨ b.getD 0 0 ≠ 2 ∨ b.getD 1 0 = 0 ∨ (b.length : Int) < 2 + 4 * b.getD 1 0 then some (acc, false) else (quads K (b.length + 1) acc ((b.drop 2).take (4 * b.getD 1 0).toNat)).bind fun q => if q.2 = true then segL K j q.1 (b.drop (2 + (4 * b.getD 1 0).toNat)) else some q
def restA (w0 w : World) (g : Nat) (o h t : Int) (acc : List Int) (bs : List Nat) (W : World) : Prop :=
 (∃ va, W.heap[g]? = some (.cells #[.int .i64 o, va, .int .i64 h, .int .i64 t] 27 (0, 0)) ∧ Kd.N (Kd.int .i64) 3 W w.heap.size (fun k => w.heap.size + 2 ≤ k) va acc) ∧
 W.heap[w.heap.size]? = some (.cells #[.pointer (some ⟨g, 0, none⟩)] 64 (0, 0)) ∧
 W.heap[w.heap.size + 1]? = some (.cells #[.bool false] 4 (0, 0)) ∧
 KeepBut w W g none ∧ Below w0.heap.size w0 W ∧ bs.Nodup ∧ (∀ x ∈ bs, w.heap.size + 2 ≤ x ∧ W.heap[x]? = some (.deferred (some [])))
def OutI (K : Nat) (w0 w : World) (g : Nat) (o h t : Int) (Q : List Int × Bool) (A1 : Option Addr) (c1 : Nat) (b acc : List Int) (bs : List Nat) (k : Nat) (W : World) : Prop :=
 segL K k acc b = some Q ∧ Kd.C (Kd.int .u8) w0 A1 b.length b ∧ b.length ≤ c1 ∧ (∀ x ∈ b, 0 ≤ x ∧ x < 256) ∧ b.length < 1000000 ∧ restA w0 w g o h t acc bs W
theorem quads_len {K : Nat} : ∀ (j : Nat) (acc b : List Int) (Q : List Int × Bool), quads K j acc b = some Q → acc.length ≤ Q.1.length ∧ Q.1.length ≤ acc.length + b.length
 | 0, _, _, _, h => by simp [quads] at h
 | j + 1, acc, b, Q, h => by
  simp only [quads] at h
  by_cases c : b.length = 0
  ·
   rw [if_pos c] at h
   cases h
   exact ⟨Nat.le_refl _, by simp⟩
  ·
   rw [if_neg c] at h
   obtain ⟨r, hr, h⟩ := Option.bind_eq_some_iff.mp h
   by_cases d : r.2 = true
   ·
    rw [if_pos d] at h
    have h1 := quads_len j _ _ Q h
    simp only [List.length_append, List.length_cons, List.length_nil, List.length_drop] at h1
    omega
   ·
    rw [if_neg d] at h
    cases h
    exact ⟨Nat.le_refl _, by simp⟩
theorem segL_len {K : Nat} : ∀ (j : Nat) (acc b : List Int) (Q : List Int × Bool), segL K j acc b = some Q → acc.length ≤ Q.1.length ∧ Q.1.length ≤ acc.length + b.length
 | 0, _, _, _, h => by simp [segL] at h
 | j + 1, acc, b, Q, h => by
  simp only [segL] at h
  by_cases c : b.length = 0
  ·
   rw [if_pos c] at h
   cases h
   exact ⟨Nat.le_refl _, by simp⟩
  ·
   rw [if_neg c] at h
   split at h
   ·
    cases h
    exact ⟨Nat.le_refl _, by simp⟩
   ·
    next hn =>
    simp only [not_or] at hn
    obtain ⟨q, hq, h⟩ := Option.bind_eq_some_iff.mp h
    have h1 := quads_len _ _ _ _ hq
    simp only [List.length_take, List.length_drop] at h1
    by_cases d : q.2 = true
    ·
     rw [if_pos d] at h
     have h2 := segL_len j _ _ Q h
     simp only [List.length_drop] at h2
     omega
    ·
     rw [if_neg d] at h
     cases h
     omega
/-- An operation that neither calls nor defers. -/
def plainOp (P : Program) (o : Oper) : Prop := (∀ c, o.op ≠ .defer c) ∧ (∀ ρ w, o.about P w ρ = none) ∧ ∀ ρ w x w', (execOp ρ o).run P w = .ok x w' → (∃ v, x = .value v) ∨ x = .skip
theorem opIn_of_op {F : Fence} {n : Nat} {P : Program} {o : Oper} {a : Act} {w : World} {K : Act → World → Prop} {Q : Exit → Act → World → Prop} (hp : plainOp P o) (h : o.wp P a w K (fun e a w => match e with | .normal => Q .normal a w | _ => False)) : o.wpIn F n P a w K Q := by
 unfold Oper.wpIn
 refine ⟨(by rw [hp.2.1]; intro f hf; cases hf), ?_⟩
 rw [Oper.semAt_plain F _ _ hp.1]
 unfold Oper.wp at h
 have h3 := hp.2.2 a.eval w
 revert h h3
 generalize (execOp a.eval o).run P w = res
 intro h h3
 cases res with
 | ok x w' =>
  rcases h3 x w' rfl with ⟨v, rfl⟩ | rfl
  ·
   exact h
  ·
   exact h
 | halt e w' => cases e <;> exact h.elim
theorem opsIn_of_ops {F : Fence} {n : Nat} {P : Program} {ops : Array Oper} {Q : Exit → Act → World → Prop} (hp : ∀ (i : Nat) (o : Oper), ops[i]? = some o → plainOp P o) : ∀ (l : List Nat) (a : Act) (w : World), wpOps P ops (fun e a w => match e with | .normal => Q .normal a w | _ => False) l a w → wpOpsIn F n P ops Q l a w
 | [], a, w, h => h
 | i :: rest, a, w, h => by
  unfold wpOps at h
  unfold wpOpsIn
  cases ho : ops[i]? with
  | none =>
   rw [ho] at h
   exact opsIn_of_ops hp rest a w h
  | some o =>
   rw [ho] at h
   dsimp only at h ⊢
   by_cases c : Region.wanted o (yielded ops a.tmps) = true
   ·
    rw [if_pos c] at h ⊢
    rcases h with h | ⟨_, _, _, h⟩
    ·
     exact opIn_of_op (hp i o ho) (Oper.wp_mono (fun a w h => opsIn_of_ops hp rest a w h) h)
    ·
     exact h.elim
   ·
    rw [if_neg c] at h ⊢
    exact ⟨(by rw [(hp i o ho).2.1]; intro f hf; cases hf), opsIn_of_ops hp rest _ w h⟩
theorem regionIn_of_any {F : Fence} {n : Nat} {P : Program} {ops : Array Oper} {Q : Exit → Act → World → Prop} {id : Nat} {a : Act} {w : World} (hm : P.follows .mixedOrders = true) (hp : ∀ (i : Nat) (o : Oper), ops[i]? = some o → plainOp P o)
  (h : wpAny P .any ops (fun e a w => match e with | .normal => Q .normal a w | _ => False) ops.size (Array.replicate ops.size false) a w.drew) : (Code.region id ops true).wpIn F n P Q a w :=
 wpIn_region_draw fun t => by
  simp only [Region.schedule, hm, Bool.true_or, if_true]
  exact opsIn_of_ops hp _ _ _ (wpAny_sound ops.size t _ a _ h)
theorem run_value {P : Program} {s : Sem Value} {w w' : World} {x : Next} (h : (do pure (Next.value (← s)) : Sem Next).run P w = .ok x w') : (∃ v, x = .value v) ∨ x = .skip := by
 rw [Sem.run_bind] at h
 cases hs : s.run P w with
 | ok v w1 =>
  rw [hs] at h
  simp [Result.andThen, Sem.run_pure] at h
  exact .inl ⟨v, h.1.symm⟩
 | halt e w1 =>
  rw [hs] at h
  simp [Result.andThen] at h
theorem run_unit {P : Program} {s : Sem Unit} {w w' : World} {x : Next} (h : (do s; pure Next.skip : Sem Next).run P w = .ok x w') : (∃ v, x = .value v) ∨ x = .skip := by
 rw [Sem.run_bind] at h
 cases hs : s.run P w with
 | ok v w1 =>
  rw [hs] at h
  simp [Result.andThen, Sem.run_pure] at h
  exact .inr h.1.symm
 | halt e w1 =>
  rw [hs] at h
  simp [Result.andThen] at h
theorem run_bindE {α : Type} {P : Program} {s : Sem α} {k : α → Sem Next} {w w' : World} {x : Next} (hk : ∀ a w1, (k a).run P w1 = .ok x w' → (∃ v, x = .value v) ∨ x = .skip) (h : (s >>= k).run P w = .ok x w') : (∃ v, x = .value v) ∨ x = .skip := by
 rw [Sem.run_bind] at h
 cases hs : s.run P w with
 | ok v w1 =>
  rw [hs] at h
  exact hk v w1 h
 | halt e w1 =>
  rw [hs] at h
  simp [Result.andThen] at h
theorem plain_load {P : Program} {d : Option Tmp} {t ty : TypeId} {x : Operand} {pos : String} {af : Array Edge} : plainOp P ⟨d, .load t x, ty, pos, af, none⟩ :=
 ⟨(by intro c h; cases h), fun _ _ => rfl, fun _ _ _ _ h => run_value h⟩
theorem plain_store {P : Program} {d : Option Tmp} {t ty : TypeId} {x y : Operand} {pos : String} {af : Array Edge} : plainOp P ⟨d, .store t x y, ty, pos, af, none⟩ :=
 ⟨(by intro c h; cases h), fun _ _ => rfl, fun _ _ _ _ h => run_unit h⟩
theorem plain_nil {P : Program} {d : Option Tmp} {ty : TypeId} {x : Operand} {pos : String} {af : Array Edge} : plainOp P ⟨d, .nilCheck x, ty, pos, af, none⟩ := by
 refine ⟨(by intro c h; cases h), fun _ _ => rfl, fun ρ w y w' h => ?_⟩
 simp only [execOp] at h
 split at h
 ·
  simp [runtimePanic, Sem.run] at h
 ·
  simp [runtimePanic, Sem.run] at h
 ·
  simp [runtimePanic, Sem.run] at h
 ·
  split at h
  ·
   simp [runtimePanic, Sem.run] at h
  ·
   refine run_bindE (fun a w1 h => run_bindE (fun a w1 h => ?_) h) h
   split at h
   ·
    refine run_bindE (fun a w1 h => ?_) h
    rw [Sem.run_pure] at h
    cases h
    exact .inl ⟨_, rfl⟩
   ·
    rw [Sem.run_pure] at h
    cases h
    exact .inl ⟨_, rfl⟩
  ·
   rw [Sem.run_pure] at h
   cases h
   exact .inl ⟨_, rfl⟩
 ·
  rw [Sem.run_pure] at h
  cases h
  exact .inl ⟨_, rfl⟩
theorem plain_field {P : Program} {d : Option Tmp} {t ty : TypeId} {i : Nat} {x : Operand} {pos : String} {af : Array Edge} : plainOp P ⟨d, .fieldAddr t x i, ty, pos, af, none⟩ :=
 ⟨(by intro c h; cases h), fun _ _ => rfl, fun _ _ _ _ h => run_value h⟩
theorem plain_move {P : Program} {d : Option Tmp} {ty : TypeId} {x : Operand} {pos : String} {af : Array Edge} : plainOp P ⟨d, .move x, ty, pos, af, none⟩ :=
 ⟨(by intro c h; cases h), fun _ _ => rfl, fun _ _ _ _ h => by simp only [execOp, Sem.run_pure] at h; cases h; exact .inl ⟨_, rfl⟩⟩
theorem plain_slice {P : Program} {d : Option Tmp} {t ty : TypeId} {i : Nat} {xs : Array (Nat × Operand)} {pos : String} {af : Array Edge} : plainOp P ⟨d, .buildSlice t i xs, ty, pos, af, none⟩ :=
 ⟨(by intro c h; cases h), fun _ _ => rfl, fun _ _ _ _ h => run_value h⟩
theorem plain_append {P : Program} {d : Option Tmp} {ty : TypeId} {xs : Array Operand} {ts : Array TypeId} {pos : String} {af : Array Edge} : plainOp P ⟨d, .call { callee := .builtin .append, args := xs, argTypes := ts }, ty, pos, af, none⟩ := by
 refine ⟨(by intro c h; cases h), fun ρ w => by simp [Oper.about, resolve, Target.leads, Sem.run_pure], ?_⟩
 intro ρ w x w' h
 simp only [execOp, resolve, invoke, builtin, Sem.run_bind, Sem.run_pure, Result.andThen] at h
 cases hs : Sem.run P (Builtin.append_ ts ty (Array.map ρ xs)) w with
 | ok v w1 =>
  rw [hs] at h
  simp [Result.andThen, Sem.run_pure] at h
  exact .inl ⟨v, h.1.symm⟩
 | halt e w1 =>
  rw [hs] at h
  simp [Result.andThen] at h
theorem wp_of_list {P : Program} {o : Oper} {a : Act} {w : World} {K : Act → World → Prop} {Q : Exit → Act → World → Prop} (hp : plainOp P o) (hg : o.guard = none) (h : wpList P #[o] (fun e a w => match e with | .normal => K a w | _ => False) [o] a w) : o.wp P a w K (fun e a w => match e with | .normal => Q .normal a w | _ => False) := by
 simp only [wpList, Region.wanted, hg, if_true] at h
 rcases h with h | ⟨_, a1, w1, h⟩
 ·
  unfold Oper.wp at h ⊢
  have h3 := hp.2.2 a.eval w
  revert h h3
  generalize (execOp a.eval o).run P w = res
  intro h h3
  cases res with
  | ok x w' =>
   rcases h3 x w' rfl with ⟨v, rfl⟩ | rfl
   ·
    exact h
   ·
    exact h
  | halt e w' => cases e <;> exact h.elim
 ·
  exact h.elim
theorem setCell_self {W : World} {i : Nat} {v : Value} {T : TypeId} (h : W.heap[i]? = some (.cells #[v] T (0, 0))) : W.setCell ⟨i, 0, none⟩ v = W := by
 have e : (W.setCell ⟨i, 0, none⟩ v).heap = W.heap := Array.ext (by simp [World.setCell]) (fun k h1 h2 => by
  by_cases hk : k = i
  ·
   subst hk
   have h3 := blk_put h 0 v (cs' := #[v]) rfl
   rw [← h] at h3
   rw [Array.getElem?_eq_getElem h1, Array.getElem?_eq_getElem h2] at h3
   exact Option.some.inj h3
  ·
   have h3 := Below.heap_setCell W ⟨i, 0, none⟩ v k hk
   rw [Array.getElem?_eq_getElem h1, Array.getElem?_eq_getElem h2] at h3
   exact Option.some.inj h3)
 have e2 : W.setCell ⟨i, 0, none⟩ v = { W with heap := (W.setCell ⟨i, 0, none⟩ v).heap } := rfl
 rw [e2, e]
theorem restC.again {w0 w : World} {g : Nat} {o h t : Int} {b : Nat} {bs : List Nat} {Ai : Option Addr} {ni ci : Nat} {acc : List Int} {W : World} (H : restC w0 w g o h t b bs Ai ni ci acc W) : restC w0 w g o h t b bs Ai ni ci acc (W.setCell ⟨w.heap.size + 1, 0, none⟩ (.bool false)) := by
 rw [setCell_self H.2.2.1]
 exact H
theorem restC.push {w0 w : World} {g : Nat} {o h t : Int} {b : Nat} {bs : List Nat} {Ai : Option Addr} {ni ci : Nat} {acc : List Int} {W w1 : World} {r : Int} {va v1 : Value} (hg : g < w.heap.size) (hw0 : w0.heap.size ≤ g) (hb : w.heap.size + 2 ≤ b) (H : restC w0 w g o h t b bs Ai ni ci acc W) (hva : W.heap[g]? = some (.cells #[.int .i64 o, va, .int .i64 h, .int .i64 t] 27 (0, 0)))
  (h0 : Kd.N (Kd.int .i64) 3 W w.heap.size (okR w.heap.size b) va acc) (hN : Kd.N (Kd.int .i64) 3 w1 w.heap.size (okR w.heap.size b) v1 (acc ++ [r])) (hB : Below w.heap.size W w1) (hG : W.grownBy w1 va.ownBlock) : restC w0 w g o h t b bs Ai ni ci (acc ++ [r]) (w1.setCell ⟨g, 1, none⟩ v1) := by
 obtain ⟨-, h3, h4, h5, h6, h7, h8, h9⟩ := H
 have hs : ∀ i, i ≠ g → (w1.setCell ⟨g, 1, none⟩ v1).heap[i]? = w1.heap[i]? := fun i hi => Below.heap_setCell w1 ⟨g, 1, none⟩ v1 i hi
 have hno : ∀ i, ¬ okR w.heap.size b i → some i ≠ va.ownBlock := fun i hi he => hi (h0.1 i he.symm)
 have hk : ∀ i o_, W.heap[i]? = some o_ → ¬ okR w.heap.size b i → w1.heap[i]? = some o_ := fun i o_ hi hn => (hG.block i (blk_lt hi) (hno i hn)).trans hi
 have n1 : ∀ i, i < w.heap.size + 2 → ¬ okR w.heap.size b i := fun i hi hn => by unfold okR at hn; omega
 have n2 : ¬ okR w.heap.size b b := fun hn => by unfold okR at hn; omega
 have n3 : ¬ okR w.heap.size b (b + 1) := fun hn => by unfold okR at hn; omega
 refine ⟨⟨v1, blk_put (hk g _ hva (n1 g (by omega))) 1 _ rfl, Kd.N_far hN (p := ⟨g, 1, none⟩) (fun k hk' => by unfold okR at hk'; show k ≠ g; omega) _⟩, (hs _ (by omega)).trans (hk _ _ h3 (n1 _ (by omega))), (hs _ (by omega)).trans (hk _ _ h4 (n1 _ (by omega))), (hs _ (by omega)).trans (hk _ _ h5 n2), (hs _ (by omega)).trans (hk _ _ h6 n3), ?_, ?_, fun x hx => ⟨(h9 x hx).1, (h9 x hx).2.1, ?_⟩⟩
 ·
  refine ⟨?_, fun i hi hi2 hi3 => (hs i hi2).trans ((hB.block i hi).trans (h7.2 i hi hi2 hi3))⟩
  have e1 := h7.1
  have e2 := hG.size
  simp only [World.setCell] at *
  simp
  omega
 ·
  exact set_below (g := g) (j := 1) _ (h8.trans (hB.mono (by omega))) hw0
 ·
  refine (hs x (by have := (h9 x hx).2.1; omega)).trans ((hG.block x (blk_lt (h9 x hx).2.2) (fun he => ?_)).trans (h9 x hx).2.2)
  obtain ⟨cells, hcl⟩ := Kd.N_typed h0 x he.symm
  rw [(h9 x hx).2.2] at hcl
  cases hcl
set_option maxHeartbeats 8000000 in
set_option maxRecDepth 100000 in
theorem app_region {F : Fence} {n : Nat} {Q : Exit → Act → World → Prop} {ds : List Deferred} {w w5 : World} {g b : Nat} {o h t r : Int} {va : Value} {acc2 : List Int} (u0 u1 u3 u4 u5 u6 u7 u8 u9 u10 u11 u13 u14 u15 u16 u17 u18 u19 u20 u21 u22 u23 u24 u25 u26 u27 u28 u29 u30 u31 u32 u33 u34 u35 u36 u37 u38 u39 u40 u41 u42 u43 u44 u45 u46 u47 u48 u49 u50 u51 u52 u53 u54 u55 u56 u57 u58 u59 u60 u61 u62 u63 u64 u65 u66 u67 u68 u69 : Value) (hg : g < w.heap.size) (hb : w.heap.size + 2 ≤ b) (hb5 : b + 3 < w5.heap.size) (hl2 : acc2.length < 2000000)
  (hm : w5.heap[w.heap.size]? = some (.cells #[.pointer (some ⟨g, 0, none⟩)] 64 (0, 0))) (hva : w5.heap[g]? = some (.cells #[.int .i64 o, va, .int .i64 h, .int .i64 t] 27 (0, 0))) (hN : Kd.N (Kd.int .i64) 3 w5 w.heap.size (okR w.heap.size b) va acc2)
  (hQ : ∀ a' v6 w6, Kd.N (Kd.int .i64) 3 w6 w.heap.size (okR w.heap.size b) v6 (acc2 ++ [r]) → Below w.heap.size w5.drew w6 → w5.drew.grownBy w6 va.ownBlock → Q .normal a' (w6.setCell ⟨g, 1, none⟩ v6)) :
  (Code.region 14 #[{ dst := some 59, op := Op.load 64 (Operand.tmp 2), type := 64, pos := "attr.go:111", after := #[], guard := none },
   { dst := some 60, op := Op.load 64 (Operand.tmp 2), type := 64, pos := "attr.go:111", after := #[], guard := none },
   { dst := some 61, op := Op.nilCheck (Operand.tmp 60), type := 0, pos := "attr.go:111", after := #[{ on := 1, ground := Ground.data }], guard := none },
   { dst := some 62, op := Op.fieldAddr 27 (Operand.tmp 61) 1, type := 0, pos := "attr.go:111", after := #[{ on := 2, ground := Ground.data }], guard := none },
   { dst := some 63, op := Op.load 25 (Operand.tmp 62), type := 25, pos := "attr.go:111", after := #[{ on := 3, ground := Ground.data }], guard := none },
   { dst := some 64, op := Op.move (Operand.tmp 12), type := 3, pos := "attr.go:111", after := #[], guard := none },
   { dst := some 65, op := Op.buildSlice 25 1 #[(0, Operand.tmp 64)], type := 25, pos := "attr.go:111", after := #[{ on := 5, ground := Ground.data }], guard := none },
   { dst := some 66, op := Op.call { callee := Callee.builtin Builtin.append, args := #[Operand.tmp 63, Operand.tmp 65], argTypes := #[25, 25] }, type := 25, pos := "attr.go:111", after := #[{ on := 4, ground := Ground.data }, { on := 6, ground := Ground.data }], guard := none },
   { dst := some 67, op := Op.nilCheck (Operand.tmp 59), type := 0, pos := "attr.go:111", after := #[{ on := 0, ground := Ground.data }, { on := 0, ground := Ground.phase }, { on := 1, ground := Ground.phase }, { on := 2, ground := Ground.phase }, { on := 3, ground := Ground.phase }, { on := 4, ground := Ground.phase }, { on := 5, ground := Ground.phase }, { on := 6, ground := Ground.phase }, { on := 7, ground := Ground.phase }], guard := none },
   { dst := some 68, op := Op.fieldAddr 27 (Operand.tmp 67) 1, type := 0, pos := "attr.go:111", after := #[{ on := 8, ground := Ground.data }, { on := 0, ground := Ground.phase }, { on := 1, ground := Ground.phase }, { on := 2, ground := Ground.phase }, { on := 3, ground := Ground.phase }, { on := 4, ground := Ground.phase }, { on := 5, ground := Ground.phase }, { on := 6, ground := Ground.phase }, { on := 7, ground := Ground.phase }], guard := none },
   { dst := none, op := Op.store 25 (Operand.tmp 68) (Operand.tmp 66), type := 0, pos := "attr.go:111", after := #[{ on := 9, ground := Ground.data }, { on := 7, ground := Ground.data }, { on := 7, ground := Ground.chain }, { on := 0, ground := Ground.phase }, { on := 1, ground := Ground.phase }, { on := 2, ground := Ground.phase }, { on := 3, ground := Ground.phase }, { on := 4, ground := Ground.phase }, { on := 5, ground := Ground.phase }, { on := 6, ground := Ground.phase }, { on := 7, ground := Ground.phase }], guard := none }] true).wpIn F n Try.prog Q { tmps := #[u0, u1, .pointer (some ⟨w.heap.size, 0, none⟩), u3, u4, u5, u6, u7, u8, u9, u10, u11, .int .i64 r, u13, u14, u15, u16, u17, u18, u19, u20, u21, u22, u23, u24, u25, u26, u27, u28, u29, u30, u31, u32, u33, u34, u35, u36, u37, u38, u39, u40, u41, u42, u43, u44, u45, u46, u47, u48, u49, u50, u51, u52, u53, u54, u55, u56, u57, u58, u59, u60, u61, u62, u63, u64, u65, u66, u67, u68, u69], defers := ds } w5 := by
 have pm5 : w5.cell? ⟨w.heap.size, 0, none⟩ = some (.pointer (some ⟨g, 0, none⟩)) := (blk_cell hm 0).trans rfl
 have pg5 : w5.cell? ⟨g, 1, none⟩ = some va := (blk_cell hva 1).trans rfl
 have fg5 := blk_frozen hva 1
 have lg5 : g < w5.heap.size := blk_lt hva
 have lm5 : w.heap.size < w5.heap.size := blk_lt hm
 have hzd : w5.drew.heap.size = w5.heap.size := rfl
 have HQ := Aside0.mk hQ
 have HM := Aside0.mk (show w5.drew.heap[w.heap.size]? = _ from hm)
 have HVA := Aside0.mk (show w5.drew.heap[g]? = _ from hva)
 have HVN := Aside0.mk (Kd.N_step (w1 := w5.drew) hN (fun _ _ _ => rfl))
 clear hQ hm hva hN
 refine regionIn_of_any (by kernel_rfl) (fun i o hi => by
  rcases i with _ | _ | _ | _ | _ | _ | _ | _ | _ | _ | _ | i
  all_goals (simp only [List.getElem?_toArray, List.getElem?_cons_zero, List.getElem?_cons_succ, List.getElem?_nil, Option.some.injEq, reduceCtorEq] at hi)
  all_goals (subst hi; first | exact plain_load | exact plain_store | exact plain_nil | exact plain_field | exact plain_move | exact plain_slice | exact plain_append)) ?_
 obtain ⟨S, hSd⟩ : ∃ S : World → Prop, S = fun W => W.cell? ⟨w.heap.size, 0, none⟩ = some (.pointer (some ⟨g, 0, none⟩)) := ⟨_, rfl⟩
 refine wpAny_of_held (S := S) _ _ _ _ ?_
 have hS : S w5.drew := by rw [hSd]; exact pm5
 have hSe : ∀ W, S W → W.cell? ⟨w.heap.size, 0, none⟩ = some (.pointer (some ⟨g, 0, none⟩)) := fun W h => by rw [hSd] at h; exact h
 refine wpAnyH_take (i := 0) (oi := { dst := some 59, op := Op.load 64 (Operand.tmp 2), type := 64, pos := "attr.go:111", after := #[], guard := none }) (v := ?vv1) rfl (by kernel_rfl) (by kernel_rfl) (by kernel_rfl) (fun _ _ _ h => h) (Or.inl ⟨by rfl, ?hy1⟩) hS ?rest1
 case hy1 => (intro W hSw; have hSw := hSe W hSw; go_simp; try with_reducible rfl)
 try simp only [Act.put, sA, sB, sC]
 refine wpAnyH_take (i := 1) (oi := { dst := some 60, op := Op.load 64 (Operand.tmp 2), type := 64, pos := "attr.go:111", after := #[], guard := none }) (v := ?vv2) rfl (by kernel_rfl) (by kernel_rfl) (by kernel_rfl) (fun _ _ _ h => h) (Or.inl ⟨by rfl, ?hy2⟩) hS ?rest2
 case hy2 => (intro W hSw; have hSw := hSe W hSw; go_simp; try with_reducible rfl)
 try simp only [Act.put, sA, sB, sC]
 refine wpAnyH_take (i := 2) (oi := { dst := some 61, op := Op.nilCheck (Operand.tmp 60), type := 0, pos := "attr.go:111", after := #[{ on := 1, ground := Ground.data }], guard := none }) (v := ?vv3) rfl (by kernel_rfl) (by kernel_rfl) (by kernel_rfl) (fun _ _ _ h => h) (Or.inl ⟨by rfl, ?hy3⟩) hS ?rest3
 case hy3 => (intro W hSw; have hSw := hSe W hSw; go_simp; try with_reducible rfl)
 try simp only [Act.put, sA, sB, sC]
 refine wpAnyH_take (i := 3) (oi := { dst := some 62, op := Op.fieldAddr 27 (Operand.tmp 61) 1, type := 0, pos := "attr.go:111", after := #[{ on := 2, ground := Ground.data }], guard := none }) (v := ?vv4) rfl (by kernel_rfl) (by kernel_rfl) (by kernel_rfl) (fun _ _ _ h => h) (Or.inl ⟨by rfl, ?hy4⟩) hS ?rest4
 case hy4 => (intro W hSw; have hSw := hSe W hSw; go_simp; try with_reducible rfl)
 try simp only [Act.put, sA, sB, sC]
 refine wpAnyH_take (i := 5) (oi := { dst := some 64, op := Op.move (Operand.tmp 12), type := 3, pos := "attr.go:111", after := #[], guard := none }) (v := ?vv5) rfl (by kernel_rfl) (by kernel_rfl) (by kernel_rfl) (fun _ _ _ h => h) (Or.inl ⟨by rfl, ?hy5⟩) hS ?rest5
 case hy5 => (intro W hSw; have hSw := hSe W hSw; go_simp; try with_reducible rfl)
 try simp only [Act.put, sA, sB, sC]
 refine wpAnyH_ready (rs := [4, 6]) (by kernel_rfl) (by simp) ?_
 refine AllReadyH.cons (o := { dst := some 63, op := Op.load 25 (Operand.tmp 62), type := 25, pos := "attr.go:111", after := #[{ on := 3, ground := Ground.data }], guard := none }) rfl (fun K hK => ?_) (AllReadyH.cons (o := { dst := some 65, op := Op.buildSlice 25 1 #[(0, Operand.tmp 64)], type := 25, pos := "attr.go:111", after := #[{ on := 5, ground := Ground.data }], guard := none }) rfl (fun K hK => ?_) AllReadyH.nil)
 ·
  go_simp
  refine hK.out _ _ ?_ (fun hS => ?_)
  rw [hSd]; (exact pm5)
  clear hK K
  try simp only [Act.put, sA, sB, sC]
  refine wpAnyH_ready (rs := [6]) (by kernel_rfl) (by simp) ?_
  refine AllReadyH.cons (o := { dst := some 65, op := Op.buildSlice 25 1 #[(0, Operand.tmp 64)], type := 25, pos := "attr.go:111", after := #[{ on := 5, ground := Ground.data }], guard := none }) rfl (fun K hK => ?_) AllReadyH.nil
  go_simp
  refine hK.out _ _ ?_ (fun hS => ?_)
  rw [hSd]; (exact (blk_cell (blk_alloc HM.out _) 0).trans rfl)
  clear hK K
  try simp only [Act.put, sA, sB, sC]
  refine wpAnyH_ready (rs := [7]) (by kernel_rfl) (by simp) ?_
  refine AllReadyH.cons (o := { dst := some 66, op := Op.call { callee := Callee.builtin Builtin.append, args := #[Operand.tmp 63, Operand.tmp 65], argTypes := #[25, 25] }, type := 25, pos := "attr.go:111", after := #[{ on := 4, ground := Ground.data }, { on := 6, ground := Ground.data }], guard := none }) rfl (fun K hK => ?_) AllReadyH.nil
  (rw [if_pos (by rfl)]; refine wp_of_list plain_append rfl ?_; change wpList _ _ _ _ _ (w5.drew.alloc (Obj.cells #[Value.int IntKind.i64 r] 3)); refine Kd.N_append (Kd.int .i64) (w0 := w5.drew) w.heap.size rfl (.tmp 63) (.tmp 65) 25 3 (.int .i64 0) 8 rfl Try.underlying25 info3 rfl (by decide) (by omega) va acc2 r [.int .i64 r] (okR w.heap.size b) (fun _ => False) rfl ?aX6 ?aP6 (fun _ hk => hk.elim) ?aF6 ?aO6 ?aB6 ?aS6 ?aL6 ?_; (case aX6 => rfl); (case aP6 => exact fun _ _ => rfl); (case aF6 => exact fun k hk => (by rw [hzd] at hk; unfold okR; omega)); (case aO6 => exact HVN.out); (case aB6 => exact Below.refl _ _); (case aS6 => rw [hzd]; omega); (case aL6 => omega); intro v6 w6 hN6 hb6 hg6 hat6; obtain ⟨A6, c6, rfl⟩ := Kd.N_slice hN6; rw [show (acc2 ++ [r]).length = acc2.length + 1 from by simp] at hN6; have HX6 := Aside0.mk (And.intro hN6 (And.intro hb6 hg6)); have hgg := (hg6.block g (by rw [hzd]; omega) (Kd.N_ne HVN.out HVA.out (by decide))).trans HVA.out; have pg6 : w6.cell? ⟨g, 1, none⟩ = some va := (blk_cell hgg 1).trans rfl; have fg6 := blk_frozen hgg 1; have hmm := (hg6.block w.heap.size (by rw [hzd]; omega) (Kd.N_ne HVN.out HM.out (by decide))).trans HM.out; have pm6 : w6.cell? ⟨w.heap.size, 0, none⟩ = some (.pointer (some ⟨g, 0, none⟩)) := (blk_cell hmm 0).trans rfl; have HMM := Aside0.mk hmm; clear hN6 hb6 hg6 hat6 hgg hmm; dsimp only [wpList])
  refine hK.out _ _ ?_ (fun hS => ?_)
  rw [hSd]; (exact pm6)
  clear hK K
  try simp only [Act.put, sA, sB, sC]
  try clear hS5
  have hS5 := hS
  refine wpAnyH_take (i := 8) (oi := { dst := some 67, op := Op.nilCheck (Operand.tmp 59), type := 0, pos := "attr.go:111", after := #[{ on := 0, ground := Ground.data }, { on := 0, ground := Ground.phase }, { on := 1, ground := Ground.phase }, { on := 2, ground := Ground.phase }, { on := 3, ground := Ground.phase }, { on := 4, ground := Ground.phase }, { on := 5, ground := Ground.phase }, { on := 6, ground := Ground.phase }, { on := 7, ground := Ground.phase }], guard := none }) (v := ?vv7) rfl (by kernel_rfl) (by kernel_rfl) (by kernel_rfl) (fun _ _ _ h => h) (Or.inl ⟨by rfl, ?hy7⟩) hS ?rest7
  case hy7 => (intro W hSw; have hSw := hSe W hSw; go_simp; try with_reducible rfl)
  try simp only [Act.put, sA, sB, sC]
  refine wpAnyH_take (i := 9) (oi := { dst := some 68, op := Op.fieldAddr 27 (Operand.tmp 67) 1, type := 0, pos := "attr.go:111", after := #[{ on := 8, ground := Ground.data }, { on := 0, ground := Ground.phase }, { on := 1, ground := Ground.phase }, { on := 2, ground := Ground.phase }, { on := 3, ground := Ground.phase }, { on := 4, ground := Ground.phase }, { on := 5, ground := Ground.phase }, { on := 6, ground := Ground.phase }, { on := 7, ground := Ground.phase }], guard := none }) (v := ?vv8) rfl (by kernel_rfl) (by kernel_rfl) (by kernel_rfl) (fun _ _ _ h => h) (Or.inl ⟨by rfl, ?hy8⟩) hS ?rest8
  case hy8 => (intro W hSw; have hSw := hSe W hSw; go_simp; try with_reducible rfl)
  try simp only [Act.put, sA, sB, sC]
  refine wpAnyH_ready (rs := [10]) (by kernel_rfl) (by simp) ?_
  refine AllReadyH.cons (o := { dst := none, op := Op.store 25 (Operand.tmp 68) (Operand.tmp 66), type := 0, pos := "attr.go:111", after := #[{ on := 9, ground := Ground.data }, { on := 7, ground := Ground.data }, { on := 7, ground := Ground.chain }, { on := 0, ground := Ground.phase }, { on := 1, ground := Ground.phase }, { on := 2, ground := Ground.phase }, { on := 3, ground := Ground.phase }, { on := 4, ground := Ground.phase }, { on := 5, ground := Ground.phase }, { on := 6, ground := Ground.phase }, { on := 7, ground := Ground.phase }], guard := none }) rfl (fun K hK => ?_) AllReadyH.nil
  go_simp
  refine hK.out _ _ ?_ (fun hS => ?_)
  rw [hSd]; (exact (blk_cell ((Below.heap_setCell w6 ⟨g, 1, none⟩ _ w.heap.size (by show w.heap.size ≠ g; omega)).trans HMM.out) 0).trans rfl)
  clear hK K
  try simp only [Act.put, sA, sB, sC]
  refine wpAnyH_done (by kernel_rfl) ?_ _
  exact HQ.out _ _ _ HX6.out.1 HX6.out.2.1 HX6.out.2.2
 ·
  go_simp
  refine hK.out _ _ ?_ (fun hS => ?_)
  rw [hSd]; (first | exact pm5 | exact (blk_cell (blk_alloc HM.out _) 0).trans rfl)
  clear hK K
  try simp only [Act.put, sA, sB, sC]
  refine wpAnyH_ready (rs := [4]) (by kernel_rfl) (by simp) ?_
  refine AllReadyH.cons (o := { dst := some 63, op := Op.load 25 (Operand.tmp 62), type := 25, pos := "attr.go:111", after := #[{ on := 3, ground := Ground.data }], guard := none }) rfl (fun K hK => ?_) AllReadyH.nil
  go_simp
  refine hK.out _ _ ?_ (fun hS => ?_)
  rw [hSd]; (first | exact pm5 | exact (blk_cell (blk_alloc HM.out _) 0).trans rfl)
  clear hK K
  try simp only [Act.put, sA, sB, sC]
  refine wpAnyH_ready (rs := [7]) (by kernel_rfl) (by simp) ?_
  refine AllReadyH.cons (o := { dst := some 66, op := Op.call { callee := Callee.builtin Builtin.append, args := #[Operand.tmp 63, Operand.tmp 65], argTypes := #[25, 25] }, type := 25, pos := "attr.go:111", after := #[{ on := 4, ground := Ground.data }, { on := 6, ground := Ground.data }], guard := none }) rfl (fun K hK => ?_) AllReadyH.nil
  (rw [if_pos (by rfl)]; refine wp_of_list plain_append rfl ?_; change wpList _ _ _ _ _ (w5.drew.alloc (Obj.cells #[Value.int IntKind.i64 r] 3)); refine Kd.N_append (Kd.int .i64) (w0 := w5.drew) w.heap.size rfl (.tmp 63) (.tmp 65) 25 3 (.int .i64 0) 8 rfl Try.underlying25 info3 rfl (by decide) (by omega) va acc2 r [.int .i64 r] (okR w.heap.size b) (fun _ => False) rfl ?aX9 ?aP9 (fun _ hk => hk.elim) ?aF9 ?aO9 ?aB9 ?aS9 ?aL9 ?_; (case aX9 => rfl); (case aP9 => exact fun _ _ => rfl); (case aF9 => exact fun k hk => (by rw [hzd] at hk; unfold okR; omega)); (case aO9 => exact HVN.out); (case aB9 => exact Below.refl _ _); (case aS9 => rw [hzd]; omega); (case aL9 => omega); intro v6 w6 hN6 hb6 hg6 hat6; obtain ⟨A6, c6, rfl⟩ := Kd.N_slice hN6; rw [show (acc2 ++ [r]).length = acc2.length + 1 from by simp] at hN6; have HX6 := Aside0.mk (And.intro hN6 (And.intro hb6 hg6)); have hgg := (hg6.block g (by rw [hzd]; omega) (Kd.N_ne HVN.out HVA.out (by decide))).trans HVA.out; have pg6 : w6.cell? ⟨g, 1, none⟩ = some va := (blk_cell hgg 1).trans rfl; have fg6 := blk_frozen hgg 1; have hmm := (hg6.block w.heap.size (by rw [hzd]; omega) (Kd.N_ne HVN.out HM.out (by decide))).trans HM.out; have pm6 : w6.cell? ⟨w.heap.size, 0, none⟩ = some (.pointer (some ⟨g, 0, none⟩)) := (blk_cell hmm 0).trans rfl; have HMM := Aside0.mk hmm; clear hN6 hb6 hg6 hat6 hgg hmm; dsimp only [wpList])
  refine hK.out _ _ ?_ (fun hS => ?_)
  rw [hSd]; (exact pm6)
  clear hK K
  try simp only [Act.put, sA, sB, sC]
  try clear hS5
  have hS5 := hS
  refine wpAnyH_take (i := 8) (oi := { dst := some 67, op := Op.nilCheck (Operand.tmp 59), type := 0, pos := "attr.go:111", after := #[{ on := 0, ground := Ground.data }, { on := 0, ground := Ground.phase }, { on := 1, ground := Ground.phase }, { on := 2, ground := Ground.phase }, { on := 3, ground := Ground.phase }, { on := 4, ground := Ground.phase }, { on := 5, ground := Ground.phase }, { on := 6, ground := Ground.phase }, { on := 7, ground := Ground.phase }], guard := none }) (v := ?vv10) rfl (by kernel_rfl) (by kernel_rfl) (by kernel_rfl) (fun _ _ _ h => h) (Or.inl ⟨by rfl, ?hy10⟩) hS ?rest10
  case hy10 => (intro W hSw; have hSw := hSe W hSw; go_simp; try with_reducible rfl)
  try simp only [Act.put, sA, sB, sC]
  refine wpAnyH_take (i := 9) (oi := { dst := some 68, op := Op.fieldAddr 27 (Operand.tmp 67) 1, type := 0, pos := "attr.go:111", after := #[{ on := 8, ground := Ground.data }, { on := 0, ground := Ground.phase }, { on := 1, ground := Ground.phase }, { on := 2, ground := Ground.phase }, { on := 3, ground := Ground.phase }, { on := 4, ground := Ground.phase }, { on := 5, ground := Ground.phase }, { on := 6, ground := Ground.phase }, { on := 7, ground := Ground.phase }], guard := none }) (v := ?vv11) rfl (by kernel_rfl) (by kernel_rfl) (by kernel_rfl) (fun _ _ _ h => h) (Or.inl ⟨by rfl, ?hy11⟩) hS ?rest11
  case hy11 => (intro W hSw; have hSw := hSe W hSw; go_simp; try with_reducible rfl)
  try simp only [Act.put, sA, sB, sC]
  refine wpAnyH_ready (rs := [10]) (by kernel_rfl) (by simp) ?_
  refine AllReadyH.cons (o := { dst := none, op := Op.store 25 (Operand.tmp 68) (Operand.tmp 66), type := 0, pos := "attr.go:111", after := #[{ on := 9, ground := Ground.data }, { on := 7, ground := Ground.data }, { on := 7, ground := Ground.chain }, { on := 0, ground := Ground.phase }, { on := 1, ground := Ground.phase }, { on := 2, ground := Ground.phase }, { on := 3, ground := Ground.phase }, { on := 4, ground := Ground.phase }, { on := 5, ground := Ground.phase }, { on := 6, ground := Ground.phase }, { on := 7, ground := Ground.phase }], guard := none }) rfl (fun K hK => ?_) AllReadyH.nil
  go_simp
  refine hK.out _ _ ?_ (fun hS => ?_)
  rw [hSd]; (exact (blk_cell ((Below.heap_setCell w6 ⟨g, 1, none⟩ _ w.heap.size (by show w.heap.size ≠ g; omega)).trans HMM.out) 0).trans rfl)
  clear hK K
  try simp only [Act.put, sA, sB, sC]
  refine wpAnyH_done (by kernel_rfl) ?_ _
  exact HQ.out _ _ _ HX6.out.1 HX6.out.2.1 HX6.out.2.2
/-- What is so behind. -/
def AsPost (w0 w : World) (g : Nat) (o h t : Int) (Q : List Int × Bool) (e : Ending) (w' : World) : Prop :=
 e = .returned (.bool Q.2) ∧ ∃ va, w'.heap[g]? = some (.cells #[.int .i64 o, va, .int .i64 h, .int .i64 t] 27 (0, 0)) ∧ Kd.N (Kd.int .i64) 3 w' w.heap.size (fun k => w.heap.size ≤ k) va Q.1 ∧ KeepBut w w' g none ∧ Below w0.heap.size w0 w'
theorem ases_end0 {F : Fence} {n : Nat} {tmps : Array Value} {w0 w W W1 : World} {g : Nat} {o h t : Int} {acc : List Int} {bs : List Nat} (Q : List Int × Bool) (hw0 : w0.heap.size ≤ w.heap.size) (henv : W.os = W1.os ∧ W.tape = W1.tape ∧ W.output = W1.output) (hg : g < w.heap.size) (hQ : Q.1 = acc) (hr : restA w0 w g o h t acc bs W1) (far : ∀ i, i ≠ w.heap.size + 1 → W.heap[i]? = W1.heap[i]?) (hz : W.heap.size = W1.heap.size) (hc : W.heap[w.heap.size + 1]? = some (.cells #[.bool Q.2] 4 (0, 0)))
  (ht : tmps[4]?.getD undef = .pointer (some ⟨w.heap.size + 1, 0, none⟩)) : LeavesInM F n Try.prog Try.f40 tmps (AsPost w0 w g o h t Q) (marks bs) .returning W := by
 obtain ⟨⟨va, h1, h2⟩, h3, h4, h5, h6, h7, h8⟩ := hr
 refine leaves_marks bs W h7 (fun x hx => (far x (by have := (h8 x hx).1; omega)).trans (h8 x hx).2) ?_
 intro w' hs hi he
 have hm : ∀ i, i < w.heap.size + 2 → w'.heap[i]? = W.heap[i]? := fun i hi' => hi i (fun hb => by have := (h8 i hb).1; omega)
 have c0 : w'.cell? ⟨w.heap.size + 1, 0, none⟩ = some (.bool Q.2) := (blk_cell ((hm _ (by omega)).trans hc) 0).trans rfl
 refine ⟨.bool Q.2, ?_, rfl, va, ?_, ?_, ?_, ?_⟩
 ·
  simp [results, Try.results40, go_sem, ht, c0]
 ·
  exact (hm g (by omega)).trans ((far g (by omega)).trans h1)
 ·
  rw [hQ]
  have hno : ∀ k, va.ownBlock = some k → k ∉ bs := fun k hk hb => by
   obtain ⟨cells, hcl⟩ := Kd.N_typed h2 k hk
   rw [(h8 k hb).2] at hcl
   cases hcl
  have hst := Kd.N_step (w1 := w') (N_int_ok (ok' := fun k => w.heap.size + 2 ≤ k ∧ k ∉ bs) h2 (fun k hk => ⟨h2.1 k hk, hno k hk⟩)) (fun k hk hl => (hi k hk.2).trans (far k (by have := hk.1; omega)))
  exact Kd.N_mono hst (fun k hk => by have := hk.1; omega)
 ·
  exact ⟨by rw [hs, hz]; exact h5.1, fun i hi1 hi2 hi3 => (hm i (by omega)).trans ((far i (by omega)).trans (h5.2 i hi1 hi2 hi3))⟩
 ·
  exact ⟨he.1.trans (henv.1.trans h6.os), he.2.1.trans (henv.2.1.trans h6.tape), he.2.2.trans (henv.2.2.trans h6.output), by rw [hs, hz]; exact h6.size, fun i hi1 => (hm i (by omega)).trans ((far i (by omega)).trans (h6.block i hi1))⟩
theorem ases_end {F : Fence} {n : Nat} {tmps : Array Value} {w0 w W W1 : World} {g : Nat} {o h t : Int} {acc : List Int} {bs : List Nat} (Q : List Int × Bool) (hw0 : w0.heap.size ≤ w.heap.size) (hg : g < w.heap.size) (hQ : Q.1 = acc) (hr : restA w0 w g o h t acc bs W1) (hW : W = W1.setCell ⟨w.heap.size + 1, 0, none⟩ (.bool Q.2))
  (ht : tmps[4]?.getD undef = .pointer (some ⟨w.heap.size + 1, 0, none⟩)) : LeavesInM F n Try.prog Try.f40 tmps (AsPost w0 w g o h t Q) (marks bs) .returning W :=
 ases_end0 Q hw0 (by rw [hW]; exact ⟨rfl, rfl, rfl⟩) hg hQ hr (fun i hi => by rw [hW]; exact Below.heap_setCell _ _ _ _ hi) (by rw [hW]; simp [World.setCell]) (by rw [hW]; exact blk_put hr.2.2.1 0 _ rfl) ht
theorem ases_stop {F : Fence} {n : Nat} {tmps : Array Value} {w0 w W : World} {g : Nat} {o h t : Int} {acc : List Int} {bs : List Nat} (Q : List Int × Bool) (hw0 : w0.heap.size ≤ w.heap.size) (hg : g < w.heap.size) (hQ : Q = (acc, false)) (hr : restA w0 w g o h t acc bs W)
  (ht : tmps[4]?.getD undef = .pointer (some ⟨w.heap.size + 1, 0, none⟩)) : LeavesInM F n Try.prog Try.f40 tmps (AsPost w0 w g o h t Q) (marks bs) .returning W :=
 ases_end0 Q hw0 ⟨rfl, rfl, rfl⟩ hg (by rw [hQ]) hr (fun _ _ => rfl) rfl (by rw [hQ]; exact hr.2.2.1) ht

theorem restA.below {w0 w : World} {g : Nat} {o h t : Int} {acc : List Int} {bs : List Nat} {W W' : World} (hr : restA w0 w g o h t acc bs W) (hb : Below W.heap.size W W') : restA w0 w g o h t acc bs W' := by
 obtain ⟨⟨va, h1, h2⟩, h3, h4, h5, h6, h7, h8⟩ := hr
 exact ⟨⟨va, blk_below h1 hb, Kd.N_below h2 hb⟩, blk_below h3 hb, blk_below h4 hb, h5.trans (KeepBut.of_below hb g none) (.inl rfl), below_step h6 hb, h7, fun x hx => ⟨(h8 x hx).1, blk_below (h8 x hx).2 hb⟩⟩
theorem restC.outA {w0 w : World} {g : Nat} {o h t : Int} {b : Nat} {bs : List Nat} {Ai : Option Addr} {ni ci : Nat} {acc : List Int} {W : World} (H : restC w0 w g o h t b bs Ai ni ci acc W) (hn : bs.Nodup) (hb : w.heap.size + 2 ≤ b) (hd : W.heap[b + 2]? = some (.deferred (some []))) : restA w0 w g o h t acc ((b + 2) :: bs) W := by
 obtain ⟨⟨va, h1, h2⟩, h3, h4, h5, h6, h7, h8, h9⟩ := H
 refine ⟨⟨va, h1, Kd.N_mono h2 (fun k hk => hk.1)⟩, h3, h4, h7, h8, List.nodup_cons.2 ⟨fun hx => by have := (h9 _ hx).1; omega, hn⟩, fun x hx => ?_⟩
 rcases List.mem_cons.1 hx with rfl | hx
 ·
  exact ⟨by omega, hd⟩
 ·
  exact (h9 x hx).2
theorem restA.inC {w0 w : World} {g : Nat} {o h t : Int} {acc : List Int} {bs : List Nat} {W : World} {A : Option Addr} {n c : Nat} (hr : restA w0 w g o h t acc bs W) : restC w0 w g o h t W.heap.size bs A n c acc ((W.alloc (.cells #[.slice A n c] 22)).alloc (.cells #[.int .i64 4] 3)) := by
 have hb : Below W.heap.size W ((W.alloc (.cells #[.slice A n c] 22)).alloc (.cells #[.int .i64 4] 3)) := below_alloc (below_alloc (Below.refl _ _) _) _
 have H := hr.below hb
 obtain ⟨⟨va, h1, h2⟩, h3, h4, h5, h6, h7, h8⟩ := H
 obtain ⟨⟨va0, k1, k2⟩, -, -, -, -, -, k8⟩ := hr
 have hva : va = va0 := by
  have := (blk_below k1 hb).symm.trans h1
  injection this with this
  injection this with this
  have := congrArg (fun a : Array Value => a.toList) this
  simpa using this.symm
 subst hva
 refine ⟨⟨va, h1, N_int_ok h2 (fun k hk => ⟨h2.1 k hk, by have := Kd.N_lt k2 k hk; omega, by have := Kd.N_lt k2 k hk; omega, by have := Kd.N_lt k2 k hk; omega, by have := Kd.N_lt k2 k hk; omega⟩)⟩, h3, h4, ?_, ?_, h5, h6, fun x hx => ⟨blk_lt (k8 x hx).2, h8 x hx⟩⟩
 ·
  exact blk_alloc (heap_alloc_new W _) _
 ·
  have hq := heap_alloc_new (W.alloc (.cells #[.slice A n c] 22)) (.cells #[.int .i64 4] 3)
  rw [World.size_alloc] at hq
  exact hq

theorem iC_start {K : Nat} {inn : List Int} {Q : List Int × Bool} {w0 w : World} {g : Nat} {o h t : Int} {acc : List Int} {bs : List Nat} {W : World} {A : Option Addr} {c k : Nat} (hq : quads K k acc inn = some Q) (hc : inn.length = c) (hr : restA w0 w g o h t acc bs W) : iC K inn Q w0 w g o h t W.heap.size bs A c (k, acc, 0) ((W.alloc (.cells #[.slice A c c] 22)).alloc (.cells #[.int .i64 4] 3)) := by
 subst hc
 exact ⟨⟨hq, by show 0 < inn.length + 4; omega⟩, hr.inC⟩
theorem get1n (x : Int) (l : List Int) (A : Option Addr) (c n N : Nat) (w : World) (hn : l.length = n) (hN : N = n + 1) (hr : Kd.C (Kd.int .u8) w A N (x :: l)) (hc : N ≤ c) (h0 : 0 ≤ x) (h1 : x < 256) :
  Calls Try.prog 27 #[.slice A N c, .int .i64 1] w fun e w' => e = .returned (.tuple #[.int .i64 x, .slice (addrFrom A c 1) n (c - 1), .bool true]) ∧ Below w.heap.size w w' := by
 subst hN
 subst hn
 exact get1_some x l A c w hr hc h0 h1
theorem take_yesI (z : Int) (n : Nat) (A : Option Addr) (m c : Nat) (w : World) (hz : z = n) (h : n ≤ m) (hc : m ≤ c) :
  Calls Try.prog 28 #[.slice A m c, .int .i64 z] w fun e w' => e = .returned (.tuple #[.slice A n n, .slice (addrFrom A c n) (m - n) (c - n), .bool true]) ∧ Below w.heap.size w w' := by
 subst hz
 exact take_yes n A m c w h hc
set_option maxHeartbeats 8000000 in
set_option maxRecDepth 100000 in
theorem ases_any (K g : Nat) (o h t : Int) (A : Option Addr) (c : Nat) (l : List Int) (w0 w : World) (Q : List Int × Bool) (hw : Below w0.heap.size w0 w) (hg0 : w0.heap.size ≤ g) (hg : w.heap[g]? = some (.cells #[.int .i64 o, .slice none 0 0, .int .i64 h, .int .i64 t] 27 (0, 0))) (hr : Kd.C (Kd.int .u8) w0 A l.length l) (hc : l.length ≤ c) (hO : ∀ x ∈ l, 0 ≤ x ∧ x < 256) (hl : l.length < 1000000) (hs : segL K (l.length + 1) [] l = some Q) :
  Calls Try.prog 40 #[.pointer (some ⟨g, 0, none⟩), .slice A l.length c] w (AsPost w0 w g o h t Q) := by
 have hgs := blk_lt hg
 have HI0 := Aside0.mk (show OutI K w0 w g o h t Q A c l [] [] (l.length + 1) ((w.alloc (.cells #[.pointer (some ⟨g, 0, none⟩)] 64 (0, 0))).alloc (.cells #[.bool false] 4 (0, 0))) from by
  have hb : Below w.heap.size w ((w.alloc (.cells #[.pointer (some ⟨g, 0, none⟩)] 64 (0, 0))).alloc (.cells #[.bool false] 4 (0, 0))) := below_alloc (below_alloc (Below.refl _ _) _) _
  refine ⟨hs, hr, hc, hO, hl, ⟨_, blk_below hg hb, Kd.N_nil _ _ _ _ _⟩, blk_alloc (heap_alloc_new w _) _, ?_, KeepBut.of_below hb g none, below_step hw hb, List.nodup_nil, fun x hx => by cases hx⟩
  have hq := heap_alloc_new (w.alloc (.cells #[.pointer (some ⟨g, 0, none⟩)] 64 (0, 0))) (.cells #[.bool false] 4 (0, 0))
  rw [World.size_alloc] at hq
  exact hq)
 have HG := Aside0.mk (show g < w.heap.size ∧ w0.heap.size ≤ g ∧ w0.heap.size ≤ w.heap.size from ⟨hgs, hg0, hw.size⟩)
 have HQL := Aside0.mk (show Q.1.length < 1000000 from by have h1 := (segL_len _ _ _ _ hs).2; simp only [List.length_nil] at h1; omega)
 clear hw hg0 hg hr hc hO hl hs hgs
 refine (callsIn_wide (n := 5)).1 (callsIn_of_wp_marks Try.func40 rfl trivial ?_ rfl)
 simp only [Try.ntmps40, List.size_toArray, List.length_cons, List.length_nil, Nat.reduceAdd, Nat.reduceSub, Array.replicate_succ, Array.replicate_zero, List.push_toArray, List.append_toArray, List.nil_append, List.cons_append]
 gi_wp2
 refine wpIn_loop_ghost_k (fun k_ a' w' => ∃ (v1 : Value) (u3 u5 u6 u7 u8 u9 u10 u11 u12 u13 u14 u15 u16 u17 u18 u19 u20 u21 u22 u23 u24 u25 u26 u27 u28 u29 u30 u31 u32 u33 u34 u35 u36 u37 u38 u39 u40 u41 u42 u43 u44 u45 u46 u47 u48 u49 u50 u51 u52 u53 u54 u55 u56 u57 u58 u59 u60 u61 u62 u63 u64 u65 u66 u67 u68 u69 : Value) (ds : List Deferred), (∃ (A1 : Option Addr) (c1 : Nat) (b : List Int) (acc : List Int) (bs : List Nat), v1 = .slice A1 b.length c1 ∧ ds = marks bs ∧ Aside0 (OutI K w0 w g o h t Q A1 c1 b acc bs k_ w')) ∧ a' = { tmps := #[.pointer (some ⟨g, 0, none⟩), v1, .pointer (some ⟨w.heap.size, 0, none⟩), u3, .pointer (some ⟨w.heap.size + 1, 0, none⟩), u5, u6, u7, u8, u9, u10, u11, u12, u13, u14, u15, u16, u17, u18, u19, u20, u21, u22, u23, u24, u25, u26, u27, u28, u29, u30, u31, u32, u33, u34, u35, u36, u37, u38, u39, u40, u41, u42, u43, u44, u45, u46, u47, u48, u49, u50, u51, u52, u53, u54, u55, u56, u57, u58, u59, u60, u61, u62, u63, u64, u65, u66, u67, u68, u69], defers := ds }) (l.length + 1) ?_ ?_
 ·
  (repeat apply Exists.intro)
  refine ⟨⟨A, c, l, [], [], rfl, rfl, HI0⟩, rfl⟩
 ·
  intro gk _ wr hinv
  obtain ⟨v1, u3, u5, u6, u7, u8, u9, u10, u11, u12, u13, u14, u15, u16, u17, u18, u19, u20, u21, u22, u23, u24, u25, u26, u27, u28, u29, u30, u31, u32, u33, u34, u35, u36, u37, u38, u39, u40, u41, u42, u43, u44, u45, u46, u47, u48, u49, u50, u51, u52, u53, u54, u55, u56, u57, u58, u59, u60, u61, u62, u63, u64, u65, u66, u67, u68, u69, ds, hrel, ha⟩ := hinv
  subst ha
  intro _ _ _ _
  clear HI0
  obtain ⟨A1, c1, b, acc, bs, rfl, rfl, HI⟩ := hrel
  obtain ⟨hsg, hC, hc1, hb, hbl, hrest⟩ := HI.out
  cases gk with
  | zero => simp [segL] at hsg
  | succ k1 =>
  have HAL := Aside0.mk (show acc.length < 1000000 from by have h1 := (segL_len _ _ _ _ hsg).1; have h2 := HQL.out; omega)
  simp only [segL] at hsg
  have x1 : wr.cell? ⟨w.heap.size + 1, 0, none⟩ = some (.bool false) := (blk_cell hrest.2.2.1 0).trans rfl
  have f1 := blk_frozen hrest.2.2.1 0
  have HR := Aside0.mk hrest
  clear hrest
  rcases b with _ | ⟨x, _ | ⟨y, tl⟩⟩
  ·
   simp only [List.length_nil, if_true] at hsg ⊢
   have HQ := Aside0.mk (Option.some.inj hsg)
   clear hsg hC hc1 hb hbl
   gi_wp2
   refine ases_end Q HG.out.2.2 HG.out.1 (by rw [← HQ.out]) HR.out (by rw [← HQ.out]) rfl
  ·
   simp only [List.length_cons, List.length_nil, Nat.zero_add] at hsg hC hc1 hbl ⊢
   rw [if_neg (by omega), if_pos (by omega)] at hsg
   have HQ := Aside0.mk (Option.some.inj hsg)
   obtain ⟨hx0, hx1⟩ := hb x (by simp)
   have HC := Aside0.mk hC
   have HC1 := Aside0.mk hc1
   have HX := Aside0.mk (show 0 ≤ x ∧ x < 256 from ⟨hx0, hx1⟩)
   clear hsg hC hc1 hb hbl hx0 hx1
   gi_wp2_with (first
    | (refine ⟨trivial, ?_⟩; gi_at_call 27; have hh := get1n x [] A1 c1 0 1 wr rfl rfl (Kd.C_below HC.out HR.out.2.2.2.2.1) HC1.out HX.out.1 HX.out.2; (with_reducible refine (callsIn_wide.2 hh).mono ?_); clear hh; rintro e w1 ⟨rfl, hb1⟩; have HB1 := Aside0.mk hb1; clear hb1)
    | (refine ⟨trivial, ?_⟩; gi_at_call 27; (with_reducible refine (callsIn_wide.2 (get1_none _ _ _)).mono ?_); rintro e w2 ⟨rfl, hb2⟩; have HB2 := Aside0.mk (HR.out.below (below_step HB1.out hb2)); have x2 : w2.cell? ⟨w.heap.size + 1, 0, none⟩ = some (.bool false) := (blk_cell HB2.out.2.2.1 0).trans rfl; have f2 := blk_frozen HB2.out.2.2.1 0; clear hb2))
   refine ases_end Q HG.out.2.2 HG.out.1 (by rw [← HQ.out]) HB2.out (by rw [← HQ.out]) rfl
  ·
   obtain ⟨hx0, hx1⟩ := hb x (by simp)
   obtain ⟨hy0, hy1⟩ := hb y (by simp)
   have htb : ∀ z ∈ tl, 0 ≤ z ∧ z < 256 := fun z hz => hb z (by simp [hz])
   obtain ⟨n, hn⟩ : ∃ n, n = tl.length := ⟨_, rfl⟩
   have hL : (x :: y :: tl).length = n + 2 := by simp [hn]
   rw [hL] at hsg hC hc1 hbl ⊢
   rw [if_neg (by omega)] at hsg
   simp only [List.getD_cons_zero, List.getD_cons_succ, List.drop_succ_cons, List.drop_zero] at hsg
   obtain ⟨A3, hA3⟩ : ∃ A3, A3 = addrFrom (addrFrom A1 c1 1) (c1 - 1) 1 := ⟨_, rfl⟩
   have hC1 : Kd.C (Kd.int .u8) w0 (addrFrom A1 c1 1) (n + 1) (y :: tl) := by
    have h1 := Kd.C_drop (m := 1) (c := c1) (xs := x :: y :: tl) (by rw [hL]; exact hC) (by rw [hL]; omega) (by rw [hL]; exact hc1)
    rw [List.drop_succ_cons, List.drop_zero, List.length_cons, ← hn] at h1
    exact h1
   have hC3 : Kd.C (Kd.int .u8) w0 A3 n tl := by
    have h1 := Kd.C_drop (m := 1) (c := c1 - 1) (xs := y :: tl) (by rw [List.length_cons, ← hn]; exact hC1) (by rw [List.length_cons]; omega) (by rw [List.length_cons]; omega)
    rw [List.drop_succ_cons, List.drop_zero, ← hn] at h1
    rw [hA3]
    exact h1
   have HC := Aside0.mk hC
   have HC1 := Aside0.mk hC1
   have HC3 := Aside0.mk hC3
   have HX := Aside0.mk (show 0 ≤ x ∧ x < 256 from ⟨hx0, hx1⟩)
   have HY := Aside0.mk (show 0 ≤ y ∧ y < 256 from ⟨hy0, hy1⟩)
   have HN := Aside0.mk (show n = tl.length ∧ n < 1000000 ∧ n + 2 ≤ c1 ∧ (∀ z ∈ tl, 0 ≤ z ∧ z < 256) from ⟨hn, by omega, hc1, htb⟩)
   have HA3 := Aside0.mk hA3
   clear hC hC1 hC3 hc1 hb hbl hx0 hx1 htb hL hA3 hn
   have step : ∀ (P_ : Prop), P_ → P_ := fun _ h => h
   by_cases g1 : x = 2
   ·
    subst g1
    by_cases g2 : y = 0
    ·
     rw [if_pos (.inr (.inr (.inl g2)))] at hsg
     have HQ := Aside0.mk (Option.some.inj hsg)
     have d1 : (y == 0) = true := by simpa using g2
     clear hsg g2 step hy0 hy1
     gi_wp2_with (first
      | (refine ⟨trivial, ?_⟩; gi_at_call 27; have hh := get1n 2 (y :: tl) A1 c1 (n + 1) (n + 2) wr (by rw [HN.out.1]; rfl) rfl (Kd.C_below HC.out HR.out.2.2.2.2.1) HN.out.2.2.1 HX.out.1 HX.out.2; (with_reducible refine (callsIn_wide.2 hh).mono ?_); clear hh; rintro e w1 ⟨rfl, hb1⟩; have HB1 := Aside0.mk hb1; clear hb1)
      | (refine ⟨trivial, ?_⟩; gi_at_call 27; have hh := get1n y tl (addrFrom A1 c1 1) (c1 - 1) n (n + 1) w1 HN.out.1.symm rfl (Kd.C_below HC1.out (below_step HR.out.2.2.2.2.1 HB1.out)) (by have := HN.out.2.2.1; omega) HY.out.1 HY.out.2; rw [← HA3.out] at hh; (with_reducible refine (callsIn_wide.2 hh).mono ?_); clear hh; rintro e w2 ⟨rfl, hb2⟩; have HB2 := Aside0.mk (HR.out.below (below_step HB1.out hb2)); have x2 : w2.cell? ⟨w.heap.size + 1, 0, none⟩ = some (.bool false) := (blk_cell HB2.out.2.2.1 0).trans rfl; have f2 := blk_frozen HB2.out.2.2.1 0; clear hb2))
     refine ases_end Q HG.out.2.2 HG.out.1 (by rw [← HQ.out]) HB2.out (by rw [← HQ.out]) rfl
    have d1 : (y == 0) = false := by simpa using g2
    by_cases g3 : (n : Int) < 4 * y
    ·
     rw [if_pos (.inr (.inr (.inr (by omega))))] at hsg
     have HQ := Aside0.mk (Option.some.inj hsg)
     have HG3 := Aside0.mk g3
     clear hsg g2 g3 step
     gi_wp2_with (first
      | (refine ⟨trivial, ?_⟩; gi_at_call 27; have hh := get1n 2 (y :: tl) A1 c1 (n + 1) (n + 2) wr (by rw [HN.out.1]; rfl) rfl (Kd.C_below HC.out HR.out.2.2.2.2.1) HN.out.2.2.1 HX.out.1 HX.out.2; (with_reducible refine (callsIn_wide.2 hh).mono ?_); clear hh; rintro e w1 ⟨rfl, hb1⟩; have HB1 := Aside0.mk hb1; clear hb1)
      | (refine ⟨trivial, ?_⟩; gi_at_call 27; have hh := get1n y tl (addrFrom A1 c1 1) (c1 - 1) n (n + 1) w1 HN.out.1.symm rfl (Kd.C_below HC1.out (below_step HR.out.2.2.2.2.1 HB1.out)) (by have := HN.out.2.2.1; omega) HY.out.1 HY.out.2; rw [← HA3.out] at hh; (with_reducible refine (callsIn_wide.2 hh).mono ?_); clear hh; rintro e w2 ⟨rfl, hb2⟩; have HB2 := Aside0.mk (HR.out.below (below_step HB1.out hb2)); have x2 : w2.cell? ⟨w.heap.size + 1, 0, none⟩ = some (.bool false) := (blk_cell HB2.out.2.2.1 0).trans rfl; have f2 := blk_frozen HB2.out.2.2.1 0; clear hb2)
      | (refine ⟨trivial, ?_⟩; gi_at_call 28; have hh := take_no (4 * y) A3 n (c1 - 1 - 1) w2 (.inr HG3.out); (with_reducible refine (callsIn_wide.2 hh).mono ?_); clear hh; rintro e w3 ⟨rfl, hb3⟩; have HB3 := Aside0.mk (HB2.out.below hb3); have x3 : w3.cell? ⟨w.heap.size + 1, 0, none⟩ = some (.bool false) := (blk_cell HB3.out.2.2.1 0).trans rfl; have f3 := blk_frozen HB3.out.2.2.1 0; clear hb3))
     refine ases_end Q HG.out.2.2 HG.out.1 (by rw [← HQ.out]) HB3.out (by rw [← HQ.out]) rfl
    ·
     rw [if_neg (by omega)] at hsg
     obtain ⟨q, hq, hsg⟩ := Option.bind_eq_some_iff.mp hsg
     obtain ⟨i4, hi4⟩ : ∃ i4 : Nat, i4 = (4 * y).toNat := ⟨_, rfl⟩
     have HI4 := Aside0.mk (show 4 * y = (i4 : Int) ∧ i4 ≤ n by omega)
     have HQ := Aside0.mk hq
     have HSG := Aside0.mk hsg
     have HI4b := Aside0.mk hi4
     clear hsg hq g2 g3 step hi4
     gi_wp2_with (first
      | (refine ⟨trivial, ?_⟩; gi_at_call 27; have hh := get1n 2 (y :: tl) A1 c1 (n + 1) (n + 2) wr (by rw [HN.out.1]; rfl) rfl (Kd.C_below HC.out HR.out.2.2.2.2.1) HN.out.2.2.1 HX.out.1 HX.out.2; (with_reducible refine (callsIn_wide.2 hh).mono ?_); clear hh; rintro e w1 ⟨rfl, hb1⟩; have HB1 := Aside0.mk hb1; clear hb1)
      | (refine ⟨trivial, ?_⟩; gi_at_call 27; have hh := get1n y tl (addrFrom A1 c1 1) (c1 - 1) n (n + 1) w1 HN.out.1.symm rfl (Kd.C_below HC1.out (below_step HR.out.2.2.2.2.1 HB1.out)) (by have := HN.out.2.2.1; omega) HY.out.1 HY.out.2; rw [← HA3.out] at hh; (with_reducible refine (callsIn_wide.2 hh).mono ?_); clear hh; rintro e w2 ⟨rfl, hb2⟩; have HB2 := Aside0.mk (HR.out.below (below_step HB1.out hb2)); have x2 : w2.cell? ⟨w.heap.size + 1, 0, none⟩ = some (.bool false) := (blk_cell HB2.out.2.2.1 0).trans rfl; have f2 := blk_frozen HB2.out.2.2.1 0; clear hb2)
      | (refine ⟨trivial, ?_⟩; gi_at_call 28; have hh := take_yesI (4 * y) i4 A3 n (c1 - 1 - 1) w2 HI4.out.1 HI4.out.2 (by have := HN.out.2.2.1; omega); (with_reducible refine (callsIn_wide.2 hh).mono ?_); clear hh; rintro e w3 ⟨rfl, hb3⟩; have HB3 := Aside0.mk (HB2.out.below hb3); have x3 : w3.cell? ⟨w.heap.size + 1, 0, none⟩ = some (.bool false) := (blk_cell HB3.out.2.2.1 0).trans rfl; have f3 := blk_frozen HB3.out.2.2.1 0; clear hb3)
      | (refine ⟨trivial, ?_⟩; gi_at_call 47; (with_reducible refine (callsIn_wide.2 (chunk_calls _ _ _ _)).mono ?_); rintro e w' ⟨rfl, rfl⟩))
     have hq := HQ.out
     rw [← HI4b.out] at hq
     have hin : (tl.take i4).length = i4 := by have h1 := HI4.out.2; have h2 := HN.out.1; rw [List.length_take]; omega
     have hCi : Kd.C (Kd.int .u8) w0 A3 (tl.take i4).length (tl.take i4) := Kd.C_take (by rw [← HN.out.1]; exact HC3.out) (by have h1 := HI4.out.2; have h2 := HN.out.1; omega)
     have HSG2 := Aside0.mk (show (if q.2 = true then segL K k1 q.1 (tl.drop i4) else some q) = some Q from by
      have h1 := HSG.out
      rw [← HI4b.out, Nat.add_comm 2 i4] at h1
      exact h1)
     clear HSG HQ
     obtain ⟨inn, hinn⟩ : ∃ inn, inn = tl.take i4 := ⟨_, rfl⟩
     rw [← hinn] at hq hin hCi
     have hI0 := iC_start (K := K) (Q := q) (k := n + 2 + 1) hq hin (A := A3) HB3.out
     have hW : ((w3.alloc (.cells #[.slice A3 i4 i4] 22)).alloc (.cells #[.int .i64 4] 3)).heap.size = w3.heap.size + 2 := by simp only [World.alloc, Array.size_push]
     have hmz := HB3.out.2.2.2.1.1
     have HI0 := Aside0.mk hI0
     have HIN := Aside0.mk (show inn.length = i4 ∧ inn.length < 1000000 from ⟨hin, by have h1 := HN.out.2.1; have h2 := HI4.out.2; omega⟩)
     have HCI := Aside0.mk hCi
     have HQLq := Aside0.mk (show q.1.length < 2000000 from by have h1 := (quads_len _ _ _ _ hq).2; have h2 := HAL.out; have h3 := HIN.out.2; omega)
     have h1g : g < w.heap.size := HG.out.1
     have h2g : w0.heap.size ≤ w.heap.size := HG.out.2.2
     have h3g : w.heap.size + 2 ≤ w3.heap.size := by have := blk_lt HB3.out.2.2.1; omega
     clear hI0 hq hCi hin hinn
     refine range_seq (F := Fence.wide) (n := 5) rfl (by decide) (gf := 50) (lb := #[.pointer (some ⟨w3.heap.size, 0, none⟩), .pointer (some ⟨w3.heap.size + 1, 0, none⟩)]) rfl trivial (fun args w => enters_ Try.func50 (by kernel_rfl) rfl args w) (iC K inn q w0 w g o h t w3.heap.size bs A3 i4) (iC' K inn q w0 w g o h t w3.heap.size bs A3 i4) (endC q inn w0 w g o h t w3.heap.size bs A3 i4) (xC inn w0) (finC inn) (n + 2 + 1, acc, 0) ?t1 ?t2 ?t3 ?t4 HI0.out ?round ?it ?done ?stop
     case t1 => intro s W W' h ht; rw [hW] at ht; exact ⟨h.1, h.2.turn h1g h2g h3g ht⟩
     case t2 => intro s W W' h ht; rw [hW] at ht; obtain ⟨r, h1, h2⟩ := h; exact ⟨r, h1, h2.turn h1g h2g h3g ht⟩
     case t3 => intro s W W' h ht; rw [hW] at ht; exact ⟨h.1, h.2.turn h1g h2g h3g ht⟩
     case t4 => intro s xs W W' h ht; exact h
     case it => rw [hW]; exact chunk_ok K inn q w0 w g o h t w3.heap.size bs A3 i4 h1g h2g h3g HCI.out (Nat.le_of_eq HIN.out.1) HIN.out.2 _ rfl
     case round =>
      intro l_ s xs W hI hX
      obtain ⟨hp, A5, hxs, hC5⟩ := hX
      obtain ⟨n5, hn5⟩ : ∃ n5, n5 = ((inn.drop s.2.2).take 4).length := ⟨_, rfl⟩
      rw [← hn5] at hxs hC5
      subst hxs
      have HN5a := Aside0.mk hn5
      clear hn5
      refine ⟨rfl, ?_⟩
      apply Exists.intro
      refine ⟨?_, ?_⟩
      ·
       intro K_ hK
       gi_wp2_with (rw [Oper.semAt_eq _ _ _ (fun c h => by cases h)]; go_simp; try go_bits)
       exact hK
      intro W1 hI1 hX1 hz1
      clear hI hX1 HI0
      rw [hW] at hz1 ⊢
      clear hW
      have hn5 := HN5a.out
      obtain ⟨j, acc2, p⟩ := s
      obtain ⟨⟨hqq, hpl⟩, hrest⟩ := hI1
      dsimp only at hqq hpl hrest hp hC5 hn5
      cases j with
      | zero => simp [quads] at hqq
      | succ j1 =>
      obtain ⟨r, b5, hr5⟩ := quads_some hqq hp
      obtain ⟨q5, hq5⟩ : ∃ q5, q5 = (inn.drop p).take 4 := ⟨_, rfl⟩
      have HR5b := Aside0.mk hr5
      rw [← hq5] at hC5 hr5 hn5
      have HQ5 := Aside0.mk hq5
      have HN5 := Aside0.mk hn5
      have HRC := Aside0.mk hrest
      have HC5 := Aside0.mk hC5
      have HR5 := Aside0.mk hr5
      have HQQ := Aside0.mk hqq
      have HP := Aside0.mk hp
      clear hrest hC5 hr5 hqq hp hpl hn5
      cases b5
      ·
       gi_wp2_with (first
        | (refine ⟨trivial, ?_⟩; gi_at_call 48; have hh := attr_number.calls K A5 n5 q5 r false W1 (by rw [← HN5.out]; exact Kd.C_below HC5.out HRC.out.2.2.2.2.2.2.1) (by rw [← HN5.out]; exact Nat.le_refl _) HR5.out; rw [← HN5.out] at hh; (with_reducible refine (CallsIn.inRound l_ (callsIn_wide.2 hh)).mono ?_); clear hh; rintro e w5 ⟨rfl, hb5⟩; have HB5 := Aside0.mk hb5; have HT5 := Aside0.mk (HRC.out.turn h1g h2g h3g (Turn.below hb5)); have x5 : w5.cell? ⟨w.heap.size + 1, 0, none⟩ = some (.bool false) := (blk_cell HT5.out.2.2.1 0).trans rfl; have f5 := blk_frozen HT5.out.2.2.1 0; clear hb5)
        | (rw [Oper.semAt_eq _ _ _ (fun c h => by cases h)]; go_simp; try go_bits))
       have hqe := quads_bad HQQ.out HP.out HR5b.out
       refine ⟨(Fixed.refl.below (by omega) HB5.out).set (by show w.heap.size + 1 ≠ _; omega) (by show w.heap.size + 1 ≠ _; omega) _, by rw [hqe], ?_⟩
       rw [hqe]
       exact restC.again HT5.out
      ·
       gi_wp2_with (first
        | (refine ⟨trivial, ?_⟩; gi_at_call 48; have hh := attr_number.calls K A5 n5 q5 r true W1 (by rw [← HN5.out]; exact Kd.C_below HC5.out HRC.out.2.2.2.2.2.2.1) (by rw [← HN5.out]; exact Nat.le_refl _) HR5.out; rw [← HN5.out] at hh; (with_reducible refine (CallsIn.inRound l_ (callsIn_wide.2 hh)).mono ?_); clear hh; rintro e w5 ⟨rfl, hb5⟩; have HB5 := Aside0.mk hb5; have HT5 := Aside0.mk (HRC.out.turn h1g h2g h3g (Turn.below hb5)); have x5 : w5.cell? ⟨w.heap.size + 1, 0, none⟩ = some (.bool false) := (blk_cell HT5.out.2.2.1 0).trans rfl; have f5 := blk_frozen HT5.out.2.2.1 0; clear hb5)
        | (rw [Oper.semAt_eq _ _ _ (fun c h => by cases h)]; go_simp; try go_bits))
       obtain ⟨va, hva, hvN⟩ := HT5.out.1
       have HVA := Aside0.mk hva
       have HVN := Aside0.mk hvN
       have hz5 : W1.heap.size ≤ w5.heap.size := HB5.out.size
       have hl2 : acc2.length < 2000000 := by have h1 := (quads_len _ _ _ _ HQQ.out).1; have h2 := HQLq.out; omega
       clear hva hvN
       have hzd : w5.drew.heap.size = w5.heap.size := rfl
       refine app_region (w := w) (b := w3.heap.size) _ _ _ _ _ _ _ _ _ _ _ _ _ _ _ _ _ _ _ _ _ _ _ _ _ _ _ _ _ _ _ _ _ _ _ _ _ _ _ _ _ _ _ _ _ _ _ _ _ _ _ _ _ _ _ _ _ _ _ _ _ _ _ _ _ _ _ _ h1g h3g (by omega) hl2 HT5.out.2.1 HVA.out HVN.out ?_
       intro a' v6 w6 hN6 hb6 hg6
       have HTd := HT5.out.turn h1g h2g h3g (Turn.below (below_drew (Below.refl _ _)))
       have HVNd := Kd.N_step (w1 := w5.drew) HVN.out (fun _ _ _ => rfl)
       have HF6 := (Fixed.refl.below (B0 := w3.heap.size + 2) (by omega) (below_drew HB5.out)).grown (by rw [hzd]; omega) hg6 (fun he => okR_not (HVN.out.1 _ he.symm) (.inl rfl)) (fun he => okR_not (HVN.out.1 _ he.symm) (.inr rfl))
       exact ⟨HF6.set (by show g ≠ _; omega) (by show g ≠ _; omega) _, r, HR5b.out, restC.push HG.out.1 HG.out.2.1 h3g HTd (show w5.drew.heap[g]? = _ from HVA.out) HVNd hN6 hb6 hg6⟩
     case done =>
      intro s W hF hI hD
      rw [hW] at hD
      have HZ := Aside0.mk hW
      clear HI0 hW
      obtain ⟨j, acc2, p⟩ := s
      have hqe := quads_end hI.1.1 hF
      have hnod := HB3.out.2.2.2.2.2.1
      have HA := Aside0.mk (hI.2.outA hnod h3g hD)
      have hsg := HSG2.out
      rw [hqe, if_pos rfl] at hsg
      have HS := Aside0.mk hsg
      clear hsg hI hF hD hqe hnod
      gi_wp2
      gi_roundg k1
      case measure => omega
      case rel =>
       have e1 : (tl.drop i4).length = n - i4 := by rw [List.length_drop, ← HN.out.1]
       refine ⟨addrFrom A3 (c1 - 1 - 1) i4, c1 - 1 - 1 - i4, tl.drop i4, acc2, (w3.heap.size + 2) :: bs, by rw [e1], rfl, ⟨HS.out, ?_, ?_, ?_, ?_, HA.out⟩⟩
       ·
        have h1 := Kd.C_drop (m := i4) (c := c1 - 1 - 1) (xs := tl) (by rw [← HN.out.1]; exact HC3.out) (by rw [← HN.out.1]; exact HI4.out.2) (by have h1 := HN.out.2.2.1; have h2 := HN.out.1; omega)
        exact h1
       ·
        rw [e1]; have h1 := HN.out.2.2.1; omega
       ·
        intro z hz; exact HN.out.2.2.2 z (List.mem_of_mem_drop hz)
       ·
        rw [e1]; have h1 := HN.out.2.1; omega
     case stop =>
      intro s W hX hD
      rw [hW] at hD
      have HZ := Aside0.mk hW
      clear HI0 hW
      obtain ⟨j, acc2, p⟩ := s
      have hnod := HB3.out.2.2.2.2.2.1
      have HA := Aside0.mk (hX.2.outA hnod h3g hD)
      have hsg := HSG2.out
      rw [if_neg (by rw [hX.1]; decide)] at hsg
      have HS := Aside0.mk (Option.some.inj hsg)
      have HX2 := Aside0.mk hX.1
      clear hsg hX hD hnod
      gi_wp2
      rw [HZ.out]
      exact ases_stop (bs := (w3.heap.size + 2) :: bs) Q HG.out.2.2 HG.out.1 (by rw [← HS.out, ← HX2.out]) HA.out rfl
   ·
    rw [if_pos (.inr (.inl g1))] at hsg
    have HQ := Aside0.mk (Option.some.inj hsg)
    have d1 : (x != 2) = true := by simpa using g1
    clear hsg g1 step hy0 hy1
    gi_wp2_with (first
     | (refine ⟨trivial, ?_⟩; gi_at_call 27; have hh := get1n x (y :: tl) A1 c1 (n + 1) (n + 2) wr (by rw [HN.out.1]; rfl) rfl (Kd.C_below HC.out HR.out.2.2.2.2.1) HN.out.2.2.1 HX.out.1 HX.out.2; (with_reducible refine (callsIn_wide.2 hh).mono ?_); clear hh; rintro e w1 ⟨rfl, hb1⟩; have HB1 := Aside0.mk hb1; clear hb1)
     | (refine ⟨trivial, ?_⟩; gi_at_call 27; have hh := get1n y tl (addrFrom A1 c1 1) (c1 - 1) n (n + 1) w1 HN.out.1.symm rfl (Kd.C_below HC1.out (below_step HR.out.2.2.2.2.1 HB1.out)) (by have := HN.out.2.2.1; omega) HY.out.1 HY.out.2; rw [← HA3.out] at hh; (with_reducible refine (callsIn_wide.2 hh).mono ?_); clear hh; rintro e w2 ⟨rfl, hb2⟩; have HB2 := Aside0.mk (HR.out.below (below_step HB1.out hb2)); have x2 : w2.cell? ⟨w.heap.size + 1, 0, none⟩ = some (.bool false) := (blk_cell HB2.out.2.2.1 0).trans rfl; have f2 := blk_frozen HB2.out.2.2.1 0; clear hb2))
    refine ases_end Q HG.out.2.2 HG.out.1 (by rw [← HQ.out]) HB2.out (by rw [← HQ.out]) rfl


/-- What a read leaves: the path's block, and all else as it was. -/
def RdPost (g : Nat) (w : World) (b : Bool) (o : Int) (va : Value) (h t : Int) (e : Ending) (w' : World) : Prop :=
 e = .returned (.bool b) ∧ w'.heap[g]? = some (.cells #[.int .i64 o, va, .int .i64 h, .int .i64 t] 27 (0, 0)) ∧ KeepBut w w' g none ∧ ∀ w0 : World, w0.heap.size ≤ g → Below w0.heap.size w0 w → Below w0.heap.size w0 w'
set_option maxHeartbeats 8000000 in
set_option maxRecDepth 100000 in
theorem origin_yes (g : Nat) (o : Int) (va : Value) (h t : Int) (A : Option Addr) (c : Nat) (l : List Int) (w : World) (hg : w.heap[g]? = some (.cells #[.int .i64 o, va, .int .i64 h, .int .i64 t] 27 (0, 0))) (hr : Kd.C (Kd.int .u8) w A l.length l) (x : Int) (hl : l = [x]) (hx : x ≤ 2) (hx0 : 0 ≤ x) :
  Calls Try.prog 39 #[.pointer (some ⟨g, 0, none⟩), .slice A l.length c] w (RdPost g w true x va h t) := by
 subst hl
 obtain ⟨ad, e1, x0⟩ := Kd.at_int hr (0 : Int) (by decide) (by simp)
 cases e1
 simp only [rd, Int.toNat_zero, Addr.add_zero', List.getD_cons_zero] at x0
 have y0 : w.cell? ⟨g, 0, none⟩ = some (.int .i64 o) := (blk_cell hg 0).trans rfl
 have f0 := blk_frozen hg 0
 have d1 : decide (2 < x) = false := decide_eq_false (by omega)
 have HG := Aside0.mk hg
 clear hg hr
 go_enter Try.func39, Try.ntmps39
 go_wp2
 go_ret
 exact ⟨rfl, blk_put HG.out 0 _ rfl, (KeepBut.refl w g none).set_ 0 _, fun w0 h1 h2 => set_below (g := g) (j := 0) _ h2 h1⟩
set_option maxHeartbeats 8000000 in
set_option maxRecDepth 100000 in
theorem origin_no (g : Nat) (o : Int) (va : Value) (h t : Int) (A : Option Addr) (c : Nat) (l : List Int) (w : World) (hg : w.heap[g]? = some (.cells #[.int .i64 o, va, .int .i64 h, .int .i64 t] 27 (0, 0))) (hr : Kd.C (Kd.int .u8) w A l.length l) (hl : l.length ≠ 1 ∨ ∃ x, l = [x] ∧ 2 < x) :
  Calls Try.prog 39 #[.pointer (some ⟨g, 0, none⟩), .slice A l.length c] w (RdPost g w false o va h t) := by
 rcases hl with hl | ⟨x, rfl, hx⟩
 ·
  have d1 : ((l.length : Int) != 1) = true := by simp; omega
  have d2 : ((l.length : Int) == 1) = false := by simp; omega
  have HG := Aside0.mk hg
  clear hg hr hl
  go_enter Try.func39, Try.ntmps39
  go_wp2
  go_ret
  exact ⟨rfl, HG.out, KeepBut.refl w g none, fun w0 h1 h2 => h2⟩
 ·
  obtain ⟨ad, e1, x0⟩ := Kd.at_int hr (0 : Int) (by decide) (by simp)
  cases e1
  simp only [rd, Int.toNat_zero, Addr.add_zero', List.getD_cons_zero] at x0
  have d1 : decide (2 < x) = true := decide_eq_true hx
  have HG := Aside0.mk hg
  clear hg hr hx
  go_enter Try.func39, Try.ntmps39
  go_wp2
  go_ret
  exact ⟨rfl, HG.out, KeepBut.refl w g none, fun w0 h1 h2 => h2⟩
set_option maxHeartbeats 8000000 in
set_option maxRecDepth 100000 in
theorem med_any (g : Nat) (o : Int) (va : Value) (h t : Int) (A : Option Addr) (c : Nat) (l : List Int) (w : World) (hg : w.heap[g]? = some (.cells #[.int .i64 o, va, .int .i64 h, .int .i64 t] 27 (0, 0))) :
  Calls Try.prog 42 #[.pointer (some ⟨g, 0, none⟩), .slice A l.length c] w (RdPost g w (decide (l.length = 4)) o va h t) := by
 by_cases c4 : l.length = 4
 ·
  have d1 : ((l.length : Int) == 4) = true := by simp; omega
  rw [decide_eq_true c4]
  have HG := Aside0.mk hg
  clear hg c4
  go_enter Try.func42, Try.ntmps42
  go_wp2
  go_ret
  exact ⟨rfl, HG.out, KeepBut.refl w g none, fun w0 h1 h2 => h2⟩
 ·
  have d1 : ((l.length : Int) == 4) = false := by simp; omega
  rw [decide_eq_false c4]
  have HG := Aside0.mk hg
  clear hg c4
  go_enter Try.func42, Try.ntmps42
  go_wp2
  go_ret
  exact ⟨rfl, HG.out, KeepBut.refl w g none, fun w0 h1 h2 => h2⟩
set_option maxHeartbeats 8000000 in
set_option maxRecDepth 100000 in
theorem hop_any (k g : Nat) (o : Int) (va : Value) (h t : Int) (A : Option Addr) (c : Nat) (l : List Int) (w : World) (hg : w.heap[g]? = some (.cells #[.int .i64 o, va, .int .i64 h, .int .i64 t] 27 (0, 0))) (hr : Kd.C (Kd.int .u8) w A l.length l) (hc : l.length ≤ c) (n : Int) (b : Bool) (hn : attr_number.f k l = some (n, b)) :
  Calls Try.prog 41 #[.pointer (some ⟨g, 0, none⟩), .slice A l.length c] w (RdPost g w b o va n t) := by
 have HG := Aside0.mk hg
 have HR := Aside0.mk hr
 have HC := Aside0.mk hc
 have HN := Aside0.mk hn
 clear hg hr hc hn
 go_enter Try.func41, Try.ntmps41
 go_wp2_with (first | (go_at_call 48; (with_reducible refine (attr_number.calls k A c l n b w HR.out HC.out HN.out).mono ?_); rintro e w1 ⟨rfl, hb⟩; have h1 := blk_below HG.out hb; have y0 : w1.cell? ⟨g, 2, none⟩ = some (.int .i64 h) := (blk_cell h1 2).trans rfl; have f0 := blk_frozen h1 2; have H1 := Aside0.mk h1; have HB := Aside0.mk hb; clear h1 hb))
 go_ret
 exact ⟨rfl, blk_put H1.out 2 _ rfl, (KeepBut.of_below HB.out g none).set_ 2 _, fun w0 h1 h2 => set_below (g := g) (j := 2) _ (below_step h2 HB.out) h1⟩
set_option maxHeartbeats 8000000 in
set_option maxRecDepth 100000 in
theorem otc_any (k g : Nat) (o : Int) (va : Value) (h t : Int) (A : Option Addr) (c : Nat) (l : List Int) (w : World) (hg : w.heap[g]? = some (.cells #[.int .i64 o, va, .int .i64 h, .int .i64 t] 27 (0, 0))) (hr : Kd.C (Kd.int .u8) w A l.length l) (hc : l.length ≤ c) (n : Int) (b : Bool) (hn : attr_number.f k l = some (n, b)) :
  Calls Try.prog 43 #[.pointer (some ⟨g, 0, none⟩), .slice A l.length c] w (RdPost g w b o va h n) := by
 have HG := Aside0.mk hg
 have HR := Aside0.mk hr
 have HC := Aside0.mk hc
 have HN := Aside0.mk hn
 clear hg hr hc hn
 go_enter Try.func43, Try.ntmps43
 go_wp2_with (first | (go_at_call 48; (with_reducible refine (attr_number.calls k A c l n b w HR.out HC.out HN.out).mono ?_); rintro e w1 ⟨rfl, hb⟩; have h1 := blk_below HG.out hb; have y0 : w1.cell? ⟨g, 3, none⟩ = some (.int .i64 t) := (blk_cell h1 3).trans rfl; have f0 := blk_frozen h1 3; have H1 := Aside0.mk h1; have HB := Aside0.mk hb; clear h1 hb))
 go_ret
 exact ⟨rfl, blk_put H1.out 3 _ rfl, (KeepBut.of_below HB.out g none).set_ 3 _, fun w0 h1 h2 => set_below (g := g) (j := 3) _ (below_step h2 HB.out) h1⟩
/-- What a type says: its flags, and its reader's number; 0: nothing. -/
def kindV (t : Int) : Int × Value × Bool := if t = 1 then (64, .func (.func 39) #[] #[], true) else if t = 2 then (64, .func (.func 40) #[] #[], true) else if t = 3 then (64, .func (.func 41) #[] #[], true) else if t = 4 then (128, .func (.func 42) #[] #[], true) else if t = 35 then (192, .func (.func 43) #[] #[], true) else (0, Value.nilFunc, false)
set_option maxHeartbeats 8000000 in
set_option maxRecDepth 100000 in
theorem find_any (t : Int) (w : World) :
  Calls Try.prog 35 #[.int .i64 t] w fun e w' => e = .returned (.tuple #[.agg #[.int .i64 (kindV t).1, (kindV t).2.1], .bool (kindV t).2.2]) ∧ Below w.heap.size w w' := by
 unfold kindV
 by_cases h1 : t = 1
 ·
  subst h1
  go_enter Try.func35, Try.ntmps35
  go_wp2
  exact bodyPost_ret (v := .tuple #[.agg #[.int .i64 64, .func (.func 39) #[] #[]], .bool true]) (by simp [results, Try.results35, go_sem]) rfl ⟨rfl, below_alloc (Below.refl _ _) _⟩
 by_cases h2 : t = 2
 ·
  subst h2
  go_enter Try.func35, Try.ntmps35
  go_wp2
  exact bodyPost_ret (v := .tuple #[.agg #[.int .i64 64, .func (.func 40) #[] #[]], .bool true]) (by simp [results, Try.results35, go_sem]) rfl ⟨rfl, below_alloc (Below.refl _ _) _⟩
 by_cases h3 : t = 3
 ·
  subst h3
  go_enter Try.func35, Try.ntmps35
  go_wp2
  exact bodyPost_ret (v := .tuple #[.agg #[.int .i64 64, .func (.func 41) #[] #[]], .bool true]) (by simp [results, Try.results35, go_sem]) rfl ⟨rfl, below_alloc (Below.refl _ _) _⟩
 by_cases h4 : t = 4
 ·
  subst h4
  go_enter Try.func35, Try.ntmps35
  go_wp2
  exact bodyPost_ret (v := .tuple #[.agg #[.int .i64 128, .func (.func 42) #[] #[]], .bool true]) (by simp [results, Try.results35, go_sem]) rfl ⟨rfl, below_alloc (Below.refl _ _) _⟩
 by_cases h35 : t = 35
 ·
  subst h35
  go_enter Try.func35, Try.ntmps35
  go_wp2
  exact bodyPost_ret (v := .tuple #[.agg #[.int .i64 192, .func (.func 43) #[] #[]], .bool true]) (by simp [results, Try.results35, go_sem]) rfl ⟨rfl, below_alloc (Below.refl _ _) _⟩
 rw [if_neg h1]
 rw [if_neg h2]
 rw [if_neg h3]
 rw [if_neg h4]
 rw [if_neg h35]
 have d1 : (t == 1) = false := by simp [h1]
 have d2 : (t == 2) = false := by simp [h2]
 have d3 : (t == 3) = false := by simp [h3]
 have d4 : (t == 4) = false := by simp [h4]
 have d35 : (t == 35) = false := by simp [h35]
 clear h1 h2 h3 h4 h35
 go_enter Try.func35, Try.ntmps35
 go_wp2
 exact bodyPost_ret (v := .tuple #[.agg #[.int .i64 0, Value.nilFunc], .bool false]) (by simp [results, Try.results35, go_sem]) rfl ⟨rfl, below_alloc (Below.refl _ _) _⟩

/-- A path as what it holds. -/
abbrev Pth := Int × List Int × Int × Int
abbrev JR := Int × List Int × Int × Int × Int × Int × Int × List Int
def octB (l : List Int) : Bool := l.all (fun x => decide (0 ≤ x) && decide (x < 256)) && decide (l.length < 1000000)
def kindB (t : Int) : Bool := t == 1 || t == 2 || t == 3 || t == 4 || t == 35
def rdF (K : Nat) (t : Int) (p : Pth) (d : List Int) : Option (Pth × Bool) :=
 if t = 1 then some (if d.length = 1 ∧ d.getD 0 0 ≤ 2 then ((d.getD 0 0, p.2), true) else (p, false))
 else if t = 2 then (segL K (d.length + 1) [] d).bind fun q => some ((p.1, q.1, p.2.2), q.2)
 else if t = 3 then (attr_number.f K d).bind fun q => some ((p.1, p.2.1, q.1, p.2.2.2), q.2)
 else if t = 4 then some (p, decide (d.length = 4))
 else (attr_number.f K d).bind fun q => some ((p.1, p.2.1, p.2.2.1, q.1), q.2)
def flagV (t : Int) : Int := if t = 4 then 128 else if t = 35 then 192 else 64
def judgeL (K : Nat) : List S24 → List Int → Pth → Bool → Option JR
 | [], seen, p, sp => some (if sp = true ∨ 1 ∉ seen ∨ 2 ∉ seen ∨ 3 ∉ seen then (0, [], 0, 0, 1, 0, 0, []) else (p.1, p.2.1, p.2.2.1, p.2.2.2, 0, 0, 0, []))
 | a :: l, seen, p, sp =>
  if a.f1 ∈ seen ∨ (5 ≤ a.f1 ∧ a.f1 ≤ 7) then judgeL K l (a.f1 :: seen) p sp
  else if kindB a.f1 = true then
   (if Go.bits .and .i64 a.f0 192 ≠ flagV a.f1 then judgeL K l (a.f1 :: seen) p true
    else (rdF K a.f1 p a.f2).bind fun r => judgeL K l (a.f1 :: seen) r.1 (if r.2 = true then sp else true))
  else if Go.bits .and .i64 a.f0 128 = 0 then (attr_Put.f K [] a.f0 a.f1 a.f2).bind fun b => some (0, [], 0, 0, 2, 3, 2, b)
  else judgeL K l (a.f1 :: seen) p sp
theorem octB_mem {l : List Int} (h : octB l = true) : ∀ x ∈ l, 0 ≤ x ∧ x < 256 := by
 simp only [octB, Bool.and_eq_true, List.all_eq_true, decide_eq_true_eq] at h
 exact h.1
theorem octB_len {l : List Int} (h : octB l = true) : l.length < 1000000 := by
 simp only [octB, Bool.and_eq_true, decide_eq_true_eq] at h
 exact h.2
theorem judgeL_cons (K : Nat) (f0 f1 : Int) (f2 : List Int) (l : List S24) (seen : List Int) (p : Pth) (sp : Bool) : judgeL K (⟨f0, f1, f2⟩ :: l) seen p sp = (if f1 ∈ seen ∨ (5 ≤ f1 ∧ f1 ≤ 7) then judgeL K l (f1 :: seen) p sp
  else if kindB f1 = true then
   (if Go.bits .and .i64 f0 192 ≠ flagV f1 then judgeL K l (f1 :: seen) p true
    else (rdF K f1 p f2).bind fun r => judgeL K l (f1 :: seen) r.1 (if r.2 = true then sp else true))
  else if Go.bits .and .i64 f0 128 = 0 then (attr_Put.f K [] f0 f1 f2).bind fun b => some (0, [], 0, 0, 2, 3, 2, b)
  else judgeL K l (f1 :: seen) p sp) := rfl
theorem kindV_cases (t : Int) : (∃ n, kindV t = (flagV t, .func (.func n) #[] #[], true) ∧ kindB t = true) ∨ (kindV t = (0, Value.nilFunc, false) ∧ kindB t = false) := by
 unfold kindV kindB flagV
 by_cases h1 : t = 1
 ·
  subst h1; exact .inl ⟨_, rfl, rfl⟩
 by_cases h2 : t = 2
 ·
  subst h2; exact .inl ⟨_, rfl, rfl⟩
 by_cases h3 : t = 3
 ·
  subst h3; exact .inl ⟨_, rfl, rfl⟩
 by_cases h4 : t = 4
 ·
  subst h4; exact .inl ⟨_, rfl, rfl⟩
 by_cases h35 : t = 35
 ·
  subst h35; exact .inl ⟨_, rfl, rfl⟩
 exact .inr ⟨by rw [if_neg h1, if_neg h2, if_neg h3, if_neg h4, if_neg h35], by simp [h1, h2, h3, h4, h35]⟩
def JSt (w : World) (p : Pth) (seen : List Int) (W : World) : Prop :=
 W.heap[w.heap.size]? = some (.cells #[.int .i64 0, .slice none 0 0, .int .i64 0, .int .i64 0] 27 (0, 0)) ∧
 W.heap[w.heap.size + 1]? = some (.cells #[.int .i64 0, .int .i64 0, .slice none 0 0] 41 (0, 0)) ∧
 (∃ va, W.heap[w.heap.size + 2]? = some (.cells #[.int .i64 p.1, va, .int .i64 p.2.2.1, .int .i64 p.2.2.2] 27 (0, 0)) ∧ Kd.N (Kd.int .i64) 3 W w.heap.size (fun k => w.heap.size + 4 ≤ k) va p.2.1 ∧ (2 ∉ seen → va = .slice none 0 0)) ∧
 SeenI Try.prog W (w.heap.size + 3) seen.length (fun t => (seen.count t : Int)) ∧ Below w.heap.size w W
theorem JSt.below {w : World} {p : Pth} {seen : List Int} {W W' : World} (h : JSt w p seen W) (hb : Below W.heap.size W W') : JSt w p seen W' := by
 obtain ⟨h1, h2, ⟨va, h3, h4, h5⟩, h6, h7⟩ := h
 exact ⟨blk_below h1 hb, blk_below h2 hb, ⟨va, blk_below h3 hb, Kd.N_below h4 hb, h5⟩, h6.below hb, below_step h7 hb⟩
theorem JSt.put {w : World} {p : Pth} {seen : List Int} {W W' : World} {t v : Int} (h : JSt w p seen W) (hs : SeenI Try.prog W' (w.heap.size + 3) (seen.length + 1) (fun u => if u = t then v else (seen.count u : Int))) (hv : v = (seen.count t : Int) + 1) (hg : W.grownBy W' (some (w.heap.size + 3))) : JSt w p (t :: seen) W' := by
 obtain ⟨h1, h2, ⟨va, h3, h4, h5⟩, h6, h7⟩ := h
 have hk : ∀ i o, W.heap[i]? = some o → i ≠ w.heap.size + 3 → W'.heap[i]? = some o := fun i o hi hn => (hg.block i (blk_lt hi) (fun e => hn (Option.some.inj e))).trans hi
 refine ⟨hk _ _ h1 (by omega), hk _ _ h2 (by omega), ⟨va, hk _ _ h3 (by omega), Kd.N_step h4 (fun k hk' hl => hg.block k hl (fun e => by have := Option.some.inj e; omega)), fun hn => h5 (fun hm => hn (List.mem_cons_of_mem _ hm))⟩, ?_, ?_⟩
 ·
  have e : (fun u : Int => ((t :: seen).count u : Int)) = fun u => if u = t then v else (seen.count u : Int) := by
   funext u
   rw [List.count_cons]
   by_cases c : u = t
   ·
    subst c; simp [hv]
   ·
    rw [if_neg c, if_neg (by simpa using fun e : t = u => c e.symm)]; simp
  rw [e]
  exact hs
 ·
  exact h7.grown hg h7.size (fun k e => by have := Option.some.inj e; omega)
theorem JSt.read {w : World} {p : Pth} {seen : List Int} {W W' : World} {o h_ t_ : Int} {va : Value} (h : JSt w p seen W) (hv : W.heap[w.heap.size + 2]? = some (.cells #[.int .i64 p.1, va, .int .i64 p.2.2.1, .int .i64 p.2.2.2] 27 (0, 0))) (hv' : W'.heap[w.heap.size + 2]? = some (.cells #[.int .i64 o, va, .int .i64 h_, .int .i64 t_] 27 (0, 0))) (hk : KeepBut W W' (w.heap.size + 2) none) (hb : Below w.heap.size w W') : JSt w (o, p.2.1, h_, t_) seen W' := by
 obtain ⟨h1, h2, ⟨va0, h3, h4, h5⟩, h6, h7⟩ := h
 have e : va0 = va := by
  have := h3.symm.trans hv
  injection this with this
  injection this with this
  have := congrArg (fun a : Array Value => a.toList) this
  simpa using this
 subst e
 have hkk : ∀ i o, W.heap[i]? = some o → i ≠ w.heap.size + 2 → W'.heap[i]? = some o := fun i o hi hn => (hk.2 i (blk_lt hi) hn (by simp)).trans hi
 exact ⟨hkk _ _ h1 (by omega), hkk _ _ h2 (by omega), ⟨va0, hv', Kd.N_step h4 (fun k hk' hl => hk.2 k hl (by omega) (by simp)), h5⟩, h6.step (hk.2 _ h6.lt (by omega) (by simp)), hb⟩
theorem JSt.ases {w : World} {p : Pth} {seen : List Int} {W W' : World} {Q : List Int × Bool} {e : Ending} (h : JSt w p seen W) (h2s : 2 ∈ seen) (hp : AsPost w W (w.heap.size + 2) p.1 p.2.2.1 p.2.2.2 Q e W') : JSt w (p.1, Q.1, p.2.2) seen W' := by
 obtain ⟨h1, h2, ⟨va, h3, h4, h5⟩, h6, h7⟩ := h
 obtain ⟨-, va', k1, k2, hk, hb⟩ := hp
 have hkk : ∀ i o, W.heap[i]? = some o → i ≠ w.heap.size + 2 → W'.heap[i]? = some o := fun i o hi hn => (hk.2 i (blk_lt hi) hn (by simp)).trans hi
 have hz : w.heap.size + 4 ≤ W.heap.size := h6.lt
 refine ⟨hkk _ _ h1 (by omega), hkk _ _ h2 (by omega), ⟨va', k1, ?_, fun hn => absurd h2s hn⟩, h6.step (hk.2 _ h6.lt (by omega) (by simp)), hb⟩
 exact Kd.N_lower (Kd.N_mono k2 (fun k hk => by omega)) h7.size
theorem JSt.start (w : World) : JSt w (0, [], 0, 0) [] ((((w.alloc (.cells #[.int .i64 0, .slice none 0 0, .int .i64 0, .int .i64 0] 27)).alloc (.cells #[.int .i64 0, .int .i64 0, .slice none 0 0] 41)).alloc (.cells #[.int .i64 0, .slice none 0 0, .int .i64 0, .int .i64 0] 27)).alloc (.map #[] 0)) := by
 have hb : Below w.heap.size w ((((w.alloc (.cells #[.int .i64 0, .slice none 0 0, .int .i64 0, .int .i64 0] 27)).alloc (.cells #[.int .i64 0, .int .i64 0, .slice none 0 0] 41)).alloc (.cells #[.int .i64 0, .slice none 0 0, .int .i64 0, .int .i64 0] 27)).alloc (.map #[] 0)) := below_alloc (below_alloc (below_alloc (below_alloc (Below.refl _ _) _) _) _) _
 have z1 : ∀ o, (w.alloc o).heap.size = w.heap.size + 1 := fun o => World.size_alloc w o
 have h2 := heap_alloc_new (w.alloc (.cells #[.int .i64 0, .slice none 0 0, .int .i64 0, .int .i64 0] 27)) (.cells #[.int .i64 0, .int .i64 0, .slice none 0 0] 41)
 rw [World.size_alloc] at h2
 have h3 := heap_alloc_new ((w.alloc (.cells #[.int .i64 0, .slice none 0 0, .int .i64 0, .int .i64 0] 27)).alloc (.cells #[.int .i64 0, .int .i64 0, .slice none 0 0] 41)) (.cells #[.int .i64 0, .slice none 0 0, .int .i64 0, .int .i64 0] 27)
 rw [World.size_alloc, World.size_alloc] at h3
 have h4 := SeenI.made (P := Try.prog) (((w.alloc (.cells #[.int .i64 0, .slice none 0 0, .int .i64 0, .int .i64 0] 27)).alloc (.cells #[.int .i64 0, .int .i64 0, .slice none 0 0] 41)).alloc (.cells #[.int .i64 0, .slice none 0 0, .int .i64 0, .int .i64 0] 27))
 rw [World.size_alloc, World.size_alloc, World.size_alloc] at h4
 exact ⟨blk_alloc (blk_alloc (blk_alloc (heap_alloc_new w _) _) _) _, blk_alloc (blk_alloc h2 _) _, ⟨_, blk_alloc h3 _, Kd.N_nil _ _ _ _ _, fun _ => rfl⟩, h4, hb⟩
def JPost (w : World) (R : JR) (e : Ending) (w' : World) : Prop :=
 ∃ v1 v7 : Value, e = .returned (.tuple #[.agg #[.int .i64 R.1, v1, .int .i64 R.2.2.1, .int .i64 R.2.2.2.1], .int .i64 R.2.2.2.2.1, .agg #[.int .i64 R.2.2.2.2.2.1, .int .i64 R.2.2.2.2.2.2.1, v7]]) ∧
  Kd.V (Kd.int .i64) 3 w' w.heap.size (fun k_ => w.heap.size ≤ k_) v1 R.2.1 ∧ Kd.V (Kd.int .u8) 5 w' w.heap.size (fun k_ => w.heap.size ≤ k_) v7 R.2.2.2.2.2.2.2 ∧ Below w.heap.size w w'
theorem lit_wf {t : Int} (h : -9223372036854775808 ≤ t ∧ t ≤ 9223372036854775807) : (Lit.int .i64 t).wf = true := by
 simp [Lit.wf, IntKind.min, IntKind.max, IntKind.bits, IntKind.signed]
 omega
theorem judge_puts {w W : World} {a b c d e f g : Value} (hb : Below w.heap.size w W) (h0 : W.heap[w.heap.size]? = some (.cells #[a, b, c, d] 27 (0, 0))) (h1 : W.heap[w.heap.size + 1]? = some (.cells #[e, f, g] 41 (0, 0))) (o va h_ t_ cc ss v7 : Value) {W' : World}
  (hW : W' = ((((((W.setCell ⟨w.heap.size, 0, none⟩ o).setCell ⟨w.heap.size, 1, none⟩ va).setCell ⟨w.heap.size, 2, none⟩ h_).setCell ⟨w.heap.size, 3, none⟩ t_).setCell ⟨w.heap.size + 1, 0, none⟩ cc).setCell ⟨w.heap.size + 1, 1, none⟩ ss).setCell ⟨w.heap.size + 1, 2, none⟩ v7) :
  W'.heap[w.heap.size]? = some (.cells #[o, va, h_, t_] 27 (0, 0)) ∧ W'.heap[w.heap.size + 1]? = some (.cells #[cc, ss, v7] 41 (0, 0)) ∧ (∀ k, k ≠ w.heap.size → k ≠ w.heap.size + 1 → W'.heap[k]? = W.heap[k]?) ∧ Below w.heap.size w W' := by
 subst hW
 have hs : ∀ (W : World) (k j : Nat) (i : Nat) (v : Value), i ≠ k → (W.setCell ⟨k, j, none⟩ v).heap[i]? = W.heap[i]? := fun W k j i v h => Below.heap_setCell W ⟨k, j, none⟩ v i h
 refine ⟨?_, ?_, fun k k1 k2 => ?_, ?_⟩
 ·
  rw [hs _ _ _ _ _ (by omega), hs _ _ _ _ _ (by omega), hs _ _ _ _ _ (by omega)]
  exact blk_put (blk_put (blk_put (blk_put h0 0 _ rfl) 1 _ rfl) 2 _ rfl) 3 _ rfl
 ·
  refine blk_put (blk_put (blk_put (cs := #[e, f, g]) ?_ 0 _ rfl) 1 _ rfl) 2 _ rfl
  rw [hs _ _ _ _ _ (by omega), hs _ _ _ _ _ (by omega), hs _ _ _ _ _ (by omega), hs _ _ _ _ _ (by omega)]
  exact h1
 ·
  rw [hs _ _ _ _ _ (by omega), hs _ _ _ _ _ (by omega), hs _ _ _ _ _ (by omega), hs _ _ _ _ _ (by omega), hs _ _ _ _ _ (by omega), hs _ _ _ _ _ (by omega), hs _ _ _ _ _ (by omega)]
 ·
  exact set_below _ (set_below _ (set_below _ (set_below _ (set_below _ (set_below _ (set_below _ hb (by omega)) (by omega)) (by omega)) (by omega)) (by omega)) (by omega)) (by omega)
theorem judge_end {w W : World} {tmps : Array Value} {A A7 : Option Addr} {n c n7 c7 : Nat} {o h_ t_ v_ cc ss : Int} {as_ dd : List Int}
  (p1 : W.heap[w.heap.size]? = some (.cells #[.int .i64 o, .slice A n c, .int .i64 h_, .int .i64 t_] 27 (0, 0))) (p2 : W.heap[w.heap.size + 1]? = some (.cells #[.int .i64 cc, .int .i64 ss, .slice A7 n7 c7] 41 (0, 0)))
  (t2 : tmps[2]?.getD undef = .pointer (some ⟨w.heap.size, 0, none⟩)) (t3 : tmps[3]?.getD undef = .int .i64 v_) (t4 : tmps[4]?.getD undef = .pointer (some ⟨w.heap.size + 1, 0, none⟩))
  (hv : Kd.V (Kd.int .i64) 3 W w.heap.size (fun k_ => w.heap.size ≤ k_) (.slice A n c) as_) (hv7 : Kd.V (Kd.int .u8) 5 W w.heap.size (fun k_ => w.heap.size ≤ k_) (.slice A7 n7 c7) dd) (hb : Below w.heap.size w W) :
  bodyPost Try.prog Try.f23 (JPost w (o, as_, h_, t_, v_, cc, ss, dd)) Exit.ret { tmps := tmps, defers := [] } W := by
 have x0 : W.cell? ⟨w.heap.size, 0, none⟩ = some (.int .i64 o) := (blk_cell p1 0).trans rfl
 have x1 : W.cell? ⟨w.heap.size, 1, none⟩ = some (.slice A n c) := (blk_cell p1 1).trans rfl
 have x2 : W.cell? ⟨w.heap.size, 2, none⟩ = some (.int .i64 h_) := (blk_cell p1 2).trans rfl
 have x3 : W.cell? ⟨w.heap.size, 3, none⟩ = some (.int .i64 t_) := (blk_cell p1 3).trans rfl
 have y0 : W.cell? ⟨w.heap.size + 1, 0, none⟩ = some (.int .i64 cc) := (blk_cell p2 0).trans rfl
 have y1 : W.cell? ⟨w.heap.size + 1, 1, none⟩ = some (.int .i64 ss) := (blk_cell p2 1).trans rfl
 have y2 : W.cell? ⟨w.heap.size + 1, 2, none⟩ = some (.slice A7 n7 c7) := (blk_cell p2 2).trans rfl
 refine bodyPost_ret (v := .tuple #[.agg #[.int .i64 o, .slice A n c, .int .i64 h_, .int .i64 t_], .int .i64 v_, .agg #[.int .i64 cc, .int .i64 ss, .slice A7 n7 c7]]) ?_ rfl ⟨.slice A n c, .slice A7 n7 c7, rfl, hv, hv7, hb⟩
 simp [results, Try.results23, go_sem, t2, t3, t4, x0, x1, x2, x3, y0, y1, y2]
def spI (b : Bool) : Int := if b = true then 1 else 0
set_option maxHeartbeats 8000000 in
set_option maxRecDepth 100000 in
theorem judge_any (A : Option Addr) (c : Nat) (l : List S24) (w : World) (R : JR) (hr : Kd.C k24 w A l.length l) (hc : l.length ≤ c) (hO : ∀ a ∈ l, octB a.f2 = true ∧ (-9223372036854775808 ≤ a.f1 ∧ a.f1 ≤ 9223372036854775807)) (hl : l.length < 1000000) (h : judgeL 100 l [] (0, [], 0, 0) false = some R) :
  Calls Try.prog 23 #[.slice A l.length c] w (JPost w R) := by
 have HR := Aside0.mk hr
 have HO := Aside0.mk hO
 have HL := Aside0.mk hl
 have H0 := Aside0.mk (show 0 + l.length = l.length ∧ ([] : List Int).length = 0 ∧ judgeL 100 (l.drop 0) [] (0, [], 0, 0) false = some R ∧ JSt w (0, [], 0, 0) [] _ from ⟨Nat.zero_add _, rfl, h, JSt.start w⟩)
 have hmk : ∀ W : World, (Instr.makeMap 58 none).run Try.prog W = .ok (.map (some W.heap.size)) (W.alloc (.map #[] 0)) := fun _ => rfl
 clear hr hO hl h
 go_enter Try.func23, Try.ntmps23
 go_wp2
 go_loopg [7, 15] l.length (fun kq v7 v15 w' => ∃ (i : Nat) (sp : Bool) (seen : List Int) (p : Pth), v7 = .int .i64 (spI sp) ∧ v15 = .int .i64 (i : Int) ∧ Aside0 (i + kq = l.length ∧ seen.length = i ∧ judgeL 100 (l.drop i) seen p sp = some R ∧ JSt w p seen w'))
 case atStart => exact ⟨0, false, [], (0, [], 0, 0), rfl, rfl, H0⟩
 case round =>
  clear H0
  obtain ⟨i, sp, seen, p, rfl, rfl, HI⟩ := hrel
  obtain ⟨hik, hsl, hj, hst⟩ := HI.out
  have hl := HL.out
  by_cases c1 : i < l.length
  ·
   have d1 : decide (i < l.length) = true := decide_eq_true c1
   have hlen : (i : Int) < (l.length : Int) := by omega
   cases gk with
   | zero => omega
   | succ k1 =>
   obtain ⟨ad, A2, c2, e, x0, x1, x2, hl2, hi2⟩ := at_T24 HR.out (i : Int) (by omega) (by omega)
   replace x0 := cB hst.2.2.2.2 x0
   replace x1 := cB hst.2.2.2.2 x1
   replace x2 := cB hst.2.2.2.2 x2
   subst e
   have hdrop := List.drop_eq_getElem_cons c1
   have hrd : rd_T24 l (i : Int) = l[i] := by simp [rd_T24, c1]
   rw [hrd] at x0 x1 x2 hl2 hi2
   obtain ⟨hO1, hO2⟩ := HO.out l[i] (List.getElem_mem c1)
   rw [hdrop] at hj
   obtain ⟨a, ha⟩ : ∃ a, a = l[i] := ⟨_, rfl⟩
   rw [← ha] at x0 x1 x2 hl2 hi2 hO1 hO2 hj
   obtain ⟨fl, ty, d⟩ := a
   dsimp only at x0 x1 x2 hl2 hi2 hO1 hO2
   simp only [Int.toNat_natCast] at x0 x1 x2
   have hz3 : w.heap.size + 4 ≤ wr.heap.size := hst.2.2.2.1.lt
   have HJ := Aside0.mk hj
   have HST := Aside0.mk hst
   have HI2 := Aside0.mk hi2
   have HL2 := Aside0.mk hl2
   have HOA := Aside0.mk (And.intro hO1 hO2)
   have HIK := Aside0.mk hik
   have HSL := Aside0.mk hsl
   have ib : (i : Int) ≤ 1000000 := by omega
   clear hj hst hi2 hl2 hO1 hO2 ha hrd hdrop hik hsl HI hl
   obtain ⟨cn, hcn⟩ : ∃ cn : Nat, cn = seen.count ty := ⟨_, rfl⟩
   have hwf : (Lit.int .i64 ty).wf = true := lit_wf HOA.out.2
   have cb : (cn : Int) ≤ 1000000 := by have h1 := List.count_le_length (a := ty) (l := seen); have h2 := HSL.out; omega
   have hwf2 : (Lit.int .i64 ((cn : Int) + 1)).wf = true := lit_wf (by omega)
   have HS6 := HST.out.2.2.2.1.alloc (.cells #[.int .i64 fl, .int .i64 ty, .slice A2 d.length c2] 24)
   have hlk : (Instr.lookup 58 (.map (some (w.heap.size + 1 + 1 + 1))) (.int .i64 ty) false).run Try.prog (wr.alloc (.cells #[.int .i64 fl, .int .i64 ty, .slice A2 d.length c2] 24)) = .ok (.int .i64 (cn : Int)) (wr.alloc (.cells #[.int .i64 fl, .int .i64 ty, .slice A2 d.length c2] 24)) := by
    rw [hcn]
    exact HS6.look rfl rfl rfl hwf
   obtain ⟨w7, hput0, hs7, hg7⟩ := HS6.put (T := 58) rfl rfl (by have h2 := HSL.out; simp only [maxLen]; omega) hwf hwf2
   have hput : (Instr.mapUpdate 58 (.map (some (w.heap.size + 1 + 1 + 1))) (.int .i64 ty) (.int .i64 ((cn : Int) + 1))).run Try.prog (wr.alloc (.cells #[.int .i64 fl, .int .i64 ty, .slice A2 d.length c2] 24)) = .ok () w7 := hput0
   have hz7 : w7.heap[wr.heap.size]? = some (.cells #[.int .i64 fl, .int .i64 ty, .slice A2 d.length c2] 24 (0, 0)) := (hg7.block wr.heap.size (by rw [World.size_alloc]; omega) (fun e => by have := Option.some.inj e; omega)).trans (heap_alloc_new wr _)
   have HST7 := Aside0.mk ((HST.out.below (below_alloc (Below.refl _ _) (.cells #[.int .i64 fl, .int .i64 ty, .slice A2 d.length c2] 24))).put hs7 (by rw [hcn]) hg7)
   obtain ⟨va, hva0, hvN0, hv2⟩ := HST.out.2.2.1
   have HP7 := Aside0.mk (show w7.heap[w.heap.size + 2]? = _ from (hg7.block (w.heap.size + 2) (by rw [World.size_alloc]; omega) (fun e => by have := Option.some.inj e; omega)).trans (blk_alloc hva0 _))
   have HV2 := Aside0.mk hv2
   clear hva0 hvN0 hv2
   have y0 : w7.cell? ⟨wr.heap.size, 0, none⟩ = some (.int .i64 fl) := (blk_cell hz7 0).trans rfl
   have y1 : w7.cell? ⟨wr.heap.size, 1, none⟩ = some (.int .i64 ty) := (blk_cell hz7 1).trans rfl
   have y2 : w7.cell? ⟨wr.heap.size, 2, none⟩ = some (.slice A2 d.length c2) := (blk_cell hz7 2).trans rfl
   have HZ7 := Aside0.mk hz7
   have HCN := Aside0.mk hcn
   clear hput0 hs7 hg7 hz7 HS6 hcn
   by_cases m1 : ty ∈ seen
   ·
    have HJ2 := Aside0.mk (show judgeL 100 (l.drop (i + 1)) (ty :: seen) p sp = some R from by have h1 := HJ.out; rw [judgeL_cons, if_pos (.inl m1)] at h1; exact h1)
    have cpos : (1 : Int) ≤ (cn : Int) := by have h1 := List.count_pos_iff.2 m1; rw [← HCN.out] at h1; omega
    have e1 : decide ((1 : Int) < (cn : Int) + 1) = true := decide_eq_true (by omega)
    clear m1
    rcases kindV_cases ty with ⟨nf, hkk, hkb⟩ | ⟨hkk, hkb⟩
    ·
     obtain ⟨kf, hkf⟩ : ∃ kf, kf = flagV ty := ⟨_, rfl⟩
     rw [← hkf] at hkk
     have HKK := Aside0.mk hkk
     clear hkk hkb hkf
     go_wp2_with (first
      | (go_at_call 35; have hh := find_any ty w7; rw [HKK.out] at hh; dsimp only at hh; (with_reducible refine hh.mono ?_); clear hh; rintro e w8 ⟨rfl, hb8⟩; have HST8 := Aside0.mk (HST7.out.below hb8); have HZ8 := Aside0.mk (blk_below HZ7.out hb8); have u0 : w8.cell? ⟨wr.heap.size, 0, none⟩ = some (.int .i64 fl) := (blk_cell HZ8.out 0).trans rfl; have u1 : w8.cell? ⟨wr.heap.size, 1, none⟩ = some (.int .i64 ty) := (blk_cell HZ8.out 1).trans rfl; have u2 : w8.cell? ⟨wr.heap.size, 2, none⟩ = some (.slice A2 d.length c2) := (blk_cell HZ8.out 2).trans rfl; have hlk8 : (Instr.lookup 58 (.map (some (w.heap.size + 1 + 1 + 1))) (.int .i64 ty) false).run Try.prog (w8.alloc (.cells #[.int .i64 kf, .func (.func nf) #[] #[]] 61)) = .ok (.int .i64 ((cn : Int) + 1)) (w8.alloc (.cells #[.int .i64 kf, .func (.func nf) #[] #[]] 61)) := (by have hq := (HST8.out.2.2.2.1.alloc (.cells #[.int .i64 kf, .func (.func nf) #[] #[]] 61)).look (T := 58) rfl rfl rfl hwf; rw [List.count_cons_self, ← HCN.out, Int.natCast_add] at hq; exact hq); have hz8 : wr.heap.size < w8.heap.size := blk_lt HZ8.out; clear hb8))
     go_roundg k1
     case measure => omega
     case rel =>
      refine ⟨i + 1, sp, ty :: seen, p, rfl, by rw [Int.natCast_add]; rfl, ⟨by have := HIK.out; omega, by have := HSL.out; simp only [List.length_cons]; omega, ?_, (HST8.out.below (below_alloc (Below.refl _ _) _))⟩⟩
      exact HJ2.out
    ·
     have HKK := Aside0.mk hkk
     clear hkk hkb
     go_wp2_with (first
      | (go_at_call 35; have hh := find_any ty w7; rw [HKK.out] at hh; dsimp only at hh; (with_reducible refine hh.mono ?_); clear hh; rintro e w8 ⟨rfl, hb8⟩; have HST8 := Aside0.mk (HST7.out.below hb8); have HZ8 := Aside0.mk (blk_below HZ7.out hb8); have u0 : w8.cell? ⟨wr.heap.size, 0, none⟩ = some (.int .i64 fl) := (blk_cell HZ8.out 0).trans rfl; have u1 : w8.cell? ⟨wr.heap.size, 1, none⟩ = some (.int .i64 ty) := (blk_cell HZ8.out 1).trans rfl; have u2 : w8.cell? ⟨wr.heap.size, 2, none⟩ = some (.slice A2 d.length c2) := (blk_cell HZ8.out 2).trans rfl; have hlk8 : (Instr.lookup 58 (.map (some (w.heap.size + 1 + 1 + 1))) (.int .i64 ty) false).run Try.prog (w8.alloc (.cells #[.int .i64 0, Value.nilFunc] 61)) = .ok (.int .i64 ((cn : Int) + 1)) (w8.alloc (.cells #[.int .i64 0, Value.nilFunc] 61)) := (by have hq := (HST8.out.2.2.2.1.alloc (.cells #[.int .i64 0, Value.nilFunc] 61)).look (T := 58) rfl rfl rfl hwf; rw [List.count_cons_self, ← HCN.out, Int.natCast_add] at hq; exact hq); have hz8 : wr.heap.size < w8.heap.size := blk_lt HZ8.out; clear hb8))
     go_roundg k1
     case measure => omega
     case rel =>
      refine ⟨i + 1, sp, ty :: seen, p, rfl, by rw [Int.natCast_add]; rfl, ⟨by have := HIK.out; omega, by have := HSL.out; simp only [List.length_cons]; omega, ?_, (HST8.out.below (below_alloc (Below.refl _ _) _))⟩⟩
      exact HJ2.out
   have cz : (cn : Int) = 0 := by have h1 := List.count_eq_zero.2 m1; rw [← HCN.out] at h1; omega
   have e1 : decide ((1 : Int) < (cn : Int) + 1) = false := decide_eq_false (by omega)
   have M1 := Aside0.mk m1
   clear m1 cz
   by_cases t1 : ty = 1
   ·
    subst t1
    have HKK := Aside0.mk (show kindV 1 = (64, .func (.func 39) #[] #[], true) from rfl)
    by_cases f1 : Go.bits .and .i64 fl 192 = 64
    ·
     have f2 : (Go.bits .and .i64 fl 192 != 64) = false := by simp [f1]
     have F1 := Aside0.mk f1
     clear f1
     by_cases r1 : d.length = 1 ∧ d.getD 0 0 ≤ 2
     ·
      have HJ2 := Aside0.mk (show judgeL 100 (l.drop (i + 1)) (1 :: seen) (d.getD 0 0, p.2) sp = some R from by have h1 := HJ.out; rw [judgeL_cons, if_neg (by intro h; rcases h with h | h; exact M1.out h; omega), if_pos (show kindB 1 = true from rfl), if_neg (by simpa [flagV] using F1.out), show rdF 100 1 p d = some ((d.getD 0 0, p.2), true) from by rw [rdF, if_pos rfl, if_pos r1], Option.bind_some] at h1; exact h1)
      obtain ⟨x, hx⟩ : ∃ x, d = [x] := List.length_eq_one_iff.1 r1.1
      have r2 : x ≤ 2 := by have h := r1.2; rw [hx] at h; exact h
      have r3 : 0 ≤ x := by have h := octB_mem HOA.out.1 x (by rw [hx]; simp); exact h.1
      rw [hx] at HJ2
      have R23 := Aside0.mk (And.intro r2 (And.intro r3 hx))
      clear r1 r2 r3 hx
      have he : ∀ args w, (callFunc 39 args).run Try.prog w = .ok (.enter 39 args) w := fun args w => enters_ Try.func39 (by kernel_rfl) rfl args w
      go_wp2_with (first
       | (go_at_call 35; have hh := find_any 1 w7; rw [HKK.out] at hh; dsimp only at hh; (with_reducible refine hh.mono ?_); clear hh; rintro e w8 ⟨rfl, hb8⟩; have HST8 := Aside0.mk (HST7.out.below hb8); have HZ8 := Aside0.mk (blk_below HZ7.out hb8); have u0 : w8.cell? ⟨wr.heap.size, 0, none⟩ = some (.int .i64 fl) := (blk_cell HZ8.out 0).trans rfl; have u1 : w8.cell? ⟨wr.heap.size, 1, none⟩ = some (.int .i64 1) := (blk_cell HZ8.out 1).trans rfl; have u2 : w8.cell? ⟨wr.heap.size, 2, none⟩ = some (.slice A2 d.length c2) := (blk_cell HZ8.out 2).trans rfl; have hlk8 : (Instr.lookup 58 (.map (some (w.heap.size + 1 + 1 + 1))) (.int .i64 1) false).run Try.prog (w8.alloc (.cells #[.int .i64 64, .func (.func 39) #[] #[]] 61)) = .ok (.int .i64 ((cn : Int) + 1)) (w8.alloc (.cells #[.int .i64 64, .func (.func 39) #[] #[]] 61)) := (by have hq := (HST8.out.2.2.2.1.alloc (.cells #[.int .i64 64, .func (.func 39) #[] #[]] 61)).look (T := 58) rfl rfl rfl hwf; rw [List.count_cons_self, ← HCN.out, Int.natCast_add] at hq; exact hq); have HP8 := Aside0.mk (blk_below HP7.out hb8); have HST9 := Aside0.mk (HST8.out.below (below_alloc (Below.refl _ _) (.cells #[.int .i64 64, .func (.func 39) #[] #[]] 61))); have hz8 : wr.heap.size < w8.heap.size := blk_lt HZ8.out; clear hb8)
       | (have hh := origin_yes (w.heap.size + 1 + 1) p.1 va p.2.2.1 p.2.2.2 A2 c2 d (w8.alloc (.cells #[.int .i64 64, .func (.func 39) #[] #[]] 61)) (blk_alloc HP8.out _) (Kd.C_below HI2.out HST9.out.2.2.2.2) x R23.out.2.2 R23.out.1 R23.out.2.1; (with_reducible refine hh.mono ?_); clear hh; rintro e w10 ⟨rfl, hq1, hq2, hq3⟩; have HST10 := Aside0.mk (HST9.out.read (blk_alloc HP8.out _) hq1 hq2 (hq3 w (by omega) HST9.out.2.2.2.2)); clear hq1 hq2 hq3))
      go_roundg k1
      case measure => omega
      case rel =>
       refine ⟨i + 1, sp, 1 :: seen, (x, p.2), rfl, by rw [Int.natCast_add]; rfl, ⟨by have := HIK.out; omega, by have := HSL.out; simp only [List.length_cons]; omega, ?_, HST10.out⟩⟩
       exact HJ2.out
     ·
      have HJ2 := Aside0.mk (show judgeL 100 (l.drop (i + 1)) (1 :: seen) p true = some R from by have h1 := HJ.out; rw [judgeL_cons, if_neg (by intro h; rcases h with h | h; exact M1.out h; omega), if_pos (show kindB 1 = true from rfl), if_neg (by simpa [flagV] using F1.out), show rdF 100 1 p d = some (p, false) from by rw [rdF, if_pos rfl, if_neg r1], Option.bind_some] at h1; exact h1)
      have R1 := Aside0.mk (show d.length ≠ 1 ∨ ∃ x, d = [x] ∧ 2 < x from by
       by_cases h1 : d.length = 1
       ·
        obtain ⟨x, rfl⟩ := List.length_eq_one_iff.1 h1
        exact .inr ⟨x, rfl, by have h2 : ¬ x ≤ 2 := fun h2 => r1 ⟨rfl, h2⟩; omega⟩
       ·
        exact .inl h1)
      clear r1
      have he : ∀ args w, (callFunc 39 args).run Try.prog w = .ok (.enter 39 args) w := fun args w => enters_ Try.func39 (by kernel_rfl) rfl args w
      go_wp2_with (first
       | (go_at_call 35; have hh := find_any 1 w7; rw [HKK.out] at hh; dsimp only at hh; (with_reducible refine hh.mono ?_); clear hh; rintro e w8 ⟨rfl, hb8⟩; have HST8 := Aside0.mk (HST7.out.below hb8); have HZ8 := Aside0.mk (blk_below HZ7.out hb8); have u0 : w8.cell? ⟨wr.heap.size, 0, none⟩ = some (.int .i64 fl) := (blk_cell HZ8.out 0).trans rfl; have u1 : w8.cell? ⟨wr.heap.size, 1, none⟩ = some (.int .i64 1) := (blk_cell HZ8.out 1).trans rfl; have u2 : w8.cell? ⟨wr.heap.size, 2, none⟩ = some (.slice A2 d.length c2) := (blk_cell HZ8.out 2).trans rfl; have hlk8 : (Instr.lookup 58 (.map (some (w.heap.size + 1 + 1 + 1))) (.int .i64 1) false).run Try.prog (w8.alloc (.cells #[.int .i64 64, .func (.func 39) #[] #[]] 61)) = .ok (.int .i64 ((cn : Int) + 1)) (w8.alloc (.cells #[.int .i64 64, .func (.func 39) #[] #[]] 61)) := (by have hq := (HST8.out.2.2.2.1.alloc (.cells #[.int .i64 64, .func (.func 39) #[] #[]] 61)).look (T := 58) rfl rfl rfl hwf; rw [List.count_cons_self, ← HCN.out, Int.natCast_add] at hq; exact hq); have HP8 := Aside0.mk (blk_below HP7.out hb8); have HST9 := Aside0.mk (HST8.out.below (below_alloc (Below.refl _ _) (.cells #[.int .i64 64, .func (.func 39) #[] #[]] 61))); have hz8 : wr.heap.size < w8.heap.size := blk_lt HZ8.out; clear hb8)
       | (have hh := origin_no (w.heap.size + 1 + 1) p.1 va p.2.2.1 p.2.2.2 A2 c2 d (w8.alloc (.cells #[.int .i64 64, .func (.func 39) #[] #[]] 61)) (blk_alloc HP8.out _) (Kd.C_below HI2.out HST9.out.2.2.2.2) R1.out; (with_reducible refine hh.mono ?_); clear hh; rintro e w10 ⟨rfl, hq1, hq2, hq3⟩; have HST10 := Aside0.mk (HST9.out.read (blk_alloc HP8.out _) hq1 hq2 (hq3 w (by omega) HST9.out.2.2.2.2)); clear hq1 hq2 hq3))
      go_roundg k1
      case measure => omega
      case rel =>
       refine ⟨i + 1, true, 1 :: seen, p, rfl, by rw [Int.natCast_add]; rfl, ⟨by have := HIK.out; omega, by have := HSL.out; simp only [List.length_cons]; omega, ?_, HST10.out⟩⟩
       exact HJ2.out
    ·
     have f2 : (Go.bits .and .i64 fl 192 != 64) = true := by simp [f1]
     have HJ2 := Aside0.mk (show judgeL 100 (l.drop (i + 1)) (1 :: seen) p true = some R from by have h1 := HJ.out; rw [judgeL_cons, if_neg (by intro h; rcases h with h | h; exact M1.out h; omega), if_pos (show kindB 1 = true from rfl), if_pos (by simpa [flagV] using f1)] at h1; exact h1)
     clear f1
     go_wp2_with (first
      | (go_at_call 35; have hh := find_any 1 w7; rw [HKK.out] at hh; dsimp only at hh; (with_reducible refine hh.mono ?_); clear hh; rintro e w8 ⟨rfl, hb8⟩; have HST8 := Aside0.mk (HST7.out.below hb8); have HZ8 := Aside0.mk (blk_below HZ7.out hb8); have u0 : w8.cell? ⟨wr.heap.size, 0, none⟩ = some (.int .i64 fl) := (blk_cell HZ8.out 0).trans rfl; have u1 : w8.cell? ⟨wr.heap.size, 1, none⟩ = some (.int .i64 1) := (blk_cell HZ8.out 1).trans rfl; have u2 : w8.cell? ⟨wr.heap.size, 2, none⟩ = some (.slice A2 d.length c2) := (blk_cell HZ8.out 2).trans rfl; have hlk8 : (Instr.lookup 58 (.map (some (w.heap.size + 1 + 1 + 1))) (.int .i64 1) false).run Try.prog (w8.alloc (.cells #[.int .i64 64, .func (.func 39) #[] #[]] 61)) = .ok (.int .i64 ((cn : Int) + 1)) (w8.alloc (.cells #[.int .i64 64, .func (.func 39) #[] #[]] 61)) := (by have hq := (HST8.out.2.2.2.1.alloc (.cells #[.int .i64 64, .func (.func 39) #[] #[]] 61)).look (T := 58) rfl rfl rfl hwf; rw [List.count_cons_self, ← HCN.out, Int.natCast_add] at hq; exact hq); have hz8 : wr.heap.size < w8.heap.size := blk_lt HZ8.out; clear hb8))
     go_roundg k1
     case measure => omega
     case rel =>
      refine ⟨i + 1, true, 1 :: seen, p, rfl, by rw [Int.natCast_add]; rfl, ⟨by have := HIK.out; omega, by have := HSL.out; simp only [List.length_cons]; omega, ?_, (HST8.out.below (below_alloc (Below.refl _ _) _))⟩⟩
      exact HJ2.out
   by_cases t2 : ty = 2
   ·
    subst t2
    have HKK := Aside0.mk (show kindV 2 = (64, .func (.func 40) #[] #[], true) from rfl)
    by_cases f1 : Go.bits .and .i64 fl 192 = 64
    ·
     have f2 : (Go.bits .and .i64 fl 192 != 64) = false := by simp [f1]
     have F1 := Aside0.mk f1
     clear f1
     obtain ⟨qa, qb, hn⟩ : ∃ qa qb, segL 100 (d.length + 1) [] d = some (qa, qb) := by
      have h1 := HJ.out
      rw [judgeL_cons, if_neg (by intro h; rcases h with h | h; exact M1.out h; omega), if_pos (show kindB 2 = true from rfl), if_neg (by simpa [flagV] using F1.out)] at h1
      obtain ⟨q, hq, _⟩ := Option.bind_eq_some_iff.mp h1
      rw [rdF, if_neg (by decide), if_pos rfl] at hq
      obtain ⟨q1, hq1, _⟩ := Option.bind_eq_some_iff.mp hq
      exact ⟨q1.1, q1.2, hq1⟩
     have HN := Aside0.mk hn
     obtain rfl : va = .slice none 0 0 := HV2.out M1.out
     cases qb
     ·
      have HJ2 := Aside0.mk (show judgeL 100 (l.drop (i + 1)) (2 :: seen) (p.1, qa, p.2.2) true = some R from by have h1 := HJ.out; rw [judgeL_cons, if_neg (by intro h; rcases h with h | h; exact M1.out h; omega), if_pos (show kindB 2 = true from rfl), if_neg (by simpa [flagV] using F1.out), show rdF 100 2 p d = some ((p.1, qa, p.2.2), false) from by rw [rdF, if_neg (by decide), if_pos rfl, hn]; rfl, Option.bind_some] at h1; exact h1)
      clear hn
      have he : ∀ args w, (callFunc 40 args).run Try.prog w = .ok (.enter 40 args) w := fun args w => enters_ Try.func40 (by kernel_rfl) rfl args w
      go_wp2_with (first
       | (go_at_call 35; have hh := find_any 2 w7; rw [HKK.out] at hh; dsimp only at hh; (with_reducible refine hh.mono ?_); clear hh; rintro e w8 ⟨rfl, hb8⟩; have HST8 := Aside0.mk (HST7.out.below hb8); have HZ8 := Aside0.mk (blk_below HZ7.out hb8); have u0 : w8.cell? ⟨wr.heap.size, 0, none⟩ = some (.int .i64 fl) := (blk_cell HZ8.out 0).trans rfl; have u1 : w8.cell? ⟨wr.heap.size, 1, none⟩ = some (.int .i64 2) := (blk_cell HZ8.out 1).trans rfl; have u2 : w8.cell? ⟨wr.heap.size, 2, none⟩ = some (.slice A2 d.length c2) := (blk_cell HZ8.out 2).trans rfl; have hlk8 : (Instr.lookup 58 (.map (some (w.heap.size + 1 + 1 + 1))) (.int .i64 2) false).run Try.prog (w8.alloc (.cells #[.int .i64 64, .func (.func 40) #[] #[]] 61)) = .ok (.int .i64 ((cn : Int) + 1)) (w8.alloc (.cells #[.int .i64 64, .func (.func 40) #[] #[]] 61)) := (by have hq := (HST8.out.2.2.2.1.alloc (.cells #[.int .i64 64, .func (.func 40) #[] #[]] 61)).look (T := 58) rfl rfl rfl hwf; rw [List.count_cons_self, ← HCN.out, Int.natCast_add] at hq; exact hq); have HP8 := Aside0.mk (blk_below HP7.out hb8); have HST9 := Aside0.mk (HST8.out.below (below_alloc (Below.refl _ _) (.cells #[.int .i64 64, .func (.func 40) #[] #[]] 61))); have hz8 : wr.heap.size < w8.heap.size := blk_lt HZ8.out; clear hb8)
       | (have hh := ases_any 100 (w.heap.size + 1 + 1) p.1 p.2.2.1 p.2.2.2 A2 c2 d w (w8.alloc (.cells #[.int .i64 64, .func (.func 40) #[] #[]] 61)) (qa, false) HST9.out.2.2.2.2 (by omega) (blk_alloc HP8.out _) HI2.out HL2.out (octB_mem HOA.out.1) (octB_len HOA.out.1) HN.out; (with_reducible refine hh.mono ?_); clear hh; rintro e w10 hq; have he10 := hq.1; subst he10; have HST10 := Aside0.mk (HST9.out.ases (by simp) hq); clear hq))
      go_roundg k1
      case measure => omega
      case rel =>
       refine ⟨i + 1, true, 2 :: seen, (p.1, qa, p.2.2), rfl, by rw [Int.natCast_add]; rfl, ⟨by have := HIK.out; omega, by have := HSL.out; simp only [List.length_cons]; omega, ?_, HST10.out⟩⟩
       exact HJ2.out
     ·
      have HJ2 := Aside0.mk (show judgeL 100 (l.drop (i + 1)) (2 :: seen) (p.1, qa, p.2.2) sp = some R from by have h1 := HJ.out; rw [judgeL_cons, if_neg (by intro h; rcases h with h | h; exact M1.out h; omega), if_pos (show kindB 2 = true from rfl), if_neg (by simpa [flagV] using F1.out), show rdF 100 2 p d = some ((p.1, qa, p.2.2), true) from by rw [rdF, if_neg (by decide), if_pos rfl, hn]; rfl, Option.bind_some] at h1; exact h1)
      clear hn
      have he : ∀ args w, (callFunc 40 args).run Try.prog w = .ok (.enter 40 args) w := fun args w => enters_ Try.func40 (by kernel_rfl) rfl args w
      go_wp2_with (first
       | (go_at_call 35; have hh := find_any 2 w7; rw [HKK.out] at hh; dsimp only at hh; (with_reducible refine hh.mono ?_); clear hh; rintro e w8 ⟨rfl, hb8⟩; have HST8 := Aside0.mk (HST7.out.below hb8); have HZ8 := Aside0.mk (blk_below HZ7.out hb8); have u0 : w8.cell? ⟨wr.heap.size, 0, none⟩ = some (.int .i64 fl) := (blk_cell HZ8.out 0).trans rfl; have u1 : w8.cell? ⟨wr.heap.size, 1, none⟩ = some (.int .i64 2) := (blk_cell HZ8.out 1).trans rfl; have u2 : w8.cell? ⟨wr.heap.size, 2, none⟩ = some (.slice A2 d.length c2) := (blk_cell HZ8.out 2).trans rfl; have hlk8 : (Instr.lookup 58 (.map (some (w.heap.size + 1 + 1 + 1))) (.int .i64 2) false).run Try.prog (w8.alloc (.cells #[.int .i64 64, .func (.func 40) #[] #[]] 61)) = .ok (.int .i64 ((cn : Int) + 1)) (w8.alloc (.cells #[.int .i64 64, .func (.func 40) #[] #[]] 61)) := (by have hq := (HST8.out.2.2.2.1.alloc (.cells #[.int .i64 64, .func (.func 40) #[] #[]] 61)).look (T := 58) rfl rfl rfl hwf; rw [List.count_cons_self, ← HCN.out, Int.natCast_add] at hq; exact hq); have HP8 := Aside0.mk (blk_below HP7.out hb8); have HST9 := Aside0.mk (HST8.out.below (below_alloc (Below.refl _ _) (.cells #[.int .i64 64, .func (.func 40) #[] #[]] 61))); have hz8 : wr.heap.size < w8.heap.size := blk_lt HZ8.out; clear hb8)
       | (have hh := ases_any 100 (w.heap.size + 1 + 1) p.1 p.2.2.1 p.2.2.2 A2 c2 d w (w8.alloc (.cells #[.int .i64 64, .func (.func 40) #[] #[]] 61)) (qa, true) HST9.out.2.2.2.2 (by omega) (blk_alloc HP8.out _) HI2.out HL2.out (octB_mem HOA.out.1) (octB_len HOA.out.1) HN.out; (with_reducible refine hh.mono ?_); clear hh; rintro e w10 hq; have he10 := hq.1; subst he10; have HST10 := Aside0.mk (HST9.out.ases (by simp) hq); clear hq))
      go_roundg k1
      case measure => omega
      case rel =>
       refine ⟨i + 1, sp, 2 :: seen, (p.1, qa, p.2.2), rfl, by rw [Int.natCast_add]; rfl, ⟨by have := HIK.out; omega, by have := HSL.out; simp only [List.length_cons]; omega, ?_, HST10.out⟩⟩
       exact HJ2.out
    ·
     have f2 : (Go.bits .and .i64 fl 192 != 64) = true := by simp [f1]
     have HJ2 := Aside0.mk (show judgeL 100 (l.drop (i + 1)) (2 :: seen) p true = some R from by have h1 := HJ.out; rw [judgeL_cons, if_neg (by intro h; rcases h with h | h; exact M1.out h; omega), if_pos (show kindB 2 = true from rfl), if_pos (by simpa [flagV] using f1)] at h1; exact h1)
     clear f1
     go_wp2_with (first
      | (go_at_call 35; have hh := find_any 2 w7; rw [HKK.out] at hh; dsimp only at hh; (with_reducible refine hh.mono ?_); clear hh; rintro e w8 ⟨rfl, hb8⟩; have HST8 := Aside0.mk (HST7.out.below hb8); have HZ8 := Aside0.mk (blk_below HZ7.out hb8); have u0 : w8.cell? ⟨wr.heap.size, 0, none⟩ = some (.int .i64 fl) := (blk_cell HZ8.out 0).trans rfl; have u1 : w8.cell? ⟨wr.heap.size, 1, none⟩ = some (.int .i64 2) := (blk_cell HZ8.out 1).trans rfl; have u2 : w8.cell? ⟨wr.heap.size, 2, none⟩ = some (.slice A2 d.length c2) := (blk_cell HZ8.out 2).trans rfl; have hlk8 : (Instr.lookup 58 (.map (some (w.heap.size + 1 + 1 + 1))) (.int .i64 2) false).run Try.prog (w8.alloc (.cells #[.int .i64 64, .func (.func 40) #[] #[]] 61)) = .ok (.int .i64 ((cn : Int) + 1)) (w8.alloc (.cells #[.int .i64 64, .func (.func 40) #[] #[]] 61)) := (by have hq := (HST8.out.2.2.2.1.alloc (.cells #[.int .i64 64, .func (.func 40) #[] #[]] 61)).look (T := 58) rfl rfl rfl hwf; rw [List.count_cons_self, ← HCN.out, Int.natCast_add] at hq; exact hq); have hz8 : wr.heap.size < w8.heap.size := blk_lt HZ8.out; clear hb8))
     go_roundg k1
     case measure => omega
     case rel =>
      refine ⟨i + 1, true, 2 :: seen, p, rfl, by rw [Int.natCast_add]; rfl, ⟨by have := HIK.out; omega, by have := HSL.out; simp only [List.length_cons]; omega, ?_, (HST8.out.below (below_alloc (Below.refl _ _) _))⟩⟩
      exact HJ2.out
   by_cases t3 : ty = 3
   ·
    subst t3
    have HKK := Aside0.mk (show kindV 3 = (64, .func (.func 41) #[] #[], true) from rfl)
    by_cases f1 : Go.bits .and .i64 fl 192 = 64
    ·
     have f2 : (Go.bits .and .i64 fl 192 != 64) = false := by simp [f1]
     have F1 := Aside0.mk f1
     clear f1
     obtain ⟨n, b, hn⟩ : ∃ n b, attr_number.f 100 d = some (n, b) := by
      have h1 := HJ.out
      rw [judgeL_cons, if_neg (by intro h; rcases h with h | h; exact M1.out h; omega), if_pos (show kindB 3 = true from rfl), if_neg (by simpa [flagV] using F1.out)] at h1
      obtain ⟨q, hq, _⟩ := Option.bind_eq_some_iff.mp h1
      rw [rdF, if_neg (by decide), if_neg (by decide), if_pos rfl] at hq
      obtain ⟨q1, hq1, _⟩ := Option.bind_eq_some_iff.mp hq
      exact ⟨q1.1, q1.2, hq1⟩
     have HN := Aside0.mk hn
     cases b
     ·
      have HJ2 := Aside0.mk (show judgeL 100 (l.drop (i + 1)) (3 :: seen) (p.1, p.2.1, n, p.2.2.2) true = some R from by have h1 := HJ.out; rw [judgeL_cons, if_neg (by intro h; rcases h with h | h; exact M1.out h; omega), if_pos (show kindB 3 = true from rfl), if_neg (by simpa [flagV] using F1.out), show rdF 100 3 p d = some ((p.1, p.2.1, n, p.2.2.2), false) from by rw [rdF, if_neg (by decide), if_neg (by decide), if_pos rfl, hn]; rfl, Option.bind_some] at h1; exact h1)
      clear hn
      have he : ∀ args w, (callFunc 41 args).run Try.prog w = .ok (.enter 41 args) w := fun args w => enters_ Try.func41 (by kernel_rfl) rfl args w
      go_wp2_with (first
       | (go_at_call 35; have hh := find_any 3 w7; rw [HKK.out] at hh; dsimp only at hh; (with_reducible refine hh.mono ?_); clear hh; rintro e w8 ⟨rfl, hb8⟩; have HST8 := Aside0.mk (HST7.out.below hb8); have HZ8 := Aside0.mk (blk_below HZ7.out hb8); have u0 : w8.cell? ⟨wr.heap.size, 0, none⟩ = some (.int .i64 fl) := (blk_cell HZ8.out 0).trans rfl; have u1 : w8.cell? ⟨wr.heap.size, 1, none⟩ = some (.int .i64 3) := (blk_cell HZ8.out 1).trans rfl; have u2 : w8.cell? ⟨wr.heap.size, 2, none⟩ = some (.slice A2 d.length c2) := (blk_cell HZ8.out 2).trans rfl; have hlk8 : (Instr.lookup 58 (.map (some (w.heap.size + 1 + 1 + 1))) (.int .i64 3) false).run Try.prog (w8.alloc (.cells #[.int .i64 64, .func (.func 41) #[] #[]] 61)) = .ok (.int .i64 ((cn : Int) + 1)) (w8.alloc (.cells #[.int .i64 64, .func (.func 41) #[] #[]] 61)) := (by have hq := (HST8.out.2.2.2.1.alloc (.cells #[.int .i64 64, .func (.func 41) #[] #[]] 61)).look (T := 58) rfl rfl rfl hwf; rw [List.count_cons_self, ← HCN.out, Int.natCast_add] at hq; exact hq); have HP8 := Aside0.mk (blk_below HP7.out hb8); have HST9 := Aside0.mk (HST8.out.below (below_alloc (Below.refl _ _) (.cells #[.int .i64 64, .func (.func 41) #[] #[]] 61))); have hz8 : wr.heap.size < w8.heap.size := blk_lt HZ8.out; clear hb8)
       | (have hh := hop_any 100 (w.heap.size + 1 + 1) p.1 va p.2.2.1 p.2.2.2 A2 c2 d (w8.alloc (.cells #[.int .i64 64, .func (.func 41) #[] #[]] 61)) (blk_alloc HP8.out _) (Kd.C_below HI2.out HST9.out.2.2.2.2) HL2.out n false HN.out; (with_reducible refine hh.mono ?_); clear hh; rintro e w10 ⟨rfl, hq1, hq2, hq3⟩; have HST10 := Aside0.mk (HST9.out.read (blk_alloc HP8.out _) hq1 hq2 (hq3 w (by omega) HST9.out.2.2.2.2)); clear hq1 hq2 hq3))
      go_roundg k1
      case measure => omega
      case rel =>
       refine ⟨i + 1, true, 3 :: seen, (p.1, p.2.1, n, p.2.2.2), rfl, by rw [Int.natCast_add]; rfl, ⟨by have := HIK.out; omega, by have := HSL.out; simp only [List.length_cons]; omega, ?_, HST10.out⟩⟩
       exact HJ2.out
     ·
      have HJ2 := Aside0.mk (show judgeL 100 (l.drop (i + 1)) (3 :: seen) (p.1, p.2.1, n, p.2.2.2) sp = some R from by have h1 := HJ.out; rw [judgeL_cons, if_neg (by intro h; rcases h with h | h; exact M1.out h; omega), if_pos (show kindB 3 = true from rfl), if_neg (by simpa [flagV] using F1.out), show rdF 100 3 p d = some ((p.1, p.2.1, n, p.2.2.2), true) from by rw [rdF, if_neg (by decide), if_neg (by decide), if_pos rfl, hn]; rfl, Option.bind_some] at h1; exact h1)
      clear hn
      have he : ∀ args w, (callFunc 41 args).run Try.prog w = .ok (.enter 41 args) w := fun args w => enters_ Try.func41 (by kernel_rfl) rfl args w
      go_wp2_with (first
       | (go_at_call 35; have hh := find_any 3 w7; rw [HKK.out] at hh; dsimp only at hh; (with_reducible refine hh.mono ?_); clear hh; rintro e w8 ⟨rfl, hb8⟩; have HST8 := Aside0.mk (HST7.out.below hb8); have HZ8 := Aside0.mk (blk_below HZ7.out hb8); have u0 : w8.cell? ⟨wr.heap.size, 0, none⟩ = some (.int .i64 fl) := (blk_cell HZ8.out 0).trans rfl; have u1 : w8.cell? ⟨wr.heap.size, 1, none⟩ = some (.int .i64 3) := (blk_cell HZ8.out 1).trans rfl; have u2 : w8.cell? ⟨wr.heap.size, 2, none⟩ = some (.slice A2 d.length c2) := (blk_cell HZ8.out 2).trans rfl; have hlk8 : (Instr.lookup 58 (.map (some (w.heap.size + 1 + 1 + 1))) (.int .i64 3) false).run Try.prog (w8.alloc (.cells #[.int .i64 64, .func (.func 41) #[] #[]] 61)) = .ok (.int .i64 ((cn : Int) + 1)) (w8.alloc (.cells #[.int .i64 64, .func (.func 41) #[] #[]] 61)) := (by have hq := (HST8.out.2.2.2.1.alloc (.cells #[.int .i64 64, .func (.func 41) #[] #[]] 61)).look (T := 58) rfl rfl rfl hwf; rw [List.count_cons_self, ← HCN.out, Int.natCast_add] at hq; exact hq); have HP8 := Aside0.mk (blk_below HP7.out hb8); have HST9 := Aside0.mk (HST8.out.below (below_alloc (Below.refl _ _) (.cells #[.int .i64 64, .func (.func 41) #[] #[]] 61))); have hz8 : wr.heap.size < w8.heap.size := blk_lt HZ8.out; clear hb8)
       | (have hh := hop_any 100 (w.heap.size + 1 + 1) p.1 va p.2.2.1 p.2.2.2 A2 c2 d (w8.alloc (.cells #[.int .i64 64, .func (.func 41) #[] #[]] 61)) (blk_alloc HP8.out _) (Kd.C_below HI2.out HST9.out.2.2.2.2) HL2.out n true HN.out; (with_reducible refine hh.mono ?_); clear hh; rintro e w10 ⟨rfl, hq1, hq2, hq3⟩; have HST10 := Aside0.mk (HST9.out.read (blk_alloc HP8.out _) hq1 hq2 (hq3 w (by omega) HST9.out.2.2.2.2)); clear hq1 hq2 hq3))
      go_roundg k1
      case measure => omega
      case rel =>
       refine ⟨i + 1, sp, 3 :: seen, (p.1, p.2.1, n, p.2.2.2), rfl, by rw [Int.natCast_add]; rfl, ⟨by have := HIK.out; omega, by have := HSL.out; simp only [List.length_cons]; omega, ?_, HST10.out⟩⟩
       exact HJ2.out
    ·
     have f2 : (Go.bits .and .i64 fl 192 != 64) = true := by simp [f1]
     have HJ2 := Aside0.mk (show judgeL 100 (l.drop (i + 1)) (3 :: seen) p true = some R from by have h1 := HJ.out; rw [judgeL_cons, if_neg (by intro h; rcases h with h | h; exact M1.out h; omega), if_pos (show kindB 3 = true from rfl), if_pos (by simpa [flagV] using f1)] at h1; exact h1)
     clear f1
     go_wp2_with (first
      | (go_at_call 35; have hh := find_any 3 w7; rw [HKK.out] at hh; dsimp only at hh; (with_reducible refine hh.mono ?_); clear hh; rintro e w8 ⟨rfl, hb8⟩; have HST8 := Aside0.mk (HST7.out.below hb8); have HZ8 := Aside0.mk (blk_below HZ7.out hb8); have u0 : w8.cell? ⟨wr.heap.size, 0, none⟩ = some (.int .i64 fl) := (blk_cell HZ8.out 0).trans rfl; have u1 : w8.cell? ⟨wr.heap.size, 1, none⟩ = some (.int .i64 3) := (blk_cell HZ8.out 1).trans rfl; have u2 : w8.cell? ⟨wr.heap.size, 2, none⟩ = some (.slice A2 d.length c2) := (blk_cell HZ8.out 2).trans rfl; have hlk8 : (Instr.lookup 58 (.map (some (w.heap.size + 1 + 1 + 1))) (.int .i64 3) false).run Try.prog (w8.alloc (.cells #[.int .i64 64, .func (.func 41) #[] #[]] 61)) = .ok (.int .i64 ((cn : Int) + 1)) (w8.alloc (.cells #[.int .i64 64, .func (.func 41) #[] #[]] 61)) := (by have hq := (HST8.out.2.2.2.1.alloc (.cells #[.int .i64 64, .func (.func 41) #[] #[]] 61)).look (T := 58) rfl rfl rfl hwf; rw [List.count_cons_self, ← HCN.out, Int.natCast_add] at hq; exact hq); have hz8 : wr.heap.size < w8.heap.size := blk_lt HZ8.out; clear hb8))
     go_roundg k1
     case measure => omega
     case rel =>
      refine ⟨i + 1, true, 3 :: seen, p, rfl, by rw [Int.natCast_add]; rfl, ⟨by have := HIK.out; omega, by have := HSL.out; simp only [List.length_cons]; omega, ?_, (HST8.out.below (below_alloc (Below.refl _ _) _))⟩⟩
      exact HJ2.out
   by_cases t4 : ty = 4
   ·
    subst t4
    have HKK := Aside0.mk (show kindV 4 = (128, .func (.func 42) #[] #[], true) from rfl)
    by_cases f1 : Go.bits .and .i64 fl 192 = 128
    ·
     have f2 : (Go.bits .and .i64 fl 192 != 128) = false := by simp [f1]
     have F1 := Aside0.mk f1
     clear f1
     by_cases r1 : d.length = 4
     ·
      have HJ2 := Aside0.mk (show judgeL 100 (l.drop (i + 1)) (4 :: seen) p sp = some R from by have h1 := HJ.out; rw [judgeL_cons, if_neg (by intro h; rcases h with h | h; exact M1.out h; omega), if_pos (show kindB 4 = true from rfl), if_neg (by simpa [flagV] using F1.out), show rdF 100 4 p d = some (p, true) from by rw [rdF, if_neg (by decide), if_neg (by decide), if_neg (by decide), if_pos rfl]; simp [r1], Option.bind_some] at h1; exact h1)
      have R1 := Aside0.mk (show decide (d.length = 4) = true by simp [r1])
      clear r1
      have he : ∀ args w, (callFunc 42 args).run Try.prog w = .ok (.enter 42 args) w := fun args w => enters_ Try.func42 (by kernel_rfl) rfl args w
      go_wp2_with (first
       | (go_at_call 35; have hh := find_any 4 w7; rw [HKK.out] at hh; dsimp only at hh; (with_reducible refine hh.mono ?_); clear hh; rintro e w8 ⟨rfl, hb8⟩; have HST8 := Aside0.mk (HST7.out.below hb8); have HZ8 := Aside0.mk (blk_below HZ7.out hb8); have u0 : w8.cell? ⟨wr.heap.size, 0, none⟩ = some (.int .i64 fl) := (blk_cell HZ8.out 0).trans rfl; have u1 : w8.cell? ⟨wr.heap.size, 1, none⟩ = some (.int .i64 4) := (blk_cell HZ8.out 1).trans rfl; have u2 : w8.cell? ⟨wr.heap.size, 2, none⟩ = some (.slice A2 d.length c2) := (blk_cell HZ8.out 2).trans rfl; have hlk8 : (Instr.lookup 58 (.map (some (w.heap.size + 1 + 1 + 1))) (.int .i64 4) false).run Try.prog (w8.alloc (.cells #[.int .i64 128, .func (.func 42) #[] #[]] 61)) = .ok (.int .i64 ((cn : Int) + 1)) (w8.alloc (.cells #[.int .i64 128, .func (.func 42) #[] #[]] 61)) := (by have hq := (HST8.out.2.2.2.1.alloc (.cells #[.int .i64 128, .func (.func 42) #[] #[]] 61)).look (T := 58) rfl rfl rfl hwf; rw [List.count_cons_self, ← HCN.out, Int.natCast_add] at hq; exact hq); have HP8 := Aside0.mk (blk_below HP7.out hb8); have HST9 := Aside0.mk (HST8.out.below (below_alloc (Below.refl _ _) (.cells #[.int .i64 128, .func (.func 42) #[] #[]] 61))); have hz8 : wr.heap.size < w8.heap.size := blk_lt HZ8.out; clear hb8)
       | (have hh := (R1.out ▸ med_any (w.heap.size + 1 + 1) p.1 va p.2.2.1 p.2.2.2 A2 c2 d (w8.alloc (.cells #[.int .i64 128, .func (.func 42) #[] #[]] 61)) (blk_alloc HP8.out _)); (with_reducible refine hh.mono ?_); clear hh; rintro e w10 ⟨rfl, hq1, hq2, hq3⟩; have HST10 := Aside0.mk (HST9.out.read (blk_alloc HP8.out _) hq1 hq2 (hq3 w (by omega) HST9.out.2.2.2.2)); clear hq1 hq2 hq3))
      go_roundg k1
      case measure => omega
      case rel =>
       refine ⟨i + 1, sp, 4 :: seen, p, rfl, by rw [Int.natCast_add]; rfl, ⟨by have := HIK.out; omega, by have := HSL.out; simp only [List.length_cons]; omega, ?_, HST10.out⟩⟩
       exact HJ2.out
     ·
      have HJ2 := Aside0.mk (show judgeL 100 (l.drop (i + 1)) (4 :: seen) p true = some R from by have h1 := HJ.out; rw [judgeL_cons, if_neg (by intro h; rcases h with h | h; exact M1.out h; omega), if_pos (show kindB 4 = true from rfl), if_neg (by simpa [flagV] using F1.out), show rdF 100 4 p d = some (p, false) from by rw [rdF, if_neg (by decide), if_neg (by decide), if_neg (by decide), if_pos rfl]; simp [r1], Option.bind_some] at h1; exact h1)
      have R1 := Aside0.mk (show decide (d.length = 4) = false by simp [r1])
      clear r1
      have he : ∀ args w, (callFunc 42 args).run Try.prog w = .ok (.enter 42 args) w := fun args w => enters_ Try.func42 (by kernel_rfl) rfl args w
      go_wp2_with (first
       | (go_at_call 35; have hh := find_any 4 w7; rw [HKK.out] at hh; dsimp only at hh; (with_reducible refine hh.mono ?_); clear hh; rintro e w8 ⟨rfl, hb8⟩; have HST8 := Aside0.mk (HST7.out.below hb8); have HZ8 := Aside0.mk (blk_below HZ7.out hb8); have u0 : w8.cell? ⟨wr.heap.size, 0, none⟩ = some (.int .i64 fl) := (blk_cell HZ8.out 0).trans rfl; have u1 : w8.cell? ⟨wr.heap.size, 1, none⟩ = some (.int .i64 4) := (blk_cell HZ8.out 1).trans rfl; have u2 : w8.cell? ⟨wr.heap.size, 2, none⟩ = some (.slice A2 d.length c2) := (blk_cell HZ8.out 2).trans rfl; have hlk8 : (Instr.lookup 58 (.map (some (w.heap.size + 1 + 1 + 1))) (.int .i64 4) false).run Try.prog (w8.alloc (.cells #[.int .i64 128, .func (.func 42) #[] #[]] 61)) = .ok (.int .i64 ((cn : Int) + 1)) (w8.alloc (.cells #[.int .i64 128, .func (.func 42) #[] #[]] 61)) := (by have hq := (HST8.out.2.2.2.1.alloc (.cells #[.int .i64 128, .func (.func 42) #[] #[]] 61)).look (T := 58) rfl rfl rfl hwf; rw [List.count_cons_self, ← HCN.out, Int.natCast_add] at hq; exact hq); have HP8 := Aside0.mk (blk_below HP7.out hb8); have HST9 := Aside0.mk (HST8.out.below (below_alloc (Below.refl _ _) (.cells #[.int .i64 128, .func (.func 42) #[] #[]] 61))); have hz8 : wr.heap.size < w8.heap.size := blk_lt HZ8.out; clear hb8)
       | (have hh := (R1.out ▸ med_any (w.heap.size + 1 + 1) p.1 va p.2.2.1 p.2.2.2 A2 c2 d (w8.alloc (.cells #[.int .i64 128, .func (.func 42) #[] #[]] 61)) (blk_alloc HP8.out _)); (with_reducible refine hh.mono ?_); clear hh; rintro e w10 ⟨rfl, hq1, hq2, hq3⟩; have HST10 := Aside0.mk (HST9.out.read (blk_alloc HP8.out _) hq1 hq2 (hq3 w (by omega) HST9.out.2.2.2.2)); clear hq1 hq2 hq3))
      go_roundg k1
      case measure => omega
      case rel =>
       refine ⟨i + 1, true, 4 :: seen, p, rfl, by rw [Int.natCast_add]; rfl, ⟨by have := HIK.out; omega, by have := HSL.out; simp only [List.length_cons]; omega, ?_, HST10.out⟩⟩
       exact HJ2.out
    ·
     have f2 : (Go.bits .and .i64 fl 192 != 128) = true := by simp [f1]
     have HJ2 := Aside0.mk (show judgeL 100 (l.drop (i + 1)) (4 :: seen) p true = some R from by have h1 := HJ.out; rw [judgeL_cons, if_neg (by intro h; rcases h with h | h; exact M1.out h; omega), if_pos (show kindB 4 = true from rfl), if_pos (by simpa [flagV] using f1)] at h1; exact h1)
     clear f1
     go_wp2_with (first
      | (go_at_call 35; have hh := find_any 4 w7; rw [HKK.out] at hh; dsimp only at hh; (with_reducible refine hh.mono ?_); clear hh; rintro e w8 ⟨rfl, hb8⟩; have HST8 := Aside0.mk (HST7.out.below hb8); have HZ8 := Aside0.mk (blk_below HZ7.out hb8); have u0 : w8.cell? ⟨wr.heap.size, 0, none⟩ = some (.int .i64 fl) := (blk_cell HZ8.out 0).trans rfl; have u1 : w8.cell? ⟨wr.heap.size, 1, none⟩ = some (.int .i64 4) := (blk_cell HZ8.out 1).trans rfl; have u2 : w8.cell? ⟨wr.heap.size, 2, none⟩ = some (.slice A2 d.length c2) := (blk_cell HZ8.out 2).trans rfl; have hlk8 : (Instr.lookup 58 (.map (some (w.heap.size + 1 + 1 + 1))) (.int .i64 4) false).run Try.prog (w8.alloc (.cells #[.int .i64 128, .func (.func 42) #[] #[]] 61)) = .ok (.int .i64 ((cn : Int) + 1)) (w8.alloc (.cells #[.int .i64 128, .func (.func 42) #[] #[]] 61)) := (by have hq := (HST8.out.2.2.2.1.alloc (.cells #[.int .i64 128, .func (.func 42) #[] #[]] 61)).look (T := 58) rfl rfl rfl hwf; rw [List.count_cons_self, ← HCN.out, Int.natCast_add] at hq; exact hq); have hz8 : wr.heap.size < w8.heap.size := blk_lt HZ8.out; clear hb8))
     go_roundg k1
     case measure => omega
     case rel =>
      refine ⟨i + 1, true, 4 :: seen, p, rfl, by rw [Int.natCast_add]; rfl, ⟨by have := HIK.out; omega, by have := HSL.out; simp only [List.length_cons]; omega, ?_, (HST8.out.below (below_alloc (Below.refl _ _) _))⟩⟩
      exact HJ2.out
   by_cases t35 : ty = 35
   ·
    subst t35
    have HKK := Aside0.mk (show kindV 35 = (192, .func (.func 43) #[] #[], true) from rfl)
    by_cases f1 : Go.bits .and .i64 fl 192 = 192
    ·
     have f2 : (Go.bits .and .i64 fl 192 != 192) = false := by simp [f1]
     have F1 := Aside0.mk f1
     clear f1
     obtain ⟨n, b, hn⟩ : ∃ n b, attr_number.f 100 d = some (n, b) := by
      have h1 := HJ.out
      rw [judgeL_cons, if_neg (by intro h; rcases h with h | h; exact M1.out h; omega), if_pos (show kindB 35 = true from rfl), if_neg (by simpa [flagV] using F1.out)] at h1
      obtain ⟨q, hq, _⟩ := Option.bind_eq_some_iff.mp h1
      rw [rdF, if_neg (by decide), if_neg (by decide), if_neg (by decide), if_neg (by decide)] at hq
      obtain ⟨q1, hq1, _⟩ := Option.bind_eq_some_iff.mp hq
      exact ⟨q1.1, q1.2, hq1⟩
     have HN := Aside0.mk hn
     cases b
     ·
      have HJ2 := Aside0.mk (show judgeL 100 (l.drop (i + 1)) (35 :: seen) (p.1, p.2.1, p.2.2.1, n) true = some R from by have h1 := HJ.out; rw [judgeL_cons, if_neg (by intro h; rcases h with h | h; exact M1.out h; omega), if_pos (show kindB 35 = true from rfl), if_neg (by simpa [flagV] using F1.out), show rdF 100 35 p d = some ((p.1, p.2.1, p.2.2.1, n), false) from by rw [rdF, if_neg (by decide), if_neg (by decide), if_neg (by decide), if_neg (by decide), hn]; rfl, Option.bind_some] at h1; exact h1)
      clear hn
      have he : ∀ args w, (callFunc 43 args).run Try.prog w = .ok (.enter 43 args) w := fun args w => enters_ Try.func43 (by kernel_rfl) rfl args w
      go_wp2_with (first
       | (go_at_call 35; have hh := find_any 35 w7; rw [HKK.out] at hh; dsimp only at hh; (with_reducible refine hh.mono ?_); clear hh; rintro e w8 ⟨rfl, hb8⟩; have HST8 := Aside0.mk (HST7.out.below hb8); have HZ8 := Aside0.mk (blk_below HZ7.out hb8); have u0 : w8.cell? ⟨wr.heap.size, 0, none⟩ = some (.int .i64 fl) := (blk_cell HZ8.out 0).trans rfl; have u1 : w8.cell? ⟨wr.heap.size, 1, none⟩ = some (.int .i64 35) := (blk_cell HZ8.out 1).trans rfl; have u2 : w8.cell? ⟨wr.heap.size, 2, none⟩ = some (.slice A2 d.length c2) := (blk_cell HZ8.out 2).trans rfl; have hlk8 : (Instr.lookup 58 (.map (some (w.heap.size + 1 + 1 + 1))) (.int .i64 35) false).run Try.prog (w8.alloc (.cells #[.int .i64 192, .func (.func 43) #[] #[]] 61)) = .ok (.int .i64 ((cn : Int) + 1)) (w8.alloc (.cells #[.int .i64 192, .func (.func 43) #[] #[]] 61)) := (by have hq := (HST8.out.2.2.2.1.alloc (.cells #[.int .i64 192, .func (.func 43) #[] #[]] 61)).look (T := 58) rfl rfl rfl hwf; rw [List.count_cons_self, ← HCN.out, Int.natCast_add] at hq; exact hq); have HP8 := Aside0.mk (blk_below HP7.out hb8); have HST9 := Aside0.mk (HST8.out.below (below_alloc (Below.refl _ _) (.cells #[.int .i64 192, .func (.func 43) #[] #[]] 61))); have hz8 : wr.heap.size < w8.heap.size := blk_lt HZ8.out; clear hb8)
       | (have hh := otc_any 100 (w.heap.size + 1 + 1) p.1 va p.2.2.1 p.2.2.2 A2 c2 d (w8.alloc (.cells #[.int .i64 192, .func (.func 43) #[] #[]] 61)) (blk_alloc HP8.out _) (Kd.C_below HI2.out HST9.out.2.2.2.2) HL2.out n false HN.out; (with_reducible refine hh.mono ?_); clear hh; rintro e w10 ⟨rfl, hq1, hq2, hq3⟩; have HST10 := Aside0.mk (HST9.out.read (blk_alloc HP8.out _) hq1 hq2 (hq3 w (by omega) HST9.out.2.2.2.2)); clear hq1 hq2 hq3))
      go_roundg k1
      case measure => omega
      case rel =>
       refine ⟨i + 1, true, 35 :: seen, (p.1, p.2.1, p.2.2.1, n), rfl, by rw [Int.natCast_add]; rfl, ⟨by have := HIK.out; omega, by have := HSL.out; simp only [List.length_cons]; omega, ?_, HST10.out⟩⟩
       exact HJ2.out
     ·
      have HJ2 := Aside0.mk (show judgeL 100 (l.drop (i + 1)) (35 :: seen) (p.1, p.2.1, p.2.2.1, n) sp = some R from by have h1 := HJ.out; rw [judgeL_cons, if_neg (by intro h; rcases h with h | h; exact M1.out h; omega), if_pos (show kindB 35 = true from rfl), if_neg (by simpa [flagV] using F1.out), show rdF 100 35 p d = some ((p.1, p.2.1, p.2.2.1, n), true) from by rw [rdF, if_neg (by decide), if_neg (by decide), if_neg (by decide), if_neg (by decide), hn]; rfl, Option.bind_some] at h1; exact h1)
      clear hn
      have he : ∀ args w, (callFunc 43 args).run Try.prog w = .ok (.enter 43 args) w := fun args w => enters_ Try.func43 (by kernel_rfl) rfl args w
      go_wp2_with (first
       | (go_at_call 35; have hh := find_any 35 w7; rw [HKK.out] at hh; dsimp only at hh; (with_reducible refine hh.mono ?_); clear hh; rintro e w8 ⟨rfl, hb8⟩; have HST8 := Aside0.mk (HST7.out.below hb8); have HZ8 := Aside0.mk (blk_below HZ7.out hb8); have u0 : w8.cell? ⟨wr.heap.size, 0, none⟩ = some (.int .i64 fl) := (blk_cell HZ8.out 0).trans rfl; have u1 : w8.cell? ⟨wr.heap.size, 1, none⟩ = some (.int .i64 35) := (blk_cell HZ8.out 1).trans rfl; have u2 : w8.cell? ⟨wr.heap.size, 2, none⟩ = some (.slice A2 d.length c2) := (blk_cell HZ8.out 2).trans rfl; have hlk8 : (Instr.lookup 58 (.map (some (w.heap.size + 1 + 1 + 1))) (.int .i64 35) false).run Try.prog (w8.alloc (.cells #[.int .i64 192, .func (.func 43) #[] #[]] 61)) = .ok (.int .i64 ((cn : Int) + 1)) (w8.alloc (.cells #[.int .i64 192, .func (.func 43) #[] #[]] 61)) := (by have hq := (HST8.out.2.2.2.1.alloc (.cells #[.int .i64 192, .func (.func 43) #[] #[]] 61)).look (T := 58) rfl rfl rfl hwf; rw [List.count_cons_self, ← HCN.out, Int.natCast_add] at hq; exact hq); have HP8 := Aside0.mk (blk_below HP7.out hb8); have HST9 := Aside0.mk (HST8.out.below (below_alloc (Below.refl _ _) (.cells #[.int .i64 192, .func (.func 43) #[] #[]] 61))); have hz8 : wr.heap.size < w8.heap.size := blk_lt HZ8.out; clear hb8)
       | (have hh := otc_any 100 (w.heap.size + 1 + 1) p.1 va p.2.2.1 p.2.2.2 A2 c2 d (w8.alloc (.cells #[.int .i64 192, .func (.func 43) #[] #[]] 61)) (blk_alloc HP8.out _) (Kd.C_below HI2.out HST9.out.2.2.2.2) HL2.out n true HN.out; (with_reducible refine hh.mono ?_); clear hh; rintro e w10 ⟨rfl, hq1, hq2, hq3⟩; have HST10 := Aside0.mk (HST9.out.read (blk_alloc HP8.out _) hq1 hq2 (hq3 w (by omega) HST9.out.2.2.2.2)); clear hq1 hq2 hq3))
      go_roundg k1
      case measure => omega
      case rel =>
       refine ⟨i + 1, sp, 35 :: seen, (p.1, p.2.1, p.2.2.1, n), rfl, by rw [Int.natCast_add]; rfl, ⟨by have := HIK.out; omega, by have := HSL.out; simp only [List.length_cons]; omega, ?_, HST10.out⟩⟩
       exact HJ2.out
    ·
     have f2 : (Go.bits .and .i64 fl 192 != 192) = true := by simp [f1]
     have HJ2 := Aside0.mk (show judgeL 100 (l.drop (i + 1)) (35 :: seen) p true = some R from by have h1 := HJ.out; rw [judgeL_cons, if_neg (by intro h; rcases h with h | h; exact M1.out h; omega), if_pos (show kindB 35 = true from rfl), if_pos (by simpa [flagV] using f1)] at h1; exact h1)
     clear f1
     go_wp2_with (first
      | (go_at_call 35; have hh := find_any 35 w7; rw [HKK.out] at hh; dsimp only at hh; (with_reducible refine hh.mono ?_); clear hh; rintro e w8 ⟨rfl, hb8⟩; have HST8 := Aside0.mk (HST7.out.below hb8); have HZ8 := Aside0.mk (blk_below HZ7.out hb8); have u0 : w8.cell? ⟨wr.heap.size, 0, none⟩ = some (.int .i64 fl) := (blk_cell HZ8.out 0).trans rfl; have u1 : w8.cell? ⟨wr.heap.size, 1, none⟩ = some (.int .i64 35) := (blk_cell HZ8.out 1).trans rfl; have u2 : w8.cell? ⟨wr.heap.size, 2, none⟩ = some (.slice A2 d.length c2) := (blk_cell HZ8.out 2).trans rfl; have hlk8 : (Instr.lookup 58 (.map (some (w.heap.size + 1 + 1 + 1))) (.int .i64 35) false).run Try.prog (w8.alloc (.cells #[.int .i64 192, .func (.func 43) #[] #[]] 61)) = .ok (.int .i64 ((cn : Int) + 1)) (w8.alloc (.cells #[.int .i64 192, .func (.func 43) #[] #[]] 61)) := (by have hq := (HST8.out.2.2.2.1.alloc (.cells #[.int .i64 192, .func (.func 43) #[] #[]] 61)).look (T := 58) rfl rfl rfl hwf; rw [List.count_cons_self, ← HCN.out, Int.natCast_add] at hq; exact hq); have hz8 : wr.heap.size < w8.heap.size := blk_lt HZ8.out; clear hb8))
     go_roundg k1
     case measure => omega
     case rel =>
      refine ⟨i + 1, true, 35 :: seen, p, rfl, by rw [Int.natCast_add]; rfl, ⟨by have := HIK.out; omega, by have := HSL.out; simp only [List.length_cons]; omega, ?_, (HST8.out.below (below_alloc (Below.refl _ _) _))⟩⟩
      exact HJ2.out
   have hkb : kindB ty = false := by simp [kindB, t1, t2, t3, t4, t35]
   have HKK := Aside0.mk (show kindV ty = (0, Value.nilFunc, false) from by unfold kindV; rw [if_neg t1, if_neg t2, if_neg t3, if_neg t4, if_neg t35])
   have HKB := Aside0.mk (show ¬ kindB ty = true from by rw [hkb]; decide)
   clear hkb t1 t2 t3 t4 t35
   by_cases g5 : 5 ≤ ty ∧ ty ≤ 7
   ·
    have HJ2 := Aside0.mk (show judgeL 100 (l.drop (i + 1)) (ty :: seen) p sp = some R from by have h1 := HJ.out; rw [judgeL_cons, if_pos (.inr g5)] at h1; exact h1)
    have e5 : decide ((5 : Int) ≤ ty) = true := decide_eq_true g5.1
    have e7 : decide (ty ≤ (7 : Int)) = true := decide_eq_true g5.2
    clear g5
    go_wp2_with (first
     | (go_at_call 35; have hh := find_any ty w7; rw [HKK.out] at hh; dsimp only at hh; (with_reducible refine hh.mono ?_); clear hh; rintro e w8 ⟨rfl, hb8⟩; have HST8 := Aside0.mk (HST7.out.below hb8); have HZ8 := Aside0.mk (blk_below HZ7.out hb8); have u0 : w8.cell? ⟨wr.heap.size, 0, none⟩ = some (.int .i64 fl) := (blk_cell HZ8.out 0).trans rfl; have u1 : w8.cell? ⟨wr.heap.size, 1, none⟩ = some (.int .i64 ty) := (blk_cell HZ8.out 1).trans rfl; have u2 : w8.cell? ⟨wr.heap.size, 2, none⟩ = some (.slice A2 d.length c2) := (blk_cell HZ8.out 2).trans rfl; have hlk8 : (Instr.lookup 58 (.map (some (w.heap.size + 1 + 1 + 1))) (.int .i64 ty) false).run Try.prog (w8.alloc (.cells #[.int .i64 0, Value.nilFunc] 61)) = .ok (.int .i64 ((cn : Int) + 1)) (w8.alloc (.cells #[.int .i64 0, Value.nilFunc] 61)) := (by have hq := (HST8.out.2.2.2.1.alloc (.cells #[.int .i64 0, Value.nilFunc] 61)).look (T := 58) rfl rfl rfl hwf; rw [List.count_cons_self, ← HCN.out, Int.natCast_add] at hq; exact hq); have HST9 := Aside0.mk (HST8.out.below (below_alloc (Below.refl _ _) (.cells #[.int .i64 0, Value.nilFunc] 61))); have hz8 : wr.heap.size < w8.heap.size := blk_lt HZ8.out; clear hb8))
    go_roundg k1
    case measure => omega
    case rel =>
     refine ⟨i + 1, sp, ty :: seen, p, rfl, by rw [Int.natCast_add]; rfl, ⟨by have := HIK.out; omega, by have := HSL.out; simp only [List.length_cons]; omega, ?_, (HST8.out.below (below_alloc (Below.refl _ _) _))⟩⟩
     exact HJ2.out
   have hg5 : ¬ (ty ∈ seen ∨ (5 ≤ ty ∧ ty ≤ 7)) := fun h => h.elim M1.out g5
   by_cases f1 : Go.bits .and .i64 fl 128 = 0
   ·
    obtain ⟨pb, hpb, hR⟩ : ∃ pb, attr_Put.f 100 [] fl ty d = some pb ∧ R = (0, [], 0, 0, 2, 3, 2, pb) := by
     have h1 := HJ.out
     rw [judgeL_cons, if_neg hg5, if_neg HKB.out, if_pos f1] at h1
     obtain ⟨q, hq, h2⟩ := Option.bind_eq_some_iff.mp h1
     exact ⟨q, hq, (Option.some.inj h2).symm⟩
    subst hR
    have HPB := Aside0.mk hpb
    have f2 : (Go.bits .and .i64 fl 128 == 0) = true := by simp [f1]
    clear hpb f1 hg5
    by_cases h5 : 5 ≤ ty
    ·
     have e5 : decide ((5 : Int) ≤ ty) = true := decide_eq_true h5
     have e7 : decide (ty ≤ (7 : Int)) = false := decide_eq_false (fun h => g5 ⟨h5, h⟩)
     clear h5 g5
     go_wp2_with (first
      | (go_at_call 35; have hh := find_any ty w7; rw [HKK.out] at hh; dsimp only at hh; (with_reducible refine hh.mono ?_); clear hh; rintro e w8 ⟨rfl, hb8⟩; have HST8 := Aside0.mk (HST7.out.below hb8); have HZ8 := Aside0.mk (blk_below HZ7.out hb8); have u0 : w8.cell? ⟨wr.heap.size, 0, none⟩ = some (.int .i64 fl) := (blk_cell HZ8.out 0).trans rfl; have u1 : w8.cell? ⟨wr.heap.size, 1, none⟩ = some (.int .i64 ty) := (blk_cell HZ8.out 1).trans rfl; have u2 : w8.cell? ⟨wr.heap.size, 2, none⟩ = some (.slice A2 d.length c2) := (blk_cell HZ8.out 2).trans rfl; have hlk8 : (Instr.lookup 58 (.map (some (w.heap.size + 1 + 1 + 1))) (.int .i64 ty) false).run Try.prog (w8.alloc (.cells #[.int .i64 0, Value.nilFunc] 61)) = .ok (.int .i64 ((cn : Int) + 1)) (w8.alloc (.cells #[.int .i64 0, Value.nilFunc] 61)) := (by have hq := (HST8.out.2.2.2.1.alloc (.cells #[.int .i64 0, Value.nilFunc] 61)).look (T := 58) rfl rfl rfl hwf; rw [List.count_cons_self, ← HCN.out, Int.natCast_add] at hq; exact hq); have HST9 := Aside0.mk (HST8.out.below (below_alloc (Below.refl _ _) (.cells #[.int .i64 0, Value.nilFunc] 61))); have hz8 : wr.heap.size < w8.heap.size := blk_lt HZ8.out; clear hb8)
      | (go_at_call 16; have hh := attr_Put.calls 100 none 0 [] fl ty A2 c2 d pb (w8.alloc (.cells #[.int .i64 0, Value.nilFunc] 61)) (Kd.C_nil _ _) (Nat.le_refl _) (Kd.C_below HI2.out HST9.out.2.2.2.2) HL2.out HPB.out; refine hh.mono ?_; clear hh; rintro e w10 ⟨v7, rfl, hR7, hb10⟩; obtain ⟨A7, c7, rfl⟩ := Kd.V_slice (Kd.R_V (base' := 0) hR7); have HST10 := Aside0.mk (HST9.out.below hb10); have HR7 := Aside0.mk hR7; have b0 := HST10.out.1; have b1 := HST10.out.2.1; have s0 : w10.cell? ⟨w.heap.size, 0, none⟩ = some (.int .i64 0) := (blk_cell b0 0).trans rfl; have s1 : w10.cell? ⟨w.heap.size, 1, none⟩ = some (.slice none 0 0) := (blk_cell b0 1).trans rfl; have s2 : w10.cell? ⟨w.heap.size, 2, none⟩ = some (.int .i64 0) := (blk_cell b0 2).trans rfl; have s3 : w10.cell? ⟨w.heap.size, 3, none⟩ = some (.int .i64 0) := (blk_cell b0 3).trans rfl; have q0 : w10.cell? ⟨w.heap.size + 1, 0, none⟩ = some (.int .i64 0) := (blk_cell b1 0).trans rfl; have q1 : w10.cell? ⟨w.heap.size + 1, 1, none⟩ = some (.int .i64 0) := (blk_cell b1 1).trans rfl; have q2 : w10.cell? ⟨w.heap.size + 1, 2, none⟩ = some (.slice none 0 0) := (blk_cell b1 2).trans rfl; have fz0 := blk_frozen b0 0; have fz1 := blk_frozen b0 1; have fz2 := blk_frozen b0 2; have fz3 := blk_frozen b0 3; have fy0 := blk_frozen b1 0; have fy1 := blk_frozen b1 1; have fy2 := blk_frozen b1 2; clear hR7 hb10 b0 b1))
     obtain ⟨p1, p2, p3, p4⟩ := judge_puts HST10.out.2.2.2.2 HST10.out.1 HST10.out.2.1 (.int .i64 0) (.slice none 0 0) (.int .i64 0) (.int .i64 0) (.int .i64 3) (.int .i64 2) (.slice A7 pb.length c7) rfl
     refine judge_end p1 p2 rfl rfl rfl (Kd.V_nil _ _ _ _ _) ?_ p4
     have hV7 : Kd.V (Kd.int .u8) 5 w10 w.heap.size (fun k => w.heap.size + 4 ≤ k) (.slice A7 pb.length c7) pb := Kd.V_mono (Kd.R_V (Kd.R_mono (Kd.R_bound HR7.out) (fun _ hk => hk.2.1))) (fun k hk => (by have h1 := HST9.out.2.2.2.1.lt; exact Nat.le_trans h1 hk))
     exact Kd.V_mono (Kd.V_step hV7 (fun k hk hl => p3 k (by omega) (by omega))) (fun k hk => by omega)
    ·
     have e5 : decide ((5 : Int) ≤ ty) = false := decide_eq_false h5
     clear h5 g5
     go_wp2_with (first
      | (go_at_call 35; have hh := find_any ty w7; rw [HKK.out] at hh; dsimp only at hh; (with_reducible refine hh.mono ?_); clear hh; rintro e w8 ⟨rfl, hb8⟩; have HST8 := Aside0.mk (HST7.out.below hb8); have HZ8 := Aside0.mk (blk_below HZ7.out hb8); have u0 : w8.cell? ⟨wr.heap.size, 0, none⟩ = some (.int .i64 fl) := (blk_cell HZ8.out 0).trans rfl; have u1 : w8.cell? ⟨wr.heap.size, 1, none⟩ = some (.int .i64 ty) := (blk_cell HZ8.out 1).trans rfl; have u2 : w8.cell? ⟨wr.heap.size, 2, none⟩ = some (.slice A2 d.length c2) := (blk_cell HZ8.out 2).trans rfl; have hlk8 : (Instr.lookup 58 (.map (some (w.heap.size + 1 + 1 + 1))) (.int .i64 ty) false).run Try.prog (w8.alloc (.cells #[.int .i64 0, Value.nilFunc] 61)) = .ok (.int .i64 ((cn : Int) + 1)) (w8.alloc (.cells #[.int .i64 0, Value.nilFunc] 61)) := (by have hq := (HST8.out.2.2.2.1.alloc (.cells #[.int .i64 0, Value.nilFunc] 61)).look (T := 58) rfl rfl rfl hwf; rw [List.count_cons_self, ← HCN.out, Int.natCast_add] at hq; exact hq); have HST9 := Aside0.mk (HST8.out.below (below_alloc (Below.refl _ _) (.cells #[.int .i64 0, Value.nilFunc] 61))); have hz8 : wr.heap.size < w8.heap.size := blk_lt HZ8.out; clear hb8)
      | (go_at_call 16; have hh := attr_Put.calls 100 none 0 [] fl ty A2 c2 d pb (w8.alloc (.cells #[.int .i64 0, Value.nilFunc] 61)) (Kd.C_nil _ _) (Nat.le_refl _) (Kd.C_below HI2.out HST9.out.2.2.2.2) HL2.out HPB.out; refine hh.mono ?_; clear hh; rintro e w10 ⟨v7, rfl, hR7, hb10⟩; obtain ⟨A7, c7, rfl⟩ := Kd.V_slice (Kd.R_V (base' := 0) hR7); have HST10 := Aside0.mk (HST9.out.below hb10); have HR7 := Aside0.mk hR7; have b0 := HST10.out.1; have b1 := HST10.out.2.1; have s0 : w10.cell? ⟨w.heap.size, 0, none⟩ = some (.int .i64 0) := (blk_cell b0 0).trans rfl; have s1 : w10.cell? ⟨w.heap.size, 1, none⟩ = some (.slice none 0 0) := (blk_cell b0 1).trans rfl; have s2 : w10.cell? ⟨w.heap.size, 2, none⟩ = some (.int .i64 0) := (blk_cell b0 2).trans rfl; have s3 : w10.cell? ⟨w.heap.size, 3, none⟩ = some (.int .i64 0) := (blk_cell b0 3).trans rfl; have q0 : w10.cell? ⟨w.heap.size + 1, 0, none⟩ = some (.int .i64 0) := (blk_cell b1 0).trans rfl; have q1 : w10.cell? ⟨w.heap.size + 1, 1, none⟩ = some (.int .i64 0) := (blk_cell b1 1).trans rfl; have q2 : w10.cell? ⟨w.heap.size + 1, 2, none⟩ = some (.slice none 0 0) := (blk_cell b1 2).trans rfl; have fz0 := blk_frozen b0 0; have fz1 := blk_frozen b0 1; have fz2 := blk_frozen b0 2; have fz3 := blk_frozen b0 3; have fy0 := blk_frozen b1 0; have fy1 := blk_frozen b1 1; have fy2 := blk_frozen b1 2; clear hR7 hb10 b0 b1))
     obtain ⟨p1, p2, p3, p4⟩ := judge_puts HST10.out.2.2.2.2 HST10.out.1 HST10.out.2.1 (.int .i64 0) (.slice none 0 0) (.int .i64 0) (.int .i64 0) (.int .i64 3) (.int .i64 2) (.slice A7 pb.length c7) rfl
     refine judge_end p1 p2 rfl rfl rfl (Kd.V_nil _ _ _ _ _) ?_ p4
     have hV7 : Kd.V (Kd.int .u8) 5 w10 w.heap.size (fun k => w.heap.size + 4 ≤ k) (.slice A7 pb.length c7) pb := Kd.V_mono (Kd.R_V (Kd.R_mono (Kd.R_bound HR7.out) (fun _ hk => hk.2.1))) (fun k hk => (by have h1 := HST9.out.2.2.2.1.lt; exact Nat.le_trans h1 hk))
     exact Kd.V_mono (Kd.V_step hV7 (fun k hk hl => p3 k (by omega) (by omega))) (fun k hk => by omega)
   ·
    have HJ2 := Aside0.mk (show judgeL 100 (l.drop (i + 1)) (ty :: seen) p sp = some R from by have h1 := HJ.out; rw [judgeL_cons, if_neg hg5, if_neg HKB.out, if_neg f1] at h1; exact h1)
    have f2 : (Go.bits .and .i64 fl 128 == 0) = false := by simp [f1]
    clear f1 hg5
    by_cases h5 : 5 ≤ ty
    ·
     have e5 : decide ((5 : Int) ≤ ty) = true := decide_eq_true h5
     have e7 : decide (ty ≤ (7 : Int)) = false := decide_eq_false (fun h => g5 ⟨h5, h⟩)
     clear h5 g5
     go_wp2_with (first
      | (go_at_call 35; have hh := find_any ty w7; rw [HKK.out] at hh; dsimp only at hh; (with_reducible refine hh.mono ?_); clear hh; rintro e w8 ⟨rfl, hb8⟩; have HST8 := Aside0.mk (HST7.out.below hb8); have HZ8 := Aside0.mk (blk_below HZ7.out hb8); have u0 : w8.cell? ⟨wr.heap.size, 0, none⟩ = some (.int .i64 fl) := (blk_cell HZ8.out 0).trans rfl; have u1 : w8.cell? ⟨wr.heap.size, 1, none⟩ = some (.int .i64 ty) := (blk_cell HZ8.out 1).trans rfl; have u2 : w8.cell? ⟨wr.heap.size, 2, none⟩ = some (.slice A2 d.length c2) := (blk_cell HZ8.out 2).trans rfl; have hlk8 : (Instr.lookup 58 (.map (some (w.heap.size + 1 + 1 + 1))) (.int .i64 ty) false).run Try.prog (w8.alloc (.cells #[.int .i64 0, Value.nilFunc] 61)) = .ok (.int .i64 ((cn : Int) + 1)) (w8.alloc (.cells #[.int .i64 0, Value.nilFunc] 61)) := (by have hq := (HST8.out.2.2.2.1.alloc (.cells #[.int .i64 0, Value.nilFunc] 61)).look (T := 58) rfl rfl rfl hwf; rw [List.count_cons_self, ← HCN.out, Int.natCast_add] at hq; exact hq); have HST9 := Aside0.mk (HST8.out.below (below_alloc (Below.refl _ _) (.cells #[.int .i64 0, Value.nilFunc] 61))); have hz8 : wr.heap.size < w8.heap.size := blk_lt HZ8.out; clear hb8))
     go_roundg k1
     case measure => omega
     case rel =>
      refine ⟨i + 1, sp, ty :: seen, p, rfl, by rw [Int.natCast_add]; rfl, ⟨by have := HIK.out; omega, by have := HSL.out; simp only [List.length_cons]; omega, ?_, (HST8.out.below (below_alloc (Below.refl _ _) _))⟩⟩
      exact HJ2.out
    ·
     have e5 : decide ((5 : Int) ≤ ty) = false := decide_eq_false h5
     clear h5 g5
     go_wp2_with (first
      | (go_at_call 35; have hh := find_any ty w7; rw [HKK.out] at hh; dsimp only at hh; (with_reducible refine hh.mono ?_); clear hh; rintro e w8 ⟨rfl, hb8⟩; have HST8 := Aside0.mk (HST7.out.below hb8); have HZ8 := Aside0.mk (blk_below HZ7.out hb8); have u0 : w8.cell? ⟨wr.heap.size, 0, none⟩ = some (.int .i64 fl) := (blk_cell HZ8.out 0).trans rfl; have u1 : w8.cell? ⟨wr.heap.size, 1, none⟩ = some (.int .i64 ty) := (blk_cell HZ8.out 1).trans rfl; have u2 : w8.cell? ⟨wr.heap.size, 2, none⟩ = some (.slice A2 d.length c2) := (blk_cell HZ8.out 2).trans rfl; have hlk8 : (Instr.lookup 58 (.map (some (w.heap.size + 1 + 1 + 1))) (.int .i64 ty) false).run Try.prog (w8.alloc (.cells #[.int .i64 0, Value.nilFunc] 61)) = .ok (.int .i64 ((cn : Int) + 1)) (w8.alloc (.cells #[.int .i64 0, Value.nilFunc] 61)) := (by have hq := (HST8.out.2.2.2.1.alloc (.cells #[.int .i64 0, Value.nilFunc] 61)).look (T := 58) rfl rfl rfl hwf; rw [List.count_cons_self, ← HCN.out, Int.natCast_add] at hq; exact hq); have HST9 := Aside0.mk (HST8.out.below (below_alloc (Below.refl _ _) (.cells #[.int .i64 0, Value.nilFunc] 61))); have hz8 : wr.heap.size < w8.heap.size := blk_lt HZ8.out; clear hb8))
     go_roundg k1
     case measure => omega
     case rel =>
      refine ⟨i + 1, sp, ty :: seen, p, rfl, by rw [Int.natCast_add]; rfl, ⟨by have := HIK.out; omega, by have := HSL.out; simp only [List.length_cons]; omega, ?_, (HST8.out.below (below_alloc (Below.refl _ _) _))⟩⟩
      exact HJ2.out
  ·
   have hn : l.length ≤ i := Nat.le_of_not_lt c1
   have d1 : decide (i < l.length) = false := decide_eq_false c1
   have d1i : decide ((i : Int) < (l.length : Int)) = false := decide_eq_false (by omega)
   rw [List.drop_eq_nil_of_le hn, judgeL] at hj
   have HJ := Aside0.mk (Option.some.inj hj)
   have HST := Aside0.mk hst
   obtain ⟨b0, b1, ⟨va, b2, hN, -⟩, hSn, hB⟩ := hst
   obtain ⟨Aa, ca, rfl⟩ := Kd.N_slice hN
   have s0 : wr.cell? ⟨w.heap.size, 0, none⟩ = some (.int .i64 0) := (blk_cell b0 0).trans rfl
   have s1 : wr.cell? ⟨w.heap.size, 1, none⟩ = some (.slice none 0 0) := (blk_cell b0 1).trans rfl
   have s2 : wr.cell? ⟨w.heap.size, 2, none⟩ = some (.int .i64 0) := (blk_cell b0 2).trans rfl
   have s3 : wr.cell? ⟨w.heap.size, 3, none⟩ = some (.int .i64 0) := (blk_cell b0 3).trans rfl
   have q0 : wr.cell? ⟨w.heap.size + 1, 0, none⟩ = some (.int .i64 0) := (blk_cell b1 0).trans rfl
   have q1 : wr.cell? ⟨w.heap.size + 1, 1, none⟩ = some (.int .i64 0) := (blk_cell b1 1).trans rfl
   have q2 : wr.cell? ⟨w.heap.size + 1, 2, none⟩ = some (.slice none 0 0) := (blk_cell b1 2).trans rfl
   have r0 : wr.cell? ⟨w.heap.size + 1 + 1, 0, none⟩ = some (.int .i64 p.1) := (blk_cell b2 0).trans rfl
   have r1 : wr.cell? ⟨w.heap.size + 1 + 1, 1, none⟩ = some (.slice Aa p.2.1.length ca) := (blk_cell b2 1).trans rfl
   have r2 : wr.cell? ⟨w.heap.size + 1 + 1, 2, none⟩ = some (.int .i64 p.2.2.1) := (blk_cell b2 2).trans rfl
   have r3 : wr.cell? ⟨w.heap.size + 1 + 1, 3, none⟩ = some (.int .i64 p.2.2.2) := (blk_cell b2 3).trans rfl
   have fz0 := blk_frozen b0 0
   have fz1 := blk_frozen b0 1
   have fz2 := blk_frozen b0 2
   have fz3 := blk_frozen b0 3
   have fy0 := blk_frozen b1 0
   have fy1 := blk_frozen b1 1
   have fy2 := blk_frozen b1 2
   have HN := Aside0.mk hN
   have HB := Aside0.mk hB
   have cts : ∀ t : Int, ∃ k : Int, k = (seen.count t : Int) ∧ ((t ∈ seen → (k == 0) = false) ∧ (t ∉ seen → (k == 0) = true)) := fun t => ⟨_, rfl, fun h => by have := List.count_pos_iff.2 h; simp; omega, fun h => by have := List.count_eq_zero.2 h; simp [this]⟩
   have lk : ∀ t : Int, (Lit.int .i64 t).wf = true → ∀ k : Int, k = (seen.count t : Int) → (Instr.lookup 58 (.map (some (w.heap.size + 1 + 1 + 1))) (.int .i64 t) false).run Try.prog wr = .ok (.int .i64 k) wr := fun t ht k hk => by rw [hk]; exact hSn.look rfl rfl rfl ht
   obtain ⟨k1, hk1, k1a, k1b⟩ := cts 1
   obtain ⟨k2, hk2, k2a, k2b⟩ := cts 2
   obtain ⟨k3, hk3, k3a, k3b⟩ := cts 3
   have lk1 := lk 1 (lit_wf (by decide)) k1 hk1
   have lk2 := lk 2 (lit_wf (by decide)) k2 hk2
   have lk3 := lk 3 (lit_wf (by decide)) k3 hk3
   have spoilt : sp = true ∨ 1 ∉ seen ∨ 2 ∉ seen ∨ 3 ∉ seen → R = (0, [], 0, 0, 1, 0, 0, []) := fun h => by have h1 := HJ.out; rw [if_pos h] at h1; exact h1.symm
   have good : ¬ (sp = true ∨ 1 ∉ seen ∨ 2 ∉ seen ∨ 3 ∉ seen) → R = (p.1, p.2.1, p.2.2.1, p.2.2.2, 0, 0, 0, []) := fun h => by have h1 := HJ.out; rw [if_neg h] at h1; exact h1.symm
   have SPO := Aside0.mk spoilt
   have GOO := Aside0.mk good
   have K1 := Aside0.mk (And.intro k1a k1b)
   have K2 := Aside0.mk (And.intro k2a k2b)
   have K3 := Aside0.mk (And.intro k3a k3b)
   have HB0 := Aside0.mk b0
   have HB1 := Aside0.mk b1
   clear hj HI hik hsl b0 b1 b2 hN hSn hB cts lk k1a k1b k2a k2b k3a k3b hk1 hk2 hk3 spoilt good hl c1
   cases sp
   ·
    have e0 : (spI false == 1) = false := rfl
    by_cases n1 : 1 ∈ seen
    rotate_left
    ·
     have m1 : 1 ∉ seen := n1
     have z1 := K1.out.2 m1
     have hR := SPO.out (.inr (.inl m1))
     subst hR
     go_wp2
     obtain ⟨p1, p2, p3, p4⟩ := judge_puts HB.out HB0.out HB1.out (.int .i64 0) (.slice none 0 0) (.int .i64 0) (.int .i64 0) (.int .i64 0) (.int .i64 0) (.slice none 0 0) rfl
     exact judge_end p1 p2 rfl rfl rfl (Kd.V_nil _ _ _ _ _) (Kd.V_nil _ _ _ _ _) p4
    have z1 := K1.out.1 n1
    by_cases n2 : 2 ∈ seen
    rotate_left
    ·
     have m2 : 2 ∉ seen := n2
     have z2 := K2.out.2 m2
     have hR := SPO.out (.inr (.inr (.inl m2)))
     subst hR
     go_wp2
     obtain ⟨p1, p2, p3, p4⟩ := judge_puts HB.out HB0.out HB1.out (.int .i64 0) (.slice none 0 0) (.int .i64 0) (.int .i64 0) (.int .i64 0) (.int .i64 0) (.slice none 0 0) rfl
     exact judge_end p1 p2 rfl rfl rfl (Kd.V_nil _ _ _ _ _) (Kd.V_nil _ _ _ _ _) p4
    have z2 := K2.out.1 n2
    by_cases n3 : 3 ∈ seen
    rotate_left
    ·
     have m3 : 3 ∉ seen := n3
     have z3 := K3.out.2 m3
     have hR := SPO.out (.inr (.inr (.inr m3)))
     subst hR
     go_wp2
     obtain ⟨p1, p2, p3, p4⟩ := judge_puts HB.out HB0.out HB1.out (.int .i64 0) (.slice none 0 0) (.int .i64 0) (.int .i64 0) (.int .i64 0) (.int .i64 0) (.slice none 0 0) rfl
     exact judge_end p1 p2 rfl rfl rfl (Kd.V_nil _ _ _ _ _) (Kd.V_nil _ _ _ _ _) p4
    have z3 := K3.out.1 n3
    have hR := GOO.out (fun h => by rcases h with h | h | h | h; cases h; exact h n1; exact h n2; exact h n3)
    subst hR
    go_wp2
    obtain ⟨p1, p2, p3, p4⟩ := judge_puts HB.out HB0.out HB1.out (.int .i64 p.1) (.slice Aa p.2.1.length ca) (.int .i64 p.2.2.1) (.int .i64 p.2.2.2) (.int .i64 0) (.int .i64 0) (.slice none 0 0) rfl
    refine judge_end p1 p2 rfl rfl rfl ?_ (Kd.V_nil _ _ _ _ _) p4
    exact Kd.V_mono (Kd.V_step (Kd.N_V HN.out) (fun k hk hl => p3 k (by omega) (by omega))) (fun k hk => by omega)
   ·
    have e0 : (spI true == 1) = true := rfl
    have hR := SPO.out (.inl rfl)
    subst hR
    go_wp2
    obtain ⟨p1, p2, p3, p4⟩ := judge_puts HB.out HB0.out HB1.out (.int .i64 0) (.slice none 0 0) (.int .i64 0) (.int .i64 0) (.int .i64 0) (.int .i64 0) (.slice none 0 0) rfl
    exact judge_end p1 p2 rfl rfl rfl (Kd.V_nil _ _ _ _ _) (Kd.V_nil _ _ _ _ _) p4

def attr_Judge.f (l0 : List S24) : Option (Int × List Int × Int × Int × Int × Int × Int × List Int) := if ((l0.all fun a => octB a.f2 && (decide (-9223372036854775808 ≤ a.f1) && decide (a.f1 ≤ 9223372036854775807))) && decide (l0.length < 1000000)) = true then judgeL 100 l0 [] (0, [], 0, 0) false else none
theorem attr_Judge.calls (A0 : Option Addr) (c0 : Nat) (l0 : List S24) (r0 : Int) (r1 : List Int) (r2 r3 r4 r5 r6 : Int) (r7 : List Int) (w : World) (hr0 : Kd.C k24 w A0 l0.length l0) (hc0 : l0.length ≤ c0) (h : attr_Judge.f l0 = some (r0, r1, r2, r3, r4, r5, r6, r7)) :
 Calls Try.prog 23 #[.slice A0 l0.length c0] w fun e w' => ∃ v1_ v7_ : Value, e = .returned (.tuple #[.agg #[.int .i64 r0, v1_, .int .i64 r2, .int .i64 r3], .int .i64 r4, .agg #[.int .i64 r5, .int .i64 r6, v7_]]) ∧
  Kd.V (Kd.int .i64) 3 w' w.heap.size (fun k_ => w.heap.size ≤ k_) v1_ r1 ∧ Kd.V (Kd.int .u8) 5 w' w.heap.size (fun k_ => w.heap.size ≤ k_) v7_ r7 ∧ Below w.heap.size w w' := by
 unfold attr_Judge.f at h
 by_cases c : ((l0.all fun a => octB a.f2 && (decide (-9223372036854775808 ≤ a.f1) && decide (a.f1 ≤ 9223372036854775807))) && decide (l0.length < 1000000)) = true
 ·
  rw [if_pos c] at h
  simp only [Bool.and_eq_true, List.all_eq_true, decide_eq_true_eq] at c
  exact judge_any A0 c0 l0 w (r0, r1, r2, r3, r4, r5, r6, r7) hr0 hc0 (fun a ha => ⟨(c.1 a ha).1, (c.1 a ha).2.1, (c.1 a ha).2.2⟩) c.2 h
 ·
  rw [if_neg c] at h
  cases h

end Go.Proofs.Ytfmhclbcoladpaa.E
