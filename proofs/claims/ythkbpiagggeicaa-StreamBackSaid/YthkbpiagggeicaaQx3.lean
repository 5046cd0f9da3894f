/- Each call of a Go function comes to what the Lean function of its name answers (written out by wip/tools/xprint.py, checked by Lean); conditions: those in each statement. -/
import Derived.Test.YthkbpiagggeicaaQx0
namespace Go.Proofs.Ythkbpiagggeicaa.Q
open Go.RowKit Go.Proofs.YthkbpiagggeicaaW.PrintWords Go.Proofs.YthkbpiagggeicaaW.PrintLast Go.Proofs.YthkbpiagggeicaaW.PrintMore Go.Proofs.YthkbpiagggeicaaW.PrintX
attribute [local go_sem] max2_int min2_int max_two min_two max_three min_three max_four min_four   -- for this text's walks alone
set_option linter.unusedVariables false
set_option linter.unusedSimpArgs false

/-! ### slices_Concat_byte_byte: function 17 -/
set_option maxHeartbeats 8000000 in
set_option maxRecDepth 100000 in
theorem grow_nil (n : Nat) (hn : n ≤ 100000000000) (w0 w : World) (hB : Below w0.heap.size w0 w) :
  Calls Try.prog 26 #[.slice none 0 0, .int .i64 (n : Int)] w fun e w' => ∃ v, e = .returned v ∧ Kd.R (Kd.int .u8) 5 w' w0.heap.size (fun _ => True) v [] ∧ Below w0.heap.size w0 w' := by
 have HB := Aside0.mk hB
 clear hB
 by_cases h0 : n = 0
 ·
  subst h0
  go_enter Try.func26, Try.ntmps26
  go_wp2
  go_ret
  exact ⟨_, rfl, Kd.R_nil _ _ _ _ _, HB.out⟩
 ·
  have c0 : decide ((n : Int) < 0) = false := decide_eq_false (by omega)
  have c1 : decide (0 < (n : Int)) = true := decide_eq_true (by omega)
  have c2 : 0 < n := by omega
  have HN := Aside0.mk hn
  clear hn h0
  obtain ⟨i0, hi0, _⟩ := Option.map_eq_some_iff.1 info5
  have HI := Aside0.mk hi0
  clear hi0
  have b0 : (n : Int) ≤ 100000000000 := by have := HN.out; omega
  have b1 : (0 : Int) ≤ (n : Int) := by omega
  go_enter Try.func26, Try.ntmps26
  go_wp2_with (first | ((with_reducible refine gate_builtin (b := .append) (xs := #[.tmp 20, .tmp 21]) rfl ?_); at_builtin; refine Kd.R_append_zeros (Kd.int .u8) (kx := .i64) (w0 := w0) w0.heap.size rfl (.tmp 20) (.tmp 21) 22 3 5 (.int .u8 0) 1 rfl Try.underlying22 Try.underlying3 info5 rfl (by decide) (by decide) (.slice none 0 0) [] 0 (n : Int) (fun _ => True) ?aQ ?ax rfl (fun _ _ => trivial) (Kd.R_nil _ _ _ _ _) (by omega) HB.out (below_size HB.out) ?al ?_; (case aQ => rfl); (case ax => first | rfl | (simp [Act.eval]; done)); (case al => have := HN.out; simp only [List.length_nil]; omega); intro v1 w1 hR hb1 hg1 hat1; obtain ⟨A1, cc1, rfl, hlc, hC⟩ := Kd.R_reads hR; have hs1 := cut_to (P := Try.prog) 22 5 .i64 Try.underlying22 HI.out A1 ([] ++ List.replicate (n : Int).toNat (0 : Int)).length cc1 0 (by omega) (by omega) hlc; clear hC hg1 hat1))
  go_ret
  have h2 := Kd.R_take hR (m := 0) (by omega)
  exact ⟨_, rfl, h2, hb1⟩
theorem cat_at {w : World} {A : Option Addr} {n : Nat} {xs : List (List Int)} (h : Kd.C (Kd.slice 5 (Kd.int .u8)) w A n xs) (i : Int) (h0 : 0 ≤ i) (h1 : i < n) : ∃ ad A0 c0, A = some ad ∧ w.cell? (ad.add i.toNat) = some (.slice A0 (xs.getD i.toNat []).length c0) ∧ (xs.getD i.toNat []).length ≤ c0 ∧ (Kd.int .u8).C w A0 (xs.getD i.toNat []).length (xs.getD i.toNat []) := by
 obtain ⟨ad, c, e, _, hK, hc0⟩ := Kd.C_get h ([] : List Int) i h0 h1
 have hc : ∀ j u, c[j]? = some u → w.cell? (ad.add (i.toNat * 1 + j)) = some u := hc0
 obtain ⟨A0, c0, rfl, l0, g0⟩ := hK
 exact ⟨ad, A0, c0, e, by have hq := hc 0 _ rfl; rwa [Nat.mul_one, Nat.add_zero] at hq, l0, g0⟩
theorem flat_step (l : List (List Int)) (i : Nat) (h : i < l.length) : (l.take (i + 1)).flatten = (l.take i).flatten ++ l.getD i [] := by
 rw [List.take_succ_eq_append_getElem h, List.flatten_append]
 simp [h]
theorem flat_le (l : List (List Int)) (i : Nat) : (l.take i).flatten.length ≤ l.flatten.length := by
 have h : l.flatten = (l.take i).flatten ++ (l.drop i).flatten := by rw [← List.flatten_append, List.take_append_drop]
 rw [h, List.length_append]
 omega
def slices_Concat_byte_byte.f (l0 : List (List Int)) : Option (List Int) := if l0.length < 1000000 ∧ l0.flatten.length < 100000000000 then some l0.flatten else none
set_option maxHeartbeats 8000000 in
set_option maxRecDepth 100000 in
theorem slices_Concat_byte_byte.calls (A0 : Option Addr) (c0 : Nat) (l0 : List (List Int)) (r : List Int) (w : World) (hr0 : Kd.C (Kd.slice 5 (Kd.int .u8)) w A0 l0.length l0) (hc0 : l0.length ≤ c0) (h : slices_Concat_byte_byte.f l0 = some r) :
  Calls Try.prog 17 #[.slice A0 l0.length c0] w fun e w' => ∃ v0_ : Value, e = .returned (v0_) ∧ Kd.R (Kd.int .u8) 5 w' w.heap.size (fun _ => True) v0_ r ∧ Below w.heap.size w w' := by
 unfold slices_Concat_byte_byte.f at h
 by_cases hl : l0.length < 1000000 ∧ l0.flatten.length < 100000000000
 case neg => rw [if_neg hl] at h; cases h
 rw [if_pos hl] at h
 obtain rfl := Option.some.inj h
 have HR := Aside0.mk hr0
 have HL := Aside0.mk hl
 clear hr0 hc0 hl h
 go_enter Try.func17, Try.ntmps17
 go_wp2
 go_loopg [3, 11] l0.length (fun kq v3 v11 w2 => ∃ (i s : Nat), v3 = .int .i64 (s : Int) ∧ v11 = .int .i64 (i : Int) ∧ Aside0 (i + kq = l0.length) ∧ Aside0 (s = (l0.take i).flatten.length) ∧ Aside0 (Below w.heap.size w w2))
 case atStart => exact ⟨0, 0, rfl, rfl, ⟨by simp⟩, ⟨rfl⟩, ⟨Below.refl _ _⟩⟩
 case round =>
  obtain ⟨i, s, rfl, rfl, H1, H2, H3⟩ := hrel
  cases gk with
  | succ k1 =>
   have hlt : i < l0.length := by have := H1.out; omega
   have p1 : 0 ≤ (i : Int) := by omega
   have q1 : (i : Int) < (l0.length : Int) := by omega
   have c1 : decide ((i : Int) < (l0.length : Int)) = true := decide_eq_true q1
   obtain ⟨ad1, A1, cc1, e1, x0, hlc, hC⟩ := cat_at (Kd.C_below HR.out H3.out) (i : Int) p1 q1
   cases e1
   simp only [Int.toNat_natCast] at x0 hlc
   have hst := flat_step l0 i hlt
   have hle := flat_le l0 (i + 1)
   rw [hst, List.length_append] at hle
   have b0 : (s : Int) + ((l0.getD i []).length : Int) ≤ 100000000000 := by have := H2.out; have := HL.out.2; omega
   have H5 : Aside0 (s + (l0.getD i []).length = (l0.take (i + 1)).flatten.length) := ⟨by rw [hst, List.length_append, H2.out]⟩
   have b1 : (i : Int) ≤ 1000000 := by have := HL.out.1; omega
   clear hC hst hle hlc
   generalize (l0.getD i []).length = m at *
   go_wp2
   go_roundg k1
   case measure => omega
   case rel => exact ⟨i + 1, s + m, by simp, by simp, ⟨by have := H1.out; omega⟩, H5, H3⟩
  | zero =>
   have hi : i = l0.length := by have := H1.out; omega
   subst hi
   have hs : s = l0.flatten.length := by have := H2.out; rwa [List.take_length] at this
   have c1 : decide ((l0.length : Int) < (l0.length : Int)) = false := by simp
   have b0 : (s : Int) ≤ 100000000000 := by have := HL.out.2; omega
   have HG := Aside0.mk (grow_nil s (by omega) w wr H3.out)
   clear H1 H2 hs
   go_wp2_with (first | ((go_at_call 26; refine HG.out.mono ?_; rintro e w2 ⟨v6, rfl, hR, hB⟩)))
   clear HG b0 H3
   go_loopg [6, 27] l0.length (fun kq v6 v27 w2 => ∃ (i : Nat) (vv : Value), vv = v6 ∧ v27 = .int .i64 (i : Int) ∧ Aside0 (i + kq = l0.length) ∧ Aside0 (Kd.R (Kd.int .u8) 5 w2 w.heap.size (fun _ => True) v6 (l0.take i).flatten) ∧ Aside0 (Below w.heap.size w w2))
   case atStart => exact ⟨0, _, rfl, rfl, ⟨by simp⟩, ⟨by simpa using hR⟩, ⟨hB⟩⟩
   case round =>
    clear hR hB
    obtain ⟨i, vv, hvv, rfl, H1, H2, H3⟩ := hrel
    subst hvv
    cases gk with
    | succ k1 =>
     have hlt : i < l0.length := by have := H1.out; omega
     have p1 : 0 ≤ (i : Int) := by omega
     have q1 : (i : Int) < (l0.length : Int) := by omega
     have c1 : decide ((i : Int) < (l0.length : Int)) = true := decide_eq_true q1
     obtain ⟨ad1, A1, cc1, e1, x0, hlc, hC⟩ := cat_at (Kd.C_below HR.out H3.out) (i : Int) p1 q1
     cases e1
     simp only [Int.toNat_natCast] at x0 hlc hC
     have b1 : (i : Int) ≤ 1000000 := by have := HL.out.1; omega
     have H5 : Aside0 ((l0.take (i + 1)).flatten = (l0.take i).flatten ++ l0.getD i []) := ⟨flat_step l0 i hlt⟩
     have H6 : Aside0 (((l0.take i).flatten.length + (l0.getD i []).length) * 1 ≤ 140737488355328) := ⟨by have := flat_le l0 (i + 1); rw [H5.out, List.length_append] at this; have := HL.out.2; omega⟩
     have HC := Aside0.mk hC
     clear hC hlc
     generalize hx : l0.getD i [] = x at *
     clear hx
     generalize hy : (l0.take i).flatten = y at *
     clear hy
     go_wp2_with (first | ((with_reducible refine gate_builtin (b := .append) (xs := #[.tmp 31, .tmp 32]) rfl ?_); at_builtin; refine Kd.R_append_rows (Kd.int .u8) (w0 := w) w.heap.size rfl (.tmp 31) (.tmp 32) 22 5 (.int .u8 0) 1 rfl Try.underlying22 info5 rfl (by decide) (by omega) vv y x _ _ _ (fun _ => True) (fun _ => False) rfl rfl H2.out ?aR (fun _ _ h => h) (fun _ h => h.elim) (fun _ _ => trivial) H3.out (below_size H3.out) H6.out ?_; (case aR => exact HC.out); intro v2 w8 ho hb hg hat; clear hg hat))
     go_roundg k1
     case measure => omega
     case rel => exact ⟨i + 1, _, rfl, by simp, ⟨by have := H1.out; omega⟩, ⟨by rw [H5.out]; exact ho⟩, ⟨hb⟩⟩
    | zero =>
     have hi : i = l0.length := by have := H1.out; omega
     subst hi
     have c1 : decide ((l0.length : Int) < (l0.length : Int)) = false := by simp
     go_wp2
     go_ret
     exact ⟨_, rfl, by have := H2.out; rwa [List.take_length] at this, H3.out⟩

-- NOT PRINTED: function 27 (stream_messages_1)

-- NOT PRINTED: function 18 (stream_messages)

end Go.Proofs.Ythkbpiagggeicaa.Q
