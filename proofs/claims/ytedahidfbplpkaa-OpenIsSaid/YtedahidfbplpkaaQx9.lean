/- Each call of a Go function comes to what the Lean function of its name answers (written out by wip/tools/xprint.py, checked by Lean); conditions: those in each statement. -/
import Derived.Test.YtedahidfbplpkaaQx0
import Derived.Test.YtedahidfbplpkaaQx3
import Derived.Test.YtedahidfbplpkaaQx5
import Derived.Test.YtedahidfbplpkaaQx6
import Derived.Test.YtedahidfbplpkaaQx8
namespace Go.Proofs.Ytedahidfbplpkaa.Q
open Go.RowKit Go.Proofs.YtedahidfbplpkaaW.PrintWords Go.Proofs.YtedahidfbplpkaaW.PrintLast Go.Proofs.YtedahidfbplpkaaW.PrintMore Go.Proofs.YtedahidfbplpkaaW.PrintX
attribute [local go_sem] max2_int min2_int max_two min_two max_three min_three max_four min_four   -- for this text's walks alone
set_option linter.unusedVariables false
set_option linter.unusedSimpArgs false

/-! ### ridgewayref06_Get: function 10 -/
theorem ridgewayref06_Get.but {w w1 w3 : World} {t : Int} {A0 : Option Addr} {n c0 : Nat} {o : Obj} (h : GOT w w1 t A0 n c0) (hk : KeepBut (w1.alloc o) w3 w1.heap.size none) (hB : Below w.heap.size w w3) : GOT w w3 t A0 n c0 := by
 have s1 := blk_lt h.1
 have s2 := blk_lt h.2.1
 have s3 := blk_lt h.2.2.1
 exact ⟨hk.blk (blk_alloc h.1 _) (by omega) (by simp), hk.blk (blk_alloc h.2.1 _) (by omega) (by simp), hk.blk (blk_alloc h.2.2.1 _) (by omega) (by simp), hB⟩
theorem ridgewayref06_Get.st {w W : World} {g : Nat} {a r s : Int} {h : Bool} (k : IsS52 w W g a h r s) : W.cell? ⟨g, 0, none⟩ = some (.int .i64 a) ∧ W.cell? ⟨g, 1, none⟩ = some (.bool h) ∧ W.cell? ⟨g, 2, none⟩ = some (.int .i64 r) ∧ W.cell? ⟨g, 3, none⟩ = some (.int .i64 s) :=
 ⟨(blk_cell k.1 0).trans rfl, (blk_cell k.1 1).trans rfl, (blk_cell k.1 2).trans rfl, (blk_cell k.1 3).trans rfl⟩
theorem ridgewayref06_Get.rv {w' : World} {v : Value} {xs : List Int} {b : Nat} (h : Kd.R (Kd.int .u8) 5 w' b (fun _ => True) v xs) : Kd.V (Kd.int .u8) 5 w' b (fun k => b ≤ k) v xs := Kd.R_V (Kd.R_mono (Kd.R_bound h) (fun _ hk => hk.2.1))
theorem ridgewayref06_Get.params_at (w w1 : World) (A10 : Option Addr) (c0 : Nat) (l0 : List Int) (a r s : Int) (h : Bool) (hb : Below w.heap.size w w1)
  (hV : ∀ W : World, Below w.heap.size w W → Kd.V (Kd.int .u8) 5 W W.heap.size (fun k => k < w.heap.size) (.slice A10 (l0.drop 10).length (c0 - 10)) (l0.drop 10)) (he : ridgewayref06_reader_params.f 5000 0 false (-1) (-1) (l0.drop 10) = some (a, h, r, s)) :
  Calls Try.prog 26 #[.pointer (some ⟨w1.heap.size, 0, none⟩), .slice A10 (l0.length - 10) (c0 - 10)] (w1.alloc (Obj.cells #[.int .i64 0, .bool false, .int .i64 (-1), .int .i64 (-1)] 52)) fun e w' =>
   e = .returned (.tuple #[]) ∧ IsS52 w w' w1.heap.size a h r s ∧ Below w.heap.size w w' ∧ KeepBut (w1.alloc (Obj.cells #[.int .i64 0, .bool false, .int .i64 (-1), .int .i64 (-1)] 52)) w' w1.heap.size none := by
 have sz := below_size hb
 have hc := ridgewayref06_reader_params.calls 5000 w1.heap.size 0 false (-1) (-1) (fun k => k < w.heap.size) A10 (c0 - 10) (l0.drop 10) a h r s w (w1.alloc (Obj.cells #[.int .i64 0, .bool false, .int .i64 (-1), .int .i64 (-1)] 52)) (IsS52.new w w1 0 false (-1) (-1) hb) (below_alloc hb _) (Kd.V_mono (hV _ (below_alloc hb _)) (fun k hk => ⟨hk, by have hk := hk; omega⟩)) he
 rw [List.length_drop] at hc
 exact hc
theorem ridgewayref06_Get.zz {w : World} {ad : Addr} {l0 : List Int} (hr0 : Kd.C (Kd.int .u8) w (some ad) l0.length l0) (hl : 10 ≤ l0.length) (W : World) (hb : Below w.heap.size w W) : W.cell? ad = some (.int .u8 (rd l0 0)) ∧ W.cell? ⟨ad.block, ad.off + 9, none⟩ = some (.int .u8 (rd l0 9)) := by
 obtain ⟨ad1, e1, z0⟩ := Kd.at_int (Kd.C_below hr0 hb) (0 : Int) (by omega) (by omega)
 obtain ⟨ad2, e2, z9⟩ := Kd.at_int (Kd.C_below hr0 hb) (9 : Int) (by omega) (by omega)
 injection e1 with e1
 injection e2 with e2
 subst e1
 subst e2
 rw [Int.toNat_zero, Addr.add_zero'] at z0
 exact ⟨z0, z9⟩
set_option maxHeartbeats 8000000 in
set_option maxRecDepth 100000 in
theorem ridgewayref06_Get.bad0a (t : Int) (A0 : Option Addr) (c0 : Nat) (l0 : List Int) (ax : Int) (w : World) (h1 : t ≠ 1)  (hr0 : Kd.C (Kd.int .u8) w A0 l0.length l0) (hc0 : l0.length ≤ c0) :
  Calls Try.prog 10 #[.agg #[.int .i64 t, .slice A0 l0.length c0], .int .i64 ax] w fun e w' => ∃ v6_ : Value, e = .returned (.tuple #[.agg #[.int .i64 0, .int .i64 0, .int .i64 0, .int .i64 0], .agg #[.int .i64 2, .int .i64 0, v6_]]) ∧ Kd.V (Kd.int .u8) 5 w' w.heap.size (fun k_ => (w.heap.size ≤ k_)) v6_ [] ∧ Below w.heap.size w w' := by
 have HR0 := Aside0.mk hr0
 have HC0 := Aside0.mk hc0
 have HG0 := Aside0.mk (got0 w (((w.alloc (Obj.cells #[.int .i64 t, .slice A0 l0.length c0] 26)).alloc (Obj.cells #[.int .i64 0, .int .i64 0, .int .i64 0, .int .i64 0] 23)).alloc (Obj.cells #[.int .i64 0, .int .i64 0, .slice none 0 0] 29)) t A0 l0 c0 (Below.refl _ _))
 clear hr0 hc0
 have d1 : (t == 1) = false := by simp [h1]
 have d2 : (t != 1) = true := by simp [h1]
 go_enter Try.func10, Try.ntmps10
 go_wp2_with (first
  | (go_at_call 25; (refine (ridgewayref06_bad.calls 0 0 0 0 0 2 0 [] _ rfl).mono ?_); rintro e wb ⟨v6, rfl, hR6, hbb⟩; have hV6 := ridgewayref06_Get.rv hR6; obtain ⟨A6, c6, rfl⟩ := Kd.V_slice hV6; simp only [List.length_nil]; have HGT := Aside0.mk (HG0.out.below hbb); skip; obtain ⟨⟨cm0, cm1⟩, ⟨ch0, ch1, ch2, ch3⟩, ⟨cn0, cn1, cn2⟩, ⟨fh0, fh1, fh2, fh3⟩, ⟨fn0, fn1, fn2⟩⟩ := HGT.out.cells; have HV6 := Aside0.mk hV6; clear hR6 hV6 hbb))
 refine bodyPost_ret (results_cc rfl _ _ (w.heap.size + 1) (w.heap.size + 2) 23 29 #[.int .i64 0, .int .i64 0, .int .i64 0, .int .i64 0] #[.int .i64 2, .int .i64 0, .slice A6 0 c6] (0, 0) (0, 0) _ _ rfl (store3_far (store4 HGT.out.b4 _ _ _ _) (by omega) _ _ _) Try.underlying23 rfl (by kernel_rfl) rfl (store3 (store4_far HGT.out.b5 (by omega) _ _ _ _) _ _ _) Try.underlying29 rfl (by kernel_rfl)) rfl ?_
 exact ⟨_, rfl, fin7 HV6.out (fun k hk => by have q1 := blk_lt HG0.out.b4; have q2 := blk_lt HG0.out.b5; have hk := hk; (try simp only [World.heap_drewN] at hk); omega) HGT.out.low (by omega) (by omega) _ _ _ _ _ _ _⟩
set_option maxHeartbeats 8000000 in
set_option maxRecDepth 100000 in
theorem ridgewayref06_Get.bad0b (t : Int) (A0 : Option Addr) (c0 : Nat) (l0 : List Int) (ax : Int) (w : World) (h1 : t = 1) (hs : ridgewayref03_Sane.f t l0 = some false)  (hr0 : Kd.C (Kd.int .u8) w A0 l0.length l0) (hc0 : l0.length ≤ c0) :
  Calls Try.prog 10 #[.agg #[.int .i64 t, .slice A0 l0.length c0], .int .i64 ax] w fun e w' => ∃ v6_ : Value, e = .returned (.tuple #[.agg #[.int .i64 0, .int .i64 0, .int .i64 0, .int .i64 0], .agg #[.int .i64 2, .int .i64 0, v6_]]) ∧ Kd.V (Kd.int .u8) 5 w' w.heap.size (fun k_ => (w.heap.size ≤ k_)) v6_ [] ∧ Below w.heap.size w w' := by
 have HR0 := Aside0.mk hr0
 have HC0 := Aside0.mk hc0
 have HG0 := Aside0.mk (got0 w (((w.alloc (Obj.cells #[.int .i64 t, .slice A0 l0.length c0] 26)).alloc (Obj.cells #[.int .i64 0, .int .i64 0, .int .i64 0, .int .i64 0] 23)).alloc (Obj.cells #[.int .i64 0, .int .i64 0, .slice none 0 0] 29)) t A0 l0 c0 (Below.refl _ _))
 clear hr0 hc0
 have d1 : (t == 1) = true := by simp [h1]
 have d2 : (t != 1) = false := by simp [h1]
 have HS := Aside0.mk hs
 clear hs h1
 go_enter Try.func10, Try.ntmps10
 go_wp2_with (first
  | (go_at_call 24; (with_reducible refine (ridgewayref03_Sane.calls t A0 c0 l0 false _ (Kd.C_alloc (Kd.C_alloc (Kd.C_alloc HR0.out _) _) _) HC0.out HS.out).mono ?_); rintro e w1 ⟨rfl, hb1⟩; have HG1 := Aside0.mk (got0 w w1 t A0 l0 c0 hb1); obtain ⟨⟨cm0, cm1⟩, ⟨ch0, ch1, ch2, ch3⟩, ⟨cn0, cn1, cn2⟩, ⟨fh0, fh1, fh2, fh3⟩, ⟨fn0, fn1, fn2⟩⟩ := HG1.out.cells; clear hb1)
  | (go_at_call 25; (refine (ridgewayref06_bad.calls 0 0 0 0 0 2 0 [] _ rfl).mono ?_); rintro e wb ⟨v6, rfl, hR6, hbb⟩; have hV6 := ridgewayref06_Get.rv hR6; obtain ⟨A6, c6, rfl⟩ := Kd.V_slice hV6; simp only [List.length_nil]; have HGT := Aside0.mk (HG1.out.below hbb); clear cm0 cm1 ch0 ch1 ch2 ch3 cn0 cn1 cn2 fh0 fh1 fh2 fh3 fn0 fn1 fn2; obtain ⟨⟨cm0, cm1⟩, ⟨ch0, ch1, ch2, ch3⟩, ⟨cn0, cn1, cn2⟩, ⟨fh0, fh1, fh2, fh3⟩, ⟨fn0, fn1, fn2⟩⟩ := HGT.out.cells; have HV6 := Aside0.mk hV6; clear hR6 hV6 hbb))
 refine bodyPost_ret (results_cc rfl _ _ (w.heap.size + 1) (w.heap.size + 2) 23 29 #[.int .i64 0, .int .i64 0, .int .i64 0, .int .i64 0] #[.int .i64 2, .int .i64 0, .slice A6 0 c6] (0, 0) (0, 0) _ _ rfl (store3_far (store4 HGT.out.b4 _ _ _ _) (by omega) _ _ _) Try.underlying23 rfl (by kernel_rfl) rfl (store3 (store4_far HGT.out.b5 (by omega) _ _ _ _) _ _ _) Try.underlying29 rfl (by kernel_rfl)) rfl ?_
 exact ⟨_, rfl, fin7 HV6.out (fun k hk => by have q1 := blk_lt HG1.out.b4; have q2 := blk_lt HG1.out.b5; have hk := hk; (try simp only [World.heap_drewN] at hk); omega) HGT.out.low (by omega) (by omega) _ _ _ _ _ _ _⟩
set_option maxHeartbeats 8000000 in
set_option maxRecDepth 100000 in
theorem ridgewayref06_Get.bad1 (t : Int) (A0 : Option Addr) (c0 : Nat) (l0 : List Int) (ax : Int) (w : World) (h1 : t = 1) (hs : ridgewayref03_Sane.f t l0 = some true) (hl : 10 ≤ l0.length) (hl2 : l0.length ≤ 5000) (p0 : 0 ≤ rd l0 9) (p1 : rd l0 9 < 256) (h4 : rd l0 0 ≠ 4) (hr0 : Kd.C (Kd.int .u8) w A0 l0.length l0) (hc0 : l0.length ≤ c0) :
  Calls Try.prog 10 #[.agg #[.int .i64 t, .slice A0 l0.length c0], .int .i64 ax] w fun e w' => ∃ v6_ : Value, e = .returned (.tuple #[.agg #[.int .i64 0, .int .i64 0, .int .i64 0, .int .i64 0], .agg #[.int .i64 2, .int .i64 1, v6_]]) ∧ Kd.V (Kd.int .u8) 5 w' w.heap.size (fun k_ => (w.heap.size ≤ k_)) v6_ [0, 4] ∧ Below w.heap.size w w' := by
 have HR0 := Aside0.mk hr0
 have HC0 := Aside0.mk hc0
 have HG0 := Aside0.mk (got0 w (((w.alloc (Obj.cells #[.int .i64 t, .slice A0 l0.length c0] 26)).alloc (Obj.cells #[.int .i64 0, .int .i64 0, .int .i64 0, .int .i64 0] 23)).alloc (Obj.cells #[.int .i64 0, .int .i64 0, .slice none 0 0] 29)) t A0 l0 c0 (Below.refl _ _))
 obtain ⟨ad, rfl, -⟩ := hr0.2.2 (by omega)
 have HZ := Aside0.mk (ridgewayref06_Get.zz hr0 hl)
 clear hr0 hc0
 have q0 : (10 : Int) ≤ (l0.length : Int) := by omega
 have q1 : (l0.length : Int) ≤ 5000 := by omega
 have d1 : (t == 1) = true := by simp [h1]
 have d2 : (t != 1) = false := by simp [h1]
 have HS := Aside0.mk hs
 clear hs h1
 have d3 : (rd l0 0 == 4) = false := by simp [h4]
 have d4 : (rd l0 0 != 4) = true := by simp [h4]
 go_enter Try.func10, Try.ntmps10
 go_wp2_with (first
  | (go_at_call 24; (with_reducible refine (ridgewayref03_Sane.calls t (some ad) c0 l0 true _ (Kd.C_alloc (Kd.C_alloc (Kd.C_alloc HR0.out _) _) _) HC0.out HS.out).mono ?_); rintro e w1 ⟨rfl, hb1⟩; have HG1 := Aside0.mk (got0 w w1 t (some ad) l0 c0 hb1); obtain ⟨⟨cm0, cm1⟩, ⟨ch0, ch1, ch2, ch3⟩, ⟨cn0, cn1, cn2⟩, ⟨fh0, fh1, fh2, fh3⟩, ⟨fn0, fn1, fn2⟩⟩ := HG1.out.cells; obtain ⟨z0, z9⟩ := HZ.out w1 HG1.out.low; clear hb1; have HGL := Aside0.mk (show GOT w (w1.alloc (Obj.cells #[.int .u8 0, .int .u8 4] 5)) t (some ad) l0.length c0 from HG1.out.below (below_alloc (Below.refl _ _) _)); obtain ⟨⟨bm0, bm1⟩, ⟨bh0, bh1, bh2, bh3⟩, ⟨bn0, bn1, bn2⟩, ⟨bfh0, bfh1, bfh2, bfh3⟩, ⟨bfn0, bfn1, bfn2⟩⟩ := HGL.out.cells))
 have HV6 := Aside0.mk (Kd.R_V (base' := 0) (R_at8 (R_lit8 w1 w1.heap.size 5 (Nat.le_refl _) [0, 4] (by simp))))
 have HGT := Aside0.mk (HG1.out.below (below_alloc (Below.refl _ _) (Obj.cells ([0, 4].map (Value.int .u8)).toArray 5)))
 refine bodyPost_ret (results_cc rfl _ _ (w.heap.size + 1) (w.heap.size + 2) 23 29 #[.int .i64 0, .int .i64 0, .int .i64 0, .int .i64 0] #[.int .i64 2, .int .i64 1, .slice (some ⟨w1.heap.size, 0, none⟩) 2 2] (0, 0) (0, 0) _ _ rfl (store3_far (store4 HGT.out.b4 _ _ _ _) (by omega) _ _ _) Try.underlying23 rfl (by kernel_rfl) rfl (store3 (store4_far HGT.out.b5 (by omega) _ _ _ _) _ _ _) Try.underlying29 rfl (by kernel_rfl)) rfl ?_
 exact ⟨_, rfl, fin7 HV6.out (fun k hk => by have q1 := blk_lt HG1.out.b4; have q2 := blk_lt HG1.out.b5; have hk := hk; omega) HGT.out.low (by omega) (by omega) _ _ _ _ _ _ _⟩
set_option maxHeartbeats 8000000 in
set_option maxRecDepth 100000 in
theorem ridgewayref06_Get.bad0c (t : Int) (A0 : Option Addr) (c0 : Nat) (l0 : List Int) (ax : Int) (w : World) (h1 : t = 1) (hs : ridgewayref03_Sane.f t l0 = some true) (hl : 10 ≤ l0.length) (hl2 : l0.length ≤ 5000) (p0 : 0 ≤ rd l0 9) (p1 : rd l0 9 < 256) (h4 : rd l0 0 = 4) (h5 : rd l0 9 ≠ (l0.length : Int) - 10) (hr0 : Kd.C (Kd.int .u8) w A0 l0.length l0) (hc0 : l0.length ≤ c0) :
  Calls Try.prog 10 #[.agg #[.int .i64 t, .slice A0 l0.length c0], .int .i64 ax] w fun e w' => ∃ v6_ : Value, e = .returned (.tuple #[.agg #[.int .i64 0, .int .i64 0, .int .i64 0, .int .i64 0], .agg #[.int .i64 2, .int .i64 0, v6_]]) ∧ Kd.V (Kd.int .u8) 5 w' w.heap.size (fun k_ => (w.heap.size ≤ k_)) v6_ [] ∧ Below w.heap.size w w' := by
 have HR0 := Aside0.mk hr0
 have HC0 := Aside0.mk hc0
 have HG0 := Aside0.mk (got0 w (((w.alloc (Obj.cells #[.int .i64 t, .slice A0 l0.length c0] 26)).alloc (Obj.cells #[.int .i64 0, .int .i64 0, .int .i64 0, .int .i64 0] 23)).alloc (Obj.cells #[.int .i64 0, .int .i64 0, .slice none 0 0] 29)) t A0 l0 c0 (Below.refl _ _))
 obtain ⟨ad, rfl, -⟩ := hr0.2.2 (by omega)
 have HZ := Aside0.mk (ridgewayref06_Get.zz hr0 hl)
 clear hr0 hc0
 have q0 : (10 : Int) ≤ (l0.length : Int) := by omega
 have q1 : (l0.length : Int) ≤ 5000 := by omega
 have d1 : (t == 1) = true := by simp [h1]
 have d2 : (t != 1) = false := by simp [h1]
 have HS := Aside0.mk hs
 clear hs h1
 have d3 : (rd l0 0 == 4) = true := by simp [h4]
 have d4 : (rd l0 0 != 4) = false := by simp [h4]
 clear h4
 have d5 : (rd l0 9 == (l0.length : Int) - 10) = false := by simp [h5]
 have d6 : (rd l0 9 != (l0.length : Int) - 10) = true := by simp [h5]
 go_enter Try.func10, Try.ntmps10
 go_wp2_with (first
  | (go_at_call 24; (with_reducible refine (ridgewayref03_Sane.calls t (some ad) c0 l0 true _ (Kd.C_alloc (Kd.C_alloc (Kd.C_alloc HR0.out _) _) _) HC0.out HS.out).mono ?_); rintro e w1 ⟨rfl, hb1⟩; have HG1 := Aside0.mk (got0 w w1 t (some ad) l0 c0 hb1); obtain ⟨⟨cm0, cm1⟩, ⟨ch0, ch1, ch2, ch3⟩, ⟨cn0, cn1, cn2⟩, ⟨fh0, fh1, fh2, fh3⟩, ⟨fn0, fn1, fn2⟩⟩ := HG1.out.cells; obtain ⟨z0, z9⟩ := HZ.out w1 HG1.out.low; clear hb1)
  | (go_at_call 25; (refine (ridgewayref06_bad.calls 0 0 0 0 0 2 0 [] _ rfl).mono ?_); rintro e wb ⟨v6, rfl, hR6, hbb⟩; have hV6 := ridgewayref06_Get.rv hR6; obtain ⟨A6, c6, rfl⟩ := Kd.V_slice hV6; simp only [List.length_nil]; have HGT := Aside0.mk (HG1.out.below hbb); clear cm0 cm1 ch0 ch1 ch2 ch3 cn0 cn1 cn2 fh0 fh1 fh2 fh3 fn0 fn1 fn2 z0 z9; obtain ⟨⟨cm0, cm1⟩, ⟨ch0, ch1, ch2, ch3⟩, ⟨cn0, cn1, cn2⟩, ⟨fh0, fh1, fh2, fh3⟩, ⟨fn0, fn1, fn2⟩⟩ := HGT.out.cells; have HV6 := Aside0.mk hV6; clear hR6 hV6 hbb))
 refine bodyPost_ret (results_cc rfl _ _ (w.heap.size + 1) (w.heap.size + 2) 23 29 #[.int .i64 0, .int .i64 0, .int .i64 0, .int .i64 0] #[.int .i64 2, .int .i64 0, .slice A6 0 c6] (0, 0) (0, 0) _ _ rfl (store3_far (store4 HGT.out.b4 _ _ _ _) (by omega) _ _ _) Try.underlying23 rfl (by kernel_rfl) rfl (store3 (store4_far HGT.out.b5 (by omega) _ _ _ _) _ _ _) Try.underlying29 rfl (by kernel_rfl)) rfl ?_
 exact ⟨_, rfl, fin7 HV6.out (fun k hk => by have q1 := blk_lt HG1.out.b4; have q2 := blk_lt HG1.out.b5; have hk := hk; (try simp only [World.heap_drewN] at hk); omega) HGT.out.low (by omega) (by omega) _ _ _ _ _ _ _⟩
set_option maxHeartbeats 8000000 in
set_option maxRecDepth 100000 in
theorem ridgewayref06_Get.badE (t : Int) (A0 : Option Addr) (c0 : Nat) (l0 : List Int) (ax : Int) (w : World) (h1 : t = 1) (hs : ridgewayref03_Sane.f t l0 = some true) (hl : 10 ≤ l0.length) (hl2 : l0.length ≤ 5000) (p0 : 0 ≤ rd l0 9) (p1 : rd l0 9 < 256) (h4 : rd l0 0 = 4) (h5 : rd l0 9 = (l0.length : Int) - 10) (a r s : Int) (hh_ : Bool) (he : ridgewayref06_reader_params.f 5000 0 false (-1) (-1) (l0.drop 10) = some (a, hh_, r, s)) (g1 : 0 ≤ s) (hr0 : Kd.C (Kd.int .u8) w A0 l0.length l0) (hc0 : l0.length ≤ c0) :
  Calls Try.prog 10 #[.agg #[.int .i64 t, .slice A0 l0.length c0], .int .i64 ax] w fun e w' => ∃ v6_ : Value, e = .returned (.tuple #[.agg #[.int .i64 0, .int .i64 0, .int .i64 0, .int .i64 0], .agg #[.int .i64 2, .int .i64 s, v6_]]) ∧ Kd.V (Kd.int .u8) 5 w' w.heap.size (fun k_ => (w.heap.size ≤ k_)) v6_ [] ∧ Below w.heap.size w w' := by
 have HR0 := Aside0.mk hr0
 have HC0 := Aside0.mk hc0
 have HG0 := Aside0.mk (got0 w (((w.alloc (Obj.cells #[.int .i64 t, .slice A0 l0.length c0] 26)).alloc (Obj.cells #[.int .i64 0, .int .i64 0, .int .i64 0, .int .i64 0] 23)).alloc (Obj.cells #[.int .i64 0, .int .i64 0, .slice none 0 0] 29)) t A0 l0 c0 (Below.refl _ _))
 obtain ⟨ad, rfl, -⟩ := hr0.2.2 (by omega)
 have HZ := Aside0.mk (ridgewayref06_Get.zz hr0 hl)
 obtain ⟨A10, hcut10, hV10⟩ : ∃ A1 : Option Addr, (∀ W' : World, (Instr.slice 24 (.slice (some ad) l0.length c0) (some (.int .i64 10)) none none).run Try.prog W' = .ok (.slice A1 (l0.length - 10) (c0 - 10)) W') ∧ ∀ W : World, Below w.heap.size w W → Kd.V (Kd.int .u8) 5 W W.heap.size (fun k => k < w.heap.size) (.slice A1 (l0.drop 10).length (c0 - 10)) (l0.drop 10) := came_drop w (some ad) c0 l0 10 hr0 hc0 (by omega) (by omega)
 have HV10 := Aside0.mk hV10
 clear hV10
 clear hr0 hc0
 have q0 : (10 : Int) ≤ (l0.length : Int) := by omega
 have q1 : (l0.length : Int) ≤ 5000 := by omega
 have d1 : (t == 1) = true := by simp [h1]
 have d2 : (t != 1) = false := by simp [h1]
 have HS := Aside0.mk hs
 clear hs h1
 have d3 : (rd l0 0 == 4) = true := by simp [h4]
 have d4 : (rd l0 0 != 4) = false := by simp [h4]
 clear h4
 have d5 : (rd l0 9 == (l0.length : Int) - 10) = true := by simp [h5]
 have d6 : (rd l0 9 != (l0.length : Int) - 10) = false := by simp [h5]
 clear h5
 have HE := Aside0.mk he
 clear he
 have d7 : decide (s ≥ 0) = true := decide_eq_true g1
 have d7' : decide (0 ≤ s) = true := decide_eq_true g1
 go_enter Try.func10, Try.ntmps10
 go_wp2_with (first
  | (go_at_call 24; (with_reducible refine (ridgewayref03_Sane.calls t (some ad) c0 l0 true _ (Kd.C_alloc (Kd.C_alloc (Kd.C_alloc HR0.out _) _) _) HC0.out HS.out).mono ?_); rintro e w1 ⟨rfl, hb1⟩; have HG1 := Aside0.mk (got0 w w1 t (some ad) l0 c0 hb1); obtain ⟨⟨cm0, cm1⟩, ⟨ch0, ch1, ch2, ch3⟩, ⟨cn0, cn1, cn2⟩, ⟨fh0, fh1, fh2, fh3⟩, ⟨fn0, fn1, fn2⟩⟩ := HG1.out.cells; obtain ⟨z0, z9⟩ := HZ.out w1 HG1.out.low; clear hb1)
  | (go_at_call 26; (with_reducible refine (ridgewayref06_Get.params_at w w1 A10 c0 l0 a r s hh_ HG1.out.low HV10.out HE.out).mono ?_); rintro e w3 ⟨rfl, hS3, hB3, hk3⟩; have HG3 := Aside0.mk (ridgewayref06_Get.but HG1.out hk3 hB3); have HS3 := Aside0.mk hS3; clear cm0 cm1 ch0 ch1 ch2 ch3 cn0 cn1 cn2 fh0 fh1 fh2 fh3 fn0 fn1 fn2 z0 z9; obtain ⟨⟨cm0, cm1⟩, ⟨ch0, ch1, ch2, ch3⟩, ⟨cn0, cn1, cn2⟩, ⟨fh0, fh1, fh2, fh3⟩, ⟨fn0, fn1, fn2⟩⟩ := HG3.out.cells; obtain ⟨m0, m1, m2, m3⟩ := ridgewayref06_Get.st HS3.out; clear hS3 hB3 hk3)
  | (go_at_call 25; (refine (ridgewayref06_bad.calls s 0 0 0 0 2 s [] _ rfl).mono ?_); rintro e wb ⟨v6, rfl, hR6, hbb⟩; have hV6 := ridgewayref06_Get.rv hR6; obtain ⟨A6, c6, rfl⟩ := Kd.V_slice hV6; simp only [List.length_nil]; have HGT := Aside0.mk (HG3.out.below hbb); clear cm0 cm1 ch0 ch1 ch2 ch3 cn0 cn1 cn2 fh0 fh1 fh2 fh3 fn0 fn1 fn2 m0 m1 m2 m3; obtain ⟨⟨cm0, cm1⟩, ⟨ch0, ch1, ch2, ch3⟩, ⟨cn0, cn1, cn2⟩, ⟨fh0, fh1, fh2, fh3⟩, ⟨fn0, fn1, fn2⟩⟩ := HGT.out.cells; have HV6 := Aside0.mk hV6; clear hR6 hV6 hbb))
 refine bodyPost_ret (results_cc rfl _ _ (w.heap.size + 1) (w.heap.size + 2) 23 29 #[.int .i64 0, .int .i64 0, .int .i64 0, .int .i64 0] #[.int .i64 2, .int .i64 s, .slice A6 0 c6] (0, 0) (0, 0) _ _ rfl (store3_far (store4 HGT.out.b4 _ _ _ _) (by omega) _ _ _) Try.underlying23 rfl (by kernel_rfl) rfl (store3 (store4_far HGT.out.b5 (by omega) _ _ _ _) _ _ _) Try.underlying29 rfl (by kernel_rfl)) rfl ?_
 exact ⟨_, rfl, fin7 HV6.out (fun k hk => by have q1 := blk_lt HG3.out.b4; have q2 := blk_lt HG3.out.b5; have hk := hk; (try simp only [World.heap_drewN] at hk); omega) HGT.out.low (by omega) (by omega) _ _ _ _ _ _ _⟩
set_option maxHeartbeats 8000000 in
set_option maxRecDepth 100000 in
theorem ridgewayref06_Get.bad7 (t : Int) (A0 : Option Addr) (c0 : Nat) (l0 : List Int) (ax : Int) (w : World) (h1 : t = 1) (hs : ridgewayref03_Sane.f t l0 = some true) (hl : 10 ≤ l0.length) (hl2 : l0.length ≤ 5000) (p0 : 0 ≤ rd l0 9) (p1 : rd l0 9 < 256) (h4 : rd l0 0 = 4) (h5 : rd l0 9 = (l0.length : Int) - 10) (a r s : Int) (hh_ : Bool) (he : ridgewayref06_reader_params.f 5000 0 false (-1) (-1) (l0.drop 10) = some (a, hh_, r, s)) (g1 : s < 0) (g2 : hh_ = false) (hr0 : Kd.C (Kd.int .u8) w A0 l0.length l0) (hc0 : l0.length ≤ c0) :
  Calls Try.prog 10 #[.agg #[.int .i64 t, .slice A0 l0.length c0], .int .i64 ax] w fun e w' => ∃ v6_ : Value, e = .returned (.tuple #[.agg #[.int .i64 0, .int .i64 0, .int .i64 0, .int .i64 0], .agg #[.int .i64 2, .int .i64 7, v6_]]) ∧ Kd.V (Kd.int .u8) 5 w' w.heap.size (fun k_ => (w.heap.size ≤ k_)) v6_ [65, 0] ∧ Below w.heap.size w w' := by
 have HR0 := Aside0.mk hr0
 have HC0 := Aside0.mk hc0
 have HG0 := Aside0.mk (got0 w (((w.alloc (Obj.cells #[.int .i64 t, .slice A0 l0.length c0] 26)).alloc (Obj.cells #[.int .i64 0, .int .i64 0, .int .i64 0, .int .i64 0] 23)).alloc (Obj.cells #[.int .i64 0, .int .i64 0, .slice none 0 0] 29)) t A0 l0 c0 (Below.refl _ _))
 obtain ⟨ad, rfl, -⟩ := hr0.2.2 (by omega)
 have HZ := Aside0.mk (ridgewayref06_Get.zz hr0 hl)
 obtain ⟨A10, hcut10, hV10⟩ : ∃ A1 : Option Addr, (∀ W' : World, (Instr.slice 24 (.slice (some ad) l0.length c0) (some (.int .i64 10)) none none).run Try.prog W' = .ok (.slice A1 (l0.length - 10) (c0 - 10)) W') ∧ ∀ W : World, Below w.heap.size w W → Kd.V (Kd.int .u8) 5 W W.heap.size (fun k => k < w.heap.size) (.slice A1 (l0.drop 10).length (c0 - 10)) (l0.drop 10) := came_drop w (some ad) c0 l0 10 hr0 hc0 (by omega) (by omega)
 have HV10 := Aside0.mk hV10
 clear hV10
 clear hr0 hc0
 have q0 : (10 : Int) ≤ (l0.length : Int) := by omega
 have q1 : (l0.length : Int) ≤ 5000 := by omega
 have d1 : (t == 1) = true := by simp [h1]
 have d2 : (t != 1) = false := by simp [h1]
 have HS := Aside0.mk hs
 clear hs h1
 have d3 : (rd l0 0 == 4) = true := by simp [h4]
 have d4 : (rd l0 0 != 4) = false := by simp [h4]
 clear h4
 have d5 : (rd l0 9 == (l0.length : Int) - 10) = true := by simp [h5]
 have d6 : (rd l0 9 != (l0.length : Int) - 10) = false := by simp [h5]
 clear h5
 have HE := Aside0.mk he
 clear he
 subst g2
 have d7 : decide (s ≥ 0) = false := decide_eq_false (by omega)
 have d7' : decide (0 ≤ s) = false := decide_eq_false (by omega)
 go_enter Try.func10, Try.ntmps10
 go_wp2_with (first
  | (go_at_call 24; (with_reducible refine (ridgewayref03_Sane.calls t (some ad) c0 l0 true _ (Kd.C_alloc (Kd.C_alloc (Kd.C_alloc HR0.out _) _) _) HC0.out HS.out).mono ?_); rintro e w1 ⟨rfl, hb1⟩; have HG1 := Aside0.mk (got0 w w1 t (some ad) l0 c0 hb1); obtain ⟨⟨cm0, cm1⟩, ⟨ch0, ch1, ch2, ch3⟩, ⟨cn0, cn1, cn2⟩, ⟨fh0, fh1, fh2, fh3⟩, ⟨fn0, fn1, fn2⟩⟩ := HG1.out.cells; obtain ⟨z0, z9⟩ := HZ.out w1 HG1.out.low; clear hb1)
  | (go_at_call 26; (with_reducible refine (ridgewayref06_Get.params_at w w1 A10 c0 l0 a r s false HG1.out.low HV10.out HE.out).mono ?_); rintro e w3 ⟨rfl, hS3, hB3, hk3⟩; have HG3 := Aside0.mk (ridgewayref06_Get.but HG1.out hk3 hB3); have HS3 := Aside0.mk hS3; clear cm0 cm1 ch0 ch1 ch2 ch3 cn0 cn1 cn2 fh0 fh1 fh2 fh3 fn0 fn1 fn2 z0 z9; obtain ⟨⟨cm0, cm1⟩, ⟨ch0, ch1, ch2, ch3⟩, ⟨cn0, cn1, cn2⟩, ⟨fh0, fh1, fh2, fh3⟩, ⟨fn0, fn1, fn2⟩⟩ := HG3.out.cells; obtain ⟨m0, m1, m2, m3⟩ := ridgewayref06_Get.st HS3.out; clear hS3 hB3 hk3; have HGL := Aside0.mk (show GOT w (w3.alloc (Obj.cells #[.int .u8 65, .int .u8 0] 5)) t (some ad) l0.length c0 from HG3.out.below (below_alloc (Below.refl _ _) _)); obtain ⟨⟨bm0, bm1⟩, ⟨bh0, bh1, bh2, bh3⟩, ⟨bn0, bn1, bn2⟩, ⟨bfh0, bfh1, bfh2, bfh3⟩, ⟨bfn0, bfn1, bfn2⟩⟩ := HGL.out.cells))
 have HV6 := Aside0.mk (Kd.R_V (base' := 0) (R_at8 (R_lit8 w3 w3.heap.size 5 (Nat.le_refl _) [65, 0] (by simp))))
 have HGT := Aside0.mk (HG3.out.below (below_alloc (Below.refl _ _) (Obj.cells ([65, 0].map (Value.int .u8)).toArray 5)))
 refine bodyPost_ret (results_cc rfl _ _ (w.heap.size + 1) (w.heap.size + 2) 23 29 #[.int .i64 0, .int .i64 0, .int .i64 0, .int .i64 0] #[.int .i64 2, .int .i64 7, .slice (some ⟨w3.heap.size, 0, none⟩) 2 2] (0, 0) (0, 0) _ _ rfl (store3_far (store4 HGT.out.b4 _ _ _ _) (by omega) _ _ _) Try.underlying23 rfl (by kernel_rfl) rfl (store3 (store4_far HGT.out.b5 (by omega) _ _ _ _) _ _ _) Try.underlying29 rfl (by kernel_rfl)) rfl ?_
 exact ⟨_, rfl, fin7 HV6.out (fun k hk => by have q1 := blk_lt HG3.out.b4; have q2 := blk_lt HG3.out.b5; have hk := hk; omega) HGT.out.low (by omega) (by omega) _ _ _ _ _ _ _⟩
set_option maxHeartbeats 8000000 in
set_option maxRecDepth 100000 in
theorem ridgewayref06_Get.bad2a (t : Int) (A0 : Option Addr) (c0 : Nat) (l0 : List Int) (ax : Int) (w : World) (h1 : t = 1) (hs : ridgewayref03_Sane.f t l0 = some true) (hl : 10 ≤ l0.length) (hl2 : l0.length ≤ 5000) (p0 : 0 ≤ rd l0 9) (p1 : rd l0 9 < 256) (h4 : rd l0 0 = 4) (h5 : rd l0 9 = (l0.length : Int) - 10) (a r s : Int) (hh_ : Bool) (he : ridgewayref06_reader_params.f 5000 0 false (-1) (-1) (l0.drop 10) = some (a, hh_, r, s)) (g1 : s < 0) (g2 : hh_ = true) (f1 f3 f5 : Int) (r1 r3 r5 : List Int) (o1 o3 o5 : Bool) (e1 : ridgewayref01_Get.f 8 (l0.drop 1) 2 = some (f1, r1, o1)) (e3 : ridgewayref01_Get.f 8 (l0.drop 3) 2 = some (f3, r3, o3)) (e5 : ridgewayref01_Get.f 8 (l0.drop 5) 4 = some (f5, r5, o5)) (k1 : a = 0) (hr0 : Kd.C (Kd.int .u8) w A0 l0.length l0) (hc0 : l0.length ≤ c0) :
  Calls Try.prog 10 #[.agg #[.int .i64 t, .slice A0 l0.length c0], .int .i64 ax] w fun e w' => ∃ v6_ : Value, e = .returned (.tuple #[.agg #[.int .i64 0, .int .i64 0, .int .i64 0, .int .i64 0], .agg #[.int .i64 2, .int .i64 2, v6_]]) ∧ Kd.V (Kd.int .u8) 5 w' w.heap.size (fun k_ => (w.heap.size ≤ k_)) v6_ [] ∧ Below w.heap.size w w' := by
 have HR0 := Aside0.mk hr0
 have HC0 := Aside0.mk hc0
 have HG0 := Aside0.mk (got0 w (((w.alloc (Obj.cells #[.int .i64 t, .slice A0 l0.length c0] 26)).alloc (Obj.cells #[.int .i64 0, .int .i64 0, .int .i64 0, .int .i64 0] 23)).alloc (Obj.cells #[.int .i64 0, .int .i64 0, .slice none 0 0] 29)) t A0 l0 c0 (Below.refl _ _))
 obtain ⟨ad, rfl, -⟩ := hr0.2.2 (by omega)
 have HZ := Aside0.mk (ridgewayref06_Get.zz hr0 hl)
 obtain ⟨A10, hcut10, hV10⟩ : ∃ A1 : Option Addr, (∀ W' : World, (Instr.slice 24 (.slice (some ad) l0.length c0) (some (.int .i64 10)) none none).run Try.prog W' = .ok (.slice A1 (l0.length - 10) (c0 - 10)) W') ∧ ∀ W : World, Below w.heap.size w W → Kd.V (Kd.int .u8) 5 W W.heap.size (fun k => k < w.heap.size) (.slice A1 (l0.drop 10).length (c0 - 10)) (l0.drop 10) := came_drop w (some ad) c0 l0 10 hr0 hc0 (by omega) (by omega)
 have HV10 := Aside0.mk hV10
 clear hV10
 obtain ⟨A1, hcut1, hV1⟩ : ∃ A1 : Option Addr, (∀ W' : World, (Instr.slice 24 (.slice (some ad) l0.length c0) (some (.int .i64 1)) none none).run Try.prog W' = .ok (.slice A1 (l0.length - 1) (c0 - 1)) W') ∧ ∀ W : World, Below w.heap.size w W → Kd.V (Kd.int .u8) 5 W W.heap.size (fun k => k < w.heap.size) (.slice A1 (l0.drop 1).length (c0 - 1)) (l0.drop 1) := came_drop w (some ad) c0 l0 1 hr0 hc0 (by omega) (by omega)
 have HV1 := Aside0.mk hV1
 clear hV1
 obtain ⟨A3, hcut3, hV3⟩ : ∃ A1 : Option Addr, (∀ W' : World, (Instr.slice 24 (.slice (some ad) l0.length c0) (some (.int .i64 3)) none none).run Try.prog W' = .ok (.slice A1 (l0.length - 3) (c0 - 3)) W') ∧ ∀ W : World, Below w.heap.size w W → Kd.V (Kd.int .u8) 5 W W.heap.size (fun k => k < w.heap.size) (.slice A1 (l0.drop 3).length (c0 - 3)) (l0.drop 3) := came_drop w (some ad) c0 l0 3 hr0 hc0 (by omega) (by omega)
 have HV3 := Aside0.mk hV3
 clear hV3
 obtain ⟨A5, hcut5, hV5⟩ : ∃ A1 : Option Addr, (∀ W' : World, (Instr.slice 24 (.slice (some ad) l0.length c0) (some (.int .i64 5)) none none).run Try.prog W' = .ok (.slice A1 (l0.length - 5) (c0 - 5)) W') ∧ ∀ W : World, Below w.heap.size w W → Kd.V (Kd.int .u8) 5 W W.heap.size (fun k => k < w.heap.size) (.slice A1 (l0.drop 5).length (c0 - 5)) (l0.drop 5) := came_drop w (some ad) c0 l0 5 hr0 hc0 (by omega) (by omega)
 have HV5 := Aside0.mk hV5
 clear hV5
 clear hr0 hc0
 have q0 : (10 : Int) ≤ (l0.length : Int) := by omega
 have q1 : (l0.length : Int) ≤ 5000 := by omega
 have d1 : (t == 1) = true := by simp [h1]
 have d2 : (t != 1) = false := by simp [h1]
 have HS := Aside0.mk hs
 clear hs h1
 have d3 : (rd l0 0 == 4) = true := by simp [h4]
 have d4 : (rd l0 0 != 4) = false := by simp [h4]
 clear h4
 have d5 : (rd l0 9 == (l0.length : Int) - 10) = true := by simp [h5]
 have d6 : (rd l0 9 != (l0.length : Int) - 10) = false := by simp [h5]
 clear h5
 have HE := Aside0.mk he
 clear he
 have E1 := Aside0.mk e1
 have E3 := Aside0.mk e3
 have E5 := Aside0.mk e5
 clear e1 e3 e5
 subst g2
 have d7 : decide (s ≥ 0) = false := decide_eq_false (by omega)
 have d7' : decide (0 ≤ s) = false := decide_eq_false (by omega)
 have d8 : (a == 0) = true := by simp [k1]
 go_enter Try.func10, Try.ntmps10
 go_wp2_with (first
  | (go_at_call 24; (with_reducible refine (ridgewayref03_Sane.calls t (some ad) c0 l0 true _ (Kd.C_alloc (Kd.C_alloc (Kd.C_alloc HR0.out _) _) _) HC0.out HS.out).mono ?_); rintro e w1 ⟨rfl, hb1⟩; have HG1 := Aside0.mk (got0 w w1 t (some ad) l0 c0 hb1); obtain ⟨⟨cm0, cm1⟩, ⟨ch0, ch1, ch2, ch3⟩, ⟨cn0, cn1, cn2⟩, ⟨fh0, fh1, fh2, fh3⟩, ⟨fn0, fn1, fn2⟩⟩ := HG1.out.cells; obtain ⟨z0, z9⟩ := HZ.out w1 HG1.out.low; clear hb1)
  | (go_at_call 26; (with_reducible refine (ridgewayref06_Get.params_at w w1 A10 c0 l0 a r s true HG1.out.low HV10.out HE.out).mono ?_); rintro e w3 ⟨rfl, hS3, hB3, hk3⟩; have HG3 := Aside0.mk (ridgewayref06_Get.but HG1.out hk3 hB3); have HS3 := Aside0.mk hS3; clear cm0 cm1 ch0 ch1 ch2 ch3 cn0 cn1 cn2 fh0 fh1 fh2 fh3 fn0 fn1 fn2 z0 z9; obtain ⟨⟨cm0, cm1⟩, ⟨ch0, ch1, ch2, ch3⟩, ⟨cn0, cn1, cn2⟩, ⟨fh0, fh1, fh2, fh3⟩, ⟨fn0, fn1, fn2⟩⟩ := HG3.out.cells; obtain ⟨m0, m1, m2, m3⟩ := ridgewayref06_Get.st HS3.out; clear hS3 hB3 hk3)
  | (go_at_call 27; have hg := ridgewayref01_Get.calls 8 (fun k => k < w.heap.size) A1 (c0 - 1) (l0.drop 1) 2 f1 r1 o1 w3 (HV1.out w3 HG3.out.low) E1.out; rw [List.length_drop] at hg; (with_reducible refine hg.mono ?_); clear hg; rintro e w4 ⟨v4, rfl, hV4x, hb4⟩; obtain ⟨A4x, c4x, rfl⟩ := Kd.V_slice hV4x; have HG4 := Aside0.mk (HG3.out.below hb4); have HS4 := Aside0.mk (HS3.out.below hb4); clear cm0 cm1 ch0 ch1 ch2 ch3 cn0 cn1 cn2 fh0 fh1 fh2 fh3 fn0 fn1 fn2 m0 m1 m2 m3; clear hV4x hb4)
  | (go_at_call 27; have hg := ridgewayref01_Get.calls 8 (fun k => k < w.heap.size) A3 (c0 - 3) (l0.drop 3) 2 f3 r3 o3 w4 (HV3.out w4 HG4.out.low) E3.out; rw [List.length_drop] at hg; (with_reducible refine hg.mono ?_); clear hg; rintro e w5 ⟨v5, rfl, hV5x, hb5⟩; obtain ⟨A5x, c5x, rfl⟩ := Kd.V_slice hV5x; have HG5 := Aside0.mk (HG4.out.below hb5); have HS5 := Aside0.mk (HS4.out.below hb5); clear hV5x hb5)
  | (go_at_call 27; have hg := ridgewayref01_Get.calls 8 (fun k => k < w.heap.size) A5 (c0 - 5) (l0.drop 5) 4 f5 r5 o5 w5 (HV5.out w5 HG5.out.low) E5.out; rw [List.length_drop] at hg; (with_reducible refine hg.mono ?_); clear hg; rintro e w6 ⟨v6, rfl, hV6x, hb6⟩; obtain ⟨A6x, c6x, rfl⟩ := Kd.V_slice hV6x; have HG6 := Aside0.mk (HG5.out.below hb6); have HS6 := Aside0.mk (HS5.out.below hb6); obtain ⟨⟨cm0, cm1⟩, ⟨ch0, ch1, ch2, ch3⟩, ⟨cn0, cn1, cn2⟩, ⟨fh0, fh1, fh2, fh3⟩, ⟨fn0, fn1, fn2⟩⟩ := HG6.out.cells; obtain ⟨m0, m1, m2, m3⟩ := ridgewayref06_Get.st HS6.out; clear hV6x hb6)
  | (go_at_call 25; (refine (ridgewayref06_bad.calls 2 0 0 0 0 2 2 [] _ rfl).mono ?_); rintro e wb ⟨v6, rfl, hR6, hbb⟩; have hV6 := ridgewayref06_Get.rv hR6; obtain ⟨A6, c6, rfl⟩ := Kd.V_slice hV6; simp only [List.length_nil]; have HGT := Aside0.mk (HG6.out.below hbb); clear cm0 cm1 ch0 ch1 ch2 ch3 cn0 cn1 cn2 fh0 fh1 fh2 fh3 fn0 fn1 fn2 m0 m1 m2 m3; obtain ⟨⟨cm0, cm1⟩, ⟨ch0, ch1, ch2, ch3⟩, ⟨cn0, cn1, cn2⟩, ⟨fh0, fh1, fh2, fh3⟩, ⟨fn0, fn1, fn2⟩⟩ := HGT.out.cells; have HV6 := Aside0.mk hV6; clear hR6 hV6 hbb))
 refine bodyPost_ret (results_cc rfl _ _ (w.heap.size + 1) (w.heap.size + 2) 23 29 #[.int .i64 0, .int .i64 0, .int .i64 0, .int .i64 0] #[.int .i64 2, .int .i64 2, .slice A6 0 c6] (0, 0) (0, 0) _ _ rfl (store3_far (store4 HGT.out.b4 _ _ _ _) (by omega) _ _ _) Try.underlying23 rfl (by kernel_rfl) rfl (store3 (store4_far HGT.out.b5 (by omega) _ _ _ _) _ _ _) Try.underlying29 rfl (by kernel_rfl)) rfl ?_
 exact ⟨_, rfl, fin7 HV6.out (fun k hk => by have q1 := blk_lt HG6.out.b4; have q2 := blk_lt HG6.out.b5; have hk := hk; (try simp only [World.heap_drewN] at hk); omega) HGT.out.low (by omega) (by omega) _ _ _ _ _ _ _⟩
set_option maxHeartbeats 8000000 in
set_option maxRecDepth 100000 in
theorem ridgewayref06_Get.bad2b (t : Int) (A0 : Option Addr) (c0 : Nat) (l0 : List Int) (ax : Int) (w : World) (h1 : t = 1) (hs : ridgewayref03_Sane.f t l0 = some true) (hl : 10 ≤ l0.length) (hl2 : l0.length ≤ 5000) (p0 : 0 ≤ rd l0 9) (p1 : rd l0 9 < 256) (h4 : rd l0 0 = 4) (h5 : rd l0 9 = (l0.length : Int) - 10) (a r s : Int) (hh_ : Bool) (he : ridgewayref06_reader_params.f 5000 0 false (-1) (-1) (l0.drop 10) = some (a, hh_, r, s)) (g1 : s < 0) (g2 : hh_ = true) (f1 f3 f5 : Int) (r1 r3 r5 : List Int) (o1 o3 o5 : Bool) (e1 : ridgewayref01_Get.f 8 (l0.drop 1) 2 = some (f1, r1, o1)) (e3 : ridgewayref01_Get.f 8 (l0.drop 3) 2 = some (f3, r3, o3)) (e5 : ridgewayref01_Get.f 8 (l0.drop 5) 4 = some (f5, r5, o5)) (k1 : a ≠ 0) (k2 : a ≠ ax) (hr0 : Kd.C (Kd.int .u8) w A0 l0.length l0) (hc0 : l0.length ≤ c0) :
  Calls Try.prog 10 #[.agg #[.int .i64 t, .slice A0 l0.length c0], .int .i64 ax] w fun e w' => ∃ v6_ : Value, e = .returned (.tuple #[.agg #[.int .i64 0, .int .i64 0, .int .i64 0, .int .i64 0], .agg #[.int .i64 2, .int .i64 2, v6_]]) ∧ Kd.V (Kd.int .u8) 5 w' w.heap.size (fun k_ => (w.heap.size ≤ k_)) v6_ [] ∧ Below w.heap.size w w' := by
 have HR0 := Aside0.mk hr0
 have HC0 := Aside0.mk hc0
 have HG0 := Aside0.mk (got0 w (((w.alloc (Obj.cells #[.int .i64 t, .slice A0 l0.length c0] 26)).alloc (Obj.cells #[.int .i64 0, .int .i64 0, .int .i64 0, .int .i64 0] 23)).alloc (Obj.cells #[.int .i64 0, .int .i64 0, .slice none 0 0] 29)) t A0 l0 c0 (Below.refl _ _))
 obtain ⟨ad, rfl, -⟩ := hr0.2.2 (by omega)
 have HZ := Aside0.mk (ridgewayref06_Get.zz hr0 hl)
 obtain ⟨A10, hcut10, hV10⟩ : ∃ A1 : Option Addr, (∀ W' : World, (Instr.slice 24 (.slice (some ad) l0.length c0) (some (.int .i64 10)) none none).run Try.prog W' = .ok (.slice A1 (l0.length - 10) (c0 - 10)) W') ∧ ∀ W : World, Below w.heap.size w W → Kd.V (Kd.int .u8) 5 W W.heap.size (fun k => k < w.heap.size) (.slice A1 (l0.drop 10).length (c0 - 10)) (l0.drop 10) := came_drop w (some ad) c0 l0 10 hr0 hc0 (by omega) (by omega)
 have HV10 := Aside0.mk hV10
 clear hV10
 obtain ⟨A1, hcut1, hV1⟩ : ∃ A1 : Option Addr, (∀ W' : World, (Instr.slice 24 (.slice (some ad) l0.length c0) (some (.int .i64 1)) none none).run Try.prog W' = .ok (.slice A1 (l0.length - 1) (c0 - 1)) W') ∧ ∀ W : World, Below w.heap.size w W → Kd.V (Kd.int .u8) 5 W W.heap.size (fun k => k < w.heap.size) (.slice A1 (l0.drop 1).length (c0 - 1)) (l0.drop 1) := came_drop w (some ad) c0 l0 1 hr0 hc0 (by omega) (by omega)
 have HV1 := Aside0.mk hV1
 clear hV1
 obtain ⟨A3, hcut3, hV3⟩ : ∃ A1 : Option Addr, (∀ W' : World, (Instr.slice 24 (.slice (some ad) l0.length c0) (some (.int .i64 3)) none none).run Try.prog W' = .ok (.slice A1 (l0.length - 3) (c0 - 3)) W') ∧ ∀ W : World, Below w.heap.size w W → Kd.V (Kd.int .u8) 5 W W.heap.size (fun k => k < w.heap.size) (.slice A1 (l0.drop 3).length (c0 - 3)) (l0.drop 3) := came_drop w (some ad) c0 l0 3 hr0 hc0 (by omega) (by omega)
 have HV3 := Aside0.mk hV3
 clear hV3
 obtain ⟨A5, hcut5, hV5⟩ : ∃ A1 : Option Addr, (∀ W' : World, (Instr.slice 24 (.slice (some ad) l0.length c0) (some (.int .i64 5)) none none).run Try.prog W' = .ok (.slice A1 (l0.length - 5) (c0 - 5)) W') ∧ ∀ W : World, Below w.heap.size w W → Kd.V (Kd.int .u8) 5 W W.heap.size (fun k => k < w.heap.size) (.slice A1 (l0.drop 5).length (c0 - 5)) (l0.drop 5) := came_drop w (some ad) c0 l0 5 hr0 hc0 (by omega) (by omega)
 have HV5 := Aside0.mk hV5
 clear hV5
 clear hr0 hc0
 have q0 : (10 : Int) ≤ (l0.length : Int) := by omega
 have q1 : (l0.length : Int) ≤ 5000 := by omega
 have d1 : (t == 1) = true := by simp [h1]
 have d2 : (t != 1) = false := by simp [h1]
 have HS := Aside0.mk hs
 clear hs h1
 have d3 : (rd l0 0 == 4) = true := by simp [h4]
 have d4 : (rd l0 0 != 4) = false := by simp [h4]
 clear h4
 have d5 : (rd l0 9 == (l0.length : Int) - 10) = true := by simp [h5]
 have d6 : (rd l0 9 != (l0.length : Int) - 10) = false := by simp [h5]
 clear h5
 have HE := Aside0.mk he
 clear he
 have E1 := Aside0.mk e1
 have E3 := Aside0.mk e3
 have E5 := Aside0.mk e5
 clear e1 e3 e5
 subst g2
 have d7 : decide (s ≥ 0) = false := decide_eq_false (by omega)
 have d7' : decide (0 ≤ s) = false := decide_eq_false (by omega)
 have d8 : (a == 0) = false := by simp [k1]
 have d9 : (a == ax) = false := by simp [k2]
 have d10 : (a != ax) = true := by simp [k2]
 go_enter Try.func10, Try.ntmps10
 go_wp2_with (first
  | (go_at_call 24; (with_reducible refine (ridgewayref03_Sane.calls t (some ad) c0 l0 true _ (Kd.C_alloc (Kd.C_alloc (Kd.C_alloc HR0.out _) _) _) HC0.out HS.out).mono ?_); rintro e w1 ⟨rfl, hb1⟩; have HG1 := Aside0.mk (got0 w w1 t (some ad) l0 c0 hb1); obtain ⟨⟨cm0, cm1⟩, ⟨ch0, ch1, ch2, ch3⟩, ⟨cn0, cn1, cn2⟩, ⟨fh0, fh1, fh2, fh3⟩, ⟨fn0, fn1, fn2⟩⟩ := HG1.out.cells; obtain ⟨z0, z9⟩ := HZ.out w1 HG1.out.low; clear hb1)
  | (go_at_call 26; (with_reducible refine (ridgewayref06_Get.params_at w w1 A10 c0 l0 a r s true HG1.out.low HV10.out HE.out).mono ?_); rintro e w3 ⟨rfl, hS3, hB3, hk3⟩; have HG3 := Aside0.mk (ridgewayref06_Get.but HG1.out hk3 hB3); have HS3 := Aside0.mk hS3; clear cm0 cm1 ch0 ch1 ch2 ch3 cn0 cn1 cn2 fh0 fh1 fh2 fh3 fn0 fn1 fn2 z0 z9; obtain ⟨⟨cm0, cm1⟩, ⟨ch0, ch1, ch2, ch3⟩, ⟨cn0, cn1, cn2⟩, ⟨fh0, fh1, fh2, fh3⟩, ⟨fn0, fn1, fn2⟩⟩ := HG3.out.cells; obtain ⟨m0, m1, m2, m3⟩ := ridgewayref06_Get.st HS3.out; clear hS3 hB3 hk3)
  | (go_at_call 27; have hg := ridgewayref01_Get.calls 8 (fun k => k < w.heap.size) A1 (c0 - 1) (l0.drop 1) 2 f1 r1 o1 w3 (HV1.out w3 HG3.out.low) E1.out; rw [List.length_drop] at hg; (with_reducible refine hg.mono ?_); clear hg; rintro e w4 ⟨v4, rfl, hV4x, hb4⟩; obtain ⟨A4x, c4x, rfl⟩ := Kd.V_slice hV4x; have HG4 := Aside0.mk (HG3.out.below hb4); have HS4 := Aside0.mk (HS3.out.below hb4); clear cm0 cm1 ch0 ch1 ch2 ch3 cn0 cn1 cn2 fh0 fh1 fh2 fh3 fn0 fn1 fn2 m0 m1 m2 m3; clear hV4x hb4)
  | (go_at_call 27; have hg := ridgewayref01_Get.calls 8 (fun k => k < w.heap.size) A3 (c0 - 3) (l0.drop 3) 2 f3 r3 o3 w4 (HV3.out w4 HG4.out.low) E3.out; rw [List.length_drop] at hg; (with_reducible refine hg.mono ?_); clear hg; rintro e w5 ⟨v5, rfl, hV5x, hb5⟩; obtain ⟨A5x, c5x, rfl⟩ := Kd.V_slice hV5x; have HG5 := Aside0.mk (HG4.out.below hb5); have HS5 := Aside0.mk (HS4.out.below hb5); clear hV5x hb5)
  | (go_at_call 27; have hg := ridgewayref01_Get.calls 8 (fun k => k < w.heap.size) A5 (c0 - 5) (l0.drop 5) 4 f5 r5 o5 w5 (HV5.out w5 HG5.out.low) E5.out; rw [List.length_drop] at hg; (with_reducible refine hg.mono ?_); clear hg; rintro e w6 ⟨v6, rfl, hV6x, hb6⟩; obtain ⟨A6x, c6x, rfl⟩ := Kd.V_slice hV6x; have HG6 := Aside0.mk (HG5.out.below hb6); have HS6 := Aside0.mk (HS5.out.below hb6); obtain ⟨⟨cm0, cm1⟩, ⟨ch0, ch1, ch2, ch3⟩, ⟨cn0, cn1, cn2⟩, ⟨fh0, fh1, fh2, fh3⟩, ⟨fn0, fn1, fn2⟩⟩ := HG6.out.cells; obtain ⟨m0, m1, m2, m3⟩ := ridgewayref06_Get.st HS6.out; clear hV6x hb6)
  | (go_at_call 25; (refine (ridgewayref06_bad.calls 2 0 0 0 0 2 2 [] _ rfl).mono ?_); rintro e wb ⟨v6, rfl, hR6, hbb⟩; have hV6 := ridgewayref06_Get.rv hR6; obtain ⟨A6, c6, rfl⟩ := Kd.V_slice hV6; simp only [List.length_nil]; have HGT := Aside0.mk (HG6.out.below hbb); clear cm0 cm1 ch0 ch1 ch2 ch3 cn0 cn1 cn2 fh0 fh1 fh2 fh3 fn0 fn1 fn2 m0 m1 m2 m3; obtain ⟨⟨cm0, cm1⟩, ⟨ch0, ch1, ch2, ch3⟩, ⟨cn0, cn1, cn2⟩, ⟨fh0, fh1, fh2, fh3⟩, ⟨fn0, fn1, fn2⟩⟩ := HGT.out.cells; have HV6 := Aside0.mk hV6; clear hR6 hV6 hbb))
 refine bodyPost_ret (results_cc rfl _ _ (w.heap.size + 1) (w.heap.size + 2) 23 29 #[.int .i64 0, .int .i64 0, .int .i64 0, .int .i64 0] #[.int .i64 2, .int .i64 2, .slice A6 0 c6] (0, 0) (0, 0) _ _ rfl (store3_far (store4 HGT.out.b4 _ _ _ _) (by omega) _ _ _) Try.underlying23 rfl (by kernel_rfl) rfl (store3 (store4_far HGT.out.b5 (by omega) _ _ _ _) _ _ _) Try.underlying29 rfl (by kernel_rfl)) rfl ?_
 exact ⟨_, rfl, fin7 HV6.out (fun k hk => by have q1 := blk_lt HG6.out.b4; have q2 := blk_lt HG6.out.b5; have hk := hk; (try simp only [World.heap_drewN] at hk); omega) HGT.out.low (by omega) (by omega) _ _ _ _ _ _ _⟩
set_option maxHeartbeats 8000000 in
set_option maxRecDepth 100000 in
theorem ridgewayref06_Get.bad2c (t : Int) (A0 : Option Addr) (c0 : Nat) (l0 : List Int) (ax : Int) (w : World) (h1 : t = 1) (hs : ridgewayref03_Sane.f t l0 = some true) (hl : 10 ≤ l0.length) (hl2 : l0.length ≤ 5000) (p0 : 0 ≤ rd l0 9) (p1 : rd l0 9 < 256) (h4 : rd l0 0 = 4) (h5 : rd l0 9 = (l0.length : Int) - 10) (a r s : Int) (hh_ : Bool) (he : ridgewayref06_reader_params.f 5000 0 false (-1) (-1) (l0.drop 10) = some (a, hh_, r, s)) (g1 : s < 0) (g2 : hh_ = true) (f1 f3 f5 : Int) (r1 r3 r5 : List Int) (o1 o3 o5 : Bool) (e1 : ridgewayref01_Get.f 8 (l0.drop 1) 2 = some (f1, r1, o1)) (e3 : ridgewayref01_Get.f 8 (l0.drop 3) 2 = some (f3, r3, o3)) (e5 : ridgewayref01_Get.f 8 (l0.drop 5) 4 = some (f5, r5, o5)) (k1 : a ≠ 0) (k2 : a = ax) (wr : Int) (hw : ridgewayref06_two.f a = some wr) (k3 : f1 ≠ wr) (hr0 : Kd.C (Kd.int .u8) w A0 l0.length l0) (hc0 : l0.length ≤ c0) :
  Calls Try.prog 10 #[.agg #[.int .i64 t, .slice A0 l0.length c0], .int .i64 ax] w fun e w' => ∃ v6_ : Value, e = .returned (.tuple #[.agg #[.int .i64 0, .int .i64 0, .int .i64 0, .int .i64 0], .agg #[.int .i64 2, .int .i64 2, v6_]]) ∧ Kd.V (Kd.int .u8) 5 w' w.heap.size (fun k_ => (w.heap.size ≤ k_)) v6_ [] ∧ Below w.heap.size w w' := by
 have HR0 := Aside0.mk hr0
 have HC0 := Aside0.mk hc0
 have HG0 := Aside0.mk (got0 w (((w.alloc (Obj.cells #[.int .i64 t, .slice A0 l0.length c0] 26)).alloc (Obj.cells #[.int .i64 0, .int .i64 0, .int .i64 0, .int .i64 0] 23)).alloc (Obj.cells #[.int .i64 0, .int .i64 0, .slice none 0 0] 29)) t A0 l0 c0 (Below.refl _ _))
 obtain ⟨ad, rfl, -⟩ := hr0.2.2 (by omega)
 have HZ := Aside0.mk (ridgewayref06_Get.zz hr0 hl)
 obtain ⟨A10, hcut10, hV10⟩ : ∃ A1 : Option Addr, (∀ W' : World, (Instr.slice 24 (.slice (some ad) l0.length c0) (some (.int .i64 10)) none none).run Try.prog W' = .ok (.slice A1 (l0.length - 10) (c0 - 10)) W') ∧ ∀ W : World, Below w.heap.size w W → Kd.V (Kd.int .u8) 5 W W.heap.size (fun k => k < w.heap.size) (.slice A1 (l0.drop 10).length (c0 - 10)) (l0.drop 10) := came_drop w (some ad) c0 l0 10 hr0 hc0 (by omega) (by omega)
 have HV10 := Aside0.mk hV10
 clear hV10
 obtain ⟨A1, hcut1, hV1⟩ : ∃ A1 : Option Addr, (∀ W' : World, (Instr.slice 24 (.slice (some ad) l0.length c0) (some (.int .i64 1)) none none).run Try.prog W' = .ok (.slice A1 (l0.length - 1) (c0 - 1)) W') ∧ ∀ W : World, Below w.heap.size w W → Kd.V (Kd.int .u8) 5 W W.heap.size (fun k => k < w.heap.size) (.slice A1 (l0.drop 1).length (c0 - 1)) (l0.drop 1) := came_drop w (some ad) c0 l0 1 hr0 hc0 (by omega) (by omega)
 have HV1 := Aside0.mk hV1
 clear hV1
 obtain ⟨A3, hcut3, hV3⟩ : ∃ A1 : Option Addr, (∀ W' : World, (Instr.slice 24 (.slice (some ad) l0.length c0) (some (.int .i64 3)) none none).run Try.prog W' = .ok (.slice A1 (l0.length - 3) (c0 - 3)) W') ∧ ∀ W : World, Below w.heap.size w W → Kd.V (Kd.int .u8) 5 W W.heap.size (fun k => k < w.heap.size) (.slice A1 (l0.drop 3).length (c0 - 3)) (l0.drop 3) := came_drop w (some ad) c0 l0 3 hr0 hc0 (by omega) (by omega)
 have HV3 := Aside0.mk hV3
 clear hV3
 obtain ⟨A5, hcut5, hV5⟩ : ∃ A1 : Option Addr, (∀ W' : World, (Instr.slice 24 (.slice (some ad) l0.length c0) (some (.int .i64 5)) none none).run Try.prog W' = .ok (.slice A1 (l0.length - 5) (c0 - 5)) W') ∧ ∀ W : World, Below w.heap.size w W → Kd.V (Kd.int .u8) 5 W W.heap.size (fun k => k < w.heap.size) (.slice A1 (l0.drop 5).length (c0 - 5)) (l0.drop 5) := came_drop w (some ad) c0 l0 5 hr0 hc0 (by omega) (by omega)
 have HV5 := Aside0.mk hV5
 clear hV5
 clear hr0 hc0
 have q0 : (10 : Int) ≤ (l0.length : Int) := by omega
 have q1 : (l0.length : Int) ≤ 5000 := by omega
 have d1 : (t == 1) = true := by simp [h1]
 have d2 : (t != 1) = false := by simp [h1]
 have HS := Aside0.mk hs
 clear hs h1
 have d3 : (rd l0 0 == 4) = true := by simp [h4]
 have d4 : (rd l0 0 != 4) = false := by simp [h4]
 clear h4
 have d5 : (rd l0 9 == (l0.length : Int) - 10) = true := by simp [h5]
 have d6 : (rd l0 9 != (l0.length : Int) - 10) = false := by simp [h5]
 clear h5
 have HE := Aside0.mk he
 clear he
 have E1 := Aside0.mk e1
 have E3 := Aside0.mk e3
 have E5 := Aside0.mk e5
 clear e1 e3 e5
 subst g2
 have d7 : decide (s ≥ 0) = false := decide_eq_false (by omega)
 have d7' : decide (0 ≤ s) = false := decide_eq_false (by omega)
 have d8 : (a == 0) = false := by simp [k1]
 have d9 : (a == ax) = true := by simp [k2]
 have d10 : (a != ax) = false := by simp [k2]
 have HW := Aside0.mk hw
 clear k2 hw
 have d11 : (f1 == wr) = false := by simp [k3]
 have d12 : (f1 != wr) = true := by simp [k3]
 go_enter Try.func10, Try.ntmps10
 go_wp2_with (first
  | (go_at_call 24; (with_reducible refine (ridgewayref03_Sane.calls t (some ad) c0 l0 true _ (Kd.C_alloc (Kd.C_alloc (Kd.C_alloc HR0.out _) _) _) HC0.out HS.out).mono ?_); rintro e w1 ⟨rfl, hb1⟩; have HG1 := Aside0.mk (got0 w w1 t (some ad) l0 c0 hb1); obtain ⟨⟨cm0, cm1⟩, ⟨ch0, ch1, ch2, ch3⟩, ⟨cn0, cn1, cn2⟩, ⟨fh0, fh1, fh2, fh3⟩, ⟨fn0, fn1, fn2⟩⟩ := HG1.out.cells; obtain ⟨z0, z9⟩ := HZ.out w1 HG1.out.low; clear hb1)
  | (go_at_call 26; (with_reducible refine (ridgewayref06_Get.params_at w w1 A10 c0 l0 a r s true HG1.out.low HV10.out HE.out).mono ?_); rintro e w3 ⟨rfl, hS3, hB3, hk3⟩; have HG3 := Aside0.mk (ridgewayref06_Get.but HG1.out hk3 hB3); have HS3 := Aside0.mk hS3; clear cm0 cm1 ch0 ch1 ch2 ch3 cn0 cn1 cn2 fh0 fh1 fh2 fh3 fn0 fn1 fn2 z0 z9; obtain ⟨⟨cm0, cm1⟩, ⟨ch0, ch1, ch2, ch3⟩, ⟨cn0, cn1, cn2⟩, ⟨fh0, fh1, fh2, fh3⟩, ⟨fn0, fn1, fn2⟩⟩ := HG3.out.cells; obtain ⟨m0, m1, m2, m3⟩ := ridgewayref06_Get.st HS3.out; clear hS3 hB3 hk3)
  | (go_at_call 27; have hg := ridgewayref01_Get.calls 8 (fun k => k < w.heap.size) A1 (c0 - 1) (l0.drop 1) 2 f1 r1 o1 w3 (HV1.out w3 HG3.out.low) E1.out; rw [List.length_drop] at hg; (with_reducible refine hg.mono ?_); clear hg; rintro e w4 ⟨v4, rfl, hV4x, hb4⟩; obtain ⟨A4x, c4x, rfl⟩ := Kd.V_slice hV4x; have HG4 := Aside0.mk (HG3.out.below hb4); have HS4 := Aside0.mk (HS3.out.below hb4); clear cm0 cm1 ch0 ch1 ch2 ch3 cn0 cn1 cn2 fh0 fh1 fh2 fh3 fn0 fn1 fn2 m0 m1 m2 m3; clear hV4x hb4)
  | (go_at_call 27; have hg := ridgewayref01_Get.calls 8 (fun k => k < w.heap.size) A3 (c0 - 3) (l0.drop 3) 2 f3 r3 o3 w4 (HV3.out w4 HG4.out.low) E3.out; rw [List.length_drop] at hg; (with_reducible refine hg.mono ?_); clear hg; rintro e w5 ⟨v5, rfl, hV5x, hb5⟩; obtain ⟨A5x, c5x, rfl⟩ := Kd.V_slice hV5x; have HG5 := Aside0.mk (HG4.out.below hb5); have HS5 := Aside0.mk (HS4.out.below hb5); clear hV5x hb5)
  | (go_at_call 27; have hg := ridgewayref01_Get.calls 8 (fun k => k < w.heap.size) A5 (c0 - 5) (l0.drop 5) 4 f5 r5 o5 w5 (HV5.out w5 HG5.out.low) E5.out; rw [List.length_drop] at hg; (with_reducible refine hg.mono ?_); clear hg; rintro e w6 ⟨v6, rfl, hV6x, hb6⟩; obtain ⟨A6x, c6x, rfl⟩ := Kd.V_slice hV6x; have HG6 := Aside0.mk (HG5.out.below hb6); have HS6 := Aside0.mk (HS5.out.below hb6); obtain ⟨⟨cm0, cm1⟩, ⟨ch0, ch1, ch2, ch3⟩, ⟨cn0, cn1, cn2⟩, ⟨fh0, fh1, fh2, fh3⟩, ⟨fn0, fn1, fn2⟩⟩ := HG6.out.cells; obtain ⟨m0, m1, m2, m3⟩ := ridgewayref06_Get.st HS6.out; clear hV6x hb6)
  | (go_at_call 28; (with_reducible refine (ridgewayref06_two.calls a wr w6 HW.out).mono ?_); rintro e w7 ⟨rfl, nd, rfl⟩; have HG7 := Aside0.mk (HG6.out.below (pw_below_drewN (Below.refl _ _) nd)); have HS7 := Aside0.mk (HS6.out.drewN nd))
  | (go_at_call 25; (refine (ridgewayref06_bad.calls 2 0 0 0 0 2 2 [] _ rfl).mono ?_); rintro e wb ⟨v6, rfl, hR6, hbb⟩; have hV6 := ridgewayref06_Get.rv hR6; obtain ⟨A6, c6, rfl⟩ := Kd.V_slice hV6; simp only [List.length_nil]; have HGT := Aside0.mk (HG7.out.below hbb); clear cm0 cm1 ch0 ch1 ch2 ch3 cn0 cn1 cn2 fh0 fh1 fh2 fh3 fn0 fn1 fn2 m0 m1 m2 m3; obtain ⟨⟨cm0, cm1⟩, ⟨ch0, ch1, ch2, ch3⟩, ⟨cn0, cn1, cn2⟩, ⟨fh0, fh1, fh2, fh3⟩, ⟨fn0, fn1, fn2⟩⟩ := HGT.out.cells; have HV6 := Aside0.mk hV6; clear hR6 hV6 hbb))
 refine bodyPost_ret (results_cc rfl _ _ (w.heap.size + 1) (w.heap.size + 2) 23 29 #[.int .i64 0, .int .i64 0, .int .i64 0, .int .i64 0] #[.int .i64 2, .int .i64 2, .slice A6 0 c6] (0, 0) (0, 0) _ _ rfl (store3_far (store4 HGT.out.b4 _ _ _ _) (by omega) _ _ _) Try.underlying23 rfl (by kernel_rfl) rfl (store3 (store4_far HGT.out.b5 (by omega) _ _ _ _) _ _ _) Try.underlying29 rfl (by kernel_rfl)) rfl ?_
 exact ⟨_, rfl, fin7 HV6.out (fun k hk => by have q1 := blk_lt HG7.out.b4; have q2 := blk_lt HG7.out.b5; have hk := hk; (try simp only [World.heap_drewN] at hk); omega) HGT.out.low (by omega) (by omega) _ _ _ _ _ _ _⟩
set_option maxHeartbeats 8000000 in
set_option maxRecDepth 100000 in
theorem ridgewayref06_Get.bad6a (t : Int) (A0 : Option Addr) (c0 : Nat) (l0 : List Int) (ax : Int) (w : World) (h1 : t = 1) (hs : ridgewayref03_Sane.f t l0 = some true) (hl : 10 ≤ l0.length) (hl2 : l0.length ≤ 5000) (p0 : 0 ≤ rd l0 9) (p1 : rd l0 9 < 256) (h4 : rd l0 0 = 4) (h5 : rd l0 9 = (l0.length : Int) - 10) (a r s : Int) (hh_ : Bool) (he : ridgewayref06_reader_params.f 5000 0 false (-1) (-1) (l0.drop 10) = some (a, hh_, r, s)) (g1 : s < 0) (g2 : hh_ = true) (f1 f3 f5 : Int) (r1 r3 r5 : List Int) (o1 o3 o5 : Bool) (e1 : ridgewayref01_Get.f 8 (l0.drop 1) 2 = some (f1, r1, o1)) (e3 : ridgewayref01_Get.f 8 (l0.drop 3) 2 = some (f3, r3, o3)) (e5 : ridgewayref01_Get.f 8 (l0.drop 5) 4 = some (f5, r5, o5)) (k1 : a ≠ 0) (k2 : a = ax) (wr : Int) (hw : ridgewayref06_two.f a = some wr) (k3 : f1 = wr) (k4 : f3 = 1) (hr0 : Kd.C (Kd.int .u8) w A0 l0.length l0) (hc0 : l0.length ≤ c0) :
  Calls Try.prog 10 #[.agg #[.int .i64 t, .slice A0 l0.length c0], .int .i64 ax] w fun e w' => ∃ v6_ : Value, e = .returned (.tuple #[.agg #[.int .i64 0, .int .i64 0, .int .i64 0, .int .i64 0], .agg #[.int .i64 2, .int .i64 6, v6_]]) ∧ Kd.V (Kd.int .u8) 5 w' w.heap.size (fun k_ => (w.heap.size ≤ k_)) v6_ [] ∧ Below w.heap.size w w' := by
 have HR0 := Aside0.mk hr0
 have HC0 := Aside0.mk hc0
 have HG0 := Aside0.mk (got0 w (((w.alloc (Obj.cells #[.int .i64 t, .slice A0 l0.length c0] 26)).alloc (Obj.cells #[.int .i64 0, .int .i64 0, .int .i64 0, .int .i64 0] 23)).alloc (Obj.cells #[.int .i64 0, .int .i64 0, .slice none 0 0] 29)) t A0 l0 c0 (Below.refl _ _))
 obtain ⟨ad, rfl, -⟩ := hr0.2.2 (by omega)
 have HZ := Aside0.mk (ridgewayref06_Get.zz hr0 hl)
 obtain ⟨A10, hcut10, hV10⟩ : ∃ A1 : Option Addr, (∀ W' : World, (Instr.slice 24 (.slice (some ad) l0.length c0) (some (.int .i64 10)) none none).run Try.prog W' = .ok (.slice A1 (l0.length - 10) (c0 - 10)) W') ∧ ∀ W : World, Below w.heap.size w W → Kd.V (Kd.int .u8) 5 W W.heap.size (fun k => k < w.heap.size) (.slice A1 (l0.drop 10).length (c0 - 10)) (l0.drop 10) := came_drop w (some ad) c0 l0 10 hr0 hc0 (by omega) (by omega)
 have HV10 := Aside0.mk hV10
 clear hV10
 obtain ⟨A1, hcut1, hV1⟩ : ∃ A1 : Option Addr, (∀ W' : World, (Instr.slice 24 (.slice (some ad) l0.length c0) (some (.int .i64 1)) none none).run Try.prog W' = .ok (.slice A1 (l0.length - 1) (c0 - 1)) W') ∧ ∀ W : World, Below w.heap.size w W → Kd.V (Kd.int .u8) 5 W W.heap.size (fun k => k < w.heap.size) (.slice A1 (l0.drop 1).length (c0 - 1)) (l0.drop 1) := came_drop w (some ad) c0 l0 1 hr0 hc0 (by omega) (by omega)
 have HV1 := Aside0.mk hV1
 clear hV1
 obtain ⟨A3, hcut3, hV3⟩ : ∃ A1 : Option Addr, (∀ W' : World, (Instr.slice 24 (.slice (some ad) l0.length c0) (some (.int .i64 3)) none none).run Try.prog W' = .ok (.slice A1 (l0.length - 3) (c0 - 3)) W') ∧ ∀ W : World, Below w.heap.size w W → Kd.V (Kd.int .u8) 5 W W.heap.size (fun k => k < w.heap.size) (.slice A1 (l0.drop 3).length (c0 - 3)) (l0.drop 3) := came_drop w (some ad) c0 l0 3 hr0 hc0 (by omega) (by omega)
 have HV3 := Aside0.mk hV3
 clear hV3
 obtain ⟨A5, hcut5, hV5⟩ : ∃ A1 : Option Addr, (∀ W' : World, (Instr.slice 24 (.slice (some ad) l0.length c0) (some (.int .i64 5)) none none).run Try.prog W' = .ok (.slice A1 (l0.length - 5) (c0 - 5)) W') ∧ ∀ W : World, Below w.heap.size w W → Kd.V (Kd.int .u8) 5 W W.heap.size (fun k => k < w.heap.size) (.slice A1 (l0.drop 5).length (c0 - 5)) (l0.drop 5) := came_drop w (some ad) c0 l0 5 hr0 hc0 (by omega) (by omega)
 have HV5 := Aside0.mk hV5
 clear hV5
 clear hr0 hc0
 have q0 : (10 : Int) ≤ (l0.length : Int) := by omega
 have q1 : (l0.length : Int) ≤ 5000 := by omega
 have d1 : (t == 1) = true := by simp [h1]
 have d2 : (t != 1) = false := by simp [h1]
 have HS := Aside0.mk hs
 clear hs h1
 have d3 : (rd l0 0 == 4) = true := by simp [h4]
 have d4 : (rd l0 0 != 4) = false := by simp [h4]
 clear h4
 have d5 : (rd l0 9 == (l0.length : Int) - 10) = true := by simp [h5]
 have d6 : (rd l0 9 != (l0.length : Int) - 10) = false := by simp [h5]
 clear h5
 have HE := Aside0.mk he
 clear he
 have E1 := Aside0.mk e1
 have E3 := Aside0.mk e3
 have E5 := Aside0.mk e5
 clear e1 e3 e5
 subst g2
 have d7 : decide (s ≥ 0) = false := decide_eq_false (by omega)
 have d7' : decide (0 ≤ s) = false := decide_eq_false (by omega)
 have d8 : (a == 0) = false := by simp [k1]
 have d9 : (a == ax) = true := by simp [k2]
 have d10 : (a != ax) = false := by simp [k2]
 have HW := Aside0.mk hw
 clear k2 hw
 have d11 : (f1 == wr) = true := by simp [k3]
 have d12 : (f1 != wr) = false := by simp [k3]
 clear k3
 have d13 : (f3 == 1) = true := by simp [k4]
 go_enter Try.func10, Try.ntmps10
 go_wp2_with (first
  | (go_at_call 24; (with_reducible refine (ridgewayref03_Sane.calls t (some ad) c0 l0 true _ (Kd.C_alloc (Kd.C_alloc (Kd.C_alloc HR0.out _) _) _) HC0.out HS.out).mono ?_); rintro e w1 ⟨rfl, hb1⟩; have HG1 := Aside0.mk (got0 w w1 t (some ad) l0 c0 hb1); obtain ⟨⟨cm0, cm1⟩, ⟨ch0, ch1, ch2, ch3⟩, ⟨cn0, cn1, cn2⟩, ⟨fh0, fh1, fh2, fh3⟩, ⟨fn0, fn1, fn2⟩⟩ := HG1.out.cells; obtain ⟨z0, z9⟩ := HZ.out w1 HG1.out.low; clear hb1)
  | (go_at_call 26; (with_reducible refine (ridgewayref06_Get.params_at w w1 A10 c0 l0 a r s true HG1.out.low HV10.out HE.out).mono ?_); rintro e w3 ⟨rfl, hS3, hB3, hk3⟩; have HG3 := Aside0.mk (ridgewayref06_Get.but HG1.out hk3 hB3); have HS3 := Aside0.mk hS3; clear cm0 cm1 ch0 ch1 ch2 ch3 cn0 cn1 cn2 fh0 fh1 fh2 fh3 fn0 fn1 fn2 z0 z9; obtain ⟨⟨cm0, cm1⟩, ⟨ch0, ch1, ch2, ch3⟩, ⟨cn0, cn1, cn2⟩, ⟨fh0, fh1, fh2, fh3⟩, ⟨fn0, fn1, fn2⟩⟩ := HG3.out.cells; obtain ⟨m0, m1, m2, m3⟩ := ridgewayref06_Get.st HS3.out; clear hS3 hB3 hk3)
  | (go_at_call 27; have hg := ridgewayref01_Get.calls 8 (fun k => k < w.heap.size) A1 (c0 - 1) (l0.drop 1) 2 f1 r1 o1 w3 (HV1.out w3 HG3.out.low) E1.out; rw [List.length_drop] at hg; (with_reducible refine hg.mono ?_); clear hg; rintro e w4 ⟨v4, rfl, hV4x, hb4⟩; obtain ⟨A4x, c4x, rfl⟩ := Kd.V_slice hV4x; have HG4 := Aside0.mk (HG3.out.below hb4); have HS4 := Aside0.mk (HS3.out.below hb4); clear cm0 cm1 ch0 ch1 ch2 ch3 cn0 cn1 cn2 fh0 fh1 fh2 fh3 fn0 fn1 fn2 m0 m1 m2 m3; clear hV4x hb4)
  | (go_at_call 27; have hg := ridgewayref01_Get.calls 8 (fun k => k < w.heap.size) A3 (c0 - 3) (l0.drop 3) 2 f3 r3 o3 w4 (HV3.out w4 HG4.out.low) E3.out; rw [List.length_drop] at hg; (with_reducible refine hg.mono ?_); clear hg; rintro e w5 ⟨v5, rfl, hV5x, hb5⟩; obtain ⟨A5x, c5x, rfl⟩ := Kd.V_slice hV5x; have HG5 := Aside0.mk (HG4.out.below hb5); have HS5 := Aside0.mk (HS4.out.below hb5); clear hV5x hb5)
  | (go_at_call 27; have hg := ridgewayref01_Get.calls 8 (fun k => k < w.heap.size) A5 (c0 - 5) (l0.drop 5) 4 f5 r5 o5 w5 (HV5.out w5 HG5.out.low) E5.out; rw [List.length_drop] at hg; (with_reducible refine hg.mono ?_); clear hg; rintro e w6 ⟨v6, rfl, hV6x, hb6⟩; obtain ⟨A6x, c6x, rfl⟩ := Kd.V_slice hV6x; have HG6 := Aside0.mk (HG5.out.below hb6); have HS6 := Aside0.mk (HS5.out.below hb6); obtain ⟨⟨cm0, cm1⟩, ⟨ch0, ch1, ch2, ch3⟩, ⟨cn0, cn1, cn2⟩, ⟨fh0, fh1, fh2, fh3⟩, ⟨fn0, fn1, fn2⟩⟩ := HG6.out.cells; obtain ⟨m0, m1, m2, m3⟩ := ridgewayref06_Get.st HS6.out; clear hV6x hb6)
  | (go_at_call 28; (with_reducible refine (ridgewayref06_two.calls a wr w6 HW.out).mono ?_); rintro e w7 ⟨rfl, nd, rfl⟩; have HG7 := Aside0.mk (HG6.out.below (pw_below_drewN (Below.refl _ _) nd)); have HS7 := Aside0.mk (HS6.out.drewN nd))
  | (go_at_call 25; (refine (ridgewayref06_bad.calls 6 0 0 0 0 2 6 [] _ rfl).mono ?_); rintro e wb ⟨v6, rfl, hR6, hbb⟩; have hV6 := ridgewayref06_Get.rv hR6; obtain ⟨A6, c6, rfl⟩ := Kd.V_slice hV6; simp only [List.length_nil]; have HGT := Aside0.mk (HG7.out.below hbb); clear cm0 cm1 ch0 ch1 ch2 ch3 cn0 cn1 cn2 fh0 fh1 fh2 fh3 fn0 fn1 fn2 m0 m1 m2 m3; obtain ⟨⟨cm0, cm1⟩, ⟨ch0, ch1, ch2, ch3⟩, ⟨cn0, cn1, cn2⟩, ⟨fh0, fh1, fh2, fh3⟩, ⟨fn0, fn1, fn2⟩⟩ := HGT.out.cells; have HV6 := Aside0.mk hV6; clear hR6 hV6 hbb))
 refine bodyPost_ret (results_cc rfl _ _ (w.heap.size + 1) (w.heap.size + 2) 23 29 #[.int .i64 0, .int .i64 0, .int .i64 0, .int .i64 0] #[.int .i64 2, .int .i64 6, .slice A6 0 c6] (0, 0) (0, 0) _ _ rfl (store3_far (store4 HGT.out.b4 _ _ _ _) (by omega) _ _ _) Try.underlying23 rfl (by kernel_rfl) rfl (store3 (store4_far HGT.out.b5 (by omega) _ _ _ _) _ _ _) Try.underlying29 rfl (by kernel_rfl)) rfl ?_
 exact ⟨_, rfl, fin7 HV6.out (fun k hk => by have q1 := blk_lt HG7.out.b4; have q2 := blk_lt HG7.out.b5; have hk := hk; (try simp only [World.heap_drewN] at hk); omega) HGT.out.low (by omega) (by omega) _ _ _ _ _ _ _⟩
set_option maxHeartbeats 8000000 in
set_option maxRecDepth 100000 in
theorem ridgewayref06_Get.bad6b (t : Int) (A0 : Option Addr) (c0 : Nat) (l0 : List Int) (ax : Int) (w : World) (h1 : t = 1) (hs : ridgewayref03_Sane.f t l0 = some true) (hl : 10 ≤ l0.length) (hl2 : l0.length ≤ 5000) (p0 : 0 ≤ rd l0 9) (p1 : rd l0 9 < 256) (h4 : rd l0 0 = 4) (h5 : rd l0 9 = (l0.length : Int) - 10) (a r s : Int) (hh_ : Bool) (he : ridgewayref06_reader_params.f 5000 0 false (-1) (-1) (l0.drop 10) = some (a, hh_, r, s)) (g1 : s < 0) (g2 : hh_ = true) (f1 f3 f5 : Int) (r1 r3 r5 : List Int) (o1 o3 o5 : Bool) (e1 : ridgewayref01_Get.f 8 (l0.drop 1) 2 = some (f1, r1, o1)) (e3 : ridgewayref01_Get.f 8 (l0.drop 3) 2 = some (f3, r3, o3)) (e5 : ridgewayref01_Get.f 8 (l0.drop 5) 4 = some (f5, r5, o5)) (k1 : a ≠ 0) (k2 : a = ax) (wr : Int) (hw : ridgewayref06_two.f a = some wr) (k3 : f1 = wr) (k4 : f3 = 2) (hr0 : Kd.C (Kd.int .u8) w A0 l0.length l0) (hc0 : l0.length ≤ c0) :
  Calls Try.prog 10 #[.agg #[.int .i64 t, .slice A0 l0.length c0], .int .i64 ax] w fun e w' => ∃ v6_ : Value, e = .returned (.tuple #[.agg #[.int .i64 0, .int .i64 0, .int .i64 0, .int .i64 0], .agg #[.int .i64 2, .int .i64 6, v6_]]) ∧ Kd.V (Kd.int .u8) 5 w' w.heap.size (fun k_ => (w.heap.size ≤ k_)) v6_ [] ∧ Below w.heap.size w w' := by
 have HR0 := Aside0.mk hr0
 have HC0 := Aside0.mk hc0
 have HG0 := Aside0.mk (got0 w (((w.alloc (Obj.cells #[.int .i64 t, .slice A0 l0.length c0] 26)).alloc (Obj.cells #[.int .i64 0, .int .i64 0, .int .i64 0, .int .i64 0] 23)).alloc (Obj.cells #[.int .i64 0, .int .i64 0, .slice none 0 0] 29)) t A0 l0 c0 (Below.refl _ _))
 obtain ⟨ad, rfl, -⟩ := hr0.2.2 (by omega)
 have HZ := Aside0.mk (ridgewayref06_Get.zz hr0 hl)
 obtain ⟨A10, hcut10, hV10⟩ : ∃ A1 : Option Addr, (∀ W' : World, (Instr.slice 24 (.slice (some ad) l0.length c0) (some (.int .i64 10)) none none).run Try.prog W' = .ok (.slice A1 (l0.length - 10) (c0 - 10)) W') ∧ ∀ W : World, Below w.heap.size w W → Kd.V (Kd.int .u8) 5 W W.heap.size (fun k => k < w.heap.size) (.slice A1 (l0.drop 10).length (c0 - 10)) (l0.drop 10) := came_drop w (some ad) c0 l0 10 hr0 hc0 (by omega) (by omega)
 have HV10 := Aside0.mk hV10
 clear hV10
 obtain ⟨A1, hcut1, hV1⟩ : ∃ A1 : Option Addr, (∀ W' : World, (Instr.slice 24 (.slice (some ad) l0.length c0) (some (.int .i64 1)) none none).run Try.prog W' = .ok (.slice A1 (l0.length - 1) (c0 - 1)) W') ∧ ∀ W : World, Below w.heap.size w W → Kd.V (Kd.int .u8) 5 W W.heap.size (fun k => k < w.heap.size) (.slice A1 (l0.drop 1).length (c0 - 1)) (l0.drop 1) := came_drop w (some ad) c0 l0 1 hr0 hc0 (by omega) (by omega)
 have HV1 := Aside0.mk hV1
 clear hV1
 obtain ⟨A3, hcut3, hV3⟩ : ∃ A1 : Option Addr, (∀ W' : World, (Instr.slice 24 (.slice (some ad) l0.length c0) (some (.int .i64 3)) none none).run Try.prog W' = .ok (.slice A1 (l0.length - 3) (c0 - 3)) W') ∧ ∀ W : World, Below w.heap.size w W → Kd.V (Kd.int .u8) 5 W W.heap.size (fun k => k < w.heap.size) (.slice A1 (l0.drop 3).length (c0 - 3)) (l0.drop 3) := came_drop w (some ad) c0 l0 3 hr0 hc0 (by omega) (by omega)
 have HV3 := Aside0.mk hV3
 clear hV3
 obtain ⟨A5, hcut5, hV5⟩ : ∃ A1 : Option Addr, (∀ W' : World, (Instr.slice 24 (.slice (some ad) l0.length c0) (some (.int .i64 5)) none none).run Try.prog W' = .ok (.slice A1 (l0.length - 5) (c0 - 5)) W') ∧ ∀ W : World, Below w.heap.size w W → Kd.V (Kd.int .u8) 5 W W.heap.size (fun k => k < w.heap.size) (.slice A1 (l0.drop 5).length (c0 - 5)) (l0.drop 5) := came_drop w (some ad) c0 l0 5 hr0 hc0 (by omega) (by omega)
 have HV5 := Aside0.mk hV5
 clear hV5
 clear hr0 hc0
 have q0 : (10 : Int) ≤ (l0.length : Int) := by omega
 have q1 : (l0.length : Int) ≤ 5000 := by omega
 have d1 : (t == 1) = true := by simp [h1]
 have d2 : (t != 1) = false := by simp [h1]
 have HS := Aside0.mk hs
 clear hs h1
 have d3 : (rd l0 0 == 4) = true := by simp [h4]
 have d4 : (rd l0 0 != 4) = false := by simp [h4]
 clear h4
 have d5 : (rd l0 9 == (l0.length : Int) - 10) = true := by simp [h5]
 have d6 : (rd l0 9 != (l0.length : Int) - 10) = false := by simp [h5]
 clear h5
 have HE := Aside0.mk he
 clear he
 have E1 := Aside0.mk e1
 have E3 := Aside0.mk e3
 have E5 := Aside0.mk e5
 clear e1 e3 e5
 subst g2
 have d7 : decide (s ≥ 0) = false := decide_eq_false (by omega)
 have d7' : decide (0 ≤ s) = false := decide_eq_false (by omega)
 have d8 : (a == 0) = false := by simp [k1]
 have d9 : (a == ax) = true := by simp [k2]
 have d10 : (a != ax) = false := by simp [k2]
 have HW := Aside0.mk hw
 clear k2 hw
 have d11 : (f1 == wr) = true := by simp [k3]
 have d12 : (f1 != wr) = false := by simp [k3]
 clear k3
 have d13 : (f3 == 1) = false := by simp [k4]
 have d14 : (f3 == 2) = true := by simp [k4]
 go_enter Try.func10, Try.ntmps10
 go_wp2_with (first
  | (go_at_call 24; (with_reducible refine (ridgewayref03_Sane.calls t (some ad) c0 l0 true _ (Kd.C_alloc (Kd.C_alloc (Kd.C_alloc HR0.out _) _) _) HC0.out HS.out).mono ?_); rintro e w1 ⟨rfl, hb1⟩; have HG1 := Aside0.mk (got0 w w1 t (some ad) l0 c0 hb1); obtain ⟨⟨cm0, cm1⟩, ⟨ch0, ch1, ch2, ch3⟩, ⟨cn0, cn1, cn2⟩, ⟨fh0, fh1, fh2, fh3⟩, ⟨fn0, fn1, fn2⟩⟩ := HG1.out.cells; obtain ⟨z0, z9⟩ := HZ.out w1 HG1.out.low; clear hb1)
  | (go_at_call 26; (with_reducible refine (ridgewayref06_Get.params_at w w1 A10 c0 l0 a r s true HG1.out.low HV10.out HE.out).mono ?_); rintro e w3 ⟨rfl, hS3, hB3, hk3⟩; have HG3 := Aside0.mk (ridgewayref06_Get.but HG1.out hk3 hB3); have HS3 := Aside0.mk hS3; clear cm0 cm1 ch0 ch1 ch2 ch3 cn0 cn1 cn2 fh0 fh1 fh2 fh3 fn0 fn1 fn2 z0 z9; obtain ⟨⟨cm0, cm1⟩, ⟨ch0, ch1, ch2, ch3⟩, ⟨cn0, cn1, cn2⟩, ⟨fh0, fh1, fh2, fh3⟩, ⟨fn0, fn1, fn2⟩⟩ := HG3.out.cells; obtain ⟨m0, m1, m2, m3⟩ := ridgewayref06_Get.st HS3.out; clear hS3 hB3 hk3)
  | (go_at_call 27; have hg := ridgewayref01_Get.calls 8 (fun k => k < w.heap.size) A1 (c0 - 1) (l0.drop 1) 2 f1 r1 o1 w3 (HV1.out w3 HG3.out.low) E1.out; rw [List.length_drop] at hg; (with_reducible refine hg.mono ?_); clear hg; rintro e w4 ⟨v4, rfl, hV4x, hb4⟩; obtain ⟨A4x, c4x, rfl⟩ := Kd.V_slice hV4x; have HG4 := Aside0.mk (HG3.out.below hb4); have HS4 := Aside0.mk (HS3.out.below hb4); clear cm0 cm1 ch0 ch1 ch2 ch3 cn0 cn1 cn2 fh0 fh1 fh2 fh3 fn0 fn1 fn2 m0 m1 m2 m3; clear hV4x hb4)
  | (go_at_call 27; have hg := ridgewayref01_Get.calls 8 (fun k => k < w.heap.size) A3 (c0 - 3) (l0.drop 3) 2 f3 r3 o3 w4 (HV3.out w4 HG4.out.low) E3.out; rw [List.length_drop] at hg; (with_reducible refine hg.mono ?_); clear hg; rintro e w5 ⟨v5, rfl, hV5x, hb5⟩; obtain ⟨A5x, c5x, rfl⟩ := Kd.V_slice hV5x; have HG5 := Aside0.mk (HG4.out.below hb5); have HS5 := Aside0.mk (HS4.out.below hb5); clear hV5x hb5)
  | (go_at_call 27; have hg := ridgewayref01_Get.calls 8 (fun k => k < w.heap.size) A5 (c0 - 5) (l0.drop 5) 4 f5 r5 o5 w5 (HV5.out w5 HG5.out.low) E5.out; rw [List.length_drop] at hg; (with_reducible refine hg.mono ?_); clear hg; rintro e w6 ⟨v6, rfl, hV6x, hb6⟩; obtain ⟨A6x, c6x, rfl⟩ := Kd.V_slice hV6x; have HG6 := Aside0.mk (HG5.out.below hb6); have HS6 := Aside0.mk (HS5.out.below hb6); obtain ⟨⟨cm0, cm1⟩, ⟨ch0, ch1, ch2, ch3⟩, ⟨cn0, cn1, cn2⟩, ⟨fh0, fh1, fh2, fh3⟩, ⟨fn0, fn1, fn2⟩⟩ := HG6.out.cells; obtain ⟨m0, m1, m2, m3⟩ := ridgewayref06_Get.st HS6.out; clear hV6x hb6)
  | (go_at_call 28; (with_reducible refine (ridgewayref06_two.calls a wr w6 HW.out).mono ?_); rintro e w7 ⟨rfl, nd, rfl⟩; have HG7 := Aside0.mk (HG6.out.below (pw_below_drewN (Below.refl _ _) nd)); have HS7 := Aside0.mk (HS6.out.drewN nd))
  | (go_at_call 25; (refine (ridgewayref06_bad.calls 6 0 0 0 0 2 6 [] _ rfl).mono ?_); rintro e wb ⟨v6, rfl, hR6, hbb⟩; have hV6 := ridgewayref06_Get.rv hR6; obtain ⟨A6, c6, rfl⟩ := Kd.V_slice hV6; simp only [List.length_nil]; have HGT := Aside0.mk (HG7.out.below hbb); clear cm0 cm1 ch0 ch1 ch2 ch3 cn0 cn1 cn2 fh0 fh1 fh2 fh3 fn0 fn1 fn2 m0 m1 m2 m3; obtain ⟨⟨cm0, cm1⟩, ⟨ch0, ch1, ch2, ch3⟩, ⟨cn0, cn1, cn2⟩, ⟨fh0, fh1, fh2, fh3⟩, ⟨fn0, fn1, fn2⟩⟩ := HGT.out.cells; have HV6 := Aside0.mk hV6; clear hR6 hV6 hbb))
 refine bodyPost_ret (results_cc rfl _ _ (w.heap.size + 1) (w.heap.size + 2) 23 29 #[.int .i64 0, .int .i64 0, .int .i64 0, .int .i64 0] #[.int .i64 2, .int .i64 6, .slice A6 0 c6] (0, 0) (0, 0) _ _ rfl (store3_far (store4 HGT.out.b4 _ _ _ _) (by omega) _ _ _) Try.underlying23 rfl (by kernel_rfl) rfl (store3 (store4_far HGT.out.b5 (by omega) _ _ _ _) _ _ _) Try.underlying29 rfl (by kernel_rfl)) rfl ?_
 exact ⟨_, rfl, fin7 HV6.out (fun k hk => by have q1 := blk_lt HG7.out.b4; have q2 := blk_lt HG7.out.b5; have hk := hk; (try simp only [World.heap_drewN] at hk); omega) HGT.out.low (by omega) (by omega) _ _ _ _ _ _ _⟩
set_option maxHeartbeats 8000000 in
set_option maxRecDepth 100000 in
theorem ridgewayref06_Get.bad3 (t : Int) (A0 : Option Addr) (c0 : Nat) (l0 : List Int) (ax : Int) (w : World) (h1 : t = 1) (hs : ridgewayref03_Sane.f t l0 = some true) (hl : 10 ≤ l0.length) (hl2 : l0.length ≤ 5000) (p0 : 0 ≤ rd l0 9) (p1 : rd l0 9 < 256) (h4 : rd l0 0 = 4) (h5 : rd l0 9 = (l0.length : Int) - 10) (a r s : Int) (hh_ : Bool) (he : ridgewayref06_reader_params.f 5000 0 false (-1) (-1) (l0.drop 10) = some (a, hh_, r, s)) (g1 : s < 0) (g2 : hh_ = true) (f1 f3 f5 : Int) (r1 r3 r5 : List Int) (o1 o3 o5 : Bool) (e1 : ridgewayref01_Get.f 8 (l0.drop 1) 2 = some (f1, r1, o1)) (e3 : ridgewayref01_Get.f 8 (l0.drop 3) 2 = some (f3, r3, o3)) (e5 : ridgewayref01_Get.f 8 (l0.drop 5) 4 = some (f5, r5, o5)) (k1 : a ≠ 0) (k2 : a = ax) (wr : Int) (hw : ridgewayref06_two.f a = some wr) (k3 : f1 = wr) (k4 : f3 ≠ 1) (k5 : f3 ≠ 2) (k6 : f5 = 0) (hr0 : Kd.C (Kd.int .u8) w A0 l0.length l0) (hc0 : l0.length ≤ c0) :
  Calls Try.prog 10 #[.agg #[.int .i64 t, .slice A0 l0.length c0], .int .i64 ax] w fun e w' => ∃ v6_ : Value, e = .returned (.tuple #[.agg #[.int .i64 0, .int .i64 0, .int .i64 0, .int .i64 0], .agg #[.int .i64 2, .int .i64 3, v6_]]) ∧ Kd.V (Kd.int .u8) 5 w' w.heap.size (fun k_ => (w.heap.size ≤ k_)) v6_ [] ∧ Below w.heap.size w w' := by
 have HR0 := Aside0.mk hr0
 have HC0 := Aside0.mk hc0
 have HG0 := Aside0.mk (got0 w (((w.alloc (Obj.cells #[.int .i64 t, .slice A0 l0.length c0] 26)).alloc (Obj.cells #[.int .i64 0, .int .i64 0, .int .i64 0, .int .i64 0] 23)).alloc (Obj.cells #[.int .i64 0, .int .i64 0, .slice none 0 0] 29)) t A0 l0 c0 (Below.refl _ _))
 obtain ⟨ad, rfl, -⟩ := hr0.2.2 (by omega)
 have HZ := Aside0.mk (ridgewayref06_Get.zz hr0 hl)
 obtain ⟨A10, hcut10, hV10⟩ : ∃ A1 : Option Addr, (∀ W' : World, (Instr.slice 24 (.slice (some ad) l0.length c0) (some (.int .i64 10)) none none).run Try.prog W' = .ok (.slice A1 (l0.length - 10) (c0 - 10)) W') ∧ ∀ W : World, Below w.heap.size w W → Kd.V (Kd.int .u8) 5 W W.heap.size (fun k => k < w.heap.size) (.slice A1 (l0.drop 10).length (c0 - 10)) (l0.drop 10) := came_drop w (some ad) c0 l0 10 hr0 hc0 (by omega) (by omega)
 have HV10 := Aside0.mk hV10
 clear hV10
 obtain ⟨A1, hcut1, hV1⟩ : ∃ A1 : Option Addr, (∀ W' : World, (Instr.slice 24 (.slice (some ad) l0.length c0) (some (.int .i64 1)) none none).run Try.prog W' = .ok (.slice A1 (l0.length - 1) (c0 - 1)) W') ∧ ∀ W : World, Below w.heap.size w W → Kd.V (Kd.int .u8) 5 W W.heap.size (fun k => k < w.heap.size) (.slice A1 (l0.drop 1).length (c0 - 1)) (l0.drop 1) := came_drop w (some ad) c0 l0 1 hr0 hc0 (by omega) (by omega)
 have HV1 := Aside0.mk hV1
 clear hV1
 obtain ⟨A3, hcut3, hV3⟩ : ∃ A1 : Option Addr, (∀ W' : World, (Instr.slice 24 (.slice (some ad) l0.length c0) (some (.int .i64 3)) none none).run Try.prog W' = .ok (.slice A1 (l0.length - 3) (c0 - 3)) W') ∧ ∀ W : World, Below w.heap.size w W → Kd.V (Kd.int .u8) 5 W W.heap.size (fun k => k < w.heap.size) (.slice A1 (l0.drop 3).length (c0 - 3)) (l0.drop 3) := came_drop w (some ad) c0 l0 3 hr0 hc0 (by omega) (by omega)
 have HV3 := Aside0.mk hV3
 clear hV3
 obtain ⟨A5, hcut5, hV5⟩ : ∃ A1 : Option Addr, (∀ W' : World, (Instr.slice 24 (.slice (some ad) l0.length c0) (some (.int .i64 5)) none none).run Try.prog W' = .ok (.slice A1 (l0.length - 5) (c0 - 5)) W') ∧ ∀ W : World, Below w.heap.size w W → Kd.V (Kd.int .u8) 5 W W.heap.size (fun k => k < w.heap.size) (.slice A1 (l0.drop 5).length (c0 - 5)) (l0.drop 5) := came_drop w (some ad) c0 l0 5 hr0 hc0 (by omega) (by omega)
 have HV5 := Aside0.mk hV5
 clear hV5
 clear hr0 hc0
 have q0 : (10 : Int) ≤ (l0.length : Int) := by omega
 have q1 : (l0.length : Int) ≤ 5000 := by omega
 have d1 : (t == 1) = true := by simp [h1]
 have d2 : (t != 1) = false := by simp [h1]
 have HS := Aside0.mk hs
 clear hs h1
 have d3 : (rd l0 0 == 4) = true := by simp [h4]
 have d4 : (rd l0 0 != 4) = false := by simp [h4]
 clear h4
 have d5 : (rd l0 9 == (l0.length : Int) - 10) = true := by simp [h5]
 have d6 : (rd l0 9 != (l0.length : Int) - 10) = false := by simp [h5]
 clear h5
 have HE := Aside0.mk he
 clear he
 have E1 := Aside0.mk e1
 have E3 := Aside0.mk e3
 have E5 := Aside0.mk e5
 clear e1 e3 e5
 subst g2
 have d7 : decide (s ≥ 0) = false := decide_eq_false (by omega)
 have d7' : decide (0 ≤ s) = false := decide_eq_false (by omega)
 have d8 : (a == 0) = false := by simp [k1]
 have d9 : (a == ax) = true := by simp [k2]
 have d10 : (a != ax) = false := by simp [k2]
 have HW := Aside0.mk hw
 clear k2 hw
 have d11 : (f1 == wr) = true := by simp [k3]
 have d12 : (f1 != wr) = false := by simp [k3]
 clear k3
 have d13 : (f3 == 1) = false := by simp [k4]
 have d14 : (f3 == 2) = false := by simp [k5]
 have d15 : (f5 == 0) = true := by simp [k6]
 clear k6
 go_enter Try.func10, Try.ntmps10
 go_wp2_with (first
  | (go_at_call 24; (with_reducible refine (ridgewayref03_Sane.calls t (some ad) c0 l0 true _ (Kd.C_alloc (Kd.C_alloc (Kd.C_alloc HR0.out _) _) _) HC0.out HS.out).mono ?_); rintro e w1 ⟨rfl, hb1⟩; have HG1 := Aside0.mk (got0 w w1 t (some ad) l0 c0 hb1); obtain ⟨⟨cm0, cm1⟩, ⟨ch0, ch1, ch2, ch3⟩, ⟨cn0, cn1, cn2⟩, ⟨fh0, fh1, fh2, fh3⟩, ⟨fn0, fn1, fn2⟩⟩ := HG1.out.cells; obtain ⟨z0, z9⟩ := HZ.out w1 HG1.out.low; clear hb1)
  | (go_at_call 26; (with_reducible refine (ridgewayref06_Get.params_at w w1 A10 c0 l0 a r s true HG1.out.low HV10.out HE.out).mono ?_); rintro e w3 ⟨rfl, hS3, hB3, hk3⟩; have HG3 := Aside0.mk (ridgewayref06_Get.but HG1.out hk3 hB3); have HS3 := Aside0.mk hS3; clear cm0 cm1 ch0 ch1 ch2 ch3 cn0 cn1 cn2 fh0 fh1 fh2 fh3 fn0 fn1 fn2 z0 z9; obtain ⟨⟨cm0, cm1⟩, ⟨ch0, ch1, ch2, ch3⟩, ⟨cn0, cn1, cn2⟩, ⟨fh0, fh1, fh2, fh3⟩, ⟨fn0, fn1, fn2⟩⟩ := HG3.out.cells; obtain ⟨m0, m1, m2, m3⟩ := ridgewayref06_Get.st HS3.out; clear hS3 hB3 hk3)
  | (go_at_call 27; have hg := ridgewayref01_Get.calls 8 (fun k => k < w.heap.size) A1 (c0 - 1) (l0.drop 1) 2 f1 r1 o1 w3 (HV1.out w3 HG3.out.low) E1.out; rw [List.length_drop] at hg; (with_reducible refine hg.mono ?_); clear hg; rintro e w4 ⟨v4, rfl, hV4x, hb4⟩; obtain ⟨A4x, c4x, rfl⟩ := Kd.V_slice hV4x; have HG4 := Aside0.mk (HG3.out.below hb4); have HS4 := Aside0.mk (HS3.out.below hb4); clear cm0 cm1 ch0 ch1 ch2 ch3 cn0 cn1 cn2 fh0 fh1 fh2 fh3 fn0 fn1 fn2 m0 m1 m2 m3; clear hV4x hb4)
  | (go_at_call 27; have hg := ridgewayref01_Get.calls 8 (fun k => k < w.heap.size) A3 (c0 - 3) (l0.drop 3) 2 f3 r3 o3 w4 (HV3.out w4 HG4.out.low) E3.out; rw [List.length_drop] at hg; (with_reducible refine hg.mono ?_); clear hg; rintro e w5 ⟨v5, rfl, hV5x, hb5⟩; obtain ⟨A5x, c5x, rfl⟩ := Kd.V_slice hV5x; have HG5 := Aside0.mk (HG4.out.below hb5); have HS5 := Aside0.mk (HS4.out.below hb5); clear hV5x hb5)
  | (go_at_call 27; have hg := ridgewayref01_Get.calls 8 (fun k => k < w.heap.size) A5 (c0 - 5) (l0.drop 5) 4 f5 r5 o5 w5 (HV5.out w5 HG5.out.low) E5.out; rw [List.length_drop] at hg; (with_reducible refine hg.mono ?_); clear hg; rintro e w6 ⟨v6, rfl, hV6x, hb6⟩; obtain ⟨A6x, c6x, rfl⟩ := Kd.V_slice hV6x; have HG6 := Aside0.mk (HG5.out.below hb6); have HS6 := Aside0.mk (HS5.out.below hb6); obtain ⟨⟨cm0, cm1⟩, ⟨ch0, ch1, ch2, ch3⟩, ⟨cn0, cn1, cn2⟩, ⟨fh0, fh1, fh2, fh3⟩, ⟨fn0, fn1, fn2⟩⟩ := HG6.out.cells; obtain ⟨m0, m1, m2, m3⟩ := ridgewayref06_Get.st HS6.out; clear hV6x hb6)
  | (go_at_call 28; (with_reducible refine (ridgewayref06_two.calls a wr w6 HW.out).mono ?_); rintro e w7 ⟨rfl, nd, rfl⟩; have HG7 := Aside0.mk (HG6.out.below (pw_below_drewN (Below.refl _ _) nd)); have HS7 := Aside0.mk (HS6.out.drewN nd))
  | (go_at_call 25; (refine (ridgewayref06_bad.calls 3 0 0 0 0 2 3 [] _ rfl).mono ?_); rintro e wb ⟨v6, rfl, hR6, hbb⟩; have hV6 := ridgewayref06_Get.rv hR6; obtain ⟨A6, c6, rfl⟩ := Kd.V_slice hV6; simp only [List.length_nil]; have HGT := Aside0.mk (HG7.out.below hbb); clear cm0 cm1 ch0 ch1 ch2 ch3 cn0 cn1 cn2 fh0 fh1 fh2 fh3 fn0 fn1 fn2 m0 m1 m2 m3; obtain ⟨⟨cm0, cm1⟩, ⟨ch0, ch1, ch2, ch3⟩, ⟨cn0, cn1, cn2⟩, ⟨fh0, fh1, fh2, fh3⟩, ⟨fn0, fn1, fn2⟩⟩ := HGT.out.cells; have HV6 := Aside0.mk hV6; clear hR6 hV6 hbb))
 refine bodyPost_ret (results_cc rfl _ _ (w.heap.size + 1) (w.heap.size + 2) 23 29 #[.int .i64 0, .int .i64 0, .int .i64 0, .int .i64 0] #[.int .i64 2, .int .i64 3, .slice A6 0 c6] (0, 0) (0, 0) _ _ rfl (store3_far (store4 HGT.out.b4 _ _ _ _) (by omega) _ _ _) Try.underlying23 rfl (by kernel_rfl) rfl (store3 (store4_far HGT.out.b5 (by omega) _ _ _ _) _ _ _) Try.underlying29 rfl (by kernel_rfl)) rfl ?_
 exact ⟨_, rfl, fin7 HV6.out (fun k hk => by have q1 := blk_lt HG7.out.b4; have q2 := blk_lt HG7.out.b5; have hk := hk; (try simp only [World.heap_drewN] at hk); omega) HGT.out.low (by omega) (by omega) _ _ _ _ _ _ _⟩
set_option maxHeartbeats 8000000 in
set_option maxRecDepth 100000 in
theorem ridgewayref06_Get.good (t : Int) (A0 : Option Addr) (c0 : Nat) (l0 : List Int) (ax : Int) (w : World) (h1 : t = 1) (hs : ridgewayref03_Sane.f t l0 = some true) (hl : 10 ≤ l0.length) (hl2 : l0.length ≤ 5000) (p0 : 0 ≤ rd l0 9) (p1 : rd l0 9 < 256) (h4 : rd l0 0 = 4) (h5 : rd l0 9 = (l0.length : Int) - 10) (a r s : Int) (hh_ : Bool) (he : ridgewayref06_reader_params.f 5000 0 false (-1) (-1) (l0.drop 10) = some (a, hh_, r, s)) (g1 : s < 0) (g2 : hh_ = true) (f1 f3 f5 : Int) (r1 r3 r5 : List Int) (o1 o3 o5 : Bool) (e1 : ridgewayref01_Get.f 8 (l0.drop 1) 2 = some (f1, r1, o1)) (e3 : ridgewayref01_Get.f 8 (l0.drop 3) 2 = some (f3, r3, o3)) (e5 : ridgewayref01_Get.f 8 (l0.drop 5) 4 = some (f5, r5, o5)) (k1 : a ≠ 0) (k2 : a = ax) (wr : Int) (hw : ridgewayref06_two.f a = some wr) (k3 : f1 = wr) (k4 : f3 ≠ 1) (k5 : f3 ≠ 2) (k6 : f5 ≠ 0) (hr0 : Kd.C (Kd.int .u8) w A0 l0.length l0) (hc0 : l0.length ≤ c0) :
  Calls Try.prog 10 #[.agg #[.int .i64 t, .slice A0 l0.length c0], .int .i64 ax] w fun e w' => ∃ v6_ : Value, e = .returned (.tuple #[.agg #[.int .i64 a, .int .i64 f3, .int .i64 f5, .int .i64 r], .agg #[.int .i64 0, .int .i64 0, v6_]]) ∧ Kd.V (Kd.int .u8) 5 w' w.heap.size (fun k_ => (w.heap.size ≤ k_)) v6_ [] ∧ Below w.heap.size w w' := by
 have HR0 := Aside0.mk hr0
 have HC0 := Aside0.mk hc0
 have HG0 := Aside0.mk (got0 w (((w.alloc (Obj.cells #[.int .i64 t, .slice A0 l0.length c0] 26)).alloc (Obj.cells #[.int .i64 0, .int .i64 0, .int .i64 0, .int .i64 0] 23)).alloc (Obj.cells #[.int .i64 0, .int .i64 0, .slice none 0 0] 29)) t A0 l0 c0 (Below.refl _ _))
 obtain ⟨ad, rfl, -⟩ := hr0.2.2 (by omega)
 have HZ := Aside0.mk (ridgewayref06_Get.zz hr0 hl)
 obtain ⟨A10, hcut10, hV10⟩ : ∃ A1 : Option Addr, (∀ W' : World, (Instr.slice 24 (.slice (some ad) l0.length c0) (some (.int .i64 10)) none none).run Try.prog W' = .ok (.slice A1 (l0.length - 10) (c0 - 10)) W') ∧ ∀ W : World, Below w.heap.size w W → Kd.V (Kd.int .u8) 5 W W.heap.size (fun k => k < w.heap.size) (.slice A1 (l0.drop 10).length (c0 - 10)) (l0.drop 10) := came_drop w (some ad) c0 l0 10 hr0 hc0 (by omega) (by omega)
 have HV10 := Aside0.mk hV10
 clear hV10
 obtain ⟨A1, hcut1, hV1⟩ : ∃ A1 : Option Addr, (∀ W' : World, (Instr.slice 24 (.slice (some ad) l0.length c0) (some (.int .i64 1)) none none).run Try.prog W' = .ok (.slice A1 (l0.length - 1) (c0 - 1)) W') ∧ ∀ W : World, Below w.heap.size w W → Kd.V (Kd.int .u8) 5 W W.heap.size (fun k => k < w.heap.size) (.slice A1 (l0.drop 1).length (c0 - 1)) (l0.drop 1) := came_drop w (some ad) c0 l0 1 hr0 hc0 (by omega) (by omega)
 have HV1 := Aside0.mk hV1
 clear hV1
 obtain ⟨A3, hcut3, hV3⟩ : ∃ A1 : Option Addr, (∀ W' : World, (Instr.slice 24 (.slice (some ad) l0.length c0) (some (.int .i64 3)) none none).run Try.prog W' = .ok (.slice A1 (l0.length - 3) (c0 - 3)) W') ∧ ∀ W : World, Below w.heap.size w W → Kd.V (Kd.int .u8) 5 W W.heap.size (fun k => k < w.heap.size) (.slice A1 (l0.drop 3).length (c0 - 3)) (l0.drop 3) := came_drop w (some ad) c0 l0 3 hr0 hc0 (by omega) (by omega)
 have HV3 := Aside0.mk hV3
 clear hV3
 obtain ⟨A5, hcut5, hV5⟩ : ∃ A1 : Option Addr, (∀ W' : World, (Instr.slice 24 (.slice (some ad) l0.length c0) (some (.int .i64 5)) none none).run Try.prog W' = .ok (.slice A1 (l0.length - 5) (c0 - 5)) W') ∧ ∀ W : World, Below w.heap.size w W → Kd.V (Kd.int .u8) 5 W W.heap.size (fun k => k < w.heap.size) (.slice A1 (l0.drop 5).length (c0 - 5)) (l0.drop 5) := came_drop w (some ad) c0 l0 5 hr0 hc0 (by omega) (by omega)
 have HV5 := Aside0.mk hV5
 clear hV5
 clear hr0 hc0
 have q0 : (10 : Int) ≤ (l0.length : Int) := by omega
 have q1 : (l0.length : Int) ≤ 5000 := by omega
 have d1 : (t == 1) = true := by simp [h1]
 have d2 : (t != 1) = false := by simp [h1]
 have HS := Aside0.mk hs
 clear hs h1
 have d3 : (rd l0 0 == 4) = true := by simp [h4]
 have d4 : (rd l0 0 != 4) = false := by simp [h4]
 clear h4
 have d5 : (rd l0 9 == (l0.length : Int) - 10) = true := by simp [h5]
 have d6 : (rd l0 9 != (l0.length : Int) - 10) = false := by simp [h5]
 clear h5
 have HE := Aside0.mk he
 clear he
 have E1 := Aside0.mk e1
 have E3 := Aside0.mk e3
 have E5 := Aside0.mk e5
 clear e1 e3 e5
 subst g2
 have d7 : decide (s ≥ 0) = false := decide_eq_false (by omega)
 have d7' : decide (0 ≤ s) = false := decide_eq_false (by omega)
 have d8 : (a == 0) = false := by simp [k1]
 have d9 : (a == ax) = true := by simp [k2]
 have d10 : (a != ax) = false := by simp [k2]
 have HW := Aside0.mk hw
 clear k2 hw
 have d11 : (f1 == wr) = true := by simp [k3]
 have d12 : (f1 != wr) = false := by simp [k3]
 clear k3
 have d13 : (f3 == 1) = false := by simp [k4]
 have d14 : (f3 == 2) = false := by simp [k5]
 have d15 : (f5 == 0) = false := by simp [k6]
 go_enter Try.func10, Try.ntmps10
 go_wp2_with (first
  | (go_at_call 24; (with_reducible refine (ridgewayref03_Sane.calls t (some ad) c0 l0 true _ (Kd.C_alloc (Kd.C_alloc (Kd.C_alloc HR0.out _) _) _) HC0.out HS.out).mono ?_); rintro e w1 ⟨rfl, hb1⟩; have HG1 := Aside0.mk (got0 w w1 t (some ad) l0 c0 hb1); obtain ⟨⟨cm0, cm1⟩, ⟨ch0, ch1, ch2, ch3⟩, ⟨cn0, cn1, cn2⟩, ⟨fh0, fh1, fh2, fh3⟩, ⟨fn0, fn1, fn2⟩⟩ := HG1.out.cells; obtain ⟨z0, z9⟩ := HZ.out w1 HG1.out.low; clear hb1)
  | (go_at_call 26; (with_reducible refine (ridgewayref06_Get.params_at w w1 A10 c0 l0 a r s true HG1.out.low HV10.out HE.out).mono ?_); rintro e w3 ⟨rfl, hS3, hB3, hk3⟩; have HG3 := Aside0.mk (ridgewayref06_Get.but HG1.out hk3 hB3); have HS3 := Aside0.mk hS3; clear cm0 cm1 ch0 ch1 ch2 ch3 cn0 cn1 cn2 fh0 fh1 fh2 fh3 fn0 fn1 fn2 z0 z9; obtain ⟨⟨cm0, cm1⟩, ⟨ch0, ch1, ch2, ch3⟩, ⟨cn0, cn1, cn2⟩, ⟨fh0, fh1, fh2, fh3⟩, ⟨fn0, fn1, fn2⟩⟩ := HG3.out.cells; obtain ⟨m0, m1, m2, m3⟩ := ridgewayref06_Get.st HS3.out; clear hS3 hB3 hk3)
  | (go_at_call 27; have hg := ridgewayref01_Get.calls 8 (fun k => k < w.heap.size) A1 (c0 - 1) (l0.drop 1) 2 f1 r1 o1 w3 (HV1.out w3 HG3.out.low) E1.out; rw [List.length_drop] at hg; (with_reducible refine hg.mono ?_); clear hg; rintro e w4 ⟨v4, rfl, hV4x, hb4⟩; obtain ⟨A4x, c4x, rfl⟩ := Kd.V_slice hV4x; have HG4 := Aside0.mk (HG3.out.below hb4); have HS4 := Aside0.mk (HS3.out.below hb4); clear cm0 cm1 ch0 ch1 ch2 ch3 cn0 cn1 cn2 fh0 fh1 fh2 fh3 fn0 fn1 fn2 m0 m1 m2 m3; clear hV4x hb4)
  | (go_at_call 27; have hg := ridgewayref01_Get.calls 8 (fun k => k < w.heap.size) A3 (c0 - 3) (l0.drop 3) 2 f3 r3 o3 w4 (HV3.out w4 HG4.out.low) E3.out; rw [List.length_drop] at hg; (with_reducible refine hg.mono ?_); clear hg; rintro e w5 ⟨v5, rfl, hV5x, hb5⟩; obtain ⟨A5x, c5x, rfl⟩ := Kd.V_slice hV5x; have HG5 := Aside0.mk (HG4.out.below hb5); have HS5 := Aside0.mk (HS4.out.below hb5); clear hV5x hb5)
  | (go_at_call 27; have hg := ridgewayref01_Get.calls 8 (fun k => k < w.heap.size) A5 (c0 - 5) (l0.drop 5) 4 f5 r5 o5 w5 (HV5.out w5 HG5.out.low) E5.out; rw [List.length_drop] at hg; (with_reducible refine hg.mono ?_); clear hg; rintro e w6 ⟨v6, rfl, hV6x, hb6⟩; obtain ⟨A6x, c6x, rfl⟩ := Kd.V_slice hV6x; have HG6 := Aside0.mk (HG5.out.below hb6); have HS6 := Aside0.mk (HS5.out.below hb6); obtain ⟨⟨cm0, cm1⟩, ⟨ch0, ch1, ch2, ch3⟩, ⟨cn0, cn1, cn2⟩, ⟨fh0, fh1, fh2, fh3⟩, ⟨fn0, fn1, fn2⟩⟩ := HG6.out.cells; obtain ⟨m0, m1, m2, m3⟩ := ridgewayref06_Get.st HS6.out; clear hV6x hb6)
  | (go_at_call 28; (with_reducible refine (ridgewayref06_two.calls a wr w6 HW.out).mono ?_); rintro e w7 ⟨rfl, nd, rfl⟩; have HG7 := Aside0.mk (HG6.out.below (pw_below_drewN (Below.refl _ _) nd)); have HS7 := Aside0.mk (HS6.out.drewN nd)))
 go_region
 go_wp2
 have HG8 := Aside0.mk (HG6.out.below (pw_below_drewN (Below.refl _ _) (nd + 1)))
 have HV6 := Aside0.mk (Kd.V_nil (Kd.int .u8) 5 (w6.drewN (nd + 1)) 0 (fun _ => False))
 refine bodyPost_ret (results_cc rfl _ _ (w.heap.size + 1) (w.heap.size + 2) 23 29 #[.int .i64 a, .int .i64 f3, .int .i64 f5, .int .i64 r] #[.int .i64 0, .int .i64 0, .slice none 0 0] (0, 0) (0, 0) _ _ rfl (store3_far (store4 HG8.out.b4 _ _ _ _) (by omega) _ _ _) Try.underlying23 rfl (by kernel_rfl) rfl (store3 (store4_far HG8.out.b5 (by omega) _ _ _ _) _ _ _) Try.underlying29 rfl (by kernel_rfl)) rfl ?_
 exact ⟨_, rfl, fin7 HV6.out (fun k hk => hk.elim) HG8.out.low (by omega) (by omega) _ _ _ _ _ _ _⟩

def ridgewayref06_Get.f (t : Int) (b : List Int) (ax : Int) : Option (Int × Int × Int × Int × Int × Int × List Int) :=
 if t = 1 then (ridgewayref03_Sane.f t b).bind fun s => if s = true then
   if 10 ≤ b.length ∧ b.length ≤ 5000 ∧ 0 ≤ rd b 9 ∧ rd b 9 < 256 then
    if rd b 0 = 4 then
     if rd b 9 = (b.length : Int) - 10 then
      (ridgewayref06_reader_params.f 5000 0 false (-1) (-1) (b.drop 10)).bind fun e => if 0 ≤ e.2.2.2 then some (0, 0, 0, 0, 2, e.2.2.2, []) else if e.2.1 = false then some (0, 0, 0, 0, 2, 7, [65, 0]) else
       (ridgewayref01_Get.f 8 (b.drop 1) 2).bind fun p => (ridgewayref01_Get.f 8 (b.drop 3) 2).bind fun q => (ridgewayref01_Get.f 8 (b.drop 5) 4).bind fun r => (ridgewayref06_two.f e.1).bind fun wr =>
        some (if e.1 = 0 ∨ e.1 ≠ ax ∨ p.1 ≠ wr then (0, 0, 0, 0, 2, 2, []) else if q.1 = 1 ∨ q.1 = 2 then (0, 0, 0, 0, 2, 6, []) else if r.1 = 0 then (0, 0, 0, 0, 2, 3, []) else (e.1, q.1, r.1, e.2.2.1, 0, 0, []))
     else some (0, 0, 0, 0, 2, 0, [])
    else some (0, 0, 0, 0, 2, 1, [0, 4])
   else none
  else some (0, 0, 0, 0, 2, 0, [])
 else some (0, 0, 0, 0, 2, 0, [])
theorem ridgewayref06_Get.calls (t : Int) (A0 : Option Addr) (c0 : Nat) (l0 : List Int) (ax : Int) (r1 r2 r3 r4 r5 r6 : Int) (r7 : List Int) (w : World) (hr0 : Kd.C (Kd.int .u8) w A0 l0.length l0) (hc0 : l0.length ≤ c0) (h : ridgewayref06_Get.f t l0 ax = some (r1, r2, r3, r4, r5, r6, r7)) :
  Calls Try.prog 10 #[.agg #[.int .i64 t, .slice A0 l0.length c0], .int .i64 ax] w fun e w' => ∃ v6_ : Value, e = .returned (.tuple #[.agg #[.int .i64 r1, .int .i64 r2, .int .i64 r3, .int .i64 r4], .agg #[.int .i64 r5, .int .i64 r6, v6_]]) ∧ Kd.V (Kd.int .u8) 5 w' w.heap.size (fun k_ => (w.heap.size ≤ k_)) v6_ r7 ∧ Below w.heap.size w w' := by
 unfold ridgewayref06_Get.f at h
 by_cases h1 : t = 1
 rotate_left
 ·
  rw [if_neg h1] at h
  cases h
  exact ridgewayref06_Get.bad0a t A0 c0 l0 ax w h1 hr0 hc0
 rw [if_pos h1] at h
 obtain ⟨s, hs, h⟩ := Option.bind_eq_some_iff.mp h
 cases s
 ·
  rw [if_neg (by decide)] at h
  cases h
  exact ridgewayref06_Get.bad0b t A0 c0 l0 ax w h1 hs hr0 hc0
 rw [if_pos rfl] at h
 by_cases h2 : 10 ≤ l0.length ∧ l0.length ≤ 5000 ∧ 0 ≤ rd l0 9 ∧ rd l0 9 < 256
 rotate_left
 ·
  rw [if_neg h2] at h
  cases h
 rw [if_pos h2] at h
 obtain ⟨hl, hl2, p0, p1⟩ := h2
 by_cases h4 : rd l0 0 = 4
 rotate_left
 ·
  rw [if_neg h4] at h
  cases h
  exact ridgewayref06_Get.bad1 t A0 c0 l0 ax w h1 hs hl hl2 p0 p1 h4 hr0 hc0
 rw [if_pos h4] at h
 by_cases h5 : rd l0 9 = (l0.length : Int) - 10
 rotate_left
 ·
  rw [if_neg h5] at h
  cases h
  exact ridgewayref06_Get.bad0c t A0 c0 l0 ax w h1 hs hl hl2 p0 p1 h4 h5 hr0 hc0
 rw [if_pos h5] at h
 obtain ⟨⟨a, hh_, r, s⟩, he, h⟩ := Option.bind_eq_some_iff.mp h
 dsimp only at h
 by_cases g1 : 0 ≤ s
 ·
  rw [if_pos g1] at h
  cases h
  exact ridgewayref06_Get.badE t A0 c0 l0 ax w h1 hs hl hl2 p0 p1 h4 h5 a r r6 hh_ he g1 hr0 hc0
 rw [if_neg g1] at h
 by_cases g2 : hh_ = false
 ·
  rw [if_pos g2] at h
  cases h
  exact ridgewayref06_Get.bad7 t A0 c0 l0 ax w h1 hs hl hl2 p0 p1 h4 h5 a r s hh_ he (by omega) g2 hr0 hc0
 rw [if_neg g2] at h
 have g2 : hh_ = true := by simpa using g2
 obtain ⟨⟨f1, q1, o1⟩, e1, h⟩ := Option.bind_eq_some_iff.mp h
 obtain ⟨⟨f3, q3, o3⟩, e3, h⟩ := Option.bind_eq_some_iff.mp h
 obtain ⟨⟨f5, q5, o5⟩, e5, h⟩ := Option.bind_eq_some_iff.mp h
 obtain ⟨wr, hw, h⟩ := Option.bind_eq_some_iff.mp h
 dsimp only at h
 have gs : s < 0 := by omega
 by_cases k0 : a = 0 ∨ a ≠ ax ∨ f1 ≠ wr
 ·
  rw [if_pos k0] at h
  cases h
  by_cases k1 : a = 0
  ·
   exact ridgewayref06_Get.bad2a t A0 c0 l0 ax w h1 hs hl hl2 p0 p1 h4 h5 a r s hh_ he gs g2 f1 f3 f5 q1 q3 q5 o1 o3 o5 e1 e3 e5 k1 hr0 hc0
  by_cases k2 : a ≠ ax
  ·
   exact ridgewayref06_Get.bad2b t A0 c0 l0 ax w h1 hs hl hl2 p0 p1 h4 h5 a r s hh_ he gs g2 f1 f3 f5 q1 q3 q5 o1 o3 o5 e1 e3 e5 k1 k2 hr0 hc0
  ·
   exact ridgewayref06_Get.bad2c t A0 c0 l0 ax w h1 hs hl hl2 p0 p1 h4 h5 a r s hh_ he gs g2 f1 f3 f5 q1 q3 q5 o1 o3 o5 e1 e3 e5 k1 (by simpa using k2) wr hw ((k0.resolve_left k1).resolve_left k2) hr0 hc0
 rw [if_neg k0] at h
 obtain ⟨k1, k2, k3⟩ : a ≠ 0 ∧ a = ax ∧ f1 = wr := by
  refine ⟨fun e => k0 (.inl e), ?_, ?_⟩
  ·
   exact Decidable.byContradiction (fun e => k0 (.inr (.inl e)))
  ·
   exact Decidable.byContradiction (fun e => k0 (.inr (.inr e)))
 by_cases k4 : f3 = 1 ∨ f3 = 2
 ·
  rw [if_pos k4] at h
  cases h
  rcases k4 with k4 | k4
  ·
   exact ridgewayref06_Get.bad6a t A0 c0 l0 ax w h1 hs hl hl2 p0 p1 h4 h5 a r s hh_ he gs g2 f1 f3 f5 q1 q3 q5 o1 o3 o5 e1 e3 e5 k1 k2 wr hw k3 k4 hr0 hc0
  ·
   exact ridgewayref06_Get.bad6b t A0 c0 l0 ax w h1 hs hl hl2 p0 p1 h4 h5 a r s hh_ he gs g2 f1 f3 f5 q1 q3 q5 o1 o3 o5 e1 e3 e5 k1 k2 wr hw k3 k4 hr0 hc0
 rw [if_neg k4] at h
 by_cases k6 : f5 = 0
 ·
  rw [if_pos k6] at h
  cases h
  exact ridgewayref06_Get.bad3 t A0 c0 l0 ax w h1 hs hl hl2 p0 p1 h4 h5 a r s hh_ he gs g2 f1 f3 f5 q1 q3 q5 o1 o3 o5 e1 e3 e5 k1 k2 wr hw k3 (fun e => k4 (.inl e)) (fun e => k4 (.inr e)) k6 hr0 hc0
 rw [if_neg k6] at h
 cases h
 exact ridgewayref06_Get.good t A0 c0 l0 ax w h1 hs hl hl2 p0 p1 h4 h5 r1 r4 s hh_ he gs g2 f1 r2 r3 q1 q3 q5 o1 o3 o5 e1 e3 e5 k1 k2 wr hw k3 (fun e => k4 (.inl e)) (fun e => k4 (.inr e)) k6 hr0 hc0

/-! ### ridgewayref03_SameNote: function 11 -/
def ridgewayref03_SameNote.f (a0_0 : Int) (a0_1 : Int) (l0_2 : List Int) (a1_0 : Int) (a1_1 : Int) (l1_2 : List Int) : Option (Bool) := if a0_0 = a1_0 then (if a0_1 = a1_1 then (some ((strOfNums l0_2).toList == (strOfNums l1_2).toList)) else (some false)) else (some false)
set_option maxHeartbeats 8000000 in
set_option maxRecDepth 100000 in
theorem ridgewayref03_SameNote.calls (a0_0 : Int) (a0_1 : Int) (A0_2 : Option Addr) (c0_2 : Nat) (l0_2 : List Int) (a1_0 : Int) (a1_1 : Int) (A1_2 : Option Addr) (c1_2 : Nat) (l1_2 : List Int) (r : Bool) (w : World) (hr0_2 : Kd.C (Kd.int .u8) w A0_2 l0_2.length l0_2) (hc0_2 : l0_2.length ≤ c0_2) (hr1_2 : Kd.C (Kd.int .u8) w A1_2 l1_2.length l1_2) (hc1_2 : l1_2.length ≤ c1_2) (h : ridgewayref03_SameNote.f a0_0 a0_1 l0_2 a1_0 a1_1 l1_2 = some r) :
  Calls Try.prog 11 #[.agg #[.int .i64 a0_0, .int .i64 a0_1, .slice A0_2 l0_2.length c0_2], .agg #[.int .i64 a1_0, .int .i64 a1_1, .slice A1_2 l1_2.length c1_2]] w fun e w' => e = .returned (.bool r) ∧ Below w.heap.size w w' := by
 have hu29 := Try.underlying29
 have HR0_2 := Aside0.mk hr0_2
 have HC0_2 := Aside0.mk hc0_2
 clear hr0_2 hc0_2
 have HR1_2 := Aside0.mk hr1_2
 have HC1_2 := Aside0.mk hc1_2
 clear hr1_2 hc1_2
 have HB := Aside0.mk (Below.refl w.heap.size w)
 have H : (if a0_0 = a1_0 then (if a0_1 = a1_1 then (some ((strOfNums l0_2).toList == (strOfNums l1_2).toList)) else (some false)) else (some false)) = some r := h
 clear h
 by_cases c3 : a0_0 = a1_0
 ·
  rw [if_pos c3] at H
  have c3b0 : (a0_0 == a1_0) = true := beq_iff_eq.mpr c3
  have c3b1 : (a0_0 != a1_0) = false := bne_eq_false_iff_eq.mpr c3
  clear c3
  by_cases c4 : a0_1 = a1_1
  ·
   rw [if_pos c4] at H
   have c4b0 : (a0_1 == a1_1) = true := beq_iff_eq.mpr c4
   have c4b1 : (a0_1 != a1_1) = false := bne_eq_false_iff_eq.mpr c4
   clear c4
   obtain rfl := Option.some.inj H
   go_enter Try.func11, Try.ntmps11
   go_wp2_with (first | ((with_reducible refine gate_dst (N := 2) rfl ?_); refine box_event ?hg (N := 2) ?hd (cs := #[.int .i64 a0_0, .int .i64 a0_1, .slice A0_2 l0_2.length c0_2]) (t := 29) ?hr ?_; (case hd => rfl); (case hg => rfl); (case hr => first | (go_simp; done) | (go_simp; rfl)); intro gb259 hg w5 hbox hb; have n0_ := Aside0.mk (below_step (by repeat (first | (with_reducible first | exact HB.out | apply bA | apply bN | apply bD) | exact HB.out)) hb); have n1_ := Aside0.mk (hbox); have n2_ := Aside0.mk ((by rw [hg]; exact (below_size (by repeat (first | (with_reducible first | exact HB.out | apply bA | apply bN | apply bD) | exact HB.out))) : w.heap.size ≤ gb259)); have n3_ := Aside0.mk ((by rw [hg]; exact (below_size (by repeat (first | (with_reducible first | exact HB.out | apply bA | apply bN | apply bD) | exact HB.out))) : w.heap.size ≤ gb259)); clear HB; have HB := n0_; have BK259 := n1_; have GW259 := n2_; have GE259 := n3_; clear n0_ n1_ n2_ n3_; clear hb hbox hg) | ((with_reducible refine gate_dst (N := 3) rfl ?_); refine box_event ?hg (N := 3) ?hd (cs := #[.int .i64 a1_0, .int .i64 a1_1, .slice A1_2 l1_2.length c1_2]) (t := 29) ?hr ?_; (case hd => rfl); (case hg => rfl); (case hr => first | (go_simp; done) | (go_simp; rfl)); intro gb260 hg w6 hbox hb; have n0_ := Aside0.mk (blk_below (g := gb259) (o := .cells #[.int .i64 a0_0, .int .i64 a0_1, .slice A0_2 l0_2.length c0_2] 29 (0, 0)) (by (with_reducible repeat (first | refine kN ?_ _ | refine kD ?_ | refine kA ?_ _)); exact BK259.out) hb); have n1_ := Aside0.mk (below_step (by repeat (first | (with_reducible first | exact HB.out | apply bA | apply bN | apply bD | refine bS ?_ GE259.out) | exact HB.out)) hb); have n2_ := Aside0.mk (hbox); have n3_ := Aside0.mk ((by rw [hg]; exact (below_size (by repeat (first | (with_reducible first | exact HB.out | apply bA | apply bN | apply bD | refine bS ?_ GE259.out) | exact HB.out))) : w.heap.size ≤ gb260)); have n4_ := Aside0.mk ((by rw [hg]; exact (below_size (by repeat (first | (with_reducible first | exact HB.out | apply bA | apply bN | apply bD | refine bS ?_ GE259.out) | exact HB.out))) : w.heap.size ≤ gb260)); have n5_ := Aside0.mk ((by rw [hg]; exact Nat.ne_of_lt (blk_lt (g := gb259) (o := .cells #[.int .i64 a0_0, .int .i64 a0_1, .slice A0_2 l0_2.length c0_2] 29 (0, 0)) (by (with_reducible repeat (first | refine kN ?_ _ | refine kD ?_ | refine kA ?_ _)); exact BK259.out)) : gb259 ≠ gb260)); have n6_ := Aside0.mk ((by rw [hg]; exact Nat.ne_of_gt (blk_lt (g := gb259) (o := .cells #[.int .i64 a0_0, .int .i64 a0_1, .slice A0_2 l0_2.length c0_2] 29 (0, 0)) (by (with_reducible repeat (first | refine kN ?_ _ | refine kD ?_ | refine kA ?_ _)); exact BK259.out)) : gb260 ≠ gb259)); clear BK259; clear HB; have BK259 := n0_; have HB := n1_; have BK260 := n2_; have GW260 := n3_; have GE260 := n4_; have NB259_260 := n5_; have NB260_259 := n6_; clear n0_ n1_ n2_ n3_ n4_ n5_ n6_; clear hb hbox hg; have hnb7 := NB259_260.out; have hnc7 := NB260_259.out; have hcz8_0 : w6.cell? ⟨gb259, 0, none⟩ = some (.int .i64 a0_0) := (blk_cell BK259.out 0).trans rfl; have hcz8_1 : w6.cell? ⟨gb259, 1, none⟩ = some (.int .i64 a0_1) := (blk_cell BK259.out 1).trans rfl; have hcz8_2 : w6.cell? ⟨gb259, 2, none⟩ = some (.slice A0_2 l0_2.length c0_2) := (blk_cell BK259.out 2).trans rfl; have hfz8_0 := blk_frozen BK259.out 0; have hfz8_1 := blk_frozen BK259.out 1; have hfz8_2 := blk_frozen BK259.out 2; have hcz9_0 : w6.cell? ⟨gb260, 0, none⟩ = some (.int .i64 a1_0) := (blk_cell BK260.out 0).trans rfl; have hcz9_1 : w6.cell? ⟨gb260, 1, none⟩ = some (.int .i64 a1_1) := (blk_cell BK260.out 1).trans rfl; have hcz9_2 : w6.cell? ⟨gb260, 2, none⟩ = some (.slice A1_2 l1_2.length c1_2) := (blk_cell BK260.out 2).trans rfl; have hfz9_0 := blk_frozen BK260.out 0; have hfz9_1 := blk_frozen BK260.out 1; have hfz9_2 := blk_frozen BK260.out 2; have hcv10 := Kd.C_string (P := Try.prog) (A := A0_2) (c := c0_2) Try.underlying24 Try.underlying5 Try.underlying9 (Kd.C_below HR0_2.out HB.out); have hcv11 := Kd.C_string (P := Try.prog) (A := A1_2) (c := c1_2) Try.underlying24 Try.underlying5 Try.underlying9 (Kd.C_below HR1_2.out HB.out)))
   go_ret
   exact ⟨by first | rfl | (simp <;> rfl) | (simp [*] <;> rfl), by repeat (first | (with_reducible first | exact HB.out | apply bA | apply bN | apply bD | refine bS ?_ GE259.out | refine bS ?_ GE260.out) | exact HB.out)⟩
  ·
   rw [if_neg c4] at H
   have c4b0 : (a0_1 == a1_1) = false := beq_eq_false_iff_ne.mpr c4
   have c4b1 : (a0_1 != a1_1) = true := bne_iff_ne.mpr c4
   obtain rfl := Option.some.inj H
   go_enter Try.func11, Try.ntmps11
   go_wp2_with (first | ((with_reducible refine gate_dst (N := 2) rfl ?_); refine box_event ?hg (N := 2) ?hd (cs := #[.int .i64 a0_0, .int .i64 a0_1, .slice A0_2 l0_2.length c0_2]) (t := 29) ?hr ?_; (case hd => rfl); (case hg => rfl); (case hr => first | (go_simp; done) | (go_simp; rfl)); intro gb259 hg w12 hbox hb; have n0_ := Aside0.mk (below_step (by repeat (first | (with_reducible first | exact HB.out | apply bA | apply bN | apply bD) | exact HB.out)) hb); have n1_ := Aside0.mk (hbox); have n2_ := Aside0.mk ((by rw [hg]; exact (below_size (by repeat (first | (with_reducible first | exact HB.out | apply bA | apply bN | apply bD) | exact HB.out))) : w.heap.size ≤ gb259)); have n3_ := Aside0.mk ((by rw [hg]; exact (below_size (by repeat (first | (with_reducible first | exact HB.out | apply bA | apply bN | apply bD) | exact HB.out))) : w.heap.size ≤ gb259)); clear HB; have HB := n0_; have BK259 := n1_; have GW259 := n2_; have GE259 := n3_; clear n0_ n1_ n2_ n3_; clear hb hbox hg) | ((with_reducible refine gate_dst (N := 3) rfl ?_); refine box_event ?hg (N := 3) ?hd (cs := #[.int .i64 a1_0, .int .i64 a1_1, .slice A1_2 l1_2.length c1_2]) (t := 29) ?hr ?_; (case hd => rfl); (case hg => rfl); (case hr => first | (go_simp; done) | (go_simp; rfl)); intro gb260 hg w13 hbox hb; have n0_ := Aside0.mk (blk_below (g := gb259) (o := .cells #[.int .i64 a0_0, .int .i64 a0_1, .slice A0_2 l0_2.length c0_2] 29 (0, 0)) (by (with_reducible repeat (first | refine kN ?_ _ | refine kD ?_ | refine kA ?_ _)); exact BK259.out) hb); have n1_ := Aside0.mk (below_step (by repeat (first | (with_reducible first | exact HB.out | apply bA | apply bN | apply bD | refine bS ?_ GE259.out) | exact HB.out)) hb); have n2_ := Aside0.mk (hbox); have n3_ := Aside0.mk ((by rw [hg]; exact (below_size (by repeat (first | (with_reducible first | exact HB.out | apply bA | apply bN | apply bD | refine bS ?_ GE259.out) | exact HB.out))) : w.heap.size ≤ gb260)); have n4_ := Aside0.mk ((by rw [hg]; exact (below_size (by repeat (first | (with_reducible first | exact HB.out | apply bA | apply bN | apply bD | refine bS ?_ GE259.out) | exact HB.out))) : w.heap.size ≤ gb260)); have n5_ := Aside0.mk ((by rw [hg]; exact Nat.ne_of_lt (blk_lt (g := gb259) (o := .cells #[.int .i64 a0_0, .int .i64 a0_1, .slice A0_2 l0_2.length c0_2] 29 (0, 0)) (by (with_reducible repeat (first | refine kN ?_ _ | refine kD ?_ | refine kA ?_ _)); exact BK259.out)) : gb259 ≠ gb260)); have n6_ := Aside0.mk ((by rw [hg]; exact Nat.ne_of_gt (blk_lt (g := gb259) (o := .cells #[.int .i64 a0_0, .int .i64 a0_1, .slice A0_2 l0_2.length c0_2] 29 (0, 0)) (by (with_reducible repeat (first | refine kN ?_ _ | refine kD ?_ | refine kA ?_ _)); exact BK259.out)) : gb260 ≠ gb259)); clear BK259; clear HB; have BK259 := n0_; have HB := n1_; have BK260 := n2_; have GW260 := n3_; have GE260 := n4_; have NB259_260 := n5_; have NB260_259 := n6_; clear n0_ n1_ n2_ n3_ n4_ n5_ n6_; clear hb hbox hg; have hnb14 := NB259_260.out; have hnc14 := NB260_259.out; have hcz15_0 : w13.cell? ⟨gb259, 0, none⟩ = some (.int .i64 a0_0) := (blk_cell BK259.out 0).trans rfl; have hcz15_1 : w13.cell? ⟨gb259, 1, none⟩ = some (.int .i64 a0_1) := (blk_cell BK259.out 1).trans rfl; have hcz15_2 : w13.cell? ⟨gb259, 2, none⟩ = some (.slice A0_2 l0_2.length c0_2) := (blk_cell BK259.out 2).trans rfl; have hfz15_0 := blk_frozen BK259.out 0; have hfz15_1 := blk_frozen BK259.out 1; have hfz15_2 := blk_frozen BK259.out 2; have hcz16_0 : w13.cell? ⟨gb260, 0, none⟩ = some (.int .i64 a1_0) := (blk_cell BK260.out 0).trans rfl; have hcz16_1 : w13.cell? ⟨gb260, 1, none⟩ = some (.int .i64 a1_1) := (blk_cell BK260.out 1).trans rfl; have hcz16_2 : w13.cell? ⟨gb260, 2, none⟩ = some (.slice A1_2 l1_2.length c1_2) := (blk_cell BK260.out 2).trans rfl; have hfz16_0 := blk_frozen BK260.out 0; have hfz16_1 := blk_frozen BK260.out 1; have hfz16_2 := blk_frozen BK260.out 2))
   go_ret
   exact ⟨by first | rfl | (simp <;> rfl) | (simp [*] <;> rfl), by repeat (first | (with_reducible first | exact HB.out | apply bA | apply bN | apply bD | refine bS ?_ GE259.out | refine bS ?_ GE260.out) | exact HB.out)⟩
 ·
  rw [if_neg c3] at H
  have c3b0 : (a0_0 == a1_0) = false := beq_eq_false_iff_ne.mpr c3
  have c3b1 : (a0_0 != a1_0) = true := bne_iff_ne.mpr c3
  obtain rfl := Option.some.inj H
  go_enter Try.func11, Try.ntmps11
  go_wp2_with (first | ((with_reducible refine gate_dst (N := 2) rfl ?_); refine box_event ?hg (N := 2) ?hd (cs := #[.int .i64 a0_0, .int .i64 a0_1, .slice A0_2 l0_2.length c0_2]) (t := 29) ?hr ?_; (case hd => rfl); (case hg => rfl); (case hr => first | (go_simp; done) | (go_simp; rfl)); intro gb259 hg w17 hbox hb; have n0_ := Aside0.mk (below_step (by repeat (first | (with_reducible first | exact HB.out | apply bA | apply bN | apply bD) | exact HB.out)) hb); have n1_ := Aside0.mk (hbox); have n2_ := Aside0.mk ((by rw [hg]; exact (below_size (by repeat (first | (with_reducible first | exact HB.out | apply bA | apply bN | apply bD) | exact HB.out))) : w.heap.size ≤ gb259)); have n3_ := Aside0.mk ((by rw [hg]; exact (below_size (by repeat (first | (with_reducible first | exact HB.out | apply bA | apply bN | apply bD) | exact HB.out))) : w.heap.size ≤ gb259)); clear HB; have HB := n0_; have BK259 := n1_; have GW259 := n2_; have GE259 := n3_; clear n0_ n1_ n2_ n3_; clear hb hbox hg) | ((with_reducible refine gate_dst (N := 3) rfl ?_); refine box_event ?hg (N := 3) ?hd (cs := #[.int .i64 a1_0, .int .i64 a1_1, .slice A1_2 l1_2.length c1_2]) (t := 29) ?hr ?_; (case hd => rfl); (case hg => rfl); (case hr => first | (go_simp; done) | (go_simp; rfl)); intro gb260 hg w18 hbox hb; have n0_ := Aside0.mk (blk_below (g := gb259) (o := .cells #[.int .i64 a0_0, .int .i64 a0_1, .slice A0_2 l0_2.length c0_2] 29 (0, 0)) (by (with_reducible repeat (first | refine kN ?_ _ | refine kD ?_ | refine kA ?_ _)); exact BK259.out) hb); have n1_ := Aside0.mk (below_step (by repeat (first | (with_reducible first | exact HB.out | apply bA | apply bN | apply bD | refine bS ?_ GE259.out) | exact HB.out)) hb); have n2_ := Aside0.mk (hbox); have n3_ := Aside0.mk ((by rw [hg]; exact (below_size (by repeat (first | (with_reducible first | exact HB.out | apply bA | apply bN | apply bD | refine bS ?_ GE259.out) | exact HB.out))) : w.heap.size ≤ gb260)); have n4_ := Aside0.mk ((by rw [hg]; exact (below_size (by repeat (first | (with_reducible first | exact HB.out | apply bA | apply bN | apply bD | refine bS ?_ GE259.out) | exact HB.out))) : w.heap.size ≤ gb260)); have n5_ := Aside0.mk ((by rw [hg]; exact Nat.ne_of_lt (blk_lt (g := gb259) (o := .cells #[.int .i64 a0_0, .int .i64 a0_1, .slice A0_2 l0_2.length c0_2] 29 (0, 0)) (by (with_reducible repeat (first | refine kN ?_ _ | refine kD ?_ | refine kA ?_ _)); exact BK259.out)) : gb259 ≠ gb260)); have n6_ := Aside0.mk ((by rw [hg]; exact Nat.ne_of_gt (blk_lt (g := gb259) (o := .cells #[.int .i64 a0_0, .int .i64 a0_1, .slice A0_2 l0_2.length c0_2] 29 (0, 0)) (by (with_reducible repeat (first | refine kN ?_ _ | refine kD ?_ | refine kA ?_ _)); exact BK259.out)) : gb260 ≠ gb259)); clear BK259; clear HB; have BK259 := n0_; have HB := n1_; have BK260 := n2_; have GW260 := n3_; have GE260 := n4_; have NB259_260 := n5_; have NB260_259 := n6_; clear n0_ n1_ n2_ n3_ n4_ n5_ n6_; clear hb hbox hg; have hnb19 := NB259_260.out; have hnc19 := NB260_259.out; have hcz20_0 : w18.cell? ⟨gb259, 0, none⟩ = some (.int .i64 a0_0) := (blk_cell BK259.out 0).trans rfl; have hcz20_1 : w18.cell? ⟨gb259, 1, none⟩ = some (.int .i64 a0_1) := (blk_cell BK259.out 1).trans rfl; have hcz20_2 : w18.cell? ⟨gb259, 2, none⟩ = some (.slice A0_2 l0_2.length c0_2) := (blk_cell BK259.out 2).trans rfl; have hfz20_0 := blk_frozen BK259.out 0; have hfz20_1 := blk_frozen BK259.out 1; have hfz20_2 := blk_frozen BK259.out 2; have hcz21_0 : w18.cell? ⟨gb260, 0, none⟩ = some (.int .i64 a1_0) := (blk_cell BK260.out 0).trans rfl; have hcz21_1 : w18.cell? ⟨gb260, 1, none⟩ = some (.int .i64 a1_1) := (blk_cell BK260.out 1).trans rfl; have hcz21_2 : w18.cell? ⟨gb260, 2, none⟩ = some (.slice A1_2 l1_2.length c1_2) := (blk_cell BK260.out 2).trans rfl; have hfz21_0 := blk_frozen BK260.out 0; have hfz21_1 := blk_frozen BK260.out 1; have hfz21_2 := blk_frozen BK260.out 2))
  go_ret
  exact ⟨by first | rfl | (simp <;> rfl) | (simp [*] <;> rfl), by repeat (first | (with_reducible first | exact HB.out | apply bA | apply bN | apply bD | refine bS ?_ GE259.out | refine bS ?_ GE260.out) | exact HB.out)⟩

end Go.Proofs.Ytedahidfbplpkaa.Q
