/- Each call of a Go function comes to what the Lean function of its name answers (written out by wip/tools/xprint.py, checked by Lean); conditions: those in each statement. -/
import Derived.Test.YtfbndolhocojiaaDoorMx0
import Derived.Test.YtfbndolhocojiaaDoorMx3
import Derived.Test.YtfbndolhocojiaaDoorMx7
import Derived.Test.YtfbndolhocojiaaDoorMx9
import Derived.Test.YtfbndolhocojiaaDoorMx14
import Derived.Test.YtfbndolhocojiaaDoorMx15
import Derived.Test.YtfbndolhocojiaaDoorXMeetP
import Derived.Test.YtfbndolhocojiaaDoorXRow
import Derived.Test.YtfbndolhocojiaaDoorXLaw
import Derived.Test.YtfbndolhocojiaaDoorXLawB
import Derived.Laws.EntriesVeiled
import Derived.Deep.QuietTactic
import Derived.BigQuiet
import Derived.Deep.RegionWith
import Derived.Deep.DrawnRows
namespace Go.Proofs.YtfbndolhocojiaaDoor.M
open Go.RowKit Go.Proofs.YtfbndolhocojiaaDoorW.PrintWords Go.Proofs.YtfbndolhocojiaaDoorW.PrintLast Go.Proofs.YtfbndolhocojiaaDoorW.PrintMore Go.Proofs.YtfbndolhocojiaaDoorW.PrintX
attribute [local go_sem] max2_int min2_int max_two min_two max_three min_three max_four min_four   -- for this text's walks alone
set_option linter.unusedVariables false
set_option linter.unusedSimpArgs false

/-! ### ridgewaylaw17_SessionMeet: function 3 -/
def ridgewaylaw17_SessionMeet.f (a0 a1 a2 a3 a4 a5 : Int) : Option Bool := some true
theorem sd_cells {W : World} {ad : Addr} {q r : Int} (h : Kd.C k31 W (some ad) 1 (Pure.sdL q r)) : W.cell? ad = some (.int .i64 q) ∧ W.cell? ⟨ad.block, ad.off + 1, none⟩ = some (.int .i64 r) := by
 obtain ⟨ad', B2, d2, B3, d3, e, x0, x1, -⟩ := at_T31 h 0 (by omega) (by omega)
 cases e
 rw [show ((0 : Int)).toNat * 4 = 0 from rfl, Addr.add_zero'] at x0 x1
 exact ⟨x0, x1⟩
theorem mt_newB {w0 w1 : World} {e g : Nat} {d : Kd S31} {ok : Nat → Prop} {v : Value} {xs : List S31} {o : Obj} (h : Kd.S d e w1 w0.heap.size ok v xs) (hb : w0.heap[g]? = some o) : Kd.S d e w1 w0.heap.size (fun k => ok k ∧ k ≠ g) v xs := Kd.S_mono (Kd.S_bound h) (fun k hk => ⟨hk.1, by have := blk_lt hb; have := hk.2.1; omega⟩)
def MtA (w : World) (gA : Nat) (o : Obj) (ad : Addr) (l : List S31) (W : World) : Prop := Below w.heap.size w W ∧ W.heap[gA]? = some o ∧ Kd.C k31 W (some ad) l.length l
theorem MtA.below {w : World} {gA : Nat} {o : Obj} {ad : Addr} {l : List S31} {W W' : World} (h : MtA w gA o ad l W) (hb : Below W.heap.size W W') : MtA w gA o ad l W' := ⟨below_step h.1 hb, blk_below h.2.1 hb, Kd.C_below h.2.2 hb⟩
theorem MtA.alloc {w : World} {gA : Nat} {o : Obj} {ad : Addr} {l : List S31} {W : World} (h : MtA w gA o ad l W) (o' : Obj) : MtA w gA o ad l (W.alloc o') := h.below (below_alloc (Below.refl _ _) _)
theorem MtA.drew {w : World} {gA : Nat} {o : Obj} {ad : Addr} {l : List S31} {W : World} (h : MtA w gA o ad l W) : MtA w gA o ad l W.drew := h.below (below_drew (Below.refl _ _))
theorem conf_puts {W0 w1 : World} {g : Nat} (hb : Below W0.heap.size W0 w1) (hg : W0.heap.size ≤ g) (h : w1.heap[g]? = some (.cells #[.int .i64 0, .int .i64 0, .int .i64 0, .int .i64 0, .slice none 0 0, .slice none 0 0] 26 (0, 0))) (v0 v1 v2 v3 v4 v5 : Value) :
  ((((((w1.setCell ⟨g, 0, none⟩ v0).setCell ⟨g, 1, none⟩ v1).setCell ⟨g, 2, none⟩ v2).setCell ⟨g, 3, none⟩ v3).setCell ⟨g, 4, none⟩ v4).setCell ⟨g, 5, none⟩ v5).heap[g]? = some (.cells #[v0, v1, v2, v3, v4, v5] 26 (0, 0)) ∧ (∀ k, k ≠ g → ((((((w1.setCell ⟨g, 0, none⟩ v0).setCell ⟨g, 1, none⟩ v1).setCell ⟨g, 2, none⟩ v2).setCell ⟨g, 3, none⟩ v3).setCell ⟨g, 4, none⟩ v4).setCell ⟨g, 5, none⟩ v5).heap[k]? = w1.heap[k]?) ∧ Below W0.heap.size W0 ((((((w1.setCell ⟨g, 0, none⟩ v0).setCell ⟨g, 1, none⟩ v1).setCell ⟨g, 2, none⟩ v2).setCell ⟨g, 3, none⟩ v3).setCell ⟨g, 4, none⟩ v4).setCell ⟨g, 5, none⟩ v5) := by
 refine ⟨?_, fun k hk => ?_, bS (bS (bS (bS (bS (bS hb hg) hg) hg) hg) hg) hg⟩
 ·
  exact blk_put (blk_put (blk_put (blk_put (blk_put (blk_put h 0 v0 rfl) 1 v1 rfl) 2 v2 rfl) 3 v3 rfl) 4 v4 rfl) 5 v5 rfl
 ·
  rw [Below.heap_setCell _ _ _ _ (by exact hk), Below.heap_setCell _ _ _ _ (by exact hk), Below.heap_setCell _ _ _ _ (by exact hk), Below.heap_setCell _ _ _ _ (by exact hk), Below.heap_setCell _ _ _ _ (by exact hk), Below.heap_setCell _ _ _ _ (by exact hk)]
set_option maxHeartbeats 8000000 in
set_option maxRecDepth 100000 in
theorem mt_region (a0 a1 a2 a3 a4 a5 P Q R S : Int) (An : Option Addr) (cn : Nat) (ad : Addr) (cd gA : Nat) {PQ : Exit → Act → World → Prop} (w W0 : World) (h4 : wrap64 (wrap64 (1 + Go.bits .and .i64 a3 1) + Go.bits .and .i64 (a3 / 2) 1) = S) (hA : MtA w gA (.cells #[.int .i64 P, .int .i64 P, .int .i64 a4, .int .i64 9, .slice An 0 cn, .slice (some ad) 1 cd] 26 (0, 0)) ad (Pure.sdL Q R) W0)
  (hP : ∀ c (a : Act) (d : Tmp) (v : Value) (W : World), PQ (.panic c) (a.put (some d) v) W → PQ (.panic c) a W) (hQ : ∀ (gB : Nat) (W2 : World) (Bn : Option Addr) (dn : Nat) (Bd : Option Addr) (dd : Nat), MtA w gA (.cells #[.int .i64 P, .int .i64 P, .int .i64 a4, .int .i64 9, .slice An 0 cn, .slice (some ad) 1 cd] 26 (0, 0)) ad (Pure.sdL Q R) W2 → W2.heap[gB]? = some (.cells #[.int .i64 Q, .int .i64 Q, .int .i64 a5, .int .i64 9, .slice Bn 0 dn, .slice Bd 1 dd] 26 (0, 0)) → Kd.C k31 W2 Bd 1 (Pure.sdL P S) → 1 ≤ dd → PQ .normal { tmps := #[.int .i64 a0, .int .i64 a1, .int .i64 a2, .int .i64 a3, .int .i64 a4, .int .i64 a5, undef, undef, undef, undef, undef, undef, .bool false, .bool true, .pointer (some ⟨gA, 0, none⟩), .pointer (some ⟨gB, 0, none⟩), undef, undef, undef, undef, undef, undef, undef, undef, undef, undef, undef, undef, undef, undef, .bool true, .int .i64 a0, .int .i64 (Go.bits .and .i64 a0 65535), .int .i64 P, .int .i64 a1, .int .i64 (Go.bits .and .i64 a1 65535), .int .i64 Q, .int .i64 a2, .int .i64 (Go.bits .and .i64 a2 1), .int .i64 (wrap64 (1 + Go.bits .and .i64 a2 1)), .int .i64 a2, .int .i64 (a2 / 2), .int .i64 (Go.bits .and .i64 (a2 / 2) 1), .int .i64 R, .int .i64 a4, .agg #[.int .i64 P, .int .i64 P, .int .i64 a4, .int .i64 9, .slice An 0 cn, .slice (some ad) 1 cd], .pointer (some ⟨gA, 5, none⟩), .slice (some ad) 1 cd, .pointer (some ad), .pointer (some ad), .int .i64 Q, .pointer (some ⟨gA, 0, none⟩), .int .i64 P, .int .i64 a3, .int .i64 (Go.bits .and .i64 a3 1), .int .i64 (IntKind.i64.wrap (1 + Go.bits .and .i64 a3 1)), .int .i64 a3, .int .i64 (a3 / 2), .int .i64 (Go.bits .and .i64 (a3 / 2) 1), .int .i64 (IntKind.i64.wrap (IntKind.i64.wrap (1 + Go.bits .and .i64 a3 1) + Go.bits .and .i64 (a3 / 2) 1)), .int .i64 a5, .agg #[.int .i64 Q, .int .i64 Q, .int .i64 a5, .int .i64 9, .slice Bn 0 dn, .slice Bd 1 dd], undef, undef, undef, undef, undef, undef, undef, undef, undef, undef, undef, undef, undef, undef, undef, undef, undef, undef, undef, undef, undef, undef, undef, undef, undef, undef, undef, undef, undef, undef, undef, undef, undef, undef, undef, undef, undef, undef, undef, undef, undef, undef, undef, undef, undef, undef, undef, undef, undef, undef, undef, undef, undef, undef, undef, undef, undef, undef, undef, undef, undef, undef, undef, undef, undef, undef, undef, undef, undef, undef, undef, undef, undef, undef, undef, undef, undef, undef, undef, undef, undef, undef, undef, undef, undef, undef, undef, undef, undef, undef, undef, undef, undef, undef, undef, undef, undef, undef, undef, undef, undef, undef, undef, undef, undef, undef, undef, undef, undef, undef, undef, undef, undef, undef, undef, undef, undef, undef, undef, undef, undef, undef, undef, undef, undef, undef, undef, undef, undef, undef, undef, undef, undef, undef, undef, undef, undef, undef, undef, undef, undef, undef, undef], defers := [] } W2) :
  Code.wp Tryd.prog (Code.region 3 #[{ dst := some 46, op := Op.fieldAddr 26 (Operand.tmp 14) 5, type := 0, pos := "law.go:100", after := #[], guard := none }, { dst := some 47, op := Op.load 24 (Operand.tmp 46), type := 24, pos := "law.go:100", after := #[{ on := 0, ground := Ground.data }], guard := none }, { dst := some 48, op := Op.indexAddr 24 (Operand.tmp 47) (Operand.const (Value.int IntKind.i64 0)), type := 0, pos := "law.go:100", after := #[{ on := 1, ground := Ground.data }], guard := none }, { dst := some 49, op := Op.fieldAddr 31 (Operand.tmp 48) 0, type := 0, pos := "law.go:100", after := #[{ on := 2, ground := Ground.data }], guard := none }, { dst := some 50, op := Op.load 3 (Operand.tmp 49), type := 3, pos := "law.go:100", after := #[{ on := 3, ground := Ground.data }], guard := none }, { dst := some 51, op := Op.fieldAddr 26 (Operand.tmp 14) 0, type := 0, pos := "law.go:100", after := #[], guard := none }, { dst := some 52, op := Op.load 3 (Operand.tmp 51), type := 3, pos := "law.go:100", after := #[{ on := 5, ground := Ground.data }], guard := none }, { dst := some 53, op := Op.move (Operand.tmp 3), type := 3, pos := "law.go:100", after := #[], guard := none }, { dst := some 54, op := Op.binOp BinOp.and 3 (Operand.tmp 53) (Operand.const (Value.int IntKind.i64 1)) 3, type := 3, pos := "law.go:100", after := #[{ on := 7, ground := Ground.data }], guard := none }, { dst := some 55, op := Op.binOp BinOp.add 3 (Operand.const (Value.int IntKind.i64 1)) (Operand.tmp 54) 3, type := 3, pos := "law.go:100", after := #[{ on := 8, ground := Ground.data }], guard := none }, { dst := some 56, op := Op.move (Operand.tmp 3), type := 3, pos := "law.go:100", after := #[], guard := none }, { dst := some 57, op := Op.binOp BinOp.shr 3 (Operand.tmp 56) (Operand.const (Value.int IntKind.u64 1)) 28, type := 3, pos := "law.go:100", after := #[{ on := 10, ground := Ground.data }], guard := none }, { dst := some 58, op := Op.binOp BinOp.and 3 (Operand.tmp 57) (Operand.const (Value.int IntKind.i64 1)) 3, type := 3, pos := "law.go:100", after := #[{ on := 11, ground := Ground.data }], guard := none }, { dst := some 59, op := Op.binOp BinOp.add 3 (Operand.tmp 55) (Operand.tmp 58) 3, type := 3, pos := "law.go:100", after := #[{ on := 9, ground := Ground.data }, { on := 12, ground := Ground.data }], guard := none }, { dst := some 60, op := Op.move (Operand.tmp 5), type := 3, pos := "law.go:100", after := #[], guard := none }, { dst := some 61, op := Op.call { callee := Callee.value (Operand.func 9), args := #[Operand.tmp 50, Operand.tmp 52, Operand.tmp 59, Operand.tmp 60], argTypes := #[3, 3, 3, 3] }, type := 26, pos := "law.go:100", after := #[{ on := 4, ground := Ground.data }, { on := 6, ground := Ground.data }, { on := 13, ground := Ground.data }, { on := 14, ground := Ground.data }], guard := none }, { dst := some 15, op := Op.alloc 26, type := 0, pos := "law.go:100", after := #[], guard := none }, { dst := none, op := Op.store 26 (Operand.tmp 15) (Operand.tmp 61), type := 0, pos := "law.go:100", after := #[{ on := 16, ground := Ground.data }, { on := 15, ground := Ground.data }, { on := 15, ground := Ground.chain }, { on := 0, ground := Ground.phase }, { on := 1, ground := Ground.phase }, { on := 2, ground := Ground.phase }, { on := 3, ground := Ground.phase }, { on := 4, ground := Ground.phase }, { on := 5, ground := Ground.phase }, { on := 6, ground := Ground.phase }, { on := 7, ground := Ground.phase }, { on := 8, ground := Ground.phase }, { on := 9, ground := Ground.phase }, { on := 10, ground := Ground.phase }, { on := 11, ground := Ground.phase }, { on := 12, ground := Ground.phase }, { on := 13, ground := Ground.phase }, { on := 14, ground := Ground.phase }, { on := 15, ground := Ground.phase }, { on := 16, ground := Ground.phase }], guard := none }] true) PQ { tmps := #[.int .i64 a0, .int .i64 a1, .int .i64 a2, .int .i64 a3, .int .i64 a4, .int .i64 a5, undef, undef, undef, undef, undef, undef, .bool false, .bool true, .pointer (some ⟨gA, 0, none⟩), undef, undef, undef, undef, undef, undef, undef, undef, undef, undef, undef, undef, undef, undef, undef, .bool true, .int .i64 a0, .int .i64 (Go.bits .and .i64 a0 65535), .int .i64 P, .int .i64 a1, .int .i64 (Go.bits .and .i64 a1 65535), .int .i64 Q, .int .i64 a2, .int .i64 (Go.bits .and .i64 a2 1), .int .i64 (wrap64 (1 + Go.bits .and .i64 a2 1)), .int .i64 a2, .int .i64 (a2 / 2), .int .i64 (Go.bits .and .i64 (a2 / 2) 1), .int .i64 R, .int .i64 a4, .agg #[.int .i64 P, .int .i64 P, .int .i64 a4, .int .i64 9, .slice An 0 cn, .slice (some ad) 1 cd], undef, undef, undef, undef, undef, undef, undef, undef, undef, undef, undef, undef, undef, undef, undef, undef, undef, undef, undef, undef, undef, undef, undef, undef, undef, undef, undef, undef, undef, undef, undef, undef, undef, undef, undef, undef, undef, undef, undef, undef, undef, undef, undef, undef, undef, undef, undef, undef, undef, undef, undef, undef, undef, undef, undef, undef, undef, undef, undef, undef, undef, undef, undef, undef, undef, undef, undef, undef, undef, undef, undef, undef, undef, undef, undef, undef, undef, undef, undef, undef, undef, undef, undef, undef, undef, undef, undef, undef, undef, undef, undef, undef, undef, undef, undef, undef, undef, undef, undef, undef, undef, undef, undef, undef, undef, undef, undef, undef, undef, undef, undef, undef, undef, undef, undef, undef, undef, undef, undef, undef, undef, undef, undef, undef, undef, undef, undef, undef, undef, undef, undef, undef, undef, undef, undef, undef, undef, undef, undef, undef, undef, undef, undef, undef, undef, undef, undef, undef, undef, undef, undef, undef, undef, undef, undef, undef, undef, undef, undef], defers := [] } W0 := by
 have HQ := Aside0.mk hQ
 have HP := Aside0.mk hP
 have HS0 := Aside0.mk hA
 clear hA hQ hP
 obtain ⟨S', hSe⟩ : ∃ S' : World → Prop, ∀ W, S' W = MtA w gA (.cells #[.int .i64 P, .int .i64 P, .int .i64 a4, .int .i64 9, .slice An 0 cn, .slice (some ad) 1 cd] 26 (0, 0)) ad (Pure.sdL Q R) W := ⟨MtA w gA (.cells #[.int .i64 P, .int .i64 P, .int .i64 a4, .int .i64 9, .slice An 0 cn, .slice (some ad) 1 cd] 26 (0, 0)) ad (Pure.sdL Q R), fun _ => rfl⟩
 refine wp_region_held (S := S') (by kernel_rfl) ?_
 change wpAnyH _ _ _ _ _ _ _ _ W0.drew
 have hS : S' W0.drew := by rw [hSe]; exact HS0.out.drew
 refine wpAnyH_take (i := 0) (oi := { dst := some 46, op := Op.fieldAddr 26 (Operand.tmp 14) 5, type := 0, pos := "law.go:100", after := #[], guard := none }) (v := ?vv1) rfl (by kernel_rfl) (by kernel_rfl) (by kernel_rfl) (fun c a W h => HP.out c a _ _ W h) (Or.inl ⟨by rfl, ?hy1⟩) hS ?rest1
 case hy1 => (intro W hSw; clear hSw; go_simp; try with_reducible rfl)
 try simp only [Act.put, sA, sB, sC]
 refine wpAnyH_take (i := 1) (oi := { dst := some 47, op := Op.load 24 (Operand.tmp 46), type := 24, pos := "law.go:100", after := #[{ on := 0, ground := Ground.data }], guard := none }) (v := ?vv2) rfl (by kernel_rfl) (by kernel_rfl) (by kernel_rfl) (fun c a W h => HP.out c a _ _ W h) (Or.inl ⟨by rfl, ?hy2⟩) hS ?rest2
 case hy2 => (intro W hSw; rw [hSe] at hSw; obtain ⟨z0, z1, z2, z3, z4, z5, -, -, -, -, -, -⟩ := bc6 hSw.2.1; obtain ⟨y0, y1⟩ := sd_cells hSw.2.2; clear hSw; go_simp; try with_reducible rfl)
 try simp only [Act.put, sA, sB, sC]
 refine wpAnyH_take (i := 2) (oi := { dst := some 48, op := Op.indexAddr 24 (Operand.tmp 47) (Operand.const (Value.int IntKind.i64 0)), type := 0, pos := "law.go:100", after := #[{ on := 1, ground := Ground.data }], guard := none }) (v := ?vv3) rfl (by kernel_rfl) (by kernel_rfl) (by kernel_rfl) (fun c a W h => HP.out c a _ _ W h) (Or.inl ⟨by rfl, ?hy3⟩) hS ?rest3
 case hy3 => (intro W hSw; clear hSw; go_simp; try with_reducible rfl)
 try simp only [Act.put, sA, sB, sC]
 refine wpAnyH_take (i := 3) (oi := { dst := some 49, op := Op.fieldAddr 31 (Operand.tmp 48) 0, type := 0, pos := "law.go:100", after := #[{ on := 2, ground := Ground.data }], guard := none }) (v := ?vv4) rfl (by kernel_rfl) (by kernel_rfl) (by kernel_rfl) (fun c a W h => HP.out c a _ _ W h) (Or.inl ⟨by rfl, ?hy4⟩) hS ?rest4
 case hy4 => (intro W hSw; clear hSw; go_simp; try with_reducible rfl)
 try simp only [Act.put, sA, sB, sC]
 refine wpAnyH_take (i := 4) (oi := { dst := some 50, op := Op.load 3 (Operand.tmp 49), type := 3, pos := "law.go:100", after := #[{ on := 3, ground := Ground.data }], guard := none }) (v := ?vv5) rfl (by kernel_rfl) (by kernel_rfl) (by kernel_rfl) (fun c a W h => HP.out c a _ _ W h) (Or.inl ⟨by rfl, ?hy5⟩) hS ?rest5
 case hy5 => (intro W hSw; rw [hSe] at hSw; obtain ⟨z0, z1, z2, z3, z4, z5, -, -, -, -, -, -⟩ := bc6 hSw.2.1; obtain ⟨y0, y1⟩ := sd_cells hSw.2.2; clear hSw; go_simp; try with_reducible rfl)
 try simp only [Act.put, sA, sB, sC]
 refine wpAnyH_take (i := 5) (oi := { dst := some 51, op := Op.fieldAddr 26 (Operand.tmp 14) 0, type := 0, pos := "law.go:100", after := #[], guard := none }) (v := ?vv6) rfl (by kernel_rfl) (by kernel_rfl) (by kernel_rfl) (fun c a W h => HP.out c a _ _ W h) (Or.inl ⟨by rfl, ?hy6⟩) hS ?rest6
 case hy6 => (intro W hSw; clear hSw; go_simp; try with_reducible rfl)
 try simp only [Act.put, sA, sB, sC]
 refine wpAnyH_take (i := 6) (oi := { dst := some 52, op := Op.load 3 (Operand.tmp 51), type := 3, pos := "law.go:100", after := #[{ on := 5, ground := Ground.data }], guard := none }) (v := ?vv7) rfl (by kernel_rfl) (by kernel_rfl) (by kernel_rfl) (fun c a W h => HP.out c a _ _ W h) (Or.inl ⟨by rfl, ?hy7⟩) hS ?rest7
 case hy7 => (intro W hSw; rw [hSe] at hSw; obtain ⟨z0, z1, z2, z3, z4, z5, -, -, -, -, -, -⟩ := bc6 hSw.2.1; obtain ⟨y0, y1⟩ := sd_cells hSw.2.2; clear hSw; go_simp; try with_reducible rfl)
 try simp only [Act.put, sA, sB, sC]
 refine wpAnyH_take (i := 7) (oi := { dst := some 53, op := Op.move (Operand.tmp 3), type := 3, pos := "law.go:100", after := #[], guard := none }) (v := ?vv8) rfl (by kernel_rfl) (by kernel_rfl) (by kernel_rfl) (fun c a W h => HP.out c a _ _ W h) (Or.inl ⟨by rfl, ?hy8⟩) hS ?rest8
 case hy8 => (intro W hSw; skip; go_simp; try with_reducible rfl)
 try simp only [Act.put, sA, sB, sC]
 refine wpAnyH_take (i := 8) (oi := { dst := some 54, op := Op.binOp BinOp.and 3 (Operand.tmp 53) (Operand.const (Value.int IntKind.i64 1)) 3, type := 3, pos := "law.go:100", after := #[{ on := 7, ground := Ground.data }], guard := none }) (v := ?vv9) rfl (by kernel_rfl) (by kernel_rfl) (by kernel_rfl) (fun c a W h => HP.out c a _ _ W h) (Or.inl ⟨by rfl, ?hy9⟩) hS ?rest9
 case hy9 => (intro W hSw; skip; go_simp; try with_reducible rfl)
 try simp only [Act.put, sA, sB, sC]
 refine wpAnyH_take (i := 9) (oi := { dst := some 55, op := Op.binOp BinOp.add 3 (Operand.const (Value.int IntKind.i64 1)) (Operand.tmp 54) 3, type := 3, pos := "law.go:100", after := #[{ on := 8, ground := Ground.data }], guard := none }) (v := ?vv10) rfl (by kernel_rfl) (by kernel_rfl) (by kernel_rfl) (fun c a W h => HP.out c a _ _ W h) (Or.inl ⟨by rfl, ?hy10⟩) hS ?rest10
 case hy10 => (intro W hSw; skip; go_simp; try with_reducible rfl)
 try simp only [Act.put, sA, sB, sC]
 refine wpAnyH_take (i := 10) (oi := { dst := some 56, op := Op.move (Operand.tmp 3), type := 3, pos := "law.go:100", after := #[], guard := none }) (v := ?vv11) rfl (by kernel_rfl) (by kernel_rfl) (by kernel_rfl) (fun c a W h => HP.out c a _ _ W h) (Or.inl ⟨by rfl, ?hy11⟩) hS ?rest11
 case hy11 => (intro W hSw; skip; go_simp; try with_reducible rfl)
 try simp only [Act.put, sA, sB, sC]
 refine wpAnyH_take (i := 11) (oi := { dst := some 57, op := Op.binOp BinOp.shr 3 (Operand.tmp 56) (Operand.const (Value.int IntKind.u64 1)) 28, type := 3, pos := "law.go:100", after := #[{ on := 10, ground := Ground.data }], guard := none }) (v := ?vv12) rfl (by kernel_rfl) (by kernel_rfl) (by kernel_rfl) (fun c a W h => HP.out c a _ _ W h) (Or.inl ⟨by rfl, ?hy12⟩) hS ?rest12
 case hy12 => (intro W hSw; skip; go_simp; try with_reducible rfl)
 try simp only [Act.put, sA, sB, sC]
 refine wpAnyH_take (i := 12) (oi := { dst := some 58, op := Op.binOp BinOp.and 3 (Operand.tmp 57) (Operand.const (Value.int IntKind.i64 1)) 3, type := 3, pos := "law.go:100", after := #[{ on := 11, ground := Ground.data }], guard := none }) (v := ?vv13) rfl (by kernel_rfl) (by kernel_rfl) (by kernel_rfl) (fun c a W h => HP.out c a _ _ W h) (Or.inl ⟨by rfl, ?hy13⟩) hS ?rest13
 case hy13 => (intro W hSw; skip; go_simp; try with_reducible rfl)
 try simp only [Act.put, sA, sB, sC]
 refine wpAnyH_take (i := 13) (oi := { dst := some 59, op := Op.binOp BinOp.add 3 (Operand.tmp 55) (Operand.tmp 58) 3, type := 3, pos := "law.go:100", after := #[{ on := 9, ground := Ground.data }, { on := 12, ground := Ground.data }], guard := none }) (v := ?vv14) rfl (by kernel_rfl) (by kernel_rfl) (by kernel_rfl) (fun c a W h => HP.out c a _ _ W h) (Or.inl ⟨by rfl, ?hy14⟩) hS ?rest14
 case hy14 => (intro W hSw; skip; go_simp; try with_reducible rfl)
 try simp only [Act.put, sA, sB, sC]
 refine wpAnyH_take (i := 14) (oi := { dst := some 60, op := Op.move (Operand.tmp 5), type := 3, pos := "law.go:100", after := #[], guard := none }) (v := ?vv15) rfl (by kernel_rfl) (by kernel_rfl) (by kernel_rfl) (fun c a W h => HP.out c a _ _ W h) (Or.inl ⟨by rfl, ?hy15⟩) hS ?rest15
 case hy15 => (intro W hSw; skip; go_simp; try with_reducible rfl)
 try simp only [Act.put, sA, sB, sC]
 refine wpAnyH_ready (rs := [15, 16]) (by kernel_rfl) (by simp) ?_
 refine AllReadyH.cons (o := { dst := some 61, op := Op.call { callee := Callee.value (Operand.func 9), args := #[Operand.tmp 50, Operand.tmp 52, Operand.tmp 59, Operand.tmp 60], argTypes := #[3, 3, 3, 3] }, type := 26, pos := "law.go:100", after := #[{ on := 4, ground := Ground.data }, { on := 6, ground := Ground.data }, { on := 13, ground := Ground.data }, { on := 14, ground := Ground.data }], guard := none }) rfl (fun K hK => ?_) (AllReadyH.cons (o := { dst := some 15, op := Op.alloc 26, type := 0, pos := "law.go:100", after := #[], guard := none }) rfl (fun K hK => ?_) AllReadyH.nil)
 ·
  have hh := ridgewaylaw17_node.calls Q P S a5 Q Q a5 9 [] (Pure.sdL P S) W0.drew rfl
  go_wp2_with (first | (go_at_call 9; (with_reducible refine hh.mono ?_); clear hh; rintro e w1 ⟨v4, v5, rfl, hr_, hs, hb1⟩; obtain ⟨Bn, dn, rfl⟩ := Kd.R_slice hr_; obtain ⟨Bd, dd, rfl⟩ := Kd.S_slice hs))
  have HS1 := Aside0.mk (HS0.out.drew.below hb1)
  have HR1 := Aside0.mk (Kd.S_reads' hs).2
  clear hb1 hs hr_
  refine hK.out _ _ ?_ (fun hS => ?_)
  ·
   rw [hSe]; exact HS1.out
  clear hK K
  try simp only [Act.put, sA, sB, sC]
  refine wpAnyH_ready (rs := [16]) (by kernel_rfl) (by simp) ?_
  refine AllReadyH.cons (o := { dst := some 15, op := Op.alloc 26, type := 0, pos := "law.go:100", after := #[], guard := none }) rfl (fun K hK => ?_) AllReadyH.nil
  go_simp
  refine hK.out _ _ ?_ (fun hS => ?_)
  ·
   rw [hSe]; exact HS1.out.alloc _
  clear hK K
  try simp only [Act.put, sA, sB, sC]
  refine wpAnyH_ready (rs := [17]) (by kernel_rfl) (by simp) ?_
  refine AllReadyH.cons (o := { dst := none, op := Op.store 26 (Operand.tmp 15) (Operand.tmp 61), type := 0, pos := "law.go:100", after := #[{ on := 16, ground := Ground.data }, { on := 15, ground := Ground.data }, { on := 15, ground := Ground.chain }, { on := 0, ground := Ground.phase }, { on := 1, ground := Ground.phase }, { on := 2, ground := Ground.phase }, { on := 3, ground := Ground.phase }, { on := 4, ground := Ground.phase }, { on := 5, ground := Ground.phase }, { on := 6, ground := Ground.phase }, { on := 7, ground := Ground.phase }, { on := 8, ground := Ground.phase }, { on := 9, ground := Ground.phase }, { on := 10, ground := Ground.phase }, { on := 11, ground := Ground.phase }, { on := 12, ground := Ground.phase }, { on := 13, ground := Ground.phase }, { on := 14, ground := Ground.phase }, { on := 15, ground := Ground.phase }, { on := 16, ground := Ground.phase }], guard := none }) rfl (fun K hK => ?_) AllReadyH.nil
  go_simp
  have HT0 := HS1.out.alloc (.cells #[.int .i64 Q, .int .i64 Q, .int .i64 a5, .int .i64 9, .slice Bn 0 dn, .slice Bd 1 dd] 26)
  have hk0 := heap_alloc_new w1 (.cells #[.int .i64 Q, .int .i64 Q, .int .i64 a5, .int .i64 9, .slice Bn 0 dn, .slice Bd 1 dd] 26)
  refine hK.out _ _ ?_ (fun hS => ?_)
  ·
   rw [hSe]; exact HT0
  clear hK K
  try simp only [Act.put, sA, sB, sC]
  refine wpAnyH_done (by kernel_rfl) ?_ _
  exact HQ.out w1.heap.size _ Bn dn Bd dd HT0 hk0 (Kd.C_below HR1.out.2 (below_alloc (Below.refl _ _) _)) HR1.out.1
 ·
  go_simp
  refine hK.out _ _ ?_ (fun hS => ?_)
  ·
   rw [hSe]; exact (HS0.out.alloc _).drew
  clear hK K
  try simp only [Act.put, sA, sB, sC]
  refine wpAnyH_ready (rs := [15]) (by kernel_rfl) (by simp) ?_
  refine AllReadyH.cons (o := { dst := some 61, op := Op.call { callee := Callee.value (Operand.func 9), args := #[Operand.tmp 50, Operand.tmp 52, Operand.tmp 59, Operand.tmp 60], argTypes := #[3, 3, 3, 3] }, type := 26, pos := "law.go:100", after := #[{ on := 4, ground := Ground.data }, { on := 6, ground := Ground.data }, { on := 13, ground := Ground.data }, { on := 14, ground := Ground.data }], guard := none }) rfl (fun K hK => ?_) AllReadyH.nil
  have hh := ridgewaylaw17_node.calls Q P S a5 Q Q a5 9 [] (Pure.sdL P S) (W0.alloc (.cells #[.int .i64 0, .int .i64 0, .int .i64 0, .int .i64 0, .slice none 0 0, .slice none 0 0] 26)).drew rfl
  go_wp2_with (first | (go_at_call 9; (with_reducible refine hh.mono ?_); clear hh; rintro e w1 ⟨v4, v5, rfl, hr_, hs, hb1⟩; obtain ⟨Bn, dn, rfl⟩ := Kd.R_slice hr_; obtain ⟨Bd, dd, rfl⟩ := Kd.S_slice hs))
  have hz := show (W0.alloc (.cells #[.int .i64 0, .int .i64 0, .int .i64 0, .int .i64 0, .slice none 0 0, .slice none 0 0] 26)).drew.heap[W0.heap.size]? = some _ from heap_alloc_new W0 _
  have HB1 := Aside0.mk (below_step (below_drew (below_alloc (Below.refl W0.heap.size W0) (.cells #[.int .i64 0, .int .i64 0, .int .i64 0, .int .i64 0, .slice none 0 0, .slice none 0 0] 26))) hb1)
  have HR1 := Aside0.mk (mt_newB hs hz)
  have h76 := blk_below hz hb1
  clear hb1 hs hr_ hz
  obtain ⟨z0, z1, z2, z3, z4, z5, f0, f1, f2, f3, f4, f5⟩ := bc6 h76
  have H76 := Aside0.mk h76
  clear h76
  refine hK.out _ _ ?_ (fun hS => ?_)
  ·
   rw [hSe]; exact HS0.out.below HB1.out
  clear hK K
  try simp only [Act.put, sA, sB, sC]
  refine wpAnyH_ready (rs := [17]) (by kernel_rfl) (by simp) ?_
  refine AllReadyH.cons (o := { dst := none, op := Op.store 26 (Operand.tmp 15) (Operand.tmp 61), type := 0, pos := "law.go:100", after := #[{ on := 16, ground := Ground.data }, { on := 15, ground := Ground.data }, { on := 15, ground := Ground.chain }, { on := 0, ground := Ground.phase }, { on := 1, ground := Ground.phase }, { on := 2, ground := Ground.phase }, { on := 3, ground := Ground.phase }, { on := 4, ground := Ground.phase }, { on := 5, ground := Ground.phase }, { on := 6, ground := Ground.phase }, { on := 7, ground := Ground.phase }, { on := 8, ground := Ground.phase }, { on := 9, ground := Ground.phase }, { on := 10, ground := Ground.phase }, { on := 11, ground := Ground.phase }, { on := 12, ground := Ground.phase }, { on := 13, ground := Ground.phase }, { on := 14, ground := Ground.phase }, { on := 15, ground := Ground.phase }, { on := 16, ground := Ground.phase }], guard := none }) rfl (fun K hK => ?_) AllReadyH.nil
  go_simp
  obtain ⟨q1, q2, q3⟩ := conf_puts HB1.out (Nat.le_refl _) H76.out (.int .i64 Q) (.int .i64 Q) (.int .i64 a5) (.int .i64 9) (.slice Bn 0 dn) (.slice Bd 1 dd)
  have HZ1 := Aside0.mk q1
  have HZ2 := Aside0.mk q2
  have HZ3 := Aside0.mk q3
  clear q1 q2 q3
  refine hK.out _ _ ?_ (fun hS => ?_)
  ·
   rw [hSe]; exact HS0.out.below HZ3.out
  clear hK K
  try simp only [Act.put, sA, sB, sC]
  refine wpAnyH_done (by kernel_rfl) ?_ _
  have hr := (Kd.S_reads' (Kd.S_step HR1.out (fun k hk _ => HZ2.out k hk.2))).2
  exact HQ.out W0.heap.size _ Bn dn Bd dd (HS0.out.below HZ3.out) HZ1.out hr.2 hr.1
theorem mt_awp {w W : World} {gA gB : Nat} {oA oB : Obj} {ad : Addr} {lA lB : List S31} {Bd : Option Addr} (hA : MtA w gA oA ad lA W) (hB : W.heap[gB]? = some oB) (hD : Kd.C k31 W Bd lB.length lB) : AwP w [(gB, oB), (gA, oA)] [] [(Bd, lB), (some ad, lA)] W :=
 ⟨hA.1, fun p hp => by
  simp only [List.mem_cons, List.not_mem_nil, or_false] at hp
  rcases hp with rfl | rfl
  ·
   exact hB
  ·
   exact hA.2.1, fun q hq => by simp at hq, fun q hq => by
  simp only [List.mem_cons, List.not_mem_nil, or_false] at hq
  rcases hq with rfl | rfl
  ·
   exact hD
  ·
   exact hA.2.2⟩
theorem mt_some {W : World} {A : Option Addr} {q r : Int} (h : Kd.C k31 W A 1 (Pure.sdL q r)) : ∃ ad, A = some ad := by
 obtain ⟨ad', B2, d2, B3, d3, e, -⟩ := at_T31 h 0 (by omega) (by omega)
 exact ⟨ad', e⟩
theorem ms_cells {W : World} {A : Option Addr} {ty : Int} {b : List Int} (h : Kd.C k45 W A 1 [(⟨ty, b⟩ : S45)]) : ∃ ad B c, A = some ad ∧ W.cell? ad = some (.int .i64 ty) ∧ W.cell? ⟨ad.block, ad.off + 1, none⟩ = some (.slice B b.length c) ∧ b.length ≤ c ∧ Kd.C (Kd.int .u8) W B b.length b := by
 obtain ⟨ad', B2, d2, e, x0, x1, hl, hc⟩ := at_T45 h 0 (by omega) (by omega)
 cases e
 rw [show ((0 : Int)).toNat * 2 = 0 from rfl, Addr.add_zero'] at x0 x1
 exact ⟨ad', B2, d2, rfl, x0, x1, hl, hc⟩
set_option maxHeartbeats 8000000 in
set_option maxRecDepth 100000 in
theorem mt_ok (a0 a1 a2 a3 a4 a5 P Q R S : Int) (h1 : wrap64 (1 + Go.bits .and .i64 a0 65535) = P) (h2 : wrap64 (70000 + Go.bits .and .i64 a1 65535) = Q) (h3 : wrap64 (wrap64 (1 + Go.bits .and .i64 a2 1) + Go.bits .and .i64 (a2 / 2) 1) = R) (h4 : wrap64 (wrap64 (1 + Go.bits .and .i64 a3 1) + Go.bits .and .i64 (a3 / 2) 1) = S) (hp : 0 < P) (hp2 : P ≤ 4294967295) (hq : 0 < Q) (hq2 : Q ≤ 4294967295) (hr : 1 ≤ R) (hr2 : R ≤ 3) (hs : 1 ≤ S) (hs2 : S ≤ 3) (hqp : Q ≠ P) (hA : holdB a4 = true) (hB : holdB a5 = true) (hrs : R + S = 4) (w : World) (hG : GOK w) :
  Calls Tryd.prog 3 #[.int .i64 a0, .int .i64 a1, .int .i64 a2, .int .i64 a3, .int .i64 a4, .int .i64 a5] w fun e w' => e = .returned (.bool true) ∧ Below w.heap.size w w' := by
 have HGK := Aside0.mk hG
 clear hG
 have hlA : (Pure.bodyH P a4 P (Pure.mineV R)).length = (Pure.bodyH P a4 P (Pure.mineV R)).length := rfl
 have HS1 := Aside0.mk ((Pure.conf_eq P Q R a4 hp hp2 hq hq2 hr hr2 hqp).trans (congrArg some hA))
 have HS2 := Aside0.mk ((Pure.conf_eq Q P S a5 hq hq2 hp hp2 hs hs2 (Ne.symm hqp)).trans (congrArg some hB))
 have HS3 := Aside0.mk (Pure.start_eq P Q R a4 hp hp2 hq hq2 hr hr2 hqp hA)
 have HS4 := Aside0.mk (Pure.start_eq Q P S a5 hq hq2 hp hp2 hs hs2 (Ne.symm hqp) hB)
 have hH := Pure.mn_hold a4 a5 hA hB
 have hc : mn a5 a4 = mn a4 a5 := by unfold mn; split <;> split <;> omega
 obtain ⟨H, hHe⟩ : ∃ H, mn a4 a5 = H := ⟨_, rfl⟩
 obtain ⟨T, hT⟩ : ∃ T, H / 3 = T := ⟨_, rfl⟩
 have s5 := Pure.take_ok P Q R S a4 a5 hp hp2 hq hq2 hr hr2 hs hs2 hqp hA hB hrs
 have s6 := Pure.take_ok Q P S R a5 a4 hq hq2 hp hp2 hs hs2 hr hr2 (Ne.symm hqp) hB hA (by omega)
 rw [hHe] at s5 hH
 rw [hc, hHe] at s6
 have s7 := Pure.take_alive P Q R a4 H hp hp2 hq hq2 hr hr2 hqp hA hH
 have s8 := Pure.take_alive Q P S a5 H hq hq2 hp hp2 hs hs2 (Ne.symm hqp) hB hH
 rw [hT] at s5 s6 s7 s8
 have HS5 := Aside0.mk (Pure.step_one 98 _ _ _ _ _ _ _ _ _ _ _ _ _ _ _ _ _ _ _ s5 (by simp))
 have HS6 := Aside0.mk (Pure.step_one 98 _ _ _ _ _ _ _ _ _ _ _ _ _ _ _ _ _ _ _ s6 (by simp))
 have HS7 := Aside0.mk (Pure.step_one 98 _ _ _ _ _ _ _ _ _ _ _ _ _ _ _ _ _ _ _ s7 (by simp))
 have HS8 := Aside0.mk (Pure.step_one 98 _ _ _ _ _ _ _ _ _ _ _ _ _ _ _ _ _ _ _ s8 (by simp))
 have hm_ : (if a5 < a4 then a5 else a4) = H := hHe
 have hsum : IntKind.i64.wrap (R + S) = 4 := by rw [hrs]; rfl
 clear hH hc s5 s6 s7 s8 hHe hT hA hB hrs hlA
 obtain ⟨bA, hbA⟩ : ∃ b, b = Pure.bodyH P a4 P (Pure.mineV R) := ⟨_, rfl⟩
 obtain ⟨bB, hbB⟩ : ∃ b, b = Pure.bodyH Q a5 Q (Pure.mineV S) := ⟨_, rfl⟩
 rw [← hbA] at HS3 HS6
 rw [← hbB] at HS4 HS5
 clear hbA hbB
 clear hp hp2 hq hq2 hr hr2 hs hs2 hqp
 go_enter Tryd.func3, Tryd.ntmps3
 go_wp2_with (first
  | (go_at_call 8; have hh := ridgewaylaw17_awake.calls true w HGK.out rfl; (with_reducible refine hh.mono ?_); clear hh; rintro e w0 ⟨rfl, hb_⟩; have H0 := Aside0.mk hb_; clear hb_)
  | (go_at_call 9; have hh := ridgewaylaw17_node.calls P Q R a4 P P a4 9 [] (Pure.sdL Q R) w0 rfl; (with_reducible refine hh.mono ?_); clear hh; rintro e w1 ⟨v4, v5, rfl, hr_, hs, hb_⟩; obtain ⟨An, cn, rfl⟩ := Kd.R_slice hr_; obtain ⟨Ad, cd, rfl⟩ := Kd.S_slice hs; obtain ⟨ad, rfl⟩ := mt_some (Kd.S_reads' hs).2.2; have HCD := Aside0.mk (show 1 ≤ cd from (Kd.S_reads' hs).2.1); have H1 := Aside0.mk (show MtA w w1.heap.size (.cells #[.int .i64 P, .int .i64 P, .int .i64 a4, .int .i64 9, .slice An 0 cn, .slice (some ad) 1 cd] 26 (0, 0)) ad (Pure.sdL Q R) (w1.alloc (.cells #[.int .i64 P, .int .i64 P, .int .i64 a4, .int .i64 9, .slice An 0 cn, .slice (some ad) 1 cd] 26)) from ⟨below_alloc (below_step H0.out hb_) _, heap_alloc_new _ _, Kd.C_below (Kd.S_reads' hs).2.2 (below_alloc (Below.refl _ _) _)⟩); clear hr_ hs hb_))
 refine mt_region a0 a1 a2 a3 a4 a5 P Q R S An cn ad cd w1.heap.size w _ h4 H1.out (fun _ _ _ _ _ h => h) (fun gB W2 Bn dn Bd dd HA2 HB2 HD2 HE2 => ?_)
 obtain ⟨bd, rfl⟩ := mt_some HD2
 have HDD := Aside0.mk HE2
 have H2 := Aside0.mk (mt_awp HA2 HB2 HD2)
 obtain ⟨gA, hgA⟩ : ∃ gA, gA = w1.heap.size := ⟨_, rfl⟩
 rw [← hgA] at H2 ⊢
 clear HA2 HB2 HD2 HE2 H1 hgA
 have hb_ := H2.out.2.1 (gA, (.cells #[.int .i64 P, .int .i64 P, .int .i64 a4, .int .i64 9, .slice An 0 cn, .slice (some ad) 1 cd] 26)) (by simp)
 obtain ⟨e2A0, e2A1, e2A2, e2A3, e2A4, e2A5, -, -, -, -, -, -⟩ := bc6 hb_
 clear hb_
 go_wp2_with (first
  | (go_at_call 10; have hh := conf_Sane.calls P P a4 9 An cn [] (some ad) cd (Pure.sdL Q R) true W2 (c_nil_any _ _ _) (Nat.zero_le _) (AwP.d H2.out (some ad) (Pure.sdL Q R) (by simp)) HCD.out HS1.out; simp only [Pure.sdL, List.length_cons, List.length_nil, Nat.zero_add] at hh; (with_reducible refine hh.mono ?_); clear hh; rintro e w3 ⟨rfl, hb_⟩; have H3 := Aside0.mk (H2.out.below hb_); clear hb_; have hb_ := H3.out.2.1 (gB, (.cells #[.int .i64 Q, .int .i64 Q, .int .i64 a5, .int .i64 9, .slice Bn 0 dn, .slice (some bd) 1 dd] 26)) (by simp); obtain ⟨e3B0, e3B1, e3B2, e3B3, e3B4, e3B5, -, -, -, -, -, -⟩ := bc6 hb_; have l3B : gB < w3.heap.size := blk_lt hb_; clear hb_)
  | (go_at_call 10; have hh := conf_Sane.calls Q Q a5 9 Bn dn [] (some bd) dd (Pure.sdL P S) true w3 (c_nil_any _ _ _) (Nat.zero_le _) (AwP.d H3.out (some bd) (Pure.sdL P S) (by simp)) HDD.out HS2.out; simp only [Pure.sdL, List.length_cons, List.length_nil, Nat.zero_add] at hh; (with_reducible refine hh.mono ?_); clear hh; rintro e w4 ⟨rfl, hb_⟩; have H4 := Aside0.mk (H3.out.below hb_); clear hb_; have hb_ := H4.out.2.1 (gA, (.cells #[.int .i64 P, .int .i64 P, .int .i64 a4, .int .i64 9, .slice An 0 cn, .slice (some ad) 1 cd] 26)) (by simp); obtain ⟨e4A0, e4A1, e4A2, e4A3, e4A4, e4A5, -, -, -, -, -, -⟩ := bc6 hb_; have l4A : gA < w4.heap.size := blk_lt hb_; clear hb_)
  | (go_at_call 11; have hh := session_Start.calls 100 0 0 0 0 P P a4 9 An cn [] (some ad) cd (Pure.sdL Q R) 0 1 0 240 0 [⟨1, bA⟩] w4 (c_nil_any _ _ _) (Nat.zero_le _) (AwP.d H4.out (some ad) (Pure.sdL Q R) (by simp)) HCD.out HS3.out; simp only [Pure.sdL, List.length_cons, List.length_nil, Nat.zero_add] at hh; (with_reducible refine hh.mono ?_); clear hh; rintro e w5 ⟨v4, rfl, hn_, hb_⟩; obtain ⟨Ao, co, rfl⟩ := Kd.N_slice hn_; have H5 := Aside0.mk (AwP.rowM (l := [⟨1, bA⟩]) (AwP.below H4.out hb_) (Kd.N_reads' hn_).2.2); have LR5 := Aside0.mk (Kd.N_reads' hn_).2.1; clear hn_ hb_; have hb_ := H5.out.2.1 (gB, (.cells #[.int .i64 Q, .int .i64 Q, .int .i64 a5, .int .i64 9, .slice Bn 0 dn, .slice (some bd) 1 dd] 26)) (by simp); obtain ⟨e5B0, e5B1, e5B2, e5B3, e5B4, e5B5, -, -, -, -, -, -⟩ := bc6 hb_; have l5B : gB < w5.heap.size := blk_lt hb_; clear hb_)
  | (go_at_call 11; have hh := session_Start.calls 100 0 0 0 0 Q Q a5 9 Bn dn [] (some bd) dd (Pure.sdL P S) 0 1 0 240 0 [⟨1, bB⟩] (w5.alloc (.cells #[.int .i64 1, .int .i64 0, .int .i64 240, .int .i64 0] 34)) (c_nil_any _ _ _) (Nat.zero_le _) (AwP.d (H5.out.new (.cells #[.int .i64 1, .int .i64 0, .int .i64 240, .int .i64 0] 34)) (some bd) (Pure.sdL P S) (by simp)) HDD.out HS4.out; simp only [Pure.sdL, List.length_cons, List.length_nil, Nat.zero_add] at hh; (with_reducible refine hh.mono ?_); clear hh; rintro e w6 ⟨v4, rfl, hn_, hb_⟩; obtain ⟨Ap, cp, rfl⟩ := Kd.N_slice hn_; have H6 := Aside0.mk (AwP.rowM (l := [⟨1, bB⟩]) (AwP.below ((H5.out.new (.cells #[.int .i64 1, .int .i64 0, .int .i64 240, .int .i64 0] 34))) hb_) (Kd.N_reads' hn_).2.2); have LR6 := Aside0.mk (Kd.N_reads' hn_).2.1; clear hn_ hb_; have hb_ := H6.out.2.1 (w5.heap.size, (.cells #[.int .i64 1, .int .i64 0, .int .i64 240, .int .i64 0] 34)) (by simp); obtain ⟨e6s0, e6s1, e6s2, e6s3, -, -, -, -⟩ := bc4 hb_; have l6s : w5.heap.size < w6.heap.size := blk_lt hb_; clear hb_; have hb_ := H6.out.2.1 (gA, (.cells #[.int .i64 P, .int .i64 P, .int .i64 a4, .int .i64 9, .slice An 0 cn, .slice (some ad) 1 cd] 26)) (by simp); obtain ⟨e6A0, e6A1, e6A2, e6A3, e6A4, e6A5, -, -, -, -, -, -⟩ := bc6 hb_; have l6A : gA < w6.heap.size := blk_lt hb_; clear hb_)
  | (go_at_call 12; have hh := ridgewaylaw17_step.calls 100 1 0 240 0 P P a4 9 An cn [] (some ad) cd (Pure.sdL Q R) 0 Ap cp [⟨1, bB⟩] 2 H H T [⟨4, []⟩] (w6.alloc (.cells #[.int .i64 1, .int .i64 0, .int .i64 240, .int .i64 0] 34)) (c_nil_any _ _ _) (Nat.zero_le _) (AwP.d (H6.out.new (.cells #[.int .i64 1, .int .i64 0, .int .i64 240, .int .i64 0] 34)) (some ad) (Pure.sdL Q R) (by simp)) HCD.out (AwP.m (H6.out.new (.cells #[.int .i64 1, .int .i64 0, .int .i64 240, .int .i64 0] 34)) Ap [⟨1, bB⟩] (by simp)) LR6.out (GOK.below HGK.out (H6.out.new (.cells #[.int .i64 1, .int .i64 0, .int .i64 240, .int .i64 0] 34)).b) HS5.out; simp only [Pure.sdL, List.length_cons, List.length_nil, Nat.zero_add] at hh; (with_reducible refine hh.mono ?_); clear hh; rintro e w7 ⟨v4, rfl, hn_, hb_⟩; obtain ⟨Aq, cq, rfl⟩ := Kd.N_slice hn_; have H7 := Aside0.mk (AwP.rowM (l := [⟨4, []⟩]) (AwP.below ((H6.out.new (.cells #[.int .i64 1, .int .i64 0, .int .i64 240, .int .i64 0] 34))) hb_) (Kd.N_reads' hn_).2.2); have LR7 := Aside0.mk (Kd.N_reads' hn_).2.1; clear hn_ hb_; have hb_ := H7.out.2.1 (w6.heap.size, (.cells #[.int .i64 1, .int .i64 0, .int .i64 240, .int .i64 0] 34)) (by simp); obtain ⟨e7t0, e7t1, e7t2, e7t3, -, -, -, -⟩ := bc4 hb_; have l7t : w6.heap.size < w7.heap.size := blk_lt hb_; clear hb_; have hb_ := H7.out.2.1 (gB, (.cells #[.int .i64 Q, .int .i64 Q, .int .i64 a5, .int .i64 9, .slice Bn 0 dn, .slice (some bd) 1 dd] 26)) (by simp); obtain ⟨e7B0, e7B1, e7B2, e7B3, e7B4, e7B5, -, -, -, -, -, -⟩ := bc6 hb_; have l7B : gB < w7.heap.size := blk_lt hb_; clear hb_)
  | (go_at_call 12; have hh := ridgewaylaw17_step.calls 100 1 0 240 0 Q Q a5 9 Bn dn [] (some bd) dd (Pure.sdL P S) 0 Ao co [⟨1, bA⟩] 2 H H T [⟨4, []⟩] (w7.alloc (.cells #[.int .i64 2, .int .i64 H, .int .i64 H, .int .i64 T] 34)) (c_nil_any _ _ _) (Nat.zero_le _) (AwP.d (H7.out.new (.cells #[.int .i64 2, .int .i64 H, .int .i64 H, .int .i64 T] 34)) (some bd) (Pure.sdL P S) (by simp)) HDD.out (AwP.m (H7.out.new (.cells #[.int .i64 2, .int .i64 H, .int .i64 H, .int .i64 T] 34)) Ao [⟨1, bA⟩] (by simp)) LR5.out (GOK.below HGK.out (H7.out.new (.cells #[.int .i64 2, .int .i64 H, .int .i64 H, .int .i64 T] 34)).b) HS6.out; simp only [Pure.sdL, List.length_cons, List.length_nil, Nat.zero_add] at hh; (with_reducible refine hh.mono ?_); clear hh; rintro e w8 ⟨v4, rfl, hn_, hb_⟩; obtain ⟨Ar, cr, rfl⟩ := Kd.N_slice hn_; have H8 := Aside0.mk (AwP.rowM (l := [⟨4, []⟩]) (AwP.below ((H7.out.new (.cells #[.int .i64 2, .int .i64 H, .int .i64 H, .int .i64 T] 34))) hb_) (Kd.N_reads' hn_).2.2); have LR8 := Aside0.mk (Kd.N_reads' hn_).2.1; clear hn_ hb_; have hb_ := H8.out.2.1 (w7.heap.size, (.cells #[.int .i64 2, .int .i64 H, .int .i64 H, .int .i64 T] 34)) (by simp); obtain ⟨e8u0, e8u1, e8u2, e8u3, -, -, -, -⟩ := bc4 hb_; have l8u : w7.heap.size < w8.heap.size := blk_lt hb_; clear hb_; have hb_ := H8.out.2.1 (gA, (.cells #[.int .i64 P, .int .i64 P, .int .i64 a4, .int .i64 9, .slice An 0 cn, .slice (some ad) 1 cd] 26)) (by simp); obtain ⟨e8A0, e8A1, e8A2, e8A3, e8A4, e8A5, -, -, -, -, -, -⟩ := bc6 hb_; have l8A : gA < w8.heap.size := blk_lt hb_; clear hb_)
  | (go_at_call 12; have hh := ridgewaylaw17_step.calls 100 2 H H T P P a4 9 An cn [] (some ad) cd (Pure.sdL Q R) 0 Ar cr [⟨4, []⟩] 3 H H T [] (w8.alloc (.cells #[.int .i64 2, .int .i64 H, .int .i64 H, .int .i64 T] 34)) (c_nil_any _ _ _) (Nat.zero_le _) (AwP.d (H8.out.new (.cells #[.int .i64 2, .int .i64 H, .int .i64 H, .int .i64 T] 34)) (some ad) (Pure.sdL Q R) (by simp)) HCD.out (AwP.m (H8.out.new (.cells #[.int .i64 2, .int .i64 H, .int .i64 H, .int .i64 T] 34)) Ar [⟨4, []⟩] (by simp)) LR8.out (GOK.below HGK.out (H8.out.new (.cells #[.int .i64 2, .int .i64 H, .int .i64 H, .int .i64 T] 34)).b) HS7.out; simp only [Pure.sdL, List.length_cons, List.length_nil, Nat.zero_add] at hh; (with_reducible refine hh.mono ?_); clear hh; rintro e w9 ⟨v4, rfl, hn_, hb_⟩; obtain ⟨Am, cm, rfl⟩ := Kd.N_slice hn_; have H9 := Aside0.mk (AwP.rowM (l := []) (AwP.below ((H8.out.new (.cells #[.int .i64 2, .int .i64 H, .int .i64 H, .int .i64 T] 34))) hb_) (Kd.N_reads' hn_).2.2); have LR9 := Aside0.mk (Kd.N_reads' hn_).2.1; clear hn_ hb_; have hb_ := H9.out.2.1 (w8.heap.size, (.cells #[.int .i64 2, .int .i64 H, .int .i64 H, .int .i64 T] 34)) (by simp); obtain ⟨e9v0, e9v1, e9v2, e9v3, -, -, -, -⟩ := bc4 hb_; have l9v : w8.heap.size < w9.heap.size := blk_lt hb_; clear hb_; have hb_ := H9.out.2.1 (gB, (.cells #[.int .i64 Q, .int .i64 Q, .int .i64 a5, .int .i64 9, .slice Bn 0 dn, .slice (some bd) 1 dd] 26)) (by simp); obtain ⟨e9B0, e9B1, e9B2, e9B3, e9B4, e9B5, -, -, -, -, -, -⟩ := bc6 hb_; have l9B : gB < w9.heap.size := blk_lt hb_; clear hb_)
  | (go_at_call 12; have hh := ridgewaylaw17_step.calls 100 2 H H T Q Q a5 9 Bn dn [] (some bd) dd (Pure.sdL P S) 0 Aq cq [⟨4, []⟩] 3 H H T [] (w9.alloc (.cells #[.int .i64 3, .int .i64 H, .int .i64 H, .int .i64 T] 34)) (c_nil_any _ _ _) (Nat.zero_le _) (AwP.d (H9.out.new (.cells #[.int .i64 3, .int .i64 H, .int .i64 H, .int .i64 T] 34)) (some bd) (Pure.sdL P S) (by simp)) HDD.out (AwP.m (H9.out.new (.cells #[.int .i64 3, .int .i64 H, .int .i64 H, .int .i64 T] 34)) Aq [⟨4, []⟩] (by simp)) LR7.out (GOK.below HGK.out (H9.out.new (.cells #[.int .i64 3, .int .i64 H, .int .i64 H, .int .i64 T] 34)).b) HS8.out; simp only [Pure.sdL, List.length_cons, List.length_nil, Nat.zero_add] at hh; (with_reducible refine hh.mono ?_); clear hh; rintro e w10 ⟨v4, rfl, hn_, hb_⟩; obtain ⟨Az, cz, rfl⟩ := Kd.N_slice hn_; have H10 := Aside0.mk (AwP.rowM (l := []) (AwP.below ((H9.out.new (.cells #[.int .i64 3, .int .i64 H, .int .i64 H, .int .i64 T] 34))) hb_) (Kd.N_reads' hn_).2.2); have LR10 := Aside0.mk (Kd.N_reads' hn_).2.1; clear hn_ hb_; have hb_ := H10.out.2.1 (gA, (.cells #[.int .i64 P, .int .i64 P, .int .i64 a4, .int .i64 9, .slice An 0 cn, .slice (some ad) 1 cd] 26)) (by simp); obtain ⟨e10A0, e10A1, e10A2, e10A3, e10A4, e10A5, -, -, -, -, -, -⟩ := bc6 hb_; have l10A : gA < w10.heap.size := blk_lt hb_; clear hb_; have hb_ := H10.out.2.1 (gB, (.cells #[.int .i64 Q, .int .i64 Q, .int .i64 a5, .int .i64 9, .slice Bn 0 dn, .slice (some bd) 1 dd] 26)) (by simp); obtain ⟨e10B0, e10B1, e10B2, e10B3, e10B4, e10B5, -, -, -, -, -, -⟩ := bc6 hb_; have l10B : gB < w10.heap.size := blk_lt hb_; clear hb_; have hb_ := H10.out.2.1 (w9.heap.size, (.cells #[.int .i64 3, .int .i64 H, .int .i64 H, .int .i64 T] 34)) (by simp); obtain ⟨e10w0, e10w1, e10w2, e10w3, -, -, -, -⟩ := bc4 hb_; have l10w : w9.heap.size < w10.heap.size := blk_lt hb_; clear hb_))
 obtain ⟨y0, y1⟩ := sd_cells (AwP.d H10.out (some ad) (Pure.sdL Q R) (by simp))
 have yl : ad.block < w10.heap.size := World.block_lt_of_cell? _ _ y0
 obtain ⟨x0, x1⟩ := sd_cells (AwP.d H10.out (some bd) (Pure.sdL P S) (by simp))
 have xl : bd.block < w10.heap.size := World.block_lt_of_cell? _ _ x0
 go_quiet (fail)
 go_wp2
 go_ret
 exact ⟨rfl, by with_reducible repeat first | exact (H10.out.new (.cells #[.int .i64 3, .int .i64 H, .int .i64 H, .int .i64 T] 34)).b | apply bN | apply bD⟩
set_option maxHeartbeats 8000000 in
set_option maxRecDepth 100000 in
theorem mt_no (a0 a1 a2 a3 a4 a5 P Q R S : Int) (h1 : wrap64 (1 + Go.bits .and .i64 a0 65535) = P) (h2 : wrap64 (70000 + Go.bits .and .i64 a1 65535) = Q) (h3 : wrap64 (wrap64 (1 + Go.bits .and .i64 a2 1) + Go.bits .and .i64 (a2 / 2) 1) = R) (h4 : wrap64 (wrap64 (1 + Go.bits .and .i64 a3 1) + Go.bits .and .i64 (a3 / 2) 1) = S) (hp : 0 < P) (hp2 : P ≤ 4294967295) (hq : 0 < Q) (hq2 : Q ≤ 4294967295) (hr : 1 ≤ R) (hr2 : R ≤ 3) (hs : 1 ≤ S) (hs2 : S ≤ 3) (hqp : Q ≠ P) (hA : holdB a4 = true) (hB : holdB a5 = true) (hrs : R + S ≠ 4) (w : World) (hG : GOK w) :
  Calls Tryd.prog 3 #[.int .i64 a0, .int .i64 a1, .int .i64 a2, .int .i64 a3, .int .i64 a4, .int .i64 a5] w fun e w' => e = .returned (.bool true) ∧ Below w.heap.size w w' := by
 have HGK := Aside0.mk hG
 clear hG
 have hlA : (Pure.bodyH P a4 P (Pure.mineV R)).length = (Pure.bodyH P a4 P (Pure.mineV R)).length := rfl
 have HS1 := Aside0.mk ((Pure.conf_eq P Q R a4 hp hp2 hq hq2 hr hr2 hqp).trans (congrArg some hA))
 have HS2 := Aside0.mk ((Pure.conf_eq Q P S a5 hq hq2 hp hp2 hs hs2 (Ne.symm hqp)).trans (congrArg some hB))
 have HS3 := Aside0.mk (Pure.start_eq P Q R a4 hp hp2 hq hq2 hr hr2 hqp hA)
 have HS4 := Aside0.mk (Pure.start_eq Q P S a5 hq hq2 hp hp2 hs hs2 (Ne.symm hqp) hB)
 have s5 := Pure.take_no P Q R S a4 a5 hp hp2 hq hq2 hr hr2 hs hs2 hqp hA hB hrs
 have s6 := Pure.take_no Q P S R a5 a4 hq hq2 hp hp2 hs hs2 hr hr2 (Ne.symm hqp) hB hA (by omega)
 have HS5 := Aside0.mk (Pure.step_one 98 _ _ _ _ _ _ _ _ _ _ _ _ _ _ _ _ _ _ _ s5 (by simp))
 have HS6 := Aside0.mk (Pure.step_one 98 _ _ _ _ _ _ _ _ _ _ _ _ _ _ _ _ _ _ _ s6 (by simp))
 have HS7 := Aside0.mk (Pure.step_one 98 _ _ _ _ _ _ _ _ _ _ _ _ _ _ _ _ _ _ _ (Pure.take_idle P P a4 9 [] (Pure.sdL Q R) 0 3 [2, 11]) (by simp))
 have HS8 := Aside0.mk (Pure.step_one 98 _ _ _ _ _ _ _ _ _ _ _ _ _ _ _ _ _ _ _ (Pure.take_idle Q Q a5 9 [] (Pure.sdL P S) 0 3 [2, 11]) (by simp))
 obtain ⟨Z, hsum⟩ : ∃ Z, IntKind.i64.wrap (R + S) = Z := ⟨_, rfl⟩
 have hz4 : (Z != 4) = true := by rw [← hsum, i64_w, w64 (by omega) (by omega)]; simpa using hrs
 clear s5 s6 hA hB hrs hlA
 obtain ⟨bA, hbA⟩ : ∃ b, b = Pure.bodyH P a4 P (Pure.mineV R) := ⟨_, rfl⟩
 obtain ⟨bB, hbB⟩ : ∃ b, b = Pure.bodyH Q a5 Q (Pure.mineV S) := ⟨_, rfl⟩
 rw [← hbA] at HS3 HS6
 rw [← hbB] at HS4 HS5
 clear hbA hbB
 clear hp hp2 hq hq2 hr hr2 hs hs2 hqp
 go_enter Tryd.func3, Tryd.ntmps3
 go_wp2_with (first
  | (go_at_call 8; have hh := ridgewaylaw17_awake.calls true w HGK.out rfl; (with_reducible refine hh.mono ?_); clear hh; rintro e w0 ⟨rfl, hb_⟩; have H0 := Aside0.mk hb_; clear hb_)
  | (go_at_call 9; have hh := ridgewaylaw17_node.calls P Q R a4 P P a4 9 [] (Pure.sdL Q R) w0 rfl; (with_reducible refine hh.mono ?_); clear hh; rintro e w1 ⟨v4, v5, rfl, hr_, hs, hb_⟩; obtain ⟨An, cn, rfl⟩ := Kd.R_slice hr_; obtain ⟨Ad, cd, rfl⟩ := Kd.S_slice hs; obtain ⟨ad, rfl⟩ := mt_some (Kd.S_reads' hs).2.2; have HCD := Aside0.mk (show 1 ≤ cd from (Kd.S_reads' hs).2.1); have H1 := Aside0.mk (show MtA w w1.heap.size (.cells #[.int .i64 P, .int .i64 P, .int .i64 a4, .int .i64 9, .slice An 0 cn, .slice (some ad) 1 cd] 26 (0, 0)) ad (Pure.sdL Q R) (w1.alloc (.cells #[.int .i64 P, .int .i64 P, .int .i64 a4, .int .i64 9, .slice An 0 cn, .slice (some ad) 1 cd] 26)) from ⟨below_alloc (below_step H0.out hb_) _, heap_alloc_new _ _, Kd.C_below (Kd.S_reads' hs).2.2 (below_alloc (Below.refl _ _) _)⟩); clear hr_ hs hb_))
 refine mt_region a0 a1 a2 a3 a4 a5 P Q R S An cn ad cd w1.heap.size w _ h4 H1.out (fun _ _ _ _ _ h => h) (fun gB W2 Bn dn Bd dd HA2 HB2 HD2 HE2 => ?_)
 obtain ⟨bd, rfl⟩ := mt_some HD2
 have HDD := Aside0.mk HE2
 have H2 := Aside0.mk (mt_awp HA2 HB2 HD2)
 obtain ⟨gA, hgA⟩ : ∃ gA, gA = w1.heap.size := ⟨_, rfl⟩
 rw [← hgA] at H2 ⊢
 clear HA2 HB2 HD2 HE2 H1 hgA
 have hb_ := H2.out.2.1 (gA, (.cells #[.int .i64 P, .int .i64 P, .int .i64 a4, .int .i64 9, .slice An 0 cn, .slice (some ad) 1 cd] 26)) (by simp)
 obtain ⟨e2A0, e2A1, e2A2, e2A3, e2A4, e2A5, -, -, -, -, -, -⟩ := bc6 hb_
 clear hb_
 go_wp2_with (first
  | (go_at_call 10; have hh := conf_Sane.calls P P a4 9 An cn [] (some ad) cd (Pure.sdL Q R) true W2 (c_nil_any _ _ _) (Nat.zero_le _) (AwP.d H2.out (some ad) (Pure.sdL Q R) (by simp)) HCD.out HS1.out; simp only [Pure.sdL, List.length_cons, List.length_nil, Nat.zero_add] at hh; (with_reducible refine hh.mono ?_); clear hh; rintro e w3 ⟨rfl, hb_⟩; have H3 := Aside0.mk (H2.out.below hb_); clear hb_; have hb_ := H3.out.2.1 (gB, (.cells #[.int .i64 Q, .int .i64 Q, .int .i64 a5, .int .i64 9, .slice Bn 0 dn, .slice (some bd) 1 dd] 26)) (by simp); obtain ⟨e3B0, e3B1, e3B2, e3B3, e3B4, e3B5, -, -, -, -, -, -⟩ := bc6 hb_; have l3B : gB < w3.heap.size := blk_lt hb_; clear hb_)
  | (go_at_call 10; have hh := conf_Sane.calls Q Q a5 9 Bn dn [] (some bd) dd (Pure.sdL P S) true w3 (c_nil_any _ _ _) (Nat.zero_le _) (AwP.d H3.out (some bd) (Pure.sdL P S) (by simp)) HDD.out HS2.out; simp only [Pure.sdL, List.length_cons, List.length_nil, Nat.zero_add] at hh; (with_reducible refine hh.mono ?_); clear hh; rintro e w4 ⟨rfl, hb_⟩; have H4 := Aside0.mk (H3.out.below hb_); clear hb_; have hb_ := H4.out.2.1 (gA, (.cells #[.int .i64 P, .int .i64 P, .int .i64 a4, .int .i64 9, .slice An 0 cn, .slice (some ad) 1 cd] 26)) (by simp); obtain ⟨e4A0, e4A1, e4A2, e4A3, e4A4, e4A5, -, -, -, -, -, -⟩ := bc6 hb_; have l4A : gA < w4.heap.size := blk_lt hb_; clear hb_)
  | (go_at_call 11; have hh := session_Start.calls 100 0 0 0 0 P P a4 9 An cn [] (some ad) cd (Pure.sdL Q R) 0 1 0 240 0 [⟨1, bA⟩] w4 (c_nil_any _ _ _) (Nat.zero_le _) (AwP.d H4.out (some ad) (Pure.sdL Q R) (by simp)) HCD.out HS3.out; simp only [Pure.sdL, List.length_cons, List.length_nil, Nat.zero_add] at hh; (with_reducible refine hh.mono ?_); clear hh; rintro e w5 ⟨v4, rfl, hn_, hb_⟩; obtain ⟨Ao, co, rfl⟩ := Kd.N_slice hn_; have H5 := Aside0.mk (AwP.rowM (l := [⟨1, bA⟩]) (AwP.below H4.out hb_) (Kd.N_reads' hn_).2.2); have LR5 := Aside0.mk (Kd.N_reads' hn_).2.1; clear hn_ hb_; have hb_ := H5.out.2.1 (gB, (.cells #[.int .i64 Q, .int .i64 Q, .int .i64 a5, .int .i64 9, .slice Bn 0 dn, .slice (some bd) 1 dd] 26)) (by simp); obtain ⟨e5B0, e5B1, e5B2, e5B3, e5B4, e5B5, -, -, -, -, -, -⟩ := bc6 hb_; have l5B : gB < w5.heap.size := blk_lt hb_; clear hb_)
  | (go_at_call 11; have hh := session_Start.calls 100 0 0 0 0 Q Q a5 9 Bn dn [] (some bd) dd (Pure.sdL P S) 0 1 0 240 0 [⟨1, bB⟩] (w5.alloc (.cells #[.int .i64 1, .int .i64 0, .int .i64 240, .int .i64 0] 34)) (c_nil_any _ _ _) (Nat.zero_le _) (AwP.d (H5.out.new (.cells #[.int .i64 1, .int .i64 0, .int .i64 240, .int .i64 0] 34)) (some bd) (Pure.sdL P S) (by simp)) HDD.out HS4.out; simp only [Pure.sdL, List.length_cons, List.length_nil, Nat.zero_add] at hh; (with_reducible refine hh.mono ?_); clear hh; rintro e w6 ⟨v4, rfl, hn_, hb_⟩; obtain ⟨Ap, cp, rfl⟩ := Kd.N_slice hn_; have H6 := Aside0.mk (AwP.rowM (l := [⟨1, bB⟩]) (AwP.below ((H5.out.new (.cells #[.int .i64 1, .int .i64 0, .int .i64 240, .int .i64 0] 34))) hb_) (Kd.N_reads' hn_).2.2); have LR6 := Aside0.mk (Kd.N_reads' hn_).2.1; clear hn_ hb_; have hb_ := H6.out.2.1 (w5.heap.size, (.cells #[.int .i64 1, .int .i64 0, .int .i64 240, .int .i64 0] 34)) (by simp); obtain ⟨e6s0, e6s1, e6s2, e6s3, -, -, -, -⟩ := bc4 hb_; have l6s : w5.heap.size < w6.heap.size := blk_lt hb_; clear hb_; have hb_ := H6.out.2.1 (gA, (.cells #[.int .i64 P, .int .i64 P, .int .i64 a4, .int .i64 9, .slice An 0 cn, .slice (some ad) 1 cd] 26)) (by simp); obtain ⟨e6A0, e6A1, e6A2, e6A3, e6A4, e6A5, -, -, -, -, -, -⟩ := bc6 hb_; have l6A : gA < w6.heap.size := blk_lt hb_; clear hb_)
  | (go_at_call 12; have hh := ridgewaylaw17_step.calls 100 1 0 240 0 P P a4 9 An cn [] (some ad) cd (Pure.sdL Q R) 0 Ap cp [⟨1, bB⟩] 0 0 0 0 [⟨3, [2, 11]⟩] (w6.alloc (.cells #[.int .i64 1, .int .i64 0, .int .i64 240, .int .i64 0] 34)) (c_nil_any _ _ _) (Nat.zero_le _) (AwP.d (H6.out.new (.cells #[.int .i64 1, .int .i64 0, .int .i64 240, .int .i64 0] 34)) (some ad) (Pure.sdL Q R) (by simp)) HCD.out (AwP.m (H6.out.new (.cells #[.int .i64 1, .int .i64 0, .int .i64 240, .int .i64 0] 34)) Ap [⟨1, bB⟩] (by simp)) LR6.out (GOK.below HGK.out (H6.out.new (.cells #[.int .i64 1, .int .i64 0, .int .i64 240, .int .i64 0] 34)).b) HS5.out; simp only [Pure.sdL, List.length_cons, List.length_nil, Nat.zero_add] at hh; (with_reducible refine hh.mono ?_); clear hh; rintro e w7 ⟨v4, rfl, hn_, hb_⟩; obtain ⟨Aq, cq, rfl⟩ := Kd.N_slice hn_; have H7 := Aside0.mk (AwP.rowM (l := [⟨3, [2, 11]⟩]) (AwP.below ((H6.out.new (.cells #[.int .i64 1, .int .i64 0, .int .i64 240, .int .i64 0] 34))) hb_) (Kd.N_reads' hn_).2.2); have LR7 := Aside0.mk (Kd.N_reads' hn_).2.1; clear hn_ hb_; have hb_ := H7.out.2.1 (w6.heap.size, (.cells #[.int .i64 1, .int .i64 0, .int .i64 240, .int .i64 0] 34)) (by simp); obtain ⟨e7t0, e7t1, e7t2, e7t3, -, -, -, -⟩ := bc4 hb_; have l7t : w6.heap.size < w7.heap.size := blk_lt hb_; clear hb_; have hb_ := H7.out.2.1 (gB, (.cells #[.int .i64 Q, .int .i64 Q, .int .i64 a5, .int .i64 9, .slice Bn 0 dn, .slice (some bd) 1 dd] 26)) (by simp); obtain ⟨e7B0, e7B1, e7B2, e7B3, e7B4, e7B5, -, -, -, -, -, -⟩ := bc6 hb_; have l7B : gB < w7.heap.size := blk_lt hb_; clear hb_)
  | (go_at_call 12; have hh := ridgewaylaw17_step.calls 100 1 0 240 0 Q Q a5 9 Bn dn [] (some bd) dd (Pure.sdL P S) 0 Ao co [⟨1, bA⟩] 0 0 0 0 [⟨3, [2, 11]⟩] (w7.alloc (.cells #[.int .i64 0, .int .i64 0, .int .i64 0, .int .i64 0] 34)) (c_nil_any _ _ _) (Nat.zero_le _) (AwP.d (H7.out.new (.cells #[.int .i64 0, .int .i64 0, .int .i64 0, .int .i64 0] 34)) (some bd) (Pure.sdL P S) (by simp)) HDD.out (AwP.m (H7.out.new (.cells #[.int .i64 0, .int .i64 0, .int .i64 0, .int .i64 0] 34)) Ao [⟨1, bA⟩] (by simp)) LR5.out (GOK.below HGK.out (H7.out.new (.cells #[.int .i64 0, .int .i64 0, .int .i64 0, .int .i64 0] 34)).b) HS6.out; simp only [Pure.sdL, List.length_cons, List.length_nil, Nat.zero_add] at hh; (with_reducible refine hh.mono ?_); clear hh; rintro e w8 ⟨v4, rfl, hn_, hb_⟩; obtain ⟨Ar, cr, rfl⟩ := Kd.N_slice hn_; have H8 := Aside0.mk (AwP.rowM (l := [⟨3, [2, 11]⟩]) (AwP.below ((H7.out.new (.cells #[.int .i64 0, .int .i64 0, .int .i64 0, .int .i64 0] 34))) hb_) (Kd.N_reads' hn_).2.2); have LR8 := Aside0.mk (Kd.N_reads' hn_).2.1; clear hn_ hb_; have hb_ := H8.out.2.1 (w7.heap.size, (.cells #[.int .i64 0, .int .i64 0, .int .i64 0, .int .i64 0] 34)) (by simp); obtain ⟨e8u0, e8u1, e8u2, e8u3, -, -, -, -⟩ := bc4 hb_; have l8u : w7.heap.size < w8.heap.size := blk_lt hb_; clear hb_; have hb_ := H8.out.2.1 (gA, (.cells #[.int .i64 P, .int .i64 P, .int .i64 a4, .int .i64 9, .slice An 0 cn, .slice (some ad) 1 cd] 26)) (by simp); obtain ⟨e8A0, e8A1, e8A2, e8A3, e8A4, e8A5, -, -, -, -, -, -⟩ := bc6 hb_; have l8A : gA < w8.heap.size := blk_lt hb_; clear hb_)
  | (go_at_call 12; have hh := ridgewaylaw17_step.calls 100 0 0 0 0 P P a4 9 An cn [] (some ad) cd (Pure.sdL Q R) 0 Ar cr [⟨3, [2, 11]⟩] 0 0 0 0 [] (w8.alloc (.cells #[.int .i64 0, .int .i64 0, .int .i64 0, .int .i64 0] 34)) (c_nil_any _ _ _) (Nat.zero_le _) (AwP.d (H8.out.new (.cells #[.int .i64 0, .int .i64 0, .int .i64 0, .int .i64 0] 34)) (some ad) (Pure.sdL Q R) (by simp)) HCD.out (AwP.m (H8.out.new (.cells #[.int .i64 0, .int .i64 0, .int .i64 0, .int .i64 0] 34)) Ar [⟨3, [2, 11]⟩] (by simp)) LR8.out (GOK.below HGK.out (H8.out.new (.cells #[.int .i64 0, .int .i64 0, .int .i64 0, .int .i64 0] 34)).b) HS7.out; simp only [Pure.sdL, List.length_cons, List.length_nil, Nat.zero_add] at hh; (with_reducible refine hh.mono ?_); clear hh; rintro e w9 ⟨v4, rfl, hn_, hb_⟩; obtain ⟨Am, cm, rfl⟩ := Kd.N_slice hn_; have H9 := Aside0.mk (AwP.rowM (l := []) (AwP.below ((H8.out.new (.cells #[.int .i64 0, .int .i64 0, .int .i64 0, .int .i64 0] 34))) hb_) (Kd.N_reads' hn_).2.2); have LR9 := Aside0.mk (Kd.N_reads' hn_).2.1; clear hn_ hb_; have hb_ := H9.out.2.1 (w8.heap.size, (.cells #[.int .i64 0, .int .i64 0, .int .i64 0, .int .i64 0] 34)) (by simp); obtain ⟨e9v0, e9v1, e9v2, e9v3, -, -, -, -⟩ := bc4 hb_; have l9v : w8.heap.size < w9.heap.size := blk_lt hb_; clear hb_; have hb_ := H9.out.2.1 (gB, (.cells #[.int .i64 Q, .int .i64 Q, .int .i64 a5, .int .i64 9, .slice Bn 0 dn, .slice (some bd) 1 dd] 26)) (by simp); obtain ⟨e9B0, e9B1, e9B2, e9B3, e9B4, e9B5, -, -, -, -, -, -⟩ := bc6 hb_; have l9B : gB < w9.heap.size := blk_lt hb_; clear hb_)
  | (go_at_call 12; have hh := ridgewaylaw17_step.calls 100 0 0 0 0 Q Q a5 9 Bn dn [] (some bd) dd (Pure.sdL P S) 0 Aq cq [⟨3, [2, 11]⟩] 0 0 0 0 [] (w9.alloc (.cells #[.int .i64 0, .int .i64 0, .int .i64 0, .int .i64 0] 34)) (c_nil_any _ _ _) (Nat.zero_le _) (AwP.d (H9.out.new (.cells #[.int .i64 0, .int .i64 0, .int .i64 0, .int .i64 0] 34)) (some bd) (Pure.sdL P S) (by simp)) HDD.out (AwP.m (H9.out.new (.cells #[.int .i64 0, .int .i64 0, .int .i64 0, .int .i64 0] 34)) Aq [⟨3, [2, 11]⟩] (by simp)) LR7.out (GOK.below HGK.out (H9.out.new (.cells #[.int .i64 0, .int .i64 0, .int .i64 0, .int .i64 0] 34)).b) HS8.out; simp only [Pure.sdL, List.length_cons, List.length_nil, Nat.zero_add] at hh; (with_reducible refine hh.mono ?_); clear hh; rintro e w10 ⟨v4, rfl, hn_, hb_⟩; obtain ⟨Az, cz, rfl⟩ := Kd.N_slice hn_; have H10 := Aside0.mk (AwP.rowM (l := []) (AwP.below ((H9.out.new (.cells #[.int .i64 0, .int .i64 0, .int .i64 0, .int .i64 0] 34))) hb_) (Kd.N_reads' hn_).2.2); have LR10 := Aside0.mk (Kd.N_reads' hn_).2.1; clear hn_ hb_; have hb_ := H10.out.2.1 (gA, (.cells #[.int .i64 P, .int .i64 P, .int .i64 a4, .int .i64 9, .slice An 0 cn, .slice (some ad) 1 cd] 26)) (by simp); obtain ⟨e10A0, e10A1, e10A2, e10A3, e10A4, e10A5, -, -, -, -, -, -⟩ := bc6 hb_; have l10A : gA < w10.heap.size := blk_lt hb_; clear hb_; have hb_ := H10.out.2.1 (gB, (.cells #[.int .i64 Q, .int .i64 Q, .int .i64 a5, .int .i64 9, .slice Bn 0 dn, .slice (some bd) 1 dd] 26)) (by simp); obtain ⟨e10B0, e10B1, e10B2, e10B3, e10B4, e10B5, -, -, -, -, -, -⟩ := bc6 hb_; have l10B : gB < w10.heap.size := blk_lt hb_; clear hb_; have hb_ := H10.out.2.1 (w9.heap.size, (.cells #[.int .i64 0, .int .i64 0, .int .i64 0, .int .i64 0] 34)) (by simp); obtain ⟨e10w0, e10w1, e10w2, e10w3, -, -, -, -⟩ := bc4 hb_; have l10w : w9.heap.size < w10.heap.size := blk_lt hb_; clear hb_))
 obtain ⟨y0, y1⟩ := sd_cells (AwP.d H10.out (some ad) (Pure.sdL Q R) (by simp))
 have yl : ad.block < w10.heap.size := World.block_lt_of_cell? _ _ y0
 obtain ⟨x0, x1⟩ := sd_cells (AwP.d H10.out (some bd) (Pure.sdL P S) (by simp))
 have xl : bd.block < w10.heap.size := World.block_lt_of_cell? _ _ x0
 obtain ⟨aq, Bq, dq, rfl, m0, m1, hml, hmc⟩ := ms_cells (AwP.m H10.out Aq [⟨3, [2, 11]⟩] (by simp))
 have HMC := Aside0.mk hmc
 have HML := Aside0.mk hml
 have ml : aq.block < w10.heap.size := World.block_lt_of_cell? _ _ m0
 clear hml hmc
 go_quiet (fail)
 go_wp2_with (first | (go_at_call 13; have hh := note_Get.calls 1 3 Bq dq [2, 11] 2 11 [] true ((w10.alloc (.cells #[.int .i64 0, .int .i64 0, .int .i64 0, .int .i64 0] 34)).drewN nq) (Kd.C_drewN (Kd.C_alloc HMC.out _) _) HML.out (Pure.note_role 0); simp only [List.length_cons, List.length_nil, Nat.zero_add] at hh; (with_reducible refine hh.mono ?_); clear hh; rintro e w11 ⟨v2, rfl, hr_, hb_⟩; obtain ⟨Aw, cw, rfl⟩ := Kd.R_slice hr_; have H11 := Aside0.mk (AwP.below (AwP.below (H10.out.new (.cells #[.int .i64 0, .int .i64 0, .int .i64 0, .int .i64 0] 34)) (bN (Below.refl _ _) _)) hb_); clear hr_ hb_; have hb_ := H11.out.2.1 (w9.heap.size, (.cells #[.int .i64 0, .int .i64 0, .int .i64 0, .int .i64 0] 34)) (by simp); obtain ⟨e11w0, e11w1, e11w2, e11w3, -, -, -, -⟩ := bc4 hb_; have l11w : w9.heap.size < w11.heap.size := blk_lt hb_; clear hb_; have hb_ := H11.out.2.1 (w10.heap.size, (.cells #[.int .i64 0, .int .i64 0, .int .i64 0, .int .i64 0] 34)) (by simp); obtain ⟨e11z0, e11z1, e11z2, e11z3, -, -, -, -⟩ := bc4 hb_; have l11z : w10.heap.size < w11.heap.size := blk_lt hb_; clear hb_; obtain ⟨ar, Br, dr, rfl, n0, n1, hnl, hnc⟩ := ms_cells (AwP.m H11.out Ar [⟨3, [2, 11]⟩] (by simp)); clear hnl hnc; have nl : ar.block < w11.heap.size := World.block_lt_of_cell? _ _ n0))
 go_ret
 exact ⟨rfl, by with_reducible repeat first | exact (H11.out.new _).b | apply bN | apply bD⟩
set_option maxHeartbeats 8000000 in
set_option maxRecDepth 100000 in
theorem mt_one (a0 a1 a2 a3 a4 a5 P Q R S : Int) (h1 : wrap64 (1 + Go.bits .and .i64 a0 65535) = P) (h2 : wrap64 (70000 + Go.bits .and .i64 a1 65535) = Q) (h3 : wrap64 (wrap64 (1 + Go.bits .and .i64 a2 1) + Go.bits .and .i64 (a2 / 2) 1) = R) (h4 : wrap64 (wrap64 (1 + Go.bits .and .i64 a3 1) + Go.bits .and .i64 (a3 / 2) 1) = S) (hp : 0 < P) (hp2 : P ≤ 4294967295) (hq : 0 < Q) (hq2 : Q ≤ 4294967295) (hr : 1 ≤ R) (hr2 : R ≤ 3) (hs : 1 ≤ S) (hs2 : S ≤ 3) (hqp : Q ≠ P) (hA : holdB a4 = false) (w : World) (hG : GOK w) :
  Calls Tryd.prog 3 #[.int .i64 a0, .int .i64 a1, .int .i64 a2, .int .i64 a3, .int .i64 a4, .int .i64 a5] w fun e w' => e = .returned (.bool true) ∧ Below w.heap.size w w' := by
 have HGK := Aside0.mk hG
 clear hG
 have HS1 := Aside0.mk ((Pure.conf_eq P Q R a4 hp hp2 hq hq2 hr hr2 hqp).trans (congrArg some hA))
 clear hA
 clear hp hp2 hq hq2 hr hr2 hs hs2 hqp
 go_enter Tryd.func3, Tryd.ntmps3
 go_wp2_with (first
  | (go_at_call 8; have hh := ridgewaylaw17_awake.calls true w HGK.out rfl; (with_reducible refine hh.mono ?_); clear hh; rintro e w0 ⟨rfl, hb_⟩; have H0 := Aside0.mk hb_; clear hb_)
  | (go_at_call 9; have hh := ridgewaylaw17_node.calls P Q R a4 P P a4 9 [] (Pure.sdL Q R) w0 rfl; (with_reducible refine hh.mono ?_); clear hh; rintro e w1 ⟨v4, v5, rfl, hr_, hs, hb_⟩; obtain ⟨An, cn, rfl⟩ := Kd.R_slice hr_; obtain ⟨Ad, cd, rfl⟩ := Kd.S_slice hs; obtain ⟨ad, rfl⟩ := mt_some (Kd.S_reads' hs).2.2; have HCD := Aside0.mk (show 1 ≤ cd from (Kd.S_reads' hs).2.1); have H1 := Aside0.mk (show MtA w w1.heap.size (.cells #[.int .i64 P, .int .i64 P, .int .i64 a4, .int .i64 9, .slice An 0 cn, .slice (some ad) 1 cd] 26 (0, 0)) ad (Pure.sdL Q R) (w1.alloc (.cells #[.int .i64 P, .int .i64 P, .int .i64 a4, .int .i64 9, .slice An 0 cn, .slice (some ad) 1 cd] 26)) from ⟨below_alloc (below_step H0.out hb_) _, heap_alloc_new _ _, Kd.C_below (Kd.S_reads' hs).2.2 (below_alloc (Below.refl _ _) _)⟩); clear hr_ hs hb_))
 refine mt_region a0 a1 a2 a3 a4 a5 P Q R S An cn ad cd w1.heap.size w _ h4 H1.out (fun _ _ _ _ _ h => h) (fun gB W2 Bn dn Bd dd HA2 HB2 HD2 HE2 => ?_)
 obtain ⟨bd, rfl⟩ := mt_some HD2
 have HDD := Aside0.mk HE2
 have H2 := Aside0.mk (mt_awp HA2 HB2 HD2)
 obtain ⟨gA, hgA⟩ : ∃ gA, gA = w1.heap.size := ⟨_, rfl⟩
 rw [← hgA] at H2 ⊢
 clear HA2 HB2 HD2 HE2 H1 hgA
 have hb_ := H2.out.2.1 (gA, (.cells #[.int .i64 P, .int .i64 P, .int .i64 a4, .int .i64 9, .slice An 0 cn, .slice (some ad) 1 cd] 26)) (by simp)
 obtain ⟨e2A0, e2A1, e2A2, e2A3, e2A4, e2A5, -, -, -, -, -, -⟩ := bc6 hb_
 clear hb_
 go_wp2_with (first
  | (go_at_call 10; have hh := conf_Sane.calls P P a4 9 An cn [] (some ad) cd (Pure.sdL Q R) false W2 (c_nil_any _ _ _) (Nat.zero_le _) (AwP.d H2.out (some ad) (Pure.sdL Q R) (by simp)) HCD.out HS1.out; simp only [Pure.sdL, List.length_cons, List.length_nil, Nat.zero_add] at hh; (with_reducible refine hh.mono ?_); clear hh; rintro e w3 ⟨rfl, hb_⟩; have H3 := Aside0.mk (H2.out.below hb_); clear hb_))
 go_ret
 exact ⟨rfl, by with_reducible repeat first | exact H3.out.b | apply bN | apply bD⟩
set_option maxHeartbeats 8000000 in
set_option maxRecDepth 100000 in
theorem mt_two (a0 a1 a2 a3 a4 a5 P Q R S : Int) (h1 : wrap64 (1 + Go.bits .and .i64 a0 65535) = P) (h2 : wrap64 (70000 + Go.bits .and .i64 a1 65535) = Q) (h3 : wrap64 (wrap64 (1 + Go.bits .and .i64 a2 1) + Go.bits .and .i64 (a2 / 2) 1) = R) (h4 : wrap64 (wrap64 (1 + Go.bits .and .i64 a3 1) + Go.bits .and .i64 (a3 / 2) 1) = S) (hp : 0 < P) (hp2 : P ≤ 4294967295) (hq : 0 < Q) (hq2 : Q ≤ 4294967295) (hr : 1 ≤ R) (hr2 : R ≤ 3) (hs : 1 ≤ S) (hs2 : S ≤ 3) (hqp : Q ≠ P) (hA : holdB a4 = true) (hB : holdB a5 = false) (w : World) (hG : GOK w) :
  Calls Tryd.prog 3 #[.int .i64 a0, .int .i64 a1, .int .i64 a2, .int .i64 a3, .int .i64 a4, .int .i64 a5] w fun e w' => e = .returned (.bool true) ∧ Below w.heap.size w w' := by
 have HGK := Aside0.mk hG
 clear hG
 have HS1 := Aside0.mk ((Pure.conf_eq P Q R a4 hp hp2 hq hq2 hr hr2 hqp).trans (congrArg some hA))
 have HS2 := Aside0.mk ((Pure.conf_eq Q P S a5 hq hq2 hp hp2 hs hs2 (Ne.symm hqp)).trans (congrArg some hB))
 clear hB
 clear hA
 clear hp hp2 hq hq2 hr hr2 hs hs2 hqp
 go_enter Tryd.func3, Tryd.ntmps3
 go_wp2_with (first
  | (go_at_call 8; have hh := ridgewaylaw17_awake.calls true w HGK.out rfl; (with_reducible refine hh.mono ?_); clear hh; rintro e w0 ⟨rfl, hb_⟩; have H0 := Aside0.mk hb_; clear hb_)
  | (go_at_call 9; have hh := ridgewaylaw17_node.calls P Q R a4 P P a4 9 [] (Pure.sdL Q R) w0 rfl; (with_reducible refine hh.mono ?_); clear hh; rintro e w1 ⟨v4, v5, rfl, hr_, hs, hb_⟩; obtain ⟨An, cn, rfl⟩ := Kd.R_slice hr_; obtain ⟨Ad, cd, rfl⟩ := Kd.S_slice hs; obtain ⟨ad, rfl⟩ := mt_some (Kd.S_reads' hs).2.2; have HCD := Aside0.mk (show 1 ≤ cd from (Kd.S_reads' hs).2.1); have H1 := Aside0.mk (show MtA w w1.heap.size (.cells #[.int .i64 P, .int .i64 P, .int .i64 a4, .int .i64 9, .slice An 0 cn, .slice (some ad) 1 cd] 26 (0, 0)) ad (Pure.sdL Q R) (w1.alloc (.cells #[.int .i64 P, .int .i64 P, .int .i64 a4, .int .i64 9, .slice An 0 cn, .slice (some ad) 1 cd] 26)) from ⟨below_alloc (below_step H0.out hb_) _, heap_alloc_new _ _, Kd.C_below (Kd.S_reads' hs).2.2 (below_alloc (Below.refl _ _) _)⟩); clear hr_ hs hb_))
 refine mt_region a0 a1 a2 a3 a4 a5 P Q R S An cn ad cd w1.heap.size w _ h4 H1.out (fun _ _ _ _ _ h => h) (fun gB W2 Bn dn Bd dd HA2 HB2 HD2 HE2 => ?_)
 obtain ⟨bd, rfl⟩ := mt_some HD2
 have HDD := Aside0.mk HE2
 have H2 := Aside0.mk (mt_awp HA2 HB2 HD2)
 obtain ⟨gA, hgA⟩ : ∃ gA, gA = w1.heap.size := ⟨_, rfl⟩
 rw [← hgA] at H2 ⊢
 clear HA2 HB2 HD2 HE2 H1 hgA
 have hb_ := H2.out.2.1 (gA, (.cells #[.int .i64 P, .int .i64 P, .int .i64 a4, .int .i64 9, .slice An 0 cn, .slice (some ad) 1 cd] 26)) (by simp)
 obtain ⟨e2A0, e2A1, e2A2, e2A3, e2A4, e2A5, -, -, -, -, -, -⟩ := bc6 hb_
 clear hb_
 go_wp2_with (first
  | (go_at_call 10; have hh := conf_Sane.calls P P a4 9 An cn [] (some ad) cd (Pure.sdL Q R) true W2 (c_nil_any _ _ _) (Nat.zero_le _) (AwP.d H2.out (some ad) (Pure.sdL Q R) (by simp)) HCD.out HS1.out; simp only [Pure.sdL, List.length_cons, List.length_nil, Nat.zero_add] at hh; (with_reducible refine hh.mono ?_); clear hh; rintro e w3 ⟨rfl, hb_⟩; have H3 := Aside0.mk (H2.out.below hb_); clear hb_; have hb_ := H3.out.2.1 (gB, (.cells #[.int .i64 Q, .int .i64 Q, .int .i64 a5, .int .i64 9, .slice Bn 0 dn, .slice (some bd) 1 dd] 26)) (by simp); obtain ⟨e3B0, e3B1, e3B2, e3B3, e3B4, e3B5, -, -, -, -, -, -⟩ := bc6 hb_; have l3B : gB < w3.heap.size := blk_lt hb_; clear hb_)
  | (go_at_call 10; have hh := conf_Sane.calls Q Q a5 9 Bn dn [] (some bd) dd (Pure.sdL P S) false w3 (c_nil_any _ _ _) (Nat.zero_le _) (AwP.d H3.out (some bd) (Pure.sdL P S) (by simp)) HDD.out HS2.out; simp only [Pure.sdL, List.length_cons, List.length_nil, Nat.zero_add] at hh; (with_reducible refine hh.mono ?_); clear hh; rintro e w4 ⟨rfl, hb_⟩; have H4 := Aside0.mk (H3.out.below hb_); clear hb_))
 go_ret
 exact ⟨rfl, by with_reducible repeat first | exact H4.out.b | apply bN | apply bD⟩
theorem ridgewaylaw17_SessionMeet.calls (a0 a1 a2 a3 a4 a5 : Int) (w : World) (hG : GOK w) (h : ridgewaylaw17_SessionMeet.f a0 a1 a2 a3 a4 a5 = some true) :
  Calls Tryd.prog 3 #[.int .i64 a0, .int .i64 a1, .int .i64 a2, .int .i64 a3, .int .i64 a4, .int .i64 a5] w fun e w' => e = .returned (.bool true) ∧ Below w.heap.size w w' := by
 clear h
 have e1 : Go.bits .and .i64 a0 65535 = a0 % 65536 := and_mask a0 16 (by omega)
 have e2 : Go.bits .and .i64 a1 65535 = a1 % 65536 := and_mask a1 16 (by omega)
 have e3 := Pure.and_one a2
 have e4 := Pure.and_one (a2 / 2)
 have e5 := Pure.and_one a3
 have e6 := Pure.and_one (a3 / 2)
 obtain ⟨P, h1⟩ : ∃ P, wrap64 (1 + Go.bits .and .i64 a0 65535) = P := ⟨_, rfl⟩
 obtain ⟨Q, h2⟩ : ∃ Q, wrap64 (70000 + Go.bits .and .i64 a1 65535) = Q := ⟨_, rfl⟩
 obtain ⟨R, h3⟩ : ∃ R, wrap64 (wrap64 (1 + Go.bits .and .i64 a2 1) + Go.bits .and .i64 (a2 / 2) 1) = R := ⟨_, rfl⟩
 obtain ⟨S, h4⟩ : ∃ S, wrap64 (wrap64 (1 + Go.bits .and .i64 a3 1) + Go.bits .and .i64 (a3 / 2) 1) = S := ⟨_, rfl⟩
 have k1 : P = 1 + a0 % 65536 := by rw [← h1, e1, w64 (by omega) (by omega)]
 have k2 : Q = 70000 + a1 % 65536 := by rw [← h2, e2, w64 (by omega) (by omega)]
 have k3 : R = 1 + a2 % 2 + a2 / 2 % 2 := by rw [← h3, e3, e4, w64 (n := 1 + a2 % 2) (by omega) (by omega), w64 (by omega) (by omega)]
 have k4 : S = 1 + a3 % 2 + a3 / 2 % 2 := by rw [← h4, e5, e6, w64 (n := 1 + a3 % 2) (by omega) (by omega), w64 (by omega) (by omega)]
 have b1 : 0 < P := by omega
 have b2 : P ≤ 4294967295 := by omega
 have b3 : 0 < Q := by omega
 have b4 : Q ≤ 4294967295 := by omega
 have b5 : 1 ≤ R := by omega
 have b6 : R ≤ 3 := by omega
 have b7 : 1 ≤ S := by omega
 have b8 : S ≤ 3 := by omega
 have b9 : Q ≠ P := by omega
 cases hA : holdB a4
 ·
  exact mt_one a0 a1 a2 a3 a4 a5 P Q R S h1 h2 h3 h4 b1 b2 b3 b4 b5 b6 b7 b8 b9 hA w hG
 cases hB : holdB a5
 ·
  exact mt_two a0 a1 a2 a3 a4 a5 P Q R S h1 h2 h3 h4 b1 b2 b3 b4 b5 b6 b7 b8 b9 hA hB w hG
 by_cases hrs : R + S = 4
 ·
  exact mt_ok a0 a1 a2 a3 a4 a5 P Q R S h1 h2 h3 h4 b1 b2 b3 b4 b5 b6 b7 b8 b9 hA hB hrs w hG
 ·
  exact mt_no a0 a1 a2 a3 a4 a5 P Q R S h1 h2 h3 h4 b1 b2 b3 b4 b5 b6 b7 b8 b9 hA hB hrs w hG

/-- THE ONE PURE STATEMENT of ridgewaylaw17_SessionMeet. -/
def ridgewaylaw17_SessionMeet.Pure : Prop := ∀ (a0 : Int) (a1 : Int) (a2 : Int) (a3 : Int) (a4 : Int) (a5 : Int), ((Lit.int .i64 a0).wf = true) → ((Lit.int .i64 a1).wf = true) → ((Lit.int .i64 a2).wf = true) → ((Lit.int .i64 a3).wf = true) → ((Lit.int .i64 a4).wf = true) → ((Lit.int .i64 a5).wf = true) → ridgewaylaw17_SessionMeet.f a0 a1 a2 a3 a4 a5 = some true

end Go.Proofs.YtfbndolhocojiaaDoor.M
