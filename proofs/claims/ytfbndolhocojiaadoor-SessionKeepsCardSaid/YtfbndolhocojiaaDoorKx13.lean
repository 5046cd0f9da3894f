/- Each call of a Go function comes to what the Lean function of its name answers (written out by wip/tools/xprint.py, checked by Lean); conditions: those in each statement. -/
import Derived.Test.YtfbndolhocojiaaDoorKx0
import Derived.Test.YtfbndolhocojiaaDoorKx3
import Derived.Test.YtfbndolhocojiaaDoorKx7
import Derived.Test.YtfbndolhocojiaaDoorKx9
import Derived.Test.YtfbndolhocojiaaDoorKx12
namespace Go.Proofs.YtfbndolhocojiaaDoor.K
open Go.RowKit Go.Proofs.YtfbndolhocojiaaDoorW.PrintWords Go.Proofs.YtfbndolhocojiaaDoorW.PrintLast Go.Proofs.YtfbndolhocojiaaDoorW.PrintMore Go.Proofs.YtfbndolhocojiaaDoorW.PrintX
attribute [local go_sem] max2_int min2_int max_two min_two max_three min_three max_four min_four   -- for this text's walks alone
set_option linter.unusedVariables false
set_option linter.unusedSimpArgs false

/-! ### session_Take: function 16 -/
def session_Take.g (x0 x1 x2 x3 a1_0 a1_1 a1_2 a1_3 : Int) (l1_4 : List S62) (l1_5 : List S31) (a2 a3_0 : Int) (l3_1 : List Int) : Option TkR :=
 if x0 = 1 then session_call_sent.f x0 x1 x2 x3 a1_0 a1_1 a1_2 a1_3 l1_4 l1_5 a2 a3_0 l3_1
 else if x0 = 2 then session_call_confirm.f x0 x1 x2 x3 a1_0 a1_1 a1_2 a1_3 l1_4 l1_5 a2 a3_0 l3_1
 else if x0 = 3 then session_call_up.f x0 x1 x2 x3 a1_0 a1_1 a1_2 a1_3 l1_4 l1_5 a2 a3_0 l3_1 else none
def session_Take.f (a0_0 a0_1 a0_2 a0_3 a1_0 a1_1 a1_2 a1_3 : Int) (l1_4 : List S62) (l1_5 : List S31) (a2 a3_0 : Int) (l3_1 : List Int) : Option TkR :=
 (session_known.f a0_0 a0_1 a0_2 a0_3).bind fun x => if x.1 = 0 then some (x.1, x.2.1, x.2.2.1, x.2.2.2, [], false) else
  (session_side.f a1_0 a1_1 a1_2 a1_3 l1_4 l1_5 a2).bind fun sd => if sd = true then
   (msg_Sane.f a3_0 l3_1).bind fun ms => if ms = true then
    (if a3_0 = 3 then some (0, 0, 0, 0, [], false) else session_Take.g x.1 x.2.1 x.2.2.1 x.2.2.2 a1_0 a1_1 a1_2 a1_3 l1_4 l1_5 a2 a3_0 l3_1)
   else some (x.1, x.2.1, x.2.2.1, x.2.2.2, [], false)
  else some (x.1, x.2.1, x.2.2.1, x.2.2.2, [], false)
def TkS (w : World) (o0 o1 o2 o3 : Obj) (W : World) : Prop := Below w.heap.size w W ∧ W.heap[w.heap.size]? = some o0 ∧ W.heap[w.heap.size + 1]? = some o1 ∧ W.heap[w.heap.size + 1 + 1]? = some o2 ∧ W.heap[w.heap.size + 1 + 1 + 1]? = some o3
theorem TkS.below {w : World} {o0 o1 o2 o3 : Obj} {W W' : World} (h : TkS w o0 o1 o2 o3 W) (hb : Below W.heap.size W W') : TkS w o0 o1 o2 o3 W' :=
 ⟨below_step h.1 hb, blk_below h.2.1 hb, blk_below h.2.2.1 hb, blk_below h.2.2.2.1 hb, blk_below h.2.2.2.2 hb⟩
theorem TkS.drew {w : World} {o0 o1 o2 o3 : Obj} {W : World} (h : TkS w o0 o1 o2 o3 W) : TkS w o0 o1 o2 o3 W.drew :=
 ⟨below_drew h.1, h.2.1, h.2.2.1, h.2.2.2.1, h.2.2.2.2⟩
theorem TkS.alloc {w : World} {o0 o1 o2 o3 : Obj} {W : World} (h : TkS w o0 o1 o2 o3 W) (o : Obj) : TkS w o0 o1 o2 o3 (W.alloc o) :=
 ⟨below_alloc h.1 _, blk_alloc h.2.1 _, blk_alloc h.2.2.1 _, blk_alloc h.2.2.2.1 _, blk_alloc h.2.2.2.2 _⟩
theorem TkS.put {w : World} {o0 o1 o2 o3 : Obj} {W : World} (h : TkS w o0 o1 o2 o3 W) {g : Nat} (hg : w.heap.size + 1 + 1 + 1 < g) (j : Nat) (v : Value) : TkS w o0 o1 o2 o3 (W.setCell ⟨g, j, none⟩ v) := by
 have hs : ∀ i, i ≠ g → (W.setCell ⟨g, j, none⟩ v).heap[i]? = W.heap[i]? := fun i h => Below.heap_setCell W ⟨g, j, none⟩ v i h
 refine ⟨set_below _ h.1 (by omega), ?_, ?_, ?_, ?_⟩
 ·
  rw [hs _ (by omega)]; exact h.2.1
 ·
  rw [hs _ (by omega)]; exact h.2.2.1
 ·
  rw [hs _ (by omega)]; exact h.2.2.2.1
 ·
  rw [hs _ (by omega)]; exact h.2.2.2.2
theorem TkS.start (w : World) (o0 o1 o2 o3 : Obj) : TkS w o0 o1 o2 o3 ((((w.alloc o0).alloc o1).alloc o2).alloc o3) := by
 have h1 := heap_alloc_new (w.alloc o0) o1
 have h2 := heap_alloc_new ((w.alloc o0).alloc o1) o2
 have h3 := heap_alloc_new (((w.alloc o0).alloc o1).alloc o2) o3
 rw [World.size_alloc] at h1
 rw [World.size_alloc, World.size_alloc] at h2
 rw [World.size_alloc, World.size_alloc, World.size_alloc] at h3
 exact ⟨below_alloc (below_alloc (below_alloc (below_alloc (Below.refl _ _) _) _) _) _, blk_alloc (blk_alloc (blk_alloc (heap_alloc_new w o0) _) _) _, blk_alloc (blk_alloc h1 _) _, blk_alloc h2 _, h3⟩
theorem TkS.b {w : World} {o0 o1 o2 o3 : Obj} {W : World} (h : TkS w o0 o1 o2 o3 W) : Below w.heap.size w W := h.1
theorem TkS.b1 {w : World} {o0 o1 o2 o3 : Obj} {W : World} (h : TkS w o0 o1 o2 o3 W) : W.heap[w.heap.size + 1]? = some o1 := h.2.2.1
theorem TkS.b2 {w : World} {o0 o1 o2 o3 : Obj} {W : World} (h : TkS w o0 o1 o2 o3 W) : W.heap[w.heap.size + 1 + 1]? = some o2 := h.2.2.2.1
theorem TkS.b3 {w : World} {o0 o1 o2 o3 : Obj} {W : World} (h : TkS w o0 o1 o2 o3 W) : W.heap[w.heap.size + 1 + 1 + 1]? = some o3 := h.2.2.2.2
theorem put13 {w : World} {o0 o1 o2 o3 : Obj} {W : World} {g : Nat} (hT : TkS w o0 o1 o2 o3 W) (hg : w.heap.size + 1 + 1 + 1 < g) (h0 : W.heap[g]? = some (.cells #[.int .i64 0, .int .i64 0, .int .i64 0, .int .i64 0, .int .i64 0, .int .i64 0, .int .i64 0, .int .i64 0, .slice none 0 0, .slice none 0 0, .int .i64 0, .int .i64 0, .slice none 0 0] 76 (0, 0))) (v0 v1 v2 v3 v4 v5 v6 v7 v8 v9 v10 v11 v12 : Value) :
  TkS w o0 o1 o2 o3 (((((((((((((W.setCell ⟨g, 0, none⟩ v0).setCell ⟨g, 1, none⟩ v1).setCell ⟨g, 2, none⟩ v2).setCell ⟨g, 3, none⟩ v3).setCell ⟨g, 4, none⟩ v4).setCell ⟨g, 5, none⟩ v5).setCell ⟨g, 6, none⟩ v6).setCell ⟨g, 7, none⟩ v7).setCell ⟨g, 8, none⟩ v8).setCell ⟨g, 9, none⟩ v9).setCell ⟨g, 10, none⟩ v10).setCell ⟨g, 11, none⟩ v11).setCell ⟨g, 12, none⟩ v12) ∧ (((((((((((((W.setCell ⟨g, 0, none⟩ v0).setCell ⟨g, 1, none⟩ v1).setCell ⟨g, 2, none⟩ v2).setCell ⟨g, 3, none⟩ v3).setCell ⟨g, 4, none⟩ v4).setCell ⟨g, 5, none⟩ v5).setCell ⟨g, 6, none⟩ v6).setCell ⟨g, 7, none⟩ v7).setCell ⟨g, 8, none⟩ v8).setCell ⟨g, 9, none⟩ v9).setCell ⟨g, 10, none⟩ v10).setCell ⟨g, 11, none⟩ v11).setCell ⟨g, 12, none⟩ v12).heap[g]? = some (.cells #[v0, v1, v2, v3, v4, v5, v6, v7, v8, v9, v10, v11, v12] 76 (0, 0)) := by
 have t1 : TkS w o0 o1 o2 o3 (W.setCell ⟨g, 0, none⟩ v0) := hT.put hg 0 v0
 have h1 : (W.setCell ⟨g, 0, none⟩ v0).heap[g]? = some (.cells #[v0, .int .i64 0, .int .i64 0, .int .i64 0, .int .i64 0, .int .i64 0, .int .i64 0, .int .i64 0, .slice none 0 0, .slice none 0 0, .int .i64 0, .int .i64 0, .slice none 0 0] 76 (0, 0)) := blk_put h0 0 v0 rfl
 have t2 : TkS w o0 o1 o2 o3 ((W.setCell ⟨g, 0, none⟩ v0).setCell ⟨g, 1, none⟩ v1) := t1.put hg 1 v1
 have h2 : ((W.setCell ⟨g, 0, none⟩ v0).setCell ⟨g, 1, none⟩ v1).heap[g]? = some (.cells #[v0, v1, .int .i64 0, .int .i64 0, .int .i64 0, .int .i64 0, .int .i64 0, .int .i64 0, .slice none 0 0, .slice none 0 0, .int .i64 0, .int .i64 0, .slice none 0 0] 76 (0, 0)) := blk_put h1 1 v1 rfl
 have t3 : TkS w o0 o1 o2 o3 (((W.setCell ⟨g, 0, none⟩ v0).setCell ⟨g, 1, none⟩ v1).setCell ⟨g, 2, none⟩ v2) := t2.put hg 2 v2
 have h3 : (((W.setCell ⟨g, 0, none⟩ v0).setCell ⟨g, 1, none⟩ v1).setCell ⟨g, 2, none⟩ v2).heap[g]? = some (.cells #[v0, v1, v2, .int .i64 0, .int .i64 0, .int .i64 0, .int .i64 0, .int .i64 0, .slice none 0 0, .slice none 0 0, .int .i64 0, .int .i64 0, .slice none 0 0] 76 (0, 0)) := blk_put h2 2 v2 rfl
 have t4 : TkS w o0 o1 o2 o3 ((((W.setCell ⟨g, 0, none⟩ v0).setCell ⟨g, 1, none⟩ v1).setCell ⟨g, 2, none⟩ v2).setCell ⟨g, 3, none⟩ v3) := t3.put hg 3 v3
 have h4 : ((((W.setCell ⟨g, 0, none⟩ v0).setCell ⟨g, 1, none⟩ v1).setCell ⟨g, 2, none⟩ v2).setCell ⟨g, 3, none⟩ v3).heap[g]? = some (.cells #[v0, v1, v2, v3, .int .i64 0, .int .i64 0, .int .i64 0, .int .i64 0, .slice none 0 0, .slice none 0 0, .int .i64 0, .int .i64 0, .slice none 0 0] 76 (0, 0)) := blk_put h3 3 v3 rfl
 have t5 : TkS w o0 o1 o2 o3 (((((W.setCell ⟨g, 0, none⟩ v0).setCell ⟨g, 1, none⟩ v1).setCell ⟨g, 2, none⟩ v2).setCell ⟨g, 3, none⟩ v3).setCell ⟨g, 4, none⟩ v4) := t4.put hg 4 v4
 have h5 : (((((W.setCell ⟨g, 0, none⟩ v0).setCell ⟨g, 1, none⟩ v1).setCell ⟨g, 2, none⟩ v2).setCell ⟨g, 3, none⟩ v3).setCell ⟨g, 4, none⟩ v4).heap[g]? = some (.cells #[v0, v1, v2, v3, v4, .int .i64 0, .int .i64 0, .int .i64 0, .slice none 0 0, .slice none 0 0, .int .i64 0, .int .i64 0, .slice none 0 0] 76 (0, 0)) := blk_put h4 4 v4 rfl
 have t6 : TkS w o0 o1 o2 o3 ((((((W.setCell ⟨g, 0, none⟩ v0).setCell ⟨g, 1, none⟩ v1).setCell ⟨g, 2, none⟩ v2).setCell ⟨g, 3, none⟩ v3).setCell ⟨g, 4, none⟩ v4).setCell ⟨g, 5, none⟩ v5) := t5.put hg 5 v5
 have h6 : ((((((W.setCell ⟨g, 0, none⟩ v0).setCell ⟨g, 1, none⟩ v1).setCell ⟨g, 2, none⟩ v2).setCell ⟨g, 3, none⟩ v3).setCell ⟨g, 4, none⟩ v4).setCell ⟨g, 5, none⟩ v5).heap[g]? = some (.cells #[v0, v1, v2, v3, v4, v5, .int .i64 0, .int .i64 0, .slice none 0 0, .slice none 0 0, .int .i64 0, .int .i64 0, .slice none 0 0] 76 (0, 0)) := blk_put h5 5 v5 rfl
 have t7 : TkS w o0 o1 o2 o3 (((((((W.setCell ⟨g, 0, none⟩ v0).setCell ⟨g, 1, none⟩ v1).setCell ⟨g, 2, none⟩ v2).setCell ⟨g, 3, none⟩ v3).setCell ⟨g, 4, none⟩ v4).setCell ⟨g, 5, none⟩ v5).setCell ⟨g, 6, none⟩ v6) := t6.put hg 6 v6
 have h7 : (((((((W.setCell ⟨g, 0, none⟩ v0).setCell ⟨g, 1, none⟩ v1).setCell ⟨g, 2, none⟩ v2).setCell ⟨g, 3, none⟩ v3).setCell ⟨g, 4, none⟩ v4).setCell ⟨g, 5, none⟩ v5).setCell ⟨g, 6, none⟩ v6).heap[g]? = some (.cells #[v0, v1, v2, v3, v4, v5, v6, .int .i64 0, .slice none 0 0, .slice none 0 0, .int .i64 0, .int .i64 0, .slice none 0 0] 76 (0, 0)) := blk_put h6 6 v6 rfl
 have t8 : TkS w o0 o1 o2 o3 ((((((((W.setCell ⟨g, 0, none⟩ v0).setCell ⟨g, 1, none⟩ v1).setCell ⟨g, 2, none⟩ v2).setCell ⟨g, 3, none⟩ v3).setCell ⟨g, 4, none⟩ v4).setCell ⟨g, 5, none⟩ v5).setCell ⟨g, 6, none⟩ v6).setCell ⟨g, 7, none⟩ v7) := t7.put hg 7 v7
 have h8 : ((((((((W.setCell ⟨g, 0, none⟩ v0).setCell ⟨g, 1, none⟩ v1).setCell ⟨g, 2, none⟩ v2).setCell ⟨g, 3, none⟩ v3).setCell ⟨g, 4, none⟩ v4).setCell ⟨g, 5, none⟩ v5).setCell ⟨g, 6, none⟩ v6).setCell ⟨g, 7, none⟩ v7).heap[g]? = some (.cells #[v0, v1, v2, v3, v4, v5, v6, v7, .slice none 0 0, .slice none 0 0, .int .i64 0, .int .i64 0, .slice none 0 0] 76 (0, 0)) := blk_put h7 7 v7 rfl
 have t9 : TkS w o0 o1 o2 o3 (((((((((W.setCell ⟨g, 0, none⟩ v0).setCell ⟨g, 1, none⟩ v1).setCell ⟨g, 2, none⟩ v2).setCell ⟨g, 3, none⟩ v3).setCell ⟨g, 4, none⟩ v4).setCell ⟨g, 5, none⟩ v5).setCell ⟨g, 6, none⟩ v6).setCell ⟨g, 7, none⟩ v7).setCell ⟨g, 8, none⟩ v8) := t8.put hg 8 v8
 have h9 : (((((((((W.setCell ⟨g, 0, none⟩ v0).setCell ⟨g, 1, none⟩ v1).setCell ⟨g, 2, none⟩ v2).setCell ⟨g, 3, none⟩ v3).setCell ⟨g, 4, none⟩ v4).setCell ⟨g, 5, none⟩ v5).setCell ⟨g, 6, none⟩ v6).setCell ⟨g, 7, none⟩ v7).setCell ⟨g, 8, none⟩ v8).heap[g]? = some (.cells #[v0, v1, v2, v3, v4, v5, v6, v7, v8, .slice none 0 0, .int .i64 0, .int .i64 0, .slice none 0 0] 76 (0, 0)) := blk_put h8 8 v8 rfl
 have t10 : TkS w o0 o1 o2 o3 ((((((((((W.setCell ⟨g, 0, none⟩ v0).setCell ⟨g, 1, none⟩ v1).setCell ⟨g, 2, none⟩ v2).setCell ⟨g, 3, none⟩ v3).setCell ⟨g, 4, none⟩ v4).setCell ⟨g, 5, none⟩ v5).setCell ⟨g, 6, none⟩ v6).setCell ⟨g, 7, none⟩ v7).setCell ⟨g, 8, none⟩ v8).setCell ⟨g, 9, none⟩ v9) := t9.put hg 9 v9
 have h10 : ((((((((((W.setCell ⟨g, 0, none⟩ v0).setCell ⟨g, 1, none⟩ v1).setCell ⟨g, 2, none⟩ v2).setCell ⟨g, 3, none⟩ v3).setCell ⟨g, 4, none⟩ v4).setCell ⟨g, 5, none⟩ v5).setCell ⟨g, 6, none⟩ v6).setCell ⟨g, 7, none⟩ v7).setCell ⟨g, 8, none⟩ v8).setCell ⟨g, 9, none⟩ v9).heap[g]? = some (.cells #[v0, v1, v2, v3, v4, v5, v6, v7, v8, v9, .int .i64 0, .int .i64 0, .slice none 0 0] 76 (0, 0)) := blk_put h9 9 v9 rfl
 have t11 : TkS w o0 o1 o2 o3 (((((((((((W.setCell ⟨g, 0, none⟩ v0).setCell ⟨g, 1, none⟩ v1).setCell ⟨g, 2, none⟩ v2).setCell ⟨g, 3, none⟩ v3).setCell ⟨g, 4, none⟩ v4).setCell ⟨g, 5, none⟩ v5).setCell ⟨g, 6, none⟩ v6).setCell ⟨g, 7, none⟩ v7).setCell ⟨g, 8, none⟩ v8).setCell ⟨g, 9, none⟩ v9).setCell ⟨g, 10, none⟩ v10) := t10.put hg 10 v10
 have h11 : (((((((((((W.setCell ⟨g, 0, none⟩ v0).setCell ⟨g, 1, none⟩ v1).setCell ⟨g, 2, none⟩ v2).setCell ⟨g, 3, none⟩ v3).setCell ⟨g, 4, none⟩ v4).setCell ⟨g, 5, none⟩ v5).setCell ⟨g, 6, none⟩ v6).setCell ⟨g, 7, none⟩ v7).setCell ⟨g, 8, none⟩ v8).setCell ⟨g, 9, none⟩ v9).setCell ⟨g, 10, none⟩ v10).heap[g]? = some (.cells #[v0, v1, v2, v3, v4, v5, v6, v7, v8, v9, v10, .int .i64 0, .slice none 0 0] 76 (0, 0)) := blk_put h10 10 v10 rfl
 have t12 : TkS w o0 o1 o2 o3 ((((((((((((W.setCell ⟨g, 0, none⟩ v0).setCell ⟨g, 1, none⟩ v1).setCell ⟨g, 2, none⟩ v2).setCell ⟨g, 3, none⟩ v3).setCell ⟨g, 4, none⟩ v4).setCell ⟨g, 5, none⟩ v5).setCell ⟨g, 6, none⟩ v6).setCell ⟨g, 7, none⟩ v7).setCell ⟨g, 8, none⟩ v8).setCell ⟨g, 9, none⟩ v9).setCell ⟨g, 10, none⟩ v10).setCell ⟨g, 11, none⟩ v11) := t11.put hg 11 v11
 have h12 : ((((((((((((W.setCell ⟨g, 0, none⟩ v0).setCell ⟨g, 1, none⟩ v1).setCell ⟨g, 2, none⟩ v2).setCell ⟨g, 3, none⟩ v3).setCell ⟨g, 4, none⟩ v4).setCell ⟨g, 5, none⟩ v5).setCell ⟨g, 6, none⟩ v6).setCell ⟨g, 7, none⟩ v7).setCell ⟨g, 8, none⟩ v8).setCell ⟨g, 9, none⟩ v9).setCell ⟨g, 10, none⟩ v10).setCell ⟨g, 11, none⟩ v11).heap[g]? = some (.cells #[v0, v1, v2, v3, v4, v5, v6, v7, v8, v9, v10, v11, .slice none 0 0] 76 (0, 0)) := blk_put h11 11 v11 rfl
 have t13 : TkS w o0 o1 o2 o3 (((((((((((((W.setCell ⟨g, 0, none⟩ v0).setCell ⟨g, 1, none⟩ v1).setCell ⟨g, 2, none⟩ v2).setCell ⟨g, 3, none⟩ v3).setCell ⟨g, 4, none⟩ v4).setCell ⟨g, 5, none⟩ v5).setCell ⟨g, 6, none⟩ v6).setCell ⟨g, 7, none⟩ v7).setCell ⟨g, 8, none⟩ v8).setCell ⟨g, 9, none⟩ v9).setCell ⟨g, 10, none⟩ v10).setCell ⟨g, 11, none⟩ v11).setCell ⟨g, 12, none⟩ v12) := t12.put hg 12 v12
 have h13 : (((((((((((((W.setCell ⟨g, 0, none⟩ v0).setCell ⟨g, 1, none⟩ v1).setCell ⟨g, 2, none⟩ v2).setCell ⟨g, 3, none⟩ v3).setCell ⟨g, 4, none⟩ v4).setCell ⟨g, 5, none⟩ v5).setCell ⟨g, 6, none⟩ v6).setCell ⟨g, 7, none⟩ v7).setCell ⟨g, 8, none⟩ v8).setCell ⟨g, 9, none⟩ v9).setCell ⟨g, 10, none⟩ v10).setCell ⟨g, 11, none⟩ v11).setCell ⟨g, 12, none⟩ v12).heap[g]? = some (.cells #[v0, v1, v2, v3, v4, v5, v6, v7, v8, v9, v10, v11, v12] 76 (0, 0)) := blk_put h12 12 v12 rfl
 exact ⟨t13, h13⟩
theorem idle_eq (a0 a1 a2 a3 a4 a5 a6 a7 : Int) (l8 : List S62) (l9 : List S31) (a10 a11 : Int) (l12 : List Int) : session_call_idle.f a0 a1 a2 a3 a4 a5 a6 a7 l8 l9 a10 a11 l12 = some (a0, a1, a2, a3, [], false) := rfl
theorem any_nil {α : Type} (d : Kd α) (e : Nat) (W : World) (base : Nat) (ok : Nat → Prop) (A : Option Addr) (c : Nat) : Kd.V d e W base ok (.slice A 0 c) [] := ⟨A, c, rfl, Nat.zero_le _, fun W' _ => ⟨rfl, by simp, fun h => absurd h (Nat.lt_irrefl 0)⟩⟩
theorem take_end {w W : World} {tmps : Array Value} {r1 r2 r3 r4 : Int} {v : Value} {b : Bool} {l : List S45} {g : Nat}
  (p1 : W.heap[g]? = some (.cells #[.int .i64 r1, .int .i64 r2, .int .i64 r3, .int .i64 r4] 34 (0, 0)))
  (t2 : tmps[8]?.getD undef = .pointer (some ⟨g, 0, none⟩)) (t3 : tmps[9]?.getD undef = v) (t4 : tmps[10]?.getD undef = .bool b)
  (hv : Kd.V k45 45 W w.heap.size (fun k_ => w.heap.size ≤ k_) v l) (hb : Below w.heap.size w W) :
  bodyPost Tryd.prog Tryd.f16 (TkPost w (r1, r2, r3, r4, l, b)) Exit.ret { tmps := tmps, defers := [] } W := by
 have x0 : W.cell? ⟨g, 0, none⟩ = some (.int .i64 r1) := (blk_cell p1 0).trans rfl
 have x1 : W.cell? ⟨g, 1, none⟩ = some (.int .i64 r2) := (blk_cell p1 1).trans rfl
 have x2 : W.cell? ⟨g, 2, none⟩ = some (.int .i64 r3) := (blk_cell p1 2).trans rfl
 have x3 : W.cell? ⟨g, 3, none⟩ = some (.int .i64 r4) := (blk_cell p1 3).trans rfl
 obtain ⟨A, c, rfl, hc, hF⟩ := hv
 refine bodyPost_ret (v := .tuple #[.agg #[.int .i64 r1, .int .i64 r2, .int .i64 r3, .int .i64 r4], .slice A l.length c, .bool b]) ?_ rfl ⟨.slice A l.length c, rfl, ⟨A, c, rfl, hc, hF⟩, hb⟩
 simp [results, Tryd.results16, go_sem, t2, t3, t4, x0, x1, x2, x3]
theorem take_told {w W W1 : World} {tmps : Array Value} {r1 r2 r3 r4 : Int} {l : List S45} {v : Value} {b : Bool} (hB : Below w.heap.size w W) (hs : w.heap.size + 1 + 1 + 1 < W1.heap.size) (hZ : W.heap[w.heap.size + 1 + 1 + 1]? = some (.cells #[.int .i64 0, .int .i64 0, .int .i64 0, .int .i64 0] 34 (0, 0))) (hV : Kd.V k45 45 W W1.heap.size (fun k_ => W1.heap.size ≤ k_) v l)
  (t2 : tmps[8]?.getD undef = .pointer (some ⟨w.heap.size + 1 + 1 + 1, 0, none⟩)) (t3 : tmps[9]?.getD undef = v) (t4 : tmps[10]?.getD undef = .bool b) :
  bodyPost Tryd.prog Tryd.f16 (TkPost w (r1, r2, r3, r4, l, b)) Exit.ret { tmps := tmps, defers := [] } ((((W.setCell ⟨w.heap.size + 1 + 1 + 1, 0, none⟩ (.int .i64 r1)).setCell ⟨w.heap.size + 1 + 1 + 1, 1, none⟩ (.int .i64 r2)).setCell ⟨w.heap.size + 1 + 1 + 1, 2, none⟩ (.int .i64 r3)).setCell ⟨w.heap.size + 1 + 1 + 1, 3, none⟩ (.int .i64 r4)) := by
 obtain ⟨hq1, hq2, hq3, hq4⟩ := sess_puts hB (by omega) hZ (.int .i64 r1) (.int .i64 r2) (.int .i64 r3) (.int .i64 r4) rfl
 refine take_end hq1 t2 t3 t4 ?_ hq3
 obtain ⟨A, c, rfl, hc, hF⟩ := hV
 exact ⟨A, c, rfl, hc, Kd.F_mono (Kd.F_step hF (fun k hk hl => hq2 k (by have := hk; omega))) (fun k hk => by have := hk; omega)⟩
def TkF (w : World) (g : Nat) (a0_0 a0_1 a0_2 a0_3 a1_0 a1_1 a1_2 a1_3 : Int) (A1_4 : Option Addr) (c1_4 : Nat) (l1_4 : List S62) (A1_5 : Option Addr) (c1_5 : Nat) (l1_5 : List S31) (a2 a3_0 : Int) (A3_1 : Option Addr) (c3_1 : Nat) (l3_1 : List Int) (x0 x1 x2 x3 : Int) (W : World) : Prop := TkS w (.cells #[.int .i64 a0_0, .int .i64 a0_1, .int .i64 a0_2, .int .i64 a0_3] 34 (0, 0)) (.cells #[.int .i64 a1_0, .int .i64 a1_1, .int .i64 a1_2, .int .i64 a1_3, .slice A1_4 l1_4.length c1_4, .slice A1_5 l1_5.length c1_5] 26 (0, 0)) (.cells #[.int .i64 a3_0, .slice A3_1 l3_1.length c3_1] 45 (0, 0)) (.cells #[.int .i64 0, .int .i64 0, .int .i64 0, .int .i64 0] 34 (0, 0)) W ∧ W.heap[g]? = some (.cells #[.int .i64 x0, .int .i64 x1, .int .i64 x2, .int .i64 x3, .int .i64 a1_0, .int .i64 a1_1, .int .i64 a1_2, .int .i64 a1_3, .slice A1_4 l1_4.length c1_4, .slice A1_5 l1_5.length c1_5, .int .i64 a2, .int .i64 a3_0, .slice A3_1 l3_1.length c3_1] 76 (0, 0)) ∧ w.heap.size + 1 + 1 + 1 < g
theorem TkF.b {w : World} {g : Nat} {a0_0 a0_1 a0_2 a0_3 a1_0 a1_1 a1_2 a1_3 : Int} {A1_4 : Option Addr} {c1_4 : Nat} {l1_4 : List S62} {A1_5 : Option Addr} {c1_5 : Nat} {l1_5 : List S31} {a2 a3_0 : Int} {A3_1 : Option Addr} {c3_1 : Nat} {l3_1 : List Int} {x0 x1 x2 x3 : Int} {W : World} (h : TkF w g a0_0 a0_1 a0_2 a0_3 a1_0 a1_1 a1_2 a1_3 A1_4 c1_4 l1_4 A1_5 c1_5 l1_5 a2 a3_0 A3_1 c3_1 l3_1 x0 x1 x2 x3 W) : Below w.heap.size w W := h.1.b
theorem TkF.b3 {w : World} {g : Nat} {a0_0 a0_1 a0_2 a0_3 a1_0 a1_1 a1_2 a1_3 : Int} {A1_4 : Option Addr} {c1_4 : Nat} {l1_4 : List S62} {A1_5 : Option Addr} {c1_5 : Nat} {l1_5 : List S31} {a2 a3_0 : Int} {A3_1 : Option Addr} {c3_1 : Nat} {l3_1 : List Int} {x0 x1 x2 x3 : Int} {W : World} (h : TkF w g a0_0 a0_1 a0_2 a0_3 a1_0 a1_1 a1_2 a1_3 A1_4 c1_4 l1_4 A1_5 c1_5 l1_5 a2 a3_0 A3_1 c3_1 l3_1 x0 x1 x2 x3 W) : W.heap[w.heap.size + 1 + 1 + 1]? = some (.cells #[.int .i64 0, .int .i64 0, .int .i64 0, .int .i64 0] 34 (0, 0)) := h.1.b3
theorem TkF.below {w : World} {g : Nat} {a0_0 a0_1 a0_2 a0_3 a1_0 a1_1 a1_2 a1_3 : Int} {A1_4 : Option Addr} {c1_4 : Nat} {l1_4 : List S62} {A1_5 : Option Addr} {c1_5 : Nat} {l1_5 : List S31} {a2 a3_0 : Int} {A3_1 : Option Addr} {c3_1 : Nat} {l3_1 : List Int} {x0 x1 x2 x3 : Int} {W W' : World} (h : TkF w g a0_0 a0_1 a0_2 a0_3 a1_0 a1_1 a1_2 a1_3 A1_4 c1_4 l1_4 A1_5 c1_5 l1_5 a2 a3_0 A3_1 c3_1 l3_1 x0 x1 x2 x3 W) (hb : Below W.heap.size W W') : TkF w g a0_0 a0_1 a0_2 a0_3 a1_0 a1_1 a1_2 a1_3 A1_4 c1_4 l1_4 A1_5 c1_5 l1_5 a2 a3_0 A3_1 c3_1 l3_1 x0 x1 x2 x3 W' := ⟨h.1.below hb, blk_below h.2.1 hb, h.2.2⟩
theorem TkF.cells {w : World} {g : Nat} {a0_0 a0_1 a0_2 a0_3 a1_0 a1_1 a1_2 a1_3 : Int} {A1_4 : Option Addr} {c1_4 : Nat} {l1_4 : List S62} {A1_5 : Option Addr} {c1_5 : Nat} {l1_5 : List S31} {a2 a3_0 : Int} {A3_1 : Option Addr} {c3_1 : Nat} {l3_1 : List Int} {x0 x1 x2 x3 : Int} {W : World} (h : TkF w g a0_0 a0_1 a0_2 a0_3 a1_0 a1_1 a1_2 a1_3 A1_4 c1_4 l1_4 A1_5 c1_5 l1_5 a2 a3_0 A3_1 c3_1 l3_1 x0 x1 x2 x3 W) : W.cell? ⟨g, 0, none⟩ = some (.int .i64 x0) ∧ W.cell? ⟨g, 1, none⟩ = some (.int .i64 x1) ∧ W.cell? ⟨g, 2, none⟩ = some (.int .i64 x2) ∧ W.cell? ⟨g, 3, none⟩ = some (.int .i64 x3) ∧ W.cell? ⟨g, 4, none⟩ = some (.int .i64 a1_0) ∧ W.cell? ⟨g, 5, none⟩ = some (.int .i64 a1_1) ∧ W.cell? ⟨g, 6, none⟩ = some (.int .i64 a1_2) ∧ W.cell? ⟨g, 7, none⟩ = some (.int .i64 a1_3) ∧ W.cell? ⟨g, 8, none⟩ = some (.slice A1_4 l1_4.length c1_4) ∧ W.cell? ⟨g, 9, none⟩ = some (.slice A1_5 l1_5.length c1_5) ∧ W.cell? ⟨g, 10, none⟩ = some (.int .i64 a2) ∧ W.cell? ⟨g, 11, none⟩ = some (.int .i64 a3_0) ∧ W.cell? ⟨g, 12, none⟩ = some (.slice A3_1 l3_1.length c3_1) ∧ W.cell? ⟨w.heap.size + 1, 0, none⟩ = some (.int .i64 a1_0) ∧ W.cell? ⟨w.heap.size + 1, 1, none⟩ = some (.int .i64 a1_1) ∧ W.cell? ⟨w.heap.size + 1, 2, none⟩ = some (.int .i64 a1_2) ∧ W.cell? ⟨w.heap.size + 1, 3, none⟩ = some (.int .i64 a1_3) ∧ W.cell? ⟨w.heap.size + 1, 4, none⟩ = some (.slice A1_4 l1_4.length c1_4) ∧ W.cell? ⟨w.heap.size + 1, 5, none⟩ = some (.slice A1_5 l1_5.length c1_5) ∧ W.cell? ⟨w.heap.size + 1 + 1, 0, none⟩ = some (.int .i64 a3_0) ∧ W.cell? ⟨w.heap.size + 1 + 1, 1, none⟩ = some (.slice A3_1 l3_1.length c3_1) ∧ W.cell? ⟨w.heap.size + 1 + 1 + 1, 0, none⟩ = some (.int .i64 0) ∧ W.cell? ⟨w.heap.size + 1 + 1 + 1, 1, none⟩ = some (.int .i64 0) ∧ W.cell? ⟨w.heap.size + 1 + 1 + 1, 2, none⟩ = some (.int .i64 0) ∧ W.cell? ⟨w.heap.size + 1 + 1 + 1, 3, none⟩ = some (.int .i64 0) ∧ W.frozen? ⟨w.heap.size + 1 + 1 + 1, 0, none⟩ = false ∧ W.frozen? ⟨w.heap.size + 1 + 1 + 1, 1, none⟩ = false ∧ W.frozen? ⟨w.heap.size + 1 + 1 + 1, 2, none⟩ = false ∧ W.frozen? ⟨w.heap.size + 1 + 1 + 1, 3, none⟩ = false ∧ g < W.heap.size ∧ w.heap.size + 1 + 1 + 1 < W.heap.size := by
 obtain ⟨hT, hk, hg⟩ := h
 have h1 := hT.b1
 have h2 := hT.b2
 have h3 := hT.b3
 exact ⟨(blk_cell hk 0).trans rfl, (blk_cell hk 1).trans rfl, (blk_cell hk 2).trans rfl, (blk_cell hk 3).trans rfl, (blk_cell hk 4).trans rfl, (blk_cell hk 5).trans rfl, (blk_cell hk 6).trans rfl, (blk_cell hk 7).trans rfl, (blk_cell hk 8).trans rfl, (blk_cell hk 9).trans rfl, (blk_cell hk 10).trans rfl, (blk_cell hk 11).trans rfl, (blk_cell hk 12).trans rfl, (blk_cell h1 0).trans rfl, (blk_cell h1 1).trans rfl, (blk_cell h1 2).trans rfl, (blk_cell h1 3).trans rfl, (blk_cell h1 4).trans rfl, (blk_cell h1 5).trans rfl, (blk_cell h2 0).trans rfl, (blk_cell h2 1).trans rfl, (blk_cell h3 0).trans rfl, (blk_cell h3 1).trans rfl, (blk_cell h3 2).trans rfl, (blk_cell h3 3).trans rfl, blk_frozen h3 0, blk_frozen h3 1, blk_frozen h3 2, blk_frozen h3 3, blk_lt hk, blk_lt h3⟩
theorem TkE (w W w9 : World) (h : Below w.heap.size w W) (h3 : W.heap[w.heap.size + 1 + 1 + 1]? = some (.cells #[.int .i64 0, .int .i64 0, .int .i64 0, .int .i64 0] 34 (0, 0))) (hb : Below W.heap.size W w9) : (Below w.heap.size w w9 ∧ w9.heap[w.heap.size + 1 + 1 + 1]? = some (.cells #[.int .i64 0, .int .i64 0, .int .i64 0, .int .i64 0] 34 (0, 0)) ∧ w.heap.size + 1 + 1 + 1 < W.heap.size) ∧ w9.cell? ⟨w.heap.size + 1 + 1 + 1, 0, none⟩ = some (.int .i64 0) ∧ w9.cell? ⟨w.heap.size + 1 + 1 + 1, 1, none⟩ = some (.int .i64 0) ∧ w9.cell? ⟨w.heap.size + 1 + 1 + 1, 2, none⟩ = some (.int .i64 0) ∧ w9.cell? ⟨w.heap.size + 1 + 1 + 1, 3, none⟩ = some (.int .i64 0) ∧ w9.frozen? ⟨w.heap.size + 1 + 1 + 1, 0, none⟩ = false ∧ w9.frozen? ⟨w.heap.size + 1 + 1 + 1, 1, none⟩ = false ∧ w9.frozen? ⟨w.heap.size + 1 + 1 + 1, 2, none⟩ = false ∧ w9.frozen? ⟨w.heap.size + 1 + 1 + 1, 3, none⟩ = false := ⟨⟨below_step h hb, blk_below h3 hb, blk_lt h3⟩, (blk_cell (blk_below h3 hb) 0).trans rfl, (blk_cell (blk_below h3 hb) 1).trans rfl, (blk_cell (blk_below h3 hb) 2).trans rfl, (blk_cell (blk_below h3 hb) 3).trans rfl, blk_frozen (blk_below h3 hb) 0, blk_frozen (blk_below h3 hb) 1, blk_frozen (blk_below h3 hb) 2, blk_frozen (blk_below h3 hb) 3⟩
set_option maxHeartbeats 8000000 in
set_option maxRecDepth 100000 in
theorem take_region (a0_0 a0_1 a0_2 a0_3 a1_0 a1_1 a1_2 a1_3 : Int) (A1_4 : Option Addr) (c1_4 : Nat) (l1_4 : List S62) (A1_5 : Option Addr) (c1_5 : Nat) (l1_5 : List S31) (a2 a3_0 : Int) (A3_1 : Option Addr) (c3_1 : Nat) (l3_1 : List Int) (x0 x1 x2 x3 : Int) {Q : Exit → Act → World → Prop} (w : World) (hx : session_known.f a0_0 a0_1 a0_2 a0_3 = some (x0, x1, x2, x3))
  (hP : ∀ c (a : Act) (d : Tmp) (v : Value) (W : World), Q (.panic c) (a.put (some d) v) W → Q (.panic c) a W) (hQ : ∀ (g : Nat) (W2 : World), TkF w g a0_0 a0_1 a0_2 a0_3 a1_0 a1_1 a1_2 a1_3 A1_4 c1_4 l1_4 A1_5 c1_5 l1_5 a2 a3_0 A3_1 c3_1 l3_1 x0 x1 x2 x3 W2 → Q .normal { tmps := #[.agg #[.int .i64 a0_0, .int .i64 a0_1, .int .i64 a0_2, .int .i64 a0_3], .agg #[.int .i64 a1_0, .int .i64 a1_1, .int .i64 a1_2, .int .i64 a1_3, .slice A1_4 l1_4.length c1_4, .slice A1_5 l1_5.length c1_5], .int .i64 a2, .agg #[.int .i64 a3_0, .slice A3_1 l3_1.length c3_1], .pointer (some ⟨w.heap.size, 0, none⟩), .pointer (some ⟨w.heap.size + 1, 0, none⟩), undef, .pointer (some ⟨w.heap.size + 1 + 1, 0, none⟩), .pointer (some ⟨w.heap.size + 1 + 1 + 1, 0, none⟩), .slice none 0 0, .bool false, .pointer (some ⟨g, 0, none⟩), undef, .agg #[.int .i64 a0_0, .int .i64 a0_1, .int .i64 a0_2, .int .i64 a0_3], .agg #[.int .i64 x0, .int .i64 x1, .int .i64 x2, .int .i64 x3], .agg #[.int .i64 a1_0, .int .i64 a1_1, .int .i64 a1_2, .int .i64 a1_3, .slice A1_4 l1_4.length c1_4, .slice A1_5 l1_5.length c1_5], .int .i64 a2, .agg #[.int .i64 a3_0, .slice A3_1 l3_1.length c3_1], .agg #[.int .i64 x0, .int .i64 x1, .int .i64 x2, .int .i64 x3, .int .i64 a1_0, .int .i64 a1_1, .int .i64 a1_2, .int .i64 a1_3, .slice A1_4 l1_4.length c1_4, .slice A1_5 l1_5.length c1_5, .int .i64 a2, .int .i64 a3_0, .slice A3_1 l3_1.length c3_1], undef, undef, undef, undef, undef, undef, undef, undef, undef, undef, undef, undef, undef, undef, undef, undef, undef, undef, undef, undef, undef, undef, undef, undef, undef, undef, undef, undef, undef, undef, undef, undef, undef, undef, undef, undef, undef], defers := [] } W2) :
  (Code.region 1 #[{ dst := some 13, op := Op.load 34 (Operand.tmp 4), type := 34, pos := "session.go:152", after := #[], guard := none }, { dst := some 14, op := Op.call { callee := Callee.value (Operand.func 25), args := #[Operand.tmp 13], argTypes := #[34] }, type := 34, pos := "session.go:152", after := #[{ on := 0, ground := Ground.data }], guard := none }, { dst := some 15, op := Op.load 26 (Operand.tmp 5), type := 26, pos := "session.go:152", after := #[], guard := none }, { dst := some 16, op := Op.move (Operand.tmp 2), type := 3, pos := "session.go:152", after := #[], guard := none }, { dst := some 17, op := Op.load 45 (Operand.tmp 7), type := 45, pos := "session.go:152", after := #[], guard := none }, { dst := some 18, op := Op.build 76 #[(0, Operand.tmp 14), (1, Operand.tmp 15), (2, Operand.tmp 16), (3, Operand.tmp 17)], type := 76, pos := "session.go:152", after := #[{ on := 1, ground := Ground.data }, { on := 2, ground := Ground.data }, { on := 3, ground := Ground.data }, { on := 4, ground := Ground.data }], guard := none }, { dst := some 11, op := Op.alloc 76, type := 0, pos := "session.go:152", after := #[], guard := none }, { dst := none, op := Op.store 76 (Operand.tmp 11) (Operand.tmp 18), type := 0, pos := "session.go:152", after := #[{ on := 6, ground := Ground.data }, { on := 5, ground := Ground.data }, { on := 1, ground := Ground.chain }, { on := 0, ground := Ground.phase }, { on := 1, ground := Ground.phase }, { on := 2, ground := Ground.phase }, { on := 3, ground := Ground.phase }, { on := 4, ground := Ground.phase }, { on := 5, ground := Ground.phase }, { on := 6, ground := Ground.phase }], guard := none }] true).wp Tryd.prog Q { tmps := #[.agg #[.int .i64 a0_0, .int .i64 a0_1, .int .i64 a0_2, .int .i64 a0_3], .agg #[.int .i64 a1_0, .int .i64 a1_1, .int .i64 a1_2, .int .i64 a1_3, .slice A1_4 l1_4.length c1_4, .slice A1_5 l1_5.length c1_5], .int .i64 a2, .agg #[.int .i64 a3_0, .slice A3_1 l3_1.length c3_1], .pointer (some ⟨w.heap.size, 0, none⟩), .pointer (some ⟨w.heap.size + 1, 0, none⟩), undef, .pointer (some ⟨w.heap.size + 1 + 1, 0, none⟩), .pointer (some ⟨w.heap.size + 1 + 1 + 1, 0, none⟩), .slice none 0 0, .bool false, undef, undef, undef, undef, undef, undef, undef, undef, undef, undef, undef, undef, undef, undef, undef, undef, undef, undef, undef, undef, undef, undef, undef, undef, undef, undef, undef, undef, undef, undef, undef, undef, undef, undef, undef, undef, undef, undef, undef, undef, undef, undef, undef, undef, undef], defers := [] } ((((w.alloc (.cells #[.int .i64 a0_0, .int .i64 a0_1, .int .i64 a0_2, .int .i64 a0_3] 34)).alloc (.cells #[.int .i64 a1_0, .int .i64 a1_1, .int .i64 a1_2, .int .i64 a1_3, .slice A1_4 l1_4.length c1_4, .slice A1_5 l1_5.length c1_5] 26)).alloc (.cells #[.int .i64 a3_0, .slice A3_1 l3_1.length c3_1] 45)).alloc (.cells #[.int .i64 0, .int .i64 0, .int .i64 0, .int .i64 0] 34)) := by
 have HX := Aside0.mk hx
 have HQ := Aside0.mk hQ
 have HP := Aside0.mk hP
 have HS0 := Aside0.mk (TkS.start w (.cells #[.int .i64 a0_0, .int .i64 a0_1, .int .i64 a0_2, .int .i64 a0_3] 34) (.cells #[.int .i64 a1_0, .int .i64 a1_1, .int .i64 a1_2, .int .i64 a1_3, .slice A1_4 l1_4.length c1_4, .slice A1_5 l1_5.length c1_5] 26) (.cells #[.int .i64 a3_0, .slice A3_1 l3_1.length c3_1] 45) (.cells #[.int .i64 0, .int .i64 0, .int .i64 0, .int .i64 0] 34))
 have HZ := Aside0.mk (show ((((((w.alloc (.cells #[.int .i64 a0_0, .int .i64 a0_1, .int .i64 a0_2, .int .i64 a0_3] 34)).alloc (.cells #[.int .i64 a1_0, .int .i64 a1_1, .int .i64 a1_2, .int .i64 a1_3, .slice A1_4 l1_4.length c1_4, .slice A1_5 l1_5.length c1_5] 26)).alloc (.cells #[.int .i64 a3_0, .slice A3_1 l3_1.length c3_1] 45)).alloc (.cells #[.int .i64 0, .int .i64 0, .int .i64 0, .int .i64 0] 34)).alloc (.cells #[.int .i64 0, .int .i64 0, .int .i64 0, .int .i64 0, .int .i64 0, .int .i64 0, .int .i64 0, .int .i64 0, .slice none 0 0, .slice none 0 0, .int .i64 0, .int .i64 0, .slice none 0 0] 76)).drew).heap[w.heap.size + 1 + 1 + 1 + 1]? = some (.cells #[.int .i64 0, .int .i64 0, .int .i64 0, .int .i64 0, .int .i64 0, .int .i64 0, .int .i64 0, .int .i64 0, .slice none 0 0, .slice none 0 0, .int .i64 0, .int .i64 0, .slice none 0 0] 76 (0, 0)) from by
  have h2 := heap_alloc_new (((((w.alloc (.cells #[.int .i64 a0_0, .int .i64 a0_1, .int .i64 a0_2, .int .i64 a0_3] 34)).alloc (.cells #[.int .i64 a1_0, .int .i64 a1_1, .int .i64 a1_2, .int .i64 a1_3, .slice A1_4 l1_4.length c1_4, .slice A1_5 l1_5.length c1_5] 26)).alloc (.cells #[.int .i64 a3_0, .slice A3_1 l3_1.length c3_1] 45)).alloc (.cells #[.int .i64 0, .int .i64 0, .int .i64 0, .int .i64 0] 34))) (.cells #[.int .i64 0, .int .i64 0, .int .i64 0, .int .i64 0, .int .i64 0, .int .i64 0, .int .i64 0, .int .i64 0, .slice none 0 0, .slice none 0 0, .int .i64 0, .int .i64 0, .slice none 0 0] 76)
  have hsz : (((((w.alloc (.cells #[.int .i64 a0_0, .int .i64 a0_1, .int .i64 a0_2, .int .i64 a0_3] 34)).alloc (.cells #[.int .i64 a1_0, .int .i64 a1_1, .int .i64 a1_2, .int .i64 a1_3, .slice A1_4 l1_4.length c1_4, .slice A1_5 l1_5.length c1_5] 26)).alloc (.cells #[.int .i64 a3_0, .slice A3_1 l3_1.length c3_1] 45)).alloc (.cells #[.int .i64 0, .int .i64 0, .int .i64 0, .int .i64 0] 34))).heap.size = w.heap.size + 1 + 1 + 1 + 1 := by show (((((w.alloc (.cells #[.int .i64 a0_0, .int .i64 a0_1, .int .i64 a0_2, .int .i64 a0_3] 34)).alloc (.cells #[.int .i64 a1_0, .int .i64 a1_1, .int .i64 a1_2, .int .i64 a1_3, .slice A1_4 l1_4.length c1_4, .slice A1_5 l1_5.length c1_5] 26)).alloc (.cells #[.int .i64 a3_0, .slice A3_1 l3_1.length c3_1] 45)).alloc (.cells #[.int .i64 0, .int .i64 0, .int .i64 0, .int .i64 0] 34))).heap.size = _; rw [World.size_alloc, World.size_alloc, World.size_alloc, World.size_alloc]
  rwa [hsz] at h2)
 clear hx hQ hP
 obtain ⟨S, hSe⟩ : ∃ S : World → Prop, ∀ W, S W = TkS w (.cells #[.int .i64 a0_0, .int .i64 a0_1, .int .i64 a0_2, .int .i64 a0_3] 34 (0, 0)) (.cells #[.int .i64 a1_0, .int .i64 a1_1, .int .i64 a1_2, .int .i64 a1_3, .slice A1_4 l1_4.length c1_4, .slice A1_5 l1_5.length c1_5] 26 (0, 0)) (.cells #[.int .i64 a3_0, .slice A3_1 l3_1.length c3_1] 45 (0, 0)) (.cells #[.int .i64 0, .int .i64 0, .int .i64 0, .int .i64 0] 34 (0, 0)) W := ⟨TkS w (.cells #[.int .i64 a0_0, .int .i64 a0_1, .int .i64 a0_2, .int .i64 a0_3] 34 (0, 0)) (.cells #[.int .i64 a1_0, .int .i64 a1_1, .int .i64 a1_2, .int .i64 a1_3, .slice A1_4 l1_4.length c1_4, .slice A1_5 l1_5.length c1_5] 26 (0, 0)) (.cells #[.int .i64 a3_0, .slice A3_1 l3_1.length c3_1] 45 (0, 0)) (.cells #[.int .i64 0, .int .i64 0, .int .i64 0, .int .i64 0] 34 (0, 0)), fun _ => rfl⟩
 refine wp_region_held (S := S) (by kernel_rfl) ?_
 change wpAnyH _ _ _ _ _ _ _ _ ((((w.alloc (.cells #[.int .i64 a0_0, .int .i64 a0_1, .int .i64 a0_2, .int .i64 a0_3] 34)).alloc (.cells #[.int .i64 a1_0, .int .i64 a1_1, .int .i64 a1_2, .int .i64 a1_3, .slice A1_4 l1_4.length c1_4, .slice A1_5 l1_5.length c1_5] 26)).alloc (.cells #[.int .i64 a3_0, .slice A3_1 l3_1.length c3_1] 45)).alloc (.cells #[.int .i64 0, .int .i64 0, .int .i64 0, .int .i64 0] 34)).drew
 have hS : S ((((w.alloc (.cells #[.int .i64 a0_0, .int .i64 a0_1, .int .i64 a0_2, .int .i64 a0_3] 34)).alloc (.cells #[.int .i64 a1_0, .int .i64 a1_1, .int .i64 a1_2, .int .i64 a1_3, .slice A1_4 l1_4.length c1_4, .slice A1_5 l1_5.length c1_5] 26)).alloc (.cells #[.int .i64 a3_0, .slice A3_1 l3_1.length c3_1] 45)).alloc (.cells #[.int .i64 0, .int .i64 0, .int .i64 0, .int .i64 0] 34)).drew := by rw [hSe]; exact HS0.out.drew
 refine wpAnyH_take (i := 0) (oi := { dst := some 13, op := Op.load 34 (Operand.tmp 4), type := 34, pos := "session.go:152", after := #[], guard := none }) (v := ?vv1) rfl (by kernel_rfl) (by kernel_rfl) (by kernel_rfl) (fun c a W h => HP.out c a _ _ W h) (Or.inl ⟨by rfl, ?hy1⟩) hS ?rest1
 case hy1 => (intro W hSw; rw [hSe] at hSw; have hq_ := hSw.2.1; have o0_ : W.cell? ⟨w.heap.size, 0, none⟩ = some (.int .i64 a0_0) := (blk_cell hq_ 0).trans rfl; have o1_ : W.cell? ⟨w.heap.size, 1, none⟩ = some (.int .i64 a0_1) := (blk_cell hq_ 1).trans rfl; have o2_ : W.cell? ⟨w.heap.size, 2, none⟩ = some (.int .i64 a0_2) := (blk_cell hq_ 2).trans rfl; have o3_ : W.cell? ⟨w.heap.size, 3, none⟩ = some (.int .i64 a0_3) := (blk_cell hq_ 3).trans rfl; go_simp; try with_reducible rfl)
 try simp only [Act.put, sA, sB, sC]
 refine wpAnyH_take (i := 2) (oi := { dst := some 15, op := Op.load 26 (Operand.tmp 5), type := 26, pos := "session.go:152", after := #[], guard := none }) (v := ?vv2) rfl (by kernel_rfl) (by kernel_rfl) (by kernel_rfl) (fun c a W h => HP.out c a _ _ W h) (Or.inl ⟨by rfl, ?hy2⟩) hS ?rest2
 case hy2 => (intro W hSw; rw [hSe] at hSw; have hq_ := hSw.2.2.1; have c0_ : W.cell? ⟨w.heap.size + 1, 0, none⟩ = some (.int .i64 a1_0) := (blk_cell hq_ 0).trans rfl; have c1_ : W.cell? ⟨w.heap.size + 1, 1, none⟩ = some (.int .i64 a1_1) := (blk_cell hq_ 1).trans rfl; have c2_ : W.cell? ⟨w.heap.size + 1, 2, none⟩ = some (.int .i64 a1_2) := (blk_cell hq_ 2).trans rfl; have c3_ : W.cell? ⟨w.heap.size + 1, 3, none⟩ = some (.int .i64 a1_3) := (blk_cell hq_ 3).trans rfl; have c4_ : W.cell? ⟨w.heap.size + 1, 4, none⟩ = some (.slice A1_4 l1_4.length c1_4) := (blk_cell hq_ 4).trans rfl; have c5_ : W.cell? ⟨w.heap.size + 1, 5, none⟩ = some (.slice A1_5 l1_5.length c1_5) := (blk_cell hq_ 5).trans rfl; go_simp; try with_reducible rfl)
 try simp only [Act.put, sA, sB, sC]
 refine wpAnyH_take (i := 3) (oi := { dst := some 16, op := Op.move (Operand.tmp 2), type := 3, pos := "session.go:152", after := #[], guard := none }) (v := ?vv3) rfl (by kernel_rfl) (by kernel_rfl) (by kernel_rfl) (fun c a W h => HP.out c a _ _ W h) (Or.inl ⟨by rfl, ?hy3⟩) hS ?rest3
 case hy3 => (intro W hSw; skip; go_simp; try with_reducible rfl)
 try simp only [Act.put, sA, sB, sC]
 refine wpAnyH_take (i := 4) (oi := { dst := some 17, op := Op.load 45 (Operand.tmp 7), type := 45, pos := "session.go:152", after := #[], guard := none }) (v := ?vv4) rfl (by kernel_rfl) (by kernel_rfl) (by kernel_rfl) (fun c a W h => HP.out c a _ _ W h) (Or.inl ⟨by rfl, ?hy4⟩) hS ?rest4
 case hy4 => (intro W hSw; rw [hSe] at hSw; have hq_ := hSw.2.2.2.1; have m0_ : W.cell? ⟨w.heap.size + 1 + 1, 0, none⟩ = some (.int .i64 a3_0) := (blk_cell hq_ 0).trans rfl; have m1_ : W.cell? ⟨w.heap.size + 1 + 1, 1, none⟩ = some (.slice A3_1 l3_1.length c3_1) := (blk_cell hq_ 1).trans rfl; go_simp; try with_reducible rfl)
 try simp only [Act.put, sA, sB, sC]
 refine wpAnyH_ready (rs := [1, 6]) (by kernel_rfl) (by simp) ?_
 refine AllReadyH.cons (o := { dst := some 14, op := Op.call { callee := Callee.value (Operand.func 25), args := #[Operand.tmp 13], argTypes := #[34] }, type := 34, pos := "session.go:152", after := #[{ on := 0, ground := Ground.data }], guard := none }) rfl (fun K hK => ?_) (AllReadyH.cons (o := { dst := some 11, op := Op.alloc 76, type := 0, pos := "session.go:152", after := #[], guard := none }) rfl (fun K hK => ?_) AllReadyH.nil)
 ·
  have hh := session_known.calls a0_0 a0_1 a0_2 a0_3 x0 x1 x2 x3 ((((w.alloc (.cells #[.int .i64 a0_0, .int .i64 a0_1, .int .i64 a0_2, .int .i64 a0_3] 34)).alloc (.cells #[.int .i64 a1_0, .int .i64 a1_1, .int .i64 a1_2, .int .i64 a1_3, .slice A1_4 l1_4.length c1_4, .slice A1_5 l1_5.length c1_5] 26)).alloc (.cells #[.int .i64 a3_0, .slice A3_1 l3_1.length c3_1] 45)).alloc (.cells #[.int .i64 0, .int .i64 0, .int .i64 0, .int .i64 0] 34)).drew HX.out
  go_wp2_with (first | (go_at_call 25; (with_reducible refine hh.mono ?_); clear hh; rintro e w1 ⟨rfl, hb1⟩))
  have HS1 := Aside0.mk (HS0.out.drew.below hb1)
  have hlw : w.heap.size + 1 + 1 + 1 < w1.heap.size := blk_lt HS1.out.2.2.2.2
  clear hb1
  refine hK.out _ _ ?_ (fun hS => ?_)
  ·
   rw [hSe]; exact HS1.out
  clear hK K
  try simp only [Act.put, sA, sB, sC]
  refine wpAnyH_take (i := 5) (oi := { dst := some 18, op := Op.build 76 #[(0, Operand.tmp 14), (1, Operand.tmp 15), (2, Operand.tmp 16), (3, Operand.tmp 17)], type := 76, pos := "session.go:152", after := #[{ on := 1, ground := Ground.data }, { on := 2, ground := Ground.data }, { on := 3, ground := Ground.data }, { on := 4, ground := Ground.data }], guard := none }) (v := ?vv5) rfl (by kernel_rfl) (by kernel_rfl) (by kernel_rfl) (fun c a W h => HP.out c a _ _ W h) (Or.inl ⟨by rfl, ?hy5⟩) hS ?rest5
  case hy5 => (intro W hSw; skip; go_simp; try with_reducible rfl)
  try simp only [Act.put, sA, sB, sC]
  refine wpAnyH_ready (rs := [6]) (by kernel_rfl) (by simp) ?_
  refine AllReadyH.cons (o := { dst := some 11, op := Op.alloc 76, type := 0, pos := "session.go:152", after := #[], guard := none }) rfl (fun K hK => ?_) AllReadyH.nil
  go_simp
  refine hK.out _ _ ?_ (fun hS => ?_)
  ·
   rw [hSe]; exact HS1.out.alloc _
  clear hK K
  try simp only [Act.put, sA, sB, sC]
  refine wpAnyH_ready (rs := [7]) (by kernel_rfl) (by simp) ?_
  refine AllReadyH.cons (o := { dst := none, op := Op.store 76 (Operand.tmp 11) (Operand.tmp 18), type := 0, pos := "session.go:152", after := #[{ on := 6, ground := Ground.data }, { on := 5, ground := Ground.data }, { on := 1, ground := Ground.chain }, { on := 0, ground := Ground.phase }, { on := 1, ground := Ground.phase }, { on := 2, ground := Ground.phase }, { on := 3, ground := Ground.phase }, { on := 4, ground := Ground.phase }, { on := 5, ground := Ground.phase }, { on := 6, ground := Ground.phase }], guard := none }) rfl (fun K hK => ?_) AllReadyH.nil
  go_simp
  have HT0 := HS1.out.alloc (.cells #[.int .i64 x0, .int .i64 x1, .int .i64 x2, .int .i64 x3, .int .i64 a1_0, .int .i64 a1_1, .int .i64 a1_2, .int .i64 a1_3, .slice A1_4 l1_4.length c1_4, .slice A1_5 l1_5.length c1_5, .int .i64 a2, .int .i64 a3_0, .slice A3_1 l3_1.length c3_1] 76)
  have hk0 := heap_alloc_new w1 (.cells #[.int .i64 x0, .int .i64 x1, .int .i64 x2, .int .i64 x3, .int .i64 a1_0, .int .i64 a1_1, .int .i64 a1_2, .int .i64 a1_3, .slice A1_4 l1_4.length c1_4, .slice A1_5 l1_5.length c1_5, .int .i64 a2, .int .i64 a3_0, .slice A3_1 l3_1.length c3_1] 76)
  refine hK.out _ _ ?_ (fun hS => ?_)
  ·
   rw [hSe]; exact HT0
  clear hK K
  try simp only [Act.put, sA, sB, sC]
  refine wpAnyH_done (by kernel_rfl) ?_ _
  exact HQ.out w1.heap.size _ ⟨HT0, hk0, hlw⟩
 ·
  go_simp
  refine hK.out _ _ ?_ (fun hS => ?_)
  ·
   rw [hSe]; exact (HS0.out.alloc _).drew
  clear hK K
  try simp only [Act.put, sA, sB, sC]
  refine wpAnyH_ready (rs := [1]) (by kernel_rfl) (by simp) ?_
  refine AllReadyH.cons (o := { dst := some 14, op := Op.call { callee := Callee.value (Operand.func 25), args := #[Operand.tmp 13], argTypes := #[34] }, type := 34, pos := "session.go:152", after := #[{ on := 0, ground := Ground.data }], guard := none }) rfl (fun K hK => ?_) AllReadyH.nil
  have hh := session_known.calls a0_0 a0_1 a0_2 a0_3 x0 x1 x2 x3 (((((w.alloc (.cells #[.int .i64 a0_0, .int .i64 a0_1, .int .i64 a0_2, .int .i64 a0_3] 34)).alloc (.cells #[.int .i64 a1_0, .int .i64 a1_1, .int .i64 a1_2, .int .i64 a1_3, .slice A1_4 l1_4.length c1_4, .slice A1_5 l1_5.length c1_5] 26)).alloc (.cells #[.int .i64 a3_0, .slice A3_1 l3_1.length c3_1] 45)).alloc (.cells #[.int .i64 0, .int .i64 0, .int .i64 0, .int .i64 0] 34)).alloc (.cells #[.int .i64 0, .int .i64 0, .int .i64 0, .int .i64 0, .int .i64 0, .int .i64 0, .int .i64 0, .int .i64 0, .slice none 0 0, .slice none 0 0, .int .i64 0, .int .i64 0, .slice none 0 0] 76)).drew HX.out
  go_wp2_with (first | (go_at_call 25; (with_reducible refine hh.mono ?_); clear hh; rintro e w1 ⟨rfl, hb1⟩))
  have HS1 := Aside0.mk ((HS0.out.alloc (.cells #[.int .i64 0, .int .i64 0, .int .i64 0, .int .i64 0, .int .i64 0, .int .i64 0, .int .i64 0, .int .i64 0, .slice none 0 0, .slice none 0 0, .int .i64 0, .int .i64 0, .slice none 0 0] 76)).drew.below hb1)
  have h76 := blk_below HZ.out hb1
  have z0 : w1.cell? ⟨w.heap.size + 1 + 1 + 1 + 1, 0, none⟩ = some (.int .i64 0) := (blk_cell h76 0).trans rfl; have z1 : w1.cell? ⟨w.heap.size + 1 + 1 + 1 + 1, 1, none⟩ = some (.int .i64 0) := (blk_cell h76 1).trans rfl; have z2 : w1.cell? ⟨w.heap.size + 1 + 1 + 1 + 1, 2, none⟩ = some (.int .i64 0) := (blk_cell h76 2).trans rfl; have z3 : w1.cell? ⟨w.heap.size + 1 + 1 + 1 + 1, 3, none⟩ = some (.int .i64 0) := (blk_cell h76 3).trans rfl; have z4 : w1.cell? ⟨w.heap.size + 1 + 1 + 1 + 1, 4, none⟩ = some (.int .i64 0) := (blk_cell h76 4).trans rfl; have z5 : w1.cell? ⟨w.heap.size + 1 + 1 + 1 + 1, 5, none⟩ = some (.int .i64 0) := (blk_cell h76 5).trans rfl; have z6 : w1.cell? ⟨w.heap.size + 1 + 1 + 1 + 1, 6, none⟩ = some (.int .i64 0) := (blk_cell h76 6).trans rfl; have z7 : w1.cell? ⟨w.heap.size + 1 + 1 + 1 + 1, 7, none⟩ = some (.int .i64 0) := (blk_cell h76 7).trans rfl; have z8 : w1.cell? ⟨w.heap.size + 1 + 1 + 1 + 1, 8, none⟩ = some (.slice none 0 0) := (blk_cell h76 8).trans rfl; have z9 : w1.cell? ⟨w.heap.size + 1 + 1 + 1 + 1, 9, none⟩ = some (.slice none 0 0) := (blk_cell h76 9).trans rfl; have z10 : w1.cell? ⟨w.heap.size + 1 + 1 + 1 + 1, 10, none⟩ = some (.int .i64 0) := (blk_cell h76 10).trans rfl; have z11 : w1.cell? ⟨w.heap.size + 1 + 1 + 1 + 1, 11, none⟩ = some (.int .i64 0) := (blk_cell h76 11).trans rfl; have z12 : w1.cell? ⟨w.heap.size + 1 + 1 + 1 + 1, 12, none⟩ = some (.slice none 0 0) := (blk_cell h76 12).trans rfl
  have f0 := blk_frozen h76 0; have f1 := blk_frozen h76 1; have f2 := blk_frozen h76 2; have f3 := blk_frozen h76 3; have f4 := blk_frozen h76 4; have f5 := blk_frozen h76 5; have f6 := blk_frozen h76 6; have f7 := blk_frozen h76 7; have f8 := blk_frozen h76 8; have f9 := blk_frozen h76 9; have f10 := blk_frozen h76 10; have f11 := blk_frozen h76 11; have f12 := blk_frozen h76 12
  have H76 := Aside0.mk h76
  clear hb1 h76
  refine hK.out _ _ ?_ (fun hS => ?_)
  ·
   rw [hSe]; exact HS1.out
  clear hK K
  try simp only [Act.put, sA, sB, sC]
  refine wpAnyH_take (i := 5) (oi := { dst := some 18, op := Op.build 76 #[(0, Operand.tmp 14), (1, Operand.tmp 15), (2, Operand.tmp 16), (3, Operand.tmp 17)], type := 76, pos := "session.go:152", after := #[{ on := 1, ground := Ground.data }, { on := 2, ground := Ground.data }, { on := 3, ground := Ground.data }, { on := 4, ground := Ground.data }], guard := none }) (v := ?vv6) rfl (by kernel_rfl) (by kernel_rfl) (by kernel_rfl) (fun c a W h => HP.out c a _ _ W h) (Or.inl ⟨by rfl, ?hy6⟩) hS ?rest6
  case hy6 => (intro W hSw; skip; go_simp; try with_reducible rfl)
  try simp only [Act.put, sA, sB, sC]
  refine wpAnyH_ready (rs := [7]) (by kernel_rfl) (by simp) ?_
  refine AllReadyH.cons (o := { dst := none, op := Op.store 76 (Operand.tmp 11) (Operand.tmp 18), type := 0, pos := "session.go:152", after := #[{ on := 6, ground := Ground.data }, { on := 5, ground := Ground.data }, { on := 1, ground := Ground.chain }, { on := 0, ground := Ground.phase }, { on := 1, ground := Ground.phase }, { on := 2, ground := Ground.phase }, { on := 3, ground := Ground.phase }, { on := 4, ground := Ground.phase }, { on := 5, ground := Ground.phase }, { on := 6, ground := Ground.phase }], guard := none }) rfl (fun K hK => ?_) AllReadyH.nil
  go_simp
  have hz4_ : w.heap.size + 1 + 1 + 1 < w.heap.size + 1 + 1 + 1 + 1 := by omega
  obtain ⟨HT0, hk0⟩ := put13 HS1.out hz4_ H76.out (.int .i64 x0) (.int .i64 x1) (.int .i64 x2) (.int .i64 x3) (.int .i64 a1_0) (.int .i64 a1_1) (.int .i64 a1_2) (.int .i64 a1_3) (.slice A1_4 l1_4.length c1_4) (.slice A1_5 l1_5.length c1_5) (.int .i64 a2) (.int .i64 a3_0) (.slice A3_1 l3_1.length c3_1)
  refine hK.out _ _ ?_ (fun hS => ?_)
  ·
   rw [hSe]; exact HT0
  clear hK K
  try simp only [Act.put, sA, sB, sC]
  refine wpAnyH_done (by kernel_rfl) ?_ _
  exact HQ.out (w.heap.size + 1 + 1 + 1 + 1) _ ⟨HT0, hk0, hz4_⟩
set_option maxHeartbeats 8000000 in
set_option maxRecDepth 100000 in
theorem take_i (a0_0 a0_1 a0_2 a0_3 a1_0 a1_1 a1_2 a1_3 : Int) (A1_4 : Option Addr) (c1_4 : Nat) (l1_4 : List S62) (A1_5 : Option Addr) (c1_5 : Nat) (l1_5 : List S31) (a2 a3_0 : Int) (A3_1 : Option Addr) (c3_1 : Nat) (l3_1 : List Int) (x0 x1 x2 x3 : Int) (R : TkR) (w : World) (hx : session_known.f a0_0 a0_1 a0_2 a0_3 = some (x0, x1, x2, x3))
  (hr4 : Kd.C k62 w A1_4 l1_4.length l1_4) (hc4 : l1_4.length ≤ c1_4) (hr5 : Kd.C k31 w A1_5 l1_5.length l1_5) (hc5 : l1_5.length ≤ c1_5) (hr1 : Kd.C (Kd.int .u8) w A3_1 l3_1.length l3_1) (hc1 : l3_1.length ≤ c3_1) (hG : GOK w) (x0n : x0 = 0) (hRR : R = (x0, x1, x2, x3, [], false)) :
  Calls Tryd.prog 16 #[.agg #[.int .i64 a0_0, .int .i64 a0_1, .int .i64 a0_2, .int .i64 a0_3], .agg #[.int .i64 a1_0, .int .i64 a1_1, .int .i64 a1_2, .int .i64 a1_3, .slice A1_4 l1_4.length c1_4, .slice A1_5 l1_5.length c1_5], .int .i64 a2, .agg #[.int .i64 a3_0, .slice A3_1 l3_1.length c3_1]] w (TkPost w R) := by
 have HR := Aside0.mk (And.intro hr4 (And.intro hr5 hr1))
 have HC := Aside0.mk (And.intro hc4 (And.intro hc5 hc1))
 have HGK := Aside0.mk hG
 have HXX := Aside0.mk hx
 clear hx hr4 hc4 hr5 hc5 hr1 hc1 hG
 have e0_ : (x0 == 0) = true := by simp [x0n]
 clear x0n
 subst hRR
 have HID := Aside0.mk (idle_eq x0 x1 x2 x3 a1_0 a1_1 a1_2 a1_3 l1_4 l1_5 a2 a3_0 l3_1)
 go_enter Tryd.func16, Tryd.ntmps16
 go_wp2
 refine take_region a0_0 a0_1 a0_2 a0_3 a1_0 a1_1 a1_2 a1_3 A1_4 c1_4 l1_4 A1_5 c1_5 l1_5 a2 a3_0 A3_1 c3_1 l3_1 x0 x1 x2 x3 w HXX.out (fun _ _ _ _ _ h => h) (fun g W2 HF => ?_)
 have HT := Aside0.mk HF
 clear HF
 obtain ⟨k2_0, k2_1, k2_2, k2_3, k2_4, k2_5, k2_6, k2_7, k2_8, k2_9, k2_10, k2_11, k2_12, k2_13, k2_14, k2_15, k2_16, k2_17, k2_18, k2_19, k2_20, k2_21, k2_22, k2_23, k2_24, k2_25, k2_26, k2_27, k2_28, k2_29, k2_30⟩ := TkF.cells HT.out
 go_wp2_with (first | (go_at_call 32; (with_reducible refine (session_call_idle.calls x0 x1 x2 x3 a1_0 a1_1 a1_2 a1_3 A1_4 c1_4 l1_4 A1_5 c1_5 l1_5 a2 a3_0 A3_1 c3_1 l3_1 x0 x1 x2 x3 [] false _ (Kd.C_below HR.out.1 HT.out.b) HC.out.1 (Kd.C_below HR.out.2.1 HT.out.b) HC.out.2.1 (Kd.C_below HR.out.2.2 HT.out.b) HC.out.2.2 HID.out).mono ?_); rintro e w9 ⟨v4, rfl, hv4, hb_⟩; obtain ⟨A9, c9, rfl⟩ := Kd.S_slice hv4; clear hv4; obtain ⟨he_, ke0, ke1, ke2, ke3, ke4, ke5, ke6, ke7⟩ := TkE w W2 w9 HT.out.b HT.out.b3 hb_; have HE := Aside0.mk he_; clear he_ hb_))
 exact take_told HE.out.1 HE.out.2.2 HE.out.2.1 (any_nil _ _ _ _ _ _ _) rfl rfl rfl
set_option maxHeartbeats 8000000 in
set_option maxRecDepth 100000 in
theorem take_ii (a0_0 a0_1 a0_2 a0_3 a1_0 a1_1 a1_2 a1_3 : Int) (A1_4 : Option Addr) (c1_4 : Nat) (l1_4 : List S62) (A1_5 : Option Addr) (c1_5 : Nat) (l1_5 : List S31) (a2 a3_0 : Int) (A3_1 : Option Addr) (c3_1 : Nat) (l3_1 : List Int) (x0 x1 x2 x3 : Int) (R : TkR) (w : World) (hx : session_known.f a0_0 a0_1 a0_2 a0_3 = some (x0, x1, x2, x3))
  (hr4 : Kd.C k62 w A1_4 l1_4.length l1_4) (hc4 : l1_4.length ≤ c1_4) (hr5 : Kd.C k31 w A1_5 l1_5.length l1_5) (hc5 : l1_5.length ≤ c1_5) (hr1 : Kd.C (Kd.int .u8) w A3_1 l3_1.length l3_1) (hc1 : l3_1.length ≤ c3_1) (hG : GOK w) (x0n : x0 ≠ 0) (hsd : session_side.f a1_0 a1_1 a1_2 a1_3 l1_4 l1_5 a2 = some false) (hRR : R = (x0, x1, x2, x3, [], false)) :
  Calls Tryd.prog 16 #[.agg #[.int .i64 a0_0, .int .i64 a0_1, .int .i64 a0_2, .int .i64 a0_3], .agg #[.int .i64 a1_0, .int .i64 a1_1, .int .i64 a1_2, .int .i64 a1_3, .slice A1_4 l1_4.length c1_4, .slice A1_5 l1_5.length c1_5], .int .i64 a2, .agg #[.int .i64 a3_0, .slice A3_1 l3_1.length c3_1]] w (TkPost w R) := by
 have HR := Aside0.mk (And.intro hr4 (And.intro hr5 hr1))
 have HC := Aside0.mk (And.intro hc4 (And.intro hc5 hc1))
 have HGK := Aside0.mk hG
 have HXX := Aside0.mk hx
 clear hx hr4 hc4 hr5 hc5 hr1 hc1 hG
 have e0_ : (x0 == 0) = false := by simp [x0n]
 clear x0n
 have HSD := Aside0.mk hsd
 clear hsd
 subst hRR
 have HID := Aside0.mk (idle_eq x0 x1 x2 x3 a1_0 a1_1 a1_2 a1_3 l1_4 l1_5 a2 a3_0 l3_1)
 go_enter Tryd.func16, Tryd.ntmps16
 go_wp2
 refine take_region a0_0 a0_1 a0_2 a0_3 a1_0 a1_1 a1_2 a1_3 A1_4 c1_4 l1_4 A1_5 c1_5 l1_5 a2 a3_0 A3_1 c3_1 l3_1 x0 x1 x2 x3 w HXX.out (fun _ _ _ _ _ h => h) (fun g W2 HF => ?_)
 have HT := Aside0.mk HF
 clear HF
 obtain ⟨k2_0, k2_1, k2_2, k2_3, k2_4, k2_5, k2_6, k2_7, k2_8, k2_9, k2_10, k2_11, k2_12, k2_13, k2_14, k2_15, k2_16, k2_17, k2_18, k2_19, k2_20, k2_21, k2_22, k2_23, k2_24, k2_25, k2_26, k2_27, k2_28, k2_29, k2_30⟩ := TkF.cells HT.out
 go_wp2_with (first | (go_at_call 26; (with_reducible refine (session_side.calls a1_0 a1_1 a1_2 a1_3 A1_4 c1_4 l1_4 A1_5 c1_5 l1_5 a2 false _ (Kd.C_below HR.out.1 HT.out.b) HC.out.1 (Kd.C_below HR.out.2.1 HT.out.b) HC.out.2.1 HSD.out).mono ?_); rintro e w3 ⟨rfl, hb_⟩; have HT3 := Aside0.mk (TkF.below HT.out hb_); clear hb_; obtain ⟨k3_0, k3_1, k3_2, k3_3, k3_4, k3_5, k3_6, k3_7, k3_8, k3_9, k3_10, k3_11, k3_12, k3_13, k3_14, k3_15, k3_16, k3_17, k3_18, k3_19, k3_20, k3_21, k3_22, k3_23, k3_24, k3_25, k3_26, k3_27, k3_28, k3_29, k3_30⟩ := TkF.cells HT3.out) | (go_at_call 32; (with_reducible refine (session_call_idle.calls x0 x1 x2 x3 a1_0 a1_1 a1_2 a1_3 A1_4 c1_4 l1_4 A1_5 c1_5 l1_5 a2 a3_0 A3_1 c3_1 l3_1 x0 x1 x2 x3 [] false _ (Kd.C_below HR.out.1 HT3.out.b) HC.out.1 (Kd.C_below HR.out.2.1 HT3.out.b) HC.out.2.1 (Kd.C_below HR.out.2.2 HT3.out.b) HC.out.2.2 HID.out).mono ?_); rintro e w9 ⟨v4, rfl, hv4, hb_⟩; obtain ⟨A9, c9, rfl⟩ := Kd.S_slice hv4; clear hv4; obtain ⟨he_, ke0, ke1, ke2, ke3, ke4, ke5, ke6, ke7⟩ := TkE w w3 w9 HT3.out.b HT3.out.b3 hb_; have HE := Aside0.mk he_; clear he_ hb_))
 exact take_told HE.out.1 HE.out.2.2 HE.out.2.1 (any_nil _ _ _ _ _ _ _) rfl rfl rfl
set_option maxHeartbeats 8000000 in
set_option maxRecDepth 100000 in
theorem take_iii (a0_0 a0_1 a0_2 a0_3 a1_0 a1_1 a1_2 a1_3 : Int) (A1_4 : Option Addr) (c1_4 : Nat) (l1_4 : List S62) (A1_5 : Option Addr) (c1_5 : Nat) (l1_5 : List S31) (a2 a3_0 : Int) (A3_1 : Option Addr) (c3_1 : Nat) (l3_1 : List Int) (x0 x1 x2 x3 : Int) (R : TkR) (w : World) (hx : session_known.f a0_0 a0_1 a0_2 a0_3 = some (x0, x1, x2, x3))
  (hr4 : Kd.C k62 w A1_4 l1_4.length l1_4) (hc4 : l1_4.length ≤ c1_4) (hr5 : Kd.C k31 w A1_5 l1_5.length l1_5) (hc5 : l1_5.length ≤ c1_5) (hr1 : Kd.C (Kd.int .u8) w A3_1 l3_1.length l3_1) (hc1 : l3_1.length ≤ c3_1) (hG : GOK w) (x0n : x0 ≠ 0) (hsd : session_side.f a1_0 a1_1 a1_2 a1_3 l1_4 l1_5 a2 = some true) (hms : msg_Sane.f a3_0 l3_1 = some false) (hRR : R = (x0, x1, x2, x3, [], false)) :
  Calls Tryd.prog 16 #[.agg #[.int .i64 a0_0, .int .i64 a0_1, .int .i64 a0_2, .int .i64 a0_3], .agg #[.int .i64 a1_0, .int .i64 a1_1, .int .i64 a1_2, .int .i64 a1_3, .slice A1_4 l1_4.length c1_4, .slice A1_5 l1_5.length c1_5], .int .i64 a2, .agg #[.int .i64 a3_0, .slice A3_1 l3_1.length c3_1]] w (TkPost w R) := by
 have HR := Aside0.mk (And.intro hr4 (And.intro hr5 hr1))
 have HC := Aside0.mk (And.intro hc4 (And.intro hc5 hc1))
 have HGK := Aside0.mk hG
 have HXX := Aside0.mk hx
 clear hx hr4 hc4 hr5 hc5 hr1 hc1 hG
 have e0_ : (x0 == 0) = false := by simp [x0n]
 clear x0n
 have HSD := Aside0.mk hsd
 clear hsd
 have HMS := Aside0.mk hms
 clear hms
 subst hRR
 have HID := Aside0.mk (idle_eq x0 x1 x2 x3 a1_0 a1_1 a1_2 a1_3 l1_4 l1_5 a2 a3_0 l3_1)
 go_enter Tryd.func16, Tryd.ntmps16
 go_wp2
 refine take_region a0_0 a0_1 a0_2 a0_3 a1_0 a1_1 a1_2 a1_3 A1_4 c1_4 l1_4 A1_5 c1_5 l1_5 a2 a3_0 A3_1 c3_1 l3_1 x0 x1 x2 x3 w HXX.out (fun _ _ _ _ _ h => h) (fun g W2 HF => ?_)
 have HT := Aside0.mk HF
 clear HF
 obtain ⟨k2_0, k2_1, k2_2, k2_3, k2_4, k2_5, k2_6, k2_7, k2_8, k2_9, k2_10, k2_11, k2_12, k2_13, k2_14, k2_15, k2_16, k2_17, k2_18, k2_19, k2_20, k2_21, k2_22, k2_23, k2_24, k2_25, k2_26, k2_27, k2_28, k2_29, k2_30⟩ := TkF.cells HT.out
 go_wp2_with (first | (go_at_call 26; (with_reducible refine (session_side.calls a1_0 a1_1 a1_2 a1_3 A1_4 c1_4 l1_4 A1_5 c1_5 l1_5 a2 true _ (Kd.C_below HR.out.1 HT.out.b) HC.out.1 (Kd.C_below HR.out.2.1 HT.out.b) HC.out.2.1 HSD.out).mono ?_); rintro e w3 ⟨rfl, hb_⟩; have HT3 := Aside0.mk (TkF.below HT.out hb_); clear hb_; obtain ⟨k3_0, k3_1, k3_2, k3_3, k3_4, k3_5, k3_6, k3_7, k3_8, k3_9, k3_10, k3_11, k3_12, k3_13, k3_14, k3_15, k3_16, k3_17, k3_18, k3_19, k3_20, k3_21, k3_22, k3_23, k3_24, k3_25, k3_26, k3_27, k3_28, k3_29, k3_30⟩ := TkF.cells HT3.out) | (go_at_call 15; (with_reducible refine (msg_Sane.calls a3_0 A3_1 c3_1 l3_1 false _ (Kd.C_below HR.out.2.2 HT3.out.b) HC.out.2.2 HMS.out).mono ?_); rintro e w4 ⟨rfl, hb_⟩; have HT4 := Aside0.mk (TkF.below HT3.out hb_); clear hb_; obtain ⟨k4_0, k4_1, k4_2, k4_3, k4_4, k4_5, k4_6, k4_7, k4_8, k4_9, k4_10, k4_11, k4_12, k4_13, k4_14, k4_15, k4_16, k4_17, k4_18, k4_19, k4_20, k4_21, k4_22, k4_23, k4_24, k4_25, k4_26, k4_27, k4_28, k4_29, k4_30⟩ := TkF.cells HT4.out) | (go_at_call 32; (with_reducible refine (session_call_idle.calls x0 x1 x2 x3 a1_0 a1_1 a1_2 a1_3 A1_4 c1_4 l1_4 A1_5 c1_5 l1_5 a2 a3_0 A3_1 c3_1 l3_1 x0 x1 x2 x3 [] false _ (Kd.C_below HR.out.1 HT4.out.b) HC.out.1 (Kd.C_below HR.out.2.1 HT4.out.b) HC.out.2.1 (Kd.C_below HR.out.2.2 HT4.out.b) HC.out.2.2 HID.out).mono ?_); rintro e w9 ⟨v4, rfl, hv4, hb_⟩; obtain ⟨A9, c9, rfl⟩ := Kd.S_slice hv4; clear hv4; obtain ⟨he_, ke0, ke1, ke2, ke3, ke4, ke5, ke6, ke7⟩ := TkE w w4 w9 HT4.out.b HT4.out.b3 hb_; have HE := Aside0.mk he_; clear he_ hb_))
 exact take_told HE.out.1 HE.out.2.2 HE.out.2.1 (any_nil _ _ _ _ _ _ _) rfl rfl rfl
set_option maxHeartbeats 8000000 in
set_option maxRecDepth 100000 in
theorem take_iv (a0_0 a0_1 a0_2 a0_3 a1_0 a1_1 a1_2 a1_3 : Int) (A1_4 : Option Addr) (c1_4 : Nat) (l1_4 : List S62) (A1_5 : Option Addr) (c1_5 : Nat) (l1_5 : List S31) (a2 a3_0 : Int) (A3_1 : Option Addr) (c3_1 : Nat) (l3_1 : List Int) (x0 x1 x2 x3 : Int) (R : TkR) (w : World) (hx : session_known.f a0_0 a0_1 a0_2 a0_3 = some (x0, x1, x2, x3))
  (hr4 : Kd.C k62 w A1_4 l1_4.length l1_4) (hc4 : l1_4.length ≤ c1_4) (hr5 : Kd.C k31 w A1_5 l1_5.length l1_5) (hc5 : l1_5.length ≤ c1_5) (hr1 : Kd.C (Kd.int .u8) w A3_1 l3_1.length l3_1) (hc1 : l3_1.length ≤ c3_1) (hG : GOK w) (x0n : x0 ≠ 0) (hsd : session_side.f a1_0 a1_1 a1_2 a1_3 l1_4 l1_5 a2 = some true) (hms : msg_Sane.f a3_0 l3_1 = some true) (h3 : a3_0 = 3) (hRR : R = (0, 0, 0, 0, [], false)) :
  Calls Tryd.prog 16 #[.agg #[.int .i64 a0_0, .int .i64 a0_1, .int .i64 a0_2, .int .i64 a0_3], .agg #[.int .i64 a1_0, .int .i64 a1_1, .int .i64 a1_2, .int .i64 a1_3, .slice A1_4 l1_4.length c1_4, .slice A1_5 l1_5.length c1_5], .int .i64 a2, .agg #[.int .i64 a3_0, .slice A3_1 l3_1.length c3_1]] w (TkPost w R) := by
 have HR := Aside0.mk (And.intro hr4 (And.intro hr5 hr1))
 have HC := Aside0.mk (And.intro hc4 (And.intro hc5 hc1))
 have HGK := Aside0.mk hG
 have HXX := Aside0.mk hx
 clear hx hr4 hc4 hr5 hc5 hr1 hc1 hG
 have e0_ : (x0 == 0) = false := by simp [x0n]
 clear x0n
 have HSD := Aside0.mk hsd
 clear hsd
 have HMS := Aside0.mk hms
 clear hms
 have e3_ : (a3_0 == 3) = true := by simp [h3]
 clear h3
 subst hRR
 go_enter Tryd.func16, Tryd.ntmps16
 go_wp2
 refine take_region a0_0 a0_1 a0_2 a0_3 a1_0 a1_1 a1_2 a1_3 A1_4 c1_4 l1_4 A1_5 c1_5 l1_5 a2 a3_0 A3_1 c3_1 l3_1 x0 x1 x2 x3 w HXX.out (fun _ _ _ _ _ h => h) (fun g W2 HF => ?_)
 have HT := Aside0.mk HF
 clear HF
 obtain ⟨k2_0, k2_1, k2_2, k2_3, k2_4, k2_5, k2_6, k2_7, k2_8, k2_9, k2_10, k2_11, k2_12, k2_13, k2_14, k2_15, k2_16, k2_17, k2_18, k2_19, k2_20, k2_21, k2_22, k2_23, k2_24, k2_25, k2_26, k2_27, k2_28, k2_29, k2_30⟩ := TkF.cells HT.out
 go_wp2_with (first | (go_at_call 26; (with_reducible refine (session_side.calls a1_0 a1_1 a1_2 a1_3 A1_4 c1_4 l1_4 A1_5 c1_5 l1_5 a2 true _ (Kd.C_below HR.out.1 HT.out.b) HC.out.1 (Kd.C_below HR.out.2.1 HT.out.b) HC.out.2.1 HSD.out).mono ?_); rintro e w3 ⟨rfl, hb_⟩; have HT3 := Aside0.mk (TkF.below HT.out hb_); clear hb_; obtain ⟨k3_0, k3_1, k3_2, k3_3, k3_4, k3_5, k3_6, k3_7, k3_8, k3_9, k3_10, k3_11, k3_12, k3_13, k3_14, k3_15, k3_16, k3_17, k3_18, k3_19, k3_20, k3_21, k3_22, k3_23, k3_24, k3_25, k3_26, k3_27, k3_28, k3_29, k3_30⟩ := TkF.cells HT3.out) | (go_at_call 15; (with_reducible refine (msg_Sane.calls a3_0 A3_1 c3_1 l3_1 true _ (Kd.C_below HR.out.2.2 HT3.out.b) HC.out.2.2 HMS.out).mono ?_); rintro e w4 ⟨rfl, hb_⟩; have HT4 := Aside0.mk (TkF.below HT3.out hb_); clear hb_; obtain ⟨k4_0, k4_1, k4_2, k4_3, k4_4, k4_5, k4_6, k4_7, k4_8, k4_9, k4_10, k4_11, k4_12, k4_13, k4_14, k4_15, k4_16, k4_17, k4_18, k4_19, k4_20, k4_21, k4_22, k4_23, k4_24, k4_25, k4_26, k4_27, k4_28, k4_29, k4_30⟩ := TkF.cells HT4.out))
 exact take_told (W1 := w4) HT4.out.b (blk_lt HT4.out.b3) HT4.out.b3 (any_nil _ _ _ _ _ _ _) rfl rfl rfl
set_option maxHeartbeats 8000000 in
set_option maxRecDepth 100000 in
theorem take_v1 (a0_0 a0_1 a0_2 a0_3 a1_0 a1_1 a1_2 a1_3 : Int) (A1_4 : Option Addr) (c1_4 : Nat) (l1_4 : List S62) (A1_5 : Option Addr) (c1_5 : Nat) (l1_5 : List S31) (a2 a3_0 : Int) (A3_1 : Option Addr) (c3_1 : Nat) (l3_1 : List Int) (x1 x2 x3 : Int) (R : TkR) (w : World) (hx : session_known.f a0_0 a0_1 a0_2 a0_3 = some (1, x1, x2, x3))
  (hr4 : Kd.C k62 w A1_4 l1_4.length l1_4) (hc4 : l1_4.length ≤ c1_4) (hr5 : Kd.C k31 w A1_5 l1_5.length l1_5) (hc5 : l1_5.length ≤ c1_5) (hr1 : Kd.C (Kd.int .u8) w A3_1 l3_1.length l3_1) (hc1 : l3_1.length ≤ c3_1) (hG : GOK w) (hsd : session_side.f a1_0 a1_1 a1_2 a1_3 l1_4 l1_5 a2 = some true) (hms : msg_Sane.f a3_0 l3_1 = some true) (h3 : a3_0 ≠ 3) (hRR : session_call_sent.f 1 x1 x2 x3 a1_0 a1_1 a1_2 a1_3 l1_4 l1_5 a2 a3_0 l3_1 = some R) :
  Calls Tryd.prog 16 #[.agg #[.int .i64 a0_0, .int .i64 a0_1, .int .i64 a0_2, .int .i64 a0_3], .agg #[.int .i64 a1_0, .int .i64 a1_1, .int .i64 a1_2, .int .i64 a1_3, .slice A1_4 l1_4.length c1_4, .slice A1_5 l1_5.length c1_5], .int .i64 a2, .agg #[.int .i64 a3_0, .slice A3_1 l3_1.length c3_1]] w (TkPost w R) := by
 have HR := Aside0.mk (And.intro hr4 (And.intro hr5 hr1))
 have HC := Aside0.mk (And.intro hc4 (And.intro hc5 hc1))
 have HGK := Aside0.mk hG
 have HXX := Aside0.mk hx
 clear hx hr4 hc4 hr5 hc5 hr1 hc1 hG
 have HSD := Aside0.mk hsd
 clear hsd
 have HMS := Aside0.mk hms
 clear hms
 have e3_ : (a3_0 == 3) = false := by simp [h3]
 clear h3
 obtain ⟨r1, r2, r3, r4, r5, r6⟩ := R
 have H := Aside0.mk hRR
 clear hRR
 have he : ∀ args w, (callFunc 33 args).run Tryd.prog w = .ok (.enter 33 args) w := fun args w => enters_ Tryd.func33 (by kernel_rfl) rfl args w
 go_enter Tryd.func16, Tryd.ntmps16
 go_wp2
 refine take_region a0_0 a0_1 a0_2 a0_3 a1_0 a1_1 a1_2 a1_3 A1_4 c1_4 l1_4 A1_5 c1_5 l1_5 a2 a3_0 A3_1 c3_1 l3_1 1 x1 x2 x3 w HXX.out (fun _ _ _ _ _ h => h) (fun g W2 HF => ?_)
 have HT := Aside0.mk HF
 clear HF
 obtain ⟨k2_0, k2_1, k2_2, k2_3, k2_4, k2_5, k2_6, k2_7, k2_8, k2_9, k2_10, k2_11, k2_12, k2_13, k2_14, k2_15, k2_16, k2_17, k2_18, k2_19, k2_20, k2_21, k2_22, k2_23, k2_24, k2_25, k2_26, k2_27, k2_28, k2_29, k2_30⟩ := TkF.cells HT.out
 go_wp2_with (first | (go_at_call 26; (with_reducible refine (session_side.calls a1_0 a1_1 a1_2 a1_3 A1_4 c1_4 l1_4 A1_5 c1_5 l1_5 a2 true _ (Kd.C_below HR.out.1 HT.out.b) HC.out.1 (Kd.C_below HR.out.2.1 HT.out.b) HC.out.2.1 HSD.out).mono ?_); rintro e w3 ⟨rfl, hb_⟩; have HT3 := Aside0.mk (TkF.below HT.out hb_); clear hb_; obtain ⟨k3_0, k3_1, k3_2, k3_3, k3_4, k3_5, k3_6, k3_7, k3_8, k3_9, k3_10, k3_11, k3_12, k3_13, k3_14, k3_15, k3_16, k3_17, k3_18, k3_19, k3_20, k3_21, k3_22, k3_23, k3_24, k3_25, k3_26, k3_27, k3_28, k3_29, k3_30⟩ := TkF.cells HT3.out) | (go_at_call 15; (with_reducible refine (msg_Sane.calls a3_0 A3_1 c3_1 l3_1 true _ (Kd.C_below HR.out.2.2 HT3.out.b) HC.out.2.2 HMS.out).mono ?_); rintro e w4 ⟨rfl, hb_⟩; have HT4 := Aside0.mk (TkF.below HT3.out hb_); clear hb_; obtain ⟨k4_0, k4_1, k4_2, k4_3, k4_4, k4_5, k4_6, k4_7, k4_8, k4_9, k4_10, k4_11, k4_12, k4_13, k4_14, k4_15, k4_16, k4_17, k4_18, k4_19, k4_20, k4_21, k4_22, k4_23, k4_24, k4_25, k4_26, k4_27, k4_28, k4_29, k4_30⟩ := TkF.cells HT4.out))
 go_region_with (first | ((with_reducible refine (session_call_sent.calls 1 x1 x2 x3 a1_0 a1_1 a1_2 a1_3 A1_4 c1_4 l1_4 A1_5 c1_5 l1_5 a2 a3_0 A3_1 c3_1 l3_1 r1 r2 r3 r4 r5 r6 ((w4.alloc (.cells #[.func (.func 32) #[] #[], .func (.func 33) #[] #[], .func (.func 34) #[] #[], .func (.func 35) #[] #[]] 79)).drew) (Kd.C_below HR.out.1 (below_drew (below_alloc HT4.out.b (.cells #[.func (.func 32) #[] #[], .func (.func 33) #[] #[], .func (.func 34) #[] #[], .func (.func 35) #[] #[]] 79)))) HC.out.1 (Kd.C_below HR.out.2.1 (below_drew (below_alloc HT4.out.b (.cells #[.func (.func 32) #[] #[], .func (.func 33) #[] #[], .func (.func 34) #[] #[], .func (.func 35) #[] #[]] 79)))) HC.out.2.1 (Kd.C_below HR.out.2.2 (below_drew (below_alloc HT4.out.b (.cells #[.func (.func 32) #[] #[], .func (.func 33) #[] #[], .func (.func 34) #[] #[], .func (.func 35) #[] #[]] 79)))) HC.out.2.2 (GOK.below HGK.out (below_drew (below_alloc HT4.out.b (.cells #[.func (.func 32) #[] #[], .func (.func 33) #[] #[], .func (.func 34) #[] #[], .func (.func 35) #[] #[]] 79)))) H.out).mono ?_); rintro e w9 ⟨v4, rfl, hv4, hb_⟩; have HV := Aside0.mk (show Kd.V k45 45 w9 ((w4.alloc (.cells #[.func (.func 32) #[] #[], .func (.func 33) #[] #[], .func (.func 34) #[] #[], .func (.func 35) #[] #[]] 79)).drew).heap.size (fun k_ => ((w4.alloc (.cells #[.func (.func 32) #[] #[], .func (.func 33) #[] #[], .func (.func 34) #[] #[], .func (.func 35) #[] #[]] 79)).drew).heap.size ≤ k_) v4 r5 from hv4); clear hv4; obtain ⟨he_, ke0, ke1, ke2, ke3, ke4, ke5, ke6, ke7⟩ := TkE w ((w4.alloc (.cells #[.func (.func 32) #[] #[], .func (.func 33) #[] #[], .func (.func 34) #[] #[], .func (.func 35) #[] #[]] 79)).drew) w9 (below_drew (below_alloc HT4.out.b (.cells #[.func (.func 32) #[] #[], .func (.func 33) #[] #[], .func (.func 34) #[] #[], .func (.func 35) #[] #[]] 79))) (blk_drew (blk_alloc HT4.out.b3 _)) hb_; have HE := Aside0.mk he_; clear he_ hb_))
 all_goals (go_wp2; exact take_told HE.out.1 HE.out.2.2 HE.out.2.1 HV.out rfl rfl rfl)
set_option maxHeartbeats 8000000 in
set_option maxRecDepth 100000 in
theorem take_v2 (a0_0 a0_1 a0_2 a0_3 a1_0 a1_1 a1_2 a1_3 : Int) (A1_4 : Option Addr) (c1_4 : Nat) (l1_4 : List S62) (A1_5 : Option Addr) (c1_5 : Nat) (l1_5 : List S31) (a2 a3_0 : Int) (A3_1 : Option Addr) (c3_1 : Nat) (l3_1 : List Int) (x1 x2 x3 : Int) (R : TkR) (w : World) (hx : session_known.f a0_0 a0_1 a0_2 a0_3 = some (2, x1, x2, x3))
  (hr4 : Kd.C k62 w A1_4 l1_4.length l1_4) (hc4 : l1_4.length ≤ c1_4) (hr5 : Kd.C k31 w A1_5 l1_5.length l1_5) (hc5 : l1_5.length ≤ c1_5) (hr1 : Kd.C (Kd.int .u8) w A3_1 l3_1.length l3_1) (hc1 : l3_1.length ≤ c3_1) (hG : GOK w) (hsd : session_side.f a1_0 a1_1 a1_2 a1_3 l1_4 l1_5 a2 = some true) (hms : msg_Sane.f a3_0 l3_1 = some true) (h3 : a3_0 ≠ 3) (hRR : session_call_confirm.f 2 x1 x2 x3 a1_0 a1_1 a1_2 a1_3 l1_4 l1_5 a2 a3_0 l3_1 = some R) :
  Calls Tryd.prog 16 #[.agg #[.int .i64 a0_0, .int .i64 a0_1, .int .i64 a0_2, .int .i64 a0_3], .agg #[.int .i64 a1_0, .int .i64 a1_1, .int .i64 a1_2, .int .i64 a1_3, .slice A1_4 l1_4.length c1_4, .slice A1_5 l1_5.length c1_5], .int .i64 a2, .agg #[.int .i64 a3_0, .slice A3_1 l3_1.length c3_1]] w (TkPost w R) := by
 have HR := Aside0.mk (And.intro hr4 (And.intro hr5 hr1))
 have HC := Aside0.mk (And.intro hc4 (And.intro hc5 hc1))
 have HGK := Aside0.mk hG
 have HXX := Aside0.mk hx
 clear hx hr4 hc4 hr5 hc5 hr1 hc1 hG
 have HSD := Aside0.mk hsd
 clear hsd
 have HMS := Aside0.mk hms
 clear hms
 have e3_ : (a3_0 == 3) = false := by simp [h3]
 clear h3
 obtain ⟨r1, r2, r3, r4, r5, r6⟩ := R
 have H := Aside0.mk hRR
 clear hRR
 have he : ∀ args w, (callFunc 34 args).run Tryd.prog w = .ok (.enter 34 args) w := fun args w => enters_ Tryd.func34 (by kernel_rfl) rfl args w
 go_enter Tryd.func16, Tryd.ntmps16
 go_wp2
 refine take_region a0_0 a0_1 a0_2 a0_3 a1_0 a1_1 a1_2 a1_3 A1_4 c1_4 l1_4 A1_5 c1_5 l1_5 a2 a3_0 A3_1 c3_1 l3_1 2 x1 x2 x3 w HXX.out (fun _ _ _ _ _ h => h) (fun g W2 HF => ?_)
 have HT := Aside0.mk HF
 clear HF
 obtain ⟨k2_0, k2_1, k2_2, k2_3, k2_4, k2_5, k2_6, k2_7, k2_8, k2_9, k2_10, k2_11, k2_12, k2_13, k2_14, k2_15, k2_16, k2_17, k2_18, k2_19, k2_20, k2_21, k2_22, k2_23, k2_24, k2_25, k2_26, k2_27, k2_28, k2_29, k2_30⟩ := TkF.cells HT.out
 go_wp2_with (first | (go_at_call 26; (with_reducible refine (session_side.calls a1_0 a1_1 a1_2 a1_3 A1_4 c1_4 l1_4 A1_5 c1_5 l1_5 a2 true _ (Kd.C_below HR.out.1 HT.out.b) HC.out.1 (Kd.C_below HR.out.2.1 HT.out.b) HC.out.2.1 HSD.out).mono ?_); rintro e w3 ⟨rfl, hb_⟩; have HT3 := Aside0.mk (TkF.below HT.out hb_); clear hb_; obtain ⟨k3_0, k3_1, k3_2, k3_3, k3_4, k3_5, k3_6, k3_7, k3_8, k3_9, k3_10, k3_11, k3_12, k3_13, k3_14, k3_15, k3_16, k3_17, k3_18, k3_19, k3_20, k3_21, k3_22, k3_23, k3_24, k3_25, k3_26, k3_27, k3_28, k3_29, k3_30⟩ := TkF.cells HT3.out) | (go_at_call 15; (with_reducible refine (msg_Sane.calls a3_0 A3_1 c3_1 l3_1 true _ (Kd.C_below HR.out.2.2 HT3.out.b) HC.out.2.2 HMS.out).mono ?_); rintro e w4 ⟨rfl, hb_⟩; have HT4 := Aside0.mk (TkF.below HT3.out hb_); clear hb_; obtain ⟨k4_0, k4_1, k4_2, k4_3, k4_4, k4_5, k4_6, k4_7, k4_8, k4_9, k4_10, k4_11, k4_12, k4_13, k4_14, k4_15, k4_16, k4_17, k4_18, k4_19, k4_20, k4_21, k4_22, k4_23, k4_24, k4_25, k4_26, k4_27, k4_28, k4_29, k4_30⟩ := TkF.cells HT4.out))
 go_region_with (first | ((with_reducible refine (session_call_confirm.calls 2 x1 x2 x3 a1_0 a1_1 a1_2 a1_3 A1_4 c1_4 l1_4 A1_5 c1_5 l1_5 a2 a3_0 A3_1 c3_1 l3_1 r1 r2 r3 r4 r5 r6 ((w4.alloc (.cells #[.func (.func 32) #[] #[], .func (.func 33) #[] #[], .func (.func 34) #[] #[], .func (.func 35) #[] #[]] 79)).drew) (Kd.C_below HR.out.1 (below_drew (below_alloc HT4.out.b (.cells #[.func (.func 32) #[] #[], .func (.func 33) #[] #[], .func (.func 34) #[] #[], .func (.func 35) #[] #[]] 79)))) HC.out.1 (Kd.C_below HR.out.2.1 (below_drew (below_alloc HT4.out.b (.cells #[.func (.func 32) #[] #[], .func (.func 33) #[] #[], .func (.func 34) #[] #[], .func (.func 35) #[] #[]] 79)))) HC.out.2.1 (Kd.C_below HR.out.2.2 (below_drew (below_alloc HT4.out.b (.cells #[.func (.func 32) #[] #[], .func (.func 33) #[] #[], .func (.func 34) #[] #[], .func (.func 35) #[] #[]] 79)))) HC.out.2.2 H.out).mono ?_); rintro e w9 ⟨v4, rfl, hv4, hb_⟩; have HV := Aside0.mk (show Kd.V k45 45 w9 ((w4.alloc (.cells #[.func (.func 32) #[] #[], .func (.func 33) #[] #[], .func (.func 34) #[] #[], .func (.func 35) #[] #[]] 79)).drew).heap.size (fun k_ => ((w4.alloc (.cells #[.func (.func 32) #[] #[], .func (.func 33) #[] #[], .func (.func 34) #[] #[], .func (.func 35) #[] #[]] 79)).drew).heap.size ≤ k_) v4 r5 from (Kd.N_V hv4)); clear hv4; obtain ⟨he_, ke0, ke1, ke2, ke3, ke4, ke5, ke6, ke7⟩ := TkE w ((w4.alloc (.cells #[.func (.func 32) #[] #[], .func (.func 33) #[] #[], .func (.func 34) #[] #[], .func (.func 35) #[] #[]] 79)).drew) w9 (below_drew (below_alloc HT4.out.b (.cells #[.func (.func 32) #[] #[], .func (.func 33) #[] #[], .func (.func 34) #[] #[], .func (.func 35) #[] #[]] 79))) (blk_drew (blk_alloc HT4.out.b3 _)) hb_; have HE := Aside0.mk he_; clear he_ hb_))
 all_goals (go_wp2; exact take_told HE.out.1 HE.out.2.2 HE.out.2.1 HV.out rfl rfl rfl)
set_option maxHeartbeats 8000000 in
set_option maxRecDepth 100000 in
theorem take_v3 (a0_0 a0_1 a0_2 a0_3 a1_0 a1_1 a1_2 a1_3 : Int) (A1_4 : Option Addr) (c1_4 : Nat) (l1_4 : List S62) (A1_5 : Option Addr) (c1_5 : Nat) (l1_5 : List S31) (a2 a3_0 : Int) (A3_1 : Option Addr) (c3_1 : Nat) (l3_1 : List Int) (x1 x2 x3 : Int) (R : TkR) (w : World) (hx : session_known.f a0_0 a0_1 a0_2 a0_3 = some (3, x1, x2, x3))
  (hr4 : Kd.C k62 w A1_4 l1_4.length l1_4) (hc4 : l1_4.length ≤ c1_4) (hr5 : Kd.C k31 w A1_5 l1_5.length l1_5) (hc5 : l1_5.length ≤ c1_5) (hr1 : Kd.C (Kd.int .u8) w A3_1 l3_1.length l3_1) (hc1 : l3_1.length ≤ c3_1) (hG : GOK w) (hsd : session_side.f a1_0 a1_1 a1_2 a1_3 l1_4 l1_5 a2 = some true) (hms : msg_Sane.f a3_0 l3_1 = some true) (h3 : a3_0 ≠ 3) (hRR : session_call_up.f 3 x1 x2 x3 a1_0 a1_1 a1_2 a1_3 l1_4 l1_5 a2 a3_0 l3_1 = some R) :
  Calls Tryd.prog 16 #[.agg #[.int .i64 a0_0, .int .i64 a0_1, .int .i64 a0_2, .int .i64 a0_3], .agg #[.int .i64 a1_0, .int .i64 a1_1, .int .i64 a1_2, .int .i64 a1_3, .slice A1_4 l1_4.length c1_4, .slice A1_5 l1_5.length c1_5], .int .i64 a2, .agg #[.int .i64 a3_0, .slice A3_1 l3_1.length c3_1]] w (TkPost w R) := by
 have HR := Aside0.mk (And.intro hr4 (And.intro hr5 hr1))
 have HC := Aside0.mk (And.intro hc4 (And.intro hc5 hc1))
 have HGK := Aside0.mk hG
 have HXX := Aside0.mk hx
 clear hx hr4 hc4 hr5 hc5 hr1 hc1 hG
 have HSD := Aside0.mk hsd
 clear hsd
 have HMS := Aside0.mk hms
 clear hms
 have e3_ : (a3_0 == 3) = false := by simp [h3]
 clear h3
 obtain ⟨r1, r2, r3, r4, r5, r6⟩ := R
 have H := Aside0.mk hRR
 clear hRR
 have he : ∀ args w, (callFunc 35 args).run Tryd.prog w = .ok (.enter 35 args) w := fun args w => enters_ Tryd.func35 (by kernel_rfl) rfl args w
 go_enter Tryd.func16, Tryd.ntmps16
 go_wp2
 refine take_region a0_0 a0_1 a0_2 a0_3 a1_0 a1_1 a1_2 a1_3 A1_4 c1_4 l1_4 A1_5 c1_5 l1_5 a2 a3_0 A3_1 c3_1 l3_1 3 x1 x2 x3 w HXX.out (fun _ _ _ _ _ h => h) (fun g W2 HF => ?_)
 have HT := Aside0.mk HF
 clear HF
 obtain ⟨k2_0, k2_1, k2_2, k2_3, k2_4, k2_5, k2_6, k2_7, k2_8, k2_9, k2_10, k2_11, k2_12, k2_13, k2_14, k2_15, k2_16, k2_17, k2_18, k2_19, k2_20, k2_21, k2_22, k2_23, k2_24, k2_25, k2_26, k2_27, k2_28, k2_29, k2_30⟩ := TkF.cells HT.out
 go_wp2_with (first | (go_at_call 26; (with_reducible refine (session_side.calls a1_0 a1_1 a1_2 a1_3 A1_4 c1_4 l1_4 A1_5 c1_5 l1_5 a2 true _ (Kd.C_below HR.out.1 HT.out.b) HC.out.1 (Kd.C_below HR.out.2.1 HT.out.b) HC.out.2.1 HSD.out).mono ?_); rintro e w3 ⟨rfl, hb_⟩; have HT3 := Aside0.mk (TkF.below HT.out hb_); clear hb_; obtain ⟨k3_0, k3_1, k3_2, k3_3, k3_4, k3_5, k3_6, k3_7, k3_8, k3_9, k3_10, k3_11, k3_12, k3_13, k3_14, k3_15, k3_16, k3_17, k3_18, k3_19, k3_20, k3_21, k3_22, k3_23, k3_24, k3_25, k3_26, k3_27, k3_28, k3_29, k3_30⟩ := TkF.cells HT3.out) | (go_at_call 15; (with_reducible refine (msg_Sane.calls a3_0 A3_1 c3_1 l3_1 true _ (Kd.C_below HR.out.2.2 HT3.out.b) HC.out.2.2 HMS.out).mono ?_); rintro e w4 ⟨rfl, hb_⟩; have HT4 := Aside0.mk (TkF.below HT3.out hb_); clear hb_; obtain ⟨k4_0, k4_1, k4_2, k4_3, k4_4, k4_5, k4_6, k4_7, k4_8, k4_9, k4_10, k4_11, k4_12, k4_13, k4_14, k4_15, k4_16, k4_17, k4_18, k4_19, k4_20, k4_21, k4_22, k4_23, k4_24, k4_25, k4_26, k4_27, k4_28, k4_29, k4_30⟩ := TkF.cells HT4.out))
 go_region_with (first | ((with_reducible refine (session_call_up.calls 3 x1 x2 x3 a1_0 a1_1 a1_2 a1_3 A1_4 c1_4 l1_4 A1_5 c1_5 l1_5 a2 a3_0 A3_1 c3_1 l3_1 r1 r2 r3 r4 r5 r6 ((w4.alloc (.cells #[.func (.func 32) #[] #[], .func (.func 33) #[] #[], .func (.func 34) #[] #[], .func (.func 35) #[] #[]] 79)).drew) (Kd.C_below HR.out.1 (below_drew (below_alloc HT4.out.b (.cells #[.func (.func 32) #[] #[], .func (.func 33) #[] #[], .func (.func 34) #[] #[], .func (.func 35) #[] #[]] 79)))) HC.out.1 (Kd.C_below HR.out.2.1 (below_drew (below_alloc HT4.out.b (.cells #[.func (.func 32) #[] #[], .func (.func 33) #[] #[], .func (.func 34) #[] #[], .func (.func 35) #[] #[]] 79)))) HC.out.2.1 (Kd.C_below HR.out.2.2 (below_drew (below_alloc HT4.out.b (.cells #[.func (.func 32) #[] #[], .func (.func 33) #[] #[], .func (.func 34) #[] #[], .func (.func 35) #[] #[]] 79)))) HC.out.2.2 H.out).mono ?_); rintro e w9 ⟨v4, rfl, hv4, hb_⟩; have HV := Aside0.mk (show Kd.V k45 45 w9 ((w4.alloc (.cells #[.func (.func 32) #[] #[], .func (.func 33) #[] #[], .func (.func 34) #[] #[], .func (.func 35) #[] #[]] 79)).drew).heap.size (fun k_ => ((w4.alloc (.cells #[.func (.func 32) #[] #[], .func (.func 33) #[] #[], .func (.func 34) #[] #[], .func (.func 35) #[] #[]] 79)).drew).heap.size ≤ k_) v4 r5 from (Kd.N_V hv4)); clear hv4; obtain ⟨he_, ke0, ke1, ke2, ke3, ke4, ke5, ke6, ke7⟩ := TkE w ((w4.alloc (.cells #[.func (.func 32) #[] #[], .func (.func 33) #[] #[], .func (.func 34) #[] #[], .func (.func 35) #[] #[]] 79)).drew) w9 (below_drew (below_alloc HT4.out.b (.cells #[.func (.func 32) #[] #[], .func (.func 33) #[] #[], .func (.func 34) #[] #[], .func (.func 35) #[] #[]] 79))) (blk_drew (blk_alloc HT4.out.b3 _)) hb_; have HE := Aside0.mk he_; clear he_ hb_))
 all_goals (go_wp2; exact take_told HE.out.1 HE.out.2.2 HE.out.2.1 HV.out rfl rfl rfl)
theorem session_Take.calls (a0_0 a0_1 a0_2 a0_3 a1_0 a1_1 a1_2 a1_3 : Int) (A1_4 : Option Addr) (c1_4 : Nat) (l1_4 : List S62) (A1_5 : Option Addr) (c1_5 : Nat) (l1_5 : List S31) (a2 a3_0 : Int) (A3_1 : Option Addr) (c3_1 : Nat) (l3_1 : List Int) (r1 r2 r3 r4 : Int) (r5 : List S45) (r6 : Bool) (w : World)
  (hr1_4 : Kd.C k62 w A1_4 l1_4.length l1_4) (hc1_4 : l1_4.length ≤ c1_4) (hr1_5 : Kd.C k31 w A1_5 l1_5.length l1_5) (hc1_5 : l1_5.length ≤ c1_5) (hr3_1 : Kd.C (Kd.int .u8) w A3_1 l3_1.length l3_1) (hc3_1 : l3_1.length ≤ c3_1) (hG : GOK w)
  (h : session_Take.f a0_0 a0_1 a0_2 a0_3 a1_0 a1_1 a1_2 a1_3 l1_4 l1_5 a2 a3_0 l3_1 = some (r1, r2, r3, r4, r5, r6)) :
  Calls Tryd.prog 16 #[.agg #[.int .i64 a0_0, .int .i64 a0_1, .int .i64 a0_2, .int .i64 a0_3], .agg #[.int .i64 a1_0, .int .i64 a1_1, .int .i64 a1_2, .int .i64 a1_3, .slice A1_4 l1_4.length c1_4, .slice A1_5 l1_5.length c1_5], .int .i64 a2, .agg #[.int .i64 a3_0, .slice A3_1 l3_1.length c3_1]] w fun e w' => ∃ v4_ : Value, e = .returned (.tuple #[.agg #[.int .i64 r1, .int .i64 r2, .int .i64 r3, .int .i64 r4], v4_, .bool r6]) ∧ Kd.V k45 45 w' w.heap.size (fun k_ => w.heap.size ≤ k_) v4_ r5 ∧ Below w.heap.size w w' := by
 unfold session_Take.f at h
 obtain ⟨⟨x0, x1, x2, x3⟩, hx, h⟩ := Option.bind_eq_some_iff.mp h
 dsimp only at h
 by_cases c0 : x0 = 0
 ·
  rw [if_pos c0] at h
  exact take_i a0_0 a0_1 a0_2 a0_3 a1_0 a1_1 a1_2 a1_3 A1_4 c1_4 l1_4 A1_5 c1_5 l1_5 a2 a3_0 A3_1 c3_1 l3_1 x0 x1 x2 x3 (r1, r2, r3, r4, r5, r6) w hx hr1_4 hc1_4 hr1_5 hc1_5 hr3_1 hc3_1 hG c0 (Option.some.inj h).symm
 rw [if_neg c0] at h
 obtain ⟨sd, hsd, h⟩ := Option.bind_eq_some_iff.mp h
 cases sd
 ·
  rw [if_neg (by decide)] at h
  exact take_ii a0_0 a0_1 a0_2 a0_3 a1_0 a1_1 a1_2 a1_3 A1_4 c1_4 l1_4 A1_5 c1_5 l1_5 a2 a3_0 A3_1 c3_1 l3_1 x0 x1 x2 x3 (r1, r2, r3, r4, r5, r6) w hx hr1_4 hc1_4 hr1_5 hc1_5 hr3_1 hc3_1 hG c0 hsd (Option.some.inj h).symm
 rw [if_pos rfl] at h
 obtain ⟨ms, hms, h⟩ := Option.bind_eq_some_iff.mp h
 cases ms
 ·
  rw [if_neg (by decide)] at h
  exact take_iii a0_0 a0_1 a0_2 a0_3 a1_0 a1_1 a1_2 a1_3 A1_4 c1_4 l1_4 A1_5 c1_5 l1_5 a2 a3_0 A3_1 c3_1 l3_1 x0 x1 x2 x3 (r1, r2, r3, r4, r5, r6) w hx hr1_4 hc1_4 hr1_5 hc1_5 hr3_1 hc3_1 hG c0 hsd hms (Option.some.inj h).symm
 rw [if_pos rfl] at h
 by_cases c3 : a3_0 = 3
 ·
  rw [if_pos c3] at h
  exact take_iv a0_0 a0_1 a0_2 a0_3 a1_0 a1_1 a1_2 a1_3 A1_4 c1_4 l1_4 A1_5 c1_5 l1_5 a2 a3_0 A3_1 c3_1 l3_1 x0 x1 x2 x3 (r1, r2, r3, r4, r5, r6) w hx hr1_4 hc1_4 hr1_5 hc1_5 hr3_1 hc3_1 hG c0 hsd hms c3 (Option.some.inj h).symm
 rw [if_neg c3] at h
 unfold session_Take.g at h
 by_cases e1 : x0 = 1
 ·
  subst e1
  rw [if_pos rfl] at h
  exact take_v1 a0_0 a0_1 a0_2 a0_3 a1_0 a1_1 a1_2 a1_3 A1_4 c1_4 l1_4 A1_5 c1_5 l1_5 a2 a3_0 A3_1 c3_1 l3_1 x1 x2 x3 (r1, r2, r3, r4, r5, r6) w hx hr1_4 hc1_4 hr1_5 hc1_5 hr3_1 hc3_1 hG hsd hms c3 h
 rw [if_neg e1] at h
 by_cases e2 : x0 = 2
 ·
  subst e2
  rw [if_pos rfl] at h
  exact take_v2 a0_0 a0_1 a0_2 a0_3 a1_0 a1_1 a1_2 a1_3 A1_4 c1_4 l1_4 A1_5 c1_5 l1_5 a2 a3_0 A3_1 c3_1 l3_1 x1 x2 x3 (r1, r2, r3, r4, r5, r6) w hx hr1_4 hc1_4 hr1_5 hc1_5 hr3_1 hc3_1 hG hsd hms c3 h
 rw [if_neg e2] at h
 by_cases e3 : x0 = 3
 ·
  subst e3
  rw [if_pos rfl] at h
  exact take_v3 a0_0 a0_1 a0_2 a0_3 a1_0 a1_1 a1_2 a1_3 A1_4 c1_4 l1_4 A1_5 c1_5 l1_5 a2 a3_0 A3_1 c3_1 l3_1 x1 x2 x3 (r1, r2, r3, r4, r5, r6) w hx hr1_4 hc1_4 hr1_5 hc1_5 hr3_1 hc3_1 hG hsd hms c3 h
 rw [if_neg e3] at h
 cases h

end Go.Proofs.YtfbndolhocojiaaDoor.K
