/- Words of ours on a map from int to int that the call made: how often each number was counted. No conditions but those that each states. -/
import Derived.Maps.OwnOps
import Derived.Maps.Views
import Derived.Maps.OwnSet
import Derived.WalkKit
import Derived.Test.YtfbndolhocojiaaDoorWKept
namespace Go.Proofs.YtfbndolhocojiaaDoorW.PrintX
open Go.RowKit Go.Maps Go.Proofs.YtfbndolhocojiaaDoorW.PrintWords Go.Proofs.YtfbndolhocojiaaDoorW.PrintLast
set_option linter.unusedVariables false
set_option linter.unusedSimpArgs false
variable {P : Program} {W W' : World} {b n : Nat} {cnt : Int → Int}
/-- Block b is a map (int's number: 3) that holds cnt. -/
def SeenI (P : Program) (W : World) (b n : Nat) (cnt : Int → Int) : Prop := ∃ D : DataW Unit, W.ownsMap P 3 (plainElem P 3) b n D ∧ ∀ t, (Lit.int .i64 t).wf = true → D.atKey (.int .i64 t) (.lit (.int .i64 0)) = .lit (.int .i64 (cnt t))
theorem SeenI.made (w : World) : SeenI P (w.alloc (.map #[] 0)) w.heap.size 0 (fun _ => 0) := ⟨_, World.ownsMap_made _ _ _ _, fun t _ => rfl⟩
theorem SeenI.lt (h : SeenI P W b n cnt) : b < W.heap.size := by
  obtain ⟨D, h1, _⟩ := h
  exact h1.lt
theorem SeenI.step (h : SeenI P W b n cnt) (hb : W'.heap[b]? = W.heap[b]?) : SeenI P W' b n cnt := by
  obtain ⟨D, ⟨es, clock, h0, F, hs, hD⟩, h2⟩ := h
  exact ⟨D, ⟨es, clock, hb.trans h0, F, hs, hD⟩, h2⟩
theorem SeenI.below (h : SeenI P W b n cnt) (hb : Below W.heap.size W W') : SeenI P W' b n cnt := h.step (hb.block b h.lt)
theorem SeenI.alloc (h : SeenI P W b n cnt) (o : Obj) : SeenI P (W.alloc o) b n cnt := h.below ((Below.refl _ _).alloc (Nat.le_refl _) o)
theorem SeenI.drewN (h : SeenI P W b n cnt) (m : Nat) : SeenI P (W.drewN m) b n cnt := h
theorem SeenI.drew (h : SeenI P W b n cnt) : SeenI P W.drew b n cnt := h
theorem SeenI.look {T : TypeId} (h : SeenI P W b n cnt) (h3 : P.underlying 3 = some (.int .i64)) (ht : P.underlying T = some (.map 3 3)) (hz : (zeroValue 3).run P W = .ok (.int .i64 0) W) {t : Int} (hw : (Lit.int .i64 t).wf = true) :
    (Instr.lookup T (.map (some b)) (.int .i64 t) false).run P W = .ok (.int .i64 (cnt t)) W := by
  obtain ⟨D, h1, h2⟩ := h
  obtain ⟨c, hr, hat, _⟩ := h1.lookup_int (int_keyed h3) ht h3 hz (keyOf_int_mk h3 hw)
  rw [h2 t hw] at hat
  injection hat with hat
  injection hat with _ hat
  rw [hr, hat]
theorem SeenI.put {T : TypeId} (h : SeenI P W b n cnt) (h3 : P.underlying 3 = some (.int .i64)) (ht : P.underlying T = some (.map 3 3)) (hn : n < maxLen) {t v : Int} (hw : (Lit.int .i64 t).wf = true) (hv : (Lit.int .i64 v).wf = true) :
    ∃ w', (Instr.mapUpdate T (.map (some b)) (.int .i64 t) (.int .i64 v)).run P W = .ok () w' ∧ SeenI P w' b (n + 1) (fun u => if u = t then v else cnt u) ∧ W.grownBy w' (some b) := by
  obtain ⟨D, h1, h2⟩ := h
  obtain ⟨w', hr, h4, h5⟩ := h1.update (int_keyed h3) ht hn (keyOf_int_mk h3 hw) (plainElem_int h3 hv)
  refine ⟨w', hr, ⟨_, h4, fun u hu => ?_⟩, h5⟩
  by_cases c : u = t
  · subst c
    show _ = DataW.lit (Lit.int .i64 (if u = u then v else cnt u))
    rw [if_pos rfl]
    exact atKey_put_same h1.isMap ((int_keyed h3).key (keyOf_int_mk h3 hw)) _ _
  · show _ = DataW.lit (Lit.int .i64 (if u = t then v else cnt u))
    rw [if_neg c]
    exact (atKey_put_other (by intro e; injection e with _ e; exact c e) _ _).trans (h2 u hu)
end Go.Proofs.YtfbndolhocojiaaDoorW.PrintX
