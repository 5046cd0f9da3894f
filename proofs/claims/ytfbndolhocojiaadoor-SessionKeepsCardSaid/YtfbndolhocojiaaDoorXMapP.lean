/- Words of ours on a map from a struct of two ints to int that the call made: how often each was counted. No conditions but those that each states. -/
import Derived.Maps.OwnOps
import Derived.Maps.Views
import Derived.Maps.OwnSet
import Derived.WideKeyEntry
import Derived.DeepKeys4
import Derived.WalkKit
import Derived.Test.YtfbndolhocojiaaDoorWKept
namespace Go.Proofs.YtfbndolhocojiaaDoorW.PrintX
open Go.RowKit Go.Maps Go.MapKept Go.ChangeMaps Go.Proofs.YtfbndolhocojiaaDoorW.PrintWords Go.Proofs.YtfbndolhocojiaaDoorW.PrintLast
open Go.WideElems (Fit rd rg pl rd_val elemAt modify_last set_self findIdx_born findIdx_arr entry_then_store)
open Go.WideMaps (KeyLaw)
set_option linter.unusedVariables false
set_option linter.unusedSimpArgs false
variable {P : Program} {W W' : World} {b n : Nat} {kt : TypeId} {cnt : Int → Int → Int}
abbrev pk (x y : Int) : Value := .agg #[.int .i64 x, .int .i64 y]
/-- Block b is a map (from kt, a struct of two ints) that holds cnt. -/
def SeenP (P : Program) (kt : TypeId) (W : World) (b n : Nat) (cnt : Int → Int → Int) : Prop := ∃ D : DataW Unit, W.ownsMap P kt (plainElem P 3) b n D ∧ ∀ x y kl, keyOf P kt (pk x y) = some kl → D.atKey kl (.lit (.int .i64 0)) = .lit (.int .i64 (cnt x y))
theorem SeenP.made (kt : TypeId) (w : World) : SeenP P kt (w.alloc (.map #[] 0)) w.heap.size 0 (fun _ _ => 0) := ⟨_, World.ownsMap_made _ _ _ _, fun x y kl _ => rfl⟩
theorem SeenP.lt (h : SeenP P kt W b n cnt) : b < W.heap.size := by
  obtain ⟨D, h1, _⟩ := h
  exact h1.lt
theorem SeenP.step (h : SeenP P kt W b n cnt) (hb : W'.heap[b]? = W.heap[b]?) : SeenP P kt W' b n cnt := by
  obtain ⟨D, ⟨es, clock, h0, F, hs, hD⟩, h2⟩ := h
  exact ⟨D, ⟨es, clock, hb.trans h0, F, hs, hD⟩, h2⟩
theorem SeenP.below (h : SeenP P kt W b n cnt) (hb : Below W.heap.size W W') : SeenP P kt W' b n cnt := h.step (hb.block b h.lt)
theorem SeenP.alloc (h : SeenP P kt W b n cnt) (o : Obj) : SeenP P kt (W.alloc o) b n cnt := h.below ((Below.refl _ _).alloc (Nat.le_refl _) o)
theorem SeenP.drew (h : SeenP P kt W b n cnt) : SeenP P kt W.drew b n cnt := h
theorem SeenP.look {T : TypeId} (h : SeenP P kt W b n cnt) (K : KeyLaw P kt) (h3 : P.underlying 3 = some (.int .i64)) (ht : P.underlying T = some (.map kt 3)) (hz : (zeroValue 3).run P W = .ok (.int .i64 0) W) {x y : Int} {kl : Lit} (hkey : keyOf P kt (pk x y) = some kl) :
    (Instr.lookup T (.map (some b)) (pk x y) false).run P W = .ok (.int .i64 (cnt x y)) W := by
  obtain ⟨D, h1, h2⟩ := h
  obtain ⟨c, hr, hat, _⟩ := h1.lookup_int (Keyed.of_law K) ht h3 hz hkey
  rw [h2 x y kl hkey] at hat
  injection hat with hat
  injection hat with _ hat
  rw [hr, hat]
theorem SeenP.put {T : TypeId} (h : SeenP P kt W b n cnt) (K : KeyLaw P kt) (h3 : P.underlying 3 = some (.int .i64)) (ht : P.underlying T = some (.map kt 3)) (hn : n < maxLen) {x y v : Int} {kl : Lit} (hkey : keyOf P kt (pk x y) = some kl) (hv : (Lit.int .i64 v).wf = true) :
    ∃ w', (Instr.mapUpdate T (.map (some b)) (pk x y) (.int .i64 v)).run P W = .ok () w' ∧ SeenP P kt w' b (n + 1) (fun a c => if a = x ∧ c = y then v else cnt a c) ∧ W.grownBy w' (some b) := by
  obtain ⟨D, h1, h2⟩ := h
  obtain ⟨w', hr, h4, h5⟩ := h1.update (Keyed.of_law K) ht hn hkey (plainElem_int h3 hv)
  refine ⟨w', hr, ⟨_, h4, fun a c ka hka => ?_⟩, h5⟩
  by_cases e : a = x ∧ c = y
  · obtain ⟨rfl, rfl⟩ := e
    rw [hkey] at hka
    cases hka
    show _ = DataW.lit (Lit.int .i64 (if a = a ∧ c = c then v else cnt a c))
    rw [if_pos ⟨rfl, rfl⟩]
    exact atKey_put_same h1.isMap ((Keyed.of_law K).key hkey) _ _
  · show _ = DataW.lit (Lit.int .i64 (if a = x ∧ c = y then v else cnt a c))
    rw [if_neg e]
    refine (atKey_put_other (fun e2 => e ?_) _ _).trans (h2 a c ka hka)
    subst e2
    have := K.inj hka hkey
    simp only [pk, Value.agg.injEq, Array.mk.injEq, List.cons.injEq, Value.int.injEq, true_and, and_true] at this
    exact this
/-- 'm[k]++' as an entry and a store. -/
theorem SeenP.bump {T : TypeId} (h : SeenP P kt W b n cnt) (K : KeyLaw P kt) (h3 : P.underlying 3 = some (.int .i64)) (ht : P.underlying T = some (.map kt 3)) (hz : ∀ u : World, (zeroValue 3).run P u = .ok (.int .i64 0) u) (hn : n < maxLen) {x y v : Int} {kl : Lit} (hkey : keyOf P kt (pk x y) = some kl) (hv : (Lit.int .i64 v).wf = true) :
    ∃ (v0 : Value) (st : Int) (W1 W2 : World), (Instr.mapEntry T (.map (some b)) (pk x y)).run P W = .ok (.tuple #[v0, .int .i64 st]) W1 ∧
      (Instr.lookup T (.map (some b)) (pk x y) false).run P W1 = .ok (.int .i64 (cnt x y)) W1 ∧
      (Instr.entryStore T (.map (some b)) (.int .i64 st) (.int .i64 v)).run P W1 = .ok () W2 ∧
      SeenP P kt W2 b (n + 1) (fun a c => if a = x ∧ c = y then v else cnt a c) ∧ W.grownBy W1 (some b) ∧ W.grownBy W2 (some b) := by
  have h0 := h
  obtain ⟨D, ⟨es, clock, hb, F, hs, hD⟩, h2⟩ := h
  obtain ⟨w', hr, h4, h5⟩ := h0.put K h3 ht hn hkey hv
  have hl := h0.look K h3 ht (hz W) hkey
  obtain ⟨v0, st, es1, clock1, e1, e2, e3⟩ := entry_then_store K ht hz hb F hkey
  have hb1 : (setBlock W b (.map es1 clock1)).heap[b]? = some (.map es1 clock1) := heap_setBlock_same hb _
  obtain ⟨es', clock', e4, e5⟩ := e3 (setBlock W b (.map es1 clock1)) (.int .i64 v) hb1
  have hW : w' = setBlock (setBlock W b (.map es1 clock1)) b (.map es' clock') := by
    rw [hr] at e5
    injection e5 with _ e6
    rw [e6]
    simp [setBlock]
  refine ⟨v0, st, _, _, e1, ?_, e4, ?_, ?_, ?_⟩
  · rcases K.find W hkey es.toList F.keys with ⟨f1, f2⟩ | ⟨j, e0, f1, f2, f3⟩
    · have g1 : (Instr.mapEntry T (.map (some b)) (pk x y)).run P W = .ok (.tuple #[.int .i64 0, goInt clock]) (setBlock W b (.map (es.push ⟨pk x y, .int .i64 0, clock⟩) (clock + 1))) := by
        simp [Instr.mapEntry, run_underlying ht, MapKept.run_getObj_map hb, K.check W false hkey, f1, hz, MapKept.run_setObj_map _ hb, Result.andThen, setBlock]
      have g2 : (Instr.mapUpdate T (.map (some b)) (pk x y) (.int .i64 0)).run P W = .ok () (setBlock W b (.map (es.push ⟨pk x y, .int .i64 0, clock⟩) (clock + 1))) := by
        simp [Instr.mapUpdate, run_underlying ht, MapKept.run_getObj_map hb, K.check W false hkey, f1, MapKept.run_setObj_map _ hb, Result.andThen, setBlock]
      have g3 : (Instr.lookup T (.map (some b)) (pk x y) false).run P W = .ok (.int .i64 0) W := by
        simp [Instr.lookup, run_underlying ht, MapKept.run_getObj_map hb, K.check W _ hkey, f1, hz, Result.andThen]
      have hc : cnt x y = 0 := by
        rw [hl] at g3
        injection g3 with g3
        injection g3
      rw [e1, Result.ok.injEq] at g1
      obtain ⟨_, g4⟩ := g1
      obtain ⟨w2, q1, q2, _⟩ := h0.put K h3 ht hn hkey (v := 0) (by decide)
      rw [g2, Result.ok.injEq] at q1
      obtain ⟨_, q3⟩ := q1
      have q4 := q2.look K h3 ht (hz _) hkey
      rw [← q3, ← g4] at q4
      rw [q4, if_pos ⟨rfl, rfl⟩, hc]
    · have hj : es[j]? = some e0 := by simpa using f2
      have hsame : es.modify j (fun e => { e with key := pk x y }) = es := by
        apply Array.ext'
        rw [Array.toList_modify, Go.ChangeMaps.modify_eq_set _ _ _ _ f2]
        have : ({ e0 with key := pk x y } : MapEntry) = e0 := by rw [← f3]
        rw [this]
        exact set_self _ _ _ f2
      have g1 : (Instr.mapEntry T (.map (some b)) (pk x y)).run P W = .ok (.tuple #[e0.val, goInt e0.born]) (setBlock W b (.map es clock)) := by
        simp [Instr.mapEntry, run_underlying ht, MapKept.run_getObj_map hb, K.check W false hkey, f1, hj, f3, K.stays W hkey, hsame, MapKept.run_setObj_map _ hb, Result.andThen, setBlock]
      rw [e1, Result.ok.injEq] at g1
      obtain ⟨_, g4⟩ := g1
      have hb2 : (setBlock W b (.map es1 clock1)).heap[b]? = W.heap[b]? := by rw [g4, heap_setBlock_same hb, hb]
      exact (h0.step hb2).look K h3 ht (hz _) hkey
  · rw [← hW]; exact h4
  · exact ⟨rfl, rfl, rfl, by simp [setBlock], fun i _ hi => heap_setBlock_other hb _ (fun e => hi (by rw [e]))⟩
  · rw [← hW]; exact h5
end Go.Proofs.YtfbndolhocojiaaDoorW.PrintX
