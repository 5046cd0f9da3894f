/- Words of ours on rows of the call's own: an element written, the tail cleared, a row cut; the first element for which a predicate holds. No conditions. -/
import Derived.Test.YtfbndolhocojiaaDoorWMore
import Derived.Test.YtfbndolhocojiaaDoorWArr
import Derived.Laws.IdiomCopy
import Derived.Deep.MidRow
set_option linter.unusedVariables false
set_option linter.unusedSimpArgs false
namespace Go.Proofs.YtfbndolhocojiaaDoorW.PrintX
open Go.RowKit Go.Proofs.YtfbndolhocojiaaDoorW.PrintWords Go.Proofs.YtfbndolhocojiaaDoorW.PrintLast Go.Proofs.YtfbndolhocojiaaDoorW.PrintMore
def idxM {α : Type} (p : α → Option Bool) : List α → Int → Option Int
  | [], _ => some (-1)
  | x :: r, i => (p x).bind fun b => if b = true then some i else idxM p r (i + 1)
theorem R_write {α : Type} {d : Kd α} {e : Nat} {w : World} {base g n cap j : Nat} {ok : Nat → Prop} {ys : List α} (h : d.R e w base ok (.slice (some ⟨g, 0, none⟩) n cap) ys) (hj : j < ys.length) (x : α)
    (seg : List Value) (hs : seg.length = d.sz) (hM : ∀ w ok, d.M w base ok x seg) :
    d.R e (w.setCells g (j * d.sz) seg) base ok (.slice (some ⟨g, 0, none⟩) n cap) (ys.set j x) := by
  obtain ⟨h0, inner, ho, hr⟩ := h
  refine ⟨h0, inner.take (j * d.sz) ++ seg ++ inner.drop (j * d.sz + seg.length), ?_, ?_⟩
  · obtain ⟨hl, hh⟩ := ho
    rcases hh with ⟨hn, h2⟩ | ⟨g', cap', cur, he, hb, hg, hnc, hcm, hcs, ht⟩
    · cases hn
    · simp only [Value.slice.injEq, Option.some.injEq, Addr.mk.injEq] at he
      obtain ⟨⟨rfl, _⟩, rfl, rfl⟩ := he
      have m1 : j * d.sz + d.sz ≤ ys.length * d.sz := by rw [← Nat.succ_mul]; exact Nat.mul_le_mul_right _ hj
      have m2 : ys.length * d.sz ≤ cap * d.sz := Nat.mul_le_mul_right _ hnc
      obtain ⟨cur', h3, h4, h5⟩ := setCells_row seg (j * d.sz) w cur hg (by omega)
      have hll : cur.toList.length = cap * d.sz := by rw [Array.length_toList, hcs]
      refine ⟨?_, .inr ⟨g, cap, cur', by rw [List.length_set], hb, h3, by rw [List.length_set]; exact hnc, hcm, by rw [h4, hcs], ?_⟩⟩
      · simp only [List.length_append, List.length_take, List.length_drop, List.length_set]
        omega
      · rw [h5, List.length_set, ← ht, List.take_take, Nat.min_eq_left (by omega), List.take_append, List.take_of_length_le (by rw [List.length_append, List.length_take]; omega), List.drop_take]
        congr 2
        rw [List.length_append, List.length_take]; omega
  · refine Kd.reps_set (Reps.imp_ hr fun p c hp => ?_) hj ?_ hs
    · exact d.M_move (fun k hk => setCells_far _ _ _ (fun he => hk.2 (by rw [he]; rfl))) hp
    · exact hM _ _

theorem blk_of_R {α : Type} {d : Kd α} {e : Nat} {w : World} {base g n cap : Nat} {ok : Nat → Prop} {ys : List α} (h : d.R e w base ok (.slice (some ⟨g, 0, none⟩) n cap) ys) : ∃ cc : Array Value, w.heap[g]? = some (.cells cc e (0, 0)) ∧ cc.size = cap * d.sz ∧ n ≤ cap := by
  obtain ⟨_, inner, ho, _⟩ := h
  rcases ho.2 with ⟨hn, h2⟩ | ⟨g', cap', cur, he, hb, hg, hnc, hcm, hcs, ht⟩
  · cases hn
  · simp only [Value.slice.injEq, Option.some.injEq, Addr.mk.injEq] at he
    obtain ⟨⟨rfl, _⟩, rfl, rfl⟩ := he
    exact ⟨cur, hg, hcs, hnc⟩
end Go.Proofs.YtfbndolhocojiaaDoorW.PrintX
