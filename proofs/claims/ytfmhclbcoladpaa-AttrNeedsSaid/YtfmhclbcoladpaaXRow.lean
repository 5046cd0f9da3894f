/- Words of ours on rows of the call's own: an element written, the tail cleared, a row cut; the first element for which a predicate holds. No conditions. -/
import Derived.Test.YtfmhclbcoladpaaWMore
import Derived.Test.YtfmhclbcoladpaaWArr
import Derived.Laws.IdiomCopy
import Derived.Deep.MidRow
set_option linter.unusedVariables false
set_option linter.unusedSimpArgs false
namespace Go.Proofs.YtfmhclbcoladpaaW.PrintX
open Go.RowKit Go.Proofs.YtfmhclbcoladpaaW.PrintWords Go.Proofs.YtfmhclbcoladpaaW.PrintLast Go.Proofs.YtfmhclbcoladpaaW.PrintMore
def idxM {α : Type} (p : α → Option Bool) : List α → Int → Option Int
  | [], _ => some (-1)
  | x :: r, i => (p x).bind fun b => if b = true then some i else idxM p r (i + 1)
theorem R_write {α : Type} {d : Kd α} {e : Nat} {w : World} {base g n cap j : Nat} {ok : Nat → Prop} {ys : List α} (h : d.R e w base ok (.slice (some ⟨g, 0, none⟩) n cap) ys) (hj : j < ys.length) (x : α)
    (seg : List Value) (hs : seg.length = d.sz) (hM : ∀ w ok, d.M w base ok x seg) :
    d.R e (w.setCells g (j * d.sz) seg) base ok (.slice (some ⟨g, 0, none⟩) n cap) (ys.set j x) := by
  obtain ⟨h0, inner, ho, hr⟩ := h
  refine ⟨h0, inner.take (j * d.sz) ++ seg ++ inner.drop (j * d.sz + seg.length), ?_, ?_⟩
  · obtain ⟨hl, hh⟩ := ho
    rcases hh with ⟨hn, h2⟩ | ⟨g', cap', cur, he, hb, hg, hnc, hcm, hcs, ht⟩
    · cases hn
    · simp only [Value.slice.injEq, Option.some.injEq, Addr.mk.injEq] at he
      obtain ⟨⟨rfl, _⟩, rfl, rfl⟩ := he
      have m1 : j * d.sz + d.sz ≤ ys.length * d.sz := by rw [← Nat.succ_mul]; exact Nat.mul_le_mul_right _ hj
      have m2 : ys.length * d.sz ≤ cap * d.sz := Nat.mul_le_mul_right _ hnc
      obtain ⟨cur', h3, h4, h5⟩ := setCells_row seg (j * d.sz) w cur hg (by omega)
      have hll : cur.toList.length = cap * d.sz := by rw [Array.length_toList, hcs]
      refine ⟨?_, .inr ⟨g, cap, cur', by rw [List.length_set], hb, h3, by rw [List.length_set]; exact hnc, hcm, by rw [h4, hcs], ?_⟩⟩
      · simp only [List.length_append, List.length_take, List.length_drop, List.length_set]
        omega
      · rw [h5, List.length_set, ← ht, List.take_take, Nat.min_eq_left (by omega), List.take_append, List.take_of_length_le (by rw [List.length_append, List.length_take]; omega), List.drop_take]
        congr 2
        rw [List.length_append, List.length_take]; omega
  · refine Kd.reps_set (Reps.imp_ hr fun p c hp => ?_) hj ?_ hs
    · exact d.M_move (fun k hk => setCells_far _ _ _ (fun he => hk.2 (by rw [he]; rfl))) hp
    · exact hM _ _

theorem idx_filter {α : Type} (q : α → Bool) (l : List α) : ∀ (i : Int), (idxM (fun x => some (q x)) l i = some (-1) ∧ l.filter (fun x => !q x) = l ∧ True) ∨ ∃ k : Nat, k < l.length ∧ idxM (fun x => some (q x)) l i = some (i + k) ∧ l.filter (fun x => !q x) = l.take k ++ (l.drop (k + 1)).filter (fun x => !q x) ∧ (l.take (k + 1)).filter (fun x => !q x) = l.take k := by
  induction l with
  | nil => intro i; exact .inl ⟨rfl, rfl, trivial⟩
  | cons x t ih =>
    intro i
    cases hq : q x
    · rcases ih (i + 1) with ⟨h1, h2, _⟩ | ⟨k, h0, h1, h2, h3⟩
      · exact .inl ⟨by simp [idxM, hq, h1], by rw [List.filter_cons]; simp [hq, h2], trivial⟩
      · exact .inr ⟨k + 1, by simp; omega, by simp [idxM, hq, h1]; omega, by rw [List.filter_cons]; simp [hq, h2], by rw [List.take_succ_cons, List.filter_cons]; simp [hq, h3]⟩
    · exact .inr ⟨0, by simp, by simp [idxM, hq], by rw [List.filter_cons]; simp [hq], by simp [hq]⟩
theorem run_clear_cells {P : Program} (w : World) (t e ty : TypeId) (z : Value) (ht : P.underlying t = some (.slice e)) (hv : ∀ w, (zeroValue e).run P w = .ok z w) (h1 : ∀ u ∈ z.cells.toList, u.oneCell' = true) (h0 : 0 < z.cells.size) (b o n c : Nat) (hn : 0 < n)
    (hc : ∀ j, j < n * z.cells.size → (w.cell? ⟨b, o + j, none⟩).isSome = true) (hf : ∀ j, j < n * z.cells.size → w.frozen? ⟨b, o + j, none⟩ = false) :
    ∃ vs : List Value, vs.length = n * z.cells.size ∧ (Builtin.clear_ #[t] ty #[.slice (some ⟨b, o, none⟩) n c]).run P w = .ok (.tuple #[]) (w.setCells b o vs) := by
  have hl : (Builtin.zeroCells z.cells n).toList.length = n * z.cells.size := by simp [Builtin.zeroCells]
  have hone : ∀ v ∈ (Builtin.zeroCells z.cells n).toList, v.oneCell' = true := by
    intro v hv
    simp only [Builtin.zeroCells, Array.toList_map, List.mem_map] at hv
    obtain ⟨i, _, rfl⟩ := hv
    refine h1 _ ?_
    have hi : i % z.cells.size < z.cells.size := Nat.mod_lt _ h0
    rw [getElem!_pos z.cells _ hi]
    exact Array.getElem_mem_toList hi
  have hst := run_storeCells_cells (P := P) b o (Builtin.zeroCells z.cells n).toList 0 w (by rw [hl]; simpa using hc) (by rw [hl]; simpa using hf) hone
  simp only [Nat.add_zero] at hst
  obtain ⟨m, rfl⟩ : ∃ m, n = m + 1 := ⟨n - 1, by omega⟩
  exact ⟨_, hl, by simp [Builtin.clear_, run_underlying ht, hv, hst]⟩

theorem R_tail {α : Type} {d : Kd α} {e : Nat} {w : World} {base g n cap o : Nat} {ok : Nat → Prop} {ys : List α} (h : d.R e w base ok (.slice (some ⟨g, 0, none⟩) n cap) ys) (vs : List Value) (ho1 : n * d.sz ≤ o) (hf : o + vs.length ≤ cap * d.sz) :
    d.R e (w.setCells g o vs) base ok (.slice (some ⟨g, 0, none⟩) n cap) ys := by
  obtain ⟨h0, inner, ho, hr⟩ := h
  refine ⟨h0, inner, ?_, Reps.imp_ hr fun p c hp => d.M_move (fun k hk => setCells_far _ _ _ (fun he => hk.2 (by rw [he]; rfl))) hp⟩
  obtain ⟨hl, hh⟩ := ho
  rcases hh with ⟨hn, h2⟩ | ⟨g', cap', cur, he, hb, hg, hnc, hcm, hcs, ht⟩
  · cases hn
  · simp only [Value.slice.injEq, Option.some.injEq, Addr.mk.injEq] at he
    obtain ⟨⟨rfl, _⟩, rfl, rfl⟩ := he
    obtain ⟨cur', h3, h4, h5⟩ := setCells_row vs o w cur hg (by omega)
    have hll : cur.toList.length = cap * d.sz := by rw [Array.length_toList, hcs]
    refine ⟨hl, .inr ⟨g, cap, cur', rfl, hb, h3, hnc, hcm, by rw [h4, hcs], ?_⟩⟩
    rw [h5, List.append_assoc, List.take_append_of_le_length (by rw [List.length_take]; omega), List.take_take, Nat.min_eq_left ho1, ht]
theorem below_setCells {w0 : World} {g : Nat} (hg : w0.heap.size ≤ g) : ∀ (vs : List Value) (o : Nat) {W : World}, Below w0.heap.size w0 W → Below w0.heap.size w0 (W.setCells g o vs)
  | [], _, _, h => h
  | v :: r, o, W, h => by
    rw [World.setCells]
    exact below_setCells hg r (o + 1) (below_set h hg)
theorem blk_of_R {α : Type} {d : Kd α} {e : Nat} {w : World} {base g n cap : Nat} {ok : Nat → Prop} {ys : List α} (h : d.R e w base ok (.slice (some ⟨g, 0, none⟩) n cap) ys) : ∃ cc : Array Value, w.heap[g]? = some (.cells cc e (0, 0)) ∧ cc.size = cap * d.sz ∧ n ≤ cap := by
  obtain ⟨_, inner, ho, _⟩ := h
  rcases ho.2 with ⟨hn, h2⟩ | ⟨g', cap', cur, he, hb, hg, hnc, hcm, hcs, ht⟩
  · cases hn
  · simp only [Value.slice.injEq, Option.some.injEq, Addr.mk.injEq] at he
    obtain ⟨⟨rfl, _⟩, rfl, rfl⟩ := he
    exact ⟨cur, hg, hcs, hnc⟩
theorem there_blk {w : World} {g : Nat} {cc : Array Value} {t : TypeId} (hu : w.heap[g]? = some (.cells cc t (0, 0))) (o n : Nat) (h : o + n ≤ cc.size) : w.there g o n := fun k hk => ⟨by rw [blk_cell hu, Array.getElem?_eq_getElem (by omega)]; rfl, blk_frozen hu _⟩
theorem take_set_snoc {α : Type} (ys : List α) (i : Nat) (x : α) (h : i < ys.length) : (ys.set i x).take (i + 1) = ys.take i ++ [x] := by
  rw [List.take_succ_eq_append_getElem (by rw [List.length_set]; exact h), List.take_set_of_le (Nat.le_refl _)]
  simp
theorem take_snoc {α : Type} {l : List α} {j : Nat} {x : α} {t : List α} (h : l.drop j = x :: t) : l.take (j + 1) = l.take j ++ [x] := by
  have h1 : l[j]? = some x := by
    have := congrArg List.head? h
    simpa [List.head?_drop] using this
  have hj : j < l.length := (List.getElem?_eq_some_iff.1 h1).1
  rw [List.take_succ_eq_append_getElem hj]
  rw [List.getElem?_eq_getElem hj] at h1
  injection h1 with h1
  rw [h1]
theorem drop_one {α : Type} {l : List α} {j : Nat} {x : α} {t : List α} (h : l.drop j = x :: t) : l.drop (j + 1) = t := by rw [← List.drop_drop, h]; rfl
theorem idxM_range {α : Type} (p : α → Option Bool) : ∀ (l : List α) (i r : Int), idxM p l i = some r → r = -1 ∨ ∃ k : Nat, k < l.length ∧ r = i + k := by
  intro l
  induction l with
  | nil => intro i r h; simp [idxM] at h; exact .inl h.symm
  | cons x t ih =>
    intro i r h
    simp only [idxM] at h
    obtain ⟨b, hb, h⟩ := Option.bind_eq_some_iff.mp h
    cases b
    · rw [if_neg (by decide)] at h
      rcases ih _ _ h with h1 | ⟨k, h1, h2⟩
      · exact .inl h1
      · exact .inr ⟨k + 1, by simp; omega, by omega⟩
    · rw [if_pos rfl] at h
      injection h with h
      exact .inr ⟨0, by simp, by omega⟩
theorem idxM_mono {α : Type} {p p' : α → Option Bool} (h : ∀ x, LeO (p x) (p' x)) : ∀ (l : List α) (i : Int), LeO (idxM p l i) (idxM p' l i)
  | [], _ => LeO.refl _
  | x :: t, i => by
    simp only [idxM]
    exact LeO.bind (h x) (fun b => LeO.ite (LeO.refl _) (idxM_mono h t (i + 1)))
theorem alloc_new2 (w : World) (o o' : Obj) : ((w.alloc o).alloc o').heap[w.heap.size + 1]? = some o' := by
  have h := heap_alloc_new (w.alloc o) o'
  have hs : (w.alloc o).heap.size = w.heap.size + 1 := Array.size_push _
  rw [hs] at h
  exact h
theorem setCells_full {w : World} {g : Nat} {t : TypeId} {cs : Array Value} (h : w.heap[g]? = some (.cells cs t (0, 0))) (vs : Array Value) (hl : vs.size = cs.size) : (w.setCells g 0 vs.toList).heap[g]? = some (.cells vs t (0, 0)) := by
  obtain ⟨cur', h3, h4, h5⟩ := setCells_row vs.toList 0 w cs h (by simp; omega)
  have : cur' = vs := by
    apply Array.toList_inj.mp
    rw [h5]
    simp [hl]
  rw [this] at h3
  exact h3
end Go.Proofs.YtfmhclbcoladpaaW.PrintX
