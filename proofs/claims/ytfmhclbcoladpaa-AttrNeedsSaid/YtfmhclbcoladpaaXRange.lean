/- A range over a function whose iterator keeps a state of its own in cells: the loop's invariant is a plain statement on worlds (I between two rounds, I' behind a round that goes on, Ix behind a round that leaves by return); the iterator's walk carries it. Conditions: those in each statement. -/
import Derived.RangeFuncNested
import Derived.RangeFuncBound
import Derived.RangeFuncCalls
import Derived.RangeFuncLeaves
import Derived.Shelf.Abstract
import Derived.WalkKit
import Derived.OwnWalkIn
import Derived.TacticsInMore
import Derived.LoopNIn
import Derived.LoopIn
import Derived.Test.YtfmhclbcoladpaaXLawB
import Derived.Test.YtfmhclbcoladpaaWKept
namespace Go.Proofs.YtfmhclbcoladpaaW.PrintX
open Go.RowKit Go.Proofs.YtfmhclbcoladpaaW.PrintWords Go.Proofs.YtfmhclbcoladpaaW.PrintLast
set_option linter.unusedVariables false
set_option linter.unusedSimpArgs false
variable {F : Fence} {n : Nat} {P : Program}
/-- The loop's two blocks of book-keeping (at B0, B0 + 1) turn, or new blocks are made. -/
def Turn (B0 : Nat) (W W' : World) : Prop := Kept W W' (fun k => k = B0 ∨ k = B0 + 1) ∧ ∀ w0 : World, w0.heap.size ≤ B0 → Below w0.heap.size w0 W → Below w0.heap.size w0 W'
theorem Turn.below {B0 : Nat} {W W' : World} (h : Below W.heap.size W W') : Turn B0 W W' := ⟨Kept.of_below h _, fun w0 _ hb => below_step hb h⟩
theorem Turn.put {B0 l : Nat} {W : World} (o : Obj) (hl : l < W.heap.size) (h : l = B0 ∨ l = B0 + 1) : Turn B0 W (W.putObj l o) :=
  ⟨⟨by simp, fun i _ hn => World.putObj_heap_other (fun e => hn (by rcases h with h | h <;> omega))⟩, fun w0 hw hb => hb.grown (grownBy_putObj' W l o) hb.size (fun k e => by injection e with e; subst e; rcases h with h | h <;> omega)⟩
/-- A round or the iterator leaves the two blocks as they were. -/
def Fixed (B0 : Nat) (W W' : World) : Prop := W'.heap[B0]? = W.heap[B0]? ∧ W'.heap[B0 + 1]? = W.heap[B0 + 1]?
theorem Fixed.refl {B0 : Nat} {W : World} : Fixed B0 W W := ⟨rfl, rfl⟩
theorem Fixed.then_ {B0 : Nat} {W W1 W2 : World} (h : Fixed B0 W W1) (k : Fixed B0 W1 W2) : Fixed B0 W W2 := ⟨k.1.trans h.1, k.2.trans h.2⟩
theorem Fixed.below {B0 : Nat} {W W1 W2 : World} (h : Fixed B0 W W1) (hl : B0 + 1 < W1.heap.size) (hb : Below W1.heap.size W1 W2) : Fixed B0 W W2 := h.then_ ⟨hb.block _ (by omega), hb.block _ hl⟩
theorem Fixed.alloc {B0 : Nat} {W W1 : World} (h : Fixed B0 W W1) (hl : B0 + 1 < W1.heap.size) (o : Obj) : Fixed B0 W (W1.alloc o) := h.below hl (below_alloc (Below.refl _ _) o)
theorem Fixed.drewN {B0 : Nat} {W W1 : World} (h : Fixed B0 W W1) (m : Nat) : Fixed B0 W (W1.drewN m) := h
theorem Fixed.set {B0 : Nat} {W W1 : World} (h : Fixed B0 W W1) {p : Addr} (h0 : p.block ≠ B0) (h1 : p.block ≠ B0 + 1) (u : Value) : Fixed B0 W (W1.setCell p u) :=
  h.then_ ⟨Below.heap_setCell W1 p u _ (fun e => h0 e.symm), Below.heap_setCell W1 p u _ (fun e => h1 e.symm)⟩
theorem Fixed.grown {B0 : Nat} {W W1 W2 : World} {row : Option Nat} (h : Fixed B0 W W1) (hl : B0 + 1 < W1.heap.size) (hg : W1.grownBy W2 row) (h0 : some B0 ≠ row) (h1 : some (B0 + 1) ≠ row) : Fixed B0 W W2 := h.then_ ⟨hg.block _ (by omega) h0, hg.block _ hl h1⟩
/-- How a round's body may be left. -/
def bodyEnd {σ : Type} (B0 : Nat) (I' Ix : σ → World → Prop) (s : σ) (W : World) : Exit → Act → World → Prop
  | .normal, _, W' => Fixed B0 W W' ∧ I' s W'
  | .ret, _, W' => Fixed B0 W W' ∧ Ix s W'
  | _, _, _ => False
/-- What the iterator's walk shows, for any book-keeping (B, Bx). -/
def IterOk {σ : Type} (F : Fence) (n : Nat) (P : Program) (gf : Nat) (lb : Array Value) (B0 : Nat) (I I' Ix : σ → World → Prop) (X : σ → Array Value → World → Prop) (Fin : σ → Prop) (s0 : σ) : Prop :=
  ∀ (l : Nat) (B Bx : World → Prop), (∀ W W', B W → Fixed B0 W W' → B W') → (∀ W, B W → B0 + 1 < W.heap.size) →
    (∀ s xs W, I s W → B W → X s xs W → YieldAt F (n - 1) P l xs W fun e W' => (e = .returned (.bool true) ∧ I' s W' ∧ B W') ∨ (e = .returned (.bool false) ∧ Ix s W' ∧ Bx W')) →
    ∀ W, I s0 W → B W → CallsIn F n P gf (#[.func (.yield l) #[] #[]] ++ lb) W fun e W' => (∃ v, e = .returned v) ∧ ((∃ s, Fin s ∧ I s W' ∧ B W') ∨ (∃ s, Ix s W' ∧ Bx W'))
theorem range_seq {σ : Type} {g : Operand} {ps : Array Tmp} {assign body : Code} {Q : Exit → Act → World → Prop} {a : Act} {w : World}
    (hro : F.round = none) (h1 : 1 ≤ n) {gf : Nat} {lb : Array Value} (hg : a.eval g = .func (.func gf) #[] lb) (hFg : F.fn gf) (eg : ∀ args w, (callFunc gf args).run P w = .ok (.enter gf args) w)
    (I I' Ix : σ → World → Prop) (X : σ → Array Value → World → Prop) (Fin : σ → Prop) (s0 : σ)
    (hI : ∀ s W W', I s W → Turn w.heap.size W W' → I s W') (hI' : ∀ s W W', I' s W → Turn w.heap.size W W' → I' s W') (hIx : ∀ s W W', Ix s W → Turn w.heap.size W W' → Ix s W') (hXt : ∀ s xs W W', X s xs W → Turn w.heap.size W W' → X s xs W') (h0 : I s0 w)
    (hround : ∀ (l : Nat) (s : σ) (xs : Array Value) (W : World), I s W → X s xs W → xs.size = ps.size ∧ ∃ a₁ : Act,
      (∀ K : Act → World → Prop, K a₁ W → assign.wpIn (F.inRound l) (n - 1 - 1) P (Exit.then K (fun _ _ _ => False)) { tmps := (ps.zip xs).foldl (fun t (p, v) => t.setIfInBounds p v) a.tmps, defers := [] } W) ∧
      ∀ W1, I s W1 → X s xs W1 → w.heap.size + 1 < W1.heap.size → body.wpIn (F.inRound l) (n - 1 - 1) P (bodyEnd w.heap.size I' Ix s W1) a₁ W1)
    (hit : IterOk F (n - 1) P gf lb w.heap.size I I' Ix X Fin s0)
    (hdone : ∀ (s : σ) (W : World), Fin s → I s W → W.heap[w.heap.size]? = some (.deferred (some [])) → Q .normal { a with defers := { target := .collected w.heap.size, args := #[] } :: a.defers } W)
    (hstop : ∀ (s : σ) (W : World), Ix s W → W.heap[w.heap.size]? = some (.deferred (some [])) → Code.ret.wpIn F n P Q { a with defers := { target := .collected w.heap.size, args := #[] } :: a.defers } W) :
    (Code.rangeFunc g ps assign body).wpIn F n P Q a w := by
  refine wpIn_rangeFunc ?_
  intro fn hfn
  rw [hro]
  obtain ⟨rec, hrec⟩ : ∃ rec : LoopState → Option Code → Loop, rec = fun st pe => { state := st, pending := pe, fn, tmps := a.tmps, params := ps, assign, body, defers := w.heap.size } := ⟨_, rfl⟩
  obtain ⟨W1, hW1⟩ : ∃ W1, (w.alloc (.deferred (some []))).alloc (.loop (rec .ready none)) = W1 := ⟨_, rfl⟩
  have hL1 : W1.heap[w.heap.size + 1]? = some (.loop (rec .ready none)) := by
    rw [← hW1]
    have h := World.alloc_heap_new (w.alloc (.deferred (some []))) (.loop (rec .ready none))
    rwa [World.size_alloc] at h
  have hD1 : W1.heap[w.heap.size]? = some (.deferred (some [])) := by
    rw [← hW1]
    exact (Below.heap_alloc _ _ _ (by simp)).trans (World.alloc_heap_new w _)
  have hI1 : I s0 W1 := by
    rw [← hW1]
    exact hI _ _ _ h0 (Turn.below (below_alloc (below_alloc (Below.refl _ _) _) _))
  refine ⟨w.heap.size + 1, [{ target := .collected w.heap.size, args := #[] }], W1, { target := .fn (.func gf) lb, args := #[.func (.yield (w.heap.size + 1)) #[] #[]] }, W1, gf, #[.func (.yield (w.heap.size + 1)) #[] #[]] ++ lb, W1, ?_, ?_, ?_, ?_, fun _ => h1, ?_⟩
  · rw [← hW1, hrec]
    exact run_enterLoop_outer _ _ _ _ _
  · simp only [resolve, hg]
    simp [go_sem]
  · intro f' hf'
    simp [Target.leads] at hf'
    subst hf'
    exact hFg
  · simp [invoke, go_sem, eg]
  have up : ∀ {W : World} {o : Obj}, W.heap[w.heap.size + 1]? = some o → w.heap.size + 1 < W.heap.size := fun h => (Array.getElem?_eq_some_iff.1 h).1
  refine (hit (w.heap.size + 1) (fun W => W.heap[w.heap.size + 1]? = some (.loop (rec .ready none)) ∧ W.heap[w.heap.size]? = some (.deferred (some []))) (fun W => W.heap[w.heap.size + 1]? = some (.loop (rec .done (some .ret))) ∧ W.heap[w.heap.size]? = some (.deferred (some [])))
    (fun W W' hB hk => ⟨hk.2.trans hB.1, hk.1.trans hB.2⟩) (fun W hB => up hB.1) ?_ W1 hI1 ⟨hL1, hD1⟩).mono ?_
  · rintro s xs W hi ⟨hlW, hDW⟩ hX
    obtain ⟨hsz, a₁, has, hbd⟩ := hround (w.heap.size + 1) s xs W hi hX
    have hy := run_yield (P := P) (args := xs) hlW (by rw [hrec]; exact hsz)
    have hlt := up hlW
    have hbeg := run_beginRound (P := P) hlW (by rw [hrec])
    have hl2 : (W.putObj (w.heap.size + 1) (.loop { rec .ready none with state := .busy })).heap[w.heap.size + 1]? = some (.loop { rec .ready none with state := .busy }) := World.putObj_heap_same hlt
    have hD2 : (W.putObj (w.heap.size + 1) (.loop { rec .ready none with state := .busy })).heap[w.heap.size]? = some (.deferred (some [])) := (World.putObj_heap_other (by omega)).trans hDW
    have hi2 := hI _ _ _ hi (Turn.put (.loop { rec .ready none with state := .busy }) hlt (.inr rfl))
    have hX2 := hXt _ _ _ _ hX (Turn.put (.loop { rec .ready none with state := .busy }) hlt (.inr rfl))
    have e0 : rec .ready none = { state := .ready, pending := none, fn, tmps := a.tmps, params := ps, assign, body, defers := w.heap.size } := by rw [hrec]
    rw [e0] at hy
    refine ⟨fn, _, assign, body, hy, roundIn_of_wpIn hfn (has _ ⟨_, hbeg, ?_⟩)⟩
    refine wpIn_mono (hbd _ hi2 hX2 (by simpa using hlt)) ?_
    intro e a3 W3 hp
    have fin : ∀ jump : Option Code, Fixed w.heap.size (W.putObj (w.heap.size + 1) (.loop { rec .ready none with state := .busy })) W3 →
        (Instr.endRound (w.heap.size + 1) jump).run P W3 = .ok (.bool jump.isNone) (W3.putObj (w.heap.size + 1) (.loop (rec (if jump.isNone then .ready else .done) jump))) ∧ w.heap.size + 1 < W3.heap.size ∧
        (W3.putObj (w.heap.size + 1) (.loop (rec (if jump.isNone then .ready else .done) jump))).heap[w.heap.size + 1]? = some (.loop (rec (if jump.isNone then .ready else .done) jump)) ∧ (W3.putObj (w.heap.size + 1) (.loop (rec (if jump.isNone then .ready else .done) jump))).heap[w.heap.size]? = some (.deferred (some [])) := fun jump hk => by
      have hl3 := hk.2.trans hl2
      have hr := run_endRound (P := P) jump hl3
      have e1 : ({ ({ rec .ready none with state := .busy } : Loop) with state := if jump.isNone then .ready else .done, pending := jump } : Loop) = rec (if jump.isNone then .ready else .done) jump := by rw [hrec]
      rw [e1] at hr
      exact ⟨hr, up hl3, World.putObj_heap_same (up hl3), (World.putObj_heap_other (by omega)).trans (hk.1.trans hD2)⟩
    cases e with
    | normal =>
      obtain ⟨hr, hl3, hl4, hD4⟩ := fin none hp.1
      exact ⟨_, _, hr, .inl ⟨rfl, hI' _ _ _ hp.2 (Turn.put _ hl3 (.inr rfl)), hl4, hD4⟩⟩
    | ret =>
      obtain ⟨hr, hl3, hl4, hD4⟩ := fin (some .ret) hp.1
      exact ⟨_, _, hr, .inr ⟨rfl, hIx _ _ _ hp.2 (Turn.put _ hl3 (.inr rfl)), hl4, hD4⟩⟩
    | exit id => exact hp.elim
    | goto t => exact hp.elim
    | panic ch => exact hp.elim
    | outgrown => exact hp.elim
  · rintro e W2 ⟨⟨v, rfl⟩, (⟨s, hF, hi, hl2, hD2⟩ | ⟨s, hi, hl2, hD2⟩)⟩
    · have hr := run_endLoop (P := P) hl2 (by rw [hrec]; simp)
      have e1 : (rec .ready none).pending = none := by rw [hrec]
      rw [e1] at hr
      exact ⟨none, _, hr, hdone s _ hF (hI _ _ _ hi (Turn.put _ (up hl2) (.inr rfl))) ((World.putObj_heap_other (by omega)).trans hD2)⟩
    · have hr := run_endLoop (P := P) hl2 (by rw [hrec]; simp)
      have e1 : (rec .done (some .ret)).pending = some .ret := by rw [hrec]
      rw [e1] at hr
      exact ⟨some .ret, _, hr, hstop s _ (hIx _ _ _ hi (Turn.put _ (up hl2) (.inr rfl))) ((World.putObj_heap_other (by omega)).trans hD2)⟩
/-- An operation that neither calls nor defers, in a round: as everywhere. -/
theorem listIn_of_list {ops : Array Oper} {rest : List Oper} {o : Oper} {a : Act} {w : World} {Q : Exit → Act → World → Prop} (hg : o.guard = none) (hd : ∀ c, o.op ≠ .defer c)
    (ho : ∃ xs ts, o.op = .call { callee := .builtin .append, args := xs, argTypes := ts })
    (h : wpList P #[o] (fun e a w => match e with | .normal => wpListIn F n P ops Q rest a w | _ => False) [o] a w) : wpListIn F n P ops Q (o :: rest) a w := by
  refine wpListIn_plain hg fun K hK => ?_
  have h1 : o.wp P a w (fun a w => wpListIn F n P ops Q rest a w) (fun e a w => match e with | .normal => wpListIn F n P ops Q rest a w | _ => False) := by
    simp only [wpList, Region.wanted, hg, if_true] at h
    rcases h with h | ⟨_, a1, w1, h⟩
    · exact h
    · exact h.elim
  obtain ⟨xs, ts, hop⟩ := ho
  unfold Oper.wpIn
  refine ⟨by simp [Oper.about, hop, resolve, Target.leads, Sem.run_pure], ?_⟩
  rw [Oper.semAt_plain F _ _ hd]
  unfold Oper.wp at h1
  revert h1
  generalize hrun : (execOp a.eval o).run P w = res
  intro h1
  simp only [execOp, hop, resolve, invoke, builtin, Sem.run_bind, Sem.run_pure, Result.andThen] at hrun
  cases ha : Sem.run P (Builtin.append_ ts o.type (Array.map a.eval xs)) w with
  | ok v w' =>
    rw [ha] at hrun
    simp only [Result.andThen] at hrun
    subst hrun
    exact hK _ _ h1
  | halt e w' =>
    rw [ha] at hrun
    simp only [Result.andThen] at hrun
    subst hrun
    cases e <;> exact h1.elim
end Go.Proofs.YtfmhclbcoladpaaW.PrintX
