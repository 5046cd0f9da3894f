/- Words of ours for laws that are walked by hand: an element of a row of octets written; rows that were made one behind the other lie apart. No conditions but those that each states. -/
import Derived.Test.YtfbndolhocojiaaDoorXLaw
set_option linter.unusedVariables false
set_option linter.unusedSimpArgs false
namespace Go.Proofs.YtfbndolhocojiaaDoorW.PrintX
open Go.RowKit Go.Proofs.YtfbndolhocojiaaDoorW.PrintWords Go.Proofs.YtfbndolhocojiaaDoorW.PrintLast Go.Proofs.YtfbndolhocojiaaDoorW.PrintMore
theorem R_set8 {e : Nat} {w : World} {base g n cap j : Nat} {ok : Nat → Prop} {ys : List Int} (h : (Kd.int .u8).R e w base ok (.slice (some ⟨g, 0, none⟩) n cap) ys) (hj : j < ys.length) (x : Int) :
    (Kd.int .u8).R e (w.setCell ⟨g, j, none⟩ (.int .u8 x)) base ok (.slice (some ⟨g, 0, none⟩) n cap) (ys.set j x) := by
  have h2 := R_write h hj x [.int .u8 x] rfl (fun w ok => rfl)
  have hs : (Kd.int .u8).sz = 1 := rfl
  rw [hs, Nat.mul_one] at h2
  exact h2
/-- A row that is there when another one is made lies apart from it. -/
theorem R_elder {α β : Type} {d : Kd α} {d' : Kd β} {e e' : Nat} {W w1 : World} {b : Nat} {ok ok' : Nat → Prop} {u v : Value} {ys : List α} {xs : List β} (hu : d.R e W b ok u ys) (hv : d'.R e' w1 W.heap.size ok' v xs) (hb : Below W.heap.size W w1) :
    d.R e w1 b (fun k => some k ≠ v.ownBlock) u ys := by
  obtain ⟨inner, ho⟩ := Kd.R_own hv
  refine Kd.R_mono (Kd.R_below (Kd.R_bound hu) hb) (fun k hk he => ?_)
  have h1 := own_base ho k he.symm
  have h2 := hk.2.2.1
  omega
theorem R_young {α β : Type} {d : Kd α} {d' : Kd β} {e e' : Nat} {W w1 : World} {b : Nat} {ok ok' : Nat → Prop} {u v : Value} {ys : List α} {xs : List β} (hu : d.R e W b ok u ys) (hv : d'.R e' w1 W.heap.size ok' v xs) :
    d'.R e' w1 W.heap.size (fun k => some k ≠ u.ownBlock) v xs := Kd.R_mono (Kd.R_newR hv hu) (fun _ hk => hk.2)
theorem R_far8 {e : Nat} {w : World} {base g j : Nat} {n c : Nat} {v : Value} {xs : List Int} (h : (Kd.int .u8).R e w base (fun k => some k ≠ (Value.slice (some ⟨g, 0, none⟩) n c).ownBlock) v xs) (x : Value) :
    (Kd.int .u8).R e (w.setCell ⟨g, j, none⟩ x) base (fun k => some k ≠ (Value.slice (some ⟨g, 0, none⟩) n c).ownBlock) v xs :=
  Kd.R_far (p := ⟨g, j, none⟩) h (fun k hk he => hk (by rw [he]; rfl)) x
theorem set_below {w0 W : World} {g j : Nat} (x : Value) (hb : Below w0.heap.size w0 W) (hg : w0.heap.size ≤ g) : Below w0.heap.size w0 (W.setCell ⟨g, j, none⟩ x) := below_set hb hg
theorem new1_cell {w w' : World} {cs : Array Value} {t : TypeId} (hb : Below (w.alloc (.cells cs t)).heap.size (w.alloc (.cells cs t)) w') (i : Nat) : w'.cell? ⟨w.heap.size, i, none⟩ = cs[i]? := blk_cell (blk_below (heap_alloc_new w _) hb) i
theorem new2_cell {w w' : World} {cs : Array Value} {t : TypeId} {o : Obj} (hb : Below ((w.alloc (.cells cs t)).alloc o).heap.size ((w.alloc (.cells cs t)).alloc o) w') (i : Nat) : w'.cell? ⟨w.heap.size, i, none⟩ = cs[i]? := blk_cell (blk_below (blk_alloc (heap_alloc_new w _) o) hb) i
theorem new2b_cell {w w' : World} {cs : Array Value} {t : TypeId} {o : Obj} (hb : Below ((w.alloc o).alloc (.cells cs t)).heap.size ((w.alloc o).alloc (.cells cs t)) w') (i : Nat) : w'.cell? ⟨w.heap.size + 1, i, none⟩ = cs[i]? := by
  have hu := blk_below (heap_alloc_new (w.alloc o) _) hb
  rw [show (w.alloc o).heap.size = w.heap.size + 1 by simp only [World.alloc, Array.size_push]] at hu
  exact blk_cell hu i
end Go.Proofs.YtfbndolhocojiaaDoorW.PrintX
