/- Words of ours for laws that are walked by hand: rows in blocks of their own. No conditions but those that each states. -/
import Derived.Test.YtfbndolhocojiaaDoorXLawB
set_option linter.unusedVariables false
set_option linter.unusedSimpArgs false
namespace Go.Proofs.YtfbndolhocojiaaDoorW.PrintX
open Go.RowKit Go.Proofs.YtfbndolhocojiaaDoorW.PrintWords Go.Proofs.YtfbndolhocojiaaDoorW.PrintLast Go.Proofs.YtfbndolhocojiaaDoorW.PrintMore
/-- A row in the block g: what is ok is g alone. -/
theorem R_at8 {e : Nat} {w : World} {base g n c : Nat} {ok : Nat → Prop} {xs : List Int} (h : (Kd.int .u8).R e w base ok (.slice (some ⟨g, 0, none⟩) n c) xs) : (Kd.int .u8).R e w base (fun k => k = g) (.slice (some ⟨g, 0, none⟩) n c) xs :=
  Kd.R_of_own (Kd.own_of_R h) (fun k hk => by simpa [Value.ownBlock] using hk.symm)
theorem R_off8 {e : Nat} {w : World} {base g g' j n c : Nat} {xs : List Int} (h : (Kd.int .u8).R e w base (fun k => k = g) (.slice (some ⟨g, 0, none⟩) n c) xs) (hne : g ≠ g') (u : Value) : (Kd.int .u8).R e (w.setCell ⟨g', j, none⟩ u) base (fun k => k = g) (.slice (some ⟨g, 0, none⟩) n c) xs :=
  Kd.R_far (p := ⟨g', j, none⟩) h (fun k hk he => hne (hk.symm.trans he)) u
theorem R_cell8 {e : Nat} {w : World} {base g n c j : Nat} {ok : Nat → Prop} {xs : List Int} (h : (Kd.int .u8).R e w base ok (.slice (some ⟨g, 0, none⟩) n c) xs) (hj : j < xs.length) : w.cell? ⟨g, j, none⟩ = some (.int .u8 (rd xs (j : Int))) ∧ w.frozen? ⟨g, j, none⟩ = false ∧ g < w.heap.size := by
  obtain ⟨cc, h1, h2, h3⟩ := blk_of_R h
  obtain ⟨A, c', hv, hl, hC⟩ := Kd.R_reads h
  injection hv with hA hn hc
  subst hA
  obtain ⟨ad, ha, hx⟩ := Kd.at_int hC (j : Int) (by omega) (by omega)
  injection ha with ha
  subst ha
  rw [Int.toNat_natCast, add_plain] at hx
  exact ⟨hx, blk_frozen h1 _, blk_lt h1⟩
end Go.Proofs.YtfbndolhocojiaaDoorW.PrintX
