/- OctetTake: what is taken and what is left is all, of any octets and number; what is got and put again is what was taken; no conditions. -/
import Derived.Test.YthaiiglklgchlaaXOctet01
import Derived.Test.YthaiiglklgchlaaQx5
namespace Go.Proofs.Ythaiiglklgchlaa.Pure
open Go.RowKit Go.Proofs.Ythaiiglklgchlaa.Q Go.Proofs.YthaiiglklgchlaaW.PrintWords Go.Proofs.YthaiiglklgchlaaW.PrintLast Go.Proofs.YthaiiglklgchlaaW.PrintMore Go.Proofs.YthaiiglklgchlaaW.PrintX
set_option linter.unusedVariables false
set_option linter.unusedSimpArgs false
theorem OctetTake : ridgewaylaw01_OctetTake.Pure := by
  intro l n _ _ hwf _
  have ho := octs_of_wf hwf
  refine ⟨20, ?_⟩
  unfold ridgewaylaw01_OctetTake.f
  rw [awake01 20 (by omega)]
  simp only [Option.bind_some]
  by_cases hm : (l.length : Int) > 400
  · rw [if_pos hm]
  rw [if_neg hm]
  by_cases hn : n < 0 ∨ n > l.length
  · -- nothing is taken, and nothing is got
    rw [octet_takeF l n hn]
    simp only [Option.bind_some]
    have hg := octet_getF 19 l n (by omega) ho (by omega)
    have e0 : (false != decide (n ≤ (l.length : Int))) = false ∨ ¬ n ≥ 0 := by
      rcases hn with h | h
      · exact Or.inr (by omega)
      · exact Or.inl (by rw [decide_eq_false (by omega)]; rfl)
    have step : ∀ b : Bool, b = false → ridgewaylaw01_OctetTake.j0 20 l n true [] [] false b = some true := by
      intro b hb
      subst hb
      simp only [ridgewaylaw01_OctetTake.j0]
      rw [if_neg (by decide), hg]
      simp only [Option.bind_some]
      rw [if_neg (by decide)]
      simp [ridgewaylaw01_OctetTake.j1, ridgewaylaw01_OctetTake.j2]
    by_cases h0 : n ≥ 0
    · rw [if_pos h0]
      exact step _ (e0.resolve_right (by omega))
    · rw [if_neg h0]
      exact step _ rfl
  · have h0 : 0 ≤ n := by omega
    have hl : n ≤ l.length := by omega
    rw [octet_takeS l n h0 hl]
    simp only [Option.bind_some]
    rw [if_pos h0, decide_eq_true hl]
    simp only [ridgewaylaw01_OctetTake.j0]
    rw [if_neg (by decide)]
    obtain ⟨j, rfl⟩ := Int.eq_ofNat_of_zero_le h0
    rw [Int.toNat_natCast]
    have hj : j ≤ l.length := by omega
    have htl : (l.take j).length = j := by rw [List.length_take]; omega
    -- the end: what is taken, and what is left, are all
    have last : ∀ (k : Nat) (v : Int), ridgewaylaw01_OctetTake.j2 (k + 1) l j true (l.take j) (l.drop j) true v false = some true := by
      intro k v
      simp only [ridgewaylaw01_OctetTake.j2]
      rw [if_neg (by decide), if_pos trivial, if_pos trivial, if_pos (by rw [htl])]
      rw [if_pos (by rw [strOfNums_size, strOfNums_size, List.length_take, List.length_drop]; omega), str_app, List.take_append_drop]
      simp
    by_cases h4 : 1 ≤ j ∧ j ≤ 4
    · rw [octet_getS 19 l j (by omega) ho (by omega) (by omega) hl]
      simp only [Option.bind_some, Int.toNat_natCast]
      rw [if_pos trivial, if_pos (by omega), decide_eq_true (show (j : Int) ≤ 4 by omega)]
      simp only [ridgewaylaw01_OctetTake.j1]
      rw [if_neg (by decide), if_pos trivial, octet_putN 18 _ _ j (by omega) h4.1 h4.2 (by simp)]
      simp only [Option.bind_some, List.nil_append]
      have hpg := putL_getL (l.take j) (ho.take j)
      rw [htl] at hpg
      rw [hpg, if_pos rfl, bne_self_eq_false]
      exact last _ _
    · rw [octet_getF 19 l j (by omega) ho (by omega)]
      simp only [Option.bind_some]
      rw [if_pos trivial]
      have hj1 : ridgewaylaw01_OctetTake.j1 19 l j true (l.take j) (l.drop j) true 0 [] false false = some true := by
        simp only [ridgewaylaw01_OctetTake.j1]
        rw [if_neg (by decide), if_neg (by decide)]
        exact last _ _
      by_cases h1 : (j : Int) ≥ 1
      · rw [if_pos h1, decide_eq_false (show ¬ (j : Int) ≤ 4 by omega)]
        exact hj1
      · rw [if_neg h1]
        exact hj1
end Go.Proofs.Ythaiiglklgchlaa.Pure
