/- PolicyFirst: the first rule that fits is picked; no conditions. -/
import Derived.Test.YtclddmjfgceemaaXPolicy
import Derived.Test.YtclddmjfgceemaaQx15
namespace Go.Proofs.Ytclddmjfgceemaa.Pure
open Go.RowKit Go.Proofs.Ytclddmjfgceemaa.Q Go.Proofs.YtclddmjfgceemaaW.PrintWords Go.Proofs.YtclddmjfgceemaaW.PrintLast Go.Proofs.YtclddmjfgceemaaW.PrintMore Go.Proofs.YtclddmjfgceemaaW.PrintX
set_option linter.unusedVariables false
set_option linter.unusedSimpArgs false
theorem first_loop (l : List S31) (v0 v1 : Int) (as_ : List Int) (v3 : Int) (ha : as_.length ≤ 100) (hl : l.length ≤ 30) : ∀ (d k i : Nat) (p : Int × Int × Int × Int × Int × Int × Bool), i + d = l.length → d + 150 < k → p = pickT (fitsB v0 v1 as_ v3) (l.drop i) →
    ridgewaylaw10_PolicyFirst.l0 k l true p.2.2.2.2.2.2 (i : Int) v0 v1 as_ v3 p.1 p.2.1 p.2.2.1 p.2.2.2.1 p.2.2.2.2.1 p.2.2.2.2.2.1 = some true := by
  intro d
  induction d with
  | zero =>
    intro k i p h0 hk hp
    obtain ⟨k, rfl⟩ : ∃ m, k = m + 1 := ⟨k - 1, by omega⟩
    rw [List.drop_eq_nil_of_le (by omega)] at hp
    subst hp
    simp only [ridgewaylaw10_PolicyFirst.l0]
    rw [if_neg (by omega)]
    rfl
  | succ d ih =>
    intro k i p h0 hk hp
    obtain ⟨k, rfl⟩ : ∃ m, k = m + 1 := ⟨k - 1, by omega⟩
    simp only [ridgewaylaw10_PolicyFirst.l0]
    rw [if_pos (by omega), if_pos (by omega), fits_eq k _ v0 v1 as_ v3 ha (by omega)]
    simp only [Option.bind_some]
    rw [drop_rd31 l i (by omega)] at hp
    unfold pickT at hp
    rw [List.find?_cons] at hp
    cases hq : fitsB v0 v1 as_ v3 (rd_T31 l (i : Int))
    · rw [hq] at hp
      rw [if_neg (by decide), w64 (n := (i : Int) + 1) (by omega) (by omega), show ((i : Int) + 1) = ((i + 1 : Nat) : Int) by omega]
      exact ih k (i + 1) p (by omega) (by omega) hp
    · rw [hq] at hp
      subst hp
      simp [tup]
theorem PolicyFirst : ridgewaylaw10_PolicyFirst.Pure := by
  intro l0 x1 _ _
  refine ⟨400, ?_⟩
  unfold ridgewaylaw10_PolicyFirst.f
  rw [show ridgewaylaw10_awake.f = some true from rfl]
  simp only [Option.bind_some, ridgewaylaw10_PolicyFirst.j0]
  by_cases h : (l0.length : Int) > 30
  · rw [if_pos h, if_pos trivial]
  · rw [if_neg h]
    by_cases h2 : (x1.f1.length : Int) > 100
    · rw [if_pos (decide_eq_true h2)]
    · rw [if_neg (by simpa using h2), pick_eq 399 l0 _ _ _ _ (by omega) (by omega) (by omega)]
      simp only [Option.bind_some]
      have := first_loop l0 x1.f0.f0 x1.f0.f1 x1.f1 x1.f2 (by omega) (by omega) l0.length 399 0 _ (by omega) (by omega) rfl
      exact_mod_cast this
end Go.Proofs.Ytclddmjfgceemaa.Pure
