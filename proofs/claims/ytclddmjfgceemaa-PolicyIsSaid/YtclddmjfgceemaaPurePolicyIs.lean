/- PolicyIs: of any rules, view and class what may be, fits, is picked, is total, and can be come to, is what the document says; no conditions. -/
import Derived.Test.YtclddmjfgceemaaXPolicyRef
import Derived.Test.YtclddmjfgceemaaQx14
namespace Go.Proofs.Ytclddmjfgceemaa.Pure
open Go.RowKit Go.Proofs.Ytclddmjfgceemaa.Q Go.Proofs.YtclddmjfgceemaaW.PrintWords Go.Proofs.YtclddmjfgceemaaW.PrintLast Go.Proofs.YtclddmjfgceemaaW.PrintMore Go.Proofs.YtclddmjfgceemaaW.PrintX
set_option linter.unusedVariables false
set_option linter.unusedSimpArgs false
theorem is_loop (l : List S31) (c : Int) (b : Bool) (v0 v1 : Int) (as_ : List Int) (v3 : Int) (ha : as_.length ≤ 100) (hl : l.length ≤ 30) : ∀ (d k i : Nat), i + d = l.length → d + 250 < k → ridgewaylaw10_PolicyIs.l0 k l c b true (i : Int) v0 v1 as_ v3 = some true := by
  intro d
  induction d with
  | zero =>
    intro k i h0 hk
    obtain ⟨k, rfl⟩ : ∃ m, k = m + 1 := ⟨k - 1, by omega⟩
    simp only [ridgewaylaw10_PolicyIs.l0]
    have hr := reachL_le c l
    rw [if_neg (by omega), pick_eq k l v0 v1 as_ v3 ha (by omega) (by omega), pick_ref k l v0 v1 as_ v3 ha (by omega) (by omega), reach_eq l c (by omega), reach_ref k l c (by omega) (by omega)]
    simp only [Option.bind_some]
    rw [same_eq k _ (by omega) (by omega)]
    simp
  | succ d ih =>
    intro k i h0 hk
    obtain ⟨k, rfl⟩ : ∃ m, k = m + 1 := ⟨k - 1, by omega⟩
    simp only [ridgewaylaw10_PolicyIs.l0]
    obtain ⟨s, hs1, hs2⟩ := sane10 k (rd_T31 l (i : Int)).f0 (rd_T31 l (i : Int)).f1.f0 (rd_T31 l (i : Int)).f1.f1 (rd_T31 l (i : Int)).f2 (rd_T31 l (i : Int)).f3 (rd_T31 l (i : Int)).f4 b (by omega)
    rw [if_pos (by omega), if_pos (by omega), hs1, hs2, fits_eq k _ v0 v1 as_ v3 ha (by omega), fits_ref k _ v0 v1 as_ v3 ha (by omega), total_eq, total_ref]
    simp only [Option.bind_some]
    rw [if_neg (by simp), if_neg (by simp), if_neg (by simp), w64 (n := (i : Int) + 1) (by omega) (by omega), show ((i : Int) + 1) = ((i + 1 : Nat) : Int) by omega]
    exact ih k (i + 1) (by omega) (by omega)
theorem PolicyIs : ridgewaylaw10_PolicyIs.Pure := by
  intro l0 x1 a2 a3 _ _ _
  refine ⟨400, ?_⟩
  unfold ridgewaylaw10_PolicyIs.f
  rw [show ridgewaylaw10_awake.f = some true from rfl]
  simp only [Option.bind_some, ridgewaylaw10_PolicyIs.j0]
  by_cases h : (l0.length : Int) > 30
  · rw [if_pos h, if_pos trivial]
  · rw [if_neg h]
    by_cases h2 : (x1.f1.length : Int) > 100
    · rw [if_pos (decide_eq_true h2)]
    · rw [if_neg (by simpa using h2)]
      have := is_loop l0 a2 a3 x1.f0.f0 x1.f0.f1 x1.f1 x1.f2 (by omega) (by omega) l0.length 399 0 (by omega) (by omega)
      exact_mod_cast this
end Go.Proofs.Ytclddmjfgceemaa.Pure
