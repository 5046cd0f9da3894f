/- PolicyTotal: a rule that is total fits all; no conditions. -/
import Derived.Test.YtclddmjfgceemaaXPolicy
import Derived.Test.YtclddmjfgceemaaQx17
namespace Go.Proofs.Ytclddmjfgceemaa.Pure
open Go.RowKit Go.Proofs.Ytclddmjfgceemaa.Q Go.Proofs.YtclddmjfgceemaaW.PrintWords Go.Proofs.YtclddmjfgceemaaW.PrintLast Go.Proofs.YtclddmjfgceemaaW.PrintMore Go.Proofs.YtclddmjfgceemaaW.PrintX
set_option linter.unusedVariables false
set_option linter.unusedSimpArgs false
theorem total_fits' (v0 v1 : Int) (as_ : List Int) (v3 : Int) (x : S31) (h : totalB v3 x = true) : fitsB v0 v1 as_ v3 x = true := by
  unfold totalB at h
  unfold fitsB
  by_cases h0 : x.f0 = 0
  · rw [if_pos h0]
  · by_cases h4 : x.f0 = 4
    · simp [h4] at h
      simp [h4, h]
    · simp [h0, h4] at h
theorem sane_both (a0 a1 a2 a3 a4 a5 : Int) (h1 : policy_Sane.f a0 a1 a2 a3 a4 a5 true = some true) (h2 : policy_Sane.f a0 a1 a2 a3 a4 a5 false = some true) : a4 = 0 := by
  unfold policy_Sane.f at h1 h2
  obtain ⟨t, ht⟩ := t_some a0 a1 a2 a3 a4 a5
  rw [ht] at h1 h2
  simp only [Option.bind_some, Option.some.injEq, saneG, Bool.and_eq_true] at h1 h2
  by_cases c0 : a4 = 0
  · exact c0
  · by_cases c1 : a4 = 1
    · simp [c1] at h1
    · by_cases c2 : a4 = 2
      · simp [c2] at h2
      · simp [c0, c1, c2] at h1
theorem tail_ok (x : S31) : ((policy_Sane.f x.f0 x.f1.f0 x.f1.f1 x.f2 x.f3 x.f4 true).bind fun t => if t = true then (policy_Sane.f x.f0 x.f1.f0 x.f1.f1 x.f2 x.f3 x.f4 false).bind fun t => if t = true then some (x.f3 == 0) else some true else some true) = some true := by
  obtain ⟨s, hs⟩ := saneP x.f0 x.f1.f0 x.f1.f1 x.f2 x.f3 x.f4 true
  obtain ⟨u, hu⟩ := saneP x.f0 x.f1.f0 x.f1.f1 x.f2 x.f3 x.f4 false
  rw [hs, hu]
  simp only [Option.bind_some]
  cases s
  · rfl
  · cases u
    · rfl
    · simp [sane_both _ _ _ _ _ _ hs hu]
theorem PolicyTotal : ridgewaylaw10_PolicyTotal.Pure := by
  intro x x1 a2 _ _ _
  refine ⟨400, ?_⟩
  unfold ridgewaylaw10_PolicyTotal.f
  rw [show ridgewaylaw10_awake.f = some true from rfl]
  simp only [Option.bind_some, ridgewaylaw10_PolicyTotal.j0]
  by_cases h2 : (x1.f1.length : Int) > 100
  · rw [if_pos h2]
  · rw [if_neg h2, total_eq x1.f2 x, total_eq a2 x, fits_eq 400 x _ _ _ _ (by omega) (by omega)]
    simp only [Option.bind_some]
    have hT := tail_ok x
    have hrest : (if x.f0 = 4 then (policy_Sane.f x.f0 x.f1.f0 x.f1.f1 x.f2 x.f3 x.f4 true).bind fun t => if t = true then (policy_Sane.f x.f0 x.f1.f0 x.f1.f1 x.f2 x.f3 x.f4 false).bind fun t => if t = true then some (x.f3 == 0) else some true else some true
        else if (totalB x1.f2 x == totalB a2 x) = true then (policy_Sane.f x.f0 x.f1.f0 x.f1.f1 x.f2 x.f3 x.f4 true).bind fun t => if t = true then (policy_Sane.f x.f0 x.f1.f0 x.f1.f1 x.f2 x.f3 x.f4 false).bind fun t => if t = true then some (x.f3 == 0) else some true else some true else some false) = some true := by
      by_cases h4 : x.f0 = 4
      · rw [if_pos h4]
        exact hT
      · rw [if_neg h4, if_pos (by (have h4' : (x.f0 == 4) = false := (by simp [h4])); unfold totalB; rw [h4']; simp)]
        exact hT
    cases ht : totalB x1.f2 x
    · rw [ht] at hrest
      rw [if_neg (by decide), if_neg (by decide), if_pos trivial]
      exact hrest
    · rw [ht] at hrest
      rw [if_pos rfl, total_fits' _ _ _ _ x ht, if_neg (by decide), if_pos trivial]
      exact hrest
end Go.Proofs.Ytclddmjfgceemaa.Pure
