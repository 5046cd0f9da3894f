/- Of a configuration: its Sane answers, of every one whose numbers are an int's; and ridgewayref12.Few answers. Conditions: those that each states. -/
import Derived.Test.YtfbndolhocojiaaDoorKx15
import Derived.Test.YtfbndolhocojiaaDoorKx7
import Derived.Test.YtfbndolhocojiaaDoorXPure
namespace Go.Proofs.YtfbndolhocojiaaDoor.Pure
open Go.RowKit Go.Proofs.YtfbndolhocojiaaDoor.K Go.Proofs.YtfbndolhocojiaaDoorW.PrintWords Go.Proofs.YtfbndolhocojiaaDoorW.PrintLast Go.Proofs.YtfbndolhocojiaaDoorW.PrintMore Go.Proofs.YtfbndolhocojiaaDoorW.PrintX
set_option linter.unusedVariables false
set_option linter.unusedSimpArgs false

theorem psane_tot (a b : Int) : ∃ r, prefix_Sane.f a b = some r := by
  unfold prefix_Sane.f
  split
  · split
    · exact ⟨_, rfl⟩
    · exact ⟨_, rfl⟩
  · exact ⟨_, rfl⟩
theorem pnum_tot (a b c d e f g h : Int) : ∃ r, policy_number.f a b c d e f g h = some r := by
  unfold policy_number.f
  split
  · split
    · exact ⟨_, rfl⟩
    · exact ⟨_, rfl⟩
  · exact ⟨_, rfl⟩
theorem polsane_tot (a b c d e f : Int) (i : Bool) : ∃ r, policy_Sane.f a b c d e f i = some r := by
  have ht : ∃ t, policy_Sane.t a b c d e f = some t := by
    unfold policy_Sane.t policy_kinds_1.f policy_kinds_3.f policy_kinds_5.f policy_kinds_7.f policy_kinds_9.f
    obtain ⟨r0, h0⟩ := pnum_tot a b c d e f 0 0
    obtain ⟨r1, h1⟩ := psane_tot b c
    obtain ⟨r2, h2⟩ := pnum_tot a b c d e f 1 4294967295
    obtain ⟨r3, h3⟩ := pnum_tot a b c d e f 0 32
    obtain ⟨r4, h4⟩ := pnum_tot a b c d e f 0 3
    rw [h0, h1, h2, h3, h4]
    simp only [Option.bind_some]
    (repeat' split) <;> exact ⟨_, rfl⟩
  obtain ⟨t, ht⟩ := ht
  unfold policy_Sane.f
  rw [ht]
  exact ⟨_, rfl⟩
theorem idxM_tot {α : Type} {p : α → Option Bool} (h : ∀ x, ∃ b, p x = some b) : ∀ (l : List α) (i : Int), ∃ r, idxM p l i = some r
  | [], i => ⟨_, rfl⟩
  | x :: l, i => by
    obtain ⟨b, hb⟩ := h x
    rw [idxM, hb, Option.bind_some]
    cases b
    · rw [if_neg (by decide)]; exact idxM_tot h l (i + 1)
    · rw [if_pos rfl]; exact ⟨_, rfl⟩
theorem rules_tot (l : List S95) (i : Bool) : ∃ r, conf_rules.f l i = some r := by
  unfold conf_rules.f
  split
  · obtain ⟨r, hr⟩ := idxM_tot (p := conf_rules.p i) (fun x => by
      obtain ⟨b, hb⟩ := polsane_tot x.f0 x.f1.f0 x.f1.f1 x.f2 x.f3 x.f4 i
      unfold conf_rules.p
      rw [hb]
      exact ⟨_, rfl⟩) l 0
    rw [hr]
    exact ⟨_, rfl⟩
  · exact ⟨_, rfl⟩
theorem side_tot (a b : Int) (l m : List S95) : ∃ r, conf_side.f a b l m = some r := by
  unfold conf_side.f conf_within.f
  obtain ⟨r1, h1⟩ := rules_tot l true
  obtain ⟨r2, h2⟩ := rules_tot m false
  rw [h1, h2]
  simp only [Option.bind_some]
  split
  · simp only [Option.bind_some]
    (repeat' split) <;> exact ⟨_, rfl⟩
  · simp only [Option.bind_some]
    (repeat' split) <;> exact ⟨_, rfl⟩
theorem owns_tot : ∀ (l : List S62) (seen : List (Int × Int)), ∃ r, ownsL l seen = some r
  | [], seen => ⟨_, rfl⟩
  | p :: l, seen => by
    rw [ownsL]
    split
    · exact ⟨_, rfl⟩
    · obtain ⟨b, hb⟩ := psane_tot p.f0 p.f1
      rw [hb, Option.bind_some]
      split
      · exact owns_tot l _
      · exact ⟨_, rfl⟩
theorem sides_tot : ∀ (l : List S31) (seen : List Int), ∃ r, sidesL l seen = some r
  | [], seen => ⟨_, rfl⟩
  | s :: l, seen => by
    rw [sidesL]
    split
    · exact ⟨_, rfl⟩
    · obtain ⟨b, hb⟩ := side_tot s.f0 s.f1 s.f2 s.f3
      rw [hb, Option.bind_some]
      split
      · exact sides_tot l _
      · exact ⟨_, rfl⟩
theorem big_wf {x : Int} (h : (Lit.int .i64 x).wf = true) : bigB x = true := by
  simp [Lit.wf, IntKind.min, IntKind.max, IntKind.bits, IntKind.signed] at h
  simp [bigB]
  omega
theorem conf_tot (x : S26) (h : wf26 x) : ∃ r, conf_Sane.f x.f0 x.f1 x.f2 x.f3 x.f4 x.f5 = some r := by
  obtain ⟨_, _, _, _, h4, h5⟩ := h
  unfold conf_Sane.f
  split
  · rw [if_pos]
    · obtain ⟨b, hb⟩ := owns_tot x.f4 []
      rw [hb, Option.bind_some]
      split
      · exact sides_tot _ _
      · exact ⟨_, rfl⟩
    · simp only [Bool.and_eq_true, List.all_eq_true]
      exact ⟨fun p hp => ⟨big_wf (h4.2 p hp).1, big_wf (h4.2 p hp).2⟩, fun s hs => big_wf (h5.2 s hs).1⟩
  · exact ⟨_, rfl⟩
theorem few_loop (a b c d : Int) (l4 : List S62) (l5 : List S31) (hl : l5.length ≤ 9223372036854775807) : ∀ (n k i : Nat), i + n = l5.length → n < k → ∃ r, ridgewayref12_Few.l0 k (i : Int) a b c d l4 l5 = some r
  | 0, k, i, hi, hk => by
    obtain ⟨k, rfl⟩ : ∃ k', k = k' + 1 := ⟨k - 1, by omega⟩
    rw [ridgewayref12_Few.l0, if_neg (by omega)]
    split <;> exact ⟨_, rfl⟩
  | n + 1, k, i, hi, hk => by
    obtain ⟨k, rfl⟩ : ∃ k', k = k' + 1 := ⟨k - 1, by omega⟩
    rw [ridgewayref12_Few.l0, if_pos (by omega), if_pos (by omega), w64 (by omega) (by omega)]
    split
    · exact ⟨_, rfl⟩
    · split
      · exact ⟨_, rfl⟩
      · exact few_loop a b c d l4 l5 hl n k (i + 1) (by omega) (by omega)
theorem few_tot (k : Nat) (a b c d : Int) (l4 : List S62) (l5 : List S31) (hl : l5.length ≤ 9223372036854775807) (hk : l5.length < k) : ∃ r, ridgewayref12_Few.f k a b c d l4 l5 = some r := by
  unfold ridgewayref12_Few.f
  exact few_loop a b c d l4 l5 hl l5.length k 0 (by omega) hk
end Go.Proofs.YtfbndolhocojiaaDoor.Pure
