/- What comes of any message: a hello of that AS, or a note of code 2. Conditions: octets are octets, at most 5000 of them. -/
import Derived.Test.YtedahidfbplpkaaXOpenP
namespace Go.Proofs.Ytedahidfbplpkaa.Pure
open Go.RowKit Go.Proofs.Ytedahidfbplpkaa.Q Go.Proofs.YtedahidfbplpkaaW.PrintWords Go.Proofs.YtedahidfbplpkaaW.PrintLast Go.Proofs.YtedahidfbplpkaaW.PrintMore Go.Proofs.YtedahidfbplpkaaW.PrintX
set_option linter.unusedVariables false
set_option linter.unusedSimpArgs false
/-- What comes of any message: a hello of that AS, or a note of code 2. -/
theorem get_any (t ax : Int) (b : List Int) (hb : Octs b) (hl : b.length ≤ 5000) : ∃ r, open_Get.f t b ax = some r ∧ ((∃ sub d, r = (0, 0, 0, 0, 2, sub, d)) ∨ (∃ h i rl, r = (ax, h, i, rl, 0, 0, []) ∧ t = 1 ∧ saneV 1 b = true ∧ 0 < ax ∧ ax ≤ 4294967295 ∧ (h = 0 ∨ 3 ≤ h ∧ h ≤ 65535) ∧ 0 < i ∧ i ≤ 4294967295 ∧ -1 ≤ rl ∧ rl ≤ 255)) := by
  by_cases c0 : t = 1
  · subst c0
    cases hs : saneV 1 b
    · refine ⟨_, ?_, .inl ⟨0, [], rfl⟩⟩
      unfold open_Get.f
      rw [if_pos rfl, sane_eq _ _ (by omega), hs]
      rfl
    · have hlen := saneV1 b hs
      have h9 := hb.rd 9
      obtain ⟨sub, ok, st, he, hR⟩ := reads_ok (b.drop 10) (by rw [List.length_drop]; omega) (hb.drop 10)
      have e : open_Get.f 1 b ax = if rd b 0 = 4 then if rd b 9 = (b.length : Int) - 10 then (eachG open2 5000 (-1, -1) (b.drop 10)).bind fun e => if e.2.1 = true then some (judge e.2.2.1 e.2.2.2 ax (getL ((b.drop 1).take 2)) (getL ((b.drop 3).take 2)) (getL ((b.drop 5).take 4))) else some (0, 0, 0, 0, 2, e.1, []) else some (0, 0, 0, 0, 2, 0, []) else some (0, 0, 0, 0, 2, 1, [0, 4]) := by
        unfold open_Get.f
        rw [if_pos rfl, sane_eq _ _ (by omega), hs]
        simp only [Option.bind_some, if_true]
        rw [if_pos ⟨hlen.1, by omega, h9.1, h9.2⟩]
        congr 1
        congr 1
        congr 1
        funext e
        congr 1
        rw [octet_getS 8 _ 2 (by omega) (hb.drop 1) (by omega) (by omega) (by rw [List.length_drop]; omega)]
        simp only [Option.bind_some, show (2 : Int).toNat = 2 from rfl, List.drop_drop]
        rw [octet_getS 8 _ 2 (by omega) (hb.drop _) (by omega) (by omega) (by rw [List.length_drop]; omega)]
        simp only [Option.bind_some, show (2 : Int).toNat = 2 from rfl, List.drop_drop]
        rw [octet_getS 8 _ 4 (by omega) (hb.drop _) (by omega) (by omega) (by rw [List.length_drop]; omega)]
        simp only [Option.bind_some, show (4 : Int).toNat = 4 from rfl, List.drop_drop]
        rw [written_eq]
        rfl
      rw [e]
      by_cases c1 : rd b 0 = 4
      · rw [if_pos c1]
        by_cases c2 : rd b 9 = (b.length : Int) - 10
        · rw [if_pos c2, he]
          simp only [Option.bind_some]
          cases ok
          · exact ⟨_, rfl, .inl ⟨sub, [], rfl⟩⟩
          · simp only [if_true]
            obtain ⟨q1, q2, q3, q4⟩ := hR
            have b1 := getL_bounds _ ((hb.drop 3).take 2)
            have b2 := getL_lt2 _ ((hb.drop 3).take 2) (by rw [List.length_take]; omega)
            have b3 := getL_bounds _ ((hb.drop 5).take 4)
            have b4 := getL_lt4 _ ((hb.drop 5).take 4) (by rw [List.length_take]; omega)
            generalize getL ((b.drop 1).take 2) = s at *
            generalize getL ((b.drop 3).take 2) = hh at *
            generalize getL ((b.drop 5).take 4) = ii at *
            refine ⟨_, rfl, ?_⟩
            unfold judge
            by_cases g1 : st.1 < 0
            · rw [if_pos g1]; exact .inl ⟨_, _, rfl⟩
            rw [if_neg g1]
            by_cases g2 : st.1 = 0 ∨ st.1 ≠ ax ∨ s ≠ twoV st.1
            · rw [if_pos g2]; exact .inl ⟨_, _, rfl⟩
            rw [if_neg g2]
            by_cases g3 : hh = 1 ∨ hh = 2
            · rw [if_pos g3]; exact .inl ⟨_, _, rfl⟩
            rw [if_neg g3]
            by_cases g4 : ii = 0
            · rw [if_pos g4]; exact .inl ⟨_, _, rfl⟩
            rw [if_neg g4]
            have e1 : st.1 = ax := Decidable.byContradiction (fun e => g2 (.inr (.inl e)))
            have e2 : st.1 ≠ 0 := fun e => g2 (.inl e)
            exact .inr ⟨hh, ii, st.2, by rw [e1], trivial, trivial, by omega, by omega, by omega, by omega, by omega, by omega, by omega⟩
        · rw [if_neg c2]
          exact ⟨_, rfl, .inl ⟨0, [], rfl⟩⟩
      · rw [if_neg c1]
        exact ⟨_, rfl, .inl ⟨1, [0, 4], rfl⟩⟩
  · refine ⟨_, ?_, .inl ⟨0, [], rfl⟩⟩
    unfold open_Get.f
    rw [if_neg c0]
end Go.Proofs.Ytedahidfbplpkaa.Pure
