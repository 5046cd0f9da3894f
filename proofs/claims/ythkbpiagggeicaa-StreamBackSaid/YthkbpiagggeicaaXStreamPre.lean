/- Messages' octets, cut anywhere: the messages that are whole, and a rest that is none. Conditions: messages that may be. -/
import Derived.Test.YthkbpiagggeicaaXStream
namespace Go.Proofs.Ythkbpiagggeicaa.Pure
open Go.RowKit Go.Proofs.Ythkbpiagggeicaa.Q Go.Proofs.YthkbpiagggeicaaW.PrintWords Go.Proofs.YthkbpiagggeicaaW.PrintLast Go.Proofs.YthkbpiagggeicaaW.PrintMore Go.Proofs.YthkbpiagggeicaaW.PrintX
set_option linter.unusedVariables false
set_option linter.unusedSimpArgs false
def encs (ps : List S43) : List Int := ps.flatMap fun m => encM m.f0 m.f1
theorem encs_cons (p : S43) (t : List S43) : encs (p :: t) = encM p.f0 p.f1 ++ encs t := rfl
theorem encs_app (a b : List S43) : encs (a ++ b) = encs a ++ encs b := by unfold encs; rw [List.flatMap_append]
theorem encs_octs (ps : List S43) (h : ∀ m ∈ ps, Octs m.f1) : Octs (encs ps) := by
  induction ps with
  | nil => exact Octs.nil
  | cons p t ih => rw [encs_cons]; exact (encM_octs _ _ (h p (by simp))).app (ih (fun m hm => h m (by simp [hm])))
theorem getV_nil : getV [] = (0, [], 0, 0, 0, []) := by unfold getV; rw [if_pos (by simp)]
theorem msgs_pre : ∀ (ps : List S43), (∀ m ∈ ps, saneV m.f0 m.f1 = true) → ∀ (j m : Nat), m ≤ (encs ps).length → m < j → ∃ i rest, i ≤ ps.length ∧ msgsV j ((encs ps).take m) = (ps.take i, rest, 0, 0, []) ∧ encs (ps.drop i) = rest ++ (encs ps).drop m ∧ saneS rest false = true := by
  intro ps
  induction ps with
  | nil =>
    intro _ j m hm hj
    obtain ⟨j, rfl⟩ : ∃ n, j = n + 1 := ⟨j - 1, by omega⟩
    refine ⟨0, [], by simp, ?_, by simp [encs], by unfold saneS; rw [getV_nil]; rfl⟩
    simp only [encs, List.flatMap_nil, List.take_nil, msgsV, getV_nil]
    rfl
  | cons p t ih =>
    intro hs j m hm hj
    obtain ⟨j, rfl⟩ : ∃ n, j = n + 1 := ⟨j - 1, by omega⟩
    have hp := hs p (by simp)
    have hl := encM_length p.f0 p.f1
    by_cases c : m < (encM p.f0 p.f1).length
    · have e : (encs (p :: t)).take m = (encM p.f0 p.f1).take m := by rw [encs_cons, List.take_append_of_le_length (by omega)]
      have hg := get_pre p.f0 p.f1 m hp (by omega)
      refine ⟨0, (encM p.f0 p.f1).take m, by omega, ?_, ?_, by unfold saneS; rw [hg]; rfl⟩
      · rw [e]
        simp only [msgsV, hg]
        rfl
      · rw [← e]
        show encs (p :: t) = _
        rw [List.take_append_drop]
    · have e : (encs (p :: t)).take m = encM p.f0 p.f1 ++ (encs t).take (m - (encM p.f0 p.f1).length) := by rw [encs_cons, List.take_append, List.take_of_length_le (by omega)]
      have hg := get_enc p.f0 p.f1 ((encs t).take (m - (encM p.f0 p.f1).length)) hp
      rw [encs_cons, List.length_append] at hm
      obtain ⟨i, rest, h1, h2, h3, h4⟩ := ih (fun m hm => hs m (by simp [hm])) j (m - (encM p.f0 p.f1).length) (by omega) (by omega)
      refine ⟨i + 1, rest, by simp; omega, ?_, ?_, h4⟩
      · rw [e]
        simp only [msgsV, hg]
        rw [if_pos trivial, if_neg (by omega)]
        have ed : (encM p.f0 p.f1 ++ (encs t).take (m - (encM p.f0 p.f1).length)).drop (19 + (p.f1.length : Int)).toNat = (encs t).take (m - (encM p.f0 p.f1).length) := by
          rw [show (19 + (p.f1.length : Int)).toNat = (encM p.f0 p.f1).length by omega, List.drop_left]
        rw [ed, h2]
        rfl
      · rw [List.drop_succ_cons, h3, encs_cons, List.drop_append, List.drop_of_length_le (l := encM p.f0 p.f1) (by omega), List.nil_append]
end Go.Proofs.Ythkbpiagggeicaa.Pure
