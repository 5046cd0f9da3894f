/- StreamBad, the plain law: once there was a note, nothing comes any more. Conditions: those of the statement's inputs. -/
import Derived.Test.YthkbpiagggeicaaXStream
import Derived.Test.YthkbpiagggeicaaQx13
namespace Go.Proofs.Ythkbpiagggeicaa.Pure
open Go.RowKit Go.Proofs.Ythkbpiagggeicaa.Q Go.Proofs.YthkbpiagggeicaaW.PrintWords Go.Proofs.YthkbpiagggeicaaW.PrintLast Go.Proofs.YthkbpiagggeicaaW.PrintMore Go.Proofs.YthkbpiagggeicaaW.PrintX
set_option linter.unusedVariables false
set_option linter.unusedSimpArgs false
theorem rdT43_mem (l : List S43) (i : Nat) (h : i < l.length) : rd_T43 l (i : Int) ∈ l := by
  unfold rd_T43
  rw [Int.toNat_natCast, List.getD_eq_getElem?_getD, List.getElem?_eq_getElem h]
  exact List.getElem_mem h
theorem bad_loop (x1 : List Int) (x7 : List S43) (B : List Int) (bad : Bool) (c s : Int) (dd : List Int) (hx : Octs x1) (hx1 : x1.length ≤ 5000) (hB : Octs B) (hBl : B.length < 4096) (hs : ∀ m ∈ x7, saneV m.f0 m.f1 = true ∧ m.f1.length ≤ 4096) (hl : x7.length ≤ 1000000) (hbad : bad = (c != 0)) (hsane : saneS B bad = true) :
    ∀ (d k i : Nat), i + d = x7.length → d + 30 ≤ k → ridgewaylaw04_StreamBad.l0 k x1 true x7 (i : Int) B bad c s dd = some true := by
  intro d
  induction d with
  | zero =>
    intro k i hi hk
    obtain ⟨k, rfl⟩ : ∃ m, k = m + 1 := ⟨k - 1, by omega⟩
    simp only [ridgewaylaw04_StreamBad.l0]
    rw [if_neg (by omega), if_neg (by rw [hbad]; simp), saneS_eq k B bad hB (by omega) (by omega), hsane]
    simp only [Option.bind_some, if_true]
    obtain ⟨k, rfl⟩ : ∃ m, k = m + 1 := ⟨k - 1, by omega⟩
    simp only [ridgewaylaw04_StreamBad.j2]
    rw [if_neg (by simp; omega)]
    cases bad
    · rw [if_neg (by decide)]
    · have h0 : B = [] := by
        unfold saneS at hsane
        rw [if_pos rfl] at hsane
        simp only [beq_iff_eq] at hsane
        exact List.eq_nil_of_length_eq_zero (by omega)
      subst h0
      rw [if_pos rfl, feed_eq [] true x1 hB hx (by simp) (by omega)]
      unfold feedV
      rw [hsane]
      simp
  | succ d ih =>
    intro k i hi hk
    obtain ⟨k, rfl⟩ : ∃ m, k = m + 1 := ⟨k - 1, by omega⟩
    simp only [ridgewaylaw04_StreamBad.l0]
    obtain ⟨h1, h2⟩ := hs _ (rdT43_mem x7 i (by omega))
    rw [if_pos (by omega), if_pos (by omega), sane_eq _ _ (by omega), h1]
    simp only [Option.bind_some, if_true]
    rw [w64 (n := (i : Int) + 1) (by omega) (by omega), show ((i : Int) + 1) = ((i + 1 : Nat) : Int) by omega]
    exact ih k (i + 1) (by omega) (by omega)
theorem StreamBad : ridgewaylaw04_StreamBad.Pure := by
  intro l x hl hx
  refine ⟨600000, ?_⟩
  have ho := octs_of_wf hl.2
  have hb := octs_of_wf hx.2
  unfold ridgewaylaw04_StreamBad.f ridgewaylaw04_awake.f
  simp only [Option.bind_some]
  have key : ∀ b : Bool, (b = false → l.length ≤ 5000 ∧ x.length ≤ 5000) → ridgewaylaw04_StreamBad.j0 600000 l x true b = some true := by
    intro b hbb
    rw [show 600000 = 599999 + 1 from rfl]
    simp only [ridgewaylaw04_StreamBad.j0]
    cases b
    · obtain ⟨h1, h2⟩ := hbb rfl
      rw [if_neg (by decide), feed_eq [] false l Octs.nil ho (by simp) (by omega)]
      simp only [Option.bind_some]
      have e : feedV [] false l = fv l := by
        unfold feedV
        split <;> simp
      rw [e]
      have hlen := msgsV_len (l.length + 1) l
      have hsn := msgsV_sane (l.length + 1) l ho
      unfold fv
      by_cases c : (msgsV (l.length + 1) l).2.2.1 = 0
      · obtain ⟨r1, r2, r3, r4⟩ := msgsV_rest (l.length + 1) l ho (by omega) c
        rw [if_pos c]
        exact bad_loop x _ _ false 0 0 [] hb h2 r2 r3 hsn (by omega) rfl r1 (msgsV (l.length + 1) l).1.length 599999 0 (by omega) (by omega)
      · rw [if_neg c]
        exact bad_loop x _ [] true _ _ _ hb h2 Octs.nil (by simp) hsn (by omega) (by simp [c]) rfl (msgsV (l.length + 1) l).1.length 599999 0 (by omega) (by omega)
    · rw [if_pos rfl]
  by_cases c : (l.length : Int) > 5000
  · rw [if_pos c]
    exact key _ (by simp)
  · rw [if_neg c]
    exact key _ (by simp; omega)
end Go.Proofs.Ythkbpiagggeicaa.Pure
