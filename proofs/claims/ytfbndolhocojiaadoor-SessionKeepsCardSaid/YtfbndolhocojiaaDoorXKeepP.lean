/- What comes of a session may be, in plain words: behind a message, behind seconds, at its begin. Conditions: those in each statement. -/
import Derived.Test.YtfbndolhocojiaaDoorXOpenP
import Derived.Test.YtfbndolhocojiaaDoorXSession
import Derived.Test.YtfbndolhocojiaaDoorKx13
import Derived.Test.YtfbndolhocojiaaDoorKx15
import Derived.Test.YtfbndolhocojiaaDoorKx9
namespace Go.Proofs.YtfbndolhocojiaaDoor.Pure
open Go.RowKit Go.Proofs.YtfbndolhocojiaaDoor.K Go.Proofs.YtfbndolhocojiaaDoorW.PrintWords Go.Proofs.YtfbndolhocojiaaDoorW.PrintLast Go.Proofs.YtfbndolhocojiaaDoorW.PrintMore Go.Proofs.YtfbndolhocojiaaDoorW.PrintX
set_option linter.unusedVariables false
set_option linter.unusedSimpArgs false
def msgOK (m : MsgS) : Prop := msg_Sane.f m.f0 m.f1 = some true
theorem alive_ok : msgOK aliveM := by
  unfold msgOK
  rw [sane_eq _ _ (by simp)]
  rfl
theorem note_ok (a b : Int) (l : List Int) (hl : l.length ≤ 100) : msgOK ⟨3, a :: b :: l⟩ := by
  unfold msgOK
  rw [sane_eq _ _ (by simp; omega)]
  unfold saneV fitsV leastV
  simp
  omega
theorem each_sub (f : Int × Int → Int → List Int → Option (Int × Bool × (Int × Int))) (hf : ∀ st kind x sub ok st', f st kind x = some (sub, ok, st') → 0 ≤ sub ∧ sub ≤ 255) : ∀ (k : Nat) (st : Int × Int) (b : List Int) (sub : Int) (ok : Bool) (st' : Int × Int), eachG f k st b = some (sub, ok, st') → 0 ≤ sub ∧ sub ≤ 255
  | 0, _, _, _, _, _, h => by simp [eachG] at h
  | k + 1, st, b, sub, ok, st', h => by
    rw [eachG] at h
    split at h
    · obtain ⟨p, hp, h⟩ := Option.bind_eq_some_iff.mp h
      obtain ⟨q, hq, h⟩ := Option.bind_eq_some_iff.mp h
      split at h
      · obtain ⟨t, ht, h⟩ := Option.bind_eq_some_iff.mp h
        split at h
        · obtain ⟨⟨s1, o1, st1⟩, hr, h⟩ := Option.bind_eq_some_iff.mp h
          split at h
          · exact each_sub f hf k _ _ _ _ _ h
          · injection h with h
            injection h with h1 h2
            have := hf _ _ _ _ _ _ hr
            dsimp only at h1
            omega
        · injection h with h
          injection h with h1 h2
          omega
      · injection h with h
        injection h with h1 h2
        omega
    · injection h with h
      injection h with h1 h2
      omega
theorem open1_sub (st : Int × Int) (kind : Int) (x : List Int) (sub : Int) (ok : Bool) (st' : Int × Int) (h : open1 st kind x = some (sub, ok, st')) : 0 ≤ sub ∧ sub ≤ 255 := by
  unfold open1 at h
  split at h
  · injection h with h; injection h with h1 h2; omega
  split at h
  · obtain ⟨g, hg, h⟩ := Option.bind_eq_some_iff.mp h
    injection h with h; injection h with h1 h2; omega
  split at h
  · injection h with h; injection h with h1 h2; omega
  split at h
  · injection h with h; injection h with h1 h2; omega
  · injection h with h; injection h with h1 h2; omega
theorem open2_sub (st : Int × Int) (kind : Int) (x : List Int) (sub : Int) (ok : Bool) (st' : Int × Int) (h : open2 st kind x = some (sub, ok, st')) : 0 ≤ sub ∧ sub ≤ 255 := by
  unfold open2 at h
  split at h
  · exact each_sub open1 open1_sub _ _ _ _ _ _ h
  · injection h with h; injection h with h1 h2; omega
def holdOK (h : Int) : Prop := h = 0 ∨ 3 ≤ h ∧ h ≤ 65535
theorem oget_more (b : List Int) (ax : Int) (ho : Octs b) (hl : 10 ≤ b.length) (hl2 : b.length ≤ 5000) (hm : msg_Sane.f 1 b = some true) :
    ∃ g, open_Get.f 1 b ax = some g ∧ (g.2.2.2.2.1 = 0 ∧ holdOK g.2.1 ∨ g.2.2.2.2.1 = 2 ∧ 0 ≤ g.2.2.2.2.2.1 ∧ g.2.2.2.2.2.1 ≤ 255 ∧ g.2.2.2.2.2.2.length ≤ 2) := by
  unfold open_Get.f
  have h9 := ho.rd 9
  rw [if_pos rfl, hm, Option.bind_some, if_pos rfl, if_pos ⟨hl, hl2, h9.1, h9.2⟩]
  by_cases c : rd b 0 = 4
  · rw [if_pos c]
    by_cases d : rd b 9 = (b.length : Int) - 10
    · rw [if_pos d]
      obtain ⟨sub, ok, st, hr, -⟩ := reads_ok (b.drop 10) (by rw [List.length_drop]; omega) (ho.drop 10)
      have hsub := each_sub open2 open2_sub _ _ _ _ _ _ hr
      rw [hr, Option.bind_some]
      cases ok
      · exact ⟨_, rfl, .inr ⟨rfl, hsub.1, hsub.2, by simp⟩⟩
      rw [if_pos rfl]
      obtain ⟨p, hp⟩ : ∃ p, octet_Get.f 8 (b.drop 1) 2 = some (p, b.drop 3, true) := ⟨_, by rw [octet_getS 8 (b.drop 1) 2 (by omega) (ho.drop 1) (by omega) (by omega) (by rw [List.length_drop]; omega), List.drop_drop]; rfl⟩
      have hq0 := (getL_bounds _ ((ho.drop 3).take 2)).1
      have hq1 := getL_lt2 _ ((ho.drop 3).take 2) (by rw [List.length_take]; omega)
      rw [hp, Option.bind_some, octet_getS 8 (b.drop 3) 2 (by omega) (ho.drop 3) (by omega) (by omega) (by rw [List.length_drop]; omega), Option.bind_some]
      dsimp only
      rw [octet_getS 8 ((b.drop 3).drop (2 : Int).toNat) 4 (by omega) ((ho.drop 3).drop _) (by omega) (by omega) (by rw [List.length_drop, List.length_drop]; have : (2 : Int).toNat = 2 := rfl; omega), Option.bind_some]
      have hw : ∃ wr, open_written.f st.1 = some wr := ⟨_, written_eq _⟩
      obtain ⟨wr, hw⟩ := hw
      rw [hw, Option.bind_some]
      refine ⟨_, rfl, ?_⟩
      split
      · exact .inr ⟨rfl, by decide, by decide, by simp⟩
      split
      · exact .inr ⟨rfl, by decide, by decide, by simp⟩
      split
      · exact .inr ⟨rfl, by decide, by decide, by simp⟩
      next hq2 =>
      split
      · exact .inr ⟨rfl, by decide, by decide, by simp⟩
      · refine .inl ⟨rfl, ?_⟩
        dsimp only at hq2 ⊢
        have e2 : (2 : Int).toNat = 2 := rfl
        rw [e2] at hq2 ⊢
        unfold holdOK
        omega
    · rw [if_neg d]
      exact ⟨_, rfl, .inr ⟨rfl, by decide, by decide, by simp⟩⟩
  · rw [if_neg c]
    exact ⟨_, rfl, .inr ⟨rfl, by decide, by decide, by simp⟩⟩
theorem hold_ok (h : Int) (hh : holdB h = true) : holdOK h := by
  unfold holdB at hh
  unfold holdOK
  by_cases c : h = 0
  · exact .inl c
  rw [if_neg c] at hh
  by_cases d : h ≥ 3
  · rw [if_pos d] at hh
    have := of_decide_eq_true hh
    omega
  · rw [if_neg d] at hh
    cases hh
theorem mn_ok (a b : Int) (ha : holdOK a) (hb : holdOK b) : holdOK (mn a b) := by
  unfold mn
  split
  · exact hb
  · exact ha
theorem conf_head (a b c d : Int) (l4 : List S62) (l5 : List S31) (h : conf_Sane.f a b c d l4 l5 = some true) : 0 < a ∧ a ≤ 4294967295 ∧ 0 < b ∧ b ≤ 4294967295 ∧ holdB c = true := by
  unfold conf_Sane.f at h
  by_cases e : headB a b c d l4 l5 = true
  · unfold headB at e
    simp only [Bool.and_eq_true] at e
    obtain ⟨e1, e2, e3, -⟩ := e
    unfold withinB at e1 e2
    split at e1
    · split at e2
      · have h1 := of_decide_eq_true e1
        have h2 := of_decide_eq_true e2
        exact ⟨by omega, by omega, by omega, by omega, e3⟩
      · cases e2
    · cases e1
  · rw [if_neg e] at h
    cases h
/-- What is told is a Notice. -/
def toldB : List MsgS → Bool
  | [m] => m.f0 == 3
  | _ => false
def keepT (s x1 x2 x3 t : Int) (R : Int × Int × Int × Int × List MsgS × Bool) : Prop :=
  saneS R.1 R.2.1 R.2.2.1 R.2.2.2.1 ∧ R.2.2.2.2.1.length ≤ 1 ∧ (∀ m ∈ R.2.2.2.2.1, msgOK m) ∧ (R.2.2.2.2.2 = true → R.1 = 3 ∧ t = 2) ∧
  (saneS s x1 x2 x3 ∧ s ≠ 0 ∧ R.1 = 0 → toldB R.2.2.2.2.1 = true ∨ t = 3) ∧ (¬ (saneS s x1 x2 x3 ∧ s ≠ 0 ∧ R.1 = 0) → toldB R.2.2.2.2.1 = false)
theorem keep_same (s x1 x2 x3 t : Int) (h : saneS s x1 x2 x3) : keepT s x1 x2 x3 t (s, x1, x2, x3, [], false) := ⟨h, by simp, by simp, fun h => (by cases h), fun h => absurd h.2.2 h.2.1, fun _ => rfl⟩
theorem keep_out (s x1 x2 x3 t : Int) (a b : Int) (l : List Int) (h : saneS s x1 x2 x3) (h0 : s ≠ 0) (hl : l.length ≤ 100) : keepT s x1 x2 x3 t (0, 0, 0, 0, [⟨3, a :: b :: l⟩], false) :=
  ⟨.inl ⟨rfl, rfl, rfl, rfl⟩, by simp, fun m hm => by rw [List.mem_singleton.1 hm]; exact note_ok a b l hl, fun h => (by cases h), fun _ => .inl rfl, fun hn => absurd ⟨h, h0, rfl⟩ hn⟩
theorem ends_eq (s x1 x2 x3 a b c d : Int) (l4 : List S62) (l5 : List S31) (k t : Int) (bd : List Int) (y z : Int) (l : List Int) (hs : saneS s x1 x2 x3) (h0 : s ≠ 0) (hy : 1 ≤ y ∧ y ≤ 255) (hz : 0 ≤ z ∧ z ≤ 255) (hl : l.length ≤ 100) : session_call_ends.f s x1 x2 x3 a b c d l4 l5 k t bd y z l = some (0, 0, 0, 0, [⟨3, y % 256 :: z % 256 :: l⟩], false) := by
  have hn : note_Sane.f y z l = some true := by
    unfold note_Sane.f
    rw [if_pos (by omega), if_pos (by omega), if_pos (by omega), if_pos (by omega), decide_eq_true (by omega)]
  unfold session_call_ends.f session_Stop.f
  rw [known_in s x1 x2 x3 hs, Option.bind_some, if_neg h0, hn, Option.bind_some, if_pos rfl]
  unfold note_Put.f
  rw [hn, Option.bind_some, if_pos rfl]
  unfold slices_Concat_byte_byte.f
  rw [if_pos (by simp; omega)]
  simp
theorem conf_side_true (a b c d : Int) (l4 : List S62) (l5 : List S31) (k : Int) (r : Bool) (hc : conf_Sane.f a b c d l4 l5 = some r) : ∃ q, session_side.f a b c d l4 l5 k = some q ∧ (q = true → 0 ≤ k ∧ k < (l5.length : Int) ∧ r = true) := by
  unfold session_side.f
  by_cases h1 : k ≥ 0
  · rw [if_pos h1]
    by_cases h2 : k < (l5.length : Int)
    · rw [if_pos h2, hc, Option.bind_some]
      exact ⟨r, rfl, fun h => ⟨h1, h2, h⟩⟩
    · rw [if_neg h2]
      exact ⟨false, rfl, fun h => by cases h⟩
  · rw [if_neg h1]
    exact ⟨false, rfl, fun h => by cases h⟩
theorem heard_ok (s x1 x2 x3 : Int) (t : Int) (h : saneS s x1 x2 x3) (hs : s = 2 ∨ s = 3) (hx : x1 = 0 → x3 = 0) : keepT s x1 x2 x3 t (3, x1, x1, x3, [], t == 2) := by
  refine ⟨?_, by simp, by simp, fun h => ⟨rfl, by simpa using h⟩, fun h => absurd h.2.2 (show ¬ (3 : Int) = 0 by decide), fun _ => rfl⟩
  unfold saneS at h ⊢
  dsimp only
  omega
theorem keep_take (s x1 x2 x3 a b c d : Int) (l4 : List S62) (l5 : List S31) (k t : Int) (bd : List Int) (r : Bool) (hc : conf_Sane.f a b c d l4 l5 = some r) (ho : Octs bd) (hl2 : bd.length ≤ 5000) :
    ∃ R, session_Take.f s x1 x2 x3 a b c d l4 l5 k t bd = some R ∧ keepT s x1 x2 x3 t R := by
  unfold session_Take.f
  by_cases hs : saneS s x1 x2 x3
  · rw [known_in s x1 x2 x3 hs, Option.bind_some]
    by_cases h0 : s = 0
    · rw [if_pos h0]
      exact ⟨_, rfl, keep_same s x1 x2 x3 t hs⟩
    rw [if_neg h0]
    obtain ⟨q, hq, hqt⟩ := conf_side_true a b c d l4 l5 k r hc
    rw [hq, Option.bind_some]
    cases q
    · exact ⟨_, rfl, keep_same s x1 x2 x3 t hs⟩
    obtain ⟨hk, hk2, rfl⟩ := hqt rfl
    obtain ⟨-, -, -, -, hcH⟩ := conf_head a b c d l4 l5 hc
    rw [if_pos rfl]
    rw [sane_eq t bd (by omega), Option.bind_some]
    cases hm : saneV t bd
    · exact ⟨_, rfl, keep_same s x1 x2 x3 t hs⟩
    rw [if_pos rfl]
    by_cases t3 : t = 3
    · rw [if_pos t3]
      exact ⟨_, rfl, .inl ⟨rfl, rfl, rfl, rfl⟩, by simp, by simp, fun h => (by cases h), fun _ => .inr t3, fun _ => rfl⟩
    rw [if_neg t3]
    have hs3 : s = 1 ∨ s = 2 ∨ s = 3 := by unfold saneS at hs; omega
    have hout : session_call_out.f s x1 x2 x3 a b c d l4 l5 k t bd = some (0, 0, 0, 0, [⟨3, [5, s]⟩], false) := by
      unfold session_call_out.f
      rw [ends_eq s x1 x2 x3 a b c d l4 l5 k t bd 5 s [] hs h0 (by omega) (by omega) (by simp), Option.bind_some]
      dsimp only
      rw [show (5 : Int) % 256 = 5 by decide, show s % 256 = s by omega]
    unfold session_Take.g
    rcases hs3 with rfl | rfl | rfl
    · rw [if_pos rfl]
      unfold session_call_sent.f
      by_cases t1 : t = 1
      · subst t1
        have hml := saneV1 bd hm
        rw [if_pos rfl, if_pos ⟨hk, hk2⟩]
        obtain ⟨g, hg, hgg⟩ := oget_more bd (rd_T31 l5 k).f0 ho (by omega) hl2 (by rw [sane_eq _ _ (by omega), hm])
        rw [hg, Option.bind_some]
        have hend : keepT 1 x1 x2 x3 1 (sentEnd c g) ∨ True := .inr trivial
        have hsent : holdOK g.2.1 → keepT 1 x1 x2 x3 1 (sentEnd c g) := fun hh => by
          have hmn := mn_ok c g.2.1 (hold_ok c hcH) hh
          have hth : wrap64 (Int.tdiv (mn c g.2.1) 3) = mn c g.2.1 / 3 := third _ (by unfold holdOK at hmn; omega) (by unfold holdOK at hmn; omega)
          unfold sentEnd
          rw [hth]
          refine ⟨?_, by simp, fun m hm => by rw [List.mem_singleton.1 hm]; exact alive_ok, fun h => (by cases h), fun h => absurd h.2.2 (show ¬ (2 : Int) = 0 by decide), fun _ => rfl⟩
          unfold holdOK at hmn
          unfold saneS
          dsimp only
          omega
        rcases hgg with ⟨h1, h2⟩ | ⟨h1, h2, h3, h4⟩
        · rw [if_pos h1]
          split
          · have hmi : ∃ mi, role_Mine.f (rd_T31 l5 k).f1 = some mi := by
              unfold role_Mine.f
              (repeat' split) <;> exact ⟨_, rfl⟩
            obtain ⟨mi, hmi⟩ := hmi
            rw [hmi, Option.bind_some]
            unfold role_Pairs.f
            rw [Option.bind_some]
            split
            · exact ⟨_, rfl, hsent h2⟩
            · rw [ends_eq 1 x1 x2 x3 a b c d l4 l5 k 1 bd 2 11 [] hs h0 (by omega) (by omega) (by simp)]
              exact ⟨_, rfl, keep_out _ _ _ _ _ _ _ _ hs h0 (by simp)⟩
          · exact ⟨_, rfl, hsent h2⟩
        · rw [if_neg (by omega), ends_eq 1 x1 x2 x3 a b c d l4 l5 k 1 bd _ _ _ hs h0 (by omega) ⟨h2, h3⟩ (by omega)]
          exact ⟨_, rfl, keep_out _ _ _ _ _ _ _ _ hs h0 (by omega)⟩
      · rw [if_neg t1, hout]
        exact ⟨_, rfl, keep_out _ _ _ _ _ _ _ _ hs h0 (by simp)⟩
    · rw [if_neg (show ¬ (2 : Int) = 1 by decide), if_pos rfl]
      unfold session_call_confirm.f
      by_cases t4 : t = 4
      · rw [if_pos t4]
        unfold session_call_heard.f
        exact ⟨_, rfl, heard_ok 2 x1 x2 x3 t hs (.inl rfl) (by unfold saneS at hs; omega)⟩
      · rw [if_neg t4, hout]
        exact ⟨_, rfl, keep_out _ _ _ _ _ _ _ _ hs h0 (by simp)⟩
    · rw [if_neg (show ¬ (3 : Int) = 1 by decide), if_neg (show ¬ (3 : Int) = 2 by decide), if_pos rfl]
      unfold session_call_up.f
      by_cases t1 : t = 1
      · rw [if_pos t1, hout]
        exact ⟨_, rfl, keep_out _ _ _ _ _ _ _ _ hs h0 (by simp)⟩
      · rw [if_neg t1]
        unfold session_call_heard.f
        exact ⟨_, rfl, heard_ok 3 x1 x2 x3 t hs (.inr rfl) (by unfold saneS at hs; omega)⟩
  · rw [known_out s x1 x2 x3 hs, Option.bind_some, if_pos rfl]
    exact ⟨_, rfl, .inl ⟨rfl, rfl, rfl, rfl⟩, by simp, by simp, fun h => (by cases h), fun h => absurd h.1 hs, fun _ => rfl⟩
theorem tk_msgs : ∀ (n : Nat) (a b c d : Int) (o : List MsgS), (∀ m ∈ o, msgOK m) → ∀ m ∈ (tk n a b c d o).2.2.2.2, msgOK m
  | 0, _, _, _, _, _, h => h
  | n + 1, a, b, c, d, o, h => by
    have h1 : ∀ x, msgOK x → ∀ m ∈ o ++ [x], msgOK m := fun x hx m hm => by
      rcases List.mem_append.1 hm with hm | hm
      · exact h m hm
      · rw [List.mem_singleton.1 hm]; exact hx
    rw [tk]
    split
    · exact h
    split
    · exact h1 _ (note_ok 4 0 [] (by simp))
    split
    · exact tk_msgs n _ _ _ _ _ (h1 _ alive_ok)
    · exact tk_msgs n _ _ _ _ _ h
theorem tick_any (s x1 x2 x3 n : Int) : ∃ N : Nat, N ≤ 1000 ∧ (saneS s x1 x2 x3 → session_Tick.f 2000 s x1 x2 x3 n = some (tk N s x1 x2 x3 [])) ∧ (¬ saneS s x1 x2 x3 → session_Tick.f 2000 s x1 x2 x3 n = some (0, 0, 0, 0, [])) := by
  have hN : 0 ≤ mx 0 (mn n 1000) ∧ mx 0 (mn n 1000) ≤ 1000 := by
    unfold mx mn
    split <;> split <;> omega
  refine ⟨(mx 0 (mn n 1000)).toNat, by omega, fun h => ?_, fun h => ?_⟩
  · unfold session_Tick.f
    rw [known_in s x1 x2 x3 h, Option.bind_some]
    exact tick_l0 _ _ 2000 0 s x1 x2 x3 [] h (by omega) (by omega) (by omega) (by omega) (by simp; omega)
  · unfold session_Tick.f
    rw [known_out s x1 x2 x3 h, Option.bind_some]
    have hz : saneS 0 0 0 0 := .inl ⟨rfl, rfl, rfl, rfl⟩
    refine (tick_l0 _ (mx 0 (mn n 1000)).toNat 2000 0 0 0 0 0 [] hz (by omega) (by omega) (by omega) (by omega) (by simp; omega)).trans ?_
    rw [tk_c0]
def keepV (s x1 x2 x3 : Int) (V : Int × Int × Int × Int × List MsgS) : Prop :=
  saneS V.1 V.2.1 V.2.2.1 V.2.2.2.1 ∧ V.2.2.2.2.length ≤ 1000 ∧ (∀ m ∈ V.2.2.2.2, msgOK m) ∧ (saneS s x1 x2 x3 ∧ s ≠ 0 → V.1 ≠ 0 ∨ ∃ L m, V.2.2.2.2 = L ++ [m] ∧ m.f0 = 3)
theorem tk_len' : ∀ (n : Nat) (a b c d : Int) (o : List MsgS), (tk n a b c d o).2.2.2.2.length ≤ o.length + n
  | 0, _, _, _, _, _ => Nat.le_refl _
  | n + 1, a, b, c, d, o => by
    rw [tk]
    split
    · show o.length ≤ _; omega
    split
    · simp
    split
    · have := tk_len' n a b (c - 1) (b / 3) (o ++ [aliveM]); rw [List.length_append, List.length_singleton] at this; omega
    · have := tk_len' n a b (c - 1) (if d > 0 then d - 1 else d) o; omega
theorem keep_tick (s x1 x2 x3 n : Int) : ∃ V, session_Tick.f 2000 s x1 x2 x3 n = some V ∧ keepV s x1 x2 x3 V := by
  obtain ⟨N, hN, h1, h2⟩ := tick_any s x1 x2 x3 n
  by_cases h : saneS s x1 x2 x3
  · refine ⟨_, h1 h, tk_sane N s x1 x2 x3 [] h, ?_, tk_msgs N s x1 x2 x3 [] (by simp), fun ha => ?_⟩
    · have := tk_len' N s x1 x2 x3 []
      simp at this
      omega
    · have hb : 0 ≤ x2 := by unfold saneS at h; omega
      by_cases c0 : x2 = 0
      · left
        rw [c0, tk_c0]
        exact ha.2
      by_cases c : x2 ≤ (N : Int)
      · right
        obtain ⟨L, hL⟩ := tk_end N s x1 x2 x3 [] (by omega) c
        exact ⟨L, outN, by rw [hL], rfl⟩
      · left
        obtain ⟨d', L, hL, -⟩ := tk_cnt N s x1 x2 x3 [] h (by omega)
        rw [hL]
        exact ha.2
  · exact ⟨_, h2 h, .inl ⟨rfl, rfl, rfl, rfl⟩, by simp, by simp, fun ha => absurd ha.1 h⟩
theorem keep_start (s x1 x2 x3 a b c d : Int) (l4 : List S62) (l5 : List S31) (k : Int) (r : Bool) (hc : conf_Sane.f a b c d l4 l5 = some r) :
    ∃ R, session_Start.f 100 s x1 x2 x3 a b c d l4 l5 k = some R ∧ saneS R.1 R.2.1 R.2.2.1 R.2.2.2.1 ∧ R.2.2.2.2.length ≤ 1 ∧ ∀ m ∈ R.2.2.2.2, msgOK m := by
  have hb : ∀ (e1 e2 e3 e4 : Int), saneS e1 e2 e3 e4 → ∃ R, session_Start.j0 100 k true e1 e2 e3 e4 a b c d l4 l5 = some R ∧ saneS R.1 R.2.1 R.2.2.1 R.2.2.2.1 ∧ R.2.2.2.2.length ≤ 1 ∧ ∀ m ∈ R.2.2.2.2, msgOK m := fun e1 e2 e3 e4 h => by
    rw [session_Start.j0, if_pos rfl]
    exact ⟨_, rfl, h, by simp, by simp⟩
  have hz : ∀ (e1 e2 e3 e4 : Int), saneS e1 e2 e3 e4 → ∃ R, ((session_side.f a b c d l4 l5 k).bind fun t220 => (session_Start.j0 100 k (!t220) e1 e2 e3 e4 a b c d l4 l5)) = some R ∧ saneS R.1 R.2.1 R.2.2.1 R.2.2.2.1 ∧ R.2.2.2.2.length ≤ 1 ∧ ∀ m ∈ R.2.2.2.2, msgOK m := fun e1 e2 e3 e4 h => by
    obtain ⟨q, hq, hqt⟩ := conf_side_true a b c d l4 l5 k r hc
    rw [hq, Option.bind_some]
    cases q
    · exact hb _ _ _ _ h
    obtain ⟨hk, hk2, rfl⟩ := hqt rfl
    obtain ⟨ha1, ha2, hb1, hb2, hcH⟩ := conf_head a b c d l4 l5 hc
    show ∃ R, session_Start.j0 100 k false e1 e2 e3 e4 a b c d l4 l5 = some R ∧ _
    rw [session_Start.j0, if_neg (by decide)]
    unfold session_Hello.f
    rw [hq, Option.bind_some, if_pos rfl, if_pos hk, if_pos hk2]
    have hmi : ∃ mi, role_Mine.f (rd_T31 l5 k).f1 = some mi ∧ -1 ≤ mi ∧ mi ≤ 4 := by
      unfold role_Mine.f
      (repeat' split) <;> exact ⟨_, rfl, by omega, by omega⟩
    obtain ⟨mi, hmi, hm1, hm2⟩ := hmi
    have hh : saneH a c b mi = true := (saneH_iff a c b mi).2 ⟨hold_ok c hcH, ha1, ha2, hb1, hb2, hm1, hm2⟩
    have hbl : (bodyH a c b mi).length ≤ 1000000 := by rw [body_len, tail_len]; split <;> omega
    rw [hmi]
    simp only [Option.bind_some]
    rw [put_eq 99 a c b mi (by omega), hh, Option.bind_some]
    refine ⟨_, rfl, .inr (.inl ⟨rfl, rfl, rfl, show (0 : Int) < 240 by decide, show (240 : Int) ≤ 240 by decide⟩), by simp, fun m hm => ?_⟩
    rw [List.mem_singleton.1 hm]
    show msg_Sane.f 1 (bodyH a c b mi) = some true
    rw [sane_eq _ _ hbl, body_sane]
  unfold session_Start.f
  by_cases h : saneS s x1 x2 x3
  · rw [known_in s x1 x2 x3 h, Option.bind_some]
    dsimp only
    split
    · exact hz _ _ _ _ h
    · exact hb _ _ _ _ h
  · rw [known_out s x1 x2 x3 h, Option.bind_some]
    dsimp only
    rw [if_pos rfl]
    exact hz _ _ _ _ (.inl ⟨rfl, rfl, rfl, rfl⟩)
end Go.Proofs.YtfbndolhocojiaaDoor.Pure
