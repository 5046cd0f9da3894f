/- SessionDeaf: what is out of place ends it. No conditions but those of the statement. -/
import Derived.Test.YtfbndolhocojiaaDoorSx13
import Derived.Test.YtfbndolhocojiaaDoorSx19
import Derived.Test.YtfbndolhocojiaaDoorXOpenE
import Derived.Test.YtfbndolhocojiaaDoorXSession
import Derived.Test.YtfbndolhocojiaaDoorXSessionConf
namespace Go.Proofs.YtfbndolhocojiaaDoor.Pure
open Go.RowKit Go.Proofs.YtfbndolhocojiaaDoor.S Go.Proofs.YtfbndolhocojiaaDoorW.PrintWords Go.Proofs.YtfbndolhocojiaaDoorW.PrintLast Go.Proofs.YtfbndolhocojiaaDoorW.PrintMore Go.Proofs.YtfbndolhocojiaaDoorW.PrintX
set_option linter.unusedVariables false
set_option linter.unusedSimpArgs false

theorem nsane_tot (a b : Int) (l : List Int) : ∃ r, note_Sane.f a b l = some r := by
  unfold note_Sane.f
  (repeat' split) <;> exact ⟨_, rfl⟩
theorem stop_tot (a b c d x y : Int) (l : List Int) (h : l.length ≤ 10) : ∃ R, session_Stop.f a b c d x y l = some R := by
  have hk : ∃ K, session_known.f a b c d = some K := by
    by_cases hs : saneS a b c d
    · exact ⟨_, known_in a b c d hs⟩
    · exact ⟨_, known_out a b c d hs⟩
  obtain ⟨K, hk⟩ := hk
  unfold session_Stop.f
  rw [hk, Option.bind_some]
  by_cases h0 : K.1 = 0
  · exact ⟨_, if_pos h0⟩
  rw [if_neg h0]
  obtain ⟨r, hr⟩ := nsane_tot x y l
  rw [hr, Option.bind_some]
  cases r
  · exact ⟨_, rfl⟩
  rw [if_pos rfl]
  unfold note_Put.f
  rw [hr, Option.bind_some, if_pos rfl]
  unfold slices_Concat_byte_byte.f
  rw [if_pos (by simp; omega)]
  exact ⟨_, rfl⟩
theorem msane (t : Int) (b : List Int) (hb : b.length ≤ 5000) (h : msg_Sane.f t b = some true) : (t = 1 → 10 ≤ b.length) ∧ (t = 1 ∨ t = 2 ∨ t = 3 ∨ t = 4) := by
  unfold msg_Sane.f at h
  rw [w64 (by omega) (by omega)] at h
  unfold msg_fits.f msg_Least.f at h
  by_cases h1 : t = 1
  · refine ⟨fun _ => ?_, .inl h1⟩
    rw [if_pos h1, Option.bind_some, if_pos (by decide)] at h
    by_cases c : 19 + (b.length : Int) ≥ 19 + (((0 + 6) + 2) + 2)
    · omega
    · rw [if_neg c] at h
      cases h
  refine ⟨fun h2 => absurd h2 h1, ?_⟩
  by_cases h2 : t = 2
  · exact .inr (.inl h2)
  by_cases h3 : t = 3
  · exact .inr (.inr (.inl h3))
  by_cases h4 : t = 4
  · exact .inr (.inr (.inr h4))
  rw [if_neg h1, if_neg h2, if_neg h3, if_neg h4] at h
  cases h
theorem msane_tot (t : Int) (b : List Int) : ∃ r, msg_Sane.f t b = some r := by
  have hl : ∃ n, msg_Least.f t = some n := by
    unfold msg_Least.f
    (repeat' split) <;> exact ⟨_, rfl⟩
  obtain ⟨n, hn⟩ := hl
  obtain ⟨z, hz⟩ : ∃ z, z = wrap64 (19 + (b.length : Int)) := ⟨_, rfl⟩
  unfold msg_Sane.f msg_fits.f
  rw [hn, Option.bind_some, ← hz]
  by_cases h1 : n > 0
  · rw [if_pos h1]
    by_cases h2 : z ≥ n
    · rw [if_pos h2]
      by_cases h3 : z ≤ 4096
      · rw [if_pos h3]
        by_cases h4 : t = 4
        · rw [if_pos h4]; exact ⟨_, Option.bind_some ..⟩
        · rw [if_neg h4]; exact ⟨_, Option.bind_some ..⟩
      · rw [if_neg h3]; exact ⟨_, Option.bind_some ..⟩
    · rw [if_neg h2]; exact ⟨_, Option.bind_some ..⟩
  · rw [if_neg h1]; exact ⟨_, Option.bind_some ..⟩
theorem oget_tot (b : List Int) (ax : Int) (ho : Octs b) (hl : 10 ≤ b.length) (hl2 : b.length ≤ 5000) (hm : msg_Sane.f 1 b = some true) : ∃ g, open_Get.f 1 b ax = some g ∧ g.2.2.2.2.2.2.length ≤ 2 := by
  unfold open_Get.f
  have h9 := ho.rd 9
  rw [if_pos rfl, hm, Option.bind_some, if_pos rfl, if_pos ⟨hl, hl2, h9.1, h9.2⟩]
  by_cases c : rd b 0 = 4
  · rw [if_pos c]
    by_cases d : rd b 9 = (b.length : Int) - 10
    · rw [if_pos d]
      obtain ⟨sub, ok, st, hr, -⟩ := reads_ok (b.drop 10) (by rw [List.length_drop]; omega) (ho.drop 10)
      rw [hr, Option.bind_some]
      cases ok
      · exact ⟨_, rfl, by simp⟩
      rw [if_pos rfl]
      obtain ⟨p, hp⟩ : ∃ p, octet_Get.f 8 (b.drop 1) 2 = some (p, b.drop 3, true) := ⟨_, by rw [octet_getS 8 (b.drop 1) 2 (by omega) (ho.drop 1) (by omega) (by omega) (by rw [List.length_drop]; omega), List.drop_drop]; rfl⟩
      rw [hp, Option.bind_some, octet_getS 8 (b.drop 3) 2 (by omega) (ho.drop 3) (by omega) (by omega) (by rw [List.length_drop]; omega), Option.bind_some]
      dsimp only
      rw [octet_getS 8 ((b.drop 3).drop (2 : Int).toNat) 4 (by omega) ((ho.drop 3).drop _) (by omega) (by omega) (by rw [List.length_drop, List.length_drop]; have : (2 : Int).toNat = 2 := rfl; omega), Option.bind_some]
      have hw : ∃ wr, open_written.f st.1 = some wr := by
        unfold open_written.f
        split <;> exact ⟨_, rfl⟩
      obtain ⟨wr, hw⟩ := hw
      rw [hw, Option.bind_some]
      refine ⟨_, rfl, ?_⟩
      (repeat' split) <;> simp
    · rw [if_neg d]
      exact ⟨_, rfl, by simp⟩
  · rw [if_neg c]
    exact ⟨_, rfl, by simp⟩
theorem sent_tot (x1 x2 x3 a b c d : Int) (l4 : List S62) (l5 : List S31) (k : Int) (bd : List Int) (hk : 0 ≤ k) (hk2 : k < (l5.length : Int)) (ho : Octs bd) (hl : 10 ≤ bd.length) (hl2 : bd.length ≤ 5000) (hm : msg_Sane.f 1 bd = some true) :
    ∃ R, session_call_sent.f 1 x1 x2 x3 a b c d l4 l5 k 1 bd = some R := by
  unfold session_call_sent.f
  rw [if_pos rfl, if_pos ⟨hk, hk2⟩]
  obtain ⟨g, hg, hgl⟩ := oget_tot bd (rd_T31 l5 k).f0 ho hl hl2 hm
  have he : ∀ x y l, l.length ≤ 10 → ∃ R, session_call_ends.f 1 x1 x2 x3 a b c d l4 l5 k 1 bd x y l = some R := fun x y l h => by
    obtain ⟨R, hR⟩ := stop_tot 1 x1 x2 x3 x y l h
    unfold session_call_ends.f
    rw [hR, Option.bind_some]
    exact ⟨_, rfl⟩
  rw [hg, Option.bind_some]
  split
  · split
    · have hm : ∀ z, ∃ mi, role_Mine.f z = some mi := fun z => by
        unfold role_Mine.f
        (repeat' split) <;> exact ⟨_, rfl⟩
      obtain ⟨mi, hmi⟩ := hm (rd_T31 l5 k).f1
      rw [hmi, Option.bind_some]
      unfold role_Pairs.f
      rw [Option.bind_some]
      split
      · exact ⟨_, rfl⟩
      · exact he _ _ _ (by simp)
    · exact ⟨_, rfl⟩
  · exact he _ _ _ (by omega)
theorem out_eq (s x1 x2 x3 a b c d : Int) (l4 : List S62) (l5 : List S31) (k t : Int) (bd : List Int) (hs : saneS s x1 x2 x3) (h : s = 1 ∨ s = 2 ∨ s = 3) : session_call_out.f s x1 x2 x3 a b c d l4 l5 k t bd = some (0, 0, 0, 0, [⟨3, [5, s]⟩], false) := by
  unfold session_call_out.f session_call_ends.f session_Stop.f
  rw [known_in s x1 x2 x3 hs, Option.bind_some]
  rcases h with rfl | rfl | rfl <;> rfl
theorem note_five (k : Nat) (s : Int) (h : s = 1 ∨ s = 2 ∨ s = 3) : note_Get.f (k + 1) 3 [5, s] = some (5, s, [], true) := by
  have e0 : wrap64 (rd [5, s] 0) = 5 := by show wrap64 5 = 5; exact w64 (by omega) (by omega)
  have e1 : wrap64 (rd [5, s] 1) = s := by show wrap64 s = s; exact w64 (by omega) (by omega)
  unfold note_Get.f
  rw [if_pos rfl, decide_eq_false (by simp), note_Get.j0, if_neg (by decide), if_pos (by simp), if_pos (by simp), if_pos (by simp), e0, e1]
  have hc : slices_Clone_byte_byte.f (([5, s] : List Int).drop 2) = some [] := by
    show slices_Clone_byte_byte.f [] = some []
    simp [slices_Clone_byte_byte.f]
  have hn : note_Sane.f 5 s [] = some true := by
    unfold note_Sane.f
    rw [if_pos (by decide), if_pos (by decide), if_pos (by omega), if_pos (by omega)]
    rfl
  rw [hc, Option.bind_some, hn, Option.bind_some, if_pos rfl]
theorem few_short (k : Nat) (a b c d : Int) (l4 : List S62) (l5 : List S31) (t : Int) (bd : List Int) (hl : l5.length ≤ 9223372036854775807) (hk : l5.length < k) : ∃ r, ridgewaylaw17_short.f k a b c d l4 l5 t bd = some r ∧ (r = true → bd.length ≤ 5000) := by
  unfold ridgewaylaw17_short.f
  obtain ⟨x, hx⟩ := few_tot k a b c d l4 l5 hl hk
  rw [hx, Option.bind_some]
  cases x
  · exact ⟨false, rfl, fun h => by cases h⟩
  · exact ⟨_, if_pos rfl, fun h => by have := of_decide_eq_true h; omega⟩
/-- What is told of a message that comes to a session. -/
def deafT (s t : Int) (R : Int × Int × Int × Int × List MsgS × Bool) : Prop :=
  if t = 3 then R.1 = 0 ∧ R.2.1 = 0 ∧ R.2.2.1 = 0 ∧ R.2.2.2.1 = 0 ∧ R.2.2.2.2.1 = [] ∧ R.2.2.2.2.2 = false
  else if s = 1 ∧ t = 1 then True
  else if s = 2 ∧ t = 4 ∨ s = 3 ∧ (t = 4 ∨ t = 2) then R.1 = 3 ∧ R.2.2.2.2.1 = [] ∧ R.2.2.2.2.2 = (t == 2)
  else R = (0, 0, 0, 0, [⟨3, [5, s]⟩], false)
theorem take_deaf (s x1 x2 x3 : Int) (x : S26) (k t : Int) (bd : List Int) (hs : saneS s x1 x2 x3) (h0 : s ≠ 0) (hc : conf_Sane.f x.f0 x.f1 x.f2 x.f3 x.f4 x.f5 = some true) (hk : 0 ≤ k) (hk2 : k < (x.f5.length : Int)) (ho : Octs bd) (hl2 : bd.length ≤ 5000) (hm : msg_Sane.f t bd = some true) :
    ∃ R, session_Take.f s x1 x2 x3 x.f0 x.f1 x.f2 x.f3 x.f4 x.f5 k t bd = some R ∧ deafT s t R := by
  have hms := msane t bd hl2 hm
  unfold session_Take.f
  rw [known_in s x1 x2 x3 hs, Option.bind_some, if_neg h0]
  have hsd : session_side.f x.f0 x.f1 x.f2 x.f3 x.f4 x.f5 k = some true := by
    unfold session_side.f
    rw [if_pos hk, if_pos hk2, hc]
    rfl
  rw [hsd, Option.bind_some, if_pos rfl, hm, Option.bind_some, if_pos rfl]
  unfold deafT
  by_cases t3 : t = 3
  · rw [if_pos t3]
    refine ⟨_, rfl, ?_⟩
    rw [if_pos t3]
    exact ⟨rfl, rfl, rfl, rfl, rfl, rfl⟩
  rw [if_neg t3]
  simp only [if_neg t3]
  have hs3 : s = 1 ∨ s = 2 ∨ s = 3 := by unfold saneS at hs; omega
  unfold session_Take.g
  rcases hs3 with rfl | rfl | rfl
  · rw [if_pos rfl]
    by_cases t1 : t = 1
    · subst t1
      obtain ⟨R, hR⟩ := sent_tot x1 x2 x3 x.f0 x.f1 x.f2 x.f3 x.f4 x.f5 k bd hk hk2 ho (hms.1 rfl) hl2 hm
      exact ⟨R, hR, by rw [if_pos ⟨rfl, rfl⟩]; trivial⟩
    · unfold session_call_sent.f
      rw [if_neg t1, out_eq 1 x1 x2 x3 _ _ _ _ _ _ _ _ _ hs (by omega)]
      exact ⟨_, rfl, by rw [if_neg (by omega), if_neg (by omega)]⟩
  · rw [if_neg (by decide), if_pos rfl]
    unfold session_call_confirm.f
    by_cases t4 : t = 4
    · rw [if_pos t4]
      unfold session_call_heard.f
      exact ⟨_, rfl, by rw [if_neg (by omega), if_pos (by omega)]; exact ⟨rfl, rfl, rfl⟩⟩
    · rw [if_neg t4, out_eq 2 x1 x2 x3 _ _ _ _ _ _ _ _ _ hs (by omega)]
      exact ⟨_, rfl, by rw [if_neg (by omega), if_neg (by omega)]⟩
  · rw [if_neg (by decide), if_neg (by decide), if_pos rfl]
    unfold session_call_up.f
    by_cases t1 : t = 1
    · rw [if_pos t1, out_eq 3 x1 x2 x3 _ _ _ _ _ _ _ _ _ hs (by omega)]
      exact ⟨_, rfl, by rw [if_neg (by omega), if_neg (by omega)]⟩
    · rw [if_neg t1]
      unfold session_call_heard.f
      exact ⟨_, rfl, by rw [if_neg (by omega), if_pos (by omega)]; exact ⟨rfl, rfl, rfl⟩⟩
theorem SessionDeaf : ridgewaylaw17_SessionDeaf.Pure := by
  intro x0 x1 a2 x3 w0 w1 w2 w3
  obtain ⟨s, h, e, f⟩ := x0
  obtain ⟨t, bd⟩ := x3
  have ho : Octs bd := octs_of_wf w3.2.2
  dsimp only
  have hlen : x1.f5.length ≤ 9223372036854775807 := by have := w1.2.2.2.2.2.1; simp only [maxLen] at this; omega
  refine ⟨x1.f5.length + 100, ?_⟩
  have hb : ridgewaylaw17_SessionDeaf.j0 (x1.f5.length + 100) a2 true true s h e f x1.f0 x1.f1 x1.f2 x1.f3 x1.f4 x1.f5 t bd = some true := by
    show ridgewaylaw17_SessionDeaf.j0 (x1.f5.length + 99 + 1) a2 true true s h e f x1.f0 x1.f1 x1.f2 x1.f3 x1.f4 x1.f5 t bd = some true
    rw [ridgewaylaw17_SessionDeaf.j0, if_pos rfl]
  unfold ridgewaylaw17_SessionDeaf.f ridgewaylaw17_awake.f
  obtain ⟨b, hf, hf2⟩ := few_short (x1.f5.length + 100) x1.f0 x1.f1 x1.f2 x1.f3 x1.f4 x1.f5 t bd hlen (by omega)
  obtain ⟨c, hc⟩ := conf_tot x1 w1
  obtain ⟨m, hm⟩ := msane_tot t bd
  rw [Option.bind_some, hf, Option.bind_some]
  cases b
  · rw [if_neg (by decide), hb]
  have hbd := hf2 rfl
  rw [if_pos rfl, hc, Option.bind_some]
  cases c
  · rw [if_neg (by decide), hb]
  rw [if_pos rfl]
  by_cases c1 : a2 < 0
  · rw [if_pos c1, hb]
  rw [if_neg c1]
  by_cases c2 : a2 ≥ (x1.f5.length : Int)
  · rw [if_pos c2, hb]
  rw [if_neg c2, hm, Option.bind_some]
  cases m
  · exact hb
  show ridgewaylaw17_SessionDeaf.j0 (x1.f5.length + 99 + 1) a2 true false s h e f x1.f0 x1.f1 x1.f2 x1.f3 x1.f4 x1.f5 t bd = some true
  rw [ridgewaylaw17_SessionDeaf.j0, if_neg (by decide)]
  by_cases hs : saneS s h e f
  rotate_left
  · have htk : session_Take.f s h e f x1.f0 x1.f1 x1.f2 x1.f3 x1.f4 x1.f5 a2 t bd = some (0, 0, 0, 0, [], false) := by
      unfold session_Take.f
      rw [known_out s h e f hs, Option.bind_some, if_pos rfl]
    rw [htk, Option.bind_some, sane_false s h e f hs, Option.bind_some, if_neg (by decide)]
    show ridgewaylaw17_SessionDeaf.j1 (x1.f5.length + 98 + 1) _ _ _ _ _ _ _ _ _ _ _ _ _ _ = _
    rw [ridgewaylaw17_SessionDeaf.j1, if_pos rfl, if_pos rfl]
    rfl
  by_cases h0 : s = 0
  · have htk : session_Take.f s h e f x1.f0 x1.f1 x1.f2 x1.f3 x1.f4 x1.f5 a2 t bd = some (0, 0, 0, 0, [], false) := by
      have hz : h = 0 ∧ e = 0 ∧ f = 0 := by unfold saneS at hs; omega
      unfold session_Take.f
      rw [known_in s h e f hs, Option.bind_some, if_pos h0, h0, hz.1, hz.2.1, hz.2.2]
    rw [htk, Option.bind_some, sane_true s h e f hs, Option.bind_some, if_pos rfl, h0]
    show ridgewaylaw17_SessionDeaf.j1 (x1.f5.length + 98 + 1) _ _ _ _ _ _ _ _ _ _ _ _ _ _ = _
    rw [ridgewaylaw17_SessionDeaf.j1, if_pos (by rfl), if_pos rfl]
    rfl
  obtain ⟨R, hR, hD⟩ := take_deaf s h e f x1 a2 t bd hs h0 hc (by omega) (by omega) ho hbd hm
  obtain ⟨r1, r2, r3, r4, r5, r6⟩ := R
  rw [hR, Option.bind_some, sane_true s h e f hs, Option.bind_some, if_pos rfl]
  dsimp only
  have hn0 : (s == 0) = false := by simpa using h0
  rw [hn0]
  show ridgewaylaw17_SessionDeaf.j1 (x1.f5.length + 98 + 1) _ _ _ _ _ _ _ _ _ _ _ _ _ _ = _
  have hj2 : ∀ B : Bool, (B = true ↔ (s = 1 ∧ t = 1 ∨ s = 2 ∧ t = 4 ∨ s = 3 ∧ (t = 4 ∨ t = 2))) → ridgewaylaw17_SessionDeaf.j2 (x1.f5.length + 98) true r5 r6 B s h e f t bd r1 r2 r3 r4 = some true := by
    intro B hB
    show ridgewaylaw17_SessionDeaf.j2 (x1.f5.length + 97 + 1) true r5 r6 B s h e f t bd r1 r2 r3 r4 = some true
    rw [ridgewaylaw17_SessionDeaf.j2]
    unfold deafT at hD
    by_cases t3 : t = 3
    · rw [if_pos t3] at hD
      obtain ⟨rfl, rfl, rfl, rfl, rfl, rfl⟩ := hD
      rw [if_pos t3, if_pos rfl]
      rfl
    rw [if_neg t3] at hD
    rw [if_neg t3]
    by_cases hB1 : B = true
    · have hw := hB.1 hB1
      rw [if_pos hB1, if_pos rfl]
      by_cases s1 : s = 1
      · rw [if_pos s1]
      rw [if_neg s1]
      rw [if_neg (by omega), if_pos (by omega)] at hD
      obtain ⟨rfl, rfl, rfl⟩ := hD
      rw [if_pos rfl, if_pos (by rfl)]
      simp
    · have hw : ¬ (s = 1 ∧ t = 1 ∨ s = 2 ∧ t = 4 ∨ s = 3 ∧ (t = 4 ∨ t = 2)) := fun hh => hB1 (hB.2 hh)
      rw [if_neg hB1]
      rw [if_neg (by omega), if_neg (by omega)] at hD
      cases hD
      have hs3 : s = 1 ∨ s = 2 ∨ s = 3 := by unfold saneS at hs; omega
      rw [if_pos (by rfl), if_pos (by simp), show rd_T45 [(⟨3, [5, s]⟩ : MsgS)] 0 = ⟨3, [5, s]⟩ from rfl]
      dsimp only
      rw [show x1.f5.length + 97 = (x1.f5.length + 96) + 1 by omega, note_five _ s hs3, Option.bind_some, if_pos rfl, if_pos rfl]
      dsimp only
      rw [if_pos (by decide), if_pos rfl, if_pos rfl]
      rfl
  rw [ridgewaylaw17_SessionDeaf.j1, if_neg (by decide)]
  have ht := (msane t bd hbd hm).2
  by_cases s1 : s = 1
  · rw [if_pos s1]
    by_cases t1 : t = 1
    · rw [if_pos t1]
      exact hj2 true ⟨fun _ => by omega, fun _ => rfl⟩
    · rw [if_neg t1, if_neg (by omega), if_neg (by omega)]
      exact hj2 false (by simp; omega)
  · rw [if_neg s1]
    by_cases s2 : s = 2
    · rw [if_pos s2]
      by_cases t4 : t = 4
      · rw [if_pos t4]
        exact hj2 true ⟨fun _ => by omega, fun _ => rfl⟩
      · rw [if_neg t4, if_neg (by omega)]
        exact hj2 false (by simp; omega)
    · have s3 : s = 3 := by unfold saneS at hs; omega
      rw [if_neg s2, if_pos s3]
      by_cases t4 : t = 4
      · rw [if_pos t4]
        exact hj2 true ⟨fun _ => by omega, fun _ => rfl⟩
      · rw [if_neg t4]
        exact hj2 (t == 2) (by rw [beq_iff_eq]; omega)
end Go.Proofs.YtfbndolhocojiaaDoor.Pure
