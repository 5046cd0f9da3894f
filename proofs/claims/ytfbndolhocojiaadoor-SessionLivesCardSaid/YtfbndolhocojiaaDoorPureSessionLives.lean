/- SessionLives: who is heard in time stays. No conditions but those of the statement. -/
import Derived.Test.YtfbndolhocojiaaDoorLx13
import Derived.Test.YtfbndolhocojiaaDoorLx16
import Derived.Test.YtfbndolhocojiaaDoorXSession
import Derived.Test.YtfbndolhocojiaaDoorXSessionConf
namespace Go.Proofs.YtfbndolhocojiaaDoor.Pure
open Go.RowKit Go.Proofs.YtfbndolhocojiaaDoor.L Go.Proofs.YtfbndolhocojiaaDoorW.PrintWords Go.Proofs.YtfbndolhocojiaaDoorW.PrintLast Go.Proofs.YtfbndolhocojiaaDoorW.PrintMore Go.Proofs.YtfbndolhocojiaaDoorW.PrintX
set_option linter.unusedVariables false
set_option linter.unusedSimpArgs false

theorem take_alive (a b c d : Int) (l4 : List S62) (l5 : List S31) (k h e f : Int) (hs : saneS 3 h e f) (hc : conf_Sane.f a b c d l4 l5 = some true) (hk : 0 ≤ k) (hk2 : k < (l5.length : Int)) :
    session_Take.f 3 h e f a b c d l4 l5 k 4 [] = some (3, h, h, f, [], false) := by
  unfold session_Take.f
  rw [known_in 3 h e f hs, Option.bind_some, if_neg (show ¬ (3 : Int) = 0 by decide)]
  have hsd : session_side.f a b c d l4 l5 k = some true := by
    unfold session_side.f
    rw [if_pos hk, if_pos hk2, hc]
    rfl
  have hms : msg_Sane.f 4 [] = some true := by kernel_rfl
  rw [hsd, Option.bind_some, if_pos rfl, hms, Option.bind_some, if_pos rfl, if_neg (by decide)]
  unfold session_Take.g session_call_up.f session_call_heard.f
  rfl
theorem lives_l0 (a b c d : Int) (l4 : List S62) (l5 : List S31) (k h : Int) (l : List Int) (hc : conf_Sane.f a b c d l4 l5 = some true) (hk : 0 ≤ k) (hk2 : k < (l5.length : Int)) (h3 : 3 ≤ h) (h9 : h ≤ 900) (hl : l.length ≤ 20) :
    ∀ (n K i : Nat) (f : Int), i + n = l.length → n + 1010 < K → 0 < f → f ≤ h / 3 → ridgewaylaw17_SessionLives.l0 K k h l true (i : Int) a b c d l4 l5 3 h h f = some true
  | 0, K, i, f, hi, hK, hf, hf2 => by
    obtain ⟨K, rfl⟩ : ∃ k', K = k' + 1 := ⟨K - 1, by omega⟩
    rw [ridgewaylaw17_SessionLives.l0, if_neg (by omega), if_pos rfl, if_pos rfl]
    simp
  | n + 1, K, i, f, hi, hK, hf, hf2 => by
    obtain ⟨K, rfl⟩ : ∃ k', K = k' + 1 := ⟨K - 1, by omega⟩
    rw [ridgewaylaw17_SessionLives.l0, if_pos (by omega), if_pos (by omega), if_neg (by omega)]
    have hand : Go.bits .and .i64 (rd l (i : Int)) 65535 = rd l (i : Int) % 65536 := and_mask _ 16 (by omega)
    obtain ⟨x, hx⟩ : ∃ x, x = rd l (i : Int) % 65536 := ⟨_, rfl⟩
    have hx0 : 0 ≤ x := by omega
    rw [hand, ← hx, Int.tmod_eq_emod_of_nonneg hx0]
    have hm0 := Int.emod_nonneg x (show h ≠ 0 by omega)
    have hm1 := Int.emod_lt_of_pos x (show 0 < h by omega)
    have hs : saneS 3 h h f := .inr (.inr ⟨.inr rfl, .inr ⟨h3, by omega, by omega, by omega, hf, hf2⟩⟩)
    rw [tick_in K 3 h h f (x % h) hs hm0 (by omega) (by omega), Option.bind_some]
    obtain ⟨d', L, hL, _⟩ := tk_cnt (x % h).toNat 3 h h f [] hs (by omega)
    have hs2 := tk_sane (x % h).toNat 3 h h f [] hs
    rw [hL] at hs2 ⊢
    dsimp only at hs2 ⊢
    have hd : 0 < d' ∧ d' ≤ h / 3 := by unfold saneS at hs2; omega
    rw [take_alive a b c d l4 l5 k h _ d' hs2 hc hk hk2, Option.bind_some, if_pos rfl]
    dsimp only
    rw [if_neg (by simp), if_neg (by decide), if_pos rfl, w64 (by omega) (by omega)]
    exact lives_l0 a b c d l4 l5 k h l hc hk hk2 h3 h9 hl n K (i + 1) d' (by omega) (by omega) hd.1 hd.2
theorem SessionLives : ridgewaylaw17_SessionLives.Pure := by
  intro x a1 a2 l3 hw h1 h2 h3
  have hlen : x.f5.length ≤ 9223372036854775807 := by have := hw.2.2.2.2.2.1; simp only [maxLen] at this; omega
  refine ⟨x.f5.length + 1100, ?_⟩
  have hb : ridgewaylaw17_SessionLives.j0 (x.f5.length + 1100) a1 a2 l3 true true x.f0 x.f1 x.f2 x.f3 x.f4 x.f5 = some true := by
    show ridgewaylaw17_SessionLives.j0 (x.f5.length + 1099 + 1) a1 a2 l3 true true x.f0 x.f1 x.f2 x.f3 x.f4 x.f5 = some true
    rw [ridgewaylaw17_SessionLives.j0, if_pos rfl]
  unfold ridgewaylaw17_SessionLives.f ridgewaylaw17_awake.f
  obtain ⟨b, hf⟩ := few_tot (x.f5.length + 1100) x.f0 x.f1 x.f2 x.f3 x.f4 x.f5 hlen (by omega)
  obtain ⟨s, hc⟩ := conf_tot x hw
  rw [Option.bind_some, hf, Option.bind_some]
  cases b
  · rw [if_neg (by decide), hb]
  rw [if_pos rfl, hc, Option.bind_some]
  cases s
  · rw [if_neg (by decide), hb]
  rw [if_pos rfl]
  by_cases c1 : a1 < 0
  · rw [if_pos c1, hb]
  rw [if_neg c1]
  by_cases c2 : a1 ≥ (x.f5.length : Int)
  · rw [if_pos c2, hb]
  rw [if_neg c2]
  by_cases c3 : a2 < 3
  · rw [if_pos c3, hb]
  rw [if_neg c3]
  by_cases c4 : a2 > 900
  · rw [if_pos c4, hb]
  rw [if_neg c4]
  by_cases c5 : (l3.length : Int) > 20
  · rw [decide_eq_true c5, hb]
  · rw [decide_eq_false c5]
    show ridgewaylaw17_SessionLives.j0 (x.f5.length + 1099 + 1) a1 a2 l3 true false x.f0 x.f1 x.f2 x.f3 x.f4 x.f5 = some true
    rw [ridgewaylaw17_SessionLives.j0, if_neg (by decide), third a2 (by omega) (by omega)]
    exact lives_l0 x.f0 x.f1 x.f2 x.f3 x.f4 x.f5 a1 a2 l3 hc (by omega) (by omega) (by omega) (by omega) (by omega) l3.length (x.f5.length + 1099) 0 (a2 / 3) (by omega) (by omega) (by omega) (by omega)
end Go.Proofs.YtfbndolhocojiaaDoor.Pure
