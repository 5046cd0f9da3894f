/- What two neighbours' sessions come to at each step of SessionMeet, in plain words. Conditions: those in each statement. -/
import Derived.Test.YtfbndolhocojiaaDoorXOpenP
import Derived.Test.YtfbndolhocojiaaDoorXSessS
import Derived.Test.YtfbndolhocojiaaDoorMx13
import Derived.Test.YtfbndolhocojiaaDoorMx14
import Derived.Test.YtfbndolhocojiaaDoorMx15
import Derived.Test.YtfbndolhocojiaaDoorMx7
import Derived.Test.YtfbndolhocojiaaDoorMx9
namespace Go.Proofs.YtfbndolhocojiaaDoor.Pure
open Go.RowKit Go.Proofs.YtfbndolhocojiaaDoor.M Go.Proofs.YtfbndolhocojiaaDoorW.PrintWords Go.Proofs.YtfbndolhocojiaaDoorW.PrintLast Go.Proofs.YtfbndolhocojiaaDoorW.PrintMore Go.Proofs.YtfbndolhocojiaaDoorW.PrintX
set_option linter.unusedVariables false
set_option linter.unusedSimpArgs false
def mineV (r : Int) : Int := if r = 1 then 0 else if r = 2 then 4 else 3
abbrev sdL (q r : Int) : List S31 := [⟨q, r, [], []⟩]
theorem within_true (a : Int) (h : 0 < a) (h2 : a ≤ 4294967295) : withinB a = true := by
  unfold withinB
  rw [if_pos h]
  exact decide_eq_true h2
theorem big_true (a : Int) (h : 0 < a) (h2 : a ≤ 4294967295) : bigB a = true := by
  unfold bigB
  simp
  omega
theorem cside_eq (q r : Int) (hq : 0 < q) (hq2 : q ≤ 4294967295) (hr : 1 ≤ r) (hr2 : r ≤ 3) : conf_side.f q r [] [] = some true := by
  unfold conf_side.f conf_within.f
  rw [if_pos hq, Option.bind_some, if_pos (by simpa using hq2), if_pos hr, if_pos hr2]
  rfl
theorem conf_eq (p q r h : Int) (hp : 0 < p) (hp2 : p ≤ 4294967295) (hq : 0 < q) (hq2 : q ≤ 4294967295) (hr : 1 ≤ r) (hr2 : r ≤ 3) (hne : q ≠ p) : conf_Sane.f p p h 9 [] (sdL q r) = some (holdB h) := by
  unfold conf_Sane.f headB
  rw [within_true p hp hp2]
  cases hh : holdB h
  · rfl
  rw [if_pos (by simp), if_pos (by simp [big_true q hq hq2])]
  have ho : ownsL ([] : List S62) [] = some true := rfl
  rw [ho, Option.bind_some, if_pos rfl]
  show (if q ∈ [p] then some false else (conf_side.f q r [] []).bind fun b => if b = true then sidesL [] [q, p] else some false) = some true
  rw [if_neg (by simpa using hne), cside_eq q r hq hq2 hr hr2]
  rfl
theorem side_eq (p q r h : Int) (hp : 0 < p) (hp2 : p ≤ 4294967295) (hq : 0 < q) (hq2 : q ≤ 4294967295) (hr : 1 ≤ r) (hr2 : r ≤ 3) (hne : q ≠ p) : session_side.f p p h 9 [] (sdL q r) 0 = some (holdB h) := by
  unfold session_side.f
  rw [if_pos (by omega), if_pos (by simp), conf_eq p q r h hp hp2 hq hq2 hr hr2 hne]
  rfl
theorem hold_iff (h : Int) : holdB h = true ↔ (h = 0 ∨ 3 ≤ h ∧ h ≤ 65535) := by
  unfold holdB
  by_cases c : h = 0
  · simp [c]
  rw [if_neg c]
  by_cases d : h ≥ 3
  · rw [if_pos d, decide_eq_true_eq]
    omega
  · rw [if_neg d]
    simp
    omega
theorem mine_eq (r : Int) (hr : 1 ≤ r) (hr2 : r ≤ 3) : role_Mine.f r = some (mineV r) := by
  unfold role_Mine.f mineV
  (repeat' split) <;> first | rfl | omega
theorem mine_range (r : Int) : 0 ≤ mineV r ∧ mineV r ≤ 4 := by
  unfold mineV
  (repeat' split) <;> omega
theorem hello_sane (p h r : Int) (hp : 0 < p) (hp2 : p ≤ 4294967295) (hh : holdB h = true) : saneH p h p (mineV r) = true := by
  have h1 := (hold_iff h).1 hh
  have h2 := mine_range r
  exact (saneH_iff p h p (mineV r)).2 ⟨h1, hp, hp2, hp, hp2, by omega, h2.2⟩
theorem start_eq (p q r h : Int) (hp : 0 < p) (hp2 : p ≤ 4294967295) (hq : 0 < q) (hq2 : q ≤ 4294967295) (hr : 1 ≤ r) (hr2 : r ≤ 3) (hne : q ≠ p) (hh : holdB h = true) :
    session_Start.f 100 0 0 0 0 p p h 9 [] (sdL q r) 0 = some (1, 0, 240, 0, [⟨1, bodyH p h p (mineV r)⟩]) := by
  unfold session_Start.f
  rw [known_in 0 0 0 0 (.inl ⟨rfl, rfl, rfl, rfl⟩), Option.bind_some, if_pos rfl, side_eq p q r h hp hp2 hq hq2 hr hr2 hne, hh, Option.bind_some]
  rw [session_Start.j0, if_neg (by decide)]
  unfold session_Hello.f
  rw [side_eq p q r h hp hp2 hq hq2 hr hr2 hne, hh, Option.bind_some, if_pos rfl, if_pos (by omega), if_pos (by simp), show (rd_T31 (sdL q r) 0).f1 = r from rfl, mine_eq r hr hr2]
  simp only [Option.bind_some]
  rw [put_eq 99 p h p (mineV r) (by omega), hello_sane p h r hp hp2 hh]
  rfl
theorem pairs_eq (r s : Int) (hr : 1 ≤ r) (hr2 : r ≤ 3) (hs : 1 ≤ s) (hs2 : s ≤ 3) : role_Pairs.f (mineV r) (mineV s) = some (decide (r + s = 4)) := by
  have h1 : r = 1 ∨ r = 2 ∨ r = 3 := by omega
  have h2 : s = 1 ∨ s = 2 ∨ s = 3 := by omega
  rcases h1 with rfl | rfl | rfl <;> rcases h2 with rfl | rfl | rfl <;> rfl
theorem mn_hold (h g : Int) (hh : holdB h = true) (hg : holdB g = true) : mn h g = 0 ∨ 3 ≤ mn h g ∧ mn h g ≤ 65535 := by
  have h1 := (hold_iff h).1 hh
  have h2 := (hold_iff g).1 hg
  unfold mn
  split <;> omega
theorem take_ok (p q r s h g : Int) (hp : 0 < p) (hp2 : p ≤ 4294967295) (hq : 0 < q) (hq2 : q ≤ 4294967295) (hr : 1 ≤ r) (hr2 : r ≤ 3) (hs : 1 ≤ s) (hs2 : s ≤ 3) (hne : q ≠ p) (hh : holdB h = true) (hg : holdB g = true) (hrs : r + s = 4) :
    session_Take.f 1 0 240 0 p p h 9 [] (sdL q r) 0 1 (bodyH q g q (mineV s)) = some (2, mn h g, mn h g, mn h g / 3, [⟨4, []⟩], false) := by
  have hl : (bodyH q g q (mineV s)).length ≤ 1000000 := by rw [body_len, tail_len]; split <;> omega
  have hm := mn_hold h g hh hg
  unfold session_Take.f
  rw [known_in 1 0 240 0 (.inr (.inl ⟨rfl, rfl, rfl, by omega, by omega⟩)), Option.bind_some, if_neg (by decide), side_eq p q r h hp hp2 hq hq2 hr hr2 hne, hh, Option.bind_some, if_pos rfl, sane_eq _ _ hl, body_sane, Option.bind_some, if_pos rfl, if_neg (by decide)]
  unfold session_Take.g
  rw [if_pos rfl]
  unfold session_call_sent.f
  rw [if_pos rfl, if_pos ⟨by omega, by simp⟩, show (rd_T31 (sdL q r) 0).f0 = q from rfl, show (rd_T31 (sdL q r) 0).f1 = r from rfl, get_put q g q (mineV s) q (hello_sane q g s hq hq2 hg), if_pos rfl, Option.bind_some]
  dsimp only
  rw [if_pos rfl, if_pos (mine_range s).1, mine_eq r hr hr2, Option.bind_some, pairs_eq r s hr hr2 hs hs2, Option.bind_some, if_pos (decide_eq_true hrs)]
  unfold sentEnd
  dsimp only
  rw [third (mn h g) (by omega) (by omega)]
theorem take_no (p q r s h g : Int) (hp : 0 < p) (hp2 : p ≤ 4294967295) (hq : 0 < q) (hq2 : q ≤ 4294967295) (hr : 1 ≤ r) (hr2 : r ≤ 3) (hs : 1 ≤ s) (hs2 : s ≤ 3) (hne : q ≠ p) (hh : holdB h = true) (hg : holdB g = true) (hrs : r + s ≠ 4) :
    session_Take.f 1 0 240 0 p p h 9 [] (sdL q r) 0 1 (bodyH q g q (mineV s)) = some (0, 0, 0, 0, [⟨3, [2, 11]⟩], false) := by
  have hl : (bodyH q g q (mineV s)).length ≤ 1000000 := by rw [body_len, tail_len]; split <;> omega
  unfold session_Take.f
  rw [known_in 1 0 240 0 (.inr (.inl ⟨rfl, rfl, rfl, by omega, by omega⟩)), Option.bind_some, if_neg (by decide), side_eq p q r h hp hp2 hq hq2 hr hr2 hne, hh, Option.bind_some, if_pos rfl, sane_eq _ _ hl, body_sane, Option.bind_some, if_pos rfl, if_neg (by decide)]
  unfold session_Take.g
  rw [if_pos rfl]
  unfold session_call_sent.f
  rw [if_pos rfl, if_pos ⟨by omega, by simp⟩, show (rd_T31 (sdL q r) 0).f0 = q from rfl, show (rd_T31 (sdL q r) 0).f1 = r from rfl, get_put q g q (mineV s) q (hello_sane q g s hq hq2 hg), if_pos rfl, Option.bind_some]
  dsimp only
  rw [if_pos rfl, if_pos (mine_range s).1, mine_eq r hr hr2, Option.bind_some, pairs_eq r s hr hr2 hs hs2, Option.bind_some, if_neg (by simpa using hrs)]
  unfold session_call_ends.f session_Stop.f
  rw [known_in 1 0 240 0 (.inr (.inl ⟨rfl, rfl, rfl, by omega, by omega⟩))]
  rfl
theorem take_idle (a b c d : Int) (l4 : List S62) (l5 : List S31) (k t : Int) (bd : List Int) : session_Take.f 0 0 0 0 a b c d l4 l5 k t bd = some (0, 0, 0, 0, [], false) := by
  unfold session_Take.f
  rw [known_in 0 0 0 0 (.inl ⟨rfl, rfl, rfl, rfl⟩), Option.bind_some, if_pos rfl]
theorem take_alive (p q r h H : Int) (hp : 0 < p) (hp2 : p ≤ 4294967295) (hq : 0 < q) (hq2 : q ≤ 4294967295) (hr : 1 ≤ r) (hr2 : r ≤ 3) (hne : q ≠ p) (hh : holdB h = true) (hH : H = 0 ∨ 3 ≤ H ∧ H ≤ 65535) :
    session_Take.f 2 H H (H / 3) p p h 9 [] (sdL q r) 0 4 [] = some (3, H, H, H / 3, [], false) := by
  unfold session_Take.f
  rw [known_in 2 H H (H / 3) (.inr (.inr ⟨.inl rfl, by omega⟩)), Option.bind_some, if_neg (show ¬ (2 : Int) = 0 by decide), side_eq p q r h hp hp2 hq hq2 hr hr2 hne, hh, Option.bind_some, if_pos rfl, show msg_Sane.f 4 [] = some true by rw [sane_eq _ _ (by simp)]; rfl, Option.bind_some, if_pos rfl, if_neg (by decide)]
  rfl
theorem step_one (k : Nat) (x0 x1 x2 x3 a b c d : Int) (l4 : List S62) (l5 : List S31) (i t : Int) (bd : List Int) (r1 r2 r3 r4 : Int) (r5 : List S45) (r6 : Bool)
    (h : session_Take.f x0 x1 x2 x3 a b c d l4 l5 i t bd = some (r1, r2, r3, r4, r5, r6)) (hl : r5.length < 1000) : ridgewaylaw17_step.f (k + 2) x0 x1 x2 x3 a b c d l4 l5 i [⟨t, bd⟩] = some (r1, r2, r3, r4, r5) := by
  unfold ridgewaylaw17_step.f
  rw [ridgewaylaw17_step.l0, if_pos (by simp), if_pos (by omega)]
  have hr : rd_T45 [(⟨t, bd⟩ : S45)] 0 = ⟨t, bd⟩ := rfl
  rw [hr, h, Option.bind_some]
  dsimp only
  rw [if_pos (by simp; omega), ridgewaylaw17_step.l0, if_neg (by simp [w64]), List.nil_append]
theorem note_role (k : Nat) : note_Get.f (k + 1) 3 [2, 11] = some (2, 11, [], true) := by
  have e0 : wrap64 (rd [2, 11] 0) = 2 := by show wrap64 2 = 2; exact w64 (by omega) (by omega)
  have e1 : wrap64 (rd [2, 11] 1) = 11 := by show wrap64 11 = 11; exact w64 (by omega) (by omega)
  unfold note_Get.f
  rw [if_pos rfl, decide_eq_false (by simp), note_Get.j0, if_neg (by decide), if_pos (by simp), if_pos (by simp), if_pos (by simp), e0, e1]
  have hc : slices_Clone_byte_byte.f (([2, 11] : List Int).drop 2) = some [] := by
    show slices_Clone_byte_byte.f [] = some []
    simp [slices_Clone_byte_byte.f]
  have hn : note_Sane.f 2 11 [] = some true := by
    unfold note_Sane.f
    rw [if_pos (by decide), if_pos (by decide), if_pos (by omega), if_pos (by omega)]
    rfl
  rw [hc, Option.bind_some, hn, Option.bind_some, if_pos rfl]
theorem and_one (x : Int) : Go.bits .and .i64 x 1 = x % 2 := and_mask x 1 (by omega)
end Go.Proofs.YtfbndolhocojiaaDoor.Pure
