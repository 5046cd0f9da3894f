/- Seconds of a session, in plain words: what may be (saneS), n seconds (tk). Conditions: those that each states. -/
import Derived.Test.YtfbndolhocojiaaDoorXSessS
import Derived.Test.YtfbndolhocojiaaDoorKx15
import Derived.Test.YtfbndolhocojiaaDoorKx3
import Derived.Test.YtfbndolhocojiaaDoorKx9
import Derived.Test.YtfbndolhocojiaaDoorXPure
namespace Go.Proofs.YtfbndolhocojiaaDoor.Pure
open Go.RowKit Go.Proofs.YtfbndolhocojiaaDoor.K Go.Proofs.YtfbndolhocojiaaDoorW.PrintWords Go.Proofs.YtfbndolhocojiaaDoorW.PrintLast Go.Proofs.YtfbndolhocojiaaDoorW.PrintMore Go.Proofs.YtfbndolhocojiaaDoorW.PrintX
set_option linter.unusedVariables false
set_option linter.unusedSimpArgs false

abbrev outN : MsgS := ⟨3, [4, 0]⟩
abbrev aliveM : MsgS := ⟨4, []⟩
theorem stop_hold (a b c d : Int) (h : saneS a b c d) (ha : a ≠ 0) : session_Stop.f a b c d 4 0 [] = some (0, 0, 0, 0, [outN]) := by
  unfold session_Stop.f
  rw [known_in a b c d h, Option.bind_some, if_neg ha]
  rfl
/-- n seconds. -/
def tk : Nat → Int → Int → Int → Int → List MsgS → Int × Int × Int × Int × List MsgS
  | 0, a, b, c, d, o => (a, b, c, d, o)
  | n + 1, a, b, c, d, o => if c = 0 then (a, b, c, d, o) else if c = 1 then (0, 0, 0, 0, o ++ [outN]) else if d = 1 then tk n a b (c - 1) (b / 3) (o ++ [aliveM]) else tk n a b (c - 1) (if d > 0 then d - 1 else d) o
theorem tk_c0 (a b d : Int) (o : List MsgS) : ∀ n, tk n a b 0 d o = (a, b, 0, d, o)
  | 0 => rfl
  | n + 1 => by rw [tk, if_pos rfl]
theorem tk_step (a b c d : Int) (h : saneS a b c d) (c0 : c ≠ 0) (c1 : c ≠ 1) : saneS a b (c - 1) (if d = 1 then b / 3 else if d > 0 then d - 1 else d) := by
  unfold saneS at h ⊢
  split
  · omega
  · split <;> omega
theorem tk_sane : ∀ (n : Nat) (a b c d : Int) (o : List MsgS), saneS a b c d → saneS (tk n a b c d o).1 (tk n a b c d o).2.1 (tk n a b c d o).2.2.1 (tk n a b c d o).2.2.2.1
  | 0, _, _, _, _, _, h => h
  | n + 1, a, b, c, d, o, h => by
    rw [tk]
    by_cases c0 : c = 0
    · rw [if_pos c0]; exact h
    rw [if_neg c0]
    by_cases c1 : c = 1
    · rw [if_pos c1]; exact .inl ⟨rfl, rfl, rfl, rfl⟩
    rw [if_neg c1]
    have hs := tk_step a b c d h c0 c1
    by_cases d1 : d = 1
    · rw [if_pos d1] at hs ⊢
      exact tk_sane n _ _ _ _ _ hs
    · rw [if_neg d1] at hs ⊢
      exact tk_sane n _ _ _ _ _ hs
theorem tick_l0 (N : Int) : ∀ (n k : Nat) (i a b c d : Int) (o : List MsgS), saneS a b c d → 0 ≤ i → i + n = N → N ≤ 1000 → n < k → o.length + n < 100000 → session_Tick.l0 k o N i a b c d = some (tk n a b c d o)
  | 0, k, i, a, b, c, d, o, h, hi0, hi, hN, hk, ho => by
    obtain ⟨k, rfl⟩ : ∃ k', k = k' + 1 := ⟨k - 1, by omega⟩
    rw [session_Tick.l0, if_neg (by omega), tk]
  | n + 1, k, i, a, b, c, d, o, h, hi0, hi, hN, hk, ho => by
    obtain ⟨k, rfl⟩ : ∃ k', k = k' + 1 := ⟨k - 1, by omega⟩
    rw [session_Tick.l0, if_pos (by omega), tk]
    by_cases c0 : c = 0
    · rw [if_pos c0, if_pos c0]
    rw [if_neg c0, if_neg c0]
    by_cases c1 : c = 1
    · rw [if_pos c1, if_pos c1, stop_hold a b c d h (by unfold saneS at h; omega), Option.bind_some, if_pos (by simp only [List.length_cons, List.length_nil]; omega)]
    rw [if_neg c1, if_neg c1]
    have hs := tk_step a b c d h c0 c1
    have hb : 0 ≤ b ∧ b ≤ 65535 ∧ c ≤ 65535 ∧ 0 < c ∧ 0 ≤ d ∧ d ≤ 65535 := by unfold saneS at h; omega
    rw [w64 (n := i + 1) (by omega) (by omega), w64 (n := c - 1) (by omega) (by omega)]
    by_cases d1 : d = 1
    · rw [if_pos d1] at hs
      have h3 : 0 < b / 3 := by unfold saneS at h; omega
      rw [if_pos d1, if_pos d1, if_pos (by omega), Option.bind_some, third b hb.1 hb.2.1, w64 (n := d + b / 3) (by omega) (by omega), if_pos (by omega), w64 (by omega) (by omega), show d + b / 3 - 1 = b / 3 by omega]
      exact tick_l0 N n k (i + 1) a b (c - 1) (b / 3) _ hs (by omega) (by omega) hN (by omega) (by rw [List.length_append, List.length_singleton]; omega)
    · rw [if_neg d1] at hs
      rw [if_neg d1, if_neg d1]
      by_cases d0 : d > 0
      · rw [if_pos d0] at hs
        rw [if_pos d0, if_pos d0, w64 (by omega) (by omega)]
        exact tick_l0 N n k (i + 1) a b (c - 1) (d - 1) _ hs (by omega) (by omega) hN (by omega) (by omega)
      · rw [if_neg d0] at hs
        rw [if_neg d0, if_neg d0]
        exact tick_l0 N n k (i + 1) a b (c - 1) d _ hs (by omega) (by omega) hN (by omega) (by omega)
theorem tk_end : ∀ (n : Nat) (a b c d : Int) (o : List MsgS), 0 < c → c ≤ n → ∃ L, tk n a b c d o = (0, 0, 0, 0, L ++ [outN])
  | 0, a, b, c, d, o, h, hn => by omega
  | n + 1, a, b, c, d, o, h, hn => by
    rw [tk, if_neg (by omega)]
    by_cases c1 : c = 1
    · rw [if_pos c1]; exact ⟨o, rfl⟩
    rw [if_neg c1]
    split
    · exact tk_end n _ _ _ _ _ (by omega) (by omega)
    · exact tk_end n _ _ _ _ _ (by omega) (by omega)
theorem tk_cnt : ∀ (n : Nat) (a b c d : Int) (o : List MsgS), saneS a b c d → (n : Int) < c → ∃ d' L, tk n a b c d o = (a, b, c - n, d', L) ∧ (L.length : Int) = o.length + (if 0 < d ∧ d ≤ n then 1 + (n - d) / (b / 3) else 0)
  | 0, a, b, c, d, o, h, hn => ⟨d, o, by rw [tk]; simp, by rw [if_neg (by omega)]; omega⟩
  | n + 1, a, b, c, d, o, h, hn => by
    rw [tk, if_neg (by omega), if_neg (by omega)]
    have hs := tk_step a b c d h (by omega) (by omega)
    by_cases d1 : d = 1
    · rw [if_pos d1] at hs ⊢
      have h3 : 0 < b / 3 := by unfold saneS at h; omega
      obtain ⟨d', L, h1, h2⟩ := tk_cnt n a b (c - 1) (b / 3) (o ++ [aliveM]) hs (by omega)
      refine ⟨d', L, by rw [h1, show c - 1 - (n : Int) = c - ((n + 1 : Nat) : Int) by omega], ?_⟩
      subst d1
      rw [h2, if_pos (show (0 : Int) < 1 ∧ 1 ≤ ((n + 1 : Nat) : Int) by omega), List.length_append, List.length_singleton]
      by_cases g : 0 < b / 3 ∧ b / 3 ≤ (n : Int)
      · rw [if_pos g]
        have : ((n + 1 : Nat) : Int) - 1 = ((n : Int) - b / 3) + b / 3 := by omega
        rw [this, Int.add_ediv_of_dvd_right (Int.dvd_refl _), Int.ediv_self (by omega)]
        omega
      · rw [if_neg g]
        have : (((n + 1 : Nat) : Int) - 1) / (b / 3) = 0 := Int.ediv_eq_zero_of_lt (by omega) (by omega)
        rw [this]
        omega
    · rw [if_neg d1] at hs ⊢
      by_cases d0 : d > 0
      · rw [if_pos d0] at hs ⊢
        obtain ⟨d', L, h1, h2⟩ := tk_cnt n a b (c - 1) (d - 1) o hs (by omega)
        refine ⟨d', L, by rw [h1, show c - 1 - (n : Int) = c - ((n + 1 : Nat) : Int) by omega], ?_⟩
        rw [h2]
        by_cases g : d ≤ ((n + 1 : Nat) : Int)
        · rw [if_pos ⟨by omega, by omega⟩, if_pos ⟨by omega, g⟩, show (n : Int) - (d - 1) = ((n + 1 : Nat) : Int) - d by omega]
        · rw [if_neg (by omega), if_neg (by omega)]
      · rw [if_neg d0] at hs ⊢
        obtain ⟨d', L, h1, h2⟩ := tk_cnt n a b (c - 1) d o hs (by omega)
        refine ⟨d', L, by rw [h1, show c - 1 - (n : Int) = c - ((n + 1 : Nat) : Int) by omega], ?_⟩
        rw [h2, if_neg (by omega), if_neg (by omega)]
end Go.Proofs.YtfbndolhocojiaaDoor.Pure
