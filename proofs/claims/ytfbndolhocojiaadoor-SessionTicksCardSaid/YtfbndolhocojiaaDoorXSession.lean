/- Seconds of a session, in plain words: what may be (saneS), n seconds (tk). Conditions: those that each states. -/
import Derived.Test.YtfbndolhocojiaaDoorSx15
import Derived.Test.YtfbndolhocojiaaDoorSx3
import Derived.Test.YtfbndolhocojiaaDoorSx9
import Derived.Test.YtfbndolhocojiaaDoorXPure
namespace Go.Proofs.YtfbndolhocojiaaDoor.Pure
open Go.RowKit Go.Proofs.YtfbndolhocojiaaDoor.S Go.Proofs.YtfbndolhocojiaaDoorW.PrintWords Go.Proofs.YtfbndolhocojiaaDoorW.PrintLast Go.Proofs.YtfbndolhocojiaaDoorW.PrintMore Go.Proofs.YtfbndolhocojiaaDoorW.PrintX
set_option linter.unusedVariables false
set_option linter.unusedSimpArgs false

abbrev MsgS := S45
def saneS (a b c d : Int) : Prop := (a = 0 ∧ b = 0 ∧ c = 0 ∧ d = 0) ∨ (a = 1 ∧ b = 0 ∧ d = 0 ∧ 0 < c ∧ c ≤ 240) ∨ ((a = 2 ∨ a = 3) ∧ ((b = 0 ∧ c = 0 ∧ d = 0) ∨ (3 ≤ b ∧ b ≤ 65535 ∧ 0 < c ∧ c ≤ b ∧ 0 < d ∧ d ≤ b / 3)))
theorem third (b : Int) (h : 0 ≤ b) (h2 : b ≤ 65535) : wrap64 (Int.tdiv b 3) = b / 3 := by
  rw [Int.tdiv_eq_ediv_of_nonneg h, w64 (by omega) (by omega)]
theorem timed_eq (a b c d : Int) : ∃ x, session_timed.f a b c d = some x ∧ (x = true ↔ ((b = 0 ∧ c = 0 ∧ d = 0) ∨ (3 ≤ b ∧ b ≤ 65535 ∧ 0 < c ∧ c ≤ b ∧ 0 < d ∧ d ≤ b / 3))) := by
  unfold session_timed.f
  by_cases h0 : b = 0
  · rw [if_pos h0]
    by_cases h1 : c = 0
    · rw [if_pos h1]
      exact ⟨_, rfl, by simp; omega⟩
    · rw [if_neg h1]
      exact ⟨_, rfl, by simp; omega⟩
  rw [if_neg h0]
  by_cases h3 : b ≥ 3
  · rw [if_pos h3]
    by_cases h4 : b ≤ 65535
    · rw [if_pos h4, third b (by omega) h4]
      by_cases h5 : c > 0
      · rw [if_pos h5]
        by_cases h6 : c ≤ b
        · rw [if_pos h6]
          by_cases h7 : d > 0
          · rw [if_pos h7]
            exact ⟨_, rfl, by simp; omega⟩
          · rw [if_neg h7]
            exact ⟨_, rfl, by simp; omega⟩
        · rw [if_neg h6]
          exact ⟨_, rfl, by simp; omega⟩
      · rw [if_neg h5]
        exact ⟨_, rfl, by simp; omega⟩
    · rw [if_neg h4]
      exact ⟨_, rfl, by simp; omega⟩
  · rw [if_neg h3]
    exact ⟨_, rfl, by simp; omega⟩
theorem sane_eq (a b c d : Int) : ∃ x, session_Sane.f a b c d = some x ∧ (x = true ↔ saneS a b c d) := by
  unfold session_Sane.f saneS
  by_cases h0 : a < 0
  · rw [if_pos h0]
    exact ⟨_, rfl, by simp; omega⟩
  rw [if_neg h0]
  by_cases h4 : a ≥ 4
  · rw [if_pos h4]
    exact ⟨_, rfl, by simp; omega⟩
  rw [if_neg h4]
  by_cases e0 : a = 0
  · rw [if_pos e0]
    unfold session_Sane_1.f
    exact ⟨_, rfl, by simp; omega⟩
  rw [if_neg e0]
  by_cases e1 : a = 1
  · rw [if_pos e1]
    unfold session_Sane_2.f
    by_cases h1 : b = 0
    · rw [if_pos h1]
      by_cases h2 : d = 0
      · rw [if_pos h2]
        by_cases h3 : c > 0
        · rw [if_pos h3]
          exact ⟨_, rfl, by simp; omega⟩
        · rw [if_neg h3]
          exact ⟨_, rfl, by simp; omega⟩
      · rw [if_neg h2]
        exact ⟨_, rfl, by simp; omega⟩
    · rw [if_neg h1]
      exact ⟨_, rfl, by simp; omega⟩
  rw [if_neg e1]
  obtain ⟨x, hx, hx2⟩ := timed_eq a b c d
  exact ⟨x, hx, by rw [hx2]; omega⟩
theorem sane_true (a b c d : Int) (h : saneS a b c d) : session_Sane.f a b c d = some true := by
  obtain ⟨x, h1, h2⟩ := sane_eq a b c d
  rw [h1, h2.2 h]
theorem sane_false (a b c d : Int) (h : ¬ saneS a b c d) : session_Sane.f a b c d = some false := by
  obtain ⟨x, h1, h2⟩ := sane_eq a b c d
  cases x
  · exact h1
  · exact absurd (h2.1 rfl) h
theorem known_in (a b c d : Int) (h : saneS a b c d) : session_known.f a b c d = some (a, b, c, d) := by
  unfold session_known.f
  rw [sane_true a b c d h, Option.bind_some, if_pos rfl]
theorem known_out (a b c d : Int) (h : ¬ saneS a b c d) : session_known.f a b c d = some (0, 0, 0, 0) := by
  unfold session_known.f
  rw [sane_false a b c d h, Option.bind_some, if_neg (by decide)]
abbrev outN : MsgS := ⟨3, [4, 0]⟩
abbrev aliveM : MsgS := ⟨4, []⟩
theorem stop_hold (a b c d : Int) (h : saneS a b c d) (ha : a ≠ 0) : session_Stop.f a b c d 4 0 [] = some (0, 0, 0, 0, [outN]) := by
  unfold session_Stop.f
  rw [known_in a b c d h, Option.bind_some, if_neg ha]
  rfl
/-- n seconds. -/
def tk : Nat → Int → Int → Int → Int → List MsgS → Int × Int × Int × Int × List MsgS
  | 0, a, b, c, d, o => (a, b, c, d, o)
  | n + 1, a, b, c, d, o => if c = 0 then (a, b, c, d, o) else if c = 1 then (0, 0, 0, 0, o ++ [outN]) else if d = 1 then tk n a b (c - 1) (b / 3) (o ++ [aliveM]) else tk n a b (c - 1) (if d > 0 then d - 1 else d) o
theorem tk_c0 (a b d : Int) (o : List MsgS) : ∀ n, tk n a b 0 d o = (a, b, 0, d, o)
  | 0 => rfl
  | n + 1 => by rw [tk, if_pos rfl]
theorem tk_add (m : Nat) : ∀ (n : Nat) (a b c d : Int) (o : List MsgS), tk (n + m) a b c d o = tk m (tk n a b c d o).1 (tk n a b c d o).2.1 (tk n a b c d o).2.2.1 (tk n a b c d o).2.2.2.1 (tk n a b c d o).2.2.2.2
  | 0, a, b, c, d, o => by rw [Nat.zero_add, tk]
  | n + 1, a, b, c, d, o => by
    rw [show n + 1 + m = (n + m) + 1 by omega, tk, tk]
    by_cases c0 : c = 0
    · subst c0
      rw [if_pos rfl, if_pos rfl, tk_c0]
    rw [if_neg c0, if_neg c0]
    by_cases c1 : c = 1
    · rw [if_pos c1, if_pos c1, tk_c0]
    rw [if_neg c1, if_neg c1]
    by_cases d1 : d = 1
    · rw [if_pos d1, if_pos d1]
      exact tk_add m n _ _ _ _ _
    · rw [if_neg d1, if_neg d1]
      exact tk_add m n _ _ _ _ _
theorem tk_out : ∀ (n : Nat) (a b c d : Int) (o : List MsgS), tk n a b c d o = ((tk n a b c d []).1, (tk n a b c d []).2.1, (tk n a b c d []).2.2.1, (tk n a b c d []).2.2.2.1, o ++ (tk n a b c d []).2.2.2.2)
  | 0, a, b, c, d, o => by simp [tk]
  | n + 1, a, b, c, d, o => by
    rw [tk, tk]
    by_cases c0 : c = 0
    · rw [if_pos c0, if_pos c0]; simp
    rw [if_neg c0, if_neg c0]
    by_cases c1 : c = 1
    · rw [if_pos c1, if_pos c1]; simp
    rw [if_neg c1, if_neg c1]
    by_cases d1 : d = 1
    · rw [if_pos d1, if_pos d1, tk_out n _ _ _ _ (o ++ [aliveM]), tk_out n _ _ _ _ ([] ++ [aliveM])]; simp
    · rw [if_neg d1, if_neg d1, tk_out n _ _ _ _ o]
theorem tk_step (a b c d : Int) (h : saneS a b c d) (c0 : c ≠ 0) (c1 : c ≠ 1) : saneS a b (c - 1) (if d = 1 then b / 3 else if d > 0 then d - 1 else d) := by
  unfold saneS at h ⊢
  split
  · omega
  · split <;> omega
theorem tk_sane : ∀ (n : Nat) (a b c d : Int) (o : List MsgS), saneS a b c d → saneS (tk n a b c d o).1 (tk n a b c d o).2.1 (tk n a b c d o).2.2.1 (tk n a b c d o).2.2.2.1
  | 0, _, _, _, _, _, h => h
  | n + 1, a, b, c, d, o, h => by
    rw [tk]
    by_cases c0 : c = 0
    · rw [if_pos c0]; exact h
    rw [if_neg c0]
    by_cases c1 : c = 1
    · rw [if_pos c1]; exact .inl ⟨rfl, rfl, rfl, rfl⟩
    rw [if_neg c1]
    have hs := tk_step a b c d h c0 c1
    by_cases d1 : d = 1
    · rw [if_pos d1] at hs ⊢
      exact tk_sane n _ _ _ _ _ hs
    · rw [if_neg d1] at hs ⊢
      exact tk_sane n _ _ _ _ _ hs
theorem tick_l0 (N : Int) : ∀ (n k : Nat) (i a b c d : Int) (o : List MsgS), saneS a b c d → 0 ≤ i → i + n = N → N ≤ 1000 → n < k → o.length + n < 100000 → session_Tick.l0 k o N i a b c d = some (tk n a b c d o)
  | 0, k, i, a, b, c, d, o, h, hi0, hi, hN, hk, ho => by
    obtain ⟨k, rfl⟩ : ∃ k', k = k' + 1 := ⟨k - 1, by omega⟩
    rw [session_Tick.l0, if_neg (by omega), tk]
  | n + 1, k, i, a, b, c, d, o, h, hi0, hi, hN, hk, ho => by
    obtain ⟨k, rfl⟩ : ∃ k', k = k' + 1 := ⟨k - 1, by omega⟩
    rw [session_Tick.l0, if_pos (by omega), tk]
    by_cases c0 : c = 0
    · rw [if_pos c0, if_pos c0]
    rw [if_neg c0, if_neg c0]
    by_cases c1 : c = 1
    · rw [if_pos c1, if_pos c1, stop_hold a b c d h (by unfold saneS at h; omega), Option.bind_some, if_pos (by simp only [List.length_cons, List.length_nil]; omega)]
    rw [if_neg c1, if_neg c1]
    have hs := tk_step a b c d h c0 c1
    have hb : 0 ≤ b ∧ b ≤ 65535 ∧ c ≤ 65535 ∧ 0 < c ∧ 0 ≤ d ∧ d ≤ 65535 := by unfold saneS at h; omega
    rw [w64 (n := i + 1) (by omega) (by omega), w64 (n := c - 1) (by omega) (by omega)]
    by_cases d1 : d = 1
    · rw [if_pos d1] at hs
      have h3 : 0 < b / 3 := by unfold saneS at h; omega
      rw [if_pos d1, if_pos d1, if_pos (by omega), Option.bind_some, third b hb.1 hb.2.1, w64 (n := d + b / 3) (by omega) (by omega), if_pos (by omega), w64 (by omega) (by omega), show d + b / 3 - 1 = b / 3 by omega]
      exact tick_l0 N n k (i + 1) a b (c - 1) (b / 3) _ hs (by omega) (by omega) hN (by omega) (by rw [List.length_append, List.length_singleton]; omega)
    · rw [if_neg d1] at hs
      rw [if_neg d1, if_neg d1]
      by_cases d0 : d > 0
      · rw [if_pos d0] at hs
        rw [if_pos d0, if_pos d0, w64 (by omega) (by omega)]
        exact tick_l0 N n k (i + 1) a b (c - 1) (d - 1) _ hs (by omega) (by omega) hN (by omega) (by omega)
      · rw [if_neg d0] at hs
        rw [if_neg d0, if_neg d0]
        exact tick_l0 N n k (i + 1) a b (c - 1) d _ hs (by omega) (by omega) hN (by omega) (by omega)
theorem tick_in (k : Nat) (a b c d n : Int) (h : saneS a b c d) (h0 : 0 ≤ n) (hn : n ≤ 1000) (hk : 1010 ≤ k) : session_Tick.f k a b c d n = some (tk n.toNat a b c d []) := by
  unfold session_Tick.f
  rw [known_in a b c d h, Option.bind_some]
  have e : mx 0 (mn n 1000) = n := by unfold mx mn; (repeat' split) <;> omega
  rw [e]
  exact tick_l0 n n.toNat k 0 a b c d [] h (by omega) (by omega) hn (by omega) (by simp; omega)
theorem tick_out (k : Nat) (a b c d n : Int) (h : ¬ saneS a b c d) (h0 : 0 ≤ n) (hn : n ≤ 1000) (hk : 1010 ≤ k) : session_Tick.f k a b c d n = some (0, 0, 0, 0, []) := by
  unfold session_Tick.f
  rw [known_out a b c d h, Option.bind_some]
  have e : mx 0 (mn n 1000) = n := by unfold mx mn; (repeat' split) <;> omega
  rw [e]
  have := tick_l0 n n.toNat k 0 0 0 0 0 [] (.inl ⟨rfl, rfl, rfl, rfl⟩) (by omega) (by omega) hn (by omega) (by simp; omega)
  rw [this, tk_c0]
theorem tk_end : ∀ (n : Nat) (a b c d : Int) (o : List MsgS), 0 < c → c ≤ n → ∃ L, tk n a b c d o = (0, 0, 0, 0, L ++ [outN])
  | 0, a, b, c, d, o, h, hn => by omega
  | n + 1, a, b, c, d, o, h, hn => by
    rw [tk, if_neg (by omega)]
    by_cases c1 : c = 1
    · rw [if_pos c1]; exact ⟨o, rfl⟩
    rw [if_neg c1]
    split
    · exact tk_end n _ _ _ _ _ (by omega) (by omega)
    · exact tk_end n _ _ _ _ _ (by omega) (by omega)
theorem tk_cnt : ∀ (n : Nat) (a b c d : Int) (o : List MsgS), saneS a b c d → (n : Int) < c → ∃ d' L, tk n a b c d o = (a, b, c - n, d', L) ∧ (L.length : Int) = o.length + (if 0 < d ∧ d ≤ n then 1 + (n - d) / (b / 3) else 0)
  | 0, a, b, c, d, o, h, hn => ⟨d, o, by rw [tk]; simp, by rw [if_neg (by omega)]; omega⟩
  | n + 1, a, b, c, d, o, h, hn => by
    rw [tk, if_neg (by omega), if_neg (by omega)]
    have hs := tk_step a b c d h (by omega) (by omega)
    by_cases d1 : d = 1
    · rw [if_pos d1] at hs ⊢
      have h3 : 0 < b / 3 := by unfold saneS at h; omega
      obtain ⟨d', L, h1, h2⟩ := tk_cnt n a b (c - 1) (b / 3) (o ++ [aliveM]) hs (by omega)
      refine ⟨d', L, by rw [h1, show c - 1 - (n : Int) = c - ((n + 1 : Nat) : Int) by omega], ?_⟩
      subst d1
      rw [h2, if_pos (show (0 : Int) < 1 ∧ 1 ≤ ((n + 1 : Nat) : Int) by omega), List.length_append, List.length_singleton]
      by_cases g : 0 < b / 3 ∧ b / 3 ≤ (n : Int)
      · rw [if_pos g]
        have : ((n + 1 : Nat) : Int) - 1 = ((n : Int) - b / 3) + b / 3 := by omega
        rw [this, Int.add_ediv_of_dvd_right (Int.dvd_refl _), Int.ediv_self (by omega)]
        omega
      · rw [if_neg g]
        have : (((n + 1 : Nat) : Int) - 1) / (b / 3) = 0 := Int.ediv_eq_zero_of_lt (by omega) (by omega)
        rw [this]
        omega
    · rw [if_neg d1] at hs ⊢
      by_cases d0 : d > 0
      · rw [if_pos d0] at hs ⊢
        obtain ⟨d', L, h1, h2⟩ := tk_cnt n a b (c - 1) (d - 1) o hs (by omega)
        refine ⟨d', L, by rw [h1, show c - 1 - (n : Int) = c - ((n + 1 : Nat) : Int) by omega], ?_⟩
        rw [h2]
        by_cases g : d ≤ ((n + 1 : Nat) : Int)
        · rw [if_pos ⟨by omega, by omega⟩, if_pos ⟨by omega, g⟩, show (n : Int) - (d - 1) = ((n + 1 : Nat) : Int) - d by omega]
        · rw [if_neg (by omega), if_neg (by omega)]
      · rw [if_neg d0] at hs ⊢
        obtain ⟨d', L, h1, h2⟩ := tk_cnt n a b (c - 1) d o hs (by omega)
        refine ⟨d', L, by rw [h1, show c - 1 - (n : Int) = c - ((n + 1 : Nat) : Int) by omega], ?_⟩
        rw [h2, if_neg (by omega), if_neg (by omega)]
end Go.Proofs.YtfbndolhocojiaaDoor.Pure
