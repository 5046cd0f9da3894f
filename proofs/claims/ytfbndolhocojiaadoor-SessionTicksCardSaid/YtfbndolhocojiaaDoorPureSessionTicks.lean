/- SessionTicks: seconds are seconds. No conditions but those of the statement. -/
import Derived.Test.YtfbndolhocojiaaDoorSx15
import Derived.Test.YtfbndolhocojiaaDoorSx16
import Derived.Test.YtfbndolhocojiaaDoorXSession
namespace Go.Proofs.YtfbndolhocojiaaDoor.Pure
open Go.RowKit Go.Proofs.YtfbndolhocojiaaDoor.S Go.Proofs.YtfbndolhocojiaaDoorW.PrintWords Go.Proofs.YtfbndolhocojiaaDoorW.PrintLast Go.Proofs.YtfbndolhocojiaaDoorW.PrintMore Go.Proofs.YtfbndolhocojiaaDoorW.PrintX
set_option linter.unusedVariables false
set_option linter.unusedSimpArgs false

theorem all_same (l : List MsgS) (hl : l.length < 1000000) : ∀ (n k i : Nat), i + n = l.length → n < k → ridgewayref03_SameAll.l0 k l l (i : Int) = some true
  | 0, k, i, hi, hk => by
    obtain ⟨k, rfl⟩ : ∃ k', k = k' + 1 := ⟨k - 1, by omega⟩
    rw [ridgewayref03_SameAll.l0, if_neg (by omega)]
  | n + 1, k, i, hi, hk => by
    obtain ⟨k, rfl⟩ : ∃ k', k = k' + 1 := ⟨k - 1, by omega⟩
    rw [ridgewayref03_SameAll.l0, if_pos (by omega), if_pos (by omega), if_pos (by omega)]
    unfold ridgewayref03_Same.f
    rw [if_pos rfl, Option.bind_some, if_pos (by simp), w64 (by omega) (by omega)]
    exact all_same l hl n k (i + 1) (by omega) (by omega)
theorem same_self (k : Nat) (l : List MsgS) (hl : l.length < 1000000) (hk : l.length < k) : ridgewayref03_SameAll.f k l l = some true := by
  unfold ridgewayref03_SameAll.f
  rw [if_pos rfl]
  exact all_same l hl l.length k 0 (by omega) hk
theorem tk_len : ∀ (n : Nat) (a b c d : Int) (o : List MsgS), (tk n a b c d o).2.2.2.2.length ≤ o.length + n
  | 0, _, _, _, _, _ => Nat.le_refl _
  | n + 1, a, b, c, d, o => by
    rw [tk]
    split
    · show o.length ≤ _; omega
    split
    · simp
    split
    · have := tk_len n a b (c - 1) (b / 3) (o ++ [aliveM]); rw [List.length_append, List.length_singleton] at this; omega
    · have := tk_len n a b (c - 1) (if d > 0 then d - 1 else d) o; omega
theorem ticks_j2 (k : Nat) (a1 a2 a b c d : Int) (h : saneS a b c d) (h1 : 0 ≤ a1) (h1' : a1 ≤ 400) (h2 : 0 ≤ a2) (h2' : a2 ≤ 400) (V : Int × Int × Int × Int × List MsgS) (hV : V = tk (a1.toNat + a2.toNat) a b c d []) (z : Bool) (hz : z = true ↔ (a = 0 ∨ c = 0)) :
    ridgewaylaw17_SessionTicks.j2 (k + 1) a1 a2 true V.2.2.2.2 z a b c d V.1 V.2.1 V.2.2.1 V.2.2.2.1 = some true := by
  rw [ridgewaylaw17_SessionTicks.j2]
  have hlen := tk_len (a1.toNat + a2.toNat) a b c d []
  rw [← hV] at hlen
  simp only [List.length_nil, Nat.zero_add] at hlen
  have hb : 0 ≤ b ∧ b ≤ 65535 ∧ 0 ≤ c ∧ c ≤ 65535 ∧ 0 ≤ d ∧ d ≤ 65535 := by unfold saneS at h; omega
  cases z
  · have hn : ¬ (a = 0 ∨ c = 0) := fun e => by have := hz.2 e; cases this
    rw [if_neg (by decide), w64 (n := a1 + a2) (by omega) (by omega)]
    by_cases g : a1 + a2 ≥ c
    · obtain ⟨L, hL⟩ := tk_end (a1.toNat + a2.toNat) a b c d [] (by omega) (by omega)
      rw [hL] at hV
      subst hV
      simp only at hlen ⊢
      rw [List.length_append, List.length_singleton] at hlen
      have e : (((L ++ [outN]).length : Nat) : Int) = (L.length : Int) + 1 := by rw [List.length_append, List.length_singleton]; omega
      rw [if_pos g, if_pos trivial, if_pos trivial, e, if_pos (by omega), show (L.length : Int) + 1 - 1 = L.length by omega, w64 (by omega) (by omega), if_pos (by omega), if_pos (by omega)]
      simp [rd_T45, outN]
    · rw [if_neg g]
      obtain ⟨d', L, hL, hc⟩ := tk_cnt (a1.toNat + a2.toNat) a b c d [] h (by omega)
      rw [hL] at hV
      subst hV
      simp only at hlen hc ⊢
      rw [w64 (n := c - a1) (by omega) (by omega), w64 (n := c - a1 - a2) (by omega) (by omega)]
      have ec : c - ((a1.toNat + a2.toNat : Nat) : Int) = c - a1 - a2 := by omega
      have en : ((a1.toNat + a2.toNat : Nat) : Int) = a1 + a2 := by omega
      rw [en, List.length_nil] at hc
      rw [third b hb.1 hb.2.1]
      by_cases d0 : d > 0
      · rw [if_pos d0]
        have h3 : 0 < b / 3 := by unfold saneS at h; omega
        by_cases g2 : a1 + a2 ≥ d
        · have hq : 0 ≤ (a1 + a2 - d) / (b / 3) ∧ (a1 + a2 - d) / (b / 3) ≤ 1000 := ⟨Int.ediv_nonneg (by omega) (by omega), Int.le_trans (Int.ediv_le_self _ (by omega)) (by omega)⟩
          rw [if_pos ⟨d0, g2⟩] at hc
          rw [if_pos g2, if_neg (by omega), if_pos trivial, if_pos trivial, if_pos ec, w64 (n := a1 + a2 - d) (by omega) (by omega), Int.tdiv_eq_ediv_of_nonneg (by omega), w64 (n := (a1 + a2 - d) / (b / 3)) (by omega) (by omega), w64 (by omega) (by omega)]
          simp [hc]
        · rw [if_neg (by omega)] at hc
          rw [if_neg g2, if_pos trivial, if_pos trivial, if_pos ec]
          simp [hc]
      · rw [if_neg (by omega)] at hc
        rw [if_neg d0, if_pos trivial, if_pos trivial, if_pos ec]
        simp [hc]
  · have hc0 : c = 0 := by
      rcases hz.1 rfl with e | e
      · unfold saneS at h; omega
      · exact e
    subst hc0
    rw [tk_c0] at hV
    subst hV
    rw [if_pos rfl, if_pos rfl, if_pos (by simp), sane_true a b 0 d h, Option.bind_some, if_pos rfl, if_pos (by simp)]
theorem ticks_main (k : Nat) (a1 a2 a b c d : Int) (h1 : 0 ≤ a1) (h1' : a1 ≤ 400) (h2 : 0 ≤ a2) (h2' : a2 ≤ 400) (hk : 1100 ≤ k) :
    ridgewaylaw17_SessionTicks.j0 (k + 3) a1 a2 true false a b c d = some true := by
  rw [ridgewaylaw17_SessionTicks.j0, if_neg (by decide), w64 (n := a1 + a2) (by omega) (by omega)]
  by_cases h : saneS a b c d
  · rw [tick_in (k + 2) a b c d a1 h h1 (by omega) (by omega), Option.bind_some]
    have hs := tk_sane a1.toNat a b c d [] h
    have l1 := tk_len a1.toNat a b c d []
    have hA := tk_add a2.toNat a1.toNat a b c d []
    obtain ⟨⟨t1, t2, t3, t4, p⟩, hT⟩ : ∃ T, T = tk a1.toNat a b c d [] := ⟨_, rfl⟩
    rw [← hT] at hs l1 hA ⊢
    dsimp only at hs l1 hA ⊢
    rw [tick_in (k + 2) t1 t2 t3 t4 a2 hs h2 (by omega) (by omega), Option.bind_some, tick_in (k + 2) a b c d (a1 + a2) h (by omega) (by omega) (by omega), Option.bind_some, show (a1 + a2).toNat = a1.toNat + a2.toNat by omega]
    rw [tk_out a2.toNat t1 t2 t3 t4 p] at hA
    have l2 := tk_len a2.toNat t1 t2 t3 t4 []
    obtain ⟨⟨u1, u2, u3, u4, q⟩, hU⟩ : ∃ U, U = tk a2.toNat t1 t2 t3 t4 [] := ⟨_, rfl⟩
    rw [← hU] at hA l2 ⊢
    dsimp only at hA l2 ⊢
    have J2 := fun k z hz => ticks_j2 k a1 a2 a b c d h h1 h1' h2 h2' (u1, u2, u3, u4, p ++ q) hA.symm z hz
    rw [hA]
    simp only [List.length_nil, Nat.zero_add] at l1 l2
    simp only [Option.bind_some, List.nil_append, List.length_nil, Nat.zero_add, beq_self_eq_true, Bool.not_true, Bool.or_self, Bool.false_eq_true, if_false]
    rw [if_pos (by omega), if_pos (by omega), same_self (k + 2) (p ++ q) (by rw [List.length_append]; omega) (by rw [List.length_append]; omega), Option.bind_some, ridgewaylaw17_SessionTicks.j1, if_neg (by decide), sane_true a b c d h, Option.bind_some, if_pos rfl]
    by_cases a0 : a = 0
    · rw [if_pos a0]
      exact J2 k true (by simp [a0])
    · rw [if_neg a0]
      exact J2 k (c == 0) (by simp [a0])
  · rw [tick_out (k + 2) a b c d a1 h h1 (by omega) (by omega), Option.bind_some]
    dsimp only
    rw [tick_in (k + 2) 0 0 0 0 a2 (.inl ⟨rfl, rfl, rfl, rfl⟩) h2 (by omega) (by omega), Option.bind_some, tk_c0, tick_out (k + 2) a b c d (a1 + a2) h (by omega) (by omega) (by omega), Option.bind_some]
    dsimp only
    simp only [Option.bind_some, List.nil_append, List.append_nil, List.length_nil, Nat.zero_add, beq_self_eq_true, Bool.not_true, Bool.or_self, Bool.false_eq_true, if_false]
    rw [if_pos (by omega), if_pos (by omega), same_self (k + 2) [] (by simp) (by simp), Option.bind_some, ridgewaylaw17_SessionTicks.j1, if_neg (by decide), sane_false a b c d h, Option.bind_some, if_neg (by decide), ridgewaylaw17_SessionTicks.j2, if_pos rfl, if_pos rfl, if_pos (by simp), sane_false a b c d h, Option.bind_some, if_neg (by decide), Option.bind_some, if_neg (by decide)]
    rfl
theorem SessionTicks : ridgewaylaw17_SessionTicks.Pure := by
  intro x0 a1 a2 _ _ _
  refine ⟨1103, ?_⟩
  have hb : ridgewaylaw17_SessionTicks.j0 1103 a1 a2 true true x0.f0 x0.f1 x0.f2 x0.f3 = some true := by
    show ridgewaylaw17_SessionTicks.j0 (1102 + 1) a1 a2 true true x0.f0 x0.f1 x0.f2 x0.f3 = some true
    rw [ridgewaylaw17_SessionTicks.j0, if_pos rfl]
  unfold ridgewaylaw17_SessionTicks.f ridgewaylaw17_awake.f
  rw [Option.bind_some]
  by_cases h1 : a1 < 0
  · rw [if_pos h1, hb]
  rw [if_neg h1]
  by_cases h2 : a1 > 400
  · rw [if_pos h2, hb]
  rw [if_neg h2]
  by_cases h3 : a2 < 0
  · rw [if_pos h3, hb]
  rw [if_neg h3]
  by_cases h4 : a2 > 400
  · rw [decide_eq_true h4, hb]
  · rw [decide_eq_false h4]
    exact ticks_main 1100 a1 a2 _ _ _ _ (by omega) (by omega) (by omega) (by omega) (by omega)
end Go.Proofs.YtfbndolhocojiaaDoor.Pure
