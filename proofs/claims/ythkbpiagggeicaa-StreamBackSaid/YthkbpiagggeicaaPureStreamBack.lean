/- StreamBack, the plain law: what is put comes out. Conditions: those of the statement's inputs. -/
import Derived.Test.YthkbpiagggeicaaXStreamPre
import Derived.Test.YthkbpiagggeicaaXSameAll
import Derived.Test.YthkbpiagggeicaaQx8
namespace Go.Proofs.Ythkbpiagggeicaa.Pure
open Go.RowKit Go.Proofs.Ythkbpiagggeicaa.Q Go.Proofs.YthkbpiagggeicaaW.PrintWords Go.Proofs.YthkbpiagggeicaaW.PrintLast Go.Proofs.YthkbpiagggeicaaW.PrintMore Go.Proofs.YthkbpiagggeicaaW.PrintX
set_option linter.unusedVariables false
set_option linter.unusedSimpArgs false
theorem few_loop (l : List S43) (hl : l.length ≤ 9223372036854775807) (h : ∀ m ∈ l, Octs m.f1) : ∀ (d k i : Nat), i + d = l.length → d < k → ridgewayref03_Few.l0 k l (i : Int) = some (decide ((∀ m ∈ l.drop i, m.f1.length ≤ 5000) ∧ l.length ≤ 12)) := by
  intro d
  induction d with
  | zero =>
    intro k i hi hk
    obtain ⟨k, rfl⟩ : ∃ m, k = m + 1 := ⟨k - 1, by omega⟩
    simp only [ridgewayref03_Few.l0]
    rw [if_neg (by omega), List.drop_of_length_le (by omega)]
    simp
    omega
  | succ d ih =>
    intro k i hi hk
    obtain ⟨k, rfl⟩ : ∃ m, k = m + 1 := ⟨k - 1, by omega⟩
    simp only [ridgewayref03_Few.l0]
    have hlt : i < l.length := by omega
    have hr : rd_T43 l (i : Int) = l[i] := by unfold rd_T43; rw [Int.toNat_natCast, List.getD_eq_getElem?_getD, List.getElem?_eq_getElem hlt]; rfl
    rw [if_pos (by omega), if_pos (by omega), hr, List.drop_eq_getElem_cons hlt]
    by_cases c : ((l[i]).f1.length : Int) > 5000
    · rw [if_pos c, decide_eq_false]
      rintro ⟨h1, _⟩
      have := h1 l[i] (List.mem_cons_self ..)
      omega
    · rw [if_neg c, w64 (n := (i : Int) + 1) (by omega) (by omega), show ((i : Int) + 1) = ((i + 1 : Nat) : Int) by omega, ih k (i + 1) (by omega) (by omega)]
      have e : ((∀ m ∈ l.drop (i + 1), m.f1.length ≤ 5000) ∧ l.length ≤ 12) ↔ ((∀ m ∈ l[i] :: l.drop (i + 1), m.f1.length ≤ 5000) ∧ l.length ≤ 12) := by
        rw [List.forall_mem_cons]
        constructor
        · rintro ⟨h1, h2⟩; exact ⟨⟨by omega, h1⟩, h2⟩
        · rintro ⟨⟨_, h1⟩, h2⟩; exact ⟨h1, h2⟩
      rw [decide_eq_decide.2 e]
set_option maxRecDepth 100000 in
theorem put_loop (l : List S43) (x1 : Int) (hl : l.length ≤ 12) (hb : ∀ m ∈ l, m.f1.length ≤ 5000) : ∀ (d k1 i : Nat) (x6 : List Int) (x7 : List S43), i + d = l.length → 10 ≤ k1 → x6.length ≤ i * 6000 → x7.length ≤ i →
    ridgewaylaw04_StreamBack.l0 (d + 1 + k1) l x1 true x6 x7 (i : Int) = ridgewaylaw04_StreamBack.l1 k1 true (x6 ++ encs ((l.drop i).filter fun m => saneV m.f0 m.f1)) (x7 ++ (l.drop i).filter fun m => saneV m.f0 m.f1) (wrap64 (1 + (Go.bits .and .i64 x1 127))) [] [] false := by
  intro d
  induction d with
  | zero =>
    intro k1 i x6 x7 hi hk h6 h7
    rw [show 0 + 1 + k1 = k1 + 1 by omega]
    simp only [ridgewaylaw04_StreamBack.l0]
    rw [if_neg (by omega), List.drop_of_length_le (by omega)]
    simp [encs]
  | succ d ih =>
    intro k1 i x6 x7 hi hk h6 h7
    rw [show d + 1 + 1 + k1 = (d + 1 + k1) + 1 by omega]
    simp only [ridgewaylaw04_StreamBack.l0]
    have hlt : i < l.length := by omega
    have hr : rd_T43 l (i : Int) = l[i] := by unfold rd_T43; rw [Int.toNat_natCast, List.getD_eq_getElem?_getD, List.getElem?_eq_getElem hlt]; rfl
    have hbl := hb l[i] (List.getElem_mem hlt)
    rw [if_pos (by omega), if_pos (by omega), hr, List.drop_eq_getElem_cons hlt, sane_eq _ _ (by omega)]
    simp only [Option.bind_some]
    rw [msg_put _ x6 _ _ (by omega) (by omega) (by omega), w64 (n := (i : Int) + 1) (by omega) (by omega), show ((i : Int) + 1) = ((i + 1 : Nat) : Int) by omega]
    unfold putV
    simp only [Option.bind_some]
    cases hs : saneV (l[i]).f0 (l[i]).f1
    · rw [if_neg (by decide), if_neg (by decide), ih k1 (i + 1) _ _ (by omega) hk (by omega) (by omega), List.filter_cons_of_neg (p := fun m : S43 => saneV m.f0 m.f1) (by simp [hs])]
    · rw [if_pos rfl, if_pos (by omega), if_pos rfl, ih k1 (i + 1) _ _ (by omega) hk (by rw [List.length_append, encM_length]; omega) (by simp; omega), List.filter_cons_of_pos (p := fun m : S43 => saneV m.f0 m.f1) hs, encs_cons]
      simp
theorem back_loop (want : List S43) (size : Int) (h1 : 1 ≤ size) (h2 : size ≤ 128) (hw : want.length ≤ 12) : ∀ (N k : Nat) (B b : List Int) (out ps : List S43), b.length ≤ N → 2 * N + 50 ≤ k → encs ps = B ++ b → (∀ m ∈ ps, saneV m.f0 m.f1 = true) → Octs B → Octs b → saneS B false = true → B.length + b.length ≤ 100000 → out ++ ps = want →
    ridgewaylaw04_StreamBack.l1 k true b want size out B false = some true := by
  intro N
  induction N with
  | zero =>
    intro k B b out ps hb hk he hs hB hb8 hsn hl hw2
    obtain ⟨k, rfl⟩ : ∃ m, k = m + 1 := ⟨k - 1, by omega⟩
    have h0 : b = [] := List.eq_nil_of_length_eq_zero (by omega)
    subst h0
    simp only [ridgewaylaw04_StreamBack.l1]
    rw [if_neg (by simp), if_pos trivial]
    rw [List.append_nil] at he
    have hps : ps = [] := by
      cases ps with
      | nil => rfl
      | cons p t =>
        rw [encs_cons] at he
        have hg := get_enc p.f0 p.f1 (encs t) (hs p (by simp))
        rw [he] at hg
        unfold saneS at hsn
        rw [hg, if_neg (by decide)] at hsn
        dsimp only at hsn
        rw [if_neg (by omega)] at hsn
        cases hsn
    subst hps
    have hB0 : B = [] := by rw [← he]; rfl
    rw [List.append_nil] at hw2
    rw [hw2, sameAll_self k want (by omega) (by omega), hB0]
    simp
  | succ N ih =>
    intro k B b out ps hb hk he hs hB hb8 hsn hl hw2
    by_cases h0 : b.length = 0
    · exact ih k B b out ps (by omega) (by omega) he hs hB hb8 hsn hl hw2
    · obtain ⟨k, rfl⟩ : ∃ m, k = m + 2 := ⟨k - 2, by omega⟩
      have key : ∀ n : Int, 1 ≤ n → n ≤ b.length → ridgewaylaw04_StreamBack.j2 (k + 1) true b want size out n B false = some true := by
        intro n n1 n2
        simp only [ridgewaylaw04_StreamBack.j2]
        rw [if_pos (by omega), if_pos n2]
        have htl : (b.take n.toNat).length = n.toNat := by rw [List.length_take]; omega
        rw [feed_eq B false _ hB (hb8.take _) (by omega) (by omega)]
        have e1 : B ++ b.take n.toNat = (encs ps).take (B.length + n.toNat) := by
          rw [he, List.take_append, List.take_of_length_le (l := B) (by omega), show B.length + n.toNat - B.length = n.toNat by omega]
        have hel : (encs ps).length = B.length + b.length := by rw [he, List.length_append]
        obtain ⟨j, hj⟩ : ∃ j, j = (B ++ b.take n.toNat).length + 1 := ⟨_, rfl⟩
        have hj2 : B.length + n.toNat < j := by rw [hj, List.length_append, htl]; omega
        obtain ⟨i, rest, p1, p2, p3, p4⟩ := msgs_pre ps hs j (B.length + n.toNat) (by omega) hj2
        have e2 : feedV B false (b.take n.toNat) = (rest, false, ps.take i, 0, 0, []) := by
          unfold feedV fv
          rw [hsn, if_pos rfl, if_neg (by decide), ← hj, e1, p2]
          rfl
        rw [e2]
        simp only [Option.bind_some]
        have hol : out.length + ps.length ≤ 12 := by have := congrArg List.length hw2; rw [List.length_append] at this; omega
        rw [if_pos trivial, if_pos (by rw [List.length_take]; omega)]
        have e3 : (encs ps).drop (B.length + n.toNat) = b.drop n.toNat := by
          rw [he, List.drop_append, List.drop_of_length_le (l := B) (by omega), List.nil_append, show B.length + n.toNat - B.length = n.toNat by omega]
        rw [e3] at p3
        have hr : Octs rest := by
          have := msgsV_rest j (B ++ b.take n.toNat) (hB.app (hb8.take _)) (by omega) (by rw [e1, p2])
          rw [e1, p2] at this
          exact this.2.1
        have hdl := congrArg List.length p3
        rw [List.length_append, List.length_drop] at hdl
        have hdle : (encs (ps.drop i)).length ≤ (encs ps).length := by
          have : encs ps = encs (ps.take i) ++ encs (ps.drop i) := by rw [← encs_app, List.take_append_drop]
          rw [this, List.length_append]; omega
        exact ih k rest (b.drop n.toNat) (out ++ ps.take i) (ps.drop i) (by rw [List.length_drop]; omega) (by omega) p3 (fun m hm => hs m (List.mem_of_mem_drop hm)) hr (hb8.drop _) p4 (by rw [List.length_drop]; omega) (by rw [List.append_assoc, List.take_append_drop, hw2])
      simp only [ridgewaylaw04_StreamBack.l1]
      rw [if_pos (by omega)]
      by_cases c : size > (b.length : Int)
      · rw [if_pos c]
        exact key _ (by omega) (by omega)
      · rw [if_neg c]
        exact key _ h1 (by omega)
theorem StreamBack : ridgewaylaw04_StreamBack.Pure := by
  intro l a hl ha
  have ho : ∀ m ∈ l, Octs m.f1 := fun m hm => octs_of_wf (hl.2 m hm).2.2
  have hml : l.length ≤ 9223372036854775807 := by have := hl.1; unfold maxLen at this; omega
  by_cases hf : (∀ m ∈ l, m.f1.length ≤ 5000) ∧ l.length ≤ 12
  · refine ⟨l.length + 1 + 400000, ?_⟩
    unfold ridgewaylaw04_StreamBack.f ridgewaylaw04_awake.f ridgewayref03_Few.f
    have h := few_loop l (by omega) ho l.length (l.length + 1 + 400000) 0 (by omega) (by omega)
    rw [show ((0 : Nat) : Int) = 0 from rfl] at h
    simp only [Option.bind_some]
    rw [h, List.drop_zero, decide_eq_true hf]
    simp only [Option.bind_some, if_true]
    have hp := put_loop l a hf.2 hf.1 l.length 400000 0 [] [] (by omega) (by omega) (by simp) (by simp)
    rw [show ((0 : Nat) : Int) = 0 from rfl] at hp
    rw [hp, List.drop_zero, List.nil_append, List.nil_append]
    have hm : Go.bits .and .i64 a 127 = a % 128 := and_mask a 7 (by decide)
    rw [hm, w64 (n := 1 + a % 128) (by omega) (by omega)]
    have hfs : ∀ m ∈ l.filter (fun m => saneV m.f0 m.f1), saneV m.f0 m.f1 = true := fun m hm => (List.mem_filter.1 hm).2
    have hfl := List.length_filter_le (fun m : S43 => saneV m.f0 m.f1) l
    have hel : ∀ q : List S43, (∀ m ∈ q, m.f1.length ≤ 5000) → (encs q).length ≤ q.length * 5019 := by
      intro q
      induction q with
      | nil => intro _; simp [encs]
      | cons p t ih =>
        intro h
        have h1 := ih (fun m hm => h m (by simp [hm]))
        have h2 := h p (by simp)
        rw [encs_cons, List.length_append, encM_length, List.length_cons]
        omega
    have h60 := hel (l.filter fun m => saneV m.f0 m.f1) (fun m hm => hf.1 m (List.mem_filter.1 hm).1)
    exact back_loop _ _ (by omega) (by omega) (by omega) 100000 400000 [] _ [] _ (by omega) (by omega) rfl hfs Octs.nil (encs_octs _ (fun m hm => ho m (List.mem_filter.1 hm).1)) (by unfold saneS; rw [getV_nil]; rfl) (by simp; omega) rfl
  · refine ⟨l.length + 1, ?_⟩
    unfold ridgewaylaw04_StreamBack.f ridgewaylaw04_awake.f ridgewayref03_Few.f
    have h := few_loop l (by omega) ho l.length (l.length + 1) 0 (by omega) (by omega)
    rw [show ((0 : Nat) : Int) = 0 from rfl] at h
    simp only [Option.bind_some]
    rw [h, List.drop_zero, decide_eq_false hf]
    simp
end Go.Proofs.Ythkbpiagggeicaa.Pure
