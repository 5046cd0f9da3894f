/- Each call of a Go function comes to what the Lean function of its name answers (written out by wip/tools/xprint.py, checked by Lean); conditions: those in each statement. -/
import Derived.Test.YtfbndolhocojiaaDoorKx0
import Derived.Test.YtfbndolhocojiaaDoorKx3
import Derived.Test.YtfbndolhocojiaaDoorKx7
import Derived.Test.YtfbndolhocojiaaDoorKx9
import Derived.Test.YtfbndolhocojiaaDoorKx13
import Derived.Test.YtfbndolhocojiaaDoorKx14
import Derived.Test.YtfbndolhocojiaaDoorKx15
import Derived.Test.YtfbndolhocojiaaDoorXKeepP
import Derived.Test.YtfbndolhocojiaaDoorXRow
import Derived.Test.YtfbndolhocojiaaDoorXLaw
import Derived.Test.YtfbndolhocojiaaDoorXLawB
namespace Go.Proofs.YtfbndolhocojiaaDoor.K
open Go.RowKit Go.Proofs.YtfbndolhocojiaaDoorW.PrintWords Go.Proofs.YtfbndolhocojiaaDoorW.PrintLast Go.Proofs.YtfbndolhocojiaaDoorW.PrintMore Go.Proofs.YtfbndolhocojiaaDoorW.PrintX
attribute [local go_sem] max2_int min2_int max_two min_two max_three min_three max_four min_four   -- for this text's walks alone
set_option linter.unusedVariables false
set_option linter.unusedSimpArgs false

/-! ### ridgewaylaw17_SessionKeeps: function 5 -/
open Classical in
noncomputable def ridgewaylaw17_SessionKeeps.f (s0 s1 s2 s3 a b c d : Int) (l4 : List S62) (l5 : List S31) (k t : Int) (bd : List Int) (n : Int) : Option Bool := if (∃ r, conf_Sane.f a b c d l4 l5 = some r) ∧ (∃ q, ∃ sh, ridgewaylaw17_short.f q a b c d l4 l5 t bd = some sh ∧ (sh = true → bd.length ≤ 5000)) ∧ Octs bd then some true else none
theorem kp_start (w : World) (o0 o1 o2 : Obj) : AwP w [(w.heap.size + 1 + 1, o2), (w.heap.size + 1, o1), (w.heap.size, o0)] [] [] (((w.alloc o0).alloc o1).alloc o2) := by
 have h1 := heap_alloc_new (w.alloc o0) o1
 have h2 := heap_alloc_new ((w.alloc o0).alloc o1) o2
 rw [World.size_alloc] at h1
 rw [World.size_alloc, World.size_alloc] at h2
 refine ⟨below_alloc (below_alloc (below_alloc (Below.refl _ _) _) _) _, fun p hp => ?_, fun q hq => by simp at hq, fun q hq => by simp at hq⟩
 simp only [List.mem_cons, List.not_mem_nil, or_false] at hp
 rcases hp with rfl | rfl | rfl
 ·
  exact h2
 ·
  exact blk_alloc h1 _
 ·
  exact blk_alloc (blk_alloc (heap_alloc_new w o0) _) _
theorem kp_empty {α : Type} (dd : Kd α) (e : Nat) (W : World) (ok : Nat → Prop) (ho : ok W.heap.size) : Kd.N dd e (W.alloc (.cells #[] e)) W.heap.size ok (.slice (some ⟨W.heap.size, 0, none⟩) 0 0) [] := by
 refine ⟨fun k hk => ?_, [], rfl, ⟨fun k hk => hk.symm, [], ⟨by simp, .inr ⟨W.heap.size, 0, #[], rfl, Nat.le_refl _, heap_alloc_new W _, Nat.le_refl _, Nat.zero_le _, by simp, by simp⟩⟩, Reps.none _ _⟩, fun j x c hx => by simp at hx⟩
 cases hk
 exact ho
theorem kp_own0 {W : World} : ∀ k, k < W.heap.size → (True ∧ some k ≠ (Value.slice (some ⟨W.heap.size, 0, none⟩) 0 0).ownBlock) := fun k hk => ⟨trivial, fun e_ => by
 have h2 : k = W.heap.size := Option.some.inj e_
 omega⟩
theorem kp_own {e : Nat} {W : World} {base : Nat} {ok : Nat → Prop} {v : Value} {l : List S45} (h : Kd.N k45 e W base ok v l) : ∀ k, k < base → (True ∧ some k ≠ v.ownBlock) := fun k hk => ⟨trivial, fun e_ => Nat.lt_irrefl _ (Nat.lt_of_lt_of_le hk (Kd.N_base h k e_.symm))⟩
theorem kp_F {W W1 : World} {A : Option Addr} {l : List S45} (h : Kd.C k45 W A l.length l) (hb : Below W.heap.size W W1) : Kd.F k45 W1 (fun k_ => k_ < W.heap.size) A l.length l := Kd.F_below (Kd.C_F k45_heap h) hb
theorem kp_get {W : World} {A : Option Addr} {l : List S45} (i : Nat) (h : Kd.C k45 W A l.length l) (hi : i < l.length) : ∃ ad B c, A = some ad ∧ W.cell? (ad.add (i * 2)) = some (.int .i64 (l[i]).f0) ∧ W.cell? ⟨(ad.add (i * 2)).block, (ad.add (i * 2)).off + 1, none⟩ = some (.slice B (l[i]).f1.length c) ∧ (l[i]).f1.length ≤ c ∧ Kd.C (Kd.int .u8) W B (l[i]).f1.length (l[i]).f1 ∧ (ad.add (i * 2)).block < W.heap.size := by
 obtain ⟨ad', B2, d2, e, x0, x1, hl, hc⟩ := at_T45 h (i : Int) (by omega) (by omega)
 cases e
 have hr : rd_T45 l (i : Int) = l[i] := by simp [rd_T45, hi]
 rw [Int.toNat_natCast] at x0 x1
 rw [hr] at x0 x1 hl hc
 exact ⟨ad', B2, d2, rfl, x0, x1, hl, hc, World.block_lt_of_cell? _ _ x0⟩
set_option maxHeartbeats 8000000 in
set_option maxRecDepth 100000 in
theorem kp_short (s0 s1 s2 s3 a b c d : Int) (A4 : Option Addr) (c4 : Nat) (l4 : List S62) (A5 : Option Addr) (c5 : Nat) (l5 : List S31) (k t : Int) (Ab : Option Addr) (cb : Nat) (bd : List Int) (n : Int) (w : World) (hr4 : Kd.C k62 w A4 l4.length l4) (hc4 : l4.length ≤ c4) (hr5 : Kd.C k31 w A5 l5.length l5) (hc5 : l5.length ≤ c5) (hrb : Kd.C (Kd.int .u8) w Ab bd.length bd) (hcb : bd.length ≤ cb) (hG : GOK w) (q : Nat) (hsh : ridgewaylaw17_short.f q a b c d l4 l5 t bd = some false) :
  Calls Tryd.prog 5 #[.agg #[.int .i64 s0, .int .i64 s1, .int .i64 s2, .int .i64 s3], .agg #[.int .i64 a, .int .i64 b, .int .i64 c, .int .i64 d, .slice A4 l4.length c4, .slice A5 l5.length c5], .int .i64 k, .agg #[.int .i64 t, .slice Ab bd.length cb], .int .i64 n] w fun e w' => e = .returned (.bool true) ∧ Below w.heap.size w w' := by
 have HGK := Aside0.mk hG
 have HR4 := Aside0.mk hr4
 have HC4 := Aside0.mk hc4
 have HR5 := Aside0.mk hr5
 have HC5 := Aside0.mk hc5
 have HRB := Aside0.mk hrb
 have HCB := Aside0.mk hcb
 have HSH := Aside0.mk hsh
 clear hG hr4 hc4 hr5 hc5 hrb hcb hsh
 have H0 := Aside0.mk (kp_start w (.cells #[.int .i64 s0, .int .i64 s1, .int .i64 s2, .int .i64 s3] 34) (.cells #[.int .i64 a, .int .i64 b, .int .i64 c, .int .i64 d, .slice A4 l4.length c4, .slice A5 l5.length c5] 26) (.cells #[.int .i64 t, .slice Ab bd.length cb] 45))
 go_enter Tryd.func5, Tryd.ntmps5
 go_wp2_with (first
  | (go_at_call 8; have hh := ridgewaylaw17_awake.calls true (((w.alloc (.cells #[.int .i64 s0, .int .i64 s1, .int .i64 s2, .int .i64 s3] 34)).alloc (.cells #[.int .i64 a, .int .i64 b, .int .i64 c, .int .i64 d, .slice A4 l4.length c4, .slice A5 l5.length c5] 26)).alloc (.cells #[.int .i64 t, .slice Ab bd.length cb] 45)) (GOK.below HGK.out H0.out.b) rfl; (with_reducible refine hh.mono ?_); clear hh; rintro e w1 ⟨rfl, hb_⟩; have H1 := Aside0.mk (H0.out.below hb_); clear hb_; have hb_ := H1.out.2.1 (w.heap.size + 1, (.cells #[.int .i64 a, .int .i64 b, .int .i64 c, .int .i64 d, .slice A4 l4.length c4, .slice A5 l5.length c5] 26)) (by simp); obtain ⟨e1C0, e1C1, e1C2, e1C3, e1C4, e1C5, -, -, -, -, -, -⟩ := bc6 hb_; have l1C : w.heap.size + 1 < w1.heap.size := blk_lt hb_; have k1C : w.heap.size < w1.heap.size := Nat.lt_of_succ_lt l1C; clear hb_; have hb_ := H1.out.2.1 (w.heap.size + 1 + 1, (.cells #[.int .i64 t, .slice Ab bd.length cb] 45)) (by simp); obtain ⟨e1M0, e1M1, -, -⟩ := bc2 hb_; have l1M : w.heap.size + 1 + 1 < w1.heap.size := blk_lt hb_; have k1M : w.heap.size + 1 < w1.heap.size := Nat.lt_of_succ_lt l1M; have j1M : w.heap.size < w1.heap.size := Nat.lt_of_succ_lt k1M; clear hb_)
  | (go_at_call 14; have hh := ridgewaylaw17_short.calls q a b c d A4 c4 l4 A5 c5 l5 t Ab cb bd false w1 (Kd.C_below HR4.out H1.out.b) HC4.out (Kd.C_below HR5.out H1.out.b) HC5.out (Kd.C_below HRB.out H1.out.b) HCB.out HSH.out; (with_reducible refine hh.mono ?_); clear hh; rintro e w2 ⟨rfl, hb_⟩; have H2 := Aside0.mk (H1.out.below hb_); clear hb_; have hb_ := H2.out.2.1 (w.heap.size, (.cells #[.int .i64 s0, .int .i64 s1, .int .i64 s2, .int .i64 s3] 34)) (by simp); obtain ⟨e2S0, e2S1, e2S2, e2S3, -, -, -, -⟩ := bc4 hb_; have l2S : w.heap.size < w2.heap.size := blk_lt hb_; clear hb_; have hb_ := H2.out.2.1 (w.heap.size + 1, (.cells #[.int .i64 a, .int .i64 b, .int .i64 c, .int .i64 d, .slice A4 l4.length c4, .slice A5 l5.length c5] 26)) (by simp); obtain ⟨e2C0, e2C1, e2C2, e2C3, e2C4, e2C5, -, -, -, -, -, -⟩ := bc6 hb_; have l2C : w.heap.size + 1 < w2.heap.size := blk_lt hb_; have k2C : w.heap.size < w2.heap.size := Nat.lt_of_succ_lt l2C; clear hb_; have hb_ := H2.out.2.1 (w.heap.size + 1 + 1, (.cells #[.int .i64 t, .slice Ab bd.length cb] 45)) (by simp); obtain ⟨e2M0, e2M1, -, -⟩ := bc2 hb_; have l2M : w.heap.size + 1 + 1 < w2.heap.size := blk_lt hb_; have k2M : w.heap.size + 1 < w2.heap.size := Nat.lt_of_succ_lt l2M; have j2M : w.heap.size < w2.heap.size := Nat.lt_of_succ_lt k2M; clear hb_))
 go_ret
 exact ⟨rfl, H2.out.b⟩
theorem kp_told {p : List S45} (hp : p = [] ∨ ∃ m, p = [m]) : (((p.length : Int) == 1) = false ∧ Pure.toldB p = false) ∨ (((p.length : Int) == 1) = true ∧ ∃ h : 0 < p.length, ((p[0]).f0 == 3) = Pure.toldB p) := by
 rcases hp with rfl | ⟨m, rfl⟩
 ·
  exact .inl ⟨rfl, rfl⟩
 ·
  exact .inr ⟨rfl, by simp, rfl⟩
/-- What the last tests come to. -/
def kpFin (s0 t T1 : Int) (p : List S45) (V1 : Int) (x : List S45) (vs : Bool) : Prop :=
 (p = [] ∨ ∃ m, p = [m]) ∧ (vs = true ∧ s0 ≠ 0 ∧ T1 = 0 → Pure.toldB p = true ∨ t = 3) ∧ (¬ (vs = true ∧ s0 ≠ 0 ∧ T1 = 0) → Pure.toldB p = false) ∧ (vs = true ∧ s0 ≠ 0 → V1 ≠ 0 ∨ ∃ L m, x = L ++ [m] ∧ m.f0 = 3)
theorem kp_at {ad : Addr} {l : List S45} {i : Nat} (hi : i < l.length) (W : World) (h : Kd.C k45 W (some ad) l.length l) : W.cell? (ad.add (i * 2)) = some (.int .i64 (l[i]).f0) ∧ (ad.add (i * 2)).block < W.heap.size := by
 obtain ⟨ad', Be, ce, ee, y0, -, -, -, yb⟩ := kp_get i h hi
 cases ee
 exact ⟨y0, yb⟩
theorem kp_at0 {ad : Addr} {l : List S45} (hi : 0 < l.length) (W : World) (h : Kd.C k45 W (some ad) l.length l) : W.cell? ad = some (.int .i64 (l[0]).f0) ∧ ad.block < W.heap.size := by
 have h2 := kp_at hi W h
 rwa [show 0 * 2 = 0 from rfl, Addr.add_zero'] at h2
/-- The ways that the last tests can go. -/
theorem kp_leaf {s0 t T1 : Int} {p : List S45} {V1 : Int} {x : List S45} {vs : Bool} (fin : kpFin s0 t T1 p V1 x vs) :
  (∃ b, ((((p.length : Int) == 1) = false ∧ b = false) ∨ (((p.length : Int) == 1) = true ∧ ∃ h : 0 < p.length, ((p[0]).f0 == 3) = b)) ∧
   ((vs = false ∧ b = false) ∨ (vs = true ∧ (s0 != 0) = false ∧ b = false) ∨ (vs = true ∧ (s0 != 0) = true ∧ (T1 == 0) = true ∧ (b = true ∨ (b = false ∧ (t == 3) = true))) ∨
    (vs = true ∧ (s0 != 0) = true ∧ (T1 == 0) = false ∧ b = false ∧ (V1 != 0) = true) ∨ (vs = true ∧ (s0 != 0) = true ∧ (T1 == 0) = false ∧ b = false ∧ (V1 != 0) = false ∧ ∃ j : Nat, (x.length : Int) - 1 = (j : Int) ∧ decide ((0 : Int) < (x.length : Int)) = true ∧ ((j : Int) < (x.length : Int)) = True ∧ (j < x.length) = True ∧ (j : Int) ≤ 1000000000 + (x.length : Int) ∧ ∃ h : j < x.length, ((x[j]).f0 == 3) = true))) := by
 obtain ⟨hp, f1, f2, f3⟩ := fin
 refine ⟨Pure.toldB p, kp_told hp, ?_⟩
 cases vs
 ·
  exact .inl ⟨rfl, f2 (by simp)⟩
 by_cases z : s0 = 0
 ·
  exact .inr (.inl ⟨rfl, by simp [z], f2 (by simp [z])⟩)
 have z' : (s0 != 0) = true := by simp [z]
 by_cases y : T1 = 0
 ·
  refine .inr (.inr (.inl ⟨rfl, z', by simp [y], ?_⟩))
  rcases f1 ⟨rfl, z, y⟩ with h | h
  ·
   exact .inl h
  ·
   cases hb : Pure.toldB p
   ·
    exact .inr ⟨rfl, by simp [h]⟩
   ·
    exact .inl rfl
 ·
  have hy : (T1 == 0) = false := by simp [y]
  have hb := f2 (by simp [y])
  by_cases u : V1 = 0
  ·
   rcases f3 ⟨rfl, z⟩ with h | ⟨L, m, rfl, hm⟩
   ·
    exact absurd u h
   ·
    refine .inr (.inr (.inr (.inr ⟨rfl, z', hy, hb, by simp [u], L.length, by simp, decide_eq_true (by simp <;> omega), eq_true (by simp <;> omega), eq_true (by simp), by simp <;> omega, by simp, by simp [hm]⟩)))
  ·
   exact .inr (.inr (.inr (.inl ⟨rfl, z', hy, hb, by simp [u]⟩)))
set_option maxHeartbeats 8000000 in
set_option maxRecDepth 100000 in
theorem kp_main (s0 s1 s2 s3 a b c d : Int) (A4 : Option Addr) (c4 : Nat) (l4 : List S62) (A5 : Option Addr) (c5 : Nat) (l5 : List S31) (k t : Int) (Ab : Option Addr) (cb : Nat) (bd : List Int) (n : Int) (w : World) (hr4 : Kd.C k62 w A4 l4.length l4) (hc4 : l4.length ≤ c4) (hr5 : Kd.C k31 w A5 l5.length l5) (hc5 : l5.length ≤ c5) (hrb : Kd.C (Kd.int .u8) w Ab bd.length bd) (hcb : bd.length ≤ cb) (hG : GOK w) (q : Nat) (hsh : ridgewaylaw17_short.f q a b c d l4 l5 t bd = some true) (T1 T2 T3 T4 : Int) (p : List S45) (ok : Bool) (hT : session_Take.f s0 s1 s2 s3 a b c d l4 l5 k t bd = some (T1, T2, T3, T4, p, ok)) (V1 V2 V3 V4 : Int) (x : List S45) (hV : session_Tick.f 2000 s0 s1 s2 s3 n = some (V1, V2, V3, V4, x)) (R1 R2 R3 R4 : Int) (l : List S45) (hST : session_Start.f 100 s0 s1 s2 s3 a b c d l4 l5 k = some (R1, R2, R3, R4, l)) (hS1 : session_Sane.f T1 T2 T3 T4 = some true) (hS2 : session_Sane.f V1 V2 V3 V4 = some true) (hS3 : session_Sane.f R1 R2 R3 R4 = some true) (hle : p.length ≤ 1 ∧ x.length ≤ 1000 ∧ l.length ≤ 1) (al : List S45) (hal : al = p ++ x ++ l) (hok : ∀ m ∈ al, Pure.msgOK m) (hokt : ok = true → T1 = 3 ∧ t = 2) (vs : Bool) (hS : session_Sane.f s0 s1 s2 s3 = some vs) (fin : kpFin s0 t T1 p V1 x vs) :
  Calls Tryd.prog 5 #[.agg #[.int .i64 s0, .int .i64 s1, .int .i64 s2, .int .i64 s3], .agg #[.int .i64 a, .int .i64 b, .int .i64 c, .int .i64 d, .slice A4 l4.length c4, .slice A5 l5.length c5], .int .i64 k, .agg #[.int .i64 t, .slice Ab bd.length cb], .int .i64 n] w fun e w' => e = .returned (.bool true) ∧ Below w.heap.size w w' := by
 have HGK := Aside0.mk hG
 have HR4 := Aside0.mk hr4
 have HC4 := Aside0.mk hc4
 have HR5 := Aside0.mk hr5
 have HC5 := Aside0.mk hc5
 have HRB := Aside0.mk hrb
 have HCB := Aside0.mk hcb
 have HSH := Aside0.mk hsh
 clear hG hr4 hc4 hr5 hc5 hrb hcb hsh
 have H0 := Aside0.mk (kp_start w (.cells #[.int .i64 s0, .int .i64 s1, .int .i64 s2, .int .i64 s3] 34) (.cells #[.int .i64 a, .int .i64 b, .int .i64 c, .int .i64 d, .slice A4 l4.length c4, .slice A5 l5.length c5] 26) (.cells #[.int .i64 t, .slice Ab bd.length cb] 45))
 have HT := Aside0.mk hT
 have HV := Aside0.mk hV
 have HST := Aside0.mk hST
 have HS1 := Aside0.mk hS1
 have HS2 := Aside0.mk hS2
 have HS3 := Aside0.mk hS3
 have HS := Aside0.mk hS
 have g1 : decide ((1 : Int) < (p.length : Int)) = false := decide_eq_false (by omega)
 have g2 : decide ((1 : Int) < (l.length : Int)) = false := decide_eq_false (by omega)
 have HLE := Aside0.mk hle
 have HALL := Aside0.mk hal
 have HOK := Aside0.mk hok
 have HOT := Aside0.mk hokt
 have HFIN := Aside0.mk fin
 clear hT hV hST hS1 hS2 hS3 hS hle hal hok hokt fin
 go_enter Tryd.func5, Tryd.ntmps5
 go_upto_region 7 with (first
  | (go_at_call 8; have hh := ridgewaylaw17_awake.calls true (((w.alloc (.cells #[.int .i64 s0, .int .i64 s1, .int .i64 s2, .int .i64 s3] 34)).alloc (.cells #[.int .i64 a, .int .i64 b, .int .i64 c, .int .i64 d, .slice A4 l4.length c4, .slice A5 l5.length c5] 26)).alloc (.cells #[.int .i64 t, .slice Ab bd.length cb] 45)) (GOK.below HGK.out H0.out.b) rfl; (with_reducible refine hh.mono ?_); clear hh; rintro e w1 ⟨rfl, hb_⟩; have H1 := Aside0.mk (H0.out.below hb_); clear hb_; have hb_ := H1.out.2.1 (w.heap.size + 1, (.cells #[.int .i64 a, .int .i64 b, .int .i64 c, .int .i64 d, .slice A4 l4.length c4, .slice A5 l5.length c5] 26)) (by simp); obtain ⟨e1C0, e1C1, e1C2, e1C3, e1C4, e1C5, -, -, -, -, -, -⟩ := bc6 hb_; have l1C : w.heap.size + 1 < w1.heap.size := blk_lt hb_; have k1C : w.heap.size < w1.heap.size := Nat.lt_of_succ_lt l1C; clear hb_; have hb_ := H1.out.2.1 (w.heap.size + 1 + 1, (.cells #[.int .i64 t, .slice Ab bd.length cb] 45)) (by simp); obtain ⟨e1M0, e1M1, -, -⟩ := bc2 hb_; have l1M : w.heap.size + 1 + 1 < w1.heap.size := blk_lt hb_; have k1M : w.heap.size + 1 < w1.heap.size := Nat.lt_of_succ_lt l1M; have j1M : w.heap.size < w1.heap.size := Nat.lt_of_succ_lt k1M; clear hb_)
  | (go_at_call 14; have hh := ridgewaylaw17_short.calls q a b c d A4 c4 l4 A5 c5 l5 t Ab cb bd true w1 (Kd.C_below HR4.out H1.out.b) HC4.out (Kd.C_below HR5.out H1.out.b) HC5.out (Kd.C_below HRB.out H1.out.b) HCB.out HSH.out; (with_reducible refine hh.mono ?_); clear hh; rintro e w2 ⟨rfl, hb_⟩; have H2 := Aside0.mk (H1.out.below hb_); clear hb_; have hb_ := H2.out.2.1 (w.heap.size, (.cells #[.int .i64 s0, .int .i64 s1, .int .i64 s2, .int .i64 s3] 34)) (by simp); obtain ⟨e2S0, e2S1, e2S2, e2S3, -, -, -, -⟩ := bc4 hb_; have l2S : w.heap.size < w2.heap.size := blk_lt hb_; clear hb_; have hb_ := H2.out.2.1 (w.heap.size + 1, (.cells #[.int .i64 a, .int .i64 b, .int .i64 c, .int .i64 d, .slice A4 l4.length c4, .slice A5 l5.length c5] 26)) (by simp); obtain ⟨e2C0, e2C1, e2C2, e2C3, e2C4, e2C5, -, -, -, -, -, -⟩ := bc6 hb_; have l2C : w.heap.size + 1 < w2.heap.size := blk_lt hb_; have k2C : w.heap.size < w2.heap.size := Nat.lt_of_succ_lt l2C; clear hb_; have hb_ := H2.out.2.1 (w.heap.size + 1 + 1, (.cells #[.int .i64 t, .slice Ab bd.length cb] 45)) (by simp); obtain ⟨e2M0, e2M1, -, -⟩ := bc2 hb_; have l2M : w.heap.size + 1 + 1 < w2.heap.size := blk_lt hb_; have k2M : w.heap.size + 1 < w2.heap.size := Nat.lt_of_succ_lt l2M; have j2M : w.heap.size < w2.heap.size := Nat.lt_of_succ_lt k2M; clear hb_)
  | (go_at_call 16; have hh := session_Take.calls s0 s1 s2 s3 a b c d A4 c4 l4 A5 c5 l5 k t Ab cb bd T1 T2 T3 T4 p ok w2 (Kd.C_below HR4.out H2.out.b) HC4.out (Kd.C_below HR5.out H2.out.b) HC5.out (Kd.C_below HRB.out H2.out.b) HCB.out (GOK.below HGK.out H2.out.b) HT.out; (with_reducible refine hh.mono ?_); clear hh; rintro e w3 ⟨v4, rfl, hv_, hb_⟩; obtain ⟨Ap, cp, rfl⟩ := Kd.V_slice hv_; have H3 := Aside0.mk (AwP.rowM (l := p) (AwP.below H2.out hb_) (Kd.V_reads' hv_).2.2); clear hv_ hb_; have hb_ := H3.out.2.1 (w.heap.size, (.cells #[.int .i64 s0, .int .i64 s1, .int .i64 s2, .int .i64 s3] 34)) (by simp); obtain ⟨e3S0, e3S1, e3S2, e3S3, -, -, -, -⟩ := bc4 hb_; have l3S : w.heap.size < w3.heap.size := blk_lt hb_; clear hb_)
  | (go_at_call 18; have hh := session_Tick.calls 2000 s0 s1 s2 s3 n V1 V2 V3 V4 x (w3.alloc (.cells #[.int .i64 T1, .int .i64 T2, .int .i64 T3, .int .i64 T4] 34)) HV.out; (with_reducible refine hh.mono ?_); clear hh; rintro e w4 ⟨v4, rfl, hv_, hb_⟩; obtain ⟨Ax, cx, rfl⟩ := Kd.N_slice hv_; have H4 := Aside0.mk (AwP.rowM (l := x) (AwP.below (H3.out.new (.cells #[.int .i64 T1, .int .i64 T2, .int .i64 T3, .int .i64 T4] 34)) hb_) (Kd.N_reads' hv_).2.2); clear hv_ hb_; have hb_ := H4.out.2.1 (w.heap.size, (.cells #[.int .i64 s0, .int .i64 s1, .int .i64 s2, .int .i64 s3] 34)) (by simp); obtain ⟨e4S0, e4S1, e4S2, e4S3, -, -, -, -⟩ := bc4 hb_; have l4S : w.heap.size < w4.heap.size := blk_lt hb_; clear hb_; have hb_ := H4.out.2.1 (w.heap.size + 1, (.cells #[.int .i64 a, .int .i64 b, .int .i64 c, .int .i64 d, .slice A4 l4.length c4, .slice A5 l5.length c5] 26)) (by simp); obtain ⟨e4C0, e4C1, e4C2, e4C3, e4C4, e4C5, -, -, -, -, -, -⟩ := bc6 hb_; have l4C : w.heap.size + 1 < w4.heap.size := blk_lt hb_; have k4C : w.heap.size < w4.heap.size := Nat.lt_of_succ_lt l4C; clear hb_)
  | (go_at_call 11; have hh := session_Start.calls 100 s0 s1 s2 s3 a b c d A4 c4 l4 A5 c5 l5 k R1 R2 R3 R4 l (w4.alloc (.cells #[.int .i64 V1, .int .i64 V2, .int .i64 V3, .int .i64 V4] 34)) (Kd.C_below HR4.out (H4.out.new (.cells #[.int .i64 V1, .int .i64 V2, .int .i64 V3, .int .i64 V4] 34)).b) HC4.out (Kd.C_below HR5.out (H4.out.new (.cells #[.int .i64 V1, .int .i64 V2, .int .i64 V3, .int .i64 V4] 34)).b) HC5.out HST.out; (with_reducible refine hh.mono ?_); clear hh; rintro e w5 ⟨v4, rfl, hv_, hb_⟩; obtain ⟨Al, cl, rfl⟩ := Kd.N_slice hv_; have H5 := Aside0.mk (AwP.rowM (l := l) (AwP.below (H4.out.new (.cells #[.int .i64 V1, .int .i64 V2, .int .i64 V3, .int .i64 V4] 34)) hb_) (Kd.N_reads' hv_).2.2); clear hv_ hb_; have hb_ := H5.out.2.1 (w3.heap.size, (.cells #[.int .i64 T1, .int .i64 T2, .int .i64 T3, .int .i64 T4] 34)) (by simp); obtain ⟨e5T0, e5T1, e5T2, e5T3, -, -, -, -⟩ := bc4 hb_; have l5T : w3.heap.size < w5.heap.size := blk_lt hb_; clear hb_))
 (try simp only [Act.put, sA, sB, sC])
 have hcase : ok = false ∨ (ok = true ∧ T1 = 3 ∧ t = 2) := by
  cases ok
  ·
   exact .inl rfl
  ·
   exact .inr ⟨rfl, HOT.out rfl⟩
 clear HOT HT e1C0 e1C1 e1C2 e1C3 e1C4 e1C5 l1C k1C e1M0 e1M1 l1M k1M j1M e2S0 e2S1 e2S2 e2S3 l2S e2C0 e2C1 e2C2 e2C3 e2C4 e2C5 l2C k2C e2M0 e2M1 l2M k2M j2M e3S0 e3S1 e3S2 e3S3 l3S e4S0 e4S1 e4S2 e4S3 l4S e4C0 e4C1 e4C2 e4C3 e4C4 e4C5 l4C k4C
 go_cut [86] (fun v86 wc => v86 = .bool false ∧ Aside0 (AwP w [(w5.heap.size, (.cells #[.int .i64 R1, .int .i64 R2, .int .i64 R3, .int .i64 R4] 34)), (w4.heap.size, (.cells #[.int .i64 V1, .int .i64 V2, .int .i64 V3, .int .i64 V4] 34)), (w3.heap.size, (.cells #[.int .i64 T1, .int .i64 T2, .int .i64 T3, .int .i64 T4] 34)), (w.heap.size + 1 + 1, (.cells #[.int .i64 t, .slice Ab bd.length cb] 45)), (w.heap.size + 1, (.cells #[.int .i64 a, .int .i64 b, .int .i64 c, .int .i64 d, .slice A4 l4.length c4, .slice A5 l5.length c5] 26)), (w.heap.size, (.cells #[.int .i64 s0, .int .i64 s1, .int .i64 s2, .int .i64 s3] 34))] [(Al, l), (Ax, x), (Ap, p)] [] wc))
 case first =>
  rcases hcase with rfl | ⟨rfl, q1, q2⟩
  ·
   go_wp2_with (first
    | (go_at_call 17; have hh := session_Sane.calls T1 T2 T3 T4 true (w5.alloc (.cells #[.int .i64 R1, .int .i64 R2, .int .i64 R3, .int .i64 R4] 34)) HS1.out; (with_reducible refine hh.mono ?_); clear hh; rintro e w6 ⟨rfl, hb_⟩; have H6 := Aside0.mk (AwP.below (H5.out.new (.cells #[.int .i64 R1, .int .i64 R2, .int .i64 R3, .int .i64 R4] 34)) hb_); clear hb_; have hb_ := H6.out.2.1 (w4.heap.size, (.cells #[.int .i64 V1, .int .i64 V2, .int .i64 V3, .int .i64 V4] 34)) (by simp); obtain ⟨e6V0, e6V1, e6V2, e6V3, -, -, -, -⟩ := bc4 hb_; have l6V : w4.heap.size < w6.heap.size := blk_lt hb_; clear hb_)
    | (go_at_call 17; have hh := session_Sane.calls V1 V2 V3 V4 true w6 HS2.out; (with_reducible refine hh.mono ?_); clear hh; rintro e w7 ⟨rfl, hb_⟩; have H7 := Aside0.mk (AwP.below H6.out hb_); clear hb_; have hb_ := H7.out.2.1 (w5.heap.size, (.cells #[.int .i64 R1, .int .i64 R2, .int .i64 R3, .int .i64 R4] 34)) (by simp); obtain ⟨e7R0, e7R1, e7R2, e7R3, -, -, -, -⟩ := bc4 hb_; have l7R : w5.heap.size < w7.heap.size := blk_lt hb_; clear hb_)
    | (go_at_call 17; have hh := session_Sane.calls R1 R2 R3 R4 true w7 HS3.out; (with_reducible refine hh.mono ?_); clear hh; rintro e w8 ⟨rfl, hb_⟩; have H8 := Aside0.mk (AwP.below H7.out hb_); clear hb_; have hb_ := H8.out.2.1 (w3.heap.size, (.cells #[.int .i64 T1, .int .i64 T2, .int .i64 T3, .int .i64 T4] 34)) (by simp); obtain ⟨e8T0, e8T1, e8T2, e8T3, -, -, -, -⟩ := bc4 hb_; have l8T : w3.heap.size < w8.heap.size := blk_lt hb_; clear hb_; have hb_ := H8.out.2.1 (w.heap.size + 1 + 1, (.cells #[.int .i64 t, .slice Ab bd.length cb] 45)) (by simp); obtain ⟨e8M0, e8M1, -, -⟩ := bc2 hb_; have l8M : w.heap.size + 1 + 1 < w8.heap.size := blk_lt hb_; have k8M : w.heap.size + 1 < w8.heap.size := Nat.lt_of_succ_lt l8M; have j8M : w.heap.size < w8.heap.size := Nat.lt_of_succ_lt k8M; clear hb_))
   go_meet
   case rel => exact ⟨rfl, ⟨H8.out⟩⟩

  ·
   have n1 : (T1 != 3) = false := by simp [q1]
   have n2 : (t != 2) = false := by simp [q2]
   clear q1 q2
   go_wp2_with (first
    | (go_at_call 17; have hh := session_Sane.calls T1 T2 T3 T4 true (w5.alloc (.cells #[.int .i64 R1, .int .i64 R2, .int .i64 R3, .int .i64 R4] 34)) HS1.out; (with_reducible refine hh.mono ?_); clear hh; rintro e w6 ⟨rfl, hb_⟩; have H6 := Aside0.mk (AwP.below (H5.out.new (.cells #[.int .i64 R1, .int .i64 R2, .int .i64 R3, .int .i64 R4] 34)) hb_); clear hb_; have hb_ := H6.out.2.1 (w4.heap.size, (.cells #[.int .i64 V1, .int .i64 V2, .int .i64 V3, .int .i64 V4] 34)) (by simp); obtain ⟨e6V0, e6V1, e6V2, e6V3, -, -, -, -⟩ := bc4 hb_; have l6V : w4.heap.size < w6.heap.size := blk_lt hb_; clear hb_)
    | (go_at_call 17; have hh := session_Sane.calls V1 V2 V3 V4 true w6 HS2.out; (with_reducible refine hh.mono ?_); clear hh; rintro e w7 ⟨rfl, hb_⟩; have H7 := Aside0.mk (AwP.below H6.out hb_); clear hb_; have hb_ := H7.out.2.1 (w5.heap.size, (.cells #[.int .i64 R1, .int .i64 R2, .int .i64 R3, .int .i64 R4] 34)) (by simp); obtain ⟨e7R0, e7R1, e7R2, e7R3, -, -, -, -⟩ := bc4 hb_; have l7R : w5.heap.size < w7.heap.size := blk_lt hb_; clear hb_)
    | (go_at_call 17; have hh := session_Sane.calls R1 R2 R3 R4 true w7 HS3.out; (with_reducible refine hh.mono ?_); clear hh; rintro e w8 ⟨rfl, hb_⟩; have H8 := Aside0.mk (AwP.below H7.out hb_); clear hb_; have hb_ := H8.out.2.1 (w3.heap.size, (.cells #[.int .i64 T1, .int .i64 T2, .int .i64 T3, .int .i64 T4] 34)) (by simp); obtain ⟨e8T0, e8T1, e8T2, e8T3, -, -, -, -⟩ := bc4 hb_; have l8T : w3.heap.size < w8.heap.size := blk_lt hb_; clear hb_; have hb_ := H8.out.2.1 (w.heap.size + 1 + 1, (.cells #[.int .i64 t, .slice Ab bd.length cb] 45)) (by simp); obtain ⟨e8M0, e8M1, -, -⟩ := bc2 hb_; have l8M : w.heap.size + 1 + 1 < w8.heap.size := blk_lt hb_; have k8M : w.heap.size + 1 < w8.heap.size := Nat.lt_of_succ_lt l8M; have j8M : w.heap.size < w8.heap.size := Nat.lt_of_succ_lt k8M; clear hb_))
   go_meet
   case rel => exact ⟨rfl, ⟨H8.out⟩⟩

 case rest =>
  obtain ⟨rfl, H8⟩ := hcut
  clear hcase g1 g2 e5T0 e5T1 e5T2 e5T3 l5T
  go_wp2_with (first
   | ((with_reducible refine gate_builtin (b := .append) (xs := #[.tmp 87, .tmp 88]) rfl ?_); at_builtin; refine Kd.N_append_rows k45 (w0 := wc) wc.heap.size rfl (.tmp 87) (.tmp 88) 35 45 (.agg #[(.int .i64 0), (.slice none 0 0)]) 32 rfl Tryd.underlying35 info45 rfl (by decide) (by omega) (.slice (some ⟨wc.heap.size, 0, none⟩) 0 0) [] p Ap p.length cp (fun _ => True) (fun k_ => k_ < wc.heap.size) rfl rfl (kp_empty _ _ _ _ trivial) (kp_F (AwP.m H8.out Ap p (by simp)) (below_alloc (Below.refl _ _) _)) kp_own0 (fun _ _ => trivial) (below_alloc (Below.refl _ _) _) (below_size (below_alloc (Below.refl _ _) _)) (by have := HLE.out.1; simp; omega) ?_; intro v19 w9 hn_ hb_ hg_ hat_; rw [List.nil_append] at hn_; obtain ⟨A9, c9, rfl⟩ := Kd.N_slice hn_; have HN9 := Aside0.mk hn_; have HB9 := Aside0.mk hb_; clear hn_ hb_ hg_ hat_)
   | ((with_reducible refine gate_builtin (b := .append) (xs := #[.tmp 90, .tmp 91]) rfl ?_); at_builtin; refine Kd.N_append_rows k45 (w0 := wc) wc.heap.size rfl (.tmp 90) (.tmp 91) 35 45 (.agg #[(.int .i64 0), (.slice none 0 0)]) 32 rfl Tryd.underlying35 info45 rfl (by decide) (by omega) (.slice A9 p.length c9) p x Ax x.length cx (fun _ => True) (fun k_ => k_ < wc.heap.size) rfl rfl HN9.out (kp_F (AwP.m H8.out Ax x (by simp)) HB9.out) (kp_own HN9.out) (fun _ _ => trivial) HB9.out (below_size HB9.out) (by have := HLE.out; omega) ?_; intro v19 w10 hn_ hb_ hg_ hat_; obtain ⟨A10, c10, rfl⟩ := Kd.N_slice hn_; rw [List.length_append] at hn_; have HN10 := Aside0.mk hn_; have HB10 := Aside0.mk hb_; clear hn_ hb_ hg_ hat_)
   | ((with_reducible refine gate_builtin (b := .append) (xs := #[.tmp 93, .tmp 94]) rfl ?_); at_builtin; refine Kd.N_append_rows k45 (w0 := wc) wc.heap.size rfl (.tmp 93) (.tmp 94) 35 45 (.agg #[(.int .i64 0), (.slice none 0 0)]) 32 rfl Tryd.underlying35 info45 rfl (by decide) (by omega) (.slice A10 (p.length + x.length) c10) (p ++ x) l Al l.length cl (fun _ => True) (fun k_ => k_ < wc.heap.size) rfl rfl HN10.out (kp_F (AwP.m H8.out Al l (by simp)) HB10.out) (kp_own HN10.out) (fun _ _ => trivial) HB10.out (below_size HB10.out) (by have := HLE.out; rw [List.length_append]; omega) ?_; intro v19 w11 hn_ hb_ hg_ hat_; rw [← HALL.out] at hn_; obtain ⟨A11, c11, rfl⟩ := Kd.N_slice hn_; have H11 := Aside0.mk (AwP.rowM (l := al) (AwP.below H8.out hb_) (Kd.N_reads' hn_).2.2); clear hn_ hb_ hg_ hat_))
  go_loopg [20] al.length (fun kq v20 w' => ∃ i : Nat, v20 = .int .i64 (i : Int) ∧ Aside0 (i + kq = al.length) ∧ Aside0 (AwP w [(w5.heap.size, (.cells #[.int .i64 R1, .int .i64 R2, .int .i64 R3, .int .i64 R4] 34)), (w4.heap.size, (.cells #[.int .i64 V1, .int .i64 V2, .int .i64 V3, .int .i64 V4] 34)), (w3.heap.size, (.cells #[.int .i64 T1, .int .i64 T2, .int .i64 T3, .int .i64 T4] 34)), (w.heap.size + 1 + 1, (.cells #[.int .i64 t, .slice Ab bd.length cb] 45)), (w.heap.size + 1, (.cells #[.int .i64 a, .int .i64 b, .int .i64 c, .int .i64 d, .slice A4 l4.length c4, .slice A5 l5.length c5] 26)), (w.heap.size, (.cells #[.int .i64 s0, .int .i64 s1, .int .i64 s2, .int .i64 s3] 34))] [(A11, al), (Al, l), (Ax, x), (Ap, p)] [] w'))
  case atStart => exact ⟨0, rfl, ⟨by simp⟩, ⟨H11.out⟩⟩
  case round =>
   obtain ⟨i, rfl, Q1, Q2⟩ := hrel
   cases gk with
   | zero =>
    have hi : i = al.length := by have := Q1.out; omega
    subst hi
    have c1 : decide ((al.length : Int) < (al.length : Int)) = false := by simp
    have hleaf := kp_leaf HFIN.out
    clear HFIN
    have hb_ := Q2.out.2.1 (w.heap.size, (.cells #[.int .i64 s0, .int .i64 s1, .int .i64 s2, .int .i64 s3] 34)) (by simp); obtain ⟨e0S0, e0S1, e0S2, e0S3, -, -, -, -⟩ := bc4 hb_; have l0S := blk_lt hb_; clear hb_
    obtain ⟨tb, hpp, hcs⟩ := hleaf
    rcases hpp with ⟨hpn, htb⟩ | ⟨hpn, hpl, hpe⟩
    ·
     have HPE := Aside0.mk (show ∀ W, Kd.C k45 W Ap p.length p → True ∧ True from fun _ _ => ⟨trivial, trivial⟩)
     rcases hcs with ⟨rfl, rfl⟩ | ⟨rfl, h1, rfl⟩ | ⟨rfl, h1, h2, rfl | ⟨rfl, h3⟩⟩ | ⟨rfl, h1, h2, rfl, h3⟩ | ⟨rfl, h1, h2, rfl, h3, j, hj, hj1, hj2, hj3, hj4, hxl, hje⟩
     rotate_left 5
     ·
      obtain ⟨ad1, -, -, ef, -⟩ := kp_get j (AwP.m Q2.out Ax x (by simp)) hxl
      cases ef
      have HXE := Aside0.mk (kp_at (ad := ad1) hxl)
      have hjw : wrap64 (j : Int) = (j : Int) := w64 (by omega) (by have := HLE.out; omega)
      skip; go_wp2_with (first | (go_at_call 17; (with_reducible refine (session_Sane.calls s0 s1 s2 s3 _ _ HS.out).mono ?_); rintro e w12 ⟨rfl, hb_⟩; have H12 := Aside0.mk (AwP.below Q2.out hb_); clear hb_; have hb_ := H12.out.2.1 (w.heap.size, (.cells #[.int .i64 s0, .int .i64 s1, .int .i64 s2, .int .i64 s3] 34)) (by simp); obtain ⟨e12S0, e12S1, e12S2, e12S3, -, -, -, -⟩ := bc4 hb_; have l12S := blk_lt hb_; clear hb_; have hb_ := H12.out.2.1 (w3.heap.size, (.cells #[.int .i64 T1, .int .i64 T2, .int .i64 T3, .int .i64 T4] 34)) (by simp); obtain ⟨e12T0, e12T1, e12T2, e12T3, -, -, -, -⟩ := bc4 hb_; have l12T := blk_lt hb_; clear hb_; have hb_ := H12.out.2.1 (w.heap.size + 1 + 1, (.cells #[.int .i64 t, .slice Ab bd.length cb] 45)) (by simp); obtain ⟨e12M0, e12M1, -, -⟩ := bc2 hb_; have l12M := blk_lt hb_; have k12M := Nat.lt_of_succ_lt l12M; have j12M := Nat.lt_of_succ_lt k12M; clear hb_; have hb_ := H12.out.2.1 (w4.heap.size, (.cells #[.int .i64 V1, .int .i64 V2, .int .i64 V3, .int .i64 V4] 34)) (by simp); obtain ⟨e12V0, e12V1, e12V2, e12V3, -, -, -, -⟩ := bc4 hb_; have l12V := blk_lt hb_; clear hb_; obtain ⟨y0_, y1_⟩ := HPE.out _ (AwP.m H12.out _ p (by simp)); obtain ⟨z0_, z1_⟩ := HXE.out _ (AwP.m H12.out _ x (by simp)))); go_ret; exact ⟨rfl, H12.out.b⟩
     all_goals try (exact absurd htb (by decide))
     all_goals have HXE := Aside0.mk (show ∀ W, Kd.C k45 W Ax x.length x → True ∧ True from fun _ _ => ⟨trivial, trivial⟩)
     all_goals (go_wp2_with (first | (go_at_call 17; (with_reducible refine (session_Sane.calls s0 s1 s2 s3 _ _ HS.out).mono ?_); rintro e w12 ⟨rfl, hb_⟩; have H12 := Aside0.mk (AwP.below Q2.out hb_); clear hb_; have hb_ := H12.out.2.1 (w.heap.size, (.cells #[.int .i64 s0, .int .i64 s1, .int .i64 s2, .int .i64 s3] 34)) (by simp); obtain ⟨e12S0, e12S1, e12S2, e12S3, -, -, -, -⟩ := bc4 hb_; have l12S := blk_lt hb_; clear hb_; have hb_ := H12.out.2.1 (w3.heap.size, (.cells #[.int .i64 T1, .int .i64 T2, .int .i64 T3, .int .i64 T4] 34)) (by simp); obtain ⟨e12T0, e12T1, e12T2, e12T3, -, -, -, -⟩ := bc4 hb_; have l12T := blk_lt hb_; clear hb_; have hb_ := H12.out.2.1 (w.heap.size + 1 + 1, (.cells #[.int .i64 t, .slice Ab bd.length cb] 45)) (by simp); obtain ⟨e12M0, e12M1, -, -⟩ := bc2 hb_; have l12M := blk_lt hb_; have k12M := Nat.lt_of_succ_lt l12M; have j12M := Nat.lt_of_succ_lt k12M; clear hb_; have hb_ := H12.out.2.1 (w4.heap.size, (.cells #[.int .i64 V1, .int .i64 V2, .int .i64 V3, .int .i64 V4] 34)) (by simp); obtain ⟨e12V0, e12V1, e12V2, e12V3, -, -, -, -⟩ := bc4 hb_; have l12V := blk_lt hb_; clear hb_; obtain ⟨y0_, y1_⟩ := HPE.out _ (AwP.m H12.out _ p (by simp)); obtain ⟨z0_, z1_⟩ := HXE.out _ (AwP.m H12.out _ x (by simp)))); go_ret; exact ⟨rfl, H12.out.b⟩)
    ·
     obtain ⟨ad0, -, -, ee, -⟩ := kp_get 0 (AwP.m Q2.out Ap p (by simp)) hpl
     cases ee
     have HPE := Aside0.mk (kp_at0 (ad := ad0) hpl)
     rcases hcs with ⟨rfl, rfl⟩ | ⟨rfl, h1, rfl⟩ | ⟨rfl, h1, h2, rfl | ⟨rfl, h3⟩⟩ | ⟨rfl, h1, h2, rfl, h3⟩ | ⟨rfl, h1, h2, rfl, h3, j, hj, hj1, hj2, hj3, hj4, hxl, hje⟩
     rotate_left 5
     ·
      obtain ⟨ad1, -, -, ef, -⟩ := kp_get j (AwP.m Q2.out Ax x (by simp)) hxl
      cases ef
      have HXE := Aside0.mk (kp_at (ad := ad1) hxl)
      have hjw : wrap64 (j : Int) = (j : Int) := w64 (by omega) (by have := HLE.out; omega)
      skip; go_wp2_with (first | (go_at_call 17; (with_reducible refine (session_Sane.calls s0 s1 s2 s3 _ _ HS.out).mono ?_); rintro e w12 ⟨rfl, hb_⟩; have H12 := Aside0.mk (AwP.below Q2.out hb_); clear hb_; have hb_ := H12.out.2.1 (w.heap.size, (.cells #[.int .i64 s0, .int .i64 s1, .int .i64 s2, .int .i64 s3] 34)) (by simp); obtain ⟨e12S0, e12S1, e12S2, e12S3, -, -, -, -⟩ := bc4 hb_; have l12S := blk_lt hb_; clear hb_; have hb_ := H12.out.2.1 (w3.heap.size, (.cells #[.int .i64 T1, .int .i64 T2, .int .i64 T3, .int .i64 T4] 34)) (by simp); obtain ⟨e12T0, e12T1, e12T2, e12T3, -, -, -, -⟩ := bc4 hb_; have l12T := blk_lt hb_; clear hb_; have hb_ := H12.out.2.1 (w.heap.size + 1 + 1, (.cells #[.int .i64 t, .slice Ab bd.length cb] 45)) (by simp); obtain ⟨e12M0, e12M1, -, -⟩ := bc2 hb_; have l12M := blk_lt hb_; have k12M := Nat.lt_of_succ_lt l12M; have j12M := Nat.lt_of_succ_lt k12M; clear hb_; have hb_ := H12.out.2.1 (w4.heap.size, (.cells #[.int .i64 V1, .int .i64 V2, .int .i64 V3, .int .i64 V4] 34)) (by simp); obtain ⟨e12V0, e12V1, e12V2, e12V3, -, -, -, -⟩ := bc4 hb_; have l12V := blk_lt hb_; clear hb_; obtain ⟨y0_, y1_⟩ := HPE.out _ (AwP.m H12.out _ p (by simp)); obtain ⟨z0_, z1_⟩ := HXE.out _ (AwP.m H12.out _ x (by simp)))); go_ret; exact ⟨rfl, H12.out.b⟩
     all_goals have HXE := Aside0.mk (show ∀ W, Kd.C k45 W Ax x.length x → True ∧ True from fun _ _ => ⟨trivial, trivial⟩)
     all_goals (go_wp2_with (first | (go_at_call 17; (with_reducible refine (session_Sane.calls s0 s1 s2 s3 _ _ HS.out).mono ?_); rintro e w12 ⟨rfl, hb_⟩; have H12 := Aside0.mk (AwP.below Q2.out hb_); clear hb_; have hb_ := H12.out.2.1 (w.heap.size, (.cells #[.int .i64 s0, .int .i64 s1, .int .i64 s2, .int .i64 s3] 34)) (by simp); obtain ⟨e12S0, e12S1, e12S2, e12S3, -, -, -, -⟩ := bc4 hb_; have l12S := blk_lt hb_; clear hb_; have hb_ := H12.out.2.1 (w3.heap.size, (.cells #[.int .i64 T1, .int .i64 T2, .int .i64 T3, .int .i64 T4] 34)) (by simp); obtain ⟨e12T0, e12T1, e12T2, e12T3, -, -, -, -⟩ := bc4 hb_; have l12T := blk_lt hb_; clear hb_; have hb_ := H12.out.2.1 (w.heap.size + 1 + 1, (.cells #[.int .i64 t, .slice Ab bd.length cb] 45)) (by simp); obtain ⟨e12M0, e12M1, -, -⟩ := bc2 hb_; have l12M := blk_lt hb_; have k12M := Nat.lt_of_succ_lt l12M; have j12M := Nat.lt_of_succ_lt k12M; clear hb_; have hb_ := H12.out.2.1 (w4.heap.size, (.cells #[.int .i64 V1, .int .i64 V2, .int .i64 V3, .int .i64 V4] 34)) (by simp); obtain ⟨e12V0, e12V1, e12V2, e12V3, -, -, -, -⟩ := bc4 hb_; have l12V := blk_lt hb_; clear hb_; obtain ⟨y0_, y1_⟩ := HPE.out _ (AwP.m H12.out _ p (by simp)); obtain ⟨z0_, z1_⟩ := HXE.out _ (AwP.m H12.out _ x (by simp)))); go_ret; exact ⟨rfl, H12.out.b⟩)
   | succ k1 =>
    have hlt : i < al.length := by have := Q1.out; omega
    have c1 : decide ((i : Int) < (al.length : Int)) = true := decide_eq_true (by omega)
    have c2 : ((i : Int) < (al.length : Int)) = True := eq_true (by omega)
    have c3 : (i < al.length) = True := eq_true hlt
    have hm := HOK.out _ (List.getElem_mem hlt)
    have ham := HLE.out
    have hall : al.length < 2000 := by rw [HALL.out, List.length_append, List.length_append]; omega
    have hib : (i : Int) ≤ 2000 := by omega
    obtain ⟨ad, Be, ce, ee, x0, x1, xl, xc, xb⟩ := kp_get i (AwP.m Q2.out A11 al (by simp)) hlt
    generalize al[i] = y at hm x0 x1 xl xc
    have HM := Aside0.mk hm
    have HXL := Aside0.mk xl
    have HXC := Aside0.mk xc
    clear hm xl xc ham hall
    cases ee
    go_wp2_with (first | (go_at_call 15; have hh := msg_Sane.calls y.f0 Be ce y.f1 true _ HXC.out HXL.out HM.out; (with_reducible refine hh.mono ?_); clear hh; rintro e w20 ⟨rfl, hb_⟩; have Q3 := Aside0.mk (AwP.below Q2.out hb_); clear hb_))
    go_roundg k1
    case measure => omega
    case rel => exact ⟨i + 1, by simp, ⟨by have := Q1.out; omega⟩, ⟨Q3.out⟩⟩
theorem ridgewaylaw17_SessionKeeps.calls (s0 s1 s2 s3 a b c d : Int) (A4 : Option Addr) (c4 : Nat) (l4 : List S62) (A5 : Option Addr) (c5 : Nat) (l5 : List S31) (k t : Int) (Ab : Option Addr) (cb : Nat) (bd : List Int) (n : Int) (w : World) (hr4 : Kd.C k62 w A4 l4.length l4) (hc4 : l4.length ≤ c4) (hr5 : Kd.C k31 w A5 l5.length l5) (hc5 : l5.length ≤ c5) (hrb : Kd.C (Kd.int .u8) w Ab bd.length bd) (hcb : bd.length ≤ cb) (hG : GOK w) (h : ridgewaylaw17_SessionKeeps.f s0 s1 s2 s3 a b c d l4 l5 k t bd n = some true) :
  Calls Tryd.prog 5 #[.agg #[.int .i64 s0, .int .i64 s1, .int .i64 s2, .int .i64 s3], .agg #[.int .i64 a, .int .i64 b, .int .i64 c, .int .i64 d, .slice A4 l4.length c4, .slice A5 l5.length c5], .int .i64 k, .agg #[.int .i64 t, .slice Ab bd.length cb], .int .i64 n] w fun e w' => e = .returned (.bool true) ∧ Below w.heap.size w w' := by
 unfold ridgewaylaw17_SessionKeeps.f at h
 by_cases hcond : (∃ r, conf_Sane.f a b c d l4 l5 = some r) ∧ (∃ q, ∃ sh, ridgewaylaw17_short.f q a b c d l4 l5 t bd = some sh ∧ (sh = true → bd.length ≤ 5000)) ∧ Octs bd
 ·
  obtain ⟨⟨r, hr⟩, ⟨q, sh, hsh, hshl⟩, ho⟩ := hcond
  clear h
  cases sh
  ·
   exact kp_short s0 s1 s2 s3 a b c d A4 c4 l4 A5 c5 l5 k t Ab cb bd n w hr4 hc4 hr5 hc5 hrb hcb hG q hsh
  obtain ⟨⟨T1, T2, T3, T4, p, ok⟩, hT, hT1, hT2, hT3, hT4, hT5, hT6⟩ := Pure.keep_take s0 s1 s2 s3 a b c d l4 l5 k t bd r hr ho (hshl rfl)
  obtain ⟨⟨V1, V2, V3, V4, x⟩, hV, hV1, hV2, hV3, hV4⟩ := Pure.keep_tick s0 s1 s2 s3 n
  obtain ⟨⟨R1, R2, R3, R4, l⟩, hR, hR1, hR2, hR3⟩ := Pure.keep_start s0 s1 s2 s3 a b c d l4 l5 k r hr
  dsimp only at hT1 hT2 hT3 hT4 hT5 hT6 hV1 hV2 hV3 hV4 hR1 hR2 hR3
  have hp : p = [] ∨ ∃ m, p = [m] := by
   match p, hT2 with
   | [], _ => exact .inl rfl
   | [m], _ => exact .inr ⟨m, rfl⟩
   | _ :: _ :: _, h => simp at h
  have hok : ∀ m ∈ p ++ x ++ l, Pure.msgOK m := fun m hm => by
   rcases List.mem_append.1 hm with hm | hm
   ·
    rcases List.mem_append.1 hm with hm | hm
    ·
     exact hT3 m hm
    ·
     exact hV3 m hm
   ·
    exact hR3 m hm
  by_cases hs : Pure.saneS s0 s1 s2 s3
  ·
   exact kp_main s0 s1 s2 s3 a b c d A4 c4 l4 A5 c5 l5 k t Ab cb bd n w hr4 hc4 hr5 hc5 hrb hcb hG q hsh T1 T2 T3 T4 p ok hT V1 V2 V3 V4 x hV R1 R2 R3 R4 l hR (Pure.sane_true _ _ _ _ hT1) (Pure.sane_true _ _ _ _ hV1) (Pure.sane_true _ _ _ _ hR1) ⟨hT2, hV2, hR2⟩ _ rfl hok hT4 true (Pure.sane_true _ _ _ _ hs) ⟨hp, fun h => hT5 ⟨hs, h.2⟩, fun h => hT6 (fun h2 => h ⟨rfl, h2.2⟩), fun h => hV4 ⟨hs, h.2⟩⟩
  ·
   exact kp_main s0 s1 s2 s3 a b c d A4 c4 l4 A5 c5 l5 k t Ab cb bd n w hr4 hc4 hr5 hc5 hrb hcb hG q hsh T1 T2 T3 T4 p ok hT V1 V2 V3 V4 x hV R1 R2 R3 R4 l hR (Pure.sane_true _ _ _ _ hT1) (Pure.sane_true _ _ _ _ hV1) (Pure.sane_true _ _ _ _ hR1) ⟨hT2, hV2, hR2⟩ _ rfl hok hT4 false (Pure.sane_false _ _ _ _ hs) ⟨hp, fun h => (by cases h.1), fun h => hT6 (fun h2 => hs h2.1), fun h => (by cases h.1)⟩
 ·
  rw [if_neg hcond] at h
  cases h

/-- THE ONE PURE STATEMENT of ridgewaylaw17_SessionKeeps. -/
def ridgewaylaw17_SessionKeeps.Pure : Prop := ∀ (x0 : S34) (x1 : S26) (a2 : Int) (x3 : S45) (a4 : Int), (wf34 x0) → (wf26 x1) → ((Lit.int .i64 a2).wf = true) → (wf45 x3) → ((Lit.int .i64 a4).wf = true) → ridgewaylaw17_SessionKeeps.f (x0.f0) (x0.f1) (x0.f2) (x0.f3) (x1.f0) (x1.f1) (x1.f2) (x1.f3) (x1.f4) (x1.f5) a2 (x3.f0) (x3.f1) a4 = some true

end Go.Proofs.YtfbndolhocojiaaDoor.K
