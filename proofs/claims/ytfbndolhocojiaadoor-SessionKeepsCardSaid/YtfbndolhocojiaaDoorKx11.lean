/- Each call of a Go function comes to what the Lean function of its name answers (written out by wip/tools/xprint.py, checked by Lean); conditions: those in each statement. -/
import Derived.Test.YtfbndolhocojiaaDoorKx0
import Derived.Test.YtfbndolhocojiaaDoorKx8
import Derived.Test.YtfbndolhocojiaaDoorKx9
import Derived.Test.YtfbndolhocojiaaDoorKx10
namespace Go.Proofs.YtfbndolhocojiaaDoor.K
open Go.RowKit Go.Proofs.YtfbndolhocojiaaDoorW.PrintWords Go.Proofs.YtfbndolhocojiaaDoorW.PrintLast Go.Proofs.YtfbndolhocojiaaDoorW.PrintMore Go.Proofs.YtfbndolhocojiaaDoorW.PrintX
attribute [local go_sem] max2_int min2_int max_two min_two max_three min_three max_four min_four   -- for this text's walks alone
set_option linter.unusedVariables false
set_option linter.unusedSimpArgs false

/-! ### open_Get: function 50 -/
/-- Two variables that closures have caught. -/
def CAP (g7 g8 : Nat) (st : Int × Int) (w : World) : Prop := w.heap[g7]? = some (.cells #[.int .i64 st.1] 3 (0, 0)) ∧ w.heap[g8]? = some (.cells #[.int .i64 st.2] 3 (0, 0))
def TWO (g7 g8 : Nat) : Nat → Prop := fun k => k = g7 ∨ k = g8
def NTWO (g7 g8 : Nat) : Nat → Prop := fun k => ¬ TWO g7 g8 k
def Kep (g7 g8 : Nat) (w W : World) : Prop := Kept w W (TWO g7 g8) ∧ ∀ w0 : World, w0.heap.size ≤ g7 → w0.heap.size ≤ g8 → Below w0.heap.size w0 w → Below w0.heap.size w0 W
theorem Kep.refl {g7 g8 : Nat} {w : World} : Kep g7 g8 w w := ⟨Kept.refl _ _, fun _ _ _ h => h⟩
theorem Kep.below {g7 g8 : Nat} {w W W2 : World} (h : Kep g7 g8 w W) (hb : Below W.heap.size W W2) : Kep g7 g8 w W2 := ⟨h.1.below hb, fun w0 a b c => below_step (h.2 w0 a b c) hb⟩
theorem Kep.drewN {g7 g8 : Nat} {w W : World} (h : Kep g7 g8 w W) (m : Nat) : Kep g7 g8 w (W.drewN m) := h.below (pw_below_drewN (Below.refl _ _) m)
theorem Kep.setCell {g7 g8 : Nat} {w W : World} (h : Kep g7 g8 w W) {p : Addr} (hp : TWO g7 g8 p.block) (u : Value) : Kep g7 g8 w (W.setCell p u) :=
 ⟨h.1.setCell (.inl hp) u, fun w0 a b c => (h.2 w0 a b c).setCell (by rcases hp with e | e <;> omega) _⟩
theorem Kep.then_ {g7 g8 : Nat} {w W W2 : World} (h : Kep g7 g8 w W) (k : Kep g7 g8 W W2) : Kep g7 g8 w W2 := ⟨h.1.then_ k.1 (fun _ h => .inl h), fun w0 a b c => k.2 w0 a b (h.2 w0 a b c)⟩
theorem CAP.below {g7 g8 : Nat} {st : Int × Int} {w w' : World} (h : CAP g7 g8 st w) (hb : Below w.heap.size w w') : CAP g7 g8 st w' := ⟨blk_below h.1 hb, blk_below h.2 hb⟩
theorem two_back {g7 g8 e b b' : Nat} {st : Int × Int} {w w' : World} {v : Value} {xs : List Int} (hc : CAP g7 g8 st w) (h : Kd.V (Kd.int .u8) e w' b (fun k => NTWO g7 g8 k ∨ w.heap.size ≤ k) v xs) : Kd.V (Kd.int .u8) e w' b' (NTWO g7 g8) v xs := by
 have h1 := blk_lt hc.1
 have h2 := blk_lt hc.2
 exact Kd.V_mono (base := b') h (fun k hk => hk.elim id (fun h3 h4 => by rcases h4 with rfl | rfl <;> omega))
def eachG (f : Int × Int → Int → List Int → Option (Int × Bool × (Int × Int))) : Nat → Int × Int → List Int → Option (Int × Bool × (Int × Int))
 | 0, _, _ => none
 | k + 1, st, b => if (b.length : Int) > 0 then (octet_Get.f 8 b 1).bind fun p => (octet_Get.f 8 p.2.1 1).bind fun q => if q.2.2 = true then (octet_Take.f q.2.1 q.1).bind fun t => if t.2.2 = true then (f st p.1 t.1).bind fun r => if r.2.1 = true then eachG f k r.2.2 t.2.1 else some (r.1, false, r.2.2) else some (0, false, st) else some (0, false, st) else some (0, true, st)
set_option maxHeartbeats 8000000 in
set_option maxRecDepth 100000 in
theorem each_calls (f : Int × Int → Int → List Int → Option (Int × Bool × (Int × Int))) (fn g7 g8 : Nat)
  (he : ∀ (args : Array Value) (w : World), (callFunc fn args).run Tryd.prog w = .ok (.enter fn args) w)
  (hp : ∀ (st : Int × Int) (kind : Int) (A : Option Addr) (c : Nat) (x : List Int) (sub : Int) (ok : Bool) (st' : Int × Int) (w' : World), f st kind x = some (sub, ok, st') → CAP g7 g8 st w' → Kd.V (Kd.int .u8) 5 w' w'.heap.size (NTWO g7 g8) (.slice A x.length c) x →
   Calls Tryd.prog fn #[.int .i64 kind, .slice A x.length c, .pointer (some ⟨g7, 0, none⟩), .pointer (some ⟨g8, 0, none⟩)] w' fun e w'' => e = .returned (.tuple #[.int .i64 sub, .bool ok]) ∧ CAP g7 g8 st' w'' ∧ Kep g7 g8 w' w'')
  (K : Nat) (st : Int × Int) (A : Option Addr) (c : Nat) (b : List Int) (sub : Int) (ok : Bool) (st' : Int × Int) (w : World) (hC : CAP g7 g8 st w) (hV : Kd.V (Kd.int .u8) 5 w w.heap.size (NTWO g7 g8) (.slice A b.length c) b) (h : eachG f K st b = some (sub, ok, st')) :
  Calls Tryd.prog 60 #[.slice A b.length c, .func (.func fn) #[] #[.pointer (some ⟨g7, 0, none⟩), .pointer (some ⟨g8, 0, none⟩)]] w fun e w' => e = .returned (.tuple #[.int .i64 sub, .bool ok]) ∧ CAP g7 g8 st' w' ∧ Kep g7 g8 w w' := by
 have HP := Aside0.mk hp
 have HC := Aside0.mk hC
 have HV := Aside0.mk hV
 have H := Aside0.mk h
 clear hp hC hV h
 go_enter Tryd.func60, Tryd.ntmps60
 go_wp2
 go_loopg [0] K (fun kq v0 w' => ∃ (A : Option Addr) (c : Nat) (b : List Int) (st : Int × Int), v0 = .slice A b.length c ∧ Aside0 (eachG f kq st b = some (sub, ok, st')) ∧ Aside0 (CAP g7 g8 st w') ∧ Aside0 (Kd.V (Kd.int .u8) 5 w' w'.heap.size (NTWO g7 g8) (.slice A b.length c) b) ∧ Aside0 (Kep g7 g8 w w'))
 case atStart => exact ⟨A, c, b, st, rfl, H, HC, HV, ⟨Kep.refl⟩⟩
 case round =>
  clear H HC HV
  obtain ⟨A, c, b, st, rfl, H, HC, HV, HK⟩ := hrel
  cases gk with
  | zero => exact absurd H.out (by simp [eachG])
  | succ k1 =>
   have h0 := H.out
   clear H
   simp only [eachG] at h0
   by_cases hb : (b.length : Int) > 0
   ·
    have c1 : 0 < b.length := by omega
    have c2 : (1 : Int) ≤ (b.length : Int) := by omega
    rw [if_pos hb] at h0
    obtain ⟨⟨r1, r2, r3⟩, e1, h0⟩ := Option.bind_eq_some_iff.mp h0
    obtain ⟨⟨s1, s2, s3⟩, e2, h0⟩ := Option.bind_eq_some_iff.mp h0
    have E1 := Aside0.mk e1
    have E2 := Aside0.mk e2
    clear e1 e2 hb
    dsimp only at h0
    cases s3
    ·
     rw [if_neg (by decide)] at h0
     obtain ⟨rfl, rfl, rfl⟩ : (0 : Int) = sub ∧ false = ok ∧ st = st' := by simpa using h0
     clear h0
     go_wp2_with (first
      | (go_at_call 63; (with_reducible refine (octet_Get.calls 8 (NTWO g7 g8) A c b 1 r1 r2 r3 wr HV.out E1.out).mono ?_); rintro e w1 ⟨v1, rfl, hV1, hb1⟩; obtain ⟨A1, c1, rfl⟩ := Kd.V_slice hV1; have HV1 := Aside0.mk (two_back (b' := w1.heap.size) HC.out hV1); have HC1 := Aside0.mk (HC.out.below hb1); have HK1 := Aside0.mk (HK.out.below hb1); clear hV1 hb1)
      | (go_at_call 63; (with_reducible refine (octet_Get.calls 8 (NTWO g7 g8) A1 c1 r2 1 s1 s2 _ w1 HV1.out E2.out).mono ?_); rintro e w2 ⟨v2, rfl, hV2, hb2⟩; obtain ⟨A2, c2, rfl⟩ := Kd.V_slice hV2; have HV2 := Aside0.mk (two_back (b' := w2.heap.size) HC1.out hV2); have HC2 := Aside0.mk (HC1.out.below hb2); have HK2 := Aside0.mk (HK1.out.below hb2); clear hV2 hb2))
     go_ret2
     exact ⟨rfl, HC2.out, HK2.out⟩
    ·
     rw [if_pos rfl] at h0
     obtain ⟨⟨t1, t2, t3⟩, e3, h0⟩ := Option.bind_eq_some_iff.mp h0
     have E3 := Aside0.mk e3
     clear e3
     dsimp only at h0
     cases t3
     ·
      rw [if_neg (by decide)] at h0
      obtain ⟨rfl, rfl, rfl⟩ : (0 : Int) = sub ∧ false = ok ∧ st = st' := by simpa using h0
      clear h0
      go_wp2_with (first
       | (go_at_call 63; (with_reducible refine (octet_Get.calls 8 (NTWO g7 g8) A c b 1 r1 r2 r3 wr HV.out E1.out).mono ?_); rintro e w1 ⟨v1, rfl, hV1, hb1⟩; obtain ⟨A1, c1, rfl⟩ := Kd.V_slice hV1; have HV1 := Aside0.mk (two_back (b' := w1.heap.size) HC.out hV1); have HC1 := Aside0.mk (HC.out.below hb1); have HK1 := Aside0.mk (HK.out.below hb1); clear hV1 hb1)
       | (go_at_call 63; (with_reducible refine (octet_Get.calls 8 (NTWO g7 g8) A1 c1 r2 1 s1 s2 _ w1 HV1.out E2.out).mono ?_); rintro e w2 ⟨v2, rfl, hV2, hb2⟩; obtain ⟨A2, c2, rfl⟩ := Kd.V_slice hV2; have HV2 := Aside0.mk (two_back (b' := w2.heap.size) HC1.out hV2); have HC2 := Aside0.mk (HC1.out.below hb2); have HK2 := Aside0.mk (HK1.out.below hb2); clear hV2 hb2)
       | (go_at_call 67; (with_reducible refine (octet_Take.calls (NTWO g7 g8) A2 c2 s2 s1 t1 t2 _ w2 HV2.out E3.out).mono ?_); rintro e w3 ⟨v3, v4, rfl, hV3, hV4, hb3⟩; obtain ⟨A3, c3, rfl⟩ := Kd.V_slice hV3; obtain ⟨A4, c4, rfl⟩ := Kd.V_slice hV4; have HV3 := Aside0.mk (two_back (b' := w3.heap.size) HC2.out hV3); have HV4 := Aside0.mk (two_back (b' := w3.heap.size) HC2.out hV4); have HC3 := Aside0.mk (HC2.out.below hb3); have HK3 := Aside0.mk (HK2.out.below hb3); clear hV3 hV4 hb3))
      go_ret2
      exact ⟨rfl, HC3.out, HK3.out⟩
     ·
      rw [if_pos rfl] at h0
      obtain ⟨⟨sub1, ok1, st1⟩, e4, h0⟩ := Option.bind_eq_some_iff.mp h0
      have E4 := Aside0.mk e4
      clear e4
      dsimp only at h0
      cases ok1
      ·
       rw [if_neg (by decide)] at h0
       obtain ⟨rfl, rfl, rfl⟩ : sub1 = sub ∧ false = ok ∧ st1 = st' := by simpa using h0
       clear h0
       go_wp2_with (first
        | (go_at_call 63; (with_reducible refine (octet_Get.calls 8 (NTWO g7 g8) A c b 1 r1 r2 r3 wr HV.out E1.out).mono ?_); rintro e w1 ⟨v1, rfl, hV1, hb1⟩; obtain ⟨A1, c1, rfl⟩ := Kd.V_slice hV1; have HV1 := Aside0.mk (two_back (b' := w1.heap.size) HC.out hV1); have HC1 := Aside0.mk (HC.out.below hb1); have HK1 := Aside0.mk (HK.out.below hb1); clear hV1 hb1)
        | (go_at_call 63; (with_reducible refine (octet_Get.calls 8 (NTWO g7 g8) A1 c1 r2 1 s1 s2 _ w1 HV1.out E2.out).mono ?_); rintro e w2 ⟨v2, rfl, hV2, hb2⟩; obtain ⟨A2, c2, rfl⟩ := Kd.V_slice hV2; have HV2 := Aside0.mk (two_back (b' := w2.heap.size) HC1.out hV2); have HC2 := Aside0.mk (HC1.out.below hb2); have HK2 := Aside0.mk (HK1.out.below hb2); clear hV2 hb2)
        | (go_at_call 67; (with_reducible refine (octet_Take.calls (NTWO g7 g8) A2 c2 s2 s1 t1 t2 _ w2 HV2.out E3.out).mono ?_); rintro e w3 ⟨v3, v4, rfl, hV3, hV4, hb3⟩; obtain ⟨A3, c3, rfl⟩ := Kd.V_slice hV3; obtain ⟨A4, c4, rfl⟩ := Kd.V_slice hV4; have HV3 := Aside0.mk (two_back (b' := w3.heap.size) HC2.out hV3); have HV4 := Aside0.mk (two_back (b' := w3.heap.size) HC2.out hV4); have HC3 := Aside0.mk (HC2.out.below hb3); have HK3 := Aside0.mk (HK2.out.below hb3); clear hV3 hV4 hb3)
        | ((with_reducible refine (HP.out st r1 A3 c3 t1 sub1 _ st1 w3 E4.out HC3.out HV3.out).mono ?_); rintro e w4 ⟨rfl, hC4, hk4⟩; have HC4 := Aside0.mk hC4; have HK4 := Aside0.mk (HK3.out.then_ hk4); have HV5 := Aside0.mk (show Kd.V (Kd.int .u8) 5 w4 w4.heap.size (NTWO g7 g8) (.slice A4 t2.length c4) t2 from Kd.V_kept (base := w4.heap.size) HV4.out hk4.1 (fun _ h => h)); clear hC4 hk4))
       go_ret2
       exact ⟨rfl, HC4.out, HK4.out⟩
      ·
       rw [if_pos rfl] at h0
       have H5 := Aside0.mk h0
       clear h0
       go_wp2_with (first
        | (go_at_call 63; (with_reducible refine (octet_Get.calls 8 (NTWO g7 g8) A c b 1 r1 r2 r3 wr HV.out E1.out).mono ?_); rintro e w1 ⟨v1, rfl, hV1, hb1⟩; obtain ⟨A1, c1, rfl⟩ := Kd.V_slice hV1; have HV1 := Aside0.mk (two_back (b' := w1.heap.size) HC.out hV1); have HC1 := Aside0.mk (HC.out.below hb1); have HK1 := Aside0.mk (HK.out.below hb1); clear hV1 hb1)
        | (go_at_call 63; (with_reducible refine (octet_Get.calls 8 (NTWO g7 g8) A1 c1 r2 1 s1 s2 _ w1 HV1.out E2.out).mono ?_); rintro e w2 ⟨v2, rfl, hV2, hb2⟩; obtain ⟨A2, c2, rfl⟩ := Kd.V_slice hV2; have HV2 := Aside0.mk (two_back (b' := w2.heap.size) HC1.out hV2); have HC2 := Aside0.mk (HC1.out.below hb2); have HK2 := Aside0.mk (HK1.out.below hb2); clear hV2 hb2)
        | (go_at_call 67; (with_reducible refine (octet_Take.calls (NTWO g7 g8) A2 c2 s2 s1 t1 t2 _ w2 HV2.out E3.out).mono ?_); rintro e w3 ⟨v3, v4, rfl, hV3, hV4, hb3⟩; obtain ⟨A3, c3, rfl⟩ := Kd.V_slice hV3; obtain ⟨A4, c4, rfl⟩ := Kd.V_slice hV4; have HV3 := Aside0.mk (two_back (b' := w3.heap.size) HC2.out hV3); have HV4 := Aside0.mk (two_back (b' := w3.heap.size) HC2.out hV4); have HC3 := Aside0.mk (HC2.out.below hb3); have HK3 := Aside0.mk (HK2.out.below hb3); clear hV3 hV4 hb3)
        | ((with_reducible refine (HP.out st r1 A3 c3 t1 sub1 _ st1 w3 E4.out HC3.out HV3.out).mono ?_); rintro e w4 ⟨rfl, hC4, hk4⟩; have HC4 := Aside0.mk hC4; have HK4 := Aside0.mk (HK3.out.then_ hk4); have HV5 := Aside0.mk (show Kd.V (Kd.int .u8) 5 w4 w4.heap.size (NTWO g7 g8) (.slice A4 t2.length c4) t2 from Kd.V_kept (base := w4.heap.size) HV4.out hk4.1 (fun _ h => h)); clear hC4 hk4))
       go_roundg k1
       case measure => omega
       case rel => exact ⟨A4, c4, t2, st1, rfl, H5, HC4, HV5, HK4⟩
   ·
    have c1 : b.length = 0 := by omega
    rw [if_neg hb] at h0
    obtain ⟨rfl, rfl, rfl⟩ : (0 : Int) = sub ∧ true = ok ∧ st = st' := by simpa using h0
    clear h0 hb
    go_wp2
    go_ret2
    exact ⟨rfl, HC.out, HK.out⟩
def open1 (st : Int × Int) (code : Int) (b : List Int) : Option (Int × Bool × (Int × Int)) :=
 if (code = 65 ∧ (b.length : Int) ≠ 4) ∨ (code = 9 ∧ (b.length : Int) ≠ 1) then some (0, false, st)
 else if code = 65 ∧ st.1 < 0 then (octet_Get.f 8 b 4).bind fun g => some (0, true, (g.1, st.2))
 else if code = 9 ∧ 0 ≤ st.2 ∧ st.2 ≠ wrap64 (rd b 0) then some (11, false, st)
 else if code = 9 then some (0, true, (st.1, wrap64 (rd b 0)))
 else some (0, true, st)
set_option maxHeartbeats 8000000 in
set_option maxRecDepth 100000 in
theorem open1_bad4 (g7 g8 : Nat) (hne : g7 ≠ g8) (lg rl code : Int) (A : Option Addr) (c : Nat) (x : List Int) (w : World) (h1 : code = 65) (h2 : (x.length : Int) ≠ 4) (hC : CAP g7 g8 (lg, rl) w) (hV : Kd.V (Kd.int .u8) 5 w w.heap.size (NTWO g7 g8) (.slice A x.length c) x) :
  Calls Tryd.prog 62 #[.int .i64 code, .slice A x.length c, .pointer (some ⟨g7, 0, none⟩), .pointer (some ⟨g8, 0, none⟩)] w fun e w' => e = .returned (.tuple #[.int .i64 0, .bool false]) ∧ CAP g7 g8 (lg, rl) w' ∧ Kep g7 g8 w w' := by
 have HC := Aside0.mk hC
 have HV := Aside0.mk hV
 have x0 : w.cell? ⟨g7, 0, none⟩ = some (.int .i64 lg) := (blk_cell hC.1 0).trans rfl
 have x1 : w.cell? ⟨g8, 0, none⟩ = some (.int .i64 rl) := (blk_cell hC.2 0).trans rfl
 have y0 : w.frozen? ⟨g7, 0, none⟩ = false := blk_frozen hC.1 0
 have y1 : w.frozen? ⟨g8, 0, none⟩ = false := blk_frozen hC.2 0
 have HN := Aside0.mk hne
 clear hC hV hne
 subst h1
 have d1 : (x.length == 4) = false := by simp; omega
 have d2 : ((x.length : Int) == 4) = false := by simp; omega
 go_enter Tryd.func62, Tryd.ntmps62
 go_wp2
 go_ret2
 exact ⟨rfl, HC.out, Kep.refl⟩
set_option maxHeartbeats 8000000 in
set_option maxRecDepth 100000 in
theorem open1_bad1 (g7 g8 : Nat) (hne : g7 ≠ g8) (lg rl code : Int) (A : Option Addr) (c : Nat) (x : List Int) (w : World) (h1 : code = 9) (h2 : (x.length : Int) ≠ 1) (hC : CAP g7 g8 (lg, rl) w) (hV : Kd.V (Kd.int .u8) 5 w w.heap.size (NTWO g7 g8) (.slice A x.length c) x) :
  Calls Tryd.prog 62 #[.int .i64 code, .slice A x.length c, .pointer (some ⟨g7, 0, none⟩), .pointer (some ⟨g8, 0, none⟩)] w fun e w' => e = .returned (.tuple #[.int .i64 0, .bool false]) ∧ CAP g7 g8 (lg, rl) w' ∧ Kep g7 g8 w w' := by
 have HC := Aside0.mk hC
 have HV := Aside0.mk hV
 have x0 : w.cell? ⟨g7, 0, none⟩ = some (.int .i64 lg) := (blk_cell hC.1 0).trans rfl
 have x1 : w.cell? ⟨g8, 0, none⟩ = some (.int .i64 rl) := (blk_cell hC.2 0).trans rfl
 have y0 : w.frozen? ⟨g7, 0, none⟩ = false := blk_frozen hC.1 0
 have y1 : w.frozen? ⟨g8, 0, none⟩ = false := blk_frozen hC.2 0
 have HN := Aside0.mk hne
 clear hC hV hne
 subst h1
 have d1 : (x.length == 1) = false := by simp; omega
 have d2 : ((x.length : Int) == 1) = false := by simp; omega
 go_enter Tryd.func62, Tryd.ntmps62
 go_wp2
 go_ret2
 exact ⟨rfl, HC.out, Kep.refl⟩
set_option maxHeartbeats 8000000 in
set_option maxRecDepth 100000 in
theorem open1_as (g7 g8 : Nat) (hne : g7 ≠ g8) (lg rl code : Int) (A : Option Addr) (c : Nat) (x : List Int) (w : World) (h1 : code = 65) (h2 : (x.length : Int) = 4) (h3 : lg < 0) (v : Int) (rr : List Int) (ok : Bool) (hg : octet_Get.f 8 x 4 = some (v, rr, ok)) (hC : CAP g7 g8 (lg, rl) w) (hV : Kd.V (Kd.int .u8) 5 w w.heap.size (NTWO g7 g8) (.slice A x.length c) x) :
  Calls Tryd.prog 62 #[.int .i64 code, .slice A x.length c, .pointer (some ⟨g7, 0, none⟩), .pointer (some ⟨g8, 0, none⟩)] w fun e w' => e = .returned (.tuple #[.int .i64 0, .bool true]) ∧ CAP g7 g8 (v, rl) w' ∧ Kep g7 g8 w w' := by
 have HC := Aside0.mk hC
 have HV := Aside0.mk hV
 have x0 : w.cell? ⟨g7, 0, none⟩ = some (.int .i64 lg) := (blk_cell hC.1 0).trans rfl
 have x1 : w.cell? ⟨g8, 0, none⟩ = some (.int .i64 rl) := (blk_cell hC.2 0).trans rfl
 have y0 : w.frozen? ⟨g7, 0, none⟩ = false := blk_frozen hC.1 0
 have y1 : w.frozen? ⟨g8, 0, none⟩ = false := blk_frozen hC.2 0
 have HN := Aside0.mk hne
 clear hC hV hne
 subst h1
 have h2' : x.length = 4 := by omega
 have hc0 := octet_Get.calls 8 (NTWO g7 g8) A c x 4 v rr ok w HV.out hg
 rw [h2'] at hc0
 have HG := Aside0.mk hc0
 clear hc0
 have d3 : decide (lg < 0) = true := decide_eq_true h3
 clear hg h2
 go_enter Tryd.func62, Tryd.ntmps62
 go_wp2_with (first
  | (go_at_call 63; (with_reducible refine HG.out.mono ?_); rintro e w1 ⟨v1, rfl, hV1, hb1⟩; obtain ⟨A1, c1, rfl⟩ := Kd.V_slice hV1; have HC1 := Aside0.mk (HC.out.below hb1); have hk := Aside0.mk ((Kep.refl (g7 := g7) (g8 := g8)).below hb1); have y0 := (blk_cell HC1.out.1 0).trans rfl; have y1 : w1.frozen? ⟨g7, 0, none⟩ = false := blk_frozen HC1.out.1 0; clear hV1 hb1))
 go_ret2
 exact ⟨rfl, ⟨blk_put HC1.out.1 0 _ rfl, blk_far HC1.out.2 (p := ⟨g7, 0, none⟩) (fun h => HN.out h.symm) _⟩, hk.out.setCell (.inl rfl) _⟩
set_option maxHeartbeats 8000000 in
set_option maxRecDepth 100000 in
theorem open1_as2 (g7 g8 : Nat) (hne : g7 ≠ g8) (lg rl code : Int) (A : Option Addr) (c : Nat) (x : List Int) (w : World) (h1 : code = 65) (h2 : (x.length : Int) = 4) (h3 : 0 ≤ lg) (hC : CAP g7 g8 (lg, rl) w) (hV : Kd.V (Kd.int .u8) 5 w w.heap.size (NTWO g7 g8) (.slice A x.length c) x) :
  Calls Tryd.prog 62 #[.int .i64 code, .slice A x.length c, .pointer (some ⟨g7, 0, none⟩), .pointer (some ⟨g8, 0, none⟩)] w fun e w' => e = .returned (.tuple #[.int .i64 0, .bool true]) ∧ CAP g7 g8 (lg, rl) w' ∧ Kep g7 g8 w w' := by
 have HC := Aside0.mk hC
 have HV := Aside0.mk hV
 have x0 : w.cell? ⟨g7, 0, none⟩ = some (.int .i64 lg) := (blk_cell hC.1 0).trans rfl
 have x1 : w.cell? ⟨g8, 0, none⟩ = some (.int .i64 rl) := (blk_cell hC.2 0).trans rfl
 have y0 : w.frozen? ⟨g7, 0, none⟩ = false := blk_frozen hC.1 0
 have y1 : w.frozen? ⟨g8, 0, none⟩ = false := blk_frozen hC.2 0
 have HN := Aside0.mk hne
 clear hC hV hne
 subst h1
 have h2' : x.length = 4 := by omega
 have d3 : decide (lg < 0) = false := decide_eq_false (by omega)
 clear h2
 go_enter Tryd.func62, Tryd.ntmps62
 go_wp2
 go_quiet (fail)
 go_wp2
 go_ret2
 exact ⟨rfl, ⟨blk_drewN HC.out.1 _, blk_drewN HC.out.2 _⟩, Kep.refl.drewN _⟩
set_option maxHeartbeats 8000000 in
set_option maxRecDepth 100000 in
theorem open1_other (g7 g8 : Nat) (hne : g7 ≠ g8) (lg rl code : Int) (A : Option Addr) (c : Nat) (x : List Int) (w : World) (h1 : code ≠ 65) (h2 : code ≠ 9) (hC : CAP g7 g8 (lg, rl) w) (hV : Kd.V (Kd.int .u8) 5 w w.heap.size (NTWO g7 g8) (.slice A x.length c) x) :
  Calls Tryd.prog 62 #[.int .i64 code, .slice A x.length c, .pointer (some ⟨g7, 0, none⟩), .pointer (some ⟨g8, 0, none⟩)] w fun e w' => e = .returned (.tuple #[.int .i64 0, .bool true]) ∧ CAP g7 g8 (lg, rl) w' ∧ Kep g7 g8 w w' := by
 have HC := Aside0.mk hC
 have HV := Aside0.mk hV
 have x0 : w.cell? ⟨g7, 0, none⟩ = some (.int .i64 lg) := (blk_cell hC.1 0).trans rfl
 have x1 : w.cell? ⟨g8, 0, none⟩ = some (.int .i64 rl) := (blk_cell hC.2 0).trans rfl
 have y0 : w.frozen? ⟨g7, 0, none⟩ = false := blk_frozen hC.1 0
 have y1 : w.frozen? ⟨g8, 0, none⟩ = false := blk_frozen hC.2 0
 have HN := Aside0.mk hne
 clear hC hV hne
 have d4 : (code == 65) = false := by simp [h1]
 have d5 : (code == 9) = false := by simp [h2]
 go_enter Tryd.func62, Tryd.ntmps62
 go_wp2
 go_quiet (fail)
 go_wp2
 go_ret2
 exact ⟨rfl, ⟨blk_drewN HC.out.1 _, blk_drewN HC.out.2 _⟩, Kep.refl.drewN _⟩
set_option maxHeartbeats 8000000 in
set_option maxRecDepth 100000 in
theorem open1_role0 (g7 g8 : Nat) (hne : g7 ≠ g8) (lg rl code : Int) (A : Option Addr) (c : Nat) (x : List Int) (w : World) (h1 : code = 9) (h2 : (x.length : Int) = 1) (h3 : rl < 0) (hC : CAP g7 g8 (lg, rl) w) (hV : Kd.V (Kd.int .u8) 5 w w.heap.size (NTWO g7 g8) (.slice A x.length c) x) :
  Calls Tryd.prog 62 #[.int .i64 code, .slice A x.length c, .pointer (some ⟨g7, 0, none⟩), .pointer (some ⟨g8, 0, none⟩)] w fun e w' => e = .returned (.tuple #[.int .i64 0, .bool true]) ∧ CAP g7 g8 (lg, wrap64 (rd x 0)) w' ∧ Kep g7 g8 w w' := by
 subst h1
 have h2' : x.length = 1 := by omega
 obtain ⟨ad, e1, z0⟩ := Kd.at_int (Kd.V_reads' hV).2.2 (0 : Int) (by omega) (by omega)
 subst e1
 rw [Int.toNat_zero, Addr.add_zero'] at z0
 have HC := Aside0.mk hC
 have HV := Aside0.mk hV
 have x0 : w.cell? ⟨g7, 0, none⟩ = some (.int .i64 lg) := (blk_cell hC.1 0).trans rfl
 have x1 : w.cell? ⟨g8, 0, none⟩ = some (.int .i64 rl) := (blk_cell hC.2 0).trans rfl
 have y0 : w.frozen? ⟨g7, 0, none⟩ = false := blk_frozen hC.1 0
 have y1 : w.frozen? ⟨g8, 0, none⟩ = false := blk_frozen hC.2 0
 have HN := Aside0.mk hne
 clear hC hV hne
 have d3 : decide (rl ≥ 0) = false := decide_eq_false (by omega)
 have d4 : decide (0 ≤ rl) = false := decide_eq_false (by omega)
 go_enter Tryd.func62, Tryd.ntmps62
 go_wp2
 go_quiet (fail)
 go_wp2
 go_ret2
 exact ⟨rfl, ⟨blk_far (blk_drewN HC.out.1 _) (p := ⟨g8, 0, none⟩) (fun h => HN.out h) _, blk_put (blk_drewN HC.out.2 _) 0 _ rfl⟩, (Kep.refl.drewN _).setCell (.inr rfl) _⟩
set_option maxHeartbeats 8000000 in
set_option maxRecDepth 100000 in
theorem open1_role1 (g7 g8 : Nat) (hne : g7 ≠ g8) (lg rl code : Int) (A : Option Addr) (c : Nat) (x : List Int) (w : World) (h1 : code = 9) (h2 : (x.length : Int) = 1) (h3 : 0 ≤ rl) (h4 : rl ≠ wrap64 (rd x 0)) (hC : CAP g7 g8 (lg, rl) w) (hV : Kd.V (Kd.int .u8) 5 w w.heap.size (NTWO g7 g8) (.slice A x.length c) x) :
  Calls Tryd.prog 62 #[.int .i64 code, .slice A x.length c, .pointer (some ⟨g7, 0, none⟩), .pointer (some ⟨g8, 0, none⟩)] w fun e w' => e = .returned (.tuple #[.int .i64 11, .bool false]) ∧ CAP g7 g8 (lg, rl) w' ∧ Kep g7 g8 w w' := by
 subst h1
 have h2' : x.length = 1 := by omega
 obtain ⟨ad, e1, z0⟩ := Kd.at_int (Kd.V_reads' hV).2.2 (0 : Int) (by omega) (by omega)
 subst e1
 rw [Int.toNat_zero, Addr.add_zero'] at z0
 have HC := Aside0.mk hC
 have HV := Aside0.mk hV
 have x0 : w.cell? ⟨g7, 0, none⟩ = some (.int .i64 lg) := (blk_cell hC.1 0).trans rfl
 have x1 : w.cell? ⟨g8, 0, none⟩ = some (.int .i64 rl) := (blk_cell hC.2 0).trans rfl
 have y0 : w.frozen? ⟨g7, 0, none⟩ = false := blk_frozen hC.1 0
 have y1 : w.frozen? ⟨g8, 0, none⟩ = false := blk_frozen hC.2 0
 have HN := Aside0.mk hne
 clear hC hV hne
 have d3 : decide (0 ≤ rl) = true := decide_eq_true (by omega)
 have d5 : (rl == wrap64 (rd x 0)) = false := by simp [h4]
 have d6 : (rl != wrap64 (rd x 0)) = true := by simp [h4]
 go_enter Tryd.func62, Tryd.ntmps62
 go_wp2
 go_quiet (fail)
 go_wp2
 go_ret2
 exact ⟨rfl, ⟨blk_drewN HC.out.1 _, blk_drewN HC.out.2 _⟩, Kep.refl.drewN _⟩
set_option maxHeartbeats 8000000 in
set_option maxRecDepth 100000 in
theorem open1_role2 (g7 g8 : Nat) (hne : g7 ≠ g8) (lg rl code : Int) (A : Option Addr) (c : Nat) (x : List Int) (w : World) (h1 : code = 9) (h2 : (x.length : Int) = 1) (h3 : 0 ≤ rl) (h4 : rl = wrap64 (rd x 0)) (hC : CAP g7 g8 (lg, rl) w) (hV : Kd.V (Kd.int .u8) 5 w w.heap.size (NTWO g7 g8) (.slice A x.length c) x) :
  Calls Tryd.prog 62 #[.int .i64 code, .slice A x.length c, .pointer (some ⟨g7, 0, none⟩), .pointer (some ⟨g8, 0, none⟩)] w fun e w' => e = .returned (.tuple #[.int .i64 0, .bool true]) ∧ CAP g7 g8 (lg, wrap64 (rd x 0)) w' ∧ Kep g7 g8 w w' := by
 subst h1
 have h2' : x.length = 1 := by omega
 obtain ⟨ad, e1, z0⟩ := Kd.at_int (Kd.V_reads' hV).2.2 (0 : Int) (by omega) (by omega)
 subst e1
 rw [Int.toNat_zero, Addr.add_zero'] at z0
 have HC := Aside0.mk hC
 have HV := Aside0.mk hV
 have x0 : w.cell? ⟨g7, 0, none⟩ = some (.int .i64 lg) := (blk_cell hC.1 0).trans rfl
 have x1 : w.cell? ⟨g8, 0, none⟩ = some (.int .i64 rl) := (blk_cell hC.2 0).trans rfl
 have y0 : w.frozen? ⟨g7, 0, none⟩ = false := blk_frozen hC.1 0
 have y1 : w.frozen? ⟨g8, 0, none⟩ = false := blk_frozen hC.2 0
 have HN := Aside0.mk hne
 clear hC hV hne
 have d3 : decide (0 ≤ rl) = true := decide_eq_true (by omega)
 have d5 : (rl == wrap64 (rd x 0)) = true := by simp [h4]
 have d6 : (rl != wrap64 (rd x 0)) = false := by simp [h4]
 clear h4
 go_enter Tryd.func62, Tryd.ntmps62
 go_wp2
 go_quiet (fail)
 go_wp2
 go_ret2
 exact ⟨rfl, ⟨blk_far (blk_drewN HC.out.1 _) (p := ⟨g8, 0, none⟩) (fun h => HN.out h) _, blk_put (blk_drewN HC.out.2 _) 0 _ rfl⟩, (Kep.refl.drewN _).setCell (.inr rfl) _⟩
theorem open1_calls (g7 g8 : Nat) (hne : g7 ≠ g8) (st : Int × Int) (code : Int) (A : Option Addr) (c : Nat) (x : List Int) (sub : Int) (ok : Bool) (st' : Int × Int) (w : World) (h : open1 st code x = some (sub, ok, st')) (hC : CAP g7 g8 st w) (hV : Kd.V (Kd.int .u8) 5 w w.heap.size (NTWO g7 g8) (.slice A x.length c) x) :
  Calls Tryd.prog 62 #[.int .i64 code, .slice A x.length c, .pointer (some ⟨g7, 0, none⟩), .pointer (some ⟨g8, 0, none⟩)] w fun e w' => e = .returned (.tuple #[.int .i64 sub, .bool ok]) ∧ CAP g7 g8 st' w' ∧ Kep g7 g8 w w' := by
 obtain ⟨lg, rl⟩ := st
 unfold open1 at h
 by_cases c1 : (code = 65 ∧ (x.length : Int) ≠ 4) ∨ (code = 9 ∧ (x.length : Int) ≠ 1)
 ·
  rw [if_pos c1] at h
  cases h
  rcases c1 with ⟨a, b⟩ | ⟨a, b⟩
  ·
   exact open1_bad4 g7 g8 hne lg rl code A c x w a b hC hV
  ·
   exact open1_bad1 g7 g8 hne lg rl code A c x w a b hC hV
 rw [if_neg c1] at h
 by_cases c2 : code = 65 ∧ lg < 0
 ·
  rw [if_pos c2] at h
  obtain ⟨⟨v, rr, ok1⟩, hg, h⟩ := Option.bind_eq_some_iff.mp h
  cases h
  exact open1_as g7 g8 hne lg rl code A c x w c2.1 (by have := c2.1; omega) c2.2 v rr ok1 hg hC hV
 rw [if_neg c2] at h
 by_cases c3 : code = 9 ∧ 0 ≤ rl ∧ rl ≠ wrap64 (rd x 0)
 ·
  rw [if_pos c3] at h
  cases h
  exact open1_role1 g7 g8 hne lg rl code A c x w c3.1 (by have := c3.1; omega) c3.2.1 c3.2.2 hC hV
 rw [if_neg c3] at h
 by_cases c4 : code = 9
 ·
  rw [if_pos c4] at h
  cases h
  by_cases c5 : rl < 0
  ·
   exact open1_role0 g7 g8 hne lg rl code A c x w c4 (by omega) c5 hC hV
  ·
   exact open1_role2 g7 g8 hne lg rl code A c x w c4 (by omega) (by omega) (by simp only [not_and, ne_eq, Decidable.not_not] at c3; exact c3 c4 (by omega)) hC hV
 rw [if_neg c4] at h
 cases h
 by_cases c6 : code = 65
 ·
  exact open1_as2 g7 g8 hne lg rl code A c x w c6 (by omega) (by omega) hC hV
 ·
  exact open1_other g7 g8 hne lg rl code A c x w c6 c4 hC hV
def open2 (st : Int × Int) (kind : Int) (b : List Int) : Option (Int × Bool × (Int × Int)) := if kind = 2 then eachG open1 5000 st b else some (4, false, st)
theorem hmf_ : ∀ (fn : Fn) (first cap : Array Value) (w : World), (Instr.makeFunc fn first cap).run Tryd.prog w = .ok (.func fn first cap) w := fun _ _ _ _ => rfl
set_option maxHeartbeats 8000000 in
set_option maxRecDepth 100000 in
theorem open2_calls (g7 g8 : Nat) (hne : g7 ≠ g8) (st : Int × Int) (kind : Int) (A : Option Addr) (c : Nat) (x : List Int) (sub : Int) (ok : Bool) (st' : Int × Int) (w : World) (h : open2 st kind x = some (sub, ok, st')) (hC : CAP g7 g8 st w) (hV : Kd.V (Kd.int .u8) 5 w w.heap.size (NTWO g7 g8) (.slice A x.length c) x) :
  Calls Tryd.prog 61 #[.int .i64 kind, .slice A x.length c, .pointer (some ⟨g7, 0, none⟩), .pointer (some ⟨g8, 0, none⟩)] w fun e w' => e = .returned (.tuple #[.int .i64 sub, .bool ok]) ∧ CAP g7 g8 st' w' ∧ Kep g7 g8 w w' := by
 unfold open2 at h
 by_cases c1 : kind = 2
 ·
  subst c1
  rw [if_pos rfl] at h
  have HE := Aside0.mk (each_calls open1 62 g7 g8 (fun args w => enters_ Tryd.func62 (by kernel_rfl) rfl args w) (open1_calls g7 g8 hne) 5000 st A c x sub ok st' w hC hV h)
  clear h hC hV hne
  have hmf := hmf_
  go_enter Tryd.func61, Tryd.ntmps61
  go_wp2_with (first
   | (go_at_call 60; (with_reducible refine HE.out.mono ?_); rintro e w1 ⟨rfl, hC1, hk1⟩; have HC1 := Aside0.mk hC1; have HK1 := Aside0.mk hk1; clear hC1 hk1))
  go_ret2
  exact ⟨rfl, HC1.out, HK1.out⟩
 ·
  rw [if_neg c1] at h
  cases h
  have HC := Aside0.mk hC
  have d1 : (kind == 2) = false := by simp [c1]
  clear hC hV hne
  go_enter Tryd.func61, Tryd.ntmps61
  go_wp2
  go_ret2
  exact ⟨rfl, HC.out, Kep.refl⟩
theorem store4 {w : World} {g t : Nat} {a b c d : Value} (h : w.heap[g]? = some (.cells #[a, b, c, d] t (0, 0))) (a' b' c' d' : Value) : ((((w.setCell ⟨g, 0, none⟩ a').setCell ⟨g, 1, none⟩ b').setCell ⟨g, 2, none⟩ c').setCell ⟨g, 3, none⟩ d').heap[g]? = some (.cells #[a', b', c', d'] t (0, 0)) := blk_put (blk_put (blk_put (blk_put h 0 a' rfl) 1 b' rfl) 2 c' rfl) 3 d' rfl
theorem store3 {w : World} {g t : Nat} {a b c : Value} (h : w.heap[g]? = some (.cells #[a, b, c] t (0, 0))) (a' b' c' : Value) : (((w.setCell ⟨g, 0, none⟩ a').setCell ⟨g, 1, none⟩ b').setCell ⟨g, 2, none⟩ c').heap[g]? = some (.cells #[a', b', c'] t (0, 0)) := blk_put (blk_put (blk_put h 0 a' rfl) 1 b' rfl) 2 c' rfl
theorem store4_far {w : World} {g g' t : Nat} {cs : Array Value} (h : w.heap[g']? = some (.cells cs t (0, 0))) (hn : g' ≠ g) (a' b' c' d' : Value) : ((((w.setCell ⟨g, 0, none⟩ a').setCell ⟨g, 1, none⟩ b').setCell ⟨g, 2, none⟩ c').setCell ⟨g, 3, none⟩ d').heap[g']? = some (.cells cs t (0, 0)) := blk_far (blk_far (blk_far (blk_far h (p := ⟨g, 0, none⟩) hn a') (p := ⟨g, 1, none⟩) hn b') (p := ⟨g, 2, none⟩) hn c') (p := ⟨g, 3, none⟩) hn d'
theorem store3_far {w : World} {g g' t : Nat} {cs : Array Value} (h : w.heap[g']? = some (.cells cs t (0, 0))) (hn : g' ≠ g) (a' b' c' : Value) : (((w.setCell ⟨g, 0, none⟩ a').setCell ⟨g, 1, none⟩ b').setCell ⟨g, 2, none⟩ c').heap[g']? = some (.cells cs t (0, 0)) := blk_far (blk_far (blk_far h (p := ⟨g, 0, none⟩) hn a') (p := ⟨g, 1, none⟩) hn b') (p := ⟨g, 2, none⟩) hn c'
/-- The world's cells at the results of open.Get. -/
def GOT (w w' : World) (t : Int) (A0 : Option Addr) (n c0 : Nat) : Prop := w'.heap[w.heap.size]? = some (.cells #[.int .i64 t, .slice A0 n c0] 45 (0, 0)) ∧ w'.heap[w.heap.size + 1]? = some (.cells #[.int .i64 0, .int .i64 0, .int .i64 0, .int .i64 0] 70 (0, 0)) ∧ w'.heap[w.heap.size + 2]? = some (.cells #[.int .i64 0, .int .i64 0, .slice none 0 0] 41 (0, 0)) ∧ Below w.heap.size w w'
theorem got0 (w w' : World) (t : Int) (A0 : Option Addr) (l0 : List Int) (c0 : Nat) (hb : Below (((w.alloc (Obj.cells #[.int .i64 t, .slice A0 l0.length c0] 45)).alloc (Obj.cells #[.int .i64 0, .int .i64 0, .int .i64 0, .int .i64 0] 70)).alloc (Obj.cells #[.int .i64 0, .int .i64 0, .slice none 0 0] 41)).heap.size (((w.alloc (Obj.cells #[.int .i64 t, .slice A0 l0.length c0] 45)).alloc (Obj.cells #[.int .i64 0, .int .i64 0, .int .i64 0, .int .i64 0] 70)).alloc (Obj.cells #[.int .i64 0, .int .i64 0, .slice none 0 0] 41)) w') : GOT w w' t A0 l0.length c0 := by
 have e1 : (w.alloc (Obj.cells #[.int .i64 t, .slice A0 l0.length c0] 45)).heap.size = w.heap.size + 1 := by simp only [World.alloc, Array.size_push]
 have e2 : ((w.alloc (Obj.cells #[.int .i64 t, .slice A0 l0.length c0] 45)).alloc (Obj.cells #[.int .i64 0, .int .i64 0, .int .i64 0, .int .i64 0] 70)).heap.size = w.heap.size + 2 := by simp only [World.alloc, Array.size_push]
 have h1 := blk_below (blk_alloc (blk_alloc (heap_alloc_new w _) _) _) hb
 have h2 := blk_below (blk_alloc (heap_alloc_new (w.alloc _) _) _) hb
 have h3 := blk_below (heap_alloc_new ((w.alloc _).alloc _) _) hb
 rw [e1] at h2
 rw [e2] at h3
 exact ⟨h1, h2, h3, below_step (below_alloc (below_alloc (below_alloc (Below.refl _ _) _) _) _) hb⟩
theorem GOT.cells {w w' : World} {t : Int} {A0 : Option Addr} {n c0 : Nat} (h : GOT w w' t A0 n c0) :
  (w'.cell? ⟨w.heap.size, 0, none⟩ = some (.int .i64 t) ∧ w'.cell? ⟨w.heap.size, 1, none⟩ = some (.slice A0 n c0)) ∧
  (w'.cell? ⟨w.heap.size + 1, 0, none⟩ = some (.int .i64 0) ∧ w'.cell? ⟨w.heap.size + 1, 1, none⟩ = some (.int .i64 0) ∧ w'.cell? ⟨w.heap.size + 1, 2, none⟩ = some (.int .i64 0) ∧ w'.cell? ⟨w.heap.size + 1, 3, none⟩ = some (.int .i64 0)) ∧
  (w'.cell? ⟨w.heap.size + 2, 0, none⟩ = some (.int .i64 0) ∧ w'.cell? ⟨w.heap.size + 2, 1, none⟩ = some (.int .i64 0) ∧ w'.cell? ⟨w.heap.size + 2, 2, none⟩ = some (.slice none 0 0)) ∧
  (w'.frozen? ⟨w.heap.size + 1, 0, none⟩ = false ∧ w'.frozen? ⟨w.heap.size + 1, 1, none⟩ = false ∧ w'.frozen? ⟨w.heap.size + 1, 2, none⟩ = false ∧ w'.frozen? ⟨w.heap.size + 1, 3, none⟩ = false) ∧
  (w'.frozen? ⟨w.heap.size + 2, 0, none⟩ = false ∧ w'.frozen? ⟨w.heap.size + 2, 1, none⟩ = false ∧ w'.frozen? ⟨w.heap.size + 2, 2, none⟩ = false) := by
 obtain ⟨h1, h2, h3, -⟩ := h
 exact ⟨⟨(blk_cell h1 0).trans rfl, (blk_cell h1 1).trans rfl⟩, ⟨(blk_cell h2 0).trans rfl, (blk_cell h2 1).trans rfl, (blk_cell h2 2).trans rfl, (blk_cell h2 3).trans rfl⟩, ⟨(blk_cell h3 0).trans rfl, (blk_cell h3 1).trans rfl, (blk_cell h3 2).trans rfl⟩, ⟨blk_frozen h2 0, blk_frozen h2 1, blk_frozen h2 2, blk_frozen h2 3⟩, ⟨blk_frozen h3 0, blk_frozen h3 1, blk_frozen h3 2⟩⟩
theorem fin7 {w wb : World} {g4 g5 b0 : Nat} {ok : Nat → Prop} {v : Value} {xs : List Int} (hV : Kd.V (Kd.int .u8) 5 wb b0 ok v xs) (hok : ∀ k, ok k → k ≠ g4 ∧ k ≠ g5 ∧ w.heap.size ≤ k) (hB : Below w.heap.size w wb) (h4 : w.heap.size ≤ g4) (h5 : w.heap.size ≤ g5) (a b c d x y z : Value) :
  Kd.V (Kd.int .u8) 5 (((((((wb.setCell ⟨g4, 0, none⟩ a).setCell ⟨g4, 1, none⟩ b).setCell ⟨g4, 2, none⟩ c).setCell ⟨g4, 3, none⟩ d).setCell ⟨g5, 0, none⟩ x).setCell ⟨g5, 1, none⟩ y).setCell ⟨g5, 2, none⟩ z) w.heap.size (fun k_ => (w.heap.size ≤ k_)) v xs ∧
  Below w.heap.size w (((((((wb.setCell ⟨g4, 0, none⟩ a).setCell ⟨g4, 1, none⟩ b).setCell ⟨g4, 2, none⟩ c).setCell ⟨g4, 3, none⟩ d).setCell ⟨g5, 0, none⟩ x).setCell ⟨g5, 1, none⟩ y).setCell ⟨g5, 2, none⟩ z) := by
 have k4 : ∀ k, ok k → k ≠ g4 := fun k h => (hok k h).1
 have k5 : ∀ k, ok k → k ≠ g5 := fun k h => (hok k h).2.1
 refine ⟨Kd.V_mono (base := w.heap.size) (Kd.V_far (p := ⟨g5, 2, none⟩) (Kd.V_far (p := ⟨g5, 1, none⟩) (Kd.V_far (p := ⟨g5, 0, none⟩) (Kd.V_far (p := ⟨g4, 3, none⟩) (Kd.V_far (p := ⟨g4, 2, none⟩) (Kd.V_far (p := ⟨g4, 1, none⟩) (Kd.V_far (p := ⟨g4, 0, none⟩) hV k4 a) k4 b) k4 c) k4 d) k5 x) k5 y) k5 z) (fun k hk => (hok k hk).2.2), ?_⟩
 exact set_below (g := g5) (j := 2) _ (set_below (g := g5) (j := 1) _ (set_below (g := g5) (j := 0) _ (set_below (g := g4) (j := 3) _ (set_below (g := g4) (j := 2) _ (set_below (g := g4) (j := 1) _ (set_below (g := g4) (j := 0) _ hB h4) h4) h4) h4) h5) h5) h5
theorem GOT.low {w w' : World} {t : Int} {A0 : Option Addr} {n c0 : Nat} (h : GOT w w' t A0 n c0) : Below w.heap.size w w' := h.2.2.2
theorem GOT.b4 {w w' : World} {t : Int} {A0 : Option Addr} {n c0 : Nat} (h : GOT w w' t A0 n c0) : w'.heap[w.heap.size + 1]? = some (.cells #[.int .i64 0, .int .i64 0, .int .i64 0, .int .i64 0] 70 (0, 0)) := h.2.1
theorem GOT.b5 {w w' : World} {t : Int} {A0 : Option Addr} {n c0 : Nat} (h : GOT w w' t A0 n c0) : w'.heap[w.heap.size + 2]? = some (.cells #[.int .i64 0, .int .i64 0, .slice none 0 0] 41 (0, 0)) := h.2.2.1
theorem GOT.below {w w1 w2 : World} {t : Int} {A0 : Option Addr} {n c0 : Nat} (h : GOT w w1 t A0 n c0) (hb : Below w1.heap.size w1 w2) : GOT w w2 t A0 n c0 := ⟨blk_below h.1 hb, blk_below h.2.1 hb, blk_below h.2.2.1 hb, below_step h.2.2.2 hb⟩
theorem GOT.kep {w w1 w3 : World} {t : Int} {A0 : Option Addr} {n c0 : Nat} {o1 o2 : Obj} (h : GOT w w1 t A0 n c0) (hk : Kep w1.heap.size (w1.heap.size + 1) ((w1.alloc o1).alloc o2) w3) : GOT w w3 t A0 n c0 := by
 have s1 := blk_lt h.1
 have s2 := blk_lt h.2.1
 have s3 := blk_lt h.2.2.1
 have h0 := below_size h.2.2.2
 exact ⟨blk_kept (blk_alloc (blk_alloc h.1 _) _) hk.1 (fun e => by rcases e with e | e <;> omega), blk_kept (blk_alloc (blk_alloc h.2.1 _) _) hk.1 (fun e => by rcases e with e | e <;> omega), blk_kept (blk_alloc (blk_alloc h.2.2.1 _) _) hk.1 (fun e => by rcases e with e | e <;> omega), hk.2 w h0 (by omega) (below_alloc (below_alloc h.2.2.2 _) _)⟩
theorem came_drop (w : World) (A0 : Option Addr) (c0 : Nat) (l0 : List Int) (j : Int) (hr0 : Kd.C (Kd.int .u8) w A0 l0.length l0) (hc0 : l0.length ≤ c0) (h0 : 0 ≤ j) (hm : j ≤ (l0.length : Int)) :
  ∃ A1, (∀ W' : World, (Instr.slice 39 (.slice A0 l0.length c0) (some (.int .i64 j)) none none).run Tryd.prog W' = .ok (.slice A1 (l0.length - j.toNat) (c0 - j.toNat)) W') ∧
   ∀ W : World, Below w.heap.size w W → Kd.V (Kd.int .u8) 5 W W.heap.size (fun k => k < w.heap.size) (.slice A1 (l0.drop j.toNat).length (c0 - j.toNat)) (l0.drop j.toNat) := by
 obtain ⟨i0, hi0, -, hsz, -⟩ := info_parts info5
 refine ⟨if c0 = j.toNat then A0 else A0.map (·.add (j.toNat * 1)), cut_from (P := Tryd.prog) 39 5 .i64 Tryd.underlying39 hi0 1 hsz A0 l0.length c0 j h0 hm, fun W hb => ?_⟩
 exact Kd.V_mk (by rw [List.length_drop]; omega) (Kd.F_cut (Kd.F_below (Kd.C_F (Kd.heap_int .u8) hr0) hb) (by omega) hc0)
theorem each_at (w w1 : World) (A10 : Option Addr) (c0 : Nat) (l0 : List Int) (sub : Int) (ok : Bool) (st : Int × Int) (hb : Below w.heap.size w w1)
  (hV : ∀ W : World, Below w.heap.size w W → Kd.V (Kd.int .u8) 5 W W.heap.size (fun k => k < w.heap.size) (.slice A10 (l0.drop 10).length (c0 - 10)) (l0.drop 10)) (h : eachG open2 5000 (-1, -1) (l0.drop 10) = some (sub, ok, st)) :
  Calls Tryd.prog 60 #[.slice A10 (l0.length - 10) (c0 - 10), .func (.func 61) #[] #[.pointer (some ⟨w1.heap.size, 0, none⟩), .pointer (some ⟨w1.heap.size + 1, 0, none⟩)]] ((w1.alloc (Obj.cells #[.int .i64 (-1)] 3)).alloc (Obj.cells #[.int .i64 (-1)] 3)) fun e w' =>
   e = .returned (.tuple #[.int .i64 sub, .bool ok]) ∧ CAP w1.heap.size (w1.heap.size + 1) st w' ∧ Kep w1.heap.size (w1.heap.size + 1) ((w1.alloc (Obj.cells #[.int .i64 (-1)] 3)).alloc (Obj.cells #[.int .i64 (-1)] 3)) w' := by
 have e1 : (w1.alloc (Obj.cells #[.int .i64 (-1)] 3)).heap.size = w1.heap.size + 1 := by simp only [World.alloc, Array.size_push]
 have h2 := heap_alloc_new (w1.alloc (Obj.cells #[.int .i64 (-1)] 3)) (Obj.cells #[.int .i64 (-1)] 3)
 rw [e1] at h2
 have s := below_size hb
 have hc := each_calls open2 61 w1.heap.size (w1.heap.size + 1) (fun args w => enters_ Tryd.func61 (by kernel_rfl) rfl args w) (open2_calls _ _ (by omega)) 5000 (-1, -1) A10 (c0 - 10) (l0.drop 10) sub ok st ((w1.alloc (Obj.cells #[.int .i64 (-1)] 3)).alloc (Obj.cells #[.int .i64 (-1)] 3)) ⟨blk_alloc (heap_alloc_new w1 _) _, h2⟩ (Kd.V_mono (base := ((w1.alloc (Obj.cells #[.int .i64 (-1)] 3)).alloc (Obj.cells #[.int .i64 (-1)] 3)).heap.size) (hV _ (below_alloc (below_alloc hb _) _)) (fun k hk e => by rcases e with e | e <;> omega)) h
 rw [List.length_drop] at hc
 exact hc
set_option maxHeartbeats 8000000 in
set_option maxRecDepth 100000 in
theorem open_Get.bad0a (t : Int) (A0 : Option Addr) (c0 : Nat) (l0 : List Int) (ax : Int) (w : World) (h1 : t ≠ 1) (hr0 : Kd.C (Kd.int .u8) w A0 l0.length l0) (hc0 : l0.length ≤ c0) :
  Calls Tryd.prog 50 #[.agg #[.int .i64 t, .slice A0 l0.length c0], .int .i64 ax] w fun e w' => ∃ v6_ : Value, e = .returned (.tuple #[.agg #[.int .i64 0, .int .i64 0, .int .i64 0, .int .i64 0], .agg #[.int .i64 2, .int .i64 0, v6_]]) ∧ Kd.V (Kd.int .u8) 5 w' w.heap.size (fun k_ => (w.heap.size ≤ k_)) v6_ [] ∧ Below w.heap.size w w' := by
 have HR0 := Aside0.mk hr0
 have HC0 := Aside0.mk hc0
 have HG0 := Aside0.mk (got0 w (((w.alloc (Obj.cells #[.int .i64 t, .slice A0 l0.length c0] 45)).alloc (Obj.cells #[.int .i64 0, .int .i64 0, .int .i64 0, .int .i64 0] 70)).alloc (Obj.cells #[.int .i64 0, .int .i64 0, .slice none 0 0] 41)) t A0 l0 c0 (Below.refl _ _))
 clear hr0 hc0
 have d1 : (t == 1) = false := by simp [h1]
 have d2 : (t != 1) = true := by simp [h1]
 go_enter Tryd.func50, Tryd.ntmps50
 go_wp2_with (first
  | (go_at_call 59; refine (open_bad.calls 0 (fun _ => False) none 0 [] 0 0 0 0 2 0 [] _ (Kd.V_nil _ _ _ _ _) rfl).mono ?_; rintro e wb ⟨v6, rfl, hV6, hbb⟩; obtain ⟨A6, c6, rfl⟩ := Kd.V_slice hV6; simp only [List.length_nil]; have HGT := Aside0.mk (HG0.out.below hbb); obtain ⟨⟨cm0, cm1⟩, ⟨ch0, ch1, ch2, ch3⟩, ⟨cn0, cn1, cn2⟩, ⟨fh0, fh1, fh2, fh3⟩, ⟨fn0, fn1, fn2⟩⟩ := HGT.out.cells; have HV6 := Aside0.mk hV6; clear hV6 hbb))
 refine bodyPost_ret (results_cc rfl _ _ (w.heap.size + 1) (w.heap.size + 2) 70 41 #[.int .i64 0, .int .i64 0, .int .i64 0, .int .i64 0] #[.int .i64 2, .int .i64 0, .slice A6 0 c6] (0, 0) (0, 0) _ _ rfl (store3_far (store4 HGT.out.b4 _ _ _ _) (by omega) _ _ _) Tryd.underlying70 rfl (by kernel_rfl) rfl (store3 (store4_far HGT.out.b5 (by omega) _ _ _ _) _ _ _) Tryd.underlying41 rfl (by kernel_rfl)) rfl ?_
 exact ⟨_, rfl, fin7 HV6.out (fun k hk => hk.elim (fun h => h.elim) (fun h => by have q1 := blk_lt HG0.out.b4; have q2 := blk_lt HG0.out.b5; omega)) HGT.out.low (by omega) (by omega) _ _ _ _ _ _ _⟩
set_option maxHeartbeats 8000000 in
set_option maxRecDepth 100000 in
theorem open_Get.bad0b (t : Int) (A0 : Option Addr) (c0 : Nat) (l0 : List Int) (ax : Int) (w : World) (h1 : t = 1) (hs : msg_Sane.f t l0 = some false) (hr0 : Kd.C (Kd.int .u8) w A0 l0.length l0) (hc0 : l0.length ≤ c0) :
  Calls Tryd.prog 50 #[.agg #[.int .i64 t, .slice A0 l0.length c0], .int .i64 ax] w fun e w' => ∃ v6_ : Value, e = .returned (.tuple #[.agg #[.int .i64 0, .int .i64 0, .int .i64 0, .int .i64 0], .agg #[.int .i64 2, .int .i64 0, v6_]]) ∧ Kd.V (Kd.int .u8) 5 w' w.heap.size (fun k_ => (w.heap.size ≤ k_)) v6_ [] ∧ Below w.heap.size w w' := by
 have HR0 := Aside0.mk hr0
 have HC0 := Aside0.mk hc0
 have HG0 := Aside0.mk (got0 w (((w.alloc (Obj.cells #[.int .i64 t, .slice A0 l0.length c0] 45)).alloc (Obj.cells #[.int .i64 0, .int .i64 0, .int .i64 0, .int .i64 0] 70)).alloc (Obj.cells #[.int .i64 0, .int .i64 0, .slice none 0 0] 41)) t A0 l0 c0 (Below.refl _ _))
 clear hr0 hc0
 have d1 : (t == 1) = true := by simp [h1]
 have d2 : (t != 1) = false := by simp [h1]
 have HS := Aside0.mk hs
 clear hs h1
 go_enter Tryd.func50, Tryd.ntmps50
 go_wp2_with (first
  | (go_at_call 15; (with_reducible refine (msg_Sane.calls t A0 c0 l0 false _ (Kd.C_alloc (Kd.C_alloc (Kd.C_alloc HR0.out _) _) _) HC0.out HS.out).mono ?_); rintro e w1 ⟨rfl, hb1⟩; have HG1 := Aside0.mk (got0 w w1 t A0 l0 c0 hb1); obtain ⟨⟨cm0, cm1⟩, ⟨ch0, ch1, ch2, ch3⟩, ⟨cn0, cn1, cn2⟩, ⟨fh0, fh1, fh2, fh3⟩, ⟨fn0, fn1, fn2⟩⟩ := HG1.out.cells; clear hb1)
  | (go_at_call 59; refine (open_bad.calls 0 (fun _ => False) none 0 [] 0 0 0 0 2 0 [] _ (Kd.V_nil _ _ _ _ _) rfl).mono ?_; rintro e wb ⟨v6, rfl, hV6, hbb⟩; obtain ⟨A6, c6, rfl⟩ := Kd.V_slice hV6; simp only [List.length_nil]; have HGT := Aside0.mk (HG1.out.below hbb); clear cm0 cm1 ch0 ch1 ch2 ch3 cn0 cn1 cn2 fh0 fh1 fh2 fh3 fn0 fn1 fn2; obtain ⟨⟨cm0, cm1⟩, ⟨ch0, ch1, ch2, ch3⟩, ⟨cn0, cn1, cn2⟩, ⟨fh0, fh1, fh2, fh3⟩, ⟨fn0, fn1, fn2⟩⟩ := HGT.out.cells; have HV6 := Aside0.mk hV6; clear hV6 hbb))
 refine bodyPost_ret (results_cc rfl _ _ (w.heap.size + 1) (w.heap.size + 2) 70 41 #[.int .i64 0, .int .i64 0, .int .i64 0, .int .i64 0] #[.int .i64 2, .int .i64 0, .slice A6 0 c6] (0, 0) (0, 0) _ _ rfl (store3_far (store4 HGT.out.b4 _ _ _ _) (by omega) _ _ _) Tryd.underlying70 rfl (by kernel_rfl) rfl (store3 (store4_far HGT.out.b5 (by omega) _ _ _ _) _ _ _) Tryd.underlying41 rfl (by kernel_rfl)) rfl ?_
 exact ⟨_, rfl, fin7 HV6.out (fun k hk => hk.elim (fun h => h.elim) (fun h => by have q1 := blk_lt HG1.out.b4; have q2 := blk_lt HG1.out.b5; omega)) HGT.out.low (by omega) (by omega) _ _ _ _ _ _ _⟩
set_option maxHeartbeats 8000000 in
set_option maxRecDepth 100000 in
theorem open_Get.bad1 (t : Int) (A0 : Option Addr) (c0 : Nat) (l0 : List Int) (ax : Int) (w : World) (h1 : t = 1) (hs : msg_Sane.f t l0 = some true) (hl : 10 ≤ l0.length) (hl2 : l0.length ≤ 5000) (p0 : 0 ≤ rd l0 9) (p1 : rd l0 9 < 256) (h4 : rd l0 0 ≠ 4) (hr0 : Kd.C (Kd.int .u8) w A0 l0.length l0) (hc0 : l0.length ≤ c0) :
  Calls Tryd.prog 50 #[.agg #[.int .i64 t, .slice A0 l0.length c0], .int .i64 ax] w fun e w' => ∃ v6_ : Value, e = .returned (.tuple #[.agg #[.int .i64 0, .int .i64 0, .int .i64 0, .int .i64 0], .agg #[.int .i64 2, .int .i64 1, v6_]]) ∧ Kd.V (Kd.int .u8) 5 w' w.heap.size (fun k_ => (w.heap.size ≤ k_)) v6_ [0, 4] ∧ Below w.heap.size w w' := by
 have HR0 := Aside0.mk hr0
 have HC0 := Aside0.mk hc0
 have HG0 := Aside0.mk (got0 w (((w.alloc (Obj.cells #[.int .i64 t, .slice A0 l0.length c0] 45)).alloc (Obj.cells #[.int .i64 0, .int .i64 0, .int .i64 0, .int .i64 0] 70)).alloc (Obj.cells #[.int .i64 0, .int .i64 0, .slice none 0 0] 41)) t A0 l0 c0 (Below.refl _ _))
 obtain ⟨ad, rfl, -⟩ := hr0.2.2 (by omega)
 have HZ : Aside0 (∀ W : World, Below w.heap.size w W → W.cell? ad = some (.int .u8 (rd l0 0)) ∧ W.cell? ⟨ad.block, ad.off + 9, none⟩ = some (.int .u8 (rd l0 9))) := ⟨fun W hb => by
  obtain ⟨ad1, e1, z0⟩ := Kd.at_int (Kd.C_below hr0 hb) (0 : Int) (by omega) (by omega)
  obtain ⟨ad2, e2, z9⟩ := Kd.at_int (Kd.C_below hr0 hb) (9 : Int) (by omega) (by omega)
  injection e1 with e1
  injection e2 with e2
  subst e1
  subst e2
  rw [Int.toNat_zero, Addr.add_zero'] at z0
  exact ⟨z0, z9⟩⟩
 clear hr0 hc0
 have q0 : (10 : Int) ≤ (l0.length : Int) := by omega
 have d1 : (t == 1) = true := by simp [h1]
 have d2 : (t != 1) = false := by simp [h1]
 have HS := Aside0.mk hs
 have q1 : (l0.length : Int) ≤ 5000 := by omega
 clear hs h1
 have d3 : (rd l0 0 == 4) = false := by simp [h4]
 have d4 : (rd l0 0 != 4) = true := by simp [h4]
 go_enter Tryd.func50, Tryd.ntmps50
 go_wp2_with (first
  | (go_at_call 15; (with_reducible refine (msg_Sane.calls t (some ad) c0 l0 true _ (Kd.C_alloc (Kd.C_alloc (Kd.C_alloc HR0.out _) _) _) HC0.out HS.out).mono ?_); rintro e w1 ⟨rfl, hb1⟩; have HG1 := Aside0.mk (got0 w w1 t (some ad) l0 c0 hb1); obtain ⟨⟨cm0, cm1⟩, ⟨ch0, ch1, ch2, ch3⟩, ⟨cn0, cn1, cn2⟩, ⟨fh0, fh1, fh2, fh3⟩, ⟨fn0, fn1, fn2⟩⟩ := HG1.out.cells; obtain ⟨z0, z9⟩ := HZ.out w1 HG1.out.low; clear hb1)
  | (go_at_call 59; refine (open_bad.calls 1 (fun k => k = w1.heap.size) (some ⟨w1.heap.size, 0, none⟩) 2 [0, 4] 0 0 0 0 2 1 [0, 4] _ (Kd.R_V (R_at8 (R_lit8 w1 w1.heap.size 5 (Nat.le_refl _) [0, 4] (by simp)))) rfl).mono ?_; rintro e wb ⟨v6, rfl, hV6, hbb⟩; obtain ⟨A6, c6, rfl⟩ := Kd.V_slice hV6; simp only [List.length_cons, List.length_nil, Nat.reduceAdd]; have HGT := Aside0.mk ((HG1.out.below (below_alloc (Below.refl _ _) _)).below hbb); clear cm0 cm1 ch0 ch1 ch2 ch3 cn0 cn1 cn2 fh0 fh1 fh2 fh3 fn0 fn1 fn2 z0 z9; obtain ⟨⟨cm0, cm1⟩, ⟨ch0, ch1, ch2, ch3⟩, ⟨cn0, cn1, cn2⟩, ⟨fh0, fh1, fh2, fh3⟩, ⟨fn0, fn1, fn2⟩⟩ := HGT.out.cells; have HV6 := Aside0.mk hV6; clear hV6 hbb))
 refine bodyPost_ret (results_cc rfl _ _ (w.heap.size + 1) (w.heap.size + 2) 70 41 #[.int .i64 0, .int .i64 0, .int .i64 0, .int .i64 0] #[.int .i64 2, .int .i64 1, .slice A6 2 c6] (0, 0) (0, 0) _ _ rfl (store3_far (store4 HGT.out.b4 _ _ _ _) (by omega) _ _ _) Tryd.underlying70 rfl (by kernel_rfl) rfl (store3 (store4_far HGT.out.b5 (by omega) _ _ _ _) _ _ _) Tryd.underlying41 rfl (by kernel_rfl)) rfl ?_
 exact ⟨_, rfl, fin7 HV6.out (fun k hk => hk.elim (fun h => by have q1 := blk_lt HG1.out.b4; have q2 := blk_lt HG1.out.b5; omega) (fun h => by have q1 := blk_lt HG1.out.b4; have q2 := blk_lt HG1.out.b5; have h := h; simp only [World.alloc, Array.size_push] at h; omega)) HGT.out.low (by omega) (by omega) _ _ _ _ _ _ _⟩
set_option maxHeartbeats 8000000 in
set_option maxRecDepth 100000 in
theorem open_Get.bad0c (t : Int) (A0 : Option Addr) (c0 : Nat) (l0 : List Int) (ax : Int) (w : World) (h1 : t = 1) (hs : msg_Sane.f t l0 = some true) (hl : 10 ≤ l0.length) (hl2 : l0.length ≤ 5000) (p0 : 0 ≤ rd l0 9) (p1 : rd l0 9 < 256) (h4 : rd l0 0 = 4) (h5 : rd l0 9 ≠ (l0.length : Int) - 10) (hr0 : Kd.C (Kd.int .u8) w A0 l0.length l0) (hc0 : l0.length ≤ c0) :
  Calls Tryd.prog 50 #[.agg #[.int .i64 t, .slice A0 l0.length c0], .int .i64 ax] w fun e w' => ∃ v6_ : Value, e = .returned (.tuple #[.agg #[.int .i64 0, .int .i64 0, .int .i64 0, .int .i64 0], .agg #[.int .i64 2, .int .i64 0, v6_]]) ∧ Kd.V (Kd.int .u8) 5 w' w.heap.size (fun k_ => (w.heap.size ≤ k_)) v6_ [] ∧ Below w.heap.size w w' := by
 have HR0 := Aside0.mk hr0
 have HC0 := Aside0.mk hc0
 have HG0 := Aside0.mk (got0 w (((w.alloc (Obj.cells #[.int .i64 t, .slice A0 l0.length c0] 45)).alloc (Obj.cells #[.int .i64 0, .int .i64 0, .int .i64 0, .int .i64 0] 70)).alloc (Obj.cells #[.int .i64 0, .int .i64 0, .slice none 0 0] 41)) t A0 l0 c0 (Below.refl _ _))
 obtain ⟨ad, rfl, -⟩ := hr0.2.2 (by omega)
 have HZ : Aside0 (∀ W : World, Below w.heap.size w W → W.cell? ad = some (.int .u8 (rd l0 0)) ∧ W.cell? ⟨ad.block, ad.off + 9, none⟩ = some (.int .u8 (rd l0 9))) := ⟨fun W hb => by
  obtain ⟨ad1, e1, z0⟩ := Kd.at_int (Kd.C_below hr0 hb) (0 : Int) (by omega) (by omega)
  obtain ⟨ad2, e2, z9⟩ := Kd.at_int (Kd.C_below hr0 hb) (9 : Int) (by omega) (by omega)
  injection e1 with e1
  injection e2 with e2
  subst e1
  subst e2
  rw [Int.toNat_zero, Addr.add_zero'] at z0
  exact ⟨z0, z9⟩⟩
 clear hr0 hc0
 have q0 : (10 : Int) ≤ (l0.length : Int) := by omega
 have d1 : (t == 1) = true := by simp [h1]
 have d2 : (t != 1) = false := by simp [h1]
 have HS := Aside0.mk hs
 have q1 : (l0.length : Int) ≤ 5000 := by omega
 clear hs h1
 have d3 : (rd l0 0 == 4) = true := by simp [h4]
 have d4 : (rd l0 0 != 4) = false := by simp [h4]
 clear h4
 have d5 : (rd l0 9 == (l0.length : Int) - 10) = false := by simp [h5]
 have d6 : (rd l0 9 != (l0.length : Int) - 10) = true := by simp [h5]
 clear h5
 go_enter Tryd.func50, Tryd.ntmps50
 go_wp2_with (first
  | (go_at_call 15; (with_reducible refine (msg_Sane.calls t (some ad) c0 l0 true _ (Kd.C_alloc (Kd.C_alloc (Kd.C_alloc HR0.out _) _) _) HC0.out HS.out).mono ?_); rintro e w1 ⟨rfl, hb1⟩; have HG1 := Aside0.mk (got0 w w1 t (some ad) l0 c0 hb1); obtain ⟨⟨cm0, cm1⟩, ⟨ch0, ch1, ch2, ch3⟩, ⟨cn0, cn1, cn2⟩, ⟨fh0, fh1, fh2, fh3⟩, ⟨fn0, fn1, fn2⟩⟩ := HG1.out.cells; obtain ⟨z0, z9⟩ := HZ.out w1 HG1.out.low; clear hb1)
  | (go_at_call 59; refine (open_bad.calls 0 (fun _ => False) none 0 [] 0 0 0 0 2 0 [] _ (Kd.V_nil _ _ _ _ _) rfl).mono ?_; rintro e wb ⟨v6, rfl, hV6, hbb⟩; obtain ⟨A6, c6, rfl⟩ := Kd.V_slice hV6; simp only [List.length_nil]; have HGT := Aside0.mk (HG1.out.below hbb); clear cm0 cm1 ch0 ch1 ch2 ch3 cn0 cn1 cn2 fh0 fh1 fh2 fh3 fn0 fn1 fn2 z0 z9; obtain ⟨⟨cm0, cm1⟩, ⟨ch0, ch1, ch2, ch3⟩, ⟨cn0, cn1, cn2⟩, ⟨fh0, fh1, fh2, fh3⟩, ⟨fn0, fn1, fn2⟩⟩ := HGT.out.cells; have HV6 := Aside0.mk hV6; clear hV6 hbb))
 refine bodyPost_ret (results_cc rfl _ _ (w.heap.size + 1) (w.heap.size + 2) 70 41 #[.int .i64 0, .int .i64 0, .int .i64 0, .int .i64 0] #[.int .i64 2, .int .i64 0, .slice A6 0 c6] (0, 0) (0, 0) _ _ rfl (store3_far (store4 HGT.out.b4 _ _ _ _) (by omega) _ _ _) Tryd.underlying70 rfl (by kernel_rfl) rfl (store3 (store4_far HGT.out.b5 (by omega) _ _ _ _) _ _ _) Tryd.underlying41 rfl (by kernel_rfl)) rfl ?_
 exact ⟨_, rfl, fin7 HV6.out (fun k hk => hk.elim (fun h => h.elim) (fun h => by have q1 := blk_lt HG1.out.b4; have q2 := blk_lt HG1.out.b5; omega)) HGT.out.low (by omega) (by omega) _ _ _ _ _ _ _⟩
set_option maxHeartbeats 8000000 in
set_option maxRecDepth 100000 in
theorem open_Get.badE (t : Int) (A0 : Option Addr) (c0 : Nat) (l0 : List Int) (ax : Int) (w : World) (h1 : t = 1) (hs : msg_Sane.f t l0 = some true) (hl : 10 ≤ l0.length) (hl2 : l0.length ≤ 5000) (p0 : 0 ≤ rd l0 9) (p1 : rd l0 9 < 256) (h4 : rd l0 0 = 4) (h5 : rd l0 9 = (l0.length : Int) - 10) (sub lg rl : Int) (he : eachG open2 5000 (-1, -1) (l0.drop 10) = some (sub, false, (lg, rl))) (hr0 : Kd.C (Kd.int .u8) w A0 l0.length l0) (hc0 : l0.length ≤ c0) :
  Calls Tryd.prog 50 #[.agg #[.int .i64 t, .slice A0 l0.length c0], .int .i64 ax] w fun e w' => ∃ v6_ : Value, e = .returned (.tuple #[.agg #[.int .i64 0, .int .i64 0, .int .i64 0, .int .i64 0], .agg #[.int .i64 2, .int .i64 sub, v6_]]) ∧ Kd.V (Kd.int .u8) 5 w' w.heap.size (fun k_ => (w.heap.size ≤ k_)) v6_ [] ∧ Below w.heap.size w w' := by
 have HR0 := Aside0.mk hr0
 have HC0 := Aside0.mk hc0
 have HG0 := Aside0.mk (got0 w (((w.alloc (Obj.cells #[.int .i64 t, .slice A0 l0.length c0] 45)).alloc (Obj.cells #[.int .i64 0, .int .i64 0, .int .i64 0, .int .i64 0] 70)).alloc (Obj.cells #[.int .i64 0, .int .i64 0, .slice none 0 0] 41)) t A0 l0 c0 (Below.refl _ _))
 obtain ⟨ad, rfl, -⟩ := hr0.2.2 (by omega)
 have HZ : Aside0 (∀ W : World, Below w.heap.size w W → W.cell? ad = some (.int .u8 (rd l0 0)) ∧ W.cell? ⟨ad.block, ad.off + 9, none⟩ = some (.int .u8 (rd l0 9))) := ⟨fun W hb => by
  obtain ⟨ad1, e1, z0⟩ := Kd.at_int (Kd.C_below hr0 hb) (0 : Int) (by omega) (by omega)
  obtain ⟨ad2, e2, z9⟩ := Kd.at_int (Kd.C_below hr0 hb) (9 : Int) (by omega) (by omega)
  injection e1 with e1
  injection e2 with e2
  subst e1
  subst e2
  rw [Int.toNat_zero, Addr.add_zero'] at z0
  exact ⟨z0, z9⟩⟩
 obtain ⟨A10, hcut10, hV10⟩ : ∃ A1 : Option Addr, (∀ W' : World, (Instr.slice 39 (.slice (some ad) l0.length c0) (some (.int .i64 10)) none none).run Tryd.prog W' = .ok (.slice A1 (l0.length - 10) (c0 - 10)) W') ∧ ∀ W : World, Below w.heap.size w W → Kd.V (Kd.int .u8) 5 W W.heap.size (fun k => k < w.heap.size) (.slice A1 (l0.drop 10).length (c0 - 10)) (l0.drop 10) := came_drop w (some ad) c0 l0 10 hr0 hc0 (by omega) (by omega)
 have HV10 := Aside0.mk hV10
 clear hV10
 clear hr0 hc0
 have q0 : (10 : Int) ≤ (l0.length : Int) := by omega
 have d1 : (t == 1) = true := by simp [h1]
 have d2 : (t != 1) = false := by simp [h1]
 have HS := Aside0.mk hs
 have q1 : (l0.length : Int) ≤ 5000 := by omega
 clear hs h1
 have d3 : (rd l0 0 == 4) = true := by simp [h4]
 have d4 : (rd l0 0 != 4) = false := by simp [h4]
 clear h4
 have d5 : (rd l0 9 == (l0.length : Int) - 10) = true := by simp [h5]
 have d6 : (rd l0 9 != (l0.length : Int) - 10) = false := by simp [h5]
 have hmf := hmf_
 clear h5
 have HE := Aside0.mk he
 clear he
 go_enter Tryd.func50, Tryd.ntmps50
 go_wp2_with (first
  | (go_at_call 15; (with_reducible refine (msg_Sane.calls t (some ad) c0 l0 true _ (Kd.C_alloc (Kd.C_alloc (Kd.C_alloc HR0.out _) _) _) HC0.out HS.out).mono ?_); rintro e w1 ⟨rfl, hb1⟩; have HG1 := Aside0.mk (got0 w w1 t (some ad) l0 c0 hb1); obtain ⟨⟨cm0, cm1⟩, ⟨ch0, ch1, ch2, ch3⟩, ⟨cn0, cn1, cn2⟩, ⟨fh0, fh1, fh2, fh3⟩, ⟨fn0, fn1, fn2⟩⟩ := HG1.out.cells; obtain ⟨z0, z9⟩ := HZ.out w1 HG1.out.low; clear hb1)
  | (go_at_call 60; (with_reducible refine (each_at w w1 A10 c0 l0 sub false (lg, rl) HG1.out.low HV10.out HE.out).mono ?_); rintro e w3 ⟨rfl, hC3, hk3⟩; have HG3 := Aside0.mk (HG1.out.kep hk3); have HC3 := Aside0.mk hC3; clear cm0 cm1 ch0 ch1 ch2 ch3 cn0 cn1 cn2 fh0 fh1 fh2 fh3 fn0 fn1 fn2 z0 z9; obtain ⟨⟨cm0, cm1⟩, ⟨ch0, ch1, ch2, ch3⟩, ⟨cn0, cn1, cn2⟩, ⟨fh0, fh1, fh2, fh3⟩, ⟨fn0, fn1, fn2⟩⟩ := HG3.out.cells; clear hC3 hk3)
  | (go_at_call 59; refine (open_bad.calls sub (fun _ => False) none 0 [] 0 0 0 0 2 sub [] _ (Kd.V_nil _ _ _ _ _) rfl).mono ?_; rintro e wb ⟨v6, rfl, hV6, hbb⟩; obtain ⟨A6, c6, rfl⟩ := Kd.V_slice hV6; simp only [List.length_nil]; have HGT := Aside0.mk (HG3.out.below hbb); clear cm0 cm1 ch0 ch1 ch2 ch3 cn0 cn1 cn2 fh0 fh1 fh2 fh3 fn0 fn1 fn2; obtain ⟨⟨cm0, cm1⟩, ⟨ch0, ch1, ch2, ch3⟩, ⟨cn0, cn1, cn2⟩, ⟨fh0, fh1, fh2, fh3⟩, ⟨fn0, fn1, fn2⟩⟩ := HGT.out.cells; have HV6 := Aside0.mk hV6; clear hV6 hbb))
 refine bodyPost_ret (results_cc rfl _ _ (w.heap.size + 1) (w.heap.size + 2) 70 41 #[.int .i64 0, .int .i64 0, .int .i64 0, .int .i64 0] #[.int .i64 2, .int .i64 sub, .slice A6 0 c6] (0, 0) (0, 0) _ _ rfl (store3_far (store4 HGT.out.b4 _ _ _ _) (by omega) _ _ _) Tryd.underlying70 rfl (by kernel_rfl) rfl (store3 (store4_far HGT.out.b5 (by omega) _ _ _ _) _ _ _) Tryd.underlying41 rfl (by kernel_rfl)) rfl ?_
 exact ⟨_, rfl, fin7 HV6.out (fun k hk => hk.elim (fun h => h.elim) (fun h => by have q1 := blk_lt HG3.out.b4; have q2 := blk_lt HG3.out.b5; omega)) HGT.out.low (by omega) (by omega) _ _ _ _ _ _ _⟩
set_option maxHeartbeats 8000000 in
set_option maxRecDepth 100000 in
theorem open_Get.bad7 (t : Int) (A0 : Option Addr) (c0 : Nat) (l0 : List Int) (ax : Int) (w : World) (h1 : t = 1) (hs : msg_Sane.f t l0 = some true) (hl : 10 ≤ l0.length) (hl2 : l0.length ≤ 5000) (p0 : 0 ≤ rd l0 9) (p1 : rd l0 9 < 256) (h4 : rd l0 0 = 4) (h5 : rd l0 9 = (l0.length : Int) - 10) (sub lg rl : Int) (he : eachG open2 5000 (-1, -1) (l0.drop 10) = some (sub, true, (lg, rl))) (s1 hh ii : Int) (s2 h2 i2 : List Int) (s3 h3 i3 : Bool) (e1 : octet_Get.f 8 (l0.drop 1) 2 = some (s1, s2, s3)) (e2 : octet_Get.f 8 s2 2 = some (hh, h2, h3)) (e3 : octet_Get.f 8 h2 4 = some (ii, i2, i3)) (g1 : lg < 0) (hr0 : Kd.C (Kd.int .u8) w A0 l0.length l0) (hc0 : l0.length ≤ c0) :
  Calls Tryd.prog 50 #[.agg #[.int .i64 t, .slice A0 l0.length c0], .int .i64 ax] w fun e w' => ∃ v6_ : Value, e = .returned (.tuple #[.agg #[.int .i64 0, .int .i64 0, .int .i64 0, .int .i64 0], .agg #[.int .i64 2, .int .i64 7, v6_]]) ∧ Kd.V (Kd.int .u8) 5 w' w.heap.size (fun k_ => (w.heap.size ≤ k_)) v6_ [65, 0] ∧ Below w.heap.size w w' := by
 have HR0 := Aside0.mk hr0
 have HC0 := Aside0.mk hc0
 have HG0 := Aside0.mk (got0 w (((w.alloc (Obj.cells #[.int .i64 t, .slice A0 l0.length c0] 45)).alloc (Obj.cells #[.int .i64 0, .int .i64 0, .int .i64 0, .int .i64 0] 70)).alloc (Obj.cells #[.int .i64 0, .int .i64 0, .slice none 0 0] 41)) t A0 l0 c0 (Below.refl _ _))
 obtain ⟨ad, rfl, -⟩ := hr0.2.2 (by omega)
 have HZ : Aside0 (∀ W : World, Below w.heap.size w W → W.cell? ad = some (.int .u8 (rd l0 0)) ∧ W.cell? ⟨ad.block, ad.off + 9, none⟩ = some (.int .u8 (rd l0 9))) := ⟨fun W hb => by
  obtain ⟨ad1, e1, z0⟩ := Kd.at_int (Kd.C_below hr0 hb) (0 : Int) (by omega) (by omega)
  obtain ⟨ad2, e2, z9⟩ := Kd.at_int (Kd.C_below hr0 hb) (9 : Int) (by omega) (by omega)
  injection e1 with e1
  injection e2 with e2
  subst e1
  subst e2
  rw [Int.toNat_zero, Addr.add_zero'] at z0
  exact ⟨z0, z9⟩⟩
 obtain ⟨A10, hcut10, hV10⟩ : ∃ A1 : Option Addr, (∀ W' : World, (Instr.slice 39 (.slice (some ad) l0.length c0) (some (.int .i64 10)) none none).run Tryd.prog W' = .ok (.slice A1 (l0.length - 10) (c0 - 10)) W') ∧ ∀ W : World, Below w.heap.size w W → Kd.V (Kd.int .u8) 5 W W.heap.size (fun k => k < w.heap.size) (.slice A1 (l0.drop 10).length (c0 - 10)) (l0.drop 10) := came_drop w (some ad) c0 l0 10 hr0 hc0 (by omega) (by omega)
 have HV10 := Aside0.mk hV10
 clear hV10
 obtain ⟨A1, hcut1, hV1⟩ : ∃ A1 : Option Addr, (∀ W' : World, (Instr.slice 39 (.slice (some ad) l0.length c0) (some (.int .i64 1)) none none).run Tryd.prog W' = .ok (.slice A1 (l0.length - 1) (c0 - 1)) W') ∧ ∀ W : World, Below w.heap.size w W → Kd.V (Kd.int .u8) 5 W W.heap.size (fun k => k < w.heap.size) (.slice A1 (l0.drop 1).length (c0 - 1)) (l0.drop 1) := came_drop w (some ad) c0 l0 1 hr0 hc0 (by omega) (by omega)
 have HV1 := Aside0.mk hV1
 clear hV1
 clear hr0 hc0
 have q0 : (10 : Int) ≤ (l0.length : Int) := by omega
 have d1 : (t == 1) = true := by simp [h1]
 have d2 : (t != 1) = false := by simp [h1]
 have HS := Aside0.mk hs
 have q1 : (l0.length : Int) ≤ 5000 := by omega
 clear hs h1
 have d3 : (rd l0 0 == 4) = true := by simp [h4]
 have d4 : (rd l0 0 != 4) = false := by simp [h4]
 clear h4
 have d5 : (rd l0 9 == (l0.length : Int) - 10) = true := by simp [h5]
 have d6 : (rd l0 9 != (l0.length : Int) - 10) = false := by simp [h5]
 have hmf := hmf_
 clear h5
 have HE := Aside0.mk he
 have E1 := Aside0.mk e1
 have E2 := Aside0.mk e2
 have E3 := Aside0.mk e3
 clear he e1 e2 e3
 have d7 : decide (lg < 0) = true := decide_eq_true g1
 go_enter Tryd.func50, Tryd.ntmps50
 go_wp2_with (first
  | (go_at_call 15; (with_reducible refine (msg_Sane.calls t (some ad) c0 l0 true _ (Kd.C_alloc (Kd.C_alloc (Kd.C_alloc HR0.out _) _) _) HC0.out HS.out).mono ?_); rintro e w1 ⟨rfl, hb1⟩; have HG1 := Aside0.mk (got0 w w1 t (some ad) l0 c0 hb1); obtain ⟨⟨cm0, cm1⟩, ⟨ch0, ch1, ch2, ch3⟩, ⟨cn0, cn1, cn2⟩, ⟨fh0, fh1, fh2, fh3⟩, ⟨fn0, fn1, fn2⟩⟩ := HG1.out.cells; obtain ⟨z0, z9⟩ := HZ.out w1 HG1.out.low; clear hb1)
  | (go_at_call 60; (with_reducible refine (each_at w w1 A10 c0 l0 sub true (lg, rl) HG1.out.low HV10.out HE.out).mono ?_); rintro e w3 ⟨rfl, hC3, hk3⟩; have HG3 := Aside0.mk (HG1.out.kep hk3); have HC3 := Aside0.mk hC3; clear cm0 cm1 ch0 ch1 ch2 ch3 cn0 cn1 cn2 fh0 fh1 fh2 fh3 fn0 fn1 fn2 z0 z9; obtain ⟨⟨cm0, cm1⟩, ⟨ch0, ch1, ch2, ch3⟩, ⟨cn0, cn1, cn2⟩, ⟨fh0, fh1, fh2, fh3⟩, ⟨fn0, fn1, fn2⟩⟩ := HG3.out.cells; clear hC3 hk3)
  | (go_at_call 63; have hg := octet_Get.calls 8 (fun k => k < w.heap.size) A1 (c0 - 1) (l0.drop 1) 2 s1 s2 s3 w3 (HV1.out w3 HG3.out.low) E1.out; rw [List.length_drop] at hg; (with_reducible refine hg.mono ?_); clear hg; rintro e w4 ⟨v4, rfl, hV4, hb4⟩; obtain ⟨A4, c4, rfl⟩ := Kd.V_slice hV4; have HV4 := Aside0.mk (show Kd.V (Kd.int .u8) 5 w4 w4.heap.size (fun k_ => k_ < w.heap.size ∨ w3.heap.size ≤ k_) (.slice A4 s2.length c4) s2 from hV4); have HG4 := Aside0.mk (HG3.out.below hb4); have HC4 := Aside0.mk (HC3.out.below hb4); clear cm0 cm1 ch0 ch1 ch2 ch3 cn0 cn1 cn2 fh0 fh1 fh2 fh3 fn0 fn1 fn2; clear hV4 hb4)
  | (go_at_call 63; (with_reducible refine (octet_Get.calls 8 (fun k_ => k_ < w.heap.size ∨ w3.heap.size ≤ k_) A4 c4 s2 2 hh h2 h3 w4 HV4.out E2.out).mono ?_); rintro e w5 ⟨v5, rfl, hV5, hb5⟩; obtain ⟨A5, c5, rfl⟩ := Kd.V_slice hV5; have HV5 := Aside0.mk (show Kd.V (Kd.int .u8) 5 w5 w5.heap.size (fun k_ => (k_ < w.heap.size ∨ w3.heap.size ≤ k_) ∨ w4.heap.size ≤ k_) (.slice A5 h2.length c5) h2 from hV5); have HG5 := Aside0.mk (HG4.out.below hb5); have HC5 := Aside0.mk (HC4.out.below hb5); clear hV5 hb5)
  | (go_at_call 63; (with_reducible refine (octet_Get.calls 8 (fun k_ => (k_ < w.heap.size ∨ w3.heap.size ≤ k_) ∨ w4.heap.size ≤ k_) A5 c5 h2 4 ii i2 i3 w5 HV5.out E3.out).mono ?_); rintro e w6 ⟨v7, rfl, hV7, hb6⟩; obtain ⟨A7, c7, rfl⟩ := Kd.V_slice hV7; have HG6 := Aside0.mk (HG5.out.below hb6); have HC6 := Aside0.mk (HC5.out.below hb6); clear hV7 hb6; obtain ⟨⟨cm0, cm1⟩, ⟨ch0, ch1, ch2, ch3⟩, ⟨cn0, cn1, cn2⟩, ⟨fh0, fh1, fh2, fh3⟩, ⟨fn0, fn1, fn2⟩⟩ := HG6.out.cells; have m0 : w6.cell? ⟨w1.heap.size, 0, none⟩ = some (.int .i64 lg) := (blk_cell HC6.out.1 0).trans rfl; have m1 : w6.cell? ⟨w1.heap.size + 1, 0, none⟩ = some (.int .i64 rl) := (blk_cell HC6.out.2 0).trans rfl)
  | (go_at_call 59; refine (open_bad.calls 7 (fun k => k = w6.heap.size) (some ⟨w6.heap.size, 0, none⟩) 2 [65, 0] 0 0 0 0 2 7 [65, 0] _ (Kd.R_V (R_at8 (R_lit8 w6 w6.heap.size 5 (Nat.le_refl _) [65, 0] (by simp)))) rfl).mono ?_; rintro e wb ⟨v6, rfl, hV6, hbb⟩; obtain ⟨A6, c6, rfl⟩ := Kd.V_slice hV6; simp only [List.length_cons, List.length_nil, Nat.reduceAdd]; have HGT := Aside0.mk ((HG6.out.below (below_alloc (Below.refl _ _) _)).below hbb); clear cm0 cm1 ch0 ch1 ch2 ch3 cn0 cn1 cn2 fh0 fh1 fh2 fh3 fn0 fn1 fn2 m0 m1; obtain ⟨⟨cm0, cm1⟩, ⟨ch0, ch1, ch2, ch3⟩, ⟨cn0, cn1, cn2⟩, ⟨fh0, fh1, fh2, fh3⟩, ⟨fn0, fn1, fn2⟩⟩ := HGT.out.cells; have HV6 := Aside0.mk hV6; clear hV6 hbb))
 refine bodyPost_ret (results_cc rfl _ _ (w.heap.size + 1) (w.heap.size + 2) 70 41 #[.int .i64 0, .int .i64 0, .int .i64 0, .int .i64 0] #[.int .i64 2, .int .i64 7, .slice A6 2 c6] (0, 0) (0, 0) _ _ rfl (store3_far (store4 HGT.out.b4 _ _ _ _) (by omega) _ _ _) Tryd.underlying70 rfl (by kernel_rfl) rfl (store3 (store4_far HGT.out.b5 (by omega) _ _ _ _) _ _ _) Tryd.underlying41 rfl (by kernel_rfl)) rfl ?_
 exact ⟨_, rfl, fin7 HV6.out (fun k hk => hk.elim (fun h => by have q1 := blk_lt HG6.out.b4; have q2 := blk_lt HG6.out.b5; omega) (fun h => by have q1 := blk_lt HG6.out.b4; have q2 := blk_lt HG6.out.b5; have h := h; simp only [World.alloc, Array.size_push] at h; omega)) HGT.out.low (by omega) (by omega) _ _ _ _ _ _ _⟩
set_option maxHeartbeats 8000000 in
set_option maxRecDepth 100000 in
theorem open_Get.bad2a (t : Int) (A0 : Option Addr) (c0 : Nat) (l0 : List Int) (ax : Int) (w : World) (h1 : t = 1) (hs : msg_Sane.f t l0 = some true) (hl : 10 ≤ l0.length) (hl2 : l0.length ≤ 5000) (p0 : 0 ≤ rd l0 9) (p1 : rd l0 9 < 256) (h4 : rd l0 0 = 4) (h5 : rd l0 9 = (l0.length : Int) - 10) (sub lg rl : Int) (he : eachG open2 5000 (-1, -1) (l0.drop 10) = some (sub, true, (lg, rl))) (s1 hh ii : Int) (s2 h2 i2 : List Int) (s3 h3 i3 : Bool) (e1 : octet_Get.f 8 (l0.drop 1) 2 = some (s1, s2, s3)) (e2 : octet_Get.f 8 s2 2 = some (hh, h2, h3)) (e3 : octet_Get.f 8 h2 4 = some (ii, i2, i3)) (g1 : lg = 0) (hr0 : Kd.C (Kd.int .u8) w A0 l0.length l0) (hc0 : l0.length ≤ c0) :
  Calls Tryd.prog 50 #[.agg #[.int .i64 t, .slice A0 l0.length c0], .int .i64 ax] w fun e w' => ∃ v6_ : Value, e = .returned (.tuple #[.agg #[.int .i64 0, .int .i64 0, .int .i64 0, .int .i64 0], .agg #[.int .i64 2, .int .i64 2, v6_]]) ∧ Kd.V (Kd.int .u8) 5 w' w.heap.size (fun k_ => (w.heap.size ≤ k_)) v6_ [] ∧ Below w.heap.size w w' := by
 have HR0 := Aside0.mk hr0
 have HC0 := Aside0.mk hc0
 have HG0 := Aside0.mk (got0 w (((w.alloc (Obj.cells #[.int .i64 t, .slice A0 l0.length c0] 45)).alloc (Obj.cells #[.int .i64 0, .int .i64 0, .int .i64 0, .int .i64 0] 70)).alloc (Obj.cells #[.int .i64 0, .int .i64 0, .slice none 0 0] 41)) t A0 l0 c0 (Below.refl _ _))
 obtain ⟨ad, rfl, -⟩ := hr0.2.2 (by omega)
 have HZ : Aside0 (∀ W : World, Below w.heap.size w W → W.cell? ad = some (.int .u8 (rd l0 0)) ∧ W.cell? ⟨ad.block, ad.off + 9, none⟩ = some (.int .u8 (rd l0 9))) := ⟨fun W hb => by
  obtain ⟨ad1, e1, z0⟩ := Kd.at_int (Kd.C_below hr0 hb) (0 : Int) (by omega) (by omega)
  obtain ⟨ad2, e2, z9⟩ := Kd.at_int (Kd.C_below hr0 hb) (9 : Int) (by omega) (by omega)
  injection e1 with e1
  injection e2 with e2
  subst e1
  subst e2
  rw [Int.toNat_zero, Addr.add_zero'] at z0
  exact ⟨z0, z9⟩⟩
 obtain ⟨A10, hcut10, hV10⟩ : ∃ A1 : Option Addr, (∀ W' : World, (Instr.slice 39 (.slice (some ad) l0.length c0) (some (.int .i64 10)) none none).run Tryd.prog W' = .ok (.slice A1 (l0.length - 10) (c0 - 10)) W') ∧ ∀ W : World, Below w.heap.size w W → Kd.V (Kd.int .u8) 5 W W.heap.size (fun k => k < w.heap.size) (.slice A1 (l0.drop 10).length (c0 - 10)) (l0.drop 10) := came_drop w (some ad) c0 l0 10 hr0 hc0 (by omega) (by omega)
 have HV10 := Aside0.mk hV10
 clear hV10
 obtain ⟨A1, hcut1, hV1⟩ : ∃ A1 : Option Addr, (∀ W' : World, (Instr.slice 39 (.slice (some ad) l0.length c0) (some (.int .i64 1)) none none).run Tryd.prog W' = .ok (.slice A1 (l0.length - 1) (c0 - 1)) W') ∧ ∀ W : World, Below w.heap.size w W → Kd.V (Kd.int .u8) 5 W W.heap.size (fun k => k < w.heap.size) (.slice A1 (l0.drop 1).length (c0 - 1)) (l0.drop 1) := came_drop w (some ad) c0 l0 1 hr0 hc0 (by omega) (by omega)
 have HV1 := Aside0.mk hV1
 clear hV1
 clear hr0 hc0
 have q0 : (10 : Int) ≤ (l0.length : Int) := by omega
 have d1 : (t == 1) = true := by simp [h1]
 have d2 : (t != 1) = false := by simp [h1]
 have HS := Aside0.mk hs
 have q1 : (l0.length : Int) ≤ 5000 := by omega
 clear hs h1
 have d3 : (rd l0 0 == 4) = true := by simp [h4]
 have d4 : (rd l0 0 != 4) = false := by simp [h4]
 clear h4
 have d5 : (rd l0 9 == (l0.length : Int) - 10) = true := by simp [h5]
 have d6 : (rd l0 9 != (l0.length : Int) - 10) = false := by simp [h5]
 have hmf := hmf_
 clear h5
 have HE := Aside0.mk he
 have E1 := Aside0.mk e1
 have E2 := Aside0.mk e2
 have E3 := Aside0.mk e3
 clear he e1 e2 e3
 have d7 : decide (lg < 0) = false := decide_eq_false (by omega)
 have d8 : (lg == 0) = true := by simp [g1]
 clear g1
 go_enter Tryd.func50, Tryd.ntmps50
 go_wp2_with (first
  | (go_at_call 15; (with_reducible refine (msg_Sane.calls t (some ad) c0 l0 true _ (Kd.C_alloc (Kd.C_alloc (Kd.C_alloc HR0.out _) _) _) HC0.out HS.out).mono ?_); rintro e w1 ⟨rfl, hb1⟩; have HG1 := Aside0.mk (got0 w w1 t (some ad) l0 c0 hb1); obtain ⟨⟨cm0, cm1⟩, ⟨ch0, ch1, ch2, ch3⟩, ⟨cn0, cn1, cn2⟩, ⟨fh0, fh1, fh2, fh3⟩, ⟨fn0, fn1, fn2⟩⟩ := HG1.out.cells; obtain ⟨z0, z9⟩ := HZ.out w1 HG1.out.low; clear hb1)
  | (go_at_call 60; (with_reducible refine (each_at w w1 A10 c0 l0 sub true (lg, rl) HG1.out.low HV10.out HE.out).mono ?_); rintro e w3 ⟨rfl, hC3, hk3⟩; have HG3 := Aside0.mk (HG1.out.kep hk3); have HC3 := Aside0.mk hC3; clear cm0 cm1 ch0 ch1 ch2 ch3 cn0 cn1 cn2 fh0 fh1 fh2 fh3 fn0 fn1 fn2 z0 z9; obtain ⟨⟨cm0, cm1⟩, ⟨ch0, ch1, ch2, ch3⟩, ⟨cn0, cn1, cn2⟩, ⟨fh0, fh1, fh2, fh3⟩, ⟨fn0, fn1, fn2⟩⟩ := HG3.out.cells; clear hC3 hk3)
  | (go_at_call 63; have hg := octet_Get.calls 8 (fun k => k < w.heap.size) A1 (c0 - 1) (l0.drop 1) 2 s1 s2 s3 w3 (HV1.out w3 HG3.out.low) E1.out; rw [List.length_drop] at hg; (with_reducible refine hg.mono ?_); clear hg; rintro e w4 ⟨v4, rfl, hV4, hb4⟩; obtain ⟨A4, c4, rfl⟩ := Kd.V_slice hV4; have HV4 := Aside0.mk (show Kd.V (Kd.int .u8) 5 w4 w4.heap.size (fun k_ => k_ < w.heap.size ∨ w3.heap.size ≤ k_) (.slice A4 s2.length c4) s2 from hV4); have HG4 := Aside0.mk (HG3.out.below hb4); have HC4 := Aside0.mk (HC3.out.below hb4); clear cm0 cm1 ch0 ch1 ch2 ch3 cn0 cn1 cn2 fh0 fh1 fh2 fh3 fn0 fn1 fn2; clear hV4 hb4)
  | (go_at_call 63; (with_reducible refine (octet_Get.calls 8 (fun k_ => k_ < w.heap.size ∨ w3.heap.size ≤ k_) A4 c4 s2 2 hh h2 h3 w4 HV4.out E2.out).mono ?_); rintro e w5 ⟨v5, rfl, hV5, hb5⟩; obtain ⟨A5, c5, rfl⟩ := Kd.V_slice hV5; have HV5 := Aside0.mk (show Kd.V (Kd.int .u8) 5 w5 w5.heap.size (fun k_ => (k_ < w.heap.size ∨ w3.heap.size ≤ k_) ∨ w4.heap.size ≤ k_) (.slice A5 h2.length c5) h2 from hV5); have HG5 := Aside0.mk (HG4.out.below hb5); have HC5 := Aside0.mk (HC4.out.below hb5); clear hV5 hb5)
  | (go_at_call 63; (with_reducible refine (octet_Get.calls 8 (fun k_ => (k_ < w.heap.size ∨ w3.heap.size ≤ k_) ∨ w4.heap.size ≤ k_) A5 c5 h2 4 ii i2 i3 w5 HV5.out E3.out).mono ?_); rintro e w6 ⟨v7, rfl, hV7, hb6⟩; obtain ⟨A7, c7, rfl⟩ := Kd.V_slice hV7; have HG6 := Aside0.mk (HG5.out.below hb6); have HC6 := Aside0.mk (HC5.out.below hb6); clear hV7 hb6; obtain ⟨⟨cm0, cm1⟩, ⟨ch0, ch1, ch2, ch3⟩, ⟨cn0, cn1, cn2⟩, ⟨fh0, fh1, fh2, fh3⟩, ⟨fn0, fn1, fn2⟩⟩ := HG6.out.cells; have m0 : w6.cell? ⟨w1.heap.size, 0, none⟩ = some (.int .i64 lg) := (blk_cell HC6.out.1 0).trans rfl; have m1 : w6.cell? ⟨w1.heap.size + 1, 0, none⟩ = some (.int .i64 rl) := (blk_cell HC6.out.2 0).trans rfl)
  | (go_at_call 59; refine (open_bad.calls 2 (fun _ => False) none 0 [] 0 0 0 0 2 2 [] _ (Kd.V_nil _ _ _ _ _) rfl).mono ?_; rintro e wb ⟨v6, rfl, hV6, hbb⟩; obtain ⟨A6, c6, rfl⟩ := Kd.V_slice hV6; simp only [List.length_nil]; have HGT := Aside0.mk (HG6.out.below hbb); clear cm0 cm1 ch0 ch1 ch2 ch3 cn0 cn1 cn2 fh0 fh1 fh2 fh3 fn0 fn1 fn2 m0 m1; obtain ⟨⟨cm0, cm1⟩, ⟨ch0, ch1, ch2, ch3⟩, ⟨cn0, cn1, cn2⟩, ⟨fh0, fh1, fh2, fh3⟩, ⟨fn0, fn1, fn2⟩⟩ := HGT.out.cells; have HV6 := Aside0.mk hV6; clear hV6 hbb))
 refine bodyPost_ret (results_cc rfl _ _ (w.heap.size + 1) (w.heap.size + 2) 70 41 #[.int .i64 0, .int .i64 0, .int .i64 0, .int .i64 0] #[.int .i64 2, .int .i64 2, .slice A6 0 c6] (0, 0) (0, 0) _ _ rfl (store3_far (store4 HGT.out.b4 _ _ _ _) (by omega) _ _ _) Tryd.underlying70 rfl (by kernel_rfl) rfl (store3 (store4_far HGT.out.b5 (by omega) _ _ _ _) _ _ _) Tryd.underlying41 rfl (by kernel_rfl)) rfl ?_
 exact ⟨_, rfl, fin7 HV6.out (fun k hk => hk.elim (fun h => h.elim) (fun h => by have q1 := blk_lt HG6.out.b4; have q2 := blk_lt HG6.out.b5; omega)) HGT.out.low (by omega) (by omega) _ _ _ _ _ _ _⟩
set_option maxHeartbeats 8000000 in
set_option maxRecDepth 100000 in
theorem open_Get.bad2b (t : Int) (A0 : Option Addr) (c0 : Nat) (l0 : List Int) (ax : Int) (w : World) (h1 : t = 1) (hs : msg_Sane.f t l0 = some true) (hl : 10 ≤ l0.length) (hl2 : l0.length ≤ 5000) (p0 : 0 ≤ rd l0 9) (p1 : rd l0 9 < 256) (h4 : rd l0 0 = 4) (h5 : rd l0 9 = (l0.length : Int) - 10) (sub lg rl : Int) (he : eachG open2 5000 (-1, -1) (l0.drop 10) = some (sub, true, (lg, rl))) (s1 hh ii : Int) (s2 h2 i2 : List Int) (s3 h3 i3 : Bool) (e1 : octet_Get.f 8 (l0.drop 1) 2 = some (s1, s2, s3)) (e2 : octet_Get.f 8 s2 2 = some (hh, h2, h3)) (e3 : octet_Get.f 8 h2 4 = some (ii, i2, i3)) (g1 : 0 < lg) (g2 : lg ≠ ax) (hr0 : Kd.C (Kd.int .u8) w A0 l0.length l0) (hc0 : l0.length ≤ c0) :
  Calls Tryd.prog 50 #[.agg #[.int .i64 t, .slice A0 l0.length c0], .int .i64 ax] w fun e w' => ∃ v6_ : Value, e = .returned (.tuple #[.agg #[.int .i64 0, .int .i64 0, .int .i64 0, .int .i64 0], .agg #[.int .i64 2, .int .i64 2, v6_]]) ∧ Kd.V (Kd.int .u8) 5 w' w.heap.size (fun k_ => (w.heap.size ≤ k_)) v6_ [] ∧ Below w.heap.size w w' := by
 have HR0 := Aside0.mk hr0
 have HC0 := Aside0.mk hc0
 have HG0 := Aside0.mk (got0 w (((w.alloc (Obj.cells #[.int .i64 t, .slice A0 l0.length c0] 45)).alloc (Obj.cells #[.int .i64 0, .int .i64 0, .int .i64 0, .int .i64 0] 70)).alloc (Obj.cells #[.int .i64 0, .int .i64 0, .slice none 0 0] 41)) t A0 l0 c0 (Below.refl _ _))
 obtain ⟨ad, rfl, -⟩ := hr0.2.2 (by omega)
 have HZ : Aside0 (∀ W : World, Below w.heap.size w W → W.cell? ad = some (.int .u8 (rd l0 0)) ∧ W.cell? ⟨ad.block, ad.off + 9, none⟩ = some (.int .u8 (rd l0 9))) := ⟨fun W hb => by
  obtain ⟨ad1, e1, z0⟩ := Kd.at_int (Kd.C_below hr0 hb) (0 : Int) (by omega) (by omega)
  obtain ⟨ad2, e2, z9⟩ := Kd.at_int (Kd.C_below hr0 hb) (9 : Int) (by omega) (by omega)
  injection e1 with e1
  injection e2 with e2
  subst e1
  subst e2
  rw [Int.toNat_zero, Addr.add_zero'] at z0
  exact ⟨z0, z9⟩⟩
 obtain ⟨A10, hcut10, hV10⟩ : ∃ A1 : Option Addr, (∀ W' : World, (Instr.slice 39 (.slice (some ad) l0.length c0) (some (.int .i64 10)) none none).run Tryd.prog W' = .ok (.slice A1 (l0.length - 10) (c0 - 10)) W') ∧ ∀ W : World, Below w.heap.size w W → Kd.V (Kd.int .u8) 5 W W.heap.size (fun k => k < w.heap.size) (.slice A1 (l0.drop 10).length (c0 - 10)) (l0.drop 10) := came_drop w (some ad) c0 l0 10 hr0 hc0 (by omega) (by omega)
 have HV10 := Aside0.mk hV10
 clear hV10
 obtain ⟨A1, hcut1, hV1⟩ : ∃ A1 : Option Addr, (∀ W' : World, (Instr.slice 39 (.slice (some ad) l0.length c0) (some (.int .i64 1)) none none).run Tryd.prog W' = .ok (.slice A1 (l0.length - 1) (c0 - 1)) W') ∧ ∀ W : World, Below w.heap.size w W → Kd.V (Kd.int .u8) 5 W W.heap.size (fun k => k < w.heap.size) (.slice A1 (l0.drop 1).length (c0 - 1)) (l0.drop 1) := came_drop w (some ad) c0 l0 1 hr0 hc0 (by omega) (by omega)
 have HV1 := Aside0.mk hV1
 clear hV1
 clear hr0 hc0
 have q0 : (10 : Int) ≤ (l0.length : Int) := by omega
 have d1 : (t == 1) = true := by simp [h1]
 have d2 : (t != 1) = false := by simp [h1]
 have HS := Aside0.mk hs
 have q1 : (l0.length : Int) ≤ 5000 := by omega
 clear hs h1
 have d3 : (rd l0 0 == 4) = true := by simp [h4]
 have d4 : (rd l0 0 != 4) = false := by simp [h4]
 clear h4
 have d5 : (rd l0 9 == (l0.length : Int) - 10) = true := by simp [h5]
 have d6 : (rd l0 9 != (l0.length : Int) - 10) = false := by simp [h5]
 have hmf := hmf_
 clear h5
 have HE := Aside0.mk he
 have E1 := Aside0.mk e1
 have E2 := Aside0.mk e2
 have E3 := Aside0.mk e3
 clear he e1 e2 e3
 have d7 : decide (lg < 0) = false := decide_eq_false (by omega)
 have d8 : (lg == 0) = false := by simp; omega
 have d9 : (lg == ax) = false := by simp [g2]
 have d10 : (lg != ax) = true := by simp [g2]
 go_enter Tryd.func50, Tryd.ntmps50
 go_wp2_with (first
  | (go_at_call 15; (with_reducible refine (msg_Sane.calls t (some ad) c0 l0 true _ (Kd.C_alloc (Kd.C_alloc (Kd.C_alloc HR0.out _) _) _) HC0.out HS.out).mono ?_); rintro e w1 ⟨rfl, hb1⟩; have HG1 := Aside0.mk (got0 w w1 t (some ad) l0 c0 hb1); obtain ⟨⟨cm0, cm1⟩, ⟨ch0, ch1, ch2, ch3⟩, ⟨cn0, cn1, cn2⟩, ⟨fh0, fh1, fh2, fh3⟩, ⟨fn0, fn1, fn2⟩⟩ := HG1.out.cells; obtain ⟨z0, z9⟩ := HZ.out w1 HG1.out.low; clear hb1)
  | (go_at_call 60; (with_reducible refine (each_at w w1 A10 c0 l0 sub true (lg, rl) HG1.out.low HV10.out HE.out).mono ?_); rintro e w3 ⟨rfl, hC3, hk3⟩; have HG3 := Aside0.mk (HG1.out.kep hk3); have HC3 := Aside0.mk hC3; clear cm0 cm1 ch0 ch1 ch2 ch3 cn0 cn1 cn2 fh0 fh1 fh2 fh3 fn0 fn1 fn2 z0 z9; obtain ⟨⟨cm0, cm1⟩, ⟨ch0, ch1, ch2, ch3⟩, ⟨cn0, cn1, cn2⟩, ⟨fh0, fh1, fh2, fh3⟩, ⟨fn0, fn1, fn2⟩⟩ := HG3.out.cells; clear hC3 hk3)
  | (go_at_call 63; have hg := octet_Get.calls 8 (fun k => k < w.heap.size) A1 (c0 - 1) (l0.drop 1) 2 s1 s2 s3 w3 (HV1.out w3 HG3.out.low) E1.out; rw [List.length_drop] at hg; (with_reducible refine hg.mono ?_); clear hg; rintro e w4 ⟨v4, rfl, hV4, hb4⟩; obtain ⟨A4, c4, rfl⟩ := Kd.V_slice hV4; have HV4 := Aside0.mk (show Kd.V (Kd.int .u8) 5 w4 w4.heap.size (fun k_ => k_ < w.heap.size ∨ w3.heap.size ≤ k_) (.slice A4 s2.length c4) s2 from hV4); have HG4 := Aside0.mk (HG3.out.below hb4); have HC4 := Aside0.mk (HC3.out.below hb4); clear cm0 cm1 ch0 ch1 ch2 ch3 cn0 cn1 cn2 fh0 fh1 fh2 fh3 fn0 fn1 fn2; clear hV4 hb4)
  | (go_at_call 63; (with_reducible refine (octet_Get.calls 8 (fun k_ => k_ < w.heap.size ∨ w3.heap.size ≤ k_) A4 c4 s2 2 hh h2 h3 w4 HV4.out E2.out).mono ?_); rintro e w5 ⟨v5, rfl, hV5, hb5⟩; obtain ⟨A5, c5, rfl⟩ := Kd.V_slice hV5; have HV5 := Aside0.mk (show Kd.V (Kd.int .u8) 5 w5 w5.heap.size (fun k_ => (k_ < w.heap.size ∨ w3.heap.size ≤ k_) ∨ w4.heap.size ≤ k_) (.slice A5 h2.length c5) h2 from hV5); have HG5 := Aside0.mk (HG4.out.below hb5); have HC5 := Aside0.mk (HC4.out.below hb5); clear hV5 hb5)
  | (go_at_call 63; (with_reducible refine (octet_Get.calls 8 (fun k_ => (k_ < w.heap.size ∨ w3.heap.size ≤ k_) ∨ w4.heap.size ≤ k_) A5 c5 h2 4 ii i2 i3 w5 HV5.out E3.out).mono ?_); rintro e w6 ⟨v7, rfl, hV7, hb6⟩; obtain ⟨A7, c7, rfl⟩ := Kd.V_slice hV7; have HG6 := Aside0.mk (HG5.out.below hb6); have HC6 := Aside0.mk (HC5.out.below hb6); clear hV7 hb6; obtain ⟨⟨cm0, cm1⟩, ⟨ch0, ch1, ch2, ch3⟩, ⟨cn0, cn1, cn2⟩, ⟨fh0, fh1, fh2, fh3⟩, ⟨fn0, fn1, fn2⟩⟩ := HG6.out.cells; have m0 : w6.cell? ⟨w1.heap.size, 0, none⟩ = some (.int .i64 lg) := (blk_cell HC6.out.1 0).trans rfl; have m1 : w6.cell? ⟨w1.heap.size + 1, 0, none⟩ = some (.int .i64 rl) := (blk_cell HC6.out.2 0).trans rfl)
  | (go_at_call 59; refine (open_bad.calls 2 (fun _ => False) none 0 [] 0 0 0 0 2 2 [] _ (Kd.V_nil _ _ _ _ _) rfl).mono ?_; rintro e wb ⟨v6, rfl, hV6, hbb⟩; obtain ⟨A6, c6, rfl⟩ := Kd.V_slice hV6; simp only [List.length_nil]; have HGT := Aside0.mk (HG6.out.below hbb); clear cm0 cm1 ch0 ch1 ch2 ch3 cn0 cn1 cn2 fh0 fh1 fh2 fh3 fn0 fn1 fn2 m0 m1; obtain ⟨⟨cm0, cm1⟩, ⟨ch0, ch1, ch2, ch3⟩, ⟨cn0, cn1, cn2⟩, ⟨fh0, fh1, fh2, fh3⟩, ⟨fn0, fn1, fn2⟩⟩ := HGT.out.cells; have HV6 := Aside0.mk hV6; clear hV6 hbb))
 refine bodyPost_ret (results_cc rfl _ _ (w.heap.size + 1) (w.heap.size + 2) 70 41 #[.int .i64 0, .int .i64 0, .int .i64 0, .int .i64 0] #[.int .i64 2, .int .i64 2, .slice A6 0 c6] (0, 0) (0, 0) _ _ rfl (store3_far (store4 HGT.out.b4 _ _ _ _) (by omega) _ _ _) Tryd.underlying70 rfl (by kernel_rfl) rfl (store3 (store4_far HGT.out.b5 (by omega) _ _ _ _) _ _ _) Tryd.underlying41 rfl (by kernel_rfl)) rfl ?_
 exact ⟨_, rfl, fin7 HV6.out (fun k hk => hk.elim (fun h => h.elim) (fun h => by have q1 := blk_lt HG6.out.b4; have q2 := blk_lt HG6.out.b5; omega)) HGT.out.low (by omega) (by omega) _ _ _ _ _ _ _⟩
set_option maxHeartbeats 8000000 in
set_option maxRecDepth 100000 in
theorem open_Get.bad2c (t : Int) (A0 : Option Addr) (c0 : Nat) (l0 : List Int) (ax : Int) (w : World) (h1 : t = 1) (hs : msg_Sane.f t l0 = some true) (hl : 10 ≤ l0.length) (hl2 : l0.length ≤ 5000) (p0 : 0 ≤ rd l0 9) (p1 : rd l0 9 < 256) (h4 : rd l0 0 = 4) (h5 : rd l0 9 = (l0.length : Int) - 10) (sub lg rl : Int) (he : eachG open2 5000 (-1, -1) (l0.drop 10) = some (sub, true, (lg, rl))) (s1 hh ii : Int) (s2 h2 i2 : List Int) (s3 h3 i3 : Bool) (e1 : octet_Get.f 8 (l0.drop 1) 2 = some (s1, s2, s3)) (e2 : octet_Get.f 8 s2 2 = some (hh, h2, h3)) (e3 : octet_Get.f 8 h2 4 = some (ii, i2, i3)) (g1 : 0 < lg) (g2 : lg = ax) (wr : Int) (hw : open_written.f lg = some wr) (g3 : s1 ≠ wr) (hr0 : Kd.C (Kd.int .u8) w A0 l0.length l0) (hc0 : l0.length ≤ c0) :
  Calls Tryd.prog 50 #[.agg #[.int .i64 t, .slice A0 l0.length c0], .int .i64 ax] w fun e w' => ∃ v6_ : Value, e = .returned (.tuple #[.agg #[.int .i64 0, .int .i64 0, .int .i64 0, .int .i64 0], .agg #[.int .i64 2, .int .i64 2, v6_]]) ∧ Kd.V (Kd.int .u8) 5 w' w.heap.size (fun k_ => (w.heap.size ≤ k_)) v6_ [] ∧ Below w.heap.size w w' := by
 have HR0 := Aside0.mk hr0
 have HC0 := Aside0.mk hc0
 have HG0 := Aside0.mk (got0 w (((w.alloc (Obj.cells #[.int .i64 t, .slice A0 l0.length c0] 45)).alloc (Obj.cells #[.int .i64 0, .int .i64 0, .int .i64 0, .int .i64 0] 70)).alloc (Obj.cells #[.int .i64 0, .int .i64 0, .slice none 0 0] 41)) t A0 l0 c0 (Below.refl _ _))
 obtain ⟨ad, rfl, -⟩ := hr0.2.2 (by omega)
 have HZ : Aside0 (∀ W : World, Below w.heap.size w W → W.cell? ad = some (.int .u8 (rd l0 0)) ∧ W.cell? ⟨ad.block, ad.off + 9, none⟩ = some (.int .u8 (rd l0 9))) := ⟨fun W hb => by
  obtain ⟨ad1, e1, z0⟩ := Kd.at_int (Kd.C_below hr0 hb) (0 : Int) (by omega) (by omega)
  obtain ⟨ad2, e2, z9⟩ := Kd.at_int (Kd.C_below hr0 hb) (9 : Int) (by omega) (by omega)
  injection e1 with e1
  injection e2 with e2
  subst e1
  subst e2
  rw [Int.toNat_zero, Addr.add_zero'] at z0
  exact ⟨z0, z9⟩⟩
 obtain ⟨A10, hcut10, hV10⟩ : ∃ A1 : Option Addr, (∀ W' : World, (Instr.slice 39 (.slice (some ad) l0.length c0) (some (.int .i64 10)) none none).run Tryd.prog W' = .ok (.slice A1 (l0.length - 10) (c0 - 10)) W') ∧ ∀ W : World, Below w.heap.size w W → Kd.V (Kd.int .u8) 5 W W.heap.size (fun k => k < w.heap.size) (.slice A1 (l0.drop 10).length (c0 - 10)) (l0.drop 10) := came_drop w (some ad) c0 l0 10 hr0 hc0 (by omega) (by omega)
 have HV10 := Aside0.mk hV10
 clear hV10
 obtain ⟨A1, hcut1, hV1⟩ : ∃ A1 : Option Addr, (∀ W' : World, (Instr.slice 39 (.slice (some ad) l0.length c0) (some (.int .i64 1)) none none).run Tryd.prog W' = .ok (.slice A1 (l0.length - 1) (c0 - 1)) W') ∧ ∀ W : World, Below w.heap.size w W → Kd.V (Kd.int .u8) 5 W W.heap.size (fun k => k < w.heap.size) (.slice A1 (l0.drop 1).length (c0 - 1)) (l0.drop 1) := came_drop w (some ad) c0 l0 1 hr0 hc0 (by omega) (by omega)
 have HV1 := Aside0.mk hV1
 clear hV1
 clear hr0 hc0
 have q0 : (10 : Int) ≤ (l0.length : Int) := by omega
 have d1 : (t == 1) = true := by simp [h1]
 have d2 : (t != 1) = false := by simp [h1]
 have HS := Aside0.mk hs
 have q1 : (l0.length : Int) ≤ 5000 := by omega
 clear hs h1
 have d3 : (rd l0 0 == 4) = true := by simp [h4]
 have d4 : (rd l0 0 != 4) = false := by simp [h4]
 clear h4
 have d5 : (rd l0 9 == (l0.length : Int) - 10) = true := by simp [h5]
 have d6 : (rd l0 9 != (l0.length : Int) - 10) = false := by simp [h5]
 have hmf := hmf_
 clear h5
 have HE := Aside0.mk he
 have E1 := Aside0.mk e1
 have E2 := Aside0.mk e2
 have E3 := Aside0.mk e3
 clear he e1 e2 e3
 have d7 : decide (lg < 0) = false := decide_eq_false (by omega)
 have d8 : (lg == 0) = false := by simp; omega
 have d9 : (lg == ax) = true := by simp [g2]
 have d10 : (lg != ax) = false := by simp [g2]
 have HW := Aside0.mk hw
 clear g2 hw
 have d11 : (s1 == wr) = false := by simp [g3]
 have d12 : (s1 != wr) = true := by simp [g3]
 go_enter Tryd.func50, Tryd.ntmps50
 go_wp2_with (first
  | (go_at_call 15; (with_reducible refine (msg_Sane.calls t (some ad) c0 l0 true _ (Kd.C_alloc (Kd.C_alloc (Kd.C_alloc HR0.out _) _) _) HC0.out HS.out).mono ?_); rintro e w1 ⟨rfl, hb1⟩; have HG1 := Aside0.mk (got0 w w1 t (some ad) l0 c0 hb1); obtain ⟨⟨cm0, cm1⟩, ⟨ch0, ch1, ch2, ch3⟩, ⟨cn0, cn1, cn2⟩, ⟨fh0, fh1, fh2, fh3⟩, ⟨fn0, fn1, fn2⟩⟩ := HG1.out.cells; obtain ⟨z0, z9⟩ := HZ.out w1 HG1.out.low; clear hb1)
  | (go_at_call 60; (with_reducible refine (each_at w w1 A10 c0 l0 sub true (lg, rl) HG1.out.low HV10.out HE.out).mono ?_); rintro e w3 ⟨rfl, hC3, hk3⟩; have HG3 := Aside0.mk (HG1.out.kep hk3); have HC3 := Aside0.mk hC3; clear cm0 cm1 ch0 ch1 ch2 ch3 cn0 cn1 cn2 fh0 fh1 fh2 fh3 fn0 fn1 fn2 z0 z9; obtain ⟨⟨cm0, cm1⟩, ⟨ch0, ch1, ch2, ch3⟩, ⟨cn0, cn1, cn2⟩, ⟨fh0, fh1, fh2, fh3⟩, ⟨fn0, fn1, fn2⟩⟩ := HG3.out.cells; clear hC3 hk3)
  | (go_at_call 63; have hg := octet_Get.calls 8 (fun k => k < w.heap.size) A1 (c0 - 1) (l0.drop 1) 2 s1 s2 s3 w3 (HV1.out w3 HG3.out.low) E1.out; rw [List.length_drop] at hg; (with_reducible refine hg.mono ?_); clear hg; rintro e w4 ⟨v4, rfl, hV4, hb4⟩; obtain ⟨A4, c4, rfl⟩ := Kd.V_slice hV4; have HV4 := Aside0.mk (show Kd.V (Kd.int .u8) 5 w4 w4.heap.size (fun k_ => k_ < w.heap.size ∨ w3.heap.size ≤ k_) (.slice A4 s2.length c4) s2 from hV4); have HG4 := Aside0.mk (HG3.out.below hb4); have HC4 := Aside0.mk (HC3.out.below hb4); clear cm0 cm1 ch0 ch1 ch2 ch3 cn0 cn1 cn2 fh0 fh1 fh2 fh3 fn0 fn1 fn2; clear hV4 hb4)
  | (go_at_call 63; (with_reducible refine (octet_Get.calls 8 (fun k_ => k_ < w.heap.size ∨ w3.heap.size ≤ k_) A4 c4 s2 2 hh h2 h3 w4 HV4.out E2.out).mono ?_); rintro e w5 ⟨v5, rfl, hV5, hb5⟩; obtain ⟨A5, c5, rfl⟩ := Kd.V_slice hV5; have HV5 := Aside0.mk (show Kd.V (Kd.int .u8) 5 w5 w5.heap.size (fun k_ => (k_ < w.heap.size ∨ w3.heap.size ≤ k_) ∨ w4.heap.size ≤ k_) (.slice A5 h2.length c5) h2 from hV5); have HG5 := Aside0.mk (HG4.out.below hb5); have HC5 := Aside0.mk (HC4.out.below hb5); clear hV5 hb5)
  | (go_at_call 63; (with_reducible refine (octet_Get.calls 8 (fun k_ => (k_ < w.heap.size ∨ w3.heap.size ≤ k_) ∨ w4.heap.size ≤ k_) A5 c5 h2 4 ii i2 i3 w5 HV5.out E3.out).mono ?_); rintro e w6 ⟨v7, rfl, hV7, hb6⟩; obtain ⟨A7, c7, rfl⟩ := Kd.V_slice hV7; have HG6 := Aside0.mk (HG5.out.below hb6); have HC6 := Aside0.mk (HC5.out.below hb6); clear hV7 hb6; obtain ⟨⟨cm0, cm1⟩, ⟨ch0, ch1, ch2, ch3⟩, ⟨cn0, cn1, cn2⟩, ⟨fh0, fh1, fh2, fh3⟩, ⟨fn0, fn1, fn2⟩⟩ := HG6.out.cells; have m0 : w6.cell? ⟨w1.heap.size, 0, none⟩ = some (.int .i64 lg) := (blk_cell HC6.out.1 0).trans rfl; have m1 : w6.cell? ⟨w1.heap.size + 1, 0, none⟩ = some (.int .i64 rl) := (blk_cell HC6.out.2 0).trans rfl)
  | (go_at_call 46; (with_reducible refine (open_written.calls lg wr w6 HW.out).mono ?_); rintro e w7 ⟨rfl, nd, rfl⟩; have HG7 := Aside0.mk (HG6.out.below (pw_below_drewN (Below.refl _ _) nd)))
  | (go_at_call 59; refine (open_bad.calls 2 (fun _ => False) none 0 [] 0 0 0 0 2 2 [] _ (Kd.V_nil _ _ _ _ _) rfl).mono ?_; rintro e wb ⟨v6, rfl, hV6, hbb⟩; obtain ⟨A6, c6, rfl⟩ := Kd.V_slice hV6; simp only [List.length_nil]; have HGT := Aside0.mk (HG7.out.below hbb); clear cm0 cm1 ch0 ch1 ch2 ch3 cn0 cn1 cn2 fh0 fh1 fh2 fh3 fn0 fn1 fn2 m0 m1; obtain ⟨⟨cm0, cm1⟩, ⟨ch0, ch1, ch2, ch3⟩, ⟨cn0, cn1, cn2⟩, ⟨fh0, fh1, fh2, fh3⟩, ⟨fn0, fn1, fn2⟩⟩ := HGT.out.cells; have HV6 := Aside0.mk hV6; clear hV6 hbb))
 refine bodyPost_ret (results_cc rfl _ _ (w.heap.size + 1) (w.heap.size + 2) 70 41 #[.int .i64 0, .int .i64 0, .int .i64 0, .int .i64 0] #[.int .i64 2, .int .i64 2, .slice A6 0 c6] (0, 0) (0, 0) _ _ rfl (store3_far (store4 HGT.out.b4 _ _ _ _) (by omega) _ _ _) Tryd.underlying70 rfl (by kernel_rfl) rfl (store3 (store4_far HGT.out.b5 (by omega) _ _ _ _) _ _ _) Tryd.underlying41 rfl (by kernel_rfl)) rfl ?_
 exact ⟨_, rfl, fin7 HV6.out (fun k hk => hk.elim (fun h => h.elim) (fun h => by have q1 := blk_lt HG7.out.b4; have q2 := blk_lt HG7.out.b5; omega)) HGT.out.low (by omega) (by omega) _ _ _ _ _ _ _⟩
set_option maxHeartbeats 8000000 in
set_option maxRecDepth 100000 in
theorem open_Get.bad6a (t : Int) (A0 : Option Addr) (c0 : Nat) (l0 : List Int) (ax : Int) (w : World) (h1 : t = 1) (hs : msg_Sane.f t l0 = some true) (hl : 10 ≤ l0.length) (hl2 : l0.length ≤ 5000) (p0 : 0 ≤ rd l0 9) (p1 : rd l0 9 < 256) (h4 : rd l0 0 = 4) (h5 : rd l0 9 = (l0.length : Int) - 10) (sub lg rl : Int) (he : eachG open2 5000 (-1, -1) (l0.drop 10) = some (sub, true, (lg, rl))) (s1 hh ii : Int) (s2 h2 i2 : List Int) (s3 h3 i3 : Bool) (e1 : octet_Get.f 8 (l0.drop 1) 2 = some (s1, s2, s3)) (e2 : octet_Get.f 8 s2 2 = some (hh, h2, h3)) (e3 : octet_Get.f 8 h2 4 = some (ii, i2, i3)) (g1 : 0 < lg) (g2 : lg = ax) (wr : Int) (hw : open_written.f lg = some wr) (g3 : s1 = wr) (g4 : hh = 1) (hr0 : Kd.C (Kd.int .u8) w A0 l0.length l0) (hc0 : l0.length ≤ c0) :
  Calls Tryd.prog 50 #[.agg #[.int .i64 t, .slice A0 l0.length c0], .int .i64 ax] w fun e w' => ∃ v6_ : Value, e = .returned (.tuple #[.agg #[.int .i64 0, .int .i64 0, .int .i64 0, .int .i64 0], .agg #[.int .i64 2, .int .i64 6, v6_]]) ∧ Kd.V (Kd.int .u8) 5 w' w.heap.size (fun k_ => (w.heap.size ≤ k_)) v6_ [] ∧ Below w.heap.size w w' := by
 have HR0 := Aside0.mk hr0
 have HC0 := Aside0.mk hc0
 have HG0 := Aside0.mk (got0 w (((w.alloc (Obj.cells #[.int .i64 t, .slice A0 l0.length c0] 45)).alloc (Obj.cells #[.int .i64 0, .int .i64 0, .int .i64 0, .int .i64 0] 70)).alloc (Obj.cells #[.int .i64 0, .int .i64 0, .slice none 0 0] 41)) t A0 l0 c0 (Below.refl _ _))
 obtain ⟨ad, rfl, -⟩ := hr0.2.2 (by omega)
 have HZ : Aside0 (∀ W : World, Below w.heap.size w W → W.cell? ad = some (.int .u8 (rd l0 0)) ∧ W.cell? ⟨ad.block, ad.off + 9, none⟩ = some (.int .u8 (rd l0 9))) := ⟨fun W hb => by
  obtain ⟨ad1, e1, z0⟩ := Kd.at_int (Kd.C_below hr0 hb) (0 : Int) (by omega) (by omega)
  obtain ⟨ad2, e2, z9⟩ := Kd.at_int (Kd.C_below hr0 hb) (9 : Int) (by omega) (by omega)
  injection e1 with e1
  injection e2 with e2
  subst e1
  subst e2
  rw [Int.toNat_zero, Addr.add_zero'] at z0
  exact ⟨z0, z9⟩⟩
 obtain ⟨A10, hcut10, hV10⟩ : ∃ A1 : Option Addr, (∀ W' : World, (Instr.slice 39 (.slice (some ad) l0.length c0) (some (.int .i64 10)) none none).run Tryd.prog W' = .ok (.slice A1 (l0.length - 10) (c0 - 10)) W') ∧ ∀ W : World, Below w.heap.size w W → Kd.V (Kd.int .u8) 5 W W.heap.size (fun k => k < w.heap.size) (.slice A1 (l0.drop 10).length (c0 - 10)) (l0.drop 10) := came_drop w (some ad) c0 l0 10 hr0 hc0 (by omega) (by omega)
 have HV10 := Aside0.mk hV10
 clear hV10
 obtain ⟨A1, hcut1, hV1⟩ : ∃ A1 : Option Addr, (∀ W' : World, (Instr.slice 39 (.slice (some ad) l0.length c0) (some (.int .i64 1)) none none).run Tryd.prog W' = .ok (.slice A1 (l0.length - 1) (c0 - 1)) W') ∧ ∀ W : World, Below w.heap.size w W → Kd.V (Kd.int .u8) 5 W W.heap.size (fun k => k < w.heap.size) (.slice A1 (l0.drop 1).length (c0 - 1)) (l0.drop 1) := came_drop w (some ad) c0 l0 1 hr0 hc0 (by omega) (by omega)
 have HV1 := Aside0.mk hV1
 clear hV1
 clear hr0 hc0
 have q0 : (10 : Int) ≤ (l0.length : Int) := by omega
 have d1 : (t == 1) = true := by simp [h1]
 have d2 : (t != 1) = false := by simp [h1]
 have HS := Aside0.mk hs
 have q1 : (l0.length : Int) ≤ 5000 := by omega
 clear hs h1
 have d3 : (rd l0 0 == 4) = true := by simp [h4]
 have d4 : (rd l0 0 != 4) = false := by simp [h4]
 clear h4
 have d5 : (rd l0 9 == (l0.length : Int) - 10) = true := by simp [h5]
 have d6 : (rd l0 9 != (l0.length : Int) - 10) = false := by simp [h5]
 have hmf := hmf_
 clear h5
 have HE := Aside0.mk he
 have E1 := Aside0.mk e1
 have E2 := Aside0.mk e2
 have E3 := Aside0.mk e3
 clear he e1 e2 e3
 have d7 : decide (lg < 0) = false := decide_eq_false (by omega)
 have d8 : (lg == 0) = false := by simp; omega
 have d9 : (lg == ax) = true := by simp [g2]
 have d10 : (lg != ax) = false := by simp [g2]
 have HW := Aside0.mk hw
 clear g2 hw
 have d11 : (s1 == wr) = true := by simp [g3]
 have d12 : (s1 != wr) = false := by simp [g3]
 clear g3
 have d13 : (hh == 1) = true := by simp [g4]
 clear g4
 go_enter Tryd.func50, Tryd.ntmps50
 go_wp2_with (first
  | (go_at_call 15; (with_reducible refine (msg_Sane.calls t (some ad) c0 l0 true _ (Kd.C_alloc (Kd.C_alloc (Kd.C_alloc HR0.out _) _) _) HC0.out HS.out).mono ?_); rintro e w1 ⟨rfl, hb1⟩; have HG1 := Aside0.mk (got0 w w1 t (some ad) l0 c0 hb1); obtain ⟨⟨cm0, cm1⟩, ⟨ch0, ch1, ch2, ch3⟩, ⟨cn0, cn1, cn2⟩, ⟨fh0, fh1, fh2, fh3⟩, ⟨fn0, fn1, fn2⟩⟩ := HG1.out.cells; obtain ⟨z0, z9⟩ := HZ.out w1 HG1.out.low; clear hb1)
  | (go_at_call 60; (with_reducible refine (each_at w w1 A10 c0 l0 sub true (lg, rl) HG1.out.low HV10.out HE.out).mono ?_); rintro e w3 ⟨rfl, hC3, hk3⟩; have HG3 := Aside0.mk (HG1.out.kep hk3); have HC3 := Aside0.mk hC3; clear cm0 cm1 ch0 ch1 ch2 ch3 cn0 cn1 cn2 fh0 fh1 fh2 fh3 fn0 fn1 fn2 z0 z9; obtain ⟨⟨cm0, cm1⟩, ⟨ch0, ch1, ch2, ch3⟩, ⟨cn0, cn1, cn2⟩, ⟨fh0, fh1, fh2, fh3⟩, ⟨fn0, fn1, fn2⟩⟩ := HG3.out.cells; clear hC3 hk3)
  | (go_at_call 63; have hg := octet_Get.calls 8 (fun k => k < w.heap.size) A1 (c0 - 1) (l0.drop 1) 2 s1 s2 s3 w3 (HV1.out w3 HG3.out.low) E1.out; rw [List.length_drop] at hg; (with_reducible refine hg.mono ?_); clear hg; rintro e w4 ⟨v4, rfl, hV4, hb4⟩; obtain ⟨A4, c4, rfl⟩ := Kd.V_slice hV4; have HV4 := Aside0.mk (show Kd.V (Kd.int .u8) 5 w4 w4.heap.size (fun k_ => k_ < w.heap.size ∨ w3.heap.size ≤ k_) (.slice A4 s2.length c4) s2 from hV4); have HG4 := Aside0.mk (HG3.out.below hb4); have HC4 := Aside0.mk (HC3.out.below hb4); clear cm0 cm1 ch0 ch1 ch2 ch3 cn0 cn1 cn2 fh0 fh1 fh2 fh3 fn0 fn1 fn2; clear hV4 hb4)
  | (go_at_call 63; (with_reducible refine (octet_Get.calls 8 (fun k_ => k_ < w.heap.size ∨ w3.heap.size ≤ k_) A4 c4 s2 2 hh h2 h3 w4 HV4.out E2.out).mono ?_); rintro e w5 ⟨v5, rfl, hV5, hb5⟩; obtain ⟨A5, c5, rfl⟩ := Kd.V_slice hV5; have HV5 := Aside0.mk (show Kd.V (Kd.int .u8) 5 w5 w5.heap.size (fun k_ => (k_ < w.heap.size ∨ w3.heap.size ≤ k_) ∨ w4.heap.size ≤ k_) (.slice A5 h2.length c5) h2 from hV5); have HG5 := Aside0.mk (HG4.out.below hb5); have HC5 := Aside0.mk (HC4.out.below hb5); clear hV5 hb5)
  | (go_at_call 63; (with_reducible refine (octet_Get.calls 8 (fun k_ => (k_ < w.heap.size ∨ w3.heap.size ≤ k_) ∨ w4.heap.size ≤ k_) A5 c5 h2 4 ii i2 i3 w5 HV5.out E3.out).mono ?_); rintro e w6 ⟨v7, rfl, hV7, hb6⟩; obtain ⟨A7, c7, rfl⟩ := Kd.V_slice hV7; have HG6 := Aside0.mk (HG5.out.below hb6); have HC6 := Aside0.mk (HC5.out.below hb6); clear hV7 hb6; obtain ⟨⟨cm0, cm1⟩, ⟨ch0, ch1, ch2, ch3⟩, ⟨cn0, cn1, cn2⟩, ⟨fh0, fh1, fh2, fh3⟩, ⟨fn0, fn1, fn2⟩⟩ := HG6.out.cells; have m0 : w6.cell? ⟨w1.heap.size, 0, none⟩ = some (.int .i64 lg) := (blk_cell HC6.out.1 0).trans rfl; have m1 : w6.cell? ⟨w1.heap.size + 1, 0, none⟩ = some (.int .i64 rl) := (blk_cell HC6.out.2 0).trans rfl)
  | (go_at_call 46; (with_reducible refine (open_written.calls lg wr w6 HW.out).mono ?_); rintro e w7 ⟨rfl, nd, rfl⟩; have HG7 := Aside0.mk (HG6.out.below (pw_below_drewN (Below.refl _ _) nd)))
  | (go_at_call 59; refine (open_bad.calls 6 (fun _ => False) none 0 [] 0 0 0 0 2 6 [] _ (Kd.V_nil _ _ _ _ _) rfl).mono ?_; rintro e wb ⟨v6, rfl, hV6, hbb⟩; obtain ⟨A6, c6, rfl⟩ := Kd.V_slice hV6; simp only [List.length_nil]; have HGT := Aside0.mk (HG7.out.below hbb); clear cm0 cm1 ch0 ch1 ch2 ch3 cn0 cn1 cn2 fh0 fh1 fh2 fh3 fn0 fn1 fn2 m0 m1; obtain ⟨⟨cm0, cm1⟩, ⟨ch0, ch1, ch2, ch3⟩, ⟨cn0, cn1, cn2⟩, ⟨fh0, fh1, fh2, fh3⟩, ⟨fn0, fn1, fn2⟩⟩ := HGT.out.cells; have HV6 := Aside0.mk hV6; clear hV6 hbb))
 refine bodyPost_ret (results_cc rfl _ _ (w.heap.size + 1) (w.heap.size + 2) 70 41 #[.int .i64 0, .int .i64 0, .int .i64 0, .int .i64 0] #[.int .i64 2, .int .i64 6, .slice A6 0 c6] (0, 0) (0, 0) _ _ rfl (store3_far (store4 HGT.out.b4 _ _ _ _) (by omega) _ _ _) Tryd.underlying70 rfl (by kernel_rfl) rfl (store3 (store4_far HGT.out.b5 (by omega) _ _ _ _) _ _ _) Tryd.underlying41 rfl (by kernel_rfl)) rfl ?_
 exact ⟨_, rfl, fin7 HV6.out (fun k hk => hk.elim (fun h => h.elim) (fun h => by have q1 := blk_lt HG7.out.b4; have q2 := blk_lt HG7.out.b5; omega)) HGT.out.low (by omega) (by omega) _ _ _ _ _ _ _⟩
set_option maxHeartbeats 8000000 in
set_option maxRecDepth 100000 in
theorem open_Get.bad6b (t : Int) (A0 : Option Addr) (c0 : Nat) (l0 : List Int) (ax : Int) (w : World) (h1 : t = 1) (hs : msg_Sane.f t l0 = some true) (hl : 10 ≤ l0.length) (hl2 : l0.length ≤ 5000) (p0 : 0 ≤ rd l0 9) (p1 : rd l0 9 < 256) (h4 : rd l0 0 = 4) (h5 : rd l0 9 = (l0.length : Int) - 10) (sub lg rl : Int) (he : eachG open2 5000 (-1, -1) (l0.drop 10) = some (sub, true, (lg, rl))) (s1 hh ii : Int) (s2 h2 i2 : List Int) (s3 h3 i3 : Bool) (e1 : octet_Get.f 8 (l0.drop 1) 2 = some (s1, s2, s3)) (e2 : octet_Get.f 8 s2 2 = some (hh, h2, h3)) (e3 : octet_Get.f 8 h2 4 = some (ii, i2, i3)) (g1 : 0 < lg) (g2 : lg = ax) (wr : Int) (hw : open_written.f lg = some wr) (g3 : s1 = wr) (g4 : hh = 2) (hr0 : Kd.C (Kd.int .u8) w A0 l0.length l0) (hc0 : l0.length ≤ c0) :
  Calls Tryd.prog 50 #[.agg #[.int .i64 t, .slice A0 l0.length c0], .int .i64 ax] w fun e w' => ∃ v6_ : Value, e = .returned (.tuple #[.agg #[.int .i64 0, .int .i64 0, .int .i64 0, .int .i64 0], .agg #[.int .i64 2, .int .i64 6, v6_]]) ∧ Kd.V (Kd.int .u8) 5 w' w.heap.size (fun k_ => (w.heap.size ≤ k_)) v6_ [] ∧ Below w.heap.size w w' := by
 have HR0 := Aside0.mk hr0
 have HC0 := Aside0.mk hc0
 have HG0 := Aside0.mk (got0 w (((w.alloc (Obj.cells #[.int .i64 t, .slice A0 l0.length c0] 45)).alloc (Obj.cells #[.int .i64 0, .int .i64 0, .int .i64 0, .int .i64 0] 70)).alloc (Obj.cells #[.int .i64 0, .int .i64 0, .slice none 0 0] 41)) t A0 l0 c0 (Below.refl _ _))
 obtain ⟨ad, rfl, -⟩ := hr0.2.2 (by omega)
 have HZ : Aside0 (∀ W : World, Below w.heap.size w W → W.cell? ad = some (.int .u8 (rd l0 0)) ∧ W.cell? ⟨ad.block, ad.off + 9, none⟩ = some (.int .u8 (rd l0 9))) := ⟨fun W hb => by
  obtain ⟨ad1, e1, z0⟩ := Kd.at_int (Kd.C_below hr0 hb) (0 : Int) (by omega) (by omega)
  obtain ⟨ad2, e2, z9⟩ := Kd.at_int (Kd.C_below hr0 hb) (9 : Int) (by omega) (by omega)
  injection e1 with e1
  injection e2 with e2
  subst e1
  subst e2
  rw [Int.toNat_zero, Addr.add_zero'] at z0
  exact ⟨z0, z9⟩⟩
 obtain ⟨A10, hcut10, hV10⟩ : ∃ A1 : Option Addr, (∀ W' : World, (Instr.slice 39 (.slice (some ad) l0.length c0) (some (.int .i64 10)) none none).run Tryd.prog W' = .ok (.slice A1 (l0.length - 10) (c0 - 10)) W') ∧ ∀ W : World, Below w.heap.size w W → Kd.V (Kd.int .u8) 5 W W.heap.size (fun k => k < w.heap.size) (.slice A1 (l0.drop 10).length (c0 - 10)) (l0.drop 10) := came_drop w (some ad) c0 l0 10 hr0 hc0 (by omega) (by omega)
 have HV10 := Aside0.mk hV10
 clear hV10
 obtain ⟨A1, hcut1, hV1⟩ : ∃ A1 : Option Addr, (∀ W' : World, (Instr.slice 39 (.slice (some ad) l0.length c0) (some (.int .i64 1)) none none).run Tryd.prog W' = .ok (.slice A1 (l0.length - 1) (c0 - 1)) W') ∧ ∀ W : World, Below w.heap.size w W → Kd.V (Kd.int .u8) 5 W W.heap.size (fun k => k < w.heap.size) (.slice A1 (l0.drop 1).length (c0 - 1)) (l0.drop 1) := came_drop w (some ad) c0 l0 1 hr0 hc0 (by omega) (by omega)
 have HV1 := Aside0.mk hV1
 clear hV1
 clear hr0 hc0
 have q0 : (10 : Int) ≤ (l0.length : Int) := by omega
 have d1 : (t == 1) = true := by simp [h1]
 have d2 : (t != 1) = false := by simp [h1]
 have HS := Aside0.mk hs
 have q1 : (l0.length : Int) ≤ 5000 := by omega
 clear hs h1
 have d3 : (rd l0 0 == 4) = true := by simp [h4]
 have d4 : (rd l0 0 != 4) = false := by simp [h4]
 clear h4
 have d5 : (rd l0 9 == (l0.length : Int) - 10) = true := by simp [h5]
 have d6 : (rd l0 9 != (l0.length : Int) - 10) = false := by simp [h5]
 have hmf := hmf_
 clear h5
 have HE := Aside0.mk he
 have E1 := Aside0.mk e1
 have E2 := Aside0.mk e2
 have E3 := Aside0.mk e3
 clear he e1 e2 e3
 have d7 : decide (lg < 0) = false := decide_eq_false (by omega)
 have d8 : (lg == 0) = false := by simp; omega
 have d9 : (lg == ax) = true := by simp [g2]
 have d10 : (lg != ax) = false := by simp [g2]
 have HW := Aside0.mk hw
 clear g2 hw
 have d11 : (s1 == wr) = true := by simp [g3]
 have d12 : (s1 != wr) = false := by simp [g3]
 clear g3
 have d13 : (hh == 1) = false := by simp [g4]
 have d14 : (hh == 2) = true := by simp [g4]
 clear g4
 go_enter Tryd.func50, Tryd.ntmps50
 go_wp2_with (first
  | (go_at_call 15; (with_reducible refine (msg_Sane.calls t (some ad) c0 l0 true _ (Kd.C_alloc (Kd.C_alloc (Kd.C_alloc HR0.out _) _) _) HC0.out HS.out).mono ?_); rintro e w1 ⟨rfl, hb1⟩; have HG1 := Aside0.mk (got0 w w1 t (some ad) l0 c0 hb1); obtain ⟨⟨cm0, cm1⟩, ⟨ch0, ch1, ch2, ch3⟩, ⟨cn0, cn1, cn2⟩, ⟨fh0, fh1, fh2, fh3⟩, ⟨fn0, fn1, fn2⟩⟩ := HG1.out.cells; obtain ⟨z0, z9⟩ := HZ.out w1 HG1.out.low; clear hb1)
  | (go_at_call 60; (with_reducible refine (each_at w w1 A10 c0 l0 sub true (lg, rl) HG1.out.low HV10.out HE.out).mono ?_); rintro e w3 ⟨rfl, hC3, hk3⟩; have HG3 := Aside0.mk (HG1.out.kep hk3); have HC3 := Aside0.mk hC3; clear cm0 cm1 ch0 ch1 ch2 ch3 cn0 cn1 cn2 fh0 fh1 fh2 fh3 fn0 fn1 fn2 z0 z9; obtain ⟨⟨cm0, cm1⟩, ⟨ch0, ch1, ch2, ch3⟩, ⟨cn0, cn1, cn2⟩, ⟨fh0, fh1, fh2, fh3⟩, ⟨fn0, fn1, fn2⟩⟩ := HG3.out.cells; clear hC3 hk3)
  | (go_at_call 63; have hg := octet_Get.calls 8 (fun k => k < w.heap.size) A1 (c0 - 1) (l0.drop 1) 2 s1 s2 s3 w3 (HV1.out w3 HG3.out.low) E1.out; rw [List.length_drop] at hg; (with_reducible refine hg.mono ?_); clear hg; rintro e w4 ⟨v4, rfl, hV4, hb4⟩; obtain ⟨A4, c4, rfl⟩ := Kd.V_slice hV4; have HV4 := Aside0.mk (show Kd.V (Kd.int .u8) 5 w4 w4.heap.size (fun k_ => k_ < w.heap.size ∨ w3.heap.size ≤ k_) (.slice A4 s2.length c4) s2 from hV4); have HG4 := Aside0.mk (HG3.out.below hb4); have HC4 := Aside0.mk (HC3.out.below hb4); clear cm0 cm1 ch0 ch1 ch2 ch3 cn0 cn1 cn2 fh0 fh1 fh2 fh3 fn0 fn1 fn2; clear hV4 hb4)
  | (go_at_call 63; (with_reducible refine (octet_Get.calls 8 (fun k_ => k_ < w.heap.size ∨ w3.heap.size ≤ k_) A4 c4 s2 2 hh h2 h3 w4 HV4.out E2.out).mono ?_); rintro e w5 ⟨v5, rfl, hV5, hb5⟩; obtain ⟨A5, c5, rfl⟩ := Kd.V_slice hV5; have HV5 := Aside0.mk (show Kd.V (Kd.int .u8) 5 w5 w5.heap.size (fun k_ => (k_ < w.heap.size ∨ w3.heap.size ≤ k_) ∨ w4.heap.size ≤ k_) (.slice A5 h2.length c5) h2 from hV5); have HG5 := Aside0.mk (HG4.out.below hb5); have HC5 := Aside0.mk (HC4.out.below hb5); clear hV5 hb5)
  | (go_at_call 63; (with_reducible refine (octet_Get.calls 8 (fun k_ => (k_ < w.heap.size ∨ w3.heap.size ≤ k_) ∨ w4.heap.size ≤ k_) A5 c5 h2 4 ii i2 i3 w5 HV5.out E3.out).mono ?_); rintro e w6 ⟨v7, rfl, hV7, hb6⟩; obtain ⟨A7, c7, rfl⟩ := Kd.V_slice hV7; have HG6 := Aside0.mk (HG5.out.below hb6); have HC6 := Aside0.mk (HC5.out.below hb6); clear hV7 hb6; obtain ⟨⟨cm0, cm1⟩, ⟨ch0, ch1, ch2, ch3⟩, ⟨cn0, cn1, cn2⟩, ⟨fh0, fh1, fh2, fh3⟩, ⟨fn0, fn1, fn2⟩⟩ := HG6.out.cells; have m0 : w6.cell? ⟨w1.heap.size, 0, none⟩ = some (.int .i64 lg) := (blk_cell HC6.out.1 0).trans rfl; have m1 : w6.cell? ⟨w1.heap.size + 1, 0, none⟩ = some (.int .i64 rl) := (blk_cell HC6.out.2 0).trans rfl)
  | (go_at_call 46; (with_reducible refine (open_written.calls lg wr w6 HW.out).mono ?_); rintro e w7 ⟨rfl, nd, rfl⟩; have HG7 := Aside0.mk (HG6.out.below (pw_below_drewN (Below.refl _ _) nd)))
  | (go_at_call 59; refine (open_bad.calls 6 (fun _ => False) none 0 [] 0 0 0 0 2 6 [] _ (Kd.V_nil _ _ _ _ _) rfl).mono ?_; rintro e wb ⟨v6, rfl, hV6, hbb⟩; obtain ⟨A6, c6, rfl⟩ := Kd.V_slice hV6; simp only [List.length_nil]; have HGT := Aside0.mk (HG7.out.below hbb); clear cm0 cm1 ch0 ch1 ch2 ch3 cn0 cn1 cn2 fh0 fh1 fh2 fh3 fn0 fn1 fn2 m0 m1; obtain ⟨⟨cm0, cm1⟩, ⟨ch0, ch1, ch2, ch3⟩, ⟨cn0, cn1, cn2⟩, ⟨fh0, fh1, fh2, fh3⟩, ⟨fn0, fn1, fn2⟩⟩ := HGT.out.cells; have HV6 := Aside0.mk hV6; clear hV6 hbb))
 refine bodyPost_ret (results_cc rfl _ _ (w.heap.size + 1) (w.heap.size + 2) 70 41 #[.int .i64 0, .int .i64 0, .int .i64 0, .int .i64 0] #[.int .i64 2, .int .i64 6, .slice A6 0 c6] (0, 0) (0, 0) _ _ rfl (store3_far (store4 HGT.out.b4 _ _ _ _) (by omega) _ _ _) Tryd.underlying70 rfl (by kernel_rfl) rfl (store3 (store4_far HGT.out.b5 (by omega) _ _ _ _) _ _ _) Tryd.underlying41 rfl (by kernel_rfl)) rfl ?_
 exact ⟨_, rfl, fin7 HV6.out (fun k hk => hk.elim (fun h => h.elim) (fun h => by have q1 := blk_lt HG7.out.b4; have q2 := blk_lt HG7.out.b5; omega)) HGT.out.low (by omega) (by omega) _ _ _ _ _ _ _⟩
set_option maxHeartbeats 8000000 in
set_option maxRecDepth 100000 in
theorem open_Get.bad3 (t : Int) (A0 : Option Addr) (c0 : Nat) (l0 : List Int) (ax : Int) (w : World) (h1 : t = 1) (hs : msg_Sane.f t l0 = some true) (hl : 10 ≤ l0.length) (hl2 : l0.length ≤ 5000) (p0 : 0 ≤ rd l0 9) (p1 : rd l0 9 < 256) (h4 : rd l0 0 = 4) (h5 : rd l0 9 = (l0.length : Int) - 10) (sub lg rl : Int) (he : eachG open2 5000 (-1, -1) (l0.drop 10) = some (sub, true, (lg, rl))) (s1 hh ii : Int) (s2 h2 i2 : List Int) (s3 h3 i3 : Bool) (e1 : octet_Get.f 8 (l0.drop 1) 2 = some (s1, s2, s3)) (e2 : octet_Get.f 8 s2 2 = some (hh, h2, h3)) (e3 : octet_Get.f 8 h2 4 = some (ii, i2, i3)) (g1 : 0 < lg) (g2 : lg = ax) (wr : Int) (hw : open_written.f lg = some wr) (g3 : s1 = wr) (g4 : hh ≠ 1) (g5 : hh ≠ 2) (g6 : ii = 0) (hr0 : Kd.C (Kd.int .u8) w A0 l0.length l0) (hc0 : l0.length ≤ c0) :
  Calls Tryd.prog 50 #[.agg #[.int .i64 t, .slice A0 l0.length c0], .int .i64 ax] w fun e w' => ∃ v6_ : Value, e = .returned (.tuple #[.agg #[.int .i64 0, .int .i64 0, .int .i64 0, .int .i64 0], .agg #[.int .i64 2, .int .i64 3, v6_]]) ∧ Kd.V (Kd.int .u8) 5 w' w.heap.size (fun k_ => (w.heap.size ≤ k_)) v6_ [] ∧ Below w.heap.size w w' := by
 have HR0 := Aside0.mk hr0
 have HC0 := Aside0.mk hc0
 have HG0 := Aside0.mk (got0 w (((w.alloc (Obj.cells #[.int .i64 t, .slice A0 l0.length c0] 45)).alloc (Obj.cells #[.int .i64 0, .int .i64 0, .int .i64 0, .int .i64 0] 70)).alloc (Obj.cells #[.int .i64 0, .int .i64 0, .slice none 0 0] 41)) t A0 l0 c0 (Below.refl _ _))
 obtain ⟨ad, rfl, -⟩ := hr0.2.2 (by omega)
 have HZ : Aside0 (∀ W : World, Below w.heap.size w W → W.cell? ad = some (.int .u8 (rd l0 0)) ∧ W.cell? ⟨ad.block, ad.off + 9, none⟩ = some (.int .u8 (rd l0 9))) := ⟨fun W hb => by
  obtain ⟨ad1, e1, z0⟩ := Kd.at_int (Kd.C_below hr0 hb) (0 : Int) (by omega) (by omega)
  obtain ⟨ad2, e2, z9⟩ := Kd.at_int (Kd.C_below hr0 hb) (9 : Int) (by omega) (by omega)
  injection e1 with e1
  injection e2 with e2
  subst e1
  subst e2
  rw [Int.toNat_zero, Addr.add_zero'] at z0
  exact ⟨z0, z9⟩⟩
 obtain ⟨A10, hcut10, hV10⟩ : ∃ A1 : Option Addr, (∀ W' : World, (Instr.slice 39 (.slice (some ad) l0.length c0) (some (.int .i64 10)) none none).run Tryd.prog W' = .ok (.slice A1 (l0.length - 10) (c0 - 10)) W') ∧ ∀ W : World, Below w.heap.size w W → Kd.V (Kd.int .u8) 5 W W.heap.size (fun k => k < w.heap.size) (.slice A1 (l0.drop 10).length (c0 - 10)) (l0.drop 10) := came_drop w (some ad) c0 l0 10 hr0 hc0 (by omega) (by omega)
 have HV10 := Aside0.mk hV10
 clear hV10
 obtain ⟨A1, hcut1, hV1⟩ : ∃ A1 : Option Addr, (∀ W' : World, (Instr.slice 39 (.slice (some ad) l0.length c0) (some (.int .i64 1)) none none).run Tryd.prog W' = .ok (.slice A1 (l0.length - 1) (c0 - 1)) W') ∧ ∀ W : World, Below w.heap.size w W → Kd.V (Kd.int .u8) 5 W W.heap.size (fun k => k < w.heap.size) (.slice A1 (l0.drop 1).length (c0 - 1)) (l0.drop 1) := came_drop w (some ad) c0 l0 1 hr0 hc0 (by omega) (by omega)
 have HV1 := Aside0.mk hV1
 clear hV1
 clear hr0 hc0
 have q0 : (10 : Int) ≤ (l0.length : Int) := by omega
 have d1 : (t == 1) = true := by simp [h1]
 have d2 : (t != 1) = false := by simp [h1]
 have HS := Aside0.mk hs
 have q1 : (l0.length : Int) ≤ 5000 := by omega
 clear hs h1
 have d3 : (rd l0 0 == 4) = true := by simp [h4]
 have d4 : (rd l0 0 != 4) = false := by simp [h4]
 clear h4
 have d5 : (rd l0 9 == (l0.length : Int) - 10) = true := by simp [h5]
 have d6 : (rd l0 9 != (l0.length : Int) - 10) = false := by simp [h5]
 have hmf := hmf_
 clear h5
 have HE := Aside0.mk he
 have E1 := Aside0.mk e1
 have E2 := Aside0.mk e2
 have E3 := Aside0.mk e3
 clear he e1 e2 e3
 have d7 : decide (lg < 0) = false := decide_eq_false (by omega)
 have d8 : (lg == 0) = false := by simp; omega
 have d9 : (lg == ax) = true := by simp [g2]
 have d10 : (lg != ax) = false := by simp [g2]
 have HW := Aside0.mk hw
 clear g2 hw
 have d11 : (s1 == wr) = true := by simp [g3]
 have d12 : (s1 != wr) = false := by simp [g3]
 clear g3
 have d13 : (hh == 1) = false := by simp [g4]
 have d14 : (hh == 2) = false := by simp [g5]
 have d15 : (ii == 0) = true := by simp [g6]
 clear g6
 go_enter Tryd.func50, Tryd.ntmps50
 go_wp2_with (first
  | (go_at_call 15; (with_reducible refine (msg_Sane.calls t (some ad) c0 l0 true _ (Kd.C_alloc (Kd.C_alloc (Kd.C_alloc HR0.out _) _) _) HC0.out HS.out).mono ?_); rintro e w1 ⟨rfl, hb1⟩; have HG1 := Aside0.mk (got0 w w1 t (some ad) l0 c0 hb1); obtain ⟨⟨cm0, cm1⟩, ⟨ch0, ch1, ch2, ch3⟩, ⟨cn0, cn1, cn2⟩, ⟨fh0, fh1, fh2, fh3⟩, ⟨fn0, fn1, fn2⟩⟩ := HG1.out.cells; obtain ⟨z0, z9⟩ := HZ.out w1 HG1.out.low; clear hb1)
  | (go_at_call 60; (with_reducible refine (each_at w w1 A10 c0 l0 sub true (lg, rl) HG1.out.low HV10.out HE.out).mono ?_); rintro e w3 ⟨rfl, hC3, hk3⟩; have HG3 := Aside0.mk (HG1.out.kep hk3); have HC3 := Aside0.mk hC3; clear cm0 cm1 ch0 ch1 ch2 ch3 cn0 cn1 cn2 fh0 fh1 fh2 fh3 fn0 fn1 fn2 z0 z9; obtain ⟨⟨cm0, cm1⟩, ⟨ch0, ch1, ch2, ch3⟩, ⟨cn0, cn1, cn2⟩, ⟨fh0, fh1, fh2, fh3⟩, ⟨fn0, fn1, fn2⟩⟩ := HG3.out.cells; clear hC3 hk3)
  | (go_at_call 63; have hg := octet_Get.calls 8 (fun k => k < w.heap.size) A1 (c0 - 1) (l0.drop 1) 2 s1 s2 s3 w3 (HV1.out w3 HG3.out.low) E1.out; rw [List.length_drop] at hg; (with_reducible refine hg.mono ?_); clear hg; rintro e w4 ⟨v4, rfl, hV4, hb4⟩; obtain ⟨A4, c4, rfl⟩ := Kd.V_slice hV4; have HV4 := Aside0.mk (show Kd.V (Kd.int .u8) 5 w4 w4.heap.size (fun k_ => k_ < w.heap.size ∨ w3.heap.size ≤ k_) (.slice A4 s2.length c4) s2 from hV4); have HG4 := Aside0.mk (HG3.out.below hb4); have HC4 := Aside0.mk (HC3.out.below hb4); clear cm0 cm1 ch0 ch1 ch2 ch3 cn0 cn1 cn2 fh0 fh1 fh2 fh3 fn0 fn1 fn2; clear hV4 hb4)
  | (go_at_call 63; (with_reducible refine (octet_Get.calls 8 (fun k_ => k_ < w.heap.size ∨ w3.heap.size ≤ k_) A4 c4 s2 2 hh h2 h3 w4 HV4.out E2.out).mono ?_); rintro e w5 ⟨v5, rfl, hV5, hb5⟩; obtain ⟨A5, c5, rfl⟩ := Kd.V_slice hV5; have HV5 := Aside0.mk (show Kd.V (Kd.int .u8) 5 w5 w5.heap.size (fun k_ => (k_ < w.heap.size ∨ w3.heap.size ≤ k_) ∨ w4.heap.size ≤ k_) (.slice A5 h2.length c5) h2 from hV5); have HG5 := Aside0.mk (HG4.out.below hb5); have HC5 := Aside0.mk (HC4.out.below hb5); clear hV5 hb5)
  | (go_at_call 63; (with_reducible refine (octet_Get.calls 8 (fun k_ => (k_ < w.heap.size ∨ w3.heap.size ≤ k_) ∨ w4.heap.size ≤ k_) A5 c5 h2 4 ii i2 i3 w5 HV5.out E3.out).mono ?_); rintro e w6 ⟨v7, rfl, hV7, hb6⟩; obtain ⟨A7, c7, rfl⟩ := Kd.V_slice hV7; have HG6 := Aside0.mk (HG5.out.below hb6); have HC6 := Aside0.mk (HC5.out.below hb6); clear hV7 hb6; obtain ⟨⟨cm0, cm1⟩, ⟨ch0, ch1, ch2, ch3⟩, ⟨cn0, cn1, cn2⟩, ⟨fh0, fh1, fh2, fh3⟩, ⟨fn0, fn1, fn2⟩⟩ := HG6.out.cells; have m0 : w6.cell? ⟨w1.heap.size, 0, none⟩ = some (.int .i64 lg) := (blk_cell HC6.out.1 0).trans rfl; have m1 : w6.cell? ⟨w1.heap.size + 1, 0, none⟩ = some (.int .i64 rl) := (blk_cell HC6.out.2 0).trans rfl)
  | (go_at_call 46; (with_reducible refine (open_written.calls lg wr w6 HW.out).mono ?_); rintro e w7 ⟨rfl, nd, rfl⟩; have HG7 := Aside0.mk (HG6.out.below (pw_below_drewN (Below.refl _ _) nd)))
  | (go_at_call 59; refine (open_bad.calls 3 (fun _ => False) none 0 [] 0 0 0 0 2 3 [] _ (Kd.V_nil _ _ _ _ _) rfl).mono ?_; rintro e wb ⟨v6, rfl, hV6, hbb⟩; obtain ⟨A6, c6, rfl⟩ := Kd.V_slice hV6; simp only [List.length_nil]; have HGT := Aside0.mk (HG7.out.below hbb); clear cm0 cm1 ch0 ch1 ch2 ch3 cn0 cn1 cn2 fh0 fh1 fh2 fh3 fn0 fn1 fn2 m0 m1; obtain ⟨⟨cm0, cm1⟩, ⟨ch0, ch1, ch2, ch3⟩, ⟨cn0, cn1, cn2⟩, ⟨fh0, fh1, fh2, fh3⟩, ⟨fn0, fn1, fn2⟩⟩ := HGT.out.cells; have HV6 := Aside0.mk hV6; clear hV6 hbb))
 refine bodyPost_ret (results_cc rfl _ _ (w.heap.size + 1) (w.heap.size + 2) 70 41 #[.int .i64 0, .int .i64 0, .int .i64 0, .int .i64 0] #[.int .i64 2, .int .i64 3, .slice A6 0 c6] (0, 0) (0, 0) _ _ rfl (store3_far (store4 HGT.out.b4 _ _ _ _) (by omega) _ _ _) Tryd.underlying70 rfl (by kernel_rfl) rfl (store3 (store4_far HGT.out.b5 (by omega) _ _ _ _) _ _ _) Tryd.underlying41 rfl (by kernel_rfl)) rfl ?_
 exact ⟨_, rfl, fin7 HV6.out (fun k hk => hk.elim (fun h => h.elim) (fun h => by have q1 := blk_lt HG7.out.b4; have q2 := blk_lt HG7.out.b5; omega)) HGT.out.low (by omega) (by omega) _ _ _ _ _ _ _⟩
set_option maxHeartbeats 8000000 in
set_option maxRecDepth 100000 in
theorem open_Get.good (t : Int) (A0 : Option Addr) (c0 : Nat) (l0 : List Int) (ax : Int) (w : World) (h1 : t = 1) (hs : msg_Sane.f t l0 = some true) (hl : 10 ≤ l0.length) (hl2 : l0.length ≤ 5000) (p0 : 0 ≤ rd l0 9) (p1 : rd l0 9 < 256) (h4 : rd l0 0 = 4) (h5 : rd l0 9 = (l0.length : Int) - 10) (sub lg rl : Int) (he : eachG open2 5000 (-1, -1) (l0.drop 10) = some (sub, true, (lg, rl))) (s1 hh ii : Int) (s2 h2 i2 : List Int) (s3 h3 i3 : Bool) (e1 : octet_Get.f 8 (l0.drop 1) 2 = some (s1, s2, s3)) (e2 : octet_Get.f 8 s2 2 = some (hh, h2, h3)) (e3 : octet_Get.f 8 h2 4 = some (ii, i2, i3)) (g1 : 0 < lg) (g2 : lg = ax) (wr : Int) (hw : open_written.f lg = some wr) (g3 : s1 = wr) (g4 : hh ≠ 1) (g5 : hh ≠ 2) (g6 : ii ≠ 0) (hr0 : Kd.C (Kd.int .u8) w A0 l0.length l0) (hc0 : l0.length ≤ c0) :
  Calls Tryd.prog 50 #[.agg #[.int .i64 t, .slice A0 l0.length c0], .int .i64 ax] w fun e w' => ∃ v6_ : Value, e = .returned (.tuple #[.agg #[.int .i64 lg, .int .i64 hh, .int .i64 ii, .int .i64 rl], .agg #[.int .i64 0, .int .i64 0, v6_]]) ∧ Kd.V (Kd.int .u8) 5 w' w.heap.size (fun k_ => (w.heap.size ≤ k_)) v6_ [] ∧ Below w.heap.size w w' := by
 have HR0 := Aside0.mk hr0
 have HC0 := Aside0.mk hc0
 have HG0 := Aside0.mk (got0 w (((w.alloc (Obj.cells #[.int .i64 t, .slice A0 l0.length c0] 45)).alloc (Obj.cells #[.int .i64 0, .int .i64 0, .int .i64 0, .int .i64 0] 70)).alloc (Obj.cells #[.int .i64 0, .int .i64 0, .slice none 0 0] 41)) t A0 l0 c0 (Below.refl _ _))
 obtain ⟨ad, rfl, -⟩ := hr0.2.2 (by omega)
 have HZ : Aside0 (∀ W : World, Below w.heap.size w W → W.cell? ad = some (.int .u8 (rd l0 0)) ∧ W.cell? ⟨ad.block, ad.off + 9, none⟩ = some (.int .u8 (rd l0 9))) := ⟨fun W hb => by
  obtain ⟨ad1, e1, z0⟩ := Kd.at_int (Kd.C_below hr0 hb) (0 : Int) (by omega) (by omega)
  obtain ⟨ad2, e2, z9⟩ := Kd.at_int (Kd.C_below hr0 hb) (9 : Int) (by omega) (by omega)
  injection e1 with e1
  injection e2 with e2
  subst e1
  subst e2
  rw [Int.toNat_zero, Addr.add_zero'] at z0
  exact ⟨z0, z9⟩⟩
 obtain ⟨A10, hcut10, hV10⟩ : ∃ A1 : Option Addr, (∀ W' : World, (Instr.slice 39 (.slice (some ad) l0.length c0) (some (.int .i64 10)) none none).run Tryd.prog W' = .ok (.slice A1 (l0.length - 10) (c0 - 10)) W') ∧ ∀ W : World, Below w.heap.size w W → Kd.V (Kd.int .u8) 5 W W.heap.size (fun k => k < w.heap.size) (.slice A1 (l0.drop 10).length (c0 - 10)) (l0.drop 10) := came_drop w (some ad) c0 l0 10 hr0 hc0 (by omega) (by omega)
 have HV10 := Aside0.mk hV10
 clear hV10
 obtain ⟨A1, hcut1, hV1⟩ : ∃ A1 : Option Addr, (∀ W' : World, (Instr.slice 39 (.slice (some ad) l0.length c0) (some (.int .i64 1)) none none).run Tryd.prog W' = .ok (.slice A1 (l0.length - 1) (c0 - 1)) W') ∧ ∀ W : World, Below w.heap.size w W → Kd.V (Kd.int .u8) 5 W W.heap.size (fun k => k < w.heap.size) (.slice A1 (l0.drop 1).length (c0 - 1)) (l0.drop 1) := came_drop w (some ad) c0 l0 1 hr0 hc0 (by omega) (by omega)
 have HV1 := Aside0.mk hV1
 clear hV1
 clear hr0 hc0
 have q0 : (10 : Int) ≤ (l0.length : Int) := by omega
 have d1 : (t == 1) = true := by simp [h1]
 have d2 : (t != 1) = false := by simp [h1]
 have HS := Aside0.mk hs
 have q1 : (l0.length : Int) ≤ 5000 := by omega
 clear hs h1
 have d3 : (rd l0 0 == 4) = true := by simp [h4]
 have d4 : (rd l0 0 != 4) = false := by simp [h4]
 clear h4
 have d5 : (rd l0 9 == (l0.length : Int) - 10) = true := by simp [h5]
 have d6 : (rd l0 9 != (l0.length : Int) - 10) = false := by simp [h5]
 have hmf := hmf_
 clear h5
 have HE := Aside0.mk he
 have E1 := Aside0.mk e1
 have E2 := Aside0.mk e2
 have E3 := Aside0.mk e3
 clear he e1 e2 e3
 have d7 : decide (lg < 0) = false := decide_eq_false (by omega)
 have d8 : (lg == 0) = false := by simp; omega
 have d9 : (lg == ax) = true := by simp [g2]
 have d10 : (lg != ax) = false := by simp [g2]
 have HW := Aside0.mk hw
 clear g2 hw
 have d11 : (s1 == wr) = true := by simp [g3]
 have d12 : (s1 != wr) = false := by simp [g3]
 clear g3
 have d13 : (hh == 1) = false := by simp [g4]
 have d14 : (hh == 2) = false := by simp [g5]
 have d15 : (ii == 0) = false := by simp [g6]
 go_enter Tryd.func50, Tryd.ntmps50
 go_wp2_with (first
  | (go_at_call 15; (with_reducible refine (msg_Sane.calls t (some ad) c0 l0 true _ (Kd.C_alloc (Kd.C_alloc (Kd.C_alloc HR0.out _) _) _) HC0.out HS.out).mono ?_); rintro e w1 ⟨rfl, hb1⟩; have HG1 := Aside0.mk (got0 w w1 t (some ad) l0 c0 hb1); obtain ⟨⟨cm0, cm1⟩, ⟨ch0, ch1, ch2, ch3⟩, ⟨cn0, cn1, cn2⟩, ⟨fh0, fh1, fh2, fh3⟩, ⟨fn0, fn1, fn2⟩⟩ := HG1.out.cells; obtain ⟨z0, z9⟩ := HZ.out w1 HG1.out.low; clear hb1)
  | (go_at_call 60; (with_reducible refine (each_at w w1 A10 c0 l0 sub true (lg, rl) HG1.out.low HV10.out HE.out).mono ?_); rintro e w3 ⟨rfl, hC3, hk3⟩; have HG3 := Aside0.mk (HG1.out.kep hk3); have HC3 := Aside0.mk hC3; clear cm0 cm1 ch0 ch1 ch2 ch3 cn0 cn1 cn2 fh0 fh1 fh2 fh3 fn0 fn1 fn2 z0 z9; obtain ⟨⟨cm0, cm1⟩, ⟨ch0, ch1, ch2, ch3⟩, ⟨cn0, cn1, cn2⟩, ⟨fh0, fh1, fh2, fh3⟩, ⟨fn0, fn1, fn2⟩⟩ := HG3.out.cells; clear hC3 hk3)
  | (go_at_call 63; have hg := octet_Get.calls 8 (fun k => k < w.heap.size) A1 (c0 - 1) (l0.drop 1) 2 s1 s2 s3 w3 (HV1.out w3 HG3.out.low) E1.out; rw [List.length_drop] at hg; (with_reducible refine hg.mono ?_); clear hg; rintro e w4 ⟨v4, rfl, hV4, hb4⟩; obtain ⟨A4, c4, rfl⟩ := Kd.V_slice hV4; have HV4 := Aside0.mk (show Kd.V (Kd.int .u8) 5 w4 w4.heap.size (fun k_ => k_ < w.heap.size ∨ w3.heap.size ≤ k_) (.slice A4 s2.length c4) s2 from hV4); have HG4 := Aside0.mk (HG3.out.below hb4); have HC4 := Aside0.mk (HC3.out.below hb4); clear cm0 cm1 ch0 ch1 ch2 ch3 cn0 cn1 cn2 fh0 fh1 fh2 fh3 fn0 fn1 fn2; clear hV4 hb4)
  | (go_at_call 63; (with_reducible refine (octet_Get.calls 8 (fun k_ => k_ < w.heap.size ∨ w3.heap.size ≤ k_) A4 c4 s2 2 hh h2 h3 w4 HV4.out E2.out).mono ?_); rintro e w5 ⟨v5, rfl, hV5, hb5⟩; obtain ⟨A5, c5, rfl⟩ := Kd.V_slice hV5; have HV5 := Aside0.mk (show Kd.V (Kd.int .u8) 5 w5 w5.heap.size (fun k_ => (k_ < w.heap.size ∨ w3.heap.size ≤ k_) ∨ w4.heap.size ≤ k_) (.slice A5 h2.length c5) h2 from hV5); have HG5 := Aside0.mk (HG4.out.below hb5); have HC5 := Aside0.mk (HC4.out.below hb5); clear hV5 hb5)
  | (go_at_call 63; (with_reducible refine (octet_Get.calls 8 (fun k_ => (k_ < w.heap.size ∨ w3.heap.size ≤ k_) ∨ w4.heap.size ≤ k_) A5 c5 h2 4 ii i2 i3 w5 HV5.out E3.out).mono ?_); rintro e w6 ⟨v7, rfl, hV7, hb6⟩; obtain ⟨A7, c7, rfl⟩ := Kd.V_slice hV7; have HG6 := Aside0.mk (HG5.out.below hb6); have HC6 := Aside0.mk (HC5.out.below hb6); clear hV7 hb6; obtain ⟨⟨cm0, cm1⟩, ⟨ch0, ch1, ch2, ch3⟩, ⟨cn0, cn1, cn2⟩, ⟨fh0, fh1, fh2, fh3⟩, ⟨fn0, fn1, fn2⟩⟩ := HG6.out.cells; have m0 : w6.cell? ⟨w1.heap.size, 0, none⟩ = some (.int .i64 lg) := (blk_cell HC6.out.1 0).trans rfl; have m1 : w6.cell? ⟨w1.heap.size + 1, 0, none⟩ = some (.int .i64 rl) := (blk_cell HC6.out.2 0).trans rfl)
  | (go_at_call 46; (with_reducible refine (open_written.calls lg wr w6 HW.out).mono ?_); rintro e w7 ⟨rfl, nd, rfl⟩; have HG7 := Aside0.mk (HG6.out.below (pw_below_drewN (Below.refl _ _) nd))))
 have HV6 := Aside0.mk (Kd.V_nil (Kd.int .u8) 5 (w6.drewN nd) 0 (fun _ => False))
 refine bodyPost_ret (results_cc rfl _ _ (w.heap.size + 1) (w.heap.size + 2) 70 41 #[.int .i64 lg, .int .i64 hh, .int .i64 ii, .int .i64 rl] #[.int .i64 0, .int .i64 0, .slice none 0 0] (0, 0) (0, 0) _ _ rfl (store3_far (store4 HG7.out.b4 _ _ _ _) (by omega) _ _ _) Tryd.underlying70 rfl (by kernel_rfl) rfl (store3 (store4_far HG7.out.b5 (by omega) _ _ _ _) _ _ _) Tryd.underlying41 rfl (by kernel_rfl)) rfl ?_
 exact ⟨_, rfl, fin7 HV6.out (fun k hk => hk.elim) HG7.out.low (by omega) (by omega) _ _ _ _ _ _ _⟩

def open_Get.f (t : Int) (b : List Int) (ax : Int) : Option (Int × Int × Int × Int × Int × Int × List Int) :=
 if t = 1 then (msg_Sane.f t b).bind fun s => if s = true then
   if 10 ≤ b.length ∧ b.length ≤ 5000 ∧ 0 ≤ rd b 9 ∧ rd b 9 < 256 then
    if rd b 0 = 4 then
     if rd b 9 = (b.length : Int) - 10 then
      (eachG open2 5000 (-1, -1) (b.drop 10)).bind fun e => if e.2.1 = true then
       (octet_Get.f 8 (b.drop 1) 2).bind fun p => (octet_Get.f 8 p.2.1 2).bind fun q => (octet_Get.f 8 q.2.1 4).bind fun r => (open_written.f e.2.2.1).bind fun wr =>
        some (if e.2.2.1 < 0 then (0, 0, 0, 0, 2, 7, [65, 0]) else if e.2.2.1 = 0 ∨ e.2.2.1 ≠ ax ∨ p.1 ≠ wr then (0, 0, 0, 0, 2, 2, []) else if q.1 = 1 ∨ q.1 = 2 then (0, 0, 0, 0, 2, 6, []) else if r.1 = 0 then (0, 0, 0, 0, 2, 3, []) else (e.2.2.1, q.1, r.1, e.2.2.2, 0, 0, []))
       else some (0, 0, 0, 0, 2, e.1, [])
     else some (0, 0, 0, 0, 2, 0, [])
    else some (0, 0, 0, 0, 2, 1, [0, 4])
   else none
  else some (0, 0, 0, 0, 2, 0, [])
 else some (0, 0, 0, 0, 2, 0, [])
theorem open_Get.calls (t : Int) (A0 : Option Addr) (c0 : Nat) (l0 : List Int) (ax : Int) (r1 r2 r3 r4 r5 r6 : Int) (r7 : List Int) (w : World) (hr0 : Kd.C (Kd.int .u8) w A0 l0.length l0) (hc0 : l0.length ≤ c0) (h : open_Get.f t l0 ax = some (r1, r2, r3, r4, r5, r6, r7)) :
  Calls Tryd.prog 50 #[.agg #[.int .i64 t, .slice A0 l0.length c0], .int .i64 ax] w fun e w' => ∃ v6_ : Value, e = .returned (.tuple #[.agg #[.int .i64 r1, .int .i64 r2, .int .i64 r3, .int .i64 r4], .agg #[.int .i64 r5, .int .i64 r6, v6_]]) ∧ Kd.V (Kd.int .u8) 5 w' w.heap.size (fun k_ => (w.heap.size ≤ k_)) v6_ r7 ∧ Below w.heap.size w w' := by
 unfold open_Get.f at h
 by_cases h1 : t = 1
 rotate_left
 ·
  rw [if_neg h1] at h
  cases h
  exact open_Get.bad0a t A0 c0 l0 ax w h1 hr0 hc0
 rw [if_pos h1] at h
 obtain ⟨s, hs, h⟩ := Option.bind_eq_some_iff.mp h
 cases s
 ·
  rw [if_neg (by decide)] at h
  cases h
  exact open_Get.bad0b t A0 c0 l0 ax w h1 hs hr0 hc0
 rw [if_pos rfl] at h
 by_cases h2 : 10 ≤ l0.length ∧ l0.length ≤ 5000 ∧ 0 ≤ rd l0 9 ∧ rd l0 9 < 256
 rotate_left
 ·
  rw [if_neg h2] at h
  cases h
 rw [if_pos h2] at h
 obtain ⟨hl, hl2, p0, p1⟩ := h2
 by_cases h4 : rd l0 0 = 4
 rotate_left
 ·
  rw [if_neg h4] at h
  cases h
  exact open_Get.bad1 t A0 c0 l0 ax w h1 hs hl hl2 p0 p1 h4 hr0 hc0
 rw [if_pos h4] at h
 by_cases h5 : rd l0 9 = (l0.length : Int) - 10
 rotate_left
 ·
  rw [if_neg h5] at h
  cases h
  exact open_Get.bad0c t A0 c0 l0 ax w h1 hs hl hl2 p0 p1 h4 h5 hr0 hc0
 rw [if_pos h5] at h
 obtain ⟨⟨sub, ok, lg, rl⟩, he, h⟩ := Option.bind_eq_some_iff.mp h
 dsimp only at h
 cases ok
 ·
  rw [if_neg (by decide)] at h
  cases h
  exact open_Get.badE t A0 c0 l0 ax w h1 hs hl hl2 p0 p1 h4 h5 r6 lg rl he hr0 hc0
 rw [if_pos rfl] at h
 obtain ⟨⟨s1, s2, s3⟩, e1, h⟩ := Option.bind_eq_some_iff.mp h
 obtain ⟨⟨hh, h2, h3⟩, e2, h⟩ := Option.bind_eq_some_iff.mp h
 obtain ⟨⟨ii, i2, i3⟩, e3, h⟩ := Option.bind_eq_some_iff.mp h
 obtain ⟨wr, hw, h⟩ := Option.bind_eq_some_iff.mp h
 dsimp only at h e2 e3
 by_cases g1 : lg < 0
 ·
  rw [if_pos g1] at h
  cases h
  exact open_Get.bad7 t A0 c0 l0 ax w h1 hs hl hl2 p0 p1 h4 h5 sub lg rl he s1 hh ii s2 h2 i2 s3 h3 i3 e1 e2 e3 g1 hr0 hc0
 rw [if_neg g1] at h
 by_cases g2 : lg = 0 ∨ lg ≠ ax ∨ s1 ≠ wr
 ·
  rw [if_pos g2] at h
  cases h
  by_cases g3 : lg = 0
  ·
   exact open_Get.bad2a t A0 c0 l0 ax w h1 hs hl hl2 p0 p1 h4 h5 sub lg rl he s1 hh ii s2 h2 i2 s3 h3 i3 e1 e2 e3 g3 hr0 hc0
  by_cases g4 : lg ≠ ax
  ·
   exact open_Get.bad2b t A0 c0 l0 ax w h1 hs hl hl2 p0 p1 h4 h5 sub lg rl he s1 hh ii s2 h2 i2 s3 h3 i3 e1 e2 e3 (by omega) g4 hr0 hc0
  ·
   exact open_Get.bad2c t A0 c0 l0 ax w h1 hs hl hl2 p0 p1 h4 h5 sub lg rl he s1 hh ii s2 h2 i2 s3 h3 i3 e1 e2 e3 (by omega) (by simpa using g4) wr hw ((g2.resolve_left g3).resolve_left g4) hr0 hc0
 rw [if_neg g2] at h
 obtain ⟨k1, k2, k3⟩ : lg ≠ 0 ∧ lg = ax ∧ s1 = wr := by
  refine ⟨fun e => g2 (.inl e), ?_, ?_⟩
  ·
   exact Decidable.byContradiction (fun e => g2 (.inr (.inl e)))
  ·
   exact Decidable.byContradiction (fun e => g2 (.inr (.inr e)))
 by_cases g3 : hh = 1 ∨ hh = 2
 ·
  rw [if_pos g3] at h
  cases h
  rcases g3 with g3 | g3
  ·
   exact open_Get.bad6a t A0 c0 l0 ax w h1 hs hl hl2 p0 p1 h4 h5 sub lg rl he s1 hh ii s2 h2 i2 s3 h3 i3 e1 e2 e3 (by omega) k2 wr hw k3 g3 hr0 hc0
  ·
   exact open_Get.bad6b t A0 c0 l0 ax w h1 hs hl hl2 p0 p1 h4 h5 sub lg rl he s1 hh ii s2 h2 i2 s3 h3 i3 e1 e2 e3 (by omega) k2 wr hw k3 g3 hr0 hc0
 rw [if_neg g3] at h
 by_cases g4 : ii = 0
 ·
  rw [if_pos g4] at h
  cases h
  exact open_Get.bad3 t A0 c0 l0 ax w h1 hs hl hl2 p0 p1 h4 h5 sub lg rl he s1 hh ii s2 h2 i2 s3 h3 i3 e1 e2 e3 (by omega) k2 wr hw k3 (fun e => g3 (.inl e)) (fun e => g3 (.inr e)) g4 hr0 hc0
 rw [if_neg g4] at h
 cases h
 exact open_Get.good t A0 c0 l0 ax w h1 hs hl hl2 p0 p1 h4 h5 sub r1 r4 he s1 r2 r3 s2 h2 i2 s3 h3 i3 e1 e2 e3 (by omega) k2 wr hw k3 (fun e => g3 (.inl e)) (fun e => g3 (.inr e)) g4 hr0 hc0

end Go.Proofs.YtfbndolhocojiaaDoor.K
