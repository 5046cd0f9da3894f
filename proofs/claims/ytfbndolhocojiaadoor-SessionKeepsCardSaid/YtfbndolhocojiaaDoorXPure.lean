/- Plain facts on whole numbers, octets and lists that the pure statements use: no program in sight. No conditions but those that each states. -/
import Derived.Test.YtfbndolhocojiaaDoorXWords
import Derived.Laws.BitsLemmas
set_option linter.unusedVariables false
set_option linter.unusedSimpArgs false
namespace Go.Proofs.YtfbndolhocojiaaDoorW.PrintX
open Go.RowKit Go.Proofs.YtfbndolhocojiaaDoorW.PrintWords Go.Proofs.YtfbndolhocojiaaDoorW.PrintLast Go.Proofs.YtfbndolhocojiaaDoorW.PrintMore

/-! ### numbers -/
theorem w64 {n : Int} (h0 : -9223372036854775808 ≤ n) (h1 : n ≤ 9223372036854775807) : wrap64 n = n := by unfold wrap64; omega
theorem wu64 {n : Int} (h0 : 0 ≤ n) (h1 : n ≤ 18446744073709551615) : IntKind.u64.wrap n = n := by
  simp only [IntKind.wrap, IntKind.bits, IntKind.signed]
  simp
  omega
theorem mx_eq (a b : Int) : mx a b = max a b := by unfold mx; omega
theorem mn_eq (a b : Int) : mn a b = min a b := by unfold mn; omega
theorem or_256 (x b : Int) (hx0 : 0 ≤ x) (hx1 : x < 36028797018963968) (hb0 : 0 ≤ b) (hb1 : b < 256) : Go.bits .or .i64 (x * 256) b = x * 256 + b :=
  bits_join .i64 63 (by decide) (fun n h0 h1 => by rw [IntKind.wrap_i64]; simp at h1; omega) 8 (x * 256) b (by omega) (by simp) (by simp; omega) hb0 (by simpa using hb1) (by simp; omega)
theorem and_mask (x : Int) (i : Nat) (hi : i ≤ 63) : Go.bits .and .i64 x (2 ^ i - 1) = x % 2 ^ i := by
  have hp : (0 : Int) < 2 ^ i := by exact_mod_cast Nat.two_pow_pos i
  have h64 : (2 : Int) ^ i ≤ 2 ^ 63 := by exact_mod_cast Nat.pow_le_pow_right (n := 2) (by decide) hi
  have hd : (2 : Int) ^ i ∣ 2 ^ 64 := ⟨2 ^ (64 - i), by rw [← Int.pow_add]; congr 1; omega⟩
  have hb : Go.bits .and .i64 x (2 ^ i - 1) = Go.bits .and .i64 (x % 2 ^ 64) (2 ^ i - 1) := by
    unfold Go.bits
    have : BitVec.ofInt (IntKind.i64).bits x = BitVec.ofInt (IntKind.i64).bits (x % 2 ^ 64) := by
      apply BitVec.eq_of_toInt_eq
      simp only [BitVec.toInt_ofInt, IntKind.bits]
      rw [Int.bmod_def, Int.bmod_def]
      simp
    rw [this]
  rw [hb]
  have h0 : 0 ≤ x % 2 ^ 64 := Int.emod_nonneg _ (by decide)
  have h1 : x % 2 ^ 64 < 2 ^ 64 := Int.emod_lt_of_pos _ (by decide)
  obtain ⟨a, ha⟩ := Int.eq_ofNat_of_zero_le h0
  rw [ha] at h1 ⊢
  have hm : ((2 : Int) ^ i - 1) = ((2 ^ i - 1 : Nat) : Int) := by
    rw [Int.natCast_sub (Nat.two_pow_pos i)]; simp
  have hx : x % 2 ^ i = (a : Int) % 2 ^ i := by rw [← ha, Int.emod_emod_of_dvd _ hd]
  rw [hx, hm]
  have ha' : a % 2 ^ 64 = a := Nat.mod_eq_of_lt (by exact_mod_cast h1)
  have hm' : (2 ^ i - 1) % 2 ^ 64 = 2 ^ i - 1 := Nat.mod_eq_of_lt (Nat.lt_of_lt_of_le (Nat.sub_lt (Nat.two_pow_pos i) (by decide)) (Nat.pow_le_pow_right (by decide) (by omega)))
  have hv : (BitVec.ofNat 64 a &&& BitVec.ofNat 64 (2 ^ i - 1)).toNat = a % 2 ^ i := by
    rw [BitVec.toNat_and, BitVec.toNat_ofNat, BitVec.toNat_ofNat, ha', hm', Nat.and_two_pow_sub_one_eq_mod]
  have hw : Go.bits .and .i64 (a : Int) ((2 ^ i - 1 : Nat) : Int) = IntKind.i64.wrap ((BitVec.ofNat 64 a &&& BitVec.ofNat 64 (2 ^ i - 1)).toNat : Int) := by
    simp only [Go.bits, BitVec.ofInt_natCast]
    rfl
  rw [hw, hv, IntKind.wrap_i64]
  have h3 : a % 2 ^ i < 2 ^ i := Nat.mod_lt _ (Nat.two_pow_pos i)
  have h4 : ((a % 2 ^ i : Nat) : Int) < 2 ^ i := by exact_mod_cast h3
  have h5 : ((a % 2 ^ i : Nat) : Int) = (a : Int) % 2 ^ i := by simp
  rw [← h5]
  have h6 : (2 : Int) ^ 63 = 9223372036854775808 := by decide
  omega

/-! ### octets -/
theorem str_list (xs : List Int) : (strOfNums xs).toList = xs.map fun n => UInt8.ofNat n.toNat := by rw [ByteArray.toList_eq]; rfl
theorem str_app (a b : List Int) : strOfNums a ++ strOfNums b = strOfNums (a ++ b) := by
  apply Go.WideShapes.bytes_inj
  simp [strOfNums, ByteArray.data_append]
def Octs (l : List Int) : Prop := ∀ x ∈ l, 0 ≤ x ∧ x < 256
theorem octs_of_wf {l : List Int} (h : ∀ x ∈ l, (Lit.int .u8 x).wf = true) : Octs l := fun x hx => by
  have := h x hx
  simp [Lit.wf, IntKind.min, IntKind.max, IntKind.signed, IntKind.bits] at this
  omega
theorem Octs.nil : Octs [] := fun x h => by cases h
theorem Octs.app {a b : List Int} (ha : Octs a) (hb : Octs b) : Octs (a ++ b) := fun x h => (List.mem_append.1 h).elim (ha x) (hb x)
theorem Octs.take {a : List Int} (ha : Octs a) (n : Nat) : Octs (a.take n) := fun x h => ha x (List.mem_of_mem_take h)
theorem Octs.drop {a : List Int} (ha : Octs a) (n : Nat) : Octs (a.drop n) := fun x h => ha x (List.mem_of_mem_drop h)
theorem Octs.cons {x : Int} {a : List Int} (h0 : 0 ≤ x) (h1 : x < 256) (ha : Octs a) : Octs (x :: a) := fun y h => by
  rcases List.mem_cons.1 h with rfl | h
  · exact ⟨h0, h1⟩
  · exact ha y h
theorem Octs.head {x : Int} {a : List Int} (h : Octs (x :: a)) : 0 ≤ x ∧ x < 256 := h x (by simp)
theorem Octs.tail {x : Int} {a : List Int} (h : Octs (x :: a)) : Octs a := fun y hy => h y (by simp [hy])
theorem Octs.rd {l : List Int} (h : Octs l) (i : Int) : 0 ≤ rd l i ∧ rd l i < 256 := by
  unfold PrintWords.rd
  rw [List.getD_eq_getElem?_getD]
  by_cases hi : i.toNat < l.length
  · rw [List.getElem?_eq_getElem hi]
    exact h _ (List.getElem_mem hi)
  · rw [List.getElem?_eq_none (by omega)]
    exact ⟨by decide, by decide⟩
/-- Texts of octets are the same if the octets are. -/
theorem str_inj {a b : List Int} (ha : Octs a) (hb : Octs b) (h : (strOfNums a).toList = (strOfNums b).toList) : a = b := by
  rw [str_list, str_list] at h
  have hl : a.length = b.length := by have := congrArg List.length h; simpa using this
  apply List.ext_getElem hl
  intro i h1 h2
  have h3 : (a.map fun n => UInt8.ofNat n.toNat)[i]? = (b.map fun n => UInt8.ofNat n.toNat)[i]? := by rw [h]
  rw [List.getElem?_map, List.getElem?_map, List.getElem?_eq_getElem h1, List.getElem?_eq_getElem h2] at h3
  simp only [Option.map_some, Option.some.injEq] at h3
  have h4 := congrArg UInt8.toNat h3
  have ha' := ha _ (List.getElem_mem h1)
  have hb' := hb _ (List.getElem_mem h2)
  simp only [UInt8.toNat_ofNat'] at h4
  omega

theorem snoc_ind {α : Type} {P : List α → Prop} (h0 : P []) (h1 : ∀ l b, P l → P (l ++ [b])) : ∀ l, P l := by
  intro l
  have : ∀ m : List α, P m.reverse := by
    intro m
    induction m with
    | nil => exact h0
    | cons x m ih => rw [List.reverse_cons]; exact h1 _ _ ih
  have h := this l.reverse
  rwa [List.reverse_reverse] at h
/-- A number's octets: n of them, the highest first. -/
def putL (v : Int) : Nat → List Int
  | 0 => []
  | n + 1 => putL (v / 256) n ++ [v % 256]
theorem putL_length (n : Nat) : ∀ v : Int, (putL v n).length = n := by
  induction n with
  | zero => intro v; rfl
  | succ n ih => intro v; simp [putL, ih]
theorem putL_octs (n : Nat) : ∀ v : Int, Octs (putL v n) := by
  induction n with
  | zero => intro v; exact Octs.nil
  | succ n ih => intro v; exact (ih _).app (Octs.cons (Int.emod_nonneg _ (by decide)) (Int.emod_lt_of_pos _ (by decide)) Octs.nil)
/-- The number that octets are. -/
def getL (l : List Int) : Int := l.foldl (fun a b => a * 256 + b) 0
theorem getL_snoc (l : List Int) (b : Int) : getL (l ++ [b]) = getL l * 256 + b := by simp [getL]
theorem getL_nil : getL [] = 0 := rfl
theorem getL_putL (n : Nat) : ∀ v : Int, getL (putL v n) = v % 256 ^ n := by
  induction n with
  | zero => intro v; simp [putL, getL, Int.emod_one]
  | succ n ih =>
    intro v
    rw [putL, getL_snoc, ih, Int.pow_succ]
    have hp : (0 : Int) < 256 ^ n := Int.pow_pos (by decide)
    have h1 := Int.mul_ediv_add_emod v 256
    have h2 := Int.mul_ediv_add_emod (v / 256) (256 ^ n)
    have e : v = (256 ^ n * 256) * (v / 256 / 256 ^ n) + (v / 256 % 256 ^ n * 256 + v % 256) := by
      rw [Int.mul_assoc, Int.mul_comm 256, ← Int.mul_assoc]
      generalize v / 256 / 256 ^ n = q at *
      generalize v / 256 % 256 ^ n = r at *
      generalize v % 256 = s at *
      rw [← h2, Int.mul_add, Int.mul_comm 256 r, Int.mul_comm 256 (256 ^ n * q), Int.add_assoc] at h1
      exact h1.symm
    have hr0 : 0 ≤ v / 256 % 256 ^ n := Int.emod_nonneg _ (by omega)
    have hr1 : v / 256 % 256 ^ n < 256 ^ n := Int.emod_lt_of_pos _ hp
    have hs0 : 0 ≤ v % 256 := Int.emod_nonneg _ (by decide)
    have hs1 : v % 256 < 256 := Int.emod_lt_of_pos _ (by decide)
    have hlt : v / 256 % 256 ^ n * 256 + v % 256 < 256 ^ n * 256 := by omega
    conv => rhs; rw [e]
    rw [Int.mul_add_emod_self_left, Int.emod_eq_of_lt (by omega) hlt]
theorem getL_bounds (l : List Int) (h : Octs l) : 0 ≤ getL l ∧ getL l < 256 ^ l.length := by
  revert h
  refine snoc_ind (P := fun l => Octs l → 0 ≤ getL l ∧ getL l < 256 ^ l.length) (fun _ => by simp [getL]) (fun l b ih h => ?_) l
  have h1 := ih (fun x hx => h x (by simp [hx]))
  have h2 := h b (by simp)
  rw [getL_snoc, List.length_append, List.length_singleton, Int.pow_succ]
  omega
theorem pow256 (n : Nat) (h : n ≤ 4) : (256 : Int) ^ n = if n = 0 then 1 else if n = 1 then 256 else if n = 2 then 65536 else if n = 3 then 16777216 else 4294967296 := by
  have : n = 0 ∨ n = 1 ∨ n = 2 ∨ n = 3 ∨ n = 4 := by omega
  rcases this with rfl | rfl | rfl | rfl | rfl <;> decide
theorem getL_lt3 (l : List Int) (h : Octs l) (hl : l.length ≤ 3) : getL l < 16777216 := by
  have hb := (getL_bounds l h).2
  rw [pow256 _ (by omega)] at hb
  (repeat' split at hb) <;> omega
theorem getL_lt4 (l : List Int) (h : Octs l) (hl : l.length ≤ 4) : getL l < 4294967296 := by
  have hb := (getL_bounds l h).2
  rw [pow256 _ (by omega)] at hb
  (repeat' split at hb) <;> omega
theorem getL_lt2 (l : List Int) (h : Octs l) (hl : l.length ≤ 2) : getL l < 65536 := by
  have hb := (getL_bounds l h).2
  rw [pow256 _ (by omega)] at hb
  (repeat' split at hb) <;> omega
theorem getL_lt1 (l : List Int) (h : Octs l) (hl : l.length ≤ 1) : getL l < 256 := by
  have hb := (getL_bounds l h).2
  rw [pow256 _ (by omega)] at hb
  (repeat' split at hb) <;> omega
theorem putL_getL (l : List Int) (h : Octs l) : putL (getL l) l.length = l := by
  revert h
  refine snoc_ind (P := fun l => Octs l → putL (getL l) l.length = l) (fun _ => rfl) (fun l b ih h => ?_) l
  have h1 := ih (fun x hx => h x (by simp [hx]))
  have h2 := h b (by simp)
  rw [getL_snoc, List.length_append, List.length_singleton, putL]
  have e1 : (getL l * 256 + b) / 256 = getL l := by omega
  have e2 : (getL l * 256 + b) % 256 = b := by omega
  rw [e1, e2, h1]
theorem getL_app (a b : List Int) : getL (a ++ b) = getL a * 256 ^ b.length + getL b := by
  refine snoc_ind (P := fun b => getL (a ++ b) = getL a * 256 ^ b.length + getL b) (by simp [getL]) (fun b x ih => ?_) b
  rw [← List.append_assoc, getL_snoc, ih, getL_snoc, List.length_append, List.length_singleton, Int.pow_succ, Int.add_mul, Int.mul_assoc, Int.add_assoc]
theorem putL_add (n m : Nat) : ∀ v : Int, putL v (n + m) = putL (v / 256 ^ m) n ++ putL v m := by
  induction m with
  | zero => intro v; simp [putL]
  | succ m ih =>
    intro v
    have e : v / 256 / 256 ^ m = v / 256 ^ (m + 1) := by rw [Int.ediv_ediv_of_nonneg (by decide), Int.pow_succ, Int.mul_comm]
    rw [← Nat.add_assoc, putL, putL, ih (v / 256), e, List.append_assoc]
end Go.Proofs.YtfbndolhocojiaaDoorW.PrintX
