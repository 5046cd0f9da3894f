/- Plain facts on whole numbers, octets and lists that the pure statements use: no program in sight. No conditions but those that each states. -/
-- pruned: what nothing names is left out (wip/tools/prune.py)
import Derived.Test.YtfmhclbcoladpaaXWords
import Derived.Laws.BitsLemmas
set_option linter.unusedVariables false
set_option linter.unusedSimpArgs false
namespace Go.Proofs.YtfmhclbcoladpaaW.PrintX
open Go.RowKit Go.Proofs.YtfmhclbcoladpaaW.PrintWords Go.Proofs.YtfmhclbcoladpaaW.PrintLast Go.Proofs.YtfmhclbcoladpaaW.PrintMore

/-! ### numbers -/
theorem w64 {n : Int} (h0 : -9223372036854775808 ≤ n) (h1 : n ≤ 9223372036854775807) : wrap64 n = n := by unfold wrap64; omega
theorem or_256 (x b : Int) (hx0 : 0 ≤ x) (hx1 : x < 36028797018963968) (hb0 : 0 ≤ b) (hb1 : b < 256) : Go.bits .or .i64 (x * 256) b = x * 256 + b :=
  bits_join .i64 63 (by decide) (fun n h0 h1 => by rw [IntKind.wrap_i64]; simp at h1; omega) 8 (x * 256) b (by omega) (by simp) (by simp; omega) hb0 (by simpa using hb1) (by simp; omega)
/-! ### octets -/
def Octs (l : List Int) : Prop := ∀ x ∈ l, 0 ≤ x ∧ x < 256
theorem octs_of_wf {l : List Int} (h : ∀ x ∈ l, (Lit.int .u8 x).wf = true) : Octs l := fun x hx => by
  have := h x hx
  simp [Lit.wf, IntKind.min, IntKind.max, IntKind.signed, IntKind.bits] at this
  omega
theorem Octs.nil : Octs [] := fun x h => by cases h
theorem Octs.take {a : List Int} (ha : Octs a) (n : Nat) : Octs (a.take n) := fun x h => ha x (List.mem_of_mem_take h)
theorem Octs.drop {a : List Int} (ha : Octs a) (n : Nat) : Octs (a.drop n) := fun x h => ha x (List.mem_of_mem_drop h)
theorem Octs.cons {x : Int} {a : List Int} (h0 : 0 ≤ x) (h1 : x < 256) (ha : Octs a) : Octs (x :: a) := fun y h => by
  rcases List.mem_cons.1 h with rfl | h
  · exact ⟨h0, h1⟩
  · exact ha y h
theorem Octs.head {x : Int} {a : List Int} (h : Octs (x :: a)) : 0 ≤ x ∧ x < 256 := h x (by simp)
theorem Octs.tail {x : Int} {a : List Int} (h : Octs (x :: a)) : Octs a := fun y hy => h y (by simp [hy])
theorem Octs.rd {l : List Int} (h : Octs l) (i : Int) : 0 ≤ rd l i ∧ rd l i < 256 := by
  unfold PrintWords.rd
  rw [List.getD_eq_getElem?_getD]
  by_cases hi : i.toNat < l.length
  · rw [List.getElem?_eq_getElem hi]
    exact h _ (List.getElem_mem hi)
  · rw [List.getElem?_eq_none (by omega)]
    exact ⟨by decide, by decide⟩
theorem snoc_ind {α : Type} {P : List α → Prop} (h0 : P []) (h1 : ∀ l b, P l → P (l ++ [b])) : ∀ l, P l := by
  intro l
  have : ∀ m : List α, P m.reverse := by
    intro m
    induction m with
    | nil => exact h0
    | cons x m ih => rw [List.reverse_cons]; exact h1 _ _ ih
  have h := this l.reverse
  rwa [List.reverse_reverse] at h
/-- A number's octets: n of them, the highest first. -/
def putL (v : Int) : Nat → List Int
  | 0 => []
  | n + 1 => putL (v / 256) n ++ [v % 256]
theorem putL_length (n : Nat) : ∀ v : Int, (putL v n).length = n := by
  induction n with
  | zero => intro v; rfl
  | succ n ih => intro v; simp [putL, ih]
/-- The number that octets are. -/
def getL (l : List Int) : Int := l.foldl (fun a b => a * 256 + b) 0
theorem getL_snoc (l : List Int) (b : Int) : getL (l ++ [b]) = getL l * 256 + b := by simp [getL]
theorem getL_nil : getL [] = 0 := rfl
theorem getL_bounds (l : List Int) (h : Octs l) : 0 ≤ getL l ∧ getL l < 256 ^ l.length := by
  revert h
  refine snoc_ind (P := fun l => Octs l → 0 ≤ getL l ∧ getL l < 256 ^ l.length) (fun _ => by simp [getL]) (fun l b ih h => ?_) l
  have h1 := ih (fun x hx => h x (by simp [hx]))
  have h2 := h b (by simp)
  rw [getL_snoc, List.length_append, List.length_singleton, Int.pow_succ]
  omega
theorem pow256 (n : Nat) (h : n ≤ 4) : (256 : Int) ^ n = if n = 0 then 1 else if n = 1 then 256 else if n = 2 then 65536 else if n = 3 then 16777216 else 4294967296 := by
  have : n = 0 ∨ n = 1 ∨ n = 2 ∨ n = 3 ∨ n = 4 := by omega
  rcases this with rfl | rfl | rfl | rfl | rfl <;> decide
theorem getL_lt3 (l : List Int) (h : Octs l) (hl : l.length ≤ 3) : getL l < 16777216 := by
  have hb := (getL_bounds l h).2
  rw [pow256 _ (by omega)] at hb
  (repeat' split at hb) <;> omega
theorem putL_add (n m : Nat) : ∀ v : Int, putL v (n + m) = putL (v / 256 ^ m) n ++ putL v m := by
  induction m with
  | zero => intro v; simp [putL]
  | succ m ih =>
    intro v
    have e : v / 256 / 256 ^ m = v / 256 ^ (m + 1) := by rw [Int.ediv_ediv_of_nonneg (by decide), Int.pow_succ, Int.mul_comm]
    rw [← Nat.add_assoc, putL, putL, ih (v / 256), e, List.append_assoc]
end Go.Proofs.YtfmhclbcoladpaaW.PrintX
