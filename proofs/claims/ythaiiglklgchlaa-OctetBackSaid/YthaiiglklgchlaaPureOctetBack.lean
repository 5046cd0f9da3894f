/- OctetBack: what is put is got, of any number of up to four octets, whatever stands behind it; no conditions. -/
import Derived.Test.YthaiiglklgchlaaXOctet01
import Derived.Test.YthaiiglklgchlaaQx4
namespace Go.Proofs.Ythaiiglklgchlaa.Pure
open Go.RowKit Go.Proofs.Ythaiiglklgchlaa.Q Go.Proofs.YthaiiglklgchlaaW.PrintWords Go.Proofs.YthaiiglklgchlaaW.PrintLast Go.Proofs.YthaiiglklgchlaaW.PrintMore Go.Proofs.YthaiiglklgchlaaW.PrintX
set_option linter.unusedVariables false
set_option linter.unusedSimpArgs false
theorem OctetBack : ridgewaylaw01_OctetBack.Pure := by
  intro v n more _ _ _ _ hwf
  have ho := octs_of_wf hwf
  refine ⟨7, ?_⟩
  unfold ridgewaylaw01_OctetBack.f
  rw [awake01 7 (by omega)]
  simp only [Option.bind_some]
  by_cases hm : (more.length : Int) > 400
  · rw [if_pos hm]
  · rw [if_neg hm]
    have hb : Go.bits .and .i64 n 3 = n % 4 := and_mask n 2 (by omega)
    rw [hb]
    have h40 : 0 ≤ n % 4 := Int.emod_nonneg _ (by decide)
    have h41 : n % 4 < 4 := Int.emod_lt_of_pos _ (by decide)
    rw [w64 (n := 1 + n % 4) (by omega) (by omega)]
    obtain ⟨j, hj⟩ : ∃ j : Nat, 1 + n % 4 = (j : Int) := ⟨(1 + n % 4).toNat, by omega⟩
    rw [hj]
    have hj1 : 1 ≤ j := by omega
    have hj4 : j ≤ 4 := by omega
    clear hj h40 h41 hb
    rw [w64 (n := 8 * (j : Int)) (by omega) (by omega), wu64 (by omega) (by omega)]
    rw [if_pos (by omega), octet_putN 7 _ _ j (by omega) hj1 hj4 (by simp)]
    simp only [Option.bind_some, List.nil_append, List.length_nil, Nat.zero_add]
    have hp := putL_length j v
    rw [if_pos (by omega), if_pos (by omega)]
    have hbo := putL_octs j v
    rw [octet_getS 7 _ _ (by omega) (hbo.app ho) (by omega) (by omega) (by rw [List.length_append, hp]; push_cast; omega)]
    simp only [Option.bind_some, Int.toNat_natCast]
    rw [hp, w64 (n := (j : Int) - 1) (by omega) (by omega), mx_eq, show max 0 ((j : Int) - 1) = ((j - 1 : Nat) : Int) by omega]
    rw [if_pos (by omega), if_pos (by omega)]
    rw [octet_getF 7 _ _ (by omega) (hbo.take _) (Or.inr (Or.inr (by rw [List.length_take, hp]; omega)))]
    simp only [Option.bind_some, Int.toNat_natCast]
    rw [if_pos trivial, if_pos trivial, if_pos trivial]
    have ht : (putL v j ++ more).take j = putL v j := by rw [List.take_append_of_le_length (by omega), List.take_of_length_le (by omega)]
    have hd : (putL v j ++ more).drop j = more := by rw [List.drop_append_of_le_length (by omega), List.drop_of_length_le (by omega), List.nil_append]
    rw [ht, hd, getL_putL]
    have hs : shl .i64 1 (8 * (j : Int)) = 256 ^ j := by
      unfold shl
      rw [show (8 * (j : Int)).toNat = 8 * j by omega, Nat.min_eq_left (by simp [IntKind.bits]; omega), Int.one_mul, IntKind.wrap_i64]
      have : j = 1 ∨ j = 2 ∨ j = 3 ∨ j = 4 := by omega
      rcases this with rfl | rfl | rfl | rfl <;> decide
    have hp2 : (256 : Int) ^ j = 2 ^ (8 * j) := by rw [Int.pow_mul]; rfl
    have hpow : (0 : Int) < 256 ^ j ∧ (256 : Int) ^ j ≤ 4294967296 := by
      have : j = 1 ∨ j = 2 ∨ j = 3 ∨ j = 4 := by omega
      rcases this with rfl | rfl | rfl | rfl <;> decide
    rw [hs, w64 (by omega) (by omega), hp2, and_mask v (8 * j) (by omega), ← hp2, if_pos rfl, if_pos rfl]
    rfl
end Go.Proofs.Ythaiiglklgchlaa.Pure
