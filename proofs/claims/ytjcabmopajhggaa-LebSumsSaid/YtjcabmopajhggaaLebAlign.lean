/- What leb.Align answers for a power of 2 up to 2^30. -/
import Derived.Test.YtjcabmopajhggaaBits
import Derived.Test.YtjcabmopajhggaaGf28
namespace Go.Proofs.Ytjcabmopajhggaa.Leb
set_option linter.unusedVariables false
set_option linter.unusedSimpArgs false
open Go.RowKit Go.Proofs.Ytjcabmopajhggaa.G Go.Proofs.YtjcabmopajhggaaW.PrintWords Go.Proofs.YtjcabmopajhggaaW.PrintLast Go.Proofs.YtjcabmopajhggaaW.PrintMore Go.Proofs.Ytjcabmopajhggaa.Bit

theorem ones_pow_fin : ∀ i : Fin 31, bits_OnesCount.f ((2 : Int) ^ i.val) = some 1 := by decide +kernel
theorem ones_pow (i : Nat) (hi : i ≤ 30) : bits_OnesCount.f ((2 : Int) ^ i) = some 1 := ones_pow_fin ⟨i, by omega⟩
theorem pow2_range {i : Nat} (hi : i ≤ 30) : 1 ≤ (2 : Int) ^ i ∧ (2 : Int) ^ i ≤ 1073741824 := by
  have h2 : ((2 ^ i : Nat) : Int) ≤ ((2 ^ 30 : Nat) : Int) := Int.ofNat_le.mpr (Nat.pow_le_pow_right (n := 2) (by decide) hi)
  rw [Int.natCast_pow, Int.natCast_pow] at h2
  have h3 : (0 : Int) < 2 ^ i := Int.pow_pos (by decide)
  refine ⟨by omega, ?_⟩
  have e : (((2 : Nat) : Int)) ^ 30 = 1073741824 := by decide
  rw [e] at h2
  exact h2
/-- low bits taken away -/
theorem i64_andNot (x : Int) (i : Nat) (hi : i ≤ 30) (h0 : 0 ≤ x) (h1 : x ≤ 9223372036854775807) : Go.bits .andNot .i64 x (2 ^ i - 1) = x - x % 2 ^ i := by
  obtain ⟨n, rfl⟩ := Int.eq_ofNat_of_zero_le h0
  have hp := pow2_range hi
  have hpn : 0 < 2 ^ i := Nat.two_pow_pos i
  have hc : ((2 : Int) ^ i - 1) = ((2 ^ i - 1 : Nat) : Int) := by rw [Int.natCast_sub hpn]; simp
  have key : (BitVec.ofNat 64 n &&& ~~~ BitVec.ofNat 64 (2 ^ i - 1)) = (BitVec.ofNat 64 n >>> i) <<< i := by
    apply BitVec.eq_of_getLsbD_eq
    intro j hj
    simp only [BitVec.getLsbD_and, BitVec.getLsbD_not, BitVec.getLsbD_ofNat, BitVec.getLsbD_shiftLeft, BitVec.getLsbD_ushiftRight, Nat.testBit_two_pow_sub_one, hj, decide_true, Bool.true_and]
    by_cases c : j < i
    · simp [c]
    · simp [c]
      rw [show i + (j - i) = j from by omega]
      simp [hj]
  have hv : (BitVec.ofInt 64 ((n : Nat) : Int)) = BitVec.ofNat 64 n := BitVec.ofInt_natCast ..
  have hm : (BitVec.ofInt 64 ((2 ^ i - 1 : Nat) : Int)) = BitVec.ofNat 64 (2 ^ i - 1) := BitVec.ofInt_natCast ..
  rw [hc]
  show IntKind.i64.wrap ((BitVec.ofInt 64 ((n : Nat) : Int) &&& ~~~ BitVec.ofInt 64 ((2 ^ i - 1 : Nat) : Int)).toNat : Int) = _
  rw [hv, hm, key, BitVec.toNat_shiftLeft, BitVec.toNat_ushiftRight, BitVec.toNat_ofNat, Nat.shiftRight_eq_div_pow, Nat.shiftLeft_eq, Nat.mod_eq_of_lt (show n < 2 ^ 64 by omega)]
  have e1 : n / 2 ^ i * 2 ^ i = n - n % 2 ^ i := by
    have := Nat.div_add_mod n (2 ^ i)
    rw [Nat.mul_comm]
    omega
  rw [e1, Nat.mod_eq_of_lt (show n - n % 2 ^ i < 2 ^ 64 by omega), IntKind.wrap_i64]
  have e2 : ((n - n % 2 ^ i : Nat) : Int) = (n : Int) - (n : Int) % 2 ^ i := by
    rw [Int.natCast_sub (Nat.mod_le _ _), Int.natCast_emod]
    simp
  rw [e2]
  have l1 : 0 ≤ (n : Int) % 2 ^ i := Int.emod_nonneg _ (by omega)
  have l2 : (n : Int) % 2 ^ i ≤ n := by
    have h := Nat.mod_le n (2 ^ i)
    have e : ((n % 2 ^ i : Nat) : Int) = (n : Int) % 2 ^ i := by rw [Int.natCast_emod]; simp
    omega
  omega
/-- what leb.Align answers -/
def alignV (n a : Int) : Int × Int :=
  if n < 0 then (0, 11) else if n > 9223372036854775807 - (a - 1) then (if n % a = 0 then (n, 0) else (0, 11)) else (n + a - 1 - (n + a - 1) % a, 0)
theorem align_pow (n : Int) (i : Nat) (hi : i ≤ 30) (hn : n ≤ 9223372036854775807) (hn0 : -9223372036854775808 ≤ n) (k : Nat) (hk : 2 ≤ k) : leb_Align.f k n (2 ^ i) = some (alignV n (2 ^ i)) := by
  obtain ⟨k, rfl⟩ : ∃ m, k = m + 2 := ⟨k - 2, by omega⟩
  have hp := pow2_range hi
  have w1 : wrap64 ((2 : Int) ^ i - 1) = 2 ^ i - 1 := wrap64_id (by omega) (by omega)
  have w2 : wrap64 (9223372036854775807 - ((2 : Int) ^ i - 1)) = 9223372036854775807 - (2 ^ i - 1) := wrap64_id (by omega) (by omega)
  unfold leb_Align.f alignV
  rw [if_neg (show ¬ (2 : Int) ^ i < 1 by omega), if_neg (show ¬ (2 : Int) ^ i > 1073741824 by omega), wrap_u64, Int.emod_eq_of_lt (by omega) (by omega), ones_pow i hi, Option.bind_some]
  simp only [leb_Align.j0, bne_self_eq_false, Bool.false_eq_true, if_false]
  by_cases c0 : n < 0
  · rw [if_pos c0, if_pos c0]
    simp only [leb_Align.j1, if_true]
    rw [if_pos c0]
  · rw [if_neg c0, if_neg c0]
    simp only [leb_Align.j1]
    rw [w1, w2]
    by_cases c1 : n > 9223372036854775807 - (2 ^ i - 1)
    · rw [if_pos (show decide (n > 9223372036854775807 - ((2 : Int) ^ i - 1)) = true from decide_eq_true c1), if_neg c0, if_pos c1, i64_mask n i (by omega)]
      by_cases c2 : n % 2 ^ i = 0
      · rw [if_pos c2, if_pos c2]
      · rw [if_neg c2, if_neg c2]
    · rw [if_neg (show ¬ decide (n > 9223372036854775807 - ((2 : Int) ^ i - 1)) = true by simpa using c1), if_neg c1]
      have w3 : wrap64 (wrap64 (n + (2 : Int) ^ i) - 1) = n + 2 ^ i - 1 := by
        simp only [wrap64_eq]
        omega
      rw [w3, i64_andNot _ i hi (by omega) (by omega)]
end Go.Proofs.Ytjcabmopajhggaa.Leb
