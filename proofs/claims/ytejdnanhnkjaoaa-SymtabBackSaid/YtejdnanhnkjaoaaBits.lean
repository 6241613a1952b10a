/- Plain laws on the bits of whole numbers, as the model spells them: masks, bytes, disjoint bits joined, wraps. -/
import Derived.Laws.BitsLemmas
import Derived.Laws.Bits64b
import Derived.Test.YtejdnanhnkjaoaaWMore
namespace Go.Proofs.Ytejdnanhnkjaoaa.Bit
set_option linter.unusedVariables false
set_option linter.unusedSimpArgs false
open Go.RowKit Go.Proofs.YtejdnanhnkjaoaaW.PrintWords Go.Proofs.YtejdnanhnkjaoaaW.PrintMore

theorem wrap_u64 (n : Int) : IntKind.u64.wrap n = n % 18446744073709551616 := IntKind.wrap_u64 n
theorem wrap64_eq (n : Int) : wrap64 n = (n + 9223372036854775808) % 18446744073709551616 - 9223372036854775808 := by unfold wrap64; omega
theorem wrap64_id {n : Int} (h0 : -9223372036854775808 ≤ n) (h1 : n ≤ 9223372036854775807) : wrap64 n = n := by unfold wrap64; omega
theorem wf_i64 {a : Int} (h : (Lit.int .i64 a).wf = true) : -9223372036854775808 ≤ a ∧ a ≤ 9223372036854775807 := by
  simpa [Lit.wf, IntKind.min, IntKind.max, IntKind.signed, IntKind.bits] using h
theorem wf_u8 {a : Int} (h : (Lit.int .u8 a).wf = true) : 0 ≤ a ∧ a ≤ 255 := by
  simpa [Lit.wf, IntKind.min, IntKind.max, IntKind.signed, IntKind.bits] using h
theorem wf_u64 {a : Int} (h : (Lit.int .u64 a).wf = true) : 0 ≤ a ∧ a ≤ 18446744073709551615 := by
  simpa [Lit.wf, IntKind.min, IntKind.max, IntKind.signed, IntKind.bits] using h
/-- of a byte: the finite check -/
theorem byte_all {P : Int → Prop} (h : ∀ i : Fin 256, P (i.val : Int)) (x : Int) (h0 : 0 ≤ x) (h1 : x < 256) : P x := by
  obtain ⟨n, rfl⟩ := Int.eq_ofNat_of_zero_le h0
  exact h ⟨n, by omega⟩
theorem b_or128 (x : Int) : Go.bits .or .u8 (x % 256) 128 = x % 128 + 128 := by
  have h := byte_all (P := fun y => Go.bits .or .u8 y 128 = y % 128 + 128) (by decide +kernel) (x % 256) (by omega) (by omega)
  rw [h]
  omega
theorem b_and127 (x : Int) : Go.bits .and .u8 (x % 256) 127 = x % 128 := by
  have h := byte_all (P := fun y => Go.bits .and .u8 y 127 = y % 128) (by decide +kernel) (x % 256) (by omega) (by omega)
  rw [h]
  omega
theorem b_and127' (x : Int) (h0 : 0 ≤ x) (h1 : x < 256) : Go.bits .and .u8 x 127 = x % 128 := by
  have := b_and127 x
  rwa [Int.emod_eq_of_lt h0 h1] at this
theorem ofInt_toNat (b : Nat) (x : Int) : ((BitVec.ofInt b x).toNat : Int) = x % (2 ^ b : Nat) := by
  rw [BitVec.toNat_ofInt]
  have : (0 : Int) ≤ x % (2 ^ b : Nat) := Int.emod_nonneg _ (by have := Nat.two_pow_pos b; omega)
  omega
/-- a mask of low bits, of any 64-bit number -/
theorem i64_mask (x : Int) (i : Nat) (hi : i ≤ 62) : Go.bits .and .i64 x (2 ^ i - 1) = x % 2 ^ i := by
  have hpos : 0 < 2 ^ i := Nat.two_pow_pos i
  have hle : 2 ^ i ≤ 2 ^ 62 := Nat.pow_le_pow_right (by decide) hi
  have h62 : (2 : Nat) ^ 62 = 4611686018427387904 := by decide
  have hc : ((2 : Int) ^ i - 1) = ((2 ^ i - 1 : Nat) : Int) := by rw [Int.natCast_sub hpos]; simp
  have e1 : (BitVec.ofInt 64 ((2 ^ i - 1 : Nat) : Int)).toNat = 2 ^ i - 1 := by
    rw [BitVec.ofInt_natCast, BitVec.toNat_ofNat]
    exact Nat.mod_eq_of_lt (by omega)
  show IntKind.i64.wrap ((BitVec.ofInt 64 x &&& BitVec.ofInt 64 (2 ^ i - 1)).toNat : Int) = _
  rw [hc, BitVec.toNat_and, e1, Nat.and_two_pow_sub_one_eq_mod]
  have e2 := ofInt_toNat 64 x
  have e3 : (((BitVec.ofInt 64 x).toNat % 2 ^ i : Nat) : Int) = x % 2 ^ i := by
    rw [Int.natCast_emod, e2]
    have hd : (2 ^ i : Int) ∣ ((2 ^ 64 : Nat) : Int) := ⟨2 ^ (64 - i), by
      rw [← Int.pow_add, show i + (64 - i) = 64 from by omega]
      rfl⟩
    have := Int.emod_emod_of_dvd x hd
    simpa using this
  rw [e3, IntKind.wrap_i64]
  have h0 : 0 ≤ x % 2 ^ i := Int.emod_nonneg _ (by have : (0 : Int) < 2 ^ i := by exact_mod_cast hpos
                                                   omega)
  have h1 : x % 2 ^ i < 2 ^ i := Int.emod_lt_of_pos _ (by exact_mod_cast hpos)
  have h2 : (2 : Int) ^ i ≤ 4611686018427387904 := by
    have : ((2 ^ i : Nat) : Int) ≤ ((2 ^ 62 : Nat) : Int) := by exact_mod_cast hle
    rw [h62] at this
    simpa using this
  omega
theorem w_and127 (x : Int) : Go.bits .and .i64 x 127 = x % 128 := i64_mask x 7 (by decide)
theorem or_comm (k : IntKind) (x y : Int) : Go.bits .or k x y = Go.bits .or k y x := by
  show k.wrap ((BitVec.ofInt k.bits x ||| BitVec.ofInt k.bits y).toNat : Int) = k.wrap ((BitVec.ofInt k.bits y ||| BitVec.ofInt k.bits x).toNat : Int)
  rw [BitVec.or_comm]
theorem wraps_u64 (n : Int) (h₀ : 0 ≤ n) (h₁ : n < 2 ^ 64) : IntKind.u64.wrap n = n := by rw [IntKind.wrap_u64]; omega
/-- low bits and bits above them, joined -/
theorem u64_join (u v : Int) (i : Nat) (hu0 : 0 ≤ u) (hu : u < 2 ^ i) (hv0 : 0 ≤ v) (hv : v % 2 ^ i = 0) (hv1 : v < 18446744073709551616) (hu1 : u < 18446744073709551616) : Go.bits .or .u64 u v = u + v := by
  rw [or_comm, bits_join .u64 64 (by decide) wraps_u64 i v u hv0 hv (by omega) hu0 hu (by omega)]
  omega
end Go.Proofs.Ytejdnanhnkjaoaa.Bit
