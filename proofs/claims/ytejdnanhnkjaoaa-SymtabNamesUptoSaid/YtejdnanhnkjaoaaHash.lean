/- The two hashes of names: what the program reckons is what the reference reckons; a hash has 28 bits. -/
import Derived.Test.YtejdnanhnkjaoaaGf9
import Derived.Test.YtejdnanhnkjaoaaGf10
import Derived.Test.YtejdnanhnkjaoaaBits
namespace Go.Proofs.Ytejdnanhnkjaoaa.Sym
set_option linter.unusedVariables false
set_option linter.unusedSimpArgs false
open Go.RowKit Go.Proofs.Ytejdnanhnkjaoaa.G Go.Proofs.YtejdnanhnkjaoaaW.PrintWords Go.Proofs.YtejdnanhnkjaoaaW.PrintLast Go.Proofs.YtejdnanhnkjaoaaW.PrintMore Go.Proofs.Ytejdnanhnkjaoaa.Bit

theorem and_high (v : Nat) (hv : v < 4294967296) : v &&& 4026531840 = v / 268435456 * 268435456 := by
  apply Nat.eq_of_testBit_eq
  intro j
  rw [Nat.testBit_and, show (4026531840 : Nat) = 2 ^ 28 * (2 ^ 4 - 1) from rfl, Nat.testBit_two_pow_mul, Nat.testBit_two_pow_sub_one, show v / 268435456 * 268435456 = 2 ^ 28 * (v / 2 ^ 28) from Nat.mul_comm _ _, Nat.testBit_two_pow_mul, Nat.testBit_div_two_pow]
  by_cases c : 28 ≤ j
  · by_cases c2 : j - 28 < 4
    · simp [c, c2]
    · have : v.testBit j = false := Nat.testBit_lt_two_pow (Nat.lt_of_lt_of_le hv (by
        have : 2 ^ 32 ≤ 2 ^ j := Nat.pow_le_pow_right (by decide) (by omega)
        simpa using this))
      simp [c, c2, this]
  · simp [c]
theorem wraps_u32 (n : Int) (h₀ : 0 ≤ n) (h₁ : n < 4294967296) : IntKind.u32.wrap n = n := by rw [IntKind.wrap_u32]; omega
theorem u32_high (v : Int) (h0 : 0 ≤ v) (h1 : v < 4294967296) : Go.bits .and .u32 v 4026531840 = v / 268435456 * 268435456 := by
  obtain ⟨a, rfl⟩ := Int.eq_ofNat_of_zero_le h0
  have h := (bits_nat .u32 32 (by decide) (fun n p q => wraps_u32 n p (by simpa using q)) a 4026531840 (by omega) (by decide)).1
  rw [and_high a (by omega)] at h
  simpa using h
theorem u32_low (v : Int) (h0 : 0 ≤ v) (h1 : v < 4294967296) : Go.bits .andNot .u32 v (v / 268435456 * 268435456) = v % 268435456 := by
  obtain ⟨a, rfl⟩ := Int.eq_ofNat_of_zero_le h0
  have ha : a < 4294967296 := by omega
  have hc : ((a : Int) / 268435456 * 268435456) = ((a / 268435456 * 268435456 : Nat) : Int) := by simp
  rw [hc]
  show IntKind.u32.wrap ((BitVec.ofInt 32 (a : Int) &&& ~~~ BitVec.ofInt 32 ((a / 268435456 * 268435456 : Nat) : Int)).toNat : Int) = _
  have e : (BitVec.ofInt 32 (a : Int) &&& ~~~ BitVec.ofInt 32 ((a / 268435456 * 268435456 : Nat) : Int)).toNat = a % 268435456 := by
    apply Nat.eq_of_testBit_eq
    intro j
    rw [BitVec.testBit_toNat, BitVec.getLsbD_and, BitVec.getLsbD_not, BitVec.ofInt_natCast, BitVec.ofInt_natCast, BitVec.getLsbD_ofNat, BitVec.getLsbD_ofNat, show (268435456 : Nat) = 2 ^ 28 from rfl, Nat.testBit_mod_two_pow, Nat.mul_comm, Nat.testBit_two_pow_mul, Nat.testBit_div_two_pow]
    by_cases c : j < 28
    · simp [c, show j < 32 by omega, show ¬ 28 ≤ j by omega]
    · by_cases c2 : j < 32
      · simp [c, c2, show 28 ≤ j by omega]
      · simp [c, c2]
  rw [e, wraps_u32 _ (by omega) (by omega)]
  simp
theorem u32_xor (a b : Int) (h0 : 0 ≤ a) (h1 : a < 268435456) (h2 : 0 ≤ b) (h3 : b < 268435456) : 0 ≤ Go.bits .xor .u32 a b ∧ Go.bits .xor .u32 a b < 268435456 := by
  obtain ⟨x, rfl⟩ := Int.eq_ofNat_of_zero_le h0
  obtain ⟨y, rfl⟩ := Int.eq_ofNat_of_zero_le h2
  have e : Go.bits .xor .u32 (x : Int) (y : Int) = ((x ^^^ y : Nat) : Int) := by
    show IntKind.u32.wrap ((BitVec.ofInt 32 (x : Int) ^^^ BitVec.ofInt 32 (y : Int)).toNat : Int) = _
    rw [BitVec.toNat_xor, BitVec.ofInt_natCast, BitVec.ofInt_natCast, BitVec.toNat_ofNat, BitVec.toNat_ofNat, Nat.mod_eq_of_lt (by omega), Nat.mod_eq_of_lt (by omega)]
    have : x ^^^ y < 2 ^ 28 := Nat.xor_lt_two_pow (by omega) (by omega)
    rw [wraps_u32 _ (by omega) (by omega)]
  have : x ^^^ y < 2 ^ 28 := Nat.xor_lt_two_pow (by omega) (by omega)
  rw [e]
  omega
theorem hashOne_eq (h x : Int) : hashOne h x = Go.bits .xor .u32 ((h * 16 + x) % 4294967296 % 268435456) ((h * 16 + x) % 4294967296 / 268435456 * 268435456 / 16777216) := by
  unfold hashOne
  rw [u32_high _ (by omega) (by omega), u32_low _ (by omega) (by omega)]
theorem hashOne_lt (h x : Int) : 0 ≤ hashOne h x ∧ hashOne h x < 268435456 := by
  rw [hashOne_eq]
  exact u32_xor _ _ (by omega) (by omega) (by omega) (by omega)
theorem symHash_lt (l : List UInt8) : ∀ h : Int, 0 ≤ h → h < 268435456 → 0 ≤ symHash l h ∧ symHash l h < 268435456 := by
  induction l with
  | nil => intro h h0 h1; exact ⟨h0, h1⟩
  | cons x xs ih => intro h h0 h1; exact ih _ (hashOne_lt h x.toNat).1 (hashOne_lt h x.toNat).2
theorem symGnu_append (l l' : List UInt8) : ∀ h, symGnu (l ++ l') h = symGnu l' (symGnu l h) := by
  induction l with
  | nil => intro h; rfl
  | cons x xs ih => intro h; exact ih _
end Go.Proofs.Ytejdnanhnkjaoaa.Sym
