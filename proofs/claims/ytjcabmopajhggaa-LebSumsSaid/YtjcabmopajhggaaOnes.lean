/- math/bits.OnesCount of a number up to 2^30 is 1 just if the number is a power of 2. -/
import Derived.Test.YtjcabmopajhggaaLebAlign
namespace Go.Proofs.Ytjcabmopajhggaa.Leb
set_option linter.unusedVariables false
set_option linter.unusedSimpArgs false
open Go.RowKit Go.Proofs.Ytjcabmopajhggaa.G Go.Proofs.YtjcabmopajhggaaW.PrintWords Go.Proofs.YtjcabmopajhggaaW.PrintLast Go.Proofs.YtjcabmopajhggaaW.PrintMore Go.Proofs.Ytjcabmopajhggaa.Bit

theorem and_byte (b r m s : Nat) (hb : b < 256) (hm : m < 256) : (256 * r + b) &&& (256 * s + m) = 256 * (r &&& s) + (b &&& m) := by
  have hbm : b &&& m < 2 ^ 8 := Nat.and_lt_two_pow _ (by omega)
  apply Nat.eq_of_testBit_eq
  intro j
  rw [Nat.testBit_and, show (256 : Nat) = 2 ^ 8 from rfl, Nat.testBit_two_pow_mul_add r (by omega), Nat.testBit_two_pow_mul_add s (by omega), Nat.testBit_two_pow_mul_add (r &&& s) hbm]
  by_cases c : j < 8
  · simp [c]
  · simp [c]
/-- four bytes as one number -/
def four (b0 b1 b2 b3 : Nat) : Nat := 256 * (256 * (256 * b3 + b2) + b1) + b0
theorem and_four (b0 b1 b2 b3 m s : Nat) (h0 : b0 < 256) (h1 : b1 < 256) (h2 : b2 < 256) (h3 : b3 < 256) (hm : m < 256) (hs : s = 72340172838076673 * m) :
    four b0 b1 b2 b3 &&& s = four (b0 &&& m) (b1 &&& m) (b2 &&& m) (b3 &&& m) := by
  subst hs
  unfold four
  rw [show 72340172838076673 * m = 256 * (256 * (256 * (256 * (16843009 * m) + m) + m) + m) + m from by omega, and_byte _ _ _ _ h0 hm, and_byte _ _ _ _ h1 hm, and_byte _ _ _ _ h2 hm]
  have e : b3 &&& (256 * (16843009 * m) + m) = b3 &&& m := by
    have := and_byte b3 0 m (16843009 * m) h3 hm
    simpa using this
  rw [e]
theorem st1 : ∀ b : Fin 256, ∀ t : Fin 2, ((b.val / 2 + 128 * t.val) &&& 85) + (b.val &&& 85) = ((b.val / 2) &&& 85) + (b.val &&& 85) := by decide +kernel
theorem st1b : ∀ b : Fin 256, ((b.val / 2) &&& 85) + (b.val &&& 85) < 256 := by decide +kernel
theorem st2 : ∀ b : Fin 256, ∀ t : Fin 4, ((b.val / 4 + 64 * t.val) &&& 51) + (b.val &&& 51) = ((b.val / 4) &&& 51) + (b.val &&& 51) := by decide +kernel
def s1 (b : Nat) : Nat := ((b / 2) &&& 85) + (b &&& 85)
def s2 (b : Nat) : Nat := ((b / 4) &&& 51) + (b &&& 51)
theorem s2_le : ∀ b : Fin 256, s2 (s1 b.val) / 16 ≤ 4 ∧ s2 (s1 b.val) % 16 ≤ 4 := by decide +kernel
theorem s1_lt (b : Nat) (h : b < 256) : s1 b < 256 := st1b ⟨b, h⟩
/-- how many bits a byte has -/
def pc (b : Nat) : Nat := s2 (s1 b) / 16 + s2 (s1 b) % 16
theorem pc_zero : ∀ b : Fin 256, pc b.val = 0 → b.val = 0 := by decide +kernel
theorem pc_one : ∀ b : Fin 256, pc b.val = 1 → ∃ i : Fin 8, b.val = 2 ^ i.val := by decide +kernel
theorem pc_le : ∀ b : Fin 256, pc b.val ≤ 8 := by decide +kernel
theorem st3 : ∀ h l t : Fin 5, ((h.val + 16 * t.val) + (16 * h.val + l.val)) &&& 15 = h.val + l.val := by decide +kernel
theorem step1 (b0 b1 b2 b3 : Nat) (h0 : b0 < 256) (h1 : b1 < 256) (h2 : b2 < 256) (h3 : b3 < 256) :
    ((four b0 b1 b2 b3 / 2) &&& 6148914691236517205) + (four b0 b1 b2 b3 &&& 6148914691236517205) = four (s1 b0) (s1 b1) (s1 b2) (s1 b3) := by
  have e : four b0 b1 b2 b3 / 2 = four (b0 / 2 + 128 * (b1 % 2)) (b1 / 2 + 128 * (b2 % 2)) (b2 / 2 + 128 * (b3 % 2)) (b3 / 2) := by unfold four; omega
  rw [e, and_four _ _ _ _ 85 _ (by omega) (by omega) (by omega) (by omega) (by omega) rfl, and_four _ _ _ _ 85 _ h0 h1 h2 h3 (by omega) rfl]
  have a0 := st1 ⟨b0, h0⟩ ⟨b1 % 2, by omega⟩
  have a1 := st1 ⟨b1, h1⟩ ⟨b2 % 2, by omega⟩
  have a2 := st1 ⟨b2, h2⟩ ⟨b3 % 2, by omega⟩
  unfold four s1
  simp only at a0 a1 a2
  omega
theorem step2 (b0 b1 b2 b3 : Nat) (h0 : b0 < 256) (h1 : b1 < 256) (h2 : b2 < 256) (h3 : b3 < 256) :
    ((four b0 b1 b2 b3 / 4) &&& 3689348814741910323) + (four b0 b1 b2 b3 &&& 3689348814741910323) = four (s2 b0) (s2 b1) (s2 b2) (s2 b3) := by
  have e : four b0 b1 b2 b3 / 4 = four (b0 / 4 + 64 * (b1 % 4)) (b1 / 4 + 64 * (b2 % 4)) (b2 / 4 + 64 * (b3 % 4)) (b3 / 4) := by unfold four; omega
  rw [e, and_four _ _ _ _ 51 _ (by omega) (by omega) (by omega) (by omega) (by omega) rfl, and_four _ _ _ _ 51 _ h0 h1 h2 h3 (by omega) rfl]
  have a0 := st2 ⟨b0, h0⟩ ⟨b1 % 4, by omega⟩
  have a1 := st2 ⟨b1, h1⟩ ⟨b2 % 4, by omega⟩
  have a2 := st2 ⟨b2, h2⟩ ⟨b3 % 4, by omega⟩
  unfold four s2
  simp only at a0 a1 a2
  omega
theorem step3 (d0 d1 d2 d3 : Nat) (h0 : d0 / 16 ≤ 4 ∧ d0 % 16 ≤ 4) (h1 : d1 / 16 ≤ 4 ∧ d1 % 16 ≤ 4) (h2 : d2 / 16 ≤ 4 ∧ d2 % 16 ≤ 4) (h3 : d3 / 16 ≤ 4 ∧ d3 % 16 ≤ 4) :
    (four d0 d1 d2 d3 / 16 + four d0 d1 d2 d3) &&& 1085102592571150095 = four (d0 / 16 + d0 % 16) (d1 / 16 + d1 % 16) (d2 / 16 + d2 % 16) (d3 / 16 + d3 % 16) := by
  have e : four d0 d1 d2 d3 / 16 + four d0 d1 d2 d3 = four ((d0 / 16 + 16 * (d1 % 16)) + (16 * (d0 / 16) + d0 % 16)) ((d1 / 16 + 16 * (d2 % 16)) + (16 * (d1 / 16) + d1 % 16)) ((d2 / 16 + 16 * (d3 % 16)) + (16 * (d2 / 16) + d2 % 16)) ((d3 / 16 + 16 * 0) + (16 * (d3 / 16) + d3 % 16)) := by unfold four; omega
  rw [e, and_four _ _ _ _ 15 _ (by omega) (by omega) (by omega) (by omega) (by omega) rfl]
  have a0 := st3 ⟨d0 / 16, by omega⟩ ⟨d0 % 16, by omega⟩ ⟨d1 % 16, by omega⟩
  have a1 := st3 ⟨d1 / 16, by omega⟩ ⟨d1 % 16, by omega⟩ ⟨d2 % 16, by omega⟩
  have a2 := st3 ⟨d2 / 16, by omega⟩ ⟨d2 % 16, by omega⟩ ⟨d3 % 16, by omega⟩
  have a3 := st3 ⟨d3 / 16, by omega⟩ ⟨d3 % 16, by omega⟩ ⟨0, by omega⟩
  simp only at a0 a1 a2 a3
  rw [a0, a1, a2, a3]
theorem fold1 (p0 p1 p2 p3 : Nat) (q0 : p0 ≤ 8) (q1 : p1 ≤ 8) (q2 : p2 ≤ 8) (q3 : p3 ≤ 8) : IntKind.u64.wrap (((four p0 p1 p2 p3 : Nat) : Int) + ((four p0 p1 p2 p3 : Nat) : Int) / 256) = ((four (p0 + p1) (p1 + p2) (p2 + p3) p3 : Nat) : Int) := by
  have d : ((four p0 p1 p2 p3 : Nat) : Int) / 256 = 256 * (256 * (p3 : Int) + p2) + p1 := by unfold four; omega
  rw [d, wrap_u64]
  unfold four
  rw [Int.emod_eq_of_lt (by omega) (by omega)]
  omega
theorem fold2 (p0 p1 p2 p3 : Nat) (q0 : p0 ≤ 8) (q1 : p1 ≤ 8) (q2 : p2 ≤ 8) (q3 : p3 ≤ 8) : IntKind.u64.wrap (((four (p0 + p1) (p1 + p2) (p2 + p3) p3 : Nat) : Int) + ((four (p0 + p1) (p1 + p2) (p2 + p3) p3 : Nat) : Int) / 65536) = ((four (p0 + p1 + p2 + p3) (p1 + p2 + p3) (p2 + p3) p3 : Nat) : Int) := by
  have d : ((four (p0 + p1) (p1 + p2) (p2 + p3) p3 : Nat) : Int) / 65536 = 256 * (p3 : Int) + (p2 + p3) := by unfold four; omega
  rw [d, wrap_u64]
  unfold four
  rw [Int.emod_eq_of_lt (by omega) (by omega)]
  omega
theorem fold3 (p0 p1 p2 p3 : Nat) (q0 : p0 ≤ 8) (q1 : p1 ≤ 8) (q2 : p2 ≤ 8) (q3 : p3 ≤ 8) : IntKind.u64.wrap (((four (p0 + p1 + p2 + p3) (p1 + p2 + p3) (p2 + p3) p3 : Nat) : Int) + ((four (p0 + p1 + p2 + p3) (p1 + p2 + p3) (p2 + p3) p3 : Nat) : Int) / 4294967296) = ((four (p0 + p1 + p2 + p3) (p1 + p2 + p3) (p2 + p3) p3 : Nat) : Int) := by
  have d : ((four (p0 + p1 + p2 + p3) (p1 + p2 + p3) (p2 + p3) p3 : Nat) : Int) / 4294967296 = 0 := by unfold four; omega
  rw [d, wrap_u64]
  unfold four
  rw [Int.emod_eq_of_lt (by omega) (by omega)]
  omega
theorem fold4 (p0 p1 p2 p3 : Nat) (q0 : p0 ≤ 8) (q1 : p1 ≤ 8) (q2 : p2 ≤ 8) (q3 : p3 ≤ 8) : wrap64 ((four (p0 + p1 + p2 + p3) (p1 + p2 + p3) (p2 + p3) p3 : Nat) : Int) % 128 = ((p0 + p1 + p2 + p3 : Nat) : Int) := by
  have d : ((four (p0 + p1 + p2 + p3) (p1 + p2 + p3) (p2 + p3) p3 : Nat) : Int) = 256 * (256 * (256 * (p3 : Int) + (p2 + p3)) + (p1 + p2 + p3)) + (p0 + p1 + p2 + p3) := by unfold four; omega
  rw [wrap64_id (by omega) (by omega), d]
  omega
theorem four_lt (b0 b1 b2 b3 : Nat) (h0 : b0 < 256) (h1 : b1 < 256) (h2 : b2 < 256) (h3 : b3 < 256) : four b0 b1 b2 b3 < 4294967296 := by unfold four; omega
theorem andI (x m : Nat) (hx : x < 18446744073709551616) (hm : m < 18446744073709551616) : Go.bits .and .u64 (x : Int) (m : Int) = ((x &&& m : Nat) : Int) := bits_and_u64_nat x m hx hm
theorem ones_four (b0 b1 b2 b3 : Nat) (h0 : b0 < 256) (h1 : b1 < 256) (h2 : b2 < 256) (h3 : b3 < 256) :
    bits_OnesCount64.f ((four b0 b1 b2 b3 : Nat) : Int) = some ((pc b0 + pc b1 + pc b2 + pc b3 : Nat) : Int) := by
  have hlt := four_lt b0 b1 b2 b3 h0 h1 h2 h3
  have e1 : IntKind.u64.wrap ((Go.bits .and .u64 (((four b0 b1 b2 b3 : Nat) : Int) / 2) 6148914691236517205) + (Go.bits .and .u64 ((four b0 b1 b2 b3 : Nat) : Int) 6148914691236517205)) = ((four (s1 b0) (s1 b1) (s1 b2) (s1 b3) : Nat) : Int) := by
    have := step1 b0 b1 b2 b3 h0 h1 h2 h3
    have l := four_lt _ _ _ _ (s1_lt b0 h0) (s1_lt b1 h1) (s1_lt b2 h2) (s1_lt b3 h3)
    rw [show ((four b0 b1 b2 b3 : Nat) : Int) / 2 = ((four b0 b1 b2 b3 / 2 : Nat) : Int) from by omega, show (6148914691236517205 : Int) = ((6148914691236517205 : Nat) : Int) from rfl, andI _ _ (by omega) (by omega), andI _ _ (by omega) (by omega), wrap_u64]
    omega
  have l1 := s1_lt b0 h0
  have l2 := s1_lt b1 h1
  have l3 := s1_lt b2 h2
  have l4 := s1_lt b3 h3
  have g0 := s2_le ⟨b0, h0⟩
  have g1 := s2_le ⟨b1, h1⟩
  have g2 := s2_le ⟨b2, h2⟩
  have g3 := s2_le ⟨b3, h3⟩
  simp only at g0 g1 g2 g3
  have e2 : IntKind.u64.wrap ((Go.bits .and .u64 (((four (s1 b0) (s1 b1) (s1 b2) (s1 b3) : Nat) : Int) / 4) 3689348814741910323) + (Go.bits .and .u64 ((four (s1 b0) (s1 b1) (s1 b2) (s1 b3) : Nat) : Int) 3689348814741910323)) = ((four (s2 (s1 b0)) (s2 (s1 b1)) (s2 (s1 b2)) (s2 (s1 b3)) : Nat) : Int) := by
    have := step2 _ _ _ _ l1 l2 l3 l4
    have l := four_lt _ _ _ _ l1 l2 l3 l4
    have l' := four_lt (s2 (s1 b0)) (s2 (s1 b1)) (s2 (s1 b2)) (s2 (s1 b3)) (by omega) (by omega) (by omega) (by omega)
    rw [show ((four (s1 b0) (s1 b1) (s1 b2) (s1 b3) : Nat) : Int) / 4 = ((four (s1 b0) (s1 b1) (s1 b2) (s1 b3) / 4 : Nat) : Int) from by omega, show (3689348814741910323 : Int) = ((3689348814741910323 : Nat) : Int) from rfl, andI _ _ (by omega) (by omega), andI _ _ (by omega) (by omega), wrap_u64]
    omega
  have e3 : Go.bits .and .u64 (IntKind.u64.wrap (((four (s2 (s1 b0)) (s2 (s1 b1)) (s2 (s1 b2)) (s2 (s1 b3)) : Nat) : Int) / 16 + ((four (s2 (s1 b0)) (s2 (s1 b1)) (s2 (s1 b2)) (s2 (s1 b3)) : Nat) : Int))) 1085102592571150095 = ((four (pc b0) (pc b1) (pc b2) (pc b3) : Nat) : Int) := by
    have := step3 _ _ _ _ g0 g1 g2 g3
    have l' := four_lt (s2 (s1 b0)) (s2 (s1 b1)) (s2 (s1 b2)) (s2 (s1 b3)) (by omega) (by omega) (by omega) (by omega)
    rw [show ((four (s2 (s1 b0)) (s2 (s1 b1)) (s2 (s1 b2)) (s2 (s1 b3)) : Nat) : Int) / 16 + ((four (s2 (s1 b0)) (s2 (s1 b1)) (s2 (s1 b2)) (s2 (s1 b3)) : Nat) : Int) = ((four (s2 (s1 b0)) (s2 (s1 b1)) (s2 (s1 b2)) (s2 (s1 b3)) / 16 + four (s2 (s1 b0)) (s2 (s1 b1)) (s2 (s1 b2)) (s2 (s1 b3)) : Nat) : Int) from by omega, wrap_u64, show (1085102592571150095 : Int) = ((1085102592571150095 : Nat) : Int) from rfl,
      show (((four (s2 (s1 b0)) (s2 (s1 b1)) (s2 (s1 b2)) (s2 (s1 b3)) / 16 + four (s2 (s1 b0)) (s2 (s1 b1)) (s2 (s1 b2)) (s2 (s1 b3)) : Nat) : Int)) % 18446744073709551616 = ((four (s2 (s1 b0)) (s2 (s1 b1)) (s2 (s1 b2)) (s2 (s1 b3)) / 16 + four (s2 (s1 b0)) (s2 (s1 b1)) (s2 (s1 b2)) (s2 (s1 b3)) : Nat) : Int) from by omega, andI _ _ (by omega) (by omega), this]
    rfl
  have q0 := pc_le ⟨b0, h0⟩
  have q1 := pc_le ⟨b1, h1⟩
  have q2 := pc_le ⟨b2, h2⟩
  have q3 := pc_le ⟨b3, h3⟩
  simp only at q0 q1 q2 q3
  unfold bits_OnesCount64.f
  rw [e1, e2, e3]
  generalize pc b0 = p0 at *
  generalize pc b1 = p1 at *
  generalize pc b2 = p2 at *
  generalize pc b3 = p3 at *
  rw [fold1 p0 p1 p2 p3 q0 q1 q2 q3, fold2 p0 p1 p2 p3 q0 q1 q2 q3, fold3 p0 p1 p2 p3 q0 q1 q2 q3, w_and127, fold4 p0 p1 p2 p3 q0 q1 q2 q3]
theorem ones_one {a : Int} (h0 : 1 ≤ a) (h1 : a ≤ 1073741824) : ∃ t, bits_OnesCount.f a = some t ∧ (t = 1 ↔ ∃ i : Nat, i ≤ 30 ∧ a = 2 ^ i) := by
  obtain ⟨n, rfl⟩ := Int.eq_ofNat_of_zero_le (show 0 ≤ a by omega)
  obtain ⟨b0, b1, b2, b3, l0, l1, l2, l3, hn⟩ : ∃ b0 b1 b2 b3 : Nat, b0 < 256 ∧ b1 < 256 ∧ b2 < 256 ∧ b3 < 256 ∧ n = four b0 b1 b2 b3 :=
    ⟨n % 256, n / 256 % 256, n / 65536 % 256, n / 16777216 % 256, by omega, by omega, by omega, by omega, by unfold four; omega⟩
  refine ⟨((pc b0 + pc b1 + pc b2 + pc b3 : Nat) : Int), ?_, ?_⟩
  · unfold bits_OnesCount.f
    rw [hn, ones_four b0 b1 b2 b3 l0 l1 l2 l3]
    rfl
  · have z0 := pc_zero ⟨b0, l0⟩
    have z1 := pc_zero ⟨b1, l1⟩
    have z2 := pc_zero ⟨b2, l2⟩
    have z3 := pc_zero ⟨b3, l3⟩
    have o0 := pc_one ⟨b0, l0⟩
    have o1 := pc_one ⟨b1, l1⟩
    have o2 := pc_one ⟨b2, l2⟩
    have o3 := pc_one ⟨b3, l3⟩
    simp only at z0 z1 z2 z3 o0 o1 o2 o3
    constructor
    · intro h
      have hs : pc b0 + pc b1 + pc b2 + pc b3 = 1 := by omega
      have hcase : (pc b0 = 1 ∧ pc b1 = 0 ∧ pc b2 = 0 ∧ pc b3 = 0) ∨ (pc b0 = 0 ∧ pc b1 = 1 ∧ pc b2 = 0 ∧ pc b3 = 0) ∨ (pc b0 = 0 ∧ pc b1 = 0 ∧ pc b2 = 1 ∧ pc b3 = 0) ∨ (pc b0 = 0 ∧ pc b1 = 0 ∧ pc b2 = 0 ∧ pc b3 = 1) := by omega
      have fin : ∀ (i j : Nat), n = 2 ^ i * 2 ^ j → ∃ i : Nat, i ≤ 30 ∧ (n : Int) = 2 ^ i := by
        intro i j hij
        rw [← Nat.pow_add] at hij
        refine ⟨i + j, ?_, by rw [hij]; simp⟩
        refine Nat.le_of_not_lt fun hgt => ?_
        have : 2 ^ 31 ≤ 2 ^ (i + j) := Nat.pow_le_pow_right (by decide) hgt
        have h31 : (2 : Nat) ^ 31 = 2147483648 := by decide
        omega
      rcases hcase with ⟨p0, p1, p2, p3⟩ | ⟨p0, p1, p2, p3⟩ | ⟨p0, p1, p2, p3⟩ | ⟨p0, p1, p2, p3⟩
      · obtain ⟨i, hi⟩ := o0 p0
        exact fin i.val 0 (by rw [hn, z1 p1, z2 p2, z3 p3, hi]; unfold four; simp)
      · obtain ⟨i, hi⟩ := o1 p1
        exact fin i.val 8 (by rw [hn, z0 p0, z2 p2, z3 p3, hi]; unfold four; simp; omega)
      · obtain ⟨i, hi⟩ := o2 p2
        exact fin i.val 16 (by rw [hn, z0 p0, z1 p1, z3 p3, hi]; unfold four; simp; omega)
      · obtain ⟨i, hi⟩ := o3 p3
        exact fin i.val 24 (by rw [hn, z0 p0, z1 p1, z2 p2, hi]; unfold four; simp; omega)
    · rintro ⟨i, hi, e⟩
      have h := ones_pow i hi
      rw [← e] at h
      unfold bits_OnesCount.f at h
      rw [hn, ones_four b0 b1 b2 b3 l0 l1 l2 l3] at h
      simpa using h
theorem and_pred {a : Int} (h0 : 1 ≤ a) (h1 : a ≤ 1073741824) : Go.bits .and .i64 a (a - 1) = 0 ↔ ∃ i : Nat, i ≤ 30 ∧ a = 2 ^ i := by
  obtain ⟨n, rfl⟩ := Int.eq_ofNat_of_zero_le (show 0 ≤ a by omega)
  have hb : Go.bits .and .i64 (n : Int) ((n - 1 : Nat) : Int) = ((n &&& (n - 1) : Nat) : Int) :=
    (bits_nat .i64 62 (by decide) (fun m k0 k1 => by rw [IntKind.wrap_i64]; omega) n (n - 1) (by omega) (by omega)).1
  rw [show ((n : Int) - 1) = ((n - 1 : Nat) : Int) from by omega, hb]
  constructor
  · intro h
    obtain ⟨i, hi⟩ := (Nat.and_sub_one_eq_zero_iff_isPowerOfTwo (n := n) (by omega)).1 (by omega)
    refine ⟨i, ?_, by rw [hi]; simp⟩
    refine Nat.le_of_not_lt fun hgt => ?_
    have : 2 ^ 31 ≤ 2 ^ i := Nat.pow_le_pow_right (by decide) hgt
    have h31 : (2 : Nat) ^ 31 = 2147483648 := by decide
    omega
  · rintro ⟨i, hi, e⟩
    have : n = 2 ^ i := by
      have h2 : (n : Int) = ((2 ^ i : Nat) : Int) := by rw [e]; simp
      exact Int.ofNat_inj.mp h2
    have := (Nat.and_sub_one_eq_zero_iff_isPowerOfTwo (n := n) (by omega)).2 ⟨i, this⟩
    omega
end Go.Proofs.Ytjcabmopajhggaa.Leb
