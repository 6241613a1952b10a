/- Lemmas and contracts, one text behind the other: what the row of this claim needs; no conditions beyond those that each theorem names. -/
import Derived.Laws.BitsLemmas
import Derived.Laws.Bits64b
import Derived.Test.YtfgfnflhdabmcaaRows
import Derived.ChangeArms
import Derived.DataReads
import Derived.SizedLaws
import Derived.Test.YtfgfnflhdabmcaaVP6
section
namespace Go.Proofs.Ytfgfnflhdabmcaa.Bit
set_option linter.unusedVariables false
set_option linter.unusedSimpArgs false
open Go.RowKit Go.Proofs.YtfgfnflhdabmcaaW.PrintWords Go.Proofs.YtfgfnflhdabmcaaW.PrintMore
theorem wrap_u64 (n : Int) : IntKind.u64.wrap n = n % 18446744073709551616 := IntKind.wrap_u64 n
theorem wrap64_eq (n : Int) : wrap64 n = (n + 9223372036854775808) % 18446744073709551616 - 9223372036854775808 := by unfold wrap64; omega
theorem wrap64_id {n : Int} (h0 : -9223372036854775808 ≤ n) (h1 : n ≤ 9223372036854775807) : wrap64 n = n := by unfold wrap64; omega
/-- of a byte: the finite check -/
theorem byte_all {P : Int → Prop} (h : ∀ i : Fin 256, P (i.val : Int)) (x : Int) (h0 : 0 ≤ x) (h1 : x < 256) : P x := by
  obtain ⟨n, rfl⟩ := Int.eq_ofNat_of_zero_le h0
  exact h ⟨n, by omega⟩
theorem b_or128 (x : Int) : Go.bits .or .u8 (x % 256) 128 = x % 128 + 128 := by
  have h := byte_all (P := fun y => Go.bits .or .u8 y 128 = y % 128 + 128) (by decide +kernel) (x % 256) (by omega) (by omega)
  rw [h]
  omega
theorem b_and127 (x : Int) : Go.bits .and .u8 (x % 256) 127 = x % 128 := by
  have h := byte_all (P := fun y => Go.bits .and .u8 y 127 = y % 128) (by decide +kernel) (x % 256) (by omega) (by omega)
  rw [h]
  omega
theorem b_and127' (x : Int) (h0 : 0 ≤ x) (h1 : x < 256) : Go.bits .and .u8 x 127 = x % 128 := by
  have := b_and127 x
  rwa [Int.emod_eq_of_lt h0 h1] at this
theorem ofInt_toNat (b : Nat) (x : Int) : ((BitVec.ofInt b x).toNat : Int) = x % (2 ^ b : Nat) := by
  rw [BitVec.toNat_ofInt]
  have : (0 : Int) ≤ x % (2 ^ b : Nat) := Int.emod_nonneg _ (by have := Nat.two_pow_pos b; omega)
  omega
/-- a mask of low bits, of any 64-bit number -/
theorem i64_mask (x : Int) (i : Nat) (hi : i ≤ 62) : Go.bits .and .i64 x (2 ^ i - 1) = x % 2 ^ i := by
  have hpos : 0 < 2 ^ i := Nat.two_pow_pos i
  have hle : 2 ^ i ≤ 2 ^ 62 := Nat.pow_le_pow_right (by decide) hi
  have h62 : (2 : Nat) ^ 62 = 4611686018427387904 := by decide
  have hc : ((2 : Int) ^ i - 1) = ((2 ^ i - 1 : Nat) : Int) := by rw [Int.natCast_sub hpos]; simp
  have e1 : (BitVec.ofInt 64 ((2 ^ i - 1 : Nat) : Int)).toNat = 2 ^ i - 1 := by
    rw [BitVec.ofInt_natCast, BitVec.toNat_ofNat]
    exact Nat.mod_eq_of_lt (by omega)
  show IntKind.i64.wrap ((BitVec.ofInt 64 x &&& BitVec.ofInt 64 (2 ^ i - 1)).toNat : Int) = _
  rw [hc, BitVec.toNat_and, e1, Nat.and_two_pow_sub_one_eq_mod]
  have e2 := ofInt_toNat 64 x
  have e3 : (((BitVec.ofInt 64 x).toNat % 2 ^ i : Nat) : Int) = x % 2 ^ i := by
    rw [Int.natCast_emod, e2]
    have hd : (2 ^ i : Int) ∣ ((2 ^ 64 : Nat) : Int) := ⟨2 ^ (64 - i), by
      rw [← Int.pow_add, show i + (64 - i) = 64 from by omega]
      rfl⟩
    have := Int.emod_emod_of_dvd x hd
    simpa using this
  rw [e3, IntKind.wrap_i64]
  have h0 : 0 ≤ x % 2 ^ i := Int.emod_nonneg _ (by have : (0 : Int) < 2 ^ i := by exact_mod_cast hpos
                                                   omega)
  have h1 : x % 2 ^ i < 2 ^ i := Int.emod_lt_of_pos _ (by exact_mod_cast hpos)
  have h2 : (2 : Int) ^ i ≤ 4611686018427387904 := by
    have : ((2 ^ i : Nat) : Int) ≤ ((2 ^ 62 : Nat) : Int) := by exact_mod_cast hle
    rw [h62] at this
    simpa using this
  omega
theorem w_and127 (x : Int) : Go.bits .and .i64 x 127 = x % 128 := i64_mask x 7 (by decide)
theorem or_comm (k : IntKind) (x y : Int) : Go.bits .or k x y = Go.bits .or k y x := by
  show k.wrap ((BitVec.ofInt k.bits x ||| BitVec.ofInt k.bits y).toNat : Int) = k.wrap ((BitVec.ofInt k.bits y ||| BitVec.ofInt k.bits x).toNat : Int)
  rw [BitVec.or_comm]
theorem wraps_u64 (n : Int) (h₀ : 0 ≤ n) (h₁ : n < 2 ^ 64) : IntKind.u64.wrap n = n := by rw [IntKind.wrap_u64]; omega
/-- low bits and bits above them, joined -/
theorem u64_join (u v : Int) (i : Nat) (hu0 : 0 ≤ u) (hu : u < 2 ^ i) (hv0 : 0 ≤ v) (hv : v % 2 ^ i = 0) (hv1 : v < 18446744073709551616) (hu1 : u < 18446744073709551616) : Go.bits .or .u64 u v = u + v := by
  rw [or_comm, bits_join .u64 64 (by decide) wraps_u64 i v u hv0 hv (by omega) hu0 hu (by omega)]
  omega
end Go.Proofs.Ytfgfnflhdabmcaa.Bit
end
section
namespace Go.Proofs.Ytfgfnflhdabmcaa.Leb
set_option linter.unusedVariables false
set_option linter.unusedSimpArgs false
open Go.RowKit Go.Proofs.Ytfgfnflhdabmcaa.G Go.Proofs.YtfgfnflhdabmcaaW.PrintWords Go.Proofs.YtfgfnflhdabmcaaW.PrintLast Go.Proofs.YtfgfnflhdabmcaaW.PrintMore Go.Proofs.Ytfgfnflhdabmcaa.Bit
/-- bytes as a number, the low one first -/
def leN : List Int → Int
  | [] => 0
  | b :: bs => b + 256 * leN bs
/-- so many low bytes of a number -/
def leB (u : Int) : Nat → List Int
  | 0 => []
  | s + 1 => u % 256 :: leB (u / 256) s
theorem leB_length (s : Nat) : ∀ u, (leB u s).length = s := by
  induction s with
  | zero => intro u; rfl
  | succ s ih => intro u; simp [leB, ih]
theorem pow256 (i : Nat) : (256 : Int) ^ (i + 1) = 256 * 256 ^ i := by rw [Int.pow_succ, Int.mul_comm]
theorem pow256_pos (i : Nat) : (0 : Int) < 256 ^ i := Int.pow_pos (by decide +kernel)
theorem leN_range (l : List Int) (h : ∀ b ∈ l, 0 ≤ b ∧ b ≤ 255) : 0 ≤ leN l ∧ leN l < 256 ^ l.length := by
  induction l with
  | nil => simp [leN]
  | cons b bs ih =>
    have h1 := h b (by simp)
    have h2 := ih (fun x hx => h x (by simp [hx]))
    simp only [leN, List.length_cons, pow256]
    omega
theorem shr_bytes (u : Int) (i : Nat) (hi : i ≤ 8) : shr .u64 u (wrap64 (8 * (i : Int))) = u / 256 ^ i := by
  unfold shr
  rw [wrap64_id (by omega) (by omega), show (8 * (i : Int)).toNat = 8 * i from by omega, Nat.min_eq_left (by simp [IntKind.bits]; omega), show (2 : Int) ^ (8 * i) = 256 ^ i from by rw [Int.pow_mul]; rfl]
theorem low_l0 (d : Nat) : ∀ (k i : Nat) (u : Int) (s : Nat) (acc : List Int), s ≤ 8 → i ≤ s → s - i = d → d < k → acc.length ≤ 1000 - d → d ≤ 8 → leb_low_uint64.l0 k u acc (s : Int) (i : Int) = some (acc ++ leB (u / 256 ^ i) (s - i)) := by
  induction d with
  | zero =>
    intro k i u s acc hs hi hd hk ha _
    obtain ⟨k, rfl⟩ : ∃ m, k = m + 1 := ⟨k - 1, by omega⟩
    simp only [leb_low_uint64.l0]
    rw [if_neg (by omega), hd]
    simp [leB]
  | succ d ih =>
    intro k i u s acc hs hi hd hk ha hd8
    obtain ⟨k, rfl⟩ : ∃ m, k = m + 1 := ⟨k - 1, by omega⟩
    simp only [leb_low_uint64.l0]
    rw [if_pos (show (i : Int) < s by omega), shr_bytes u i (by omega), wrap64_id (n := 8 * (i : Int)) (by omega) (by omega), if_pos (show 0 ≤ 8 * (i : Int) by omega), if_pos (show acc.length < 140737488355328 by omega), wrap64_id (n := (i : Int) + 1) (by omega) (by omega), show (i : Int) + 1 = ((i + 1 : Nat) : Int) from by omega,
      ih k (i + 1) u s _ hs (by omega) (by omega) (by omega) (by simp; omega) (by omega), show s - i = (s - (i + 1)) + 1 from by omega]
    simp only [leB, List.append_assoc, List.singleton_append]
    rw [Int.pow_succ, Int.ediv_ediv_of_nonneg (by have := pow256_pos i; omega)]
theorem low_f (u : Int) (s : Nat) (hs : s ≤ 8) (k : Nat) (hk : 9 ≤ k) : leb_low_uint64.f k u (s : Int) = some (leB u s) := by
  unfold leb_low_uint64.f
  have := low_l0 s k 0 u s [] hs (by omega) (by omega) (by omega) (by simp) (by omega)
  simpa using this
/-- may a number have so many bytes? -/
def sizedB (s : Int) : Bool := s == 1 || s == 2 || s == 4 || s == 8
theorem sized_f (s : Int) : leb_sized.f s = some (sizedB s) := by
  unfold leb_sized.f sizedB
  by_cases h1 : s = 1
  · simp [h1]
  · by_cases h2 : s = 2
    · simp [h2]
    · by_cases h4 : s = 4
      · simp [h4]
      · simp [h1, h2, h4]
theorem sizedB_cases {s : Int} (h : sizedB s = true) : s = 1 ∨ s = 2 ∨ s = 4 ∨ s = 8 := by
  unfold sizedB at h
  simp at h
  omega
/-- what leb.Put answers -/
def putV (n s : Int) : List Int × Int :=
  if sizedB s = true then (if s < 8 ∧ (n < -2 ^ (8 * s.toNat - 1) ∨ 2 ^ (8 * s.toNat) ≤ n) then ([], 11) else (leB (n % 18446744073709551616) s.toNat, 0)) else ([], 1)
theorem put_f (n s : Int) (k : Nat) (hk : 9 ≤ k) : leb_Put.f k n s = some (putV n s) := by
  unfold leb_Put.f putV
  rw [sized_f, Option.bind_some]
  by_cases hs : sizedB s = true
  · rw [if_pos hs, if_pos hs, wrap_u64]
    rcases sizedB_cases hs with rfl | rfl | rfl | rfl
    · rw [show leb_low_uint64.f k (n % 18446744073709551616) 1 = _ from low_f _ 1 (by omega) k hk]
      have e1 : shl .i64 (-1) (wrap64 (wrap64 (8 * 1) - 1)) = -128 := by decide +kernel
      have e2 : shl .i64 1 (wrap64 (8 * 1)) = 256 := by decide +kernel
      rw [e1, e2, if_pos (show (1 : Int) < 8 by omega), if_pos (show 0 ≤ wrap64 (wrap64 (8 * 1) - 1) by decide +kernel), if_pos (show 0 ≤ wrap64 (8 * 1) by decide +kernel)]
      simp only [Option.bind_some]
      by_cases c1 : n < -128
      · rw [if_pos c1, if_pos (by simp; omega)]
      · rw [if_neg c1]
        by_cases c2 : n ≥ 256
        · rw [if_pos c2, if_pos (by simp; omega)]
        · rw [if_neg c2, if_neg (by simp; omega)]; rfl
    · rw [show leb_low_uint64.f k (n % 18446744073709551616) 2 = _ from low_f _ 2 (by omega) k hk]
      have e1 : shl .i64 (-1) (wrap64 (wrap64 (8 * 2) - 1)) = -32768 := by decide +kernel
      have e2 : shl .i64 1 (wrap64 (8 * 2)) = 65536 := by decide +kernel
      rw [e1, e2, if_pos (show (2 : Int) < 8 by omega), if_pos (show 0 ≤ wrap64 (wrap64 (8 * 2) - 1) by decide +kernel), if_pos (show 0 ≤ wrap64 (8 * 2) by decide +kernel)]
      simp only [Option.bind_some]
      by_cases c1 : n < -32768
      · rw [if_pos c1, if_pos (by simp; omega)]
      · rw [if_neg c1]
        by_cases c2 : n ≥ 65536
        · rw [if_pos c2, if_pos (by simp; omega)]
        · rw [if_neg c2, if_neg (by simp; omega)]; rfl
    · rw [show leb_low_uint64.f k (n % 18446744073709551616) 4 = _ from low_f _ 4 (by omega) k hk]
      have e1 : shl .i64 (-1) (wrap64 (wrap64 (8 * 4) - 1)) = -2147483648 := by decide +kernel
      have e2 : shl .i64 1 (wrap64 (8 * 4)) = 4294967296 := by decide +kernel
      rw [e1, e2, if_pos (show (4 : Int) < 8 by omega), if_pos (show 0 ≤ wrap64 (wrap64 (8 * 4) - 1) by decide +kernel), if_pos (show 0 ≤ wrap64 (8 * 4) by decide +kernel)]
      simp only [Option.bind_some]
      by_cases c1 : n < -2147483648
      · rw [if_pos c1, if_pos (by simp; omega)]
      · rw [if_neg c1]
        by_cases c2 : n ≥ 4294967296
        · rw [if_pos c2, if_pos (by simp; omega)]
        · rw [if_neg c2, if_neg (by simp; omega)]; rfl
    · rw [show leb_low_uint64.f k (n % 18446744073709551616) 8 = _ from low_f _ 8 (by omega) k hk, if_neg (show ¬ (8 : Int) < 8 by omega), if_neg (by simp)]
      rfl
  · rw [if_neg hs, if_neg hs]
/-- a number of so many bytes, with its sign -/
def sgnV (u : Int) (s : Int) (sg : Bool) : Int :=
  if sg = true then (if 2 ^ (8 * s.toNat - 1) ≤ u then u - 2 ^ (8 * s.toNat) else u) else wrap64 u
theorem get_l0 (l : List Int) (a : Int) (s : Nat) (sg : Bool) (hl : ∀ b ∈ l, 0 ≤ b ∧ b ≤ 255) (hs : s ≤ 8) (ha : 0 ≤ a) (hal : a + s ≤ l.length) (hm : l.length ≤ 9223372036854775807) (d : Nat) :
    ∀ (k i : Nat) (u : Int), i ≤ s → s - i = d → d < k → 0 ≤ u → u < 256 ^ i →
      leb_Get.l0 k l a s sg u s i = leb_Get.l0 (k - d) l a s sg (u + 256 ^ i * leN ((l.drop (a.toNat + i)).take (s - i))) s s := by
  induction d with
  | zero =>
    intro k i u hi hd hk hu0 hu
    rw [show i = s from by omega]
    simp [leN]
  | succ d ih =>
    intro k i u hi hd hk hu0 hu
    obtain ⟨k, rfl⟩ : ∃ m, k = m + 1 := ⟨k - 1, by omega⟩
    have hil : a.toNat + i < l.length := by omega
    have hb := hl _ (List.getElem_mem hil)
    have hrd : rd l (wrap64 (a + (i : Int))) = l[a.toNat + i] := by
      rw [wrap64_id (by omega) (by omega)]
      simp [rd, List.getD, show (a + (i : Int)).toNat = a.toNat + i from by omega, hil]
    have hpos := pow256_pos i
    have hp8 : (256 : Int) ^ i * 256 ≤ 18446744073709551616 := by
      have h2 : ((256 ^ (i + 1) : Nat) : Int) ≤ ((256 ^ 8 : Nat) : Int) := Int.ofNat_le.mpr (Nat.pow_le_pow_right (n := 256) (by decide) (show i + 1 ≤ 8 by omega))
      rw [Int.natCast_pow, Int.natCast_pow, Int.pow_succ] at h2
      exact h2
    have hmul0 : 0 ≤ l[a.toNat + i] * 256 ^ i := Int.mul_nonneg hb.1 (by omega)
    have hmul : l[a.toNat + i] * 256 ^ i ≤ 255 * 256 ^ i := Int.mul_le_mul_of_nonneg_right hb.2 (by omega)
    have hshl : shl .u64 (IntKind.u64.wrap (l[a.toNat + i])) (wrap64 (8 * (i : Int))) = l[a.toNat + i] * 256 ^ i := by
      unfold shl
      rw [wrap64_id (by omega) (by omega), wrap_u64, wrap_u64, show (8 * (i : Int)).toNat = 8 * i from by omega, Nat.min_eq_left (by simp [IntKind.bits]; omega), show (2 : Int) ^ (8 * i) = 256 ^ i from by rw [Int.pow_mul]; rfl,
        Int.emod_eq_of_lt hb.1 (by omega), Int.emod_eq_of_lt hmul0 (by omega)]
    have hor : Go.bits .or .u64 u (l[a.toNat + i] * 256 ^ i) = u + l[a.toNat + i] * 256 ^ i := by
      refine u64_join u _ (8 * i) hu0 ?_ hmul0 ?_ (by omega) (by omega)
      · rw [show (2 : Int) ^ (8 * i) = 256 ^ i from by rw [Int.pow_mul]; rfl]; exact hu
      · rw [show (2 : Int) ^ (8 * i) = 256 ^ i from by rw [Int.pow_mul]; rfl]; exact Int.mul_emod_left _ _
    have step : leb_Get.l0 (k + 1) l a s sg u s i = leb_Get.l0 k l a s sg (u + l[a.toNat + i] * 256 ^ i) s ((i + 1 : Nat) : Int) := by
      rw [leb_Get.l0]
      rw [if_pos (show (i : Int) < s by omega), hrd, hshl, hor, wrap64_id (n := a + (i : Int)) (by omega) (by omega), if_pos (show 0 ≤ a + (i : Int) by omega), if_pos (show a + (i : Int) < l.length by omega), wrap64_id (n := 8 * (i : Int)) (by omega) (by omega), if_pos (show 0 ≤ 8 * (i : Int) by omega), wrap64_id (n := (i : Int) + 1) (by omega) (by omega)]
      rfl
    rw [step, ih k (i + 1) _ (by omega) (by omega) (by omega) (by omega) (by rw [pow256]; omega), show k + 1 - (d + 1) = k - d from by omega]
    have e : ((l.drop (a.toNat + i)).take (s - i)) = l[a.toNat + i] :: ((l.drop (a.toNat + (i + 1))).take (s - (i + 1))) := by
      rw [List.drop_eq_getElem_cons hil, show s - i = (s - (i + 1)) + 1 from by omega, List.take_succ_cons]
      rfl
    rw [e]
    simp only [leN]
    congr 1
    rw [pow256, Int.mul_add, Int.mul_comm (l[a.toNat + i])]
    have : (256 : Int) ^ i * (256 * leN ((l.drop (a.toNat + (i + 1))).take (s - (i + 1)))) = 256 * 256 ^ i * leN ((l.drop (a.toNat + (i + 1))).take (s - (i + 1))) := by
      rw [Int.mul_comm 256 (256 ^ i), Int.mul_assoc]
    omega
theorem get_end (l : List Int) (a : Int) (s : Nat) (sg : Bool) (hs : s = 1 ∨ s = 2 ∨ s = 4 ∨ s = 8) (u : Int) (h0 : 0 ≤ u) (h1 : u < 256 ^ s) (k : Nat) : leb_Get.l0 (k + 1) l a s sg u s s = some (sgnV u s sg, 0) := by
  rw [leb_Get.l0]
  rw [if_neg (by omega)]
  unfold sgnV
  cases sg with
  | false => simp
  | true =>
    rw [if_pos rfl, if_pos rfl]
    rcases hs with rfl | rfl | rfl | rfl
    · have h1' : u < 256 := by simpa using h1
      rw [if_pos (show 0 ≤ wrap64 (64 - wrap64 (8 * ((1 : Nat) : Int))) by decide +kernel), show wrap64 (64 - wrap64 (8 * ((1 : Nat) : Int))) = 56 from by decide +kernel]
      unfold shl shr
      rw [wrap_u64, wrap64_eq, show min (56 : Int).toNat IntKind.u64.bits = 56 from by decide +kernel, show min (56 : Int).toNat IntKind.i64.bits = 56 from by decide +kernel]
      simp
      split <;> omega
    · have h1' : u < 65536 := by simpa using h1
      rw [if_pos (show 0 ≤ wrap64 (64 - wrap64 (8 * ((2 : Nat) : Int))) by decide +kernel), show wrap64 (64 - wrap64 (8 * ((2 : Nat) : Int))) = 48 from by decide +kernel]
      unfold shl shr
      rw [wrap_u64, wrap64_eq, show min (48 : Int).toNat IntKind.u64.bits = 48 from by decide +kernel, show min (48 : Int).toNat IntKind.i64.bits = 48 from by decide +kernel]
      simp
      split <;> omega
    · have h1' : u < 4294967296 := by simpa using h1
      rw [if_pos (show 0 ≤ wrap64 (64 - wrap64 (8 * ((4 : Nat) : Int))) by decide +kernel), show wrap64 (64 - wrap64 (8 * ((4 : Nat) : Int))) = 32 from by decide +kernel]
      unfold shl shr
      rw [wrap_u64, wrap64_eq, show min (32 : Int).toNat IntKind.u64.bits = 32 from by decide +kernel, show min (32 : Int).toNat IntKind.i64.bits = 32 from by decide +kernel]
      simp
      split <;> omega
    · have h1' : u < 18446744073709551616 := by simpa using h1
      rw [if_pos (show 0 ≤ wrap64 (64 - wrap64 (8 * ((8 : Nat) : Int))) by decide +kernel), show wrap64 (64 - wrap64 (8 * ((8 : Nat) : Int))) = 0 from by decide +kernel]
      unfold shl shr
      rw [wrap_u64, wrap64_eq, show min (0 : Int).toNat IntKind.u64.bits = 0 from by decide +kernel, show min (0 : Int).toNat IntKind.i64.bits = 0 from by decide +kernel]
      simp
      split <;> omega
/-- what leb.Get answers -/
def getV (l : List Int) (a s : Int) (sg : Bool) : Int × Int :=
  if sizedB s = true then (if a < 0 ∨ l.length - s < a then (0, 20) else (sgnV (leN ((l.drop a.toNat).take s.toNat)) s sg, 0)) else (0, 1)
theorem get_f (l : List Int) (a s : Int) (sg : Bool) (hl : ∀ b ∈ l, 0 ≤ b ∧ b ≤ 255) (hm : l.length ≤ 9223372036854775807) (k : Nat) (hk : 10 ≤ k) : leb_Get.f k l a s sg = some (getV l a s sg) := by
  unfold leb_Get.f getV
  rw [sized_f, Option.bind_some]
  by_cases hs : sizedB s = true
  · rw [if_pos hs, if_pos hs]
    have hs' := sizedB_cases hs
    rw [wrap64_id (by omega) (by omega)]
    by_cases c1 : a < 0
    · rw [if_pos c1, if_pos (.inl c1)]
    · rw [if_neg c1]
      by_cases c2 : a > l.length - s
      · rw [if_pos c2, if_pos (.inr c2)]
      · rw [if_neg c2, if_neg (by omega)]
        obtain ⟨m, rfl⟩ := Int.eq_ofNat_of_zero_le (show 0 ≤ s by omega)
        have := get_l0 l a m sg hl (by omega) (by omega) (by omega) hm m k 0 0 (by omega) (by omega) (by omega) (by omega) (by simp)
        simp only [Int.pow_zero, Int.one_mul, Int.zero_add, Nat.add_zero, Nat.sub_zero, Int.toNat_natCast] at this ⊢
        have hr := leN_range ((l.drop a.toNat).take m) (fun b hb => hl b (List.mem_of_mem_drop (List.mem_of_mem_take hb)))
        have hlen : ((l.drop a.toNat).take m).length = m := by rw [List.length_take, List.length_drop]; omega
        rw [hlen] at hr
        obtain ⟨j, hj⟩ : ∃ j, k - m = j + 1 := ⟨k - m - 1, by omega⟩
        rw [show ((0 : Int)) = ((0 : Nat) : Int) from rfl]
        rw [show (((0 : Nat) : Int)) = (0 : Int) from rfl] at *
        refine Eq.trans this ?_
        rw [hj]
        exact get_end l a m sg (by omega) _ hr.1 hr.2 j
  · rw [if_neg hs, if_neg hs]
end Go.Proofs.Ytfgfnflhdabmcaa.Leb
end
section
namespace Go.Proofs.Ytfgfnflhdabmcaa.Leb
set_option linter.unusedVariables false
set_option linter.unusedSimpArgs false
open Go.RowKit Go.Proofs.Ytfgfnflhdabmcaa.G Go.Proofs.YtfgfnflhdabmcaaW.PrintWords Go.Proofs.YtfgfnflhdabmcaaW.PrintLast Go.Proofs.YtfgfnflhdabmcaaW.PrintMore Go.Proofs.Ytfgfnflhdabmcaa.Bit
theorem rsized_f (s : Int) : gangwayref01_sized.f s = some (sizedB s) := sized_f s
theorem rput_l0 (d : Nat) : ∀ (k : Nat) (u : Int) (s i : Nat) (acc : List Int), i + d = s → d < k → s ≤ 8 → acc.length + d ≤ 100 → gangwayref01_Put.l0 k (s : Int) u acc (i : Int) = some (acc ++ leB u d, 0) := by
  induction d with
  | zero =>
    intro k u s i acc h hk hs ha
    obtain ⟨k, rfl⟩ : ∃ m, k = m + 1 := ⟨k - 1, by omega⟩
    simp only [gangwayref01_Put.l0]
    rw [if_neg (by omega)]
    simp [leB]
  | succ d ih =>
    intro k u s i acc h hk hs ha
    obtain ⟨k, rfl⟩ : ∃ m, k = m + 1 := ⟨k - 1, by omega⟩
    simp only [gangwayref01_Put.l0]
    rw [if_pos (by omega), if_pos (by omega), wrap64_id (by omega) (by omega), show (i : Int) + 1 = ((i + 1 : Nat) : Int) from by omega, ih k (u / 256) s (i + 1) _ (by omega) (by omega) hs (by simp; omega)]
    simp [leB]
theorem rput_go (n : Int) (s : Nat) (hs : s ≤ 8) (k : Nat) (hk : 20 ≤ k) : gangwayref01_Put.l0 k (s : Int) (IntKind.u64.wrap n) [] 0 = some (leB (n % 18446744073709551616) s, 0) := by
  have := rput_l0 s k (IntKind.u64.wrap n) s 0 [] (by omega) (by omega) hs (by simp; omega)
  rw [wrap_u64] at this ⊢
  simpa using this
theorem rput_f (n s : Int) : gangwayref01_Put.f 30 n s = some (putV n s) := by
  unfold gangwayref01_Put.f putV
  rw [rsized_f, Option.bind_some]
  by_cases hs : sizedB s = true
  · rw [if_pos hs, if_pos hs]
    rcases sizedB_cases hs with rfl | rfl | rfl | rfl
    · have e1 : wrap64 (-(shl .i64 1 (IntKind.u64.wrap (wrap64 (wrap64 (8 * 1) - 1))))) = -128 := by decide +kernel
      have e2 : shl .i64 1 (IntKind.u64.wrap (wrap64 (8 * 1))) = 256 := by decide +kernel
      rw [e1, e2, if_pos (show (1 : Int) < 8 by omega), if_pos (show 0 ≤ IntKind.u64.wrap (wrap64 (wrap64 (8 * 1) - 1)) by decide +kernel), if_pos (show 0 ≤ IntKind.u64.wrap (wrap64 (8 * 1)) by decide +kernel)]
      simp only [gangwayref01_Put.j0]
      by_cases c1 : n < -128
      · rw [if_pos c1, if_pos trivial, if_pos (by simp; omega)]
      · rw [if_neg c1]
        by_cases c2 : n ≥ 256
        · rw [if_pos (decide_eq_true c2), if_pos (by simp; omega)]
        · rw [if_neg (by simpa using c2), if_neg (by simp; omega)]
          exact rput_go n 1 (by omega) 29 (by omega)
    · have e1 : wrap64 (-(shl .i64 1 (IntKind.u64.wrap (wrap64 (wrap64 (8 * 2) - 1))))) = -32768 := by decide +kernel
      have e2 : shl .i64 1 (IntKind.u64.wrap (wrap64 (8 * 2))) = 65536 := by decide +kernel
      rw [e1, e2, if_pos (show (2 : Int) < 8 by omega), if_pos (show 0 ≤ IntKind.u64.wrap (wrap64 (wrap64 (8 * 2) - 1)) by decide +kernel), if_pos (show 0 ≤ IntKind.u64.wrap (wrap64 (8 * 2)) by decide +kernel)]
      simp only [gangwayref01_Put.j0]
      by_cases c1 : n < -32768
      · rw [if_pos c1, if_pos trivial, if_pos (by simp; omega)]
      · rw [if_neg c1]
        by_cases c2 : n ≥ 65536
        · rw [if_pos (decide_eq_true c2), if_pos (by simp; omega)]
        · rw [if_neg (by simpa using c2), if_neg (by simp; omega)]
          exact rput_go n 2 (by omega) 29 (by omega)
    · have e1 : wrap64 (-(shl .i64 1 (IntKind.u64.wrap (wrap64 (wrap64 (8 * 4) - 1))))) = -2147483648 := by decide +kernel
      have e2 : shl .i64 1 (IntKind.u64.wrap (wrap64 (8 * 4))) = 4294967296 := by decide +kernel
      rw [e1, e2, if_pos (show (4 : Int) < 8 by omega), if_pos (show 0 ≤ IntKind.u64.wrap (wrap64 (wrap64 (8 * 4) - 1)) by decide +kernel), if_pos (show 0 ≤ IntKind.u64.wrap (wrap64 (8 * 4)) by decide +kernel)]
      simp only [gangwayref01_Put.j0]
      by_cases c1 : n < -2147483648
      · rw [if_pos c1, if_pos trivial, if_pos (by simp; omega)]
      · rw [if_neg c1]
        by_cases c2 : n ≥ 4294967296
        · rw [if_pos (decide_eq_true c2), if_pos (by simp; omega)]
        · rw [if_neg (by simpa using c2), if_neg (by simp; omega)]
          exact rput_go n 4 (by omega) 29 (by omega)
    · rw [if_neg (show ¬ (8 : Int) < 8 by omega), if_neg (by simp)]
      simp only [gangwayref01_Put.j0, Bool.false_eq_true, if_false]
      exact rput_go n 8 (by omega) 29 (by omega)
  · rw [if_neg hs, if_neg hs]
theorem rget_l0 (l : List Int) (a : Int) (s : Nat) (sg : Bool) (hl : ∀ b ∈ l, 0 ≤ b ∧ b ≤ 255) (hs : s ≤ 8) (ha : 0 ≤ a) (hal : a + s ≤ l.length) (hm : l.length ≤ 9223372036854775807) (i : Nat) :
    ∀ (k : Nat) (u : Int), i ≤ s → i < k → u = leN ((l.drop (a.toNat + i)).take (s - i)) →
      gangwayref01_Get.l0 k l a s sg u ((i : Int) - 1) = gangwayref01_Get.l0 (k - i) l a s sg (leN ((l.drop a.toNat).take s)) (-1) := by
  induction i with
  | zero =>
    intro k u hi hk hu
    rw [hu]
    simp
  | succ i ih =>
    intro k u hi hk hu
    obtain ⟨k, rfl⟩ : ∃ m, k = m + 1 := ⟨k - 1, by omega⟩
    have hil : a.toNat + i < l.length := by omega
    have hb := hl _ (List.getElem_mem hil)
    have hrd : rd l (wrap64 (a + (i : Int))) = l[a.toNat + i] := by
      rw [wrap64_id (by omega) (by omega)]
      simp [rd, List.getD, show (a + (i : Int)).toNat = a.toNat + i from by omega, hil]
    have hr := leN_range ((l.drop (a.toNat + (i + 1))).take (s - (i + 1))) (fun b hb => hl b (List.mem_of_mem_drop (List.mem_of_mem_take hb)))
    have hlen : ((l.drop (a.toNat + (i + 1))).take (s - (i + 1))).length = s - (i + 1) := by rw [List.length_take, List.length_drop]; omega
    rw [hlen, ← hu] at hr
    have hp7 : (256 : Int) ^ (s - (i + 1)) ≤ 72057594037927936 := by
      have h2 : ((256 ^ (s - (i + 1)) : Nat) : Int) ≤ ((256 ^ 7 : Nat) : Int) := Int.ofNat_le.mpr (Nat.pow_le_pow_right (n := 256) (by decide) (show s - (i + 1) ≤ 7 by omega))
      rw [Int.natCast_pow, Int.natCast_pow] at h2
      exact h2
    have hor : Go.bits .or .u64 (IntKind.u64.wrap (u * 256)) (IntKind.u64.wrap l[a.toNat + i]) = l[a.toNat + i] + 256 * u := by
      rw [wrap_u64, wrap_u64, Int.emod_eq_of_lt (by omega) (by omega), Int.emod_eq_of_lt hb.1 (by omega), Bit.or_comm]
      have := u64_join l[a.toNat + i] (u * 256) 8 hb.1 (by omega) (by omega) (by omega) (by omega) (by omega)
      omega
    rw [gangwayref01_Get.l0, show ((i + 1 : Nat) : Int) - 1 = (i : Int) from by omega]
    rw [if_pos (show (i : Int) ≥ 0 by omega), hrd, hor, wrap64_id (n := a + (i : Int)) (by omega) (by omega), if_pos (show 0 ≤ a + (i : Int) by omega), if_pos (show a + (i : Int) < l.length by omega), wrap64_id (n := (i : Int) - 1) (by omega) (by omega)]
    rw [ih k _ (by omega) (by omega) ?_, show k + 1 - (i + 1) = k - i from by omega]
    have e : ((l.drop (a.toNat + i)).take (s - i)) = l[a.toNat + i] :: ((l.drop (a.toNat + (i + 1))).take (s - (i + 1))) := by
      rw [List.drop_eq_getElem_cons hil, show s - i = (s - (i + 1)) + 1 from by omega, List.take_succ_cons]
      rfl
    rw [e]
    simp only [leN]
    rw [hu]
theorem rget_end (l : List Int) (a : Int) (s : Nat) (sg : Bool) (hs : s = 1 ∨ s = 2 ∨ s = 4 ∨ s = 8) (u : Int) (h0 : 0 ≤ u) (h1 : u < 256 ^ s) (k : Nat) : gangwayref01_Get.l0 (k + 1) l a s sg u (-1) = some (sgnV u s sg, 0) := by
  rw [gangwayref01_Get.l0]
  rw [if_neg (by omega)]
  unfold sgnV
  cases sg with
  | false => simp
  | true =>
    rw [if_pos rfl, if_pos rfl]
    rcases hs with rfl | rfl | rfl | rfl
    · have h1' : u < 256 := by simpa using h1
      have e1 : shl .i64 1 (IntKind.u64.wrap (wrap64 (wrap64 (8 * ((1 : Nat) : Int)) - 1))) = 128 := by decide +kernel
      have e2 : shl .i64 1 (IntKind.u64.wrap (wrap64 (8 * ((1 : Nat) : Int)))) = 256 := by decide +kernel
      rw [if_pos (by decide), if_pos (show 0 ≤ IntKind.u64.wrap (wrap64 (wrap64 (8 * ((1 : Nat) : Int)) - 1)) by decide +kernel), e1, if_pos (show 0 ≤ IntKind.u64.wrap (wrap64 (8 * ((1 : Nat) : Int))) by decide +kernel), e2]
      simp only [wrap64_eq]
      simp
      split <;> split <;> first | (congr 2; omega) | omega
    · have h1' : u < 65536 := by simpa using h1
      have e1 : shl .i64 1 (IntKind.u64.wrap (wrap64 (wrap64 (8 * ((2 : Nat) : Int)) - 1))) = 32768 := by decide +kernel
      have e2 : shl .i64 1 (IntKind.u64.wrap (wrap64 (8 * ((2 : Nat) : Int)))) = 65536 := by decide +kernel
      rw [if_pos (by decide), if_pos (show 0 ≤ IntKind.u64.wrap (wrap64 (wrap64 (8 * ((2 : Nat) : Int)) - 1)) by decide +kernel), e1, if_pos (show 0 ≤ IntKind.u64.wrap (wrap64 (8 * ((2 : Nat) : Int))) by decide +kernel), e2]
      simp only [wrap64_eq]
      simp
      split <;> split <;> first | (congr 2; omega) | omega
    · have h1' : u < 4294967296 := by simpa using h1
      have e1 : shl .i64 1 (IntKind.u64.wrap (wrap64 (wrap64 (8 * ((4 : Nat) : Int)) - 1))) = 2147483648 := by decide +kernel
      have e2 : shl .i64 1 (IntKind.u64.wrap (wrap64 (8 * ((4 : Nat) : Int)))) = 4294967296 := by decide +kernel
      rw [if_pos (by decide), if_pos (show 0 ≤ IntKind.u64.wrap (wrap64 (wrap64 (8 * ((4 : Nat) : Int)) - 1)) by decide +kernel), e1, if_pos (show 0 ≤ IntKind.u64.wrap (wrap64 (8 * ((4 : Nat) : Int))) by decide +kernel), e2]
      simp only [wrap64_eq]
      simp
      split <;> split <;> first | (congr 2; omega) | omega
    · have h1' : u < 18446744073709551616 := by simpa using h1
      rw [if_neg (by decide)]
      simp only [wrap64_eq]
      simp
      split <;> omega
theorem rget_f (l : List Int) (a s : Int) (sg : Bool) (hl : ∀ b ∈ l, 0 ≤ b ∧ b ≤ 255) (hm : l.length ≤ 140737488351232) : gangwayref01_Get.f 30 l a s sg = some (getV l a s sg) := by
  unfold gangwayref01_Get.f getV
  rw [rsized_f, Option.bind_some]
  by_cases hs : sizedB s = true
  · rw [if_pos hs, if_pos hs]
    have hs' := sizedB_cases hs
    by_cases c1 : a < 0
    · rw [if_pos c1, if_pos (.inl c1)]
      simp [gangwayref01_Get.j0]
    · rw [if_neg c1]
      by_cases c2 : a > l.length
      · rw [if_pos c2, if_pos (.inr (by omega))]
        simp [gangwayref01_Get.j0]
      · rw [if_neg c2, wrap64_id (by omega) (by omega)]
        by_cases c3 : s > (l.length : Int) - a
        · rw [decide_eq_true c3, if_pos (.inr (by omega))]
          simp [gangwayref01_Get.j0]
        · rw [decide_eq_false c3, if_neg (by omega)]
          simp only [gangwayref01_Get.j0, Bool.false_eq_true, if_false]
          obtain ⟨m, rfl⟩ := Int.eq_ofNat_of_zero_le (show 0 ≤ s by omega)
          rw [wrap64_id (by omega) (by omega), rget_l0 l a m sg hl (by omega) (by omega) (by omega) (by omega) m 29 0 (by omega) (by omega) (by simp [leN]), Int.toNat_natCast]
          have hr := leN_range ((l.drop a.toNat).take m) (fun b hb => hl b (List.mem_of_mem_drop (List.mem_of_mem_take hb)))
          have hlen : ((l.drop a.toNat).take m).length = m := by rw [List.length_take, List.length_drop]; omega
          rw [hlen] at hr
          obtain ⟨j, hj⟩ : ∃ j, 29 - m = j + 1 := ⟨29 - m - 1, by omega⟩
          rw [hj]
          exact rget_end l a m sg (by omega) _ hr.1 hr.2 j
  · rw [if_neg hs, if_neg hs]
end Go.Proofs.Ytfgfnflhdabmcaa.Leb
end
section
namespace Go.Proofs.Ytfgfnflhdabmcaa.Leb
set_option linter.unusedVariables false
set_option linter.unusedSimpArgs false
open Go.RowKit Go.Proofs.Ytfgfnflhdabmcaa.G Go.Proofs.YtfgfnflhdabmcaaW.PrintWords Go.Proofs.YtfgfnflhdabmcaaW.PrintLast Go.Proofs.YtfgfnflhdabmcaaW.PrintMore Go.Proofs.Ytfgfnflhdabmcaa.Bit
/-- an unsigned number's groups -/
def ulebL (u : Nat) : List Int := if h : 127 < u then ((u % 128 + 128 : Nat) : Int) :: ulebL (u / 128) else [(u : Int)]
termination_by u
decreasing_by omega
/-- a signed number's groups -/
def slebL (n : Int) : List Int := if h : n < -64 ∨ 63 < n then (n % 128 + 128) :: slebL (n / 128) else [n % 128]
termination_by n.natAbs
decreasing_by omega
theorem ulebL_big {u : Nat} (h : 127 < u) : ulebL u = ((u % 128 + 128 : Nat) : Int) :: ulebL (u / 128) := by rw [ulebL, dif_pos h]
theorem ulebL_small {u : Nat} (h : ¬ 127 < u) : ulebL u = [(u : Int)] := by rw [ulebL, dif_neg h]
theorem slebL_big {n : Int} (h : n < -64 ∨ 63 < n) : slebL n = (n % 128 + 128) :: slebL (n / 128) := by rw [slebL, dif_pos h]
theorem slebL_small {n : Int} (h : ¬ (n < -64 ∨ 63 < n)) : slebL n = [n % 128] := by rw [slebL, dif_neg h]
theorem uleb_l0 (d : Nat) : ∀ (k u : Nat) (acc : List Int), u < 128 ^ (d + 1) → d < k → acc.length + d ≤ 1000 → leb_Uleb.l0 k acc (u : Int) = some (acc ++ ulebL u) := by
  induction d with
  | zero =>
    intro k u acc hu hk ha
    obtain ⟨k, rfl⟩ : ∃ m, k = m + 1 := ⟨k - 1, by omega⟩
    have hu' : u < 128 := by simpa using hu
    simp only [leb_Uleb.l0]
    rw [if_neg (by omega), if_pos (by omega), ulebL_small (by omega), show ((u : Int)) % 256 = u from by omega]
  | succ d ih =>
    intro k u acc hu hk ha
    obtain ⟨k, rfl⟩ : ∃ m, k = m + 1 := ⟨k - 1, by omega⟩
    simp only [leb_Uleb.l0]
    by_cases h : 127 < u
    · rw [if_pos (by omega), if_pos (by omega), b_or128]
      have hd : u / 128 < 128 ^ (d + 1) := by rw [Nat.pow_succ] at hu; omega
      have := ih k (u / 128) (acc ++ [((u % 128 + 128 : Nat) : Int)]) hd (by omega) (by simp; omega)
      rw [show ((u : Int)) % 128 + 128 = ((u % 128 + 128 : Nat) : Int) from by omega, show ((u : Int)) / 128 = ((u / 128 : Nat) : Int) from by omega, this, ulebL_big h]
      simp
    · rw [if_neg (by omega), if_pos (by omega), ulebL_small h, show ((u : Int)) % 256 = u from by omega]
theorem uleb_f (a : Int) (k : Nat) (hk : 10 ≤ k) : leb_Uleb.f k a = some (ulebL (a % 18446744073709551616).toNat) := by
  unfold leb_Uleb.f
  have h0 : 0 ≤ a % 18446744073709551616 := by omega
  obtain ⟨u, hu⟩ := Int.eq_ofNat_of_zero_le h0
  rw [wrap_u64, hu, uleb_l0 9 k u [] (by have : (128 : Nat) ^ (9 + 1) = 1180591620717411303424 := by decide
                                         omega) (by omega) (by simp)]
  simp
theorem ruleb_l0 (d : Nat) : ∀ (k u : Nat) (acc : List Int), u < 128 ^ (d + 1) → u < 18446744073709551616 → d < k → acc.length + d ≤ 1000 → gangwayref01_Uleb.l0 k (u : Int) acc = some (acc ++ ulebL u) := by
  induction d with
  | zero =>
    intro k u acc hu _ hk ha
    obtain ⟨k, rfl⟩ : ∃ m, k = m + 1 := ⟨k - 1, by omega⟩
    have hu' : u < 128 := by simpa using hu
    simp only [gangwayref01_Uleb.l0]
    rw [if_neg (by omega), if_pos (by omega), ulebL_small (by omega), show ((u : Int)) % 256 = u from by omega]
  | succ d ih =>
    intro k u acc hu hu2 hk ha
    obtain ⟨k, rfl⟩ : ∃ m, k = m + 1 := ⟨k - 1, by omega⟩
    simp only [gangwayref01_Uleb.l0]
    by_cases h : 127 < u
    · have e1 : Int.tdiv (u : Int) 128 = ((u / 128 : Nat) : Int) := by rw [Int.tdiv_eq_ediv_of_nonneg (by omega)]; omega
      have e2 : Int.tmod (u : Int) 128 = ((u % 128 : Nat) : Int) := by rw [Int.tmod_eq_emod_of_nonneg (by omega)]; omega
      rw [if_pos (by omega), if_pos (by omega), e1, e2, wrap_u64]
      have hd : u / 128 < 128 ^ (d + 1) := by rw [Nat.pow_succ] at hu; omega
      have := ih k (u / 128) (acc ++ [((u % 128 + 128 : Nat) : Int)]) hd (by omega) (by omega) (by simp; omega)
      rw [show (((u % 128 : Nat) : Int) + 128) % 256 = ((u % 128 + 128 : Nat) : Int) from by omega, show ((u / 128 : Nat) : Int) % 18446744073709551616 = ((u / 128 : Nat) : Int) from by omega, this, ulebL_big h]
      simp
    · rw [if_neg (by omega), if_pos (by omega), ulebL_small h, show ((u : Int)) % 256 = u from by omega]
theorem ruleb_f (a : Int) (k : Nat) (hk : 10 ≤ k) : gangwayref01_Uleb.f k a = some (ulebL (a % 18446744073709551616).toNat) := by
  unfold gangwayref01_Uleb.f
  have h0 : 0 ≤ a % 18446744073709551616 := by omega
  obtain ⟨u, hu⟩ := Int.eq_ofNat_of_zero_le h0
  rw [wrap_u64, hu, ruleb_l0 9 k u [] (by have : (128 : Nat) ^ (9 + 1) = 1180591620717411303424 := by decide
                                          omega) (by omega) (by omega) (by simp)]
  simp
theorem sleb_l0 (d : Nat) : ∀ (k : Nat) (n : Int) (acc : List Int), -(64 * 128 ^ d : Int) ≤ n → n < 64 * 128 ^ d → d < k → acc.length + d ≤ 1000 → leb_Sleb.l0 k n acc = some (acc ++ slebL n) := by
  induction d with
  | zero =>
    intro k n acc h0 h1 hk ha
    obtain ⟨k, rfl⟩ : ∃ m, k = m + 1 := ⟨k - 1, by omega⟩
    simp only [leb_Sleb.l0]
    rw [if_neg (by simp at h0; omega), if_neg (by simp at h1; omega), if_pos (by omega), slebL_small (by simp at h0 h1; omega), b_and127]
  | succ d ih =>
    intro k n acc h0 h1 hk ha
    obtain ⟨k, rfl⟩ : ∃ m, k = m + 1 := ⟨k - 1, by omega⟩
    simp only [leb_Sleb.l0]
    by_cases h : n < -64 ∨ 63 < n
    · have hp : (128 : Int) ^ (d + 1) = 128 ^ d * 128 := Int.pow_succ _ _
      have hi := ih k (n / 128) (acc ++ [n % 128 + 128]) (by rw [hp] at h0; omega) (by rw [hp] at h1; omega) (by omega) (by simp; omega)
      simp only [List.append_assoc, List.singleton_append] at hi
      by_cases c : n < -64
      · rw [if_pos c, if_pos (show acc.length < 140737488355328 by omega), b_or128, hi, slebL_big h]
      · rw [if_neg c, if_pos (show n > 63 by omega), if_pos (show acc.length < 140737488355328 by omega), b_or128, hi, slebL_big h]
    · rw [if_neg (by omega), if_neg (by omega), if_pos (by omega), slebL_small h, b_and127]
theorem sleb_f (a : Int) (h0 : -9223372036854775808 ≤ a) (h1 : a ≤ 9223372036854775807) (k : Nat) (hk : 10 ≤ k) : leb_Sleb.f k a = some (slebL a) := by
  unfold leb_Sleb.f
  rw [sleb_l0 9 k a [] (by have : (128 : Int) ^ 9 = 9223372036854775808 := by decide
                           omega) (by have : (128 : Int) ^ 9 = 9223372036854775808 := by decide
                                      omega) (by omega) (by simp)]
  simp
theorem rsleb_l0 (d : Nat) : ∀ (k : Nat) (n : Int) (acc : List Int), -(64 * 128 ^ d : Int) ≤ n → n < 64 * 128 ^ d → d < k → acc.length + d ≤ 1000 → gangwayref01_Sleb.l0 k n acc = some (acc ++ slebL n) := by
  induction d with
  | zero =>
    intro k n acc h0 h1 hk ha
    obtain ⟨k, rfl⟩ : ∃ m, k = m + 1 := ⟨k - 1, by omega⟩
    simp only [gangwayref01_Sleb.l0]
    rw [if_neg (by simp at h0; omega), if_neg (by simp at h1; omega), if_pos (by omega), slebL_small (by simp at h0 h1; omega), w_and127, show n % 128 % 256 = n % 128 from by omega]
  | succ d ih =>
    intro k n acc h0 h1 hk ha
    obtain ⟨k, rfl⟩ : ∃ m, k = m + 1 := ⟨k - 1, by omega⟩
    simp only [gangwayref01_Sleb.l0]
    by_cases h : n < -64 ∨ 63 < n
    · have hp : (128 : Int) ^ (d + 1) = 128 ^ d * 128 := Int.pow_succ _ _
      have hi := ih k (n / 128) (acc ++ [n % 128 + 128]) (by rw [hp] at h0; omega) (by rw [hp] at h1; omega) (by omega) (by simp; omega)
      simp only [List.append_assoc, List.singleton_append] at hi
      by_cases c : n < -64
      · rw [if_pos c, if_pos (show acc.length < 140737488355328 by omega), w_and127, show (n % 128 + 128) % 256 = n % 128 + 128 from by omega, hi, slebL_big h]
      · rw [if_neg c, if_pos (show n > 63 by omega), if_pos (show acc.length < 140737488355328 by omega), w_and127, show (n % 128 + 128) % 256 = n % 128 + 128 from by omega, hi, slebL_big h]
    · rw [if_neg (by omega), if_neg (by omega), if_pos (by omega), slebL_small h, w_and127, show n % 128 % 256 = n % 128 from by omega]
theorem rsleb_f (a : Int) (h0 : -9223372036854775808 ≤ a) (h1 : a ≤ 9223372036854775807) (k : Nat) (hk : 10 ≤ k) : gangwayref01_Sleb.f k a = some (slebL a) := by
  unfold gangwayref01_Sleb.f
  rw [rsleb_l0 9 k a [] (by have : (128 : Int) ^ 9 = 9223372036854775808 := by decide
                            omega) (by have : (128 : Int) ^ 9 = 9223372036854775808 := by decide
                                       omega) (by omega) (by simp)]
  simp
end Go.Proofs.Ytfgfnflhdabmcaa.Leb
end
section
namespace Go.Proofs.Ytfgfnflhdabmcaa.Eh
set_option linter.unusedVariables false
set_option linter.unusedSimpArgs false
open Go.RowKit Go.Proofs.Ytfgfnflhdabmcaa.G Go.Proofs.YtfgfnflhdabmcaaW.PrintWords Go.Proofs.YtfgfnflhdabmcaaW.PrintLast Go.Proofs.YtfgfnflhdabmcaaW.PrintMore Go.Proofs.Ytfgfnflhdabmcaa.Bit Go.Proofs.Ytfgfnflhdabmcaa.Leb Go.Proofs.Ytfgfnflhdabmcaa.EhOf
/-- beyond 2^60? -/
def farB (x : Int) : Bool := decide (x < -1152921504606846976) || decide (1152921504606846976 < x)
theorem far_no {x : Int} (h : farB x = false) : -1152921504606846976 ≤ x ∧ x ≤ 1152921504606846976 := by
  simp only [farB, Bool.or_eq_false_iff, decide_eq_false_iff_not] at h
  omega
theorem near_step (l : List Int) (i : Nat) (h : i < l.length) (hl : l.length ≤ 100) (k : Nat) : ehframe_near.l0 (k + 1) l (l.length : Int) (i : Int) = if farB (rd l (i : Int)) = true then some false else ehframe_near.l0 k l (l.length : Int) ((i + 1 : Nat) : Int) := by
  rw [ehframe_near.l0, if_pos (by omega), if_pos (by omega), if_pos (by omega), show wrap64 ((i : Int) + 1) = ((i + 1 : Nat) : Int) from by unfold wrap64; omega]
  unfold farB
  by_cases h1 : rd l (i : Int) < -1152921504606846976
  · rw [if_pos h1, if_pos (by simp [h1])]
  · rw [if_neg h1]
    by_cases h2 : rd l (i : Int) > 1152921504606846976
    · rw [if_pos h2, if_pos (by simp; omega)]
    · rw [if_neg h2, if_neg (by simp; omega)]
theorem near_end (l : List Int) (k : Nat) : ehframe_near.l0 (k + 1) l (l.length : Int) (l.length : Int) = some true := by
  rw [ehframe_near.l0, if_neg (by omega)]
theorem near1 (x : Int) (k : Nat) (hk : 4 ≤ k) : ehframe_near.f k [x] = some (!farB x) := by
  obtain ⟨k, rfl⟩ : ∃ m, k = m + 2 := ⟨k - 2, by omega⟩
  unfold ehframe_near.f
  have h0 := near_step [x] 0 (by simp) (by simp) (k + 1)
  have h1 := near_end [x] k
  rw [show ((0 : Nat) : Int) = 0 from rfl, show rd [x] 0 = x from rfl] at h0
  rw [h0]
  cases hx : farB x
  · exact h1
  · rfl
theorem near2 (x y : Int) (k : Nat) (hk : 4 ≤ k) : ehframe_near.f k [x, y] = some (!(farB x || farB y)) := by
  obtain ⟨k, rfl⟩ : ∃ m, k = m + 3 := ⟨k - 3, by omega⟩
  unfold ehframe_near.f
  have h0 := near_step [x, y] 0 (by simp) (by simp) (k + 2)
  have h1 := near_step [x, y] 1 (by simp) (by simp) (k + 1)
  have h2 := near_end [x, y] k
  rw [show ((0 : Nat) : Int) = 0 from rfl, show rd [x, y] 0 = x from rfl] at h0
  rw [show rd [x, y] ((1 : Nat) : Int) = y from rfl] at h1
  rw [h0]
  cases hx : farB x
  · refine h1.trans ?_
    cases hy : farB y
    · exact h2
    · rfl
  · rfl
theorem near3 (x y z : Int) (k : Nat) (hk : 4 ≤ k) : ehframe_near.f k [x, y, z] = some (!(farB x || farB y || farB z)) := by
  obtain ⟨k, rfl⟩ : ∃ m, k = m + 4 := ⟨k - 4, by omega⟩
  unfold ehframe_near.f
  have h0 := near_step [x, y, z] 0 (by simp) (by simp) (k + 3)
  have h1 := near_step [x, y, z] 1 (by simp) (by simp) (k + 2)
  have h2 := near_step [x, y, z] 2 (by simp) (by simp) (k + 1)
  have h3 := near_end [x, y, z] k
  rw [show ((0 : Nat) : Int) = 0 from rfl, show rd [x, y, z] 0 = x from rfl] at h0
  rw [show rd [x, y, z] ((1 : Nat) : Int) = y from rfl] at h1
  rw [show rd [x, y, z] ((2 : Nat) : Int) = z from rfl] at h2
  rw [h0]
  cases hx : farB x
  · refine h1.trans ?_
    cases hy : farB y
    · refine h2.trans ?_
      cases hz : farB z
      · exact h3
      · rfl
    · rfl
  · rfl
/-- what a pointer is counted from -/
def offV (q at_ data : Int) : Int := if q = 16 then at_ else if q = 48 then data else 0
def fitsV (x s : Int) (g : Bool) : Bool :=
  if s = 2 then (if g = true then decide (-32768 ≤ x ∧ x < 32768) else decide (0 ≤ x ∧ x < 65536))
  else if s = 4 then (if g = true then decide (-2147483648 ≤ x ∧ x < 2147483648) else decide (0 ≤ x ∧ x < 4294967296))
  else if g = true then true else decide (0 ≤ x)
theorem sh15 : shl .i64 1 15 = 32768 := by decide +kernel
theorem sh31 : shl .i64 1 31 = 2147483648 := by decide +kernel
theorem sh16 : shl .i64 1 16 = 65536 := by decide +kernel
theorem sh32 : shl .i64 1 32 = 4294967296 := by decide +kernel
theorem sn15 : shl .i64 (-1) 15 = -32768 := by decide +kernel
theorem sn31 : shl .i64 (-1) 31 = -2147483648 := by decide +kernel
theorem dec_ite (x a b : Int) : (if x ≥ a then some (decide (x < b)) else some false) = some (decide (a ≤ x ∧ x < b)) := by
  by_cases h : x ≥ a
  · rw [if_pos h]; congr 1; simp; omega
  · rw [if_neg h]; congr 1; simp; omega
theorem dec_ite' (x b : Int) : (if x < 0 then some false else some (decide (x < b))) = some (decide (0 ≤ x ∧ x < b)) := by
  by_cases h : x < 0
  · rw [if_pos h]; congr 1; simp; omega
  · rw [if_neg h]; congr 1; simp; omega
theorem dec_ite3 (x : Int) : (if x < 0 then some false else some true) = some (decide (0 ≤ x)) := by
  by_cases h : x < 0
  · rw [if_pos h]; congr 1; simp; omega
  · rw [if_neg h]; congr 1; simp; omega
theorem fits_f (x s : Int) (g : Bool) (hs : s = 2 ∨ s = 4 ∨ s = 8) (k : Nat) (hk : 1 ≤ k) : leb_Fits.f k x (wrap64 (8 * s)) g = some (fitsV x s g) := by
  obtain ⟨k, rfl⟩ : ∃ m, k = m + 1 := ⟨k - 1, by omega⟩
  have w15 : wrap64 (16 - 1) = 15 := by decide +kernel
  have w31 : wrap64 (32 - 1) = 31 := by decide +kernel
  have e2 : wrap64 (8 * 2) = 16 := by decide +kernel
  have e4 : wrap64 (8 * 4) = 32 := by decide +kernel
  have e8 : wrap64 (8 * 8) = 64 := by decide +kernel
  unfold leb_Fits.f
  rcases hs with rfl | rfl | rfl
  · rw [e2, if_neg (by decide), leb_Fits.j0, if_neg (by decide)]
    cases g
    · rw [if_neg (by decide), if_neg (show ¬ (16 : Int) ≥ 63 by decide), if_pos (show (0 : Int) ≤ 16 by decide), sh16]
      exact dec_ite' x _
    · rw [if_pos rfl, if_neg (by decide), w15, if_pos (by decide), sn15, sh15]
      exact dec_ite x _ _
  · rw [e4, if_neg (by decide), leb_Fits.j0, if_neg (by decide)]
    cases g
    · rw [if_neg (by decide), if_neg (show ¬ (32 : Int) ≥ 63 by decide), if_pos (show (0 : Int) ≤ 32 by decide), sh32]
      exact dec_ite' x _
    · rw [if_pos rfl, if_neg (by decide), w31, if_pos (by decide), sn31, sh31]
      exact dec_ite x _ _
  · rw [e8, if_neg (by decide), leb_Fits.j0, if_neg (by decide)]
    cases g
    · rw [if_neg (by decide), if_pos (show (64 : Int) ≥ 63 by decide)]
      exact dec_ite3 x
    · rw [if_pos rfl, if_pos (by decide)]
      rfl
/-- a pointer's bytes, of a form of s bytes (0: in groups), with a sign or without, counted from q -/
def tailS (s : Int) (g : Bool) (x : Int) : List Int × Int :=
  if farB x = true ∨ (g = false ∧ x < 0) then ([], 11)
  else if s = 0 then (if g = true then (slebL x, 0) else (ulebL (x % 18446744073709551616).toNat, 0))
  else if fitsV x s g = true then (leB (x % 18446744073709551616) s.toNat, 0) else ([], 11)
def putS (s : Int) (g : Bool) (q v at_ data : Int) : List Int × Int :=
  if farB v = true ∨ farB at_ = true ∨ farB data = true then ([], 11) else tailS s g (wrap64 (v - offV q at_ data))
theorem leB_take (n : Nat) : ∀ (m : Nat) (u : Int), n ≤ m → (leB u m).take n = leB u n := by
  induction n with
  | zero => intro m u _; simp [leB]
  | succ n ih =>
    intro m u h
    obtain ⟨m, rfl⟩ : ∃ j, m = j + 1 := ⟨m - 1, by omega⟩
    simp only [leB, List.take_succ_cons]
    rw [ih m _ (by omega)]
theorem tail_f (s : Int) (g : Bool) (x : Int) (hs : s = 0 ∨ s = 2 ∨ s = 4 ∨ s = 8) (k : Nat) (hk : 20 ≤ k) : ehframe_Put.j0 k x s g = some (tailS s g x) := by
  obtain ⟨k, rfl⟩ : ∃ m, k = m + 3 := ⟨k - 3, by omega⟩
  unfold tailS
  rw [ehframe_Put.j0, near1 x (k + 2) (by omega)]
  simp only [Option.bind_some]
  cases hf : farB x
  · simp only [Bool.not_false, if_true, false_or]
    have hr := far_no hf
    have hb : ∀ b : Bool, b = false → ehframe_Put.j1 (k + 2) x b s g = if s = 0 then (if g = true then some (slebL x, 0) else some (ulebL (x % 18446744073709551616).toNat, 0)) else if fitsV x s g = true then some (leB (x % 18446744073709551616) s.toNat, 0) else some ([], 11) := by
      intro b hb
      subst hb
      rw [ehframe_Put.j1, if_neg (by decide)]
      by_cases s0 : s = 0
      · rw [if_pos s0, if_pos s0, ehframe_Put.j2]
        cases g
        · rw [if_neg (by decide), if_pos s0, uleb_f x k (by omega)]
          rfl
        · rw [if_pos rfl, sleb_f x (by omega) (by omega) k (by omega)]
          rfl
      · have hs' : s = 2 ∨ s = 4 ∨ s = 8 := by omega
        rw [if_neg s0, if_neg s0, ehframe_Put.j2, if_neg (by decide), if_neg s0, fits_f x s g hs' k (by omega)]
        simp only [Option.bind_some]
        cases hfi : fitsV x s g
        · rfl
        · rw [if_pos rfl, if_pos rfl, put_f x 8 k (by omega), show putV x 8 = (leB (x % 18446744073709551616) 8, 0) from by simp [putV, sizedB]]
          simp only [Option.bind_some]
          rw [if_pos (by omega), if_pos (by rw [leB_length]; omega), leB_take _ _ _ (by omega)]
    cases g
    · simp only [Bool.false_eq_true, if_false, true_and, false_or]
      by_cases hx : x < 0
      · rw [if_pos hx, decide_eq_true hx, ehframe_Put.j1, if_pos rfl]
      · rw [if_neg hx, decide_eq_false hx, hb false rfl]
        simp only [Bool.false_eq_true, if_false]
        split
        · rfl
        · split <;> rfl
    · simp only [if_true, Bool.true_eq_false, false_and, if_false]
      rw [hb false rfl]
      simp only [if_true]
      split
      · rfl
      · split <;> rfl
  · simp only [Bool.not_true, Bool.false_eq_true, if_false, true_or, if_true]
    rw [ehframe_Put.j1, if_pos rfl]
theorem prog_put {a0 s q : Int} {g : Bool} (hof : ofF a0 = (s, g, q, true)) (hs : s = 0 ∨ s = 2 ∨ s = 4 ∨ s = 8) (v at_ data : Int) (hv : -9223372036854775808 ≤ v ∧ v ≤ 9223372036854775807) (k : Nat) (hk : 20 ≤ k) :
    ehframe_Put.f k a0 v at_ data = some (putS s g q v at_ data) := by
  unfold ehframe_Put.f putS
  rw [show ehframe_of.f a0 = some (s, g, q, true) from congrArg some hof]
  simp only [Option.bind_some, if_true]
  rw [near3 v at_ data k (by omega)]
  simp only [Option.bind_some]
  by_cases hf : farB v = true ∨ farB at_ = true ∨ farB data = true
  · rw [if_pos hf, if_neg (by rcases hf with h | h | h <;> simp [h])]
  · have hf' : farB v = false ∧ farB at_ = false ∧ farB data = false := by
      refine ⟨?_, ?_, ?_⟩ <;> (rw [← Bool.not_eq_true]; intro h; exact hf (by simp [h]))
    rw [if_neg hf, if_pos (by simp [hf'.1, hf'.2.1, hf'.2.2])]
    unfold offV
    by_cases q1 : q = 16
    · rw [if_pos q1, if_pos q1, tail_f s g _ hs k hk]
    · rw [if_neg q1, if_neg q1]
      by_cases q2 : q = 48
      · rw [if_pos q2, if_pos q2, tail_f s g _ hs k hk]
      · rw [if_neg q2, if_neg q2, tail_f s g _ hs k hk, show wrap64 (v - 0) = v from by unfold wrap64; omega]
/-- an encoding that is one -/
theorem enc_good (a0 : Int) (h : ∃ s q g, ofF a0 = (s, g, q, true)) : a0 ∈ [0, 1, 2, 3, 4, 9, 10, 11, 12, 16, 17, 18, 19, 20, 25, 26, 27, 28, 48, 49, 50, 51, 52, 57, 58, 59, 60] := by
  obtain ⟨s, q, g, h⟩ := h
  unfold ofF at h
  split at h
  · cases h
  · split at h
    · cases h
    · rename_i h1 h2
      have h3 := congrArg (fun p => p.2.2.2) h
      simp only at h3
      unfold formOf at h3
      simp only [List.mem_cons, List.not_mem_nil, or_false]
      have hm : a0 % 16 = 0 ∨ a0 % 16 = 1 ∨ a0 % 16 = 2 ∨ a0 % 16 = 3 ∨ a0 % 16 = 4 ∨ a0 % 16 = 9 ∨ a0 % 16 = 10 ∨ a0 % 16 = 11 ∨ a0 % 16 = 12 := by
        repeat' split at h3
        all_goals (first | omega | cases h3)
      omega
end Go.Proofs.Ytfgfnflhdabmcaa.Eh
end
section
namespace Go.Proofs.Ytfgfnflhdabmcaa.Eh
set_option linter.unusedVariables false
set_option linter.unusedSimpArgs false
open Go.RowKit Go.Proofs.Ytfgfnflhdabmcaa.G Go.Proofs.YtfgfnflhdabmcaaW.PrintWords Go.Proofs.YtfgfnflhdabmcaaW.PrintLast Go.Proofs.YtfgfnflhdabmcaaW.PrintMore Go.Proofs.Ytfgfnflhdabmcaa.Bit Go.Proofs.Ytfgfnflhdabmcaa.Leb Go.Proofs.Ytfgfnflhdabmcaa.EhOf
theorem far_f (x : Int) : gangwayref14_far.f x = some (farB x) := by
  unfold gangwayref14_far.f farB
  by_cases h : x < -1152921504606846976
  · rw [if_pos h]; simp [h]
  · rw [if_neg h]; simp [h]
theorem dec_ite2 (x b : Int) : (if x ≥ 0 then some (decide (x < b)) else some false) = some (decide (0 ≤ x ∧ x < b)) := dec_ite x 0 b
theorem rfits_f (x s : Int) (g : Bool) (hs : s = 2 ∨ s = 4) (k : Nat) (hk : 1 ≤ k) : gangwayref01_Fits.f k x (wrap64 (8 * s)) g = some (fitsV x s g) := by
  obtain ⟨k, rfl⟩ : ∃ m, k = m + 1 := ⟨k - 1, by omega⟩
  have w15 : IntKind.u64.wrap (wrap64 (16 - 1)) = 15 := by decide +kernel
  have w31 : IntKind.u64.wrap (wrap64 (32 - 1)) = 31 := by decide +kernel
  have u16 : IntKind.u64.wrap 16 = 16 := by decide +kernel
  have u32 : IntKind.u64.wrap 32 = 32 := by decide +kernel
  have e2 : wrap64 (8 * 2) = 16 := by decide +kernel
  have e4 : wrap64 (8 * 4) = 32 := by decide +kernel
  have n15 : wrap64 (-32768) = -32768 := by decide +kernel
  have n31 : wrap64 (-2147483648) = -2147483648 := by decide +kernel
  unfold gangwayref01_Fits.f
  rcases hs with rfl | rfl
  · rw [e2, if_neg (by decide), gangwayref01_Fits.j0, if_neg (by decide)]
    cases g
    · rw [if_neg (by decide), if_neg (show ¬ (16 : Int) ≥ 63 by decide), u16, if_pos (show (0 : Int) ≤ 16 by decide), sh16]
      exact dec_ite2 x _
    · rw [if_pos rfl, if_neg (by decide), w15, if_pos (by decide), sh15, n15]
      exact dec_ite x _ _
  · rw [e4, if_neg (by decide), gangwayref01_Fits.j0, if_neg (by decide)]
    cases g
    · rw [if_neg (by decide), if_neg (show ¬ (32 : Int) ≥ 63 by decide), u32, if_pos (show (0 : Int) ≤ 32 by decide), sh32]
      exact dec_ite2 x _
    · rw [if_pos rfl, if_neg (by decide), w31, if_pos (by decide), sh31, n31]
      exact dec_ite x _ _
/-- what the reference reckons of an encoding -/
structure RefEnc (a0 s q : Int) (g : Bool) : Prop where
  enc : ∀ k, 10 ≤ k → gangwayref14_Encoding.f k a0 = some true
  bytes : ∀ k, 10 ≤ k → gangwayref14_bytes.f k (Int.tmod a0 16) = some s
  plain : gangwayref14_plain.f (Int.tmod a0 16) = some (!g)
  off : ∀ x y, gangwayref14_off.f a0 x y = some (offV q x y)
  uleb : Int.tmod a0 16 = 1 ↔ s = 0 ∧ g = false
  sleb : Int.tmod a0 16 = 9 ↔ s = 0 ∧ g = true
theorem fits_put {x s : Int} {g : Bool} (hs : s = 2 ∨ s = 4 ∨ s = 8) (h : fitsV x s g = true) : putV x s = (leB (x % 18446744073709551616) s.toNat, 0) := by
  have e1 : (2 : Int) ^ (8 * Int.toNat 2 - 1) = 32768 := by decide +kernel
  have e2 : (2 : Int) ^ (8 * Int.toNat 2) = 65536 := by decide +kernel
  have e3 : (2 : Int) ^ (8 * Int.toNat 4 - 1) = 2147483648 := by decide +kernel
  have e4 : (2 : Int) ^ (8 * Int.toNat 4) = 4294967296 := by decide +kernel
  unfold fitsV at h
  unfold putV
  rcases hs with rfl | rfl | rfl
  · rw [if_pos (by decide), e1, e2, if_neg]
    rw [if_pos rfl] at h
    cases g <;> simp at h <;> omega
  · rw [if_pos (by decide), e3, e4, if_neg]
    rw [if_neg (by decide), if_pos rfl] at h
    cases g <;> simp at h <;> omega
  · rw [if_pos (by decide), if_neg (by omega)]
theorem rput_k (n s : Int) (k : Nat) (hk : 30 ≤ k) : gangwayref01_Put.f k n s = some (putV n s) := at_rounds (g := fun k => gangwayref01_Put.f k n s) (fun k => gangwayref01_Put.mono _ _ k) hk (rput_f n s)
theorem rj1_f {a0 s q : Int} {g : Bool} (R : RefEnc a0 s q g) (hs : s = 0 ∨ s = 2 ∨ s = 4 ∨ s = 8) (x : Int) (hr : -1152921504606846976 ≤ x ∧ x ≤ 1152921504606846976) (h0 : g = true ∨ 0 ≤ x) (k : Nat) (hk : 40 ≤ k) :
    gangwayref14_Put.j1 k x (Int.tmod a0 16) s false = some (if s = 0 then (if g = true then (slebL x, 0) else (ulebL (x % 18446744073709551616).toNat, 0)) else if fitsV x s g = true then (leB (x % 18446744073709551616) s.toNat, 0) else ([], 11)) := by
  obtain ⟨k, rfl⟩ : ∃ m, k = m + 1 := ⟨k - 1, by omega⟩
  rw [gangwayref14_Put.j1, if_neg (by decide)]
  by_cases s0 : s = 0
  · rw [if_pos s0]
    cases g
    · rw [if_pos (R.uleb.2 ⟨s0, rfl⟩), ruleb_f x k (by omega)]
      rfl
    · rw [if_neg (fun e => by have := (R.uleb.1 e).2; cases this), if_pos (R.sleb.2 ⟨s0, rfl⟩), rsleb_f x (by omega) (by omega) k (by omega)]
      rfl
  · have hs' : s = 2 ∨ s = 4 ∨ s = 8 := by omega
    rw [if_neg s0, if_neg (fun e => s0 (R.uleb.1 e).1), if_neg (fun e => s0 (R.sleb.1 e).1), R.plain]
    simp only [Option.bind_some, Bool.not_not]
    by_cases s8 : s < 8
    · rw [if_pos s8, rfits_f x s g (by omega) k (by omega)]
      simp only [Option.bind_some]
      cases hfi : fitsV x s g
      · rfl
      · rw [if_pos rfl, if_pos rfl, rput_k x s k (by omega), fits_put hs' hfi]
        rfl
    · obtain rfl : s = 8 := by omega
      have hfi : fitsV x 8 g = true := by
        unfold fitsV
        rw [if_neg (by decide), if_neg (by decide)]
        rcases h0 with h0 | h0
        · rw [if_pos h0]
        · split
          · rfl
          · exact decide_eq_true h0
      rw [if_neg s8, if_pos hfi, rput_k x 8 k (by omega), fits_put hs' hfi]
      rfl
theorem ref_put {a0 s q : Int} {g : Bool} (R : RefEnc a0 s q g) (hs : s = 0 ∨ s = 2 ∨ s = 4 ∨ s = 8) (v at_ data : Int) (k : Nat) (hk : 60 ≤ k) : gangwayref14_Put.f k a0 v at_ data = some (putS s g q v at_ data) := by
  obtain ⟨k, rfl⟩ : ∃ m, k = m + 1 := ⟨k - 1, by omega⟩
  have bad : gangwayref14_Put.j0 (k + 1) a0 v at_ data true = some ([], 11) := by rw [gangwayref14_Put.j0, if_pos rfl]
  unfold gangwayref14_Put.f putS
  rw [R.enc (k + 1) (by omega)]
  simp only [Option.bind_some, if_true]
  rw [far_f v]
  simp only [Option.bind_some]
  cases hv : farB v
  · simp only [Bool.false_eq_true, if_false, false_or]
    rw [far_f at_]
    simp only [Option.bind_some]
    cases ha : farB at_
    · simp only [Bool.false_eq_true, if_false, false_or]
      rw [far_f data]
      simp only [Option.bind_some]
      cases hd : farB data
      · simp only [Bool.false_eq_true, if_false]
        rw [gangwayref14_Put.j0, if_neg (by decide), R.off, R.bytes k (by omega), R.plain]
        simp only [Option.bind_some]
        generalize wrap64 (v - offV q at_ data) = x
        unfold tailS
        cases hf : farB x
        · have hr := far_no hf
          rw [far_f x, hf]
          simp only [Option.bind_some, Bool.false_eq_true, false_or]
          cases g
          · simp only [Bool.not_false, if_true, true_and]
            by_cases hx : x < 0
            · obtain ⟨k, rfl⟩ : ∃ m, k = m + 1 := ⟨k - 1, by omega⟩
              rw [if_pos hx, if_pos hx, gangwayref14_Put.j1, if_pos rfl]
            · rw [if_neg hx, if_neg hx, rj1_f R hs x hr (.inr (by omega)) k (by omega)]
          · simp only [Bool.not_true, Bool.false_eq_true, if_false, Bool.true_eq_false, false_and]
            rw [rj1_f R hs x hr (.inl rfl) k (by omega)]
            simp only [if_true]
        · obtain ⟨k, rfl⟩ : ∃ m, k = m + 1 := ⟨k - 1, by omega⟩
          rw [far_f x, hf]
          simp only [Option.bind_some, true_or, if_true]
          have e : gangwayref14_Put.j1 (k + 1) x (Int.tmod a0 16) s true = some ([], 11) := by rw [gangwayref14_Put.j1, if_pos rfl]
          rw [e, ite_self, ite_self]
      · simp only [if_true]
        exact bad
    · simp only [if_true, true_or]
      exact bad
  · simp only [if_true, true_or]
    exact bad
theorem off_of {a0 q : Int} (e : wrap64 (wrap64 (Int.tdiv a0 16) * 16) = q) (x y : Int) : gangwayref14_off.f a0 x y = some (offV q x y) := by
  unfold gangwayref14_off.f offV
  rw [e]
  split
  · rfl
  · split <;> rfl
theorem enc_ref (a0 : Int) (h : a0 ∈ [0, 1, 2, 3, 4, 9, 10, 11, 12, 16, 17, 18, 19, 20, 25, 26, 27, 28, 48, 49, 50, 51, 52, 57, 58, 59, 60]) :
    ofF a0 = ((ofF a0).1, (ofF a0).2.1, (ofF a0).2.2.1, true) ∧ ((ofF a0).1 = 0 ∨ (ofF a0).1 = 2 ∨ (ofF a0).1 = 4 ∨ (ofF a0).1 = 8) ∧ RefEnc a0 (ofF a0).1 (ofF a0).2.2.1 (ofF a0).2.1 := by
  have up : ∀ (b : Int) (k : Nat), 10 ≤ k → ∀ {r}, gangwayref14_bytes.f 10 b = some r → gangwayref14_bytes.f k b = some r := fun b k hk {r} e => at_rounds (g := fun k => gangwayref14_bytes.f k b) (fun k => gangwayref14_bytes.mono _ k) hk e
  have upE : ∀ (b : Int) (k : Nat), 10 ≤ k → ∀ {r}, gangwayref14_Encoding.f 10 b = some r → gangwayref14_Encoding.f k b = some r := fun b k hk {r} e => at_rounds (g := fun k => gangwayref14_Encoding.f k b) (fun k => gangwayref14_Encoding.mono _ k) hk e
  simp only [List.mem_cons, List.not_mem_nil, or_false] at h
  rcases h with rfl | rfl | rfl | rfl | rfl | rfl | rfl | rfl | rfl | rfl | rfl | rfl | rfl | rfl | rfl | rfl | rfl | rfl | rfl | rfl | rfl | rfl | rfl | rfl | rfl | rfl | rfl
  all_goals exact ⟨by decide +kernel, by decide +kernel, ⟨fun k hk => upE _ k hk (by decide +kernel), fun k hk => up _ k hk (by decide +kernel), by decide +kernel, off_of (by decide +kernel), by decide +kernel, by decide +kernel⟩⟩
/-- an encoding that is none -/
theorem enc_bad (a0 : Int) (w0 : -9223372036854775808 ≤ a0) (w1 : a0 ≤ 9223372036854775807) (h : ¬ a0 ∈ [0, 1, 2, 3, 4, 9, 10, 11, 12, 16, 17, 18, 19, 20, 25, 26, 27, 28, 48, 49, 50, 51, 52, 57, 58, 59, 60]) : (ofF a0).2.2.2 = false ∧ ∀ k, 10 ≤ k → gangwayref14_Encoding.f k a0 = some false := by
  refine ⟨?_, fun k hk => ?_⟩
  · cases hb : (ofF a0).2.2.2
    · rfl
    · exact absurd (enc_good a0 ⟨(ofF a0).1, (ofF a0).2.2.1, (ofF a0).2.1, by rw [← hb]⟩) h
  · unfold gangwayref14_Encoding.f
    by_cases h0 : a0 < 0
    · rw [if_pos h0]
    · rw [if_neg h0]
      have hm : Int.tmod a0 16 = a0 % 16 := Int.tmod_eq_emod_of_nonneg (by omega)
      have hd : Int.tdiv a0 16 = a0 / 16 := Int.tdiv_eq_ediv_of_nonneg (by omega)
      have hq : wrap64 (wrap64 (Int.tdiv a0 16) * 16) = a0 - a0 % 16 := by rw [hd]; unfold wrap64; omega
      have up : ∀ (b : Int), ∀ {r}, gangwayref14_bytes.f 10 b = some r → gangwayref14_bytes.f k b = some r := fun b {r} e => at_rounds (g := fun k => gangwayref14_bytes.f k b) (fun k => gangwayref14_bytes.mono _ k) hk e
      rw [hq, hm]
      have h16 : a0 % 16 = 0 ∨ a0 % 16 = 1 ∨ a0 % 16 = 2 ∨ a0 % 16 = 3 ∨ a0 % 16 = 4 ∨ a0 % 16 = 5 ∨ a0 % 16 = 6 ∨ a0 % 16 = 7 ∨ a0 % 16 = 8 ∨ a0 % 16 = 9 ∨ a0 % 16 = 10 ∨ a0 % 16 = 11 ∨ a0 % 16 = 12 ∨ a0 % 16 = 13 ∨ a0 % 16 = 14 ∨ a0 % 16 = 15 := by omega
      have two : ∀ (m r : Int), a0 % 16 = m → gangwayref14_bytes.f 10 m = some r → ((0 ≤ r) → ¬ (a0 - a0 % 16 = 0 ∨ a0 - a0 % 16 = 16 ∨ a0 - a0 % 16 = 48)) →
          ((gangwayref14_bytes.f k (a0 % 16)).bind fun t101 => (if t101 < 0 then (some false) else (if a0 - a0 % 16 = 0 then (some true) else (if a0 - a0 % 16 = 16 then (some true) else (some (a0 - a0 % 16 == 48)))))) = some false := by
        intro m r e hr hn
        rw [e, up m hr]
        simp only [Option.bind_some]
        by_cases h1 : r < 0
        · rw [if_pos h1]
        · have h2 := hn (by omega)
          rw [e] at h2
          rw [if_neg h1, if_neg (fun x => h2 (.inl x)), if_neg (fun x => h2 (.inr (.inl x))), show (a0 - m == 48) = false from beq_eq_false_iff_ne.2 (fun x => h2 (.inr (.inr x)))]
      have no : ∀ {P : Prop}, ¬ (0 : Int) ≤ -1 → (0 : Int) ≤ -1 → P := fun h1 h2 => absurd h2 h1
      simp only [List.mem_cons, List.not_mem_nil, or_false] at h
      rcases h16 with e | e | e | e | e | e | e | e | e | e | e | e | e | e | e | e
      · exact two 0 8 e (by decide +kernel) (by omega)
      · exact two 1 0 e (by decide +kernel) (by omega)
      · exact two 2 2 e (by decide +kernel) (by omega)
      · exact two 3 4 e (by decide +kernel) (by omega)
      · exact two 4 8 e (by decide +kernel) (by omega)
      · exact two 5 (-1) e (by decide +kernel) (by omega)
      · exact two 6 (-1) e (by decide +kernel) (by omega)
      · exact two 7 (-1) e (by decide +kernel) (by omega)
      · exact two 8 (-1) e (by decide +kernel) (by omega)
      · exact two 9 0 e (by decide +kernel) (by omega)
      · exact two 10 2 e (by decide +kernel) (by omega)
      · exact two 11 4 e (by decide +kernel) (by omega)
      · exact two 12 8 e (by decide +kernel) (by omega)
      · exact two 13 (-1) e (by decide +kernel) (by omega)
      · exact two 14 (-1) e (by decide +kernel) (by omega)
      · exact two 15 (-1) e (by decide +kernel) (by omega)
theorem put_same (a0 v at_ data : Int) (w0 : -9223372036854775808 ≤ a0 ∧ a0 ≤ 9223372036854775807) (hv : -9223372036854775808 ≤ v ∧ v ≤ 9223372036854775807) (k : Nat) (hk : 60 ≤ k) :
    ∃ r, ehframe_Put.f k a0 v at_ data = some r ∧ gangwayref14_Put.f k a0 v at_ data = some r := by
  by_cases h : a0 ∈ [0, 1, 2, 3, 4, 9, 10, 11, 12, 16, 17, 18, 19, 20, 25, 26, 27, 28, 48, 49, 50, 51, 52, 57, 58, 59, 60]
  · obtain ⟨h1, h2, h3⟩ := enc_ref a0 h
    exact ⟨_, prog_put h1 h2 v at_ data hv k (by omega), ref_put h3 h2 v at_ data k hk⟩
  · obtain ⟨h1, h2⟩ := enc_bad a0 w0.1 w0.2 h
    refine ⟨([], 140), ?_, ?_⟩
    · unfold ehframe_Put.f
      rw [show ehframe_of.f a0 = some ((ofF a0).1, (ofF a0).2.1, (ofF a0).2.2.1, false) from congrArg some (by rw [← h1])]
      rfl
    · unfold gangwayref14_Put.f
      rw [h2 k (by omega)]
      rfl
end Go.Proofs.Ytfgfnflhdabmcaa.Eh
end
section
namespace Go.Proofs.Ytfgfnflhdabmcaa.Leb
set_option linter.unusedVariables false
set_option linter.unusedSimpArgs false
open Go.RowKit Go.Proofs.Ytfgfnflhdabmcaa.G Go.Proofs.YtfgfnflhdabmcaaW.PrintWords Go.Proofs.YtfgfnflhdabmcaaW.PrintLast Go.Proofs.YtfgfnflhdabmcaaW.PrintMore Go.Proofs.Ytfgfnflhdabmcaa.Bit
/-- the groups' bits as a number -/
def gN : List Int → Int
  | [] => 0
  | x :: xs => x % 128 + 128 * gN xs
theorem pow128 (i : Nat) : (128 : Int) ^ (i + 1) = 128 * 128 ^ i := by rw [Int.pow_succ, Int.mul_comm]
theorem pow128_pos (i : Nat) : (0 : Int) < 128 ^ i := Int.pow_pos (by decide)
theorem pow128_mono {i j : Nat} (h : i ≤ j) : (128 : Int) ^ i ≤ 128 ^ j := by
  have h2 : ((128 ^ i : Nat) : Int) ≤ ((128 ^ j : Nat) : Int) := Int.ofNat_le.mpr (Nat.pow_le_pow_right (n := 128) (by decide) h)
  rw [Int.natCast_pow, Int.natCast_pow] at h2
  exact h2
theorem two7 (i : Nat) : (2 : Int) ^ (7 * i) = 128 ^ i := by rw [Int.pow_mul]; rfl
theorem gN_range (l : List Int) : 0 ≤ gN l ∧ gN l < 128 ^ l.length := by
  induction l with
  | nil => simp [gN]
  | cons x xs ih =>
    simp only [gN, List.length_cons, pow128]
    omega
theorem lebJn_eq (g : List Int) (hg : ∀ b ∈ g, 0 ≤ b ∧ b ≤ 255) : ∀ (i : Nat) (u : Int), i + g.length ≤ 10 → 0 ≤ u → u < 128 ^ i → u < 18446744073709551616 → lebJn g i u = (u + 128 ^ i * gN g) % 18446744073709551616 := by
  induction g with
  | nil =>
    intro i u _ h0 h1 h2
    simp only [lebJn, gN]
    omega
  | cons x xs ih =>
    intro i u hi h0 h1 h2
    have hx := hg x (by simp)
    simp only [List.length_cons] at hi
    have hp := pow128_pos i
    have hp9 : (128 : Int) ^ i ≤ 9223372036854775808 := by
      have := pow128_mono (show i ≤ 9 by omega)
      exact this
    have hdvd : (128 : Int) ^ i ∣ 18446744073709551616 := by
      have h : (18446744073709551616 : Int) = 2 ^ (7 * i) * 2 ^ (64 - 7 * i) := by
        rw [← Int.pow_add, show 7 * i + (64 - 7 * i) = 64 from by omega]
        rfl
      rw [h, two7]
      exact Int.dvd_mul_right _ _
    have hv : shl .u64 (IntKind.u64.wrap (Go.bits .and .u8 x 127)) (7 * (i : Int)) = (x % 128 * 128 ^ i) % 18446744073709551616 := by
      unfold shl
      rw [b_and127' x hx.1 (by omega), wrap_u64, wrap_u64, show (7 * (i : Int)).toNat = 7 * i from by omega, Nat.min_eq_left (by simp [IntKind.bits]; omega), two7, show x % 128 % 18446744073709551616 = x % 128 from by omega]
    have hv0 : 0 ≤ (x % 128 * 128 ^ i) % 18446744073709551616 := by omega
    have hv1 : (x % 128 * 128 ^ i) % 18446744073709551616 < 18446744073709551616 := by omega
    have hv2 : ((x % 128 * 128 ^ i) % 18446744073709551616) % 128 ^ i = 0 := by
      rw [Int.emod_emod_of_dvd _ hdvd]
      exact Int.mul_emod_left _ _
    have hle : (x % 128 * 128 ^ i) % 18446744073709551616 ≤ x % 128 * 128 ^ i := by
      have hm : 0 ≤ x % 128 * 128 ^ i := Int.mul_nonneg (by omega) (by omega)
      omega
    have hmx : x % 128 * 128 ^ i ≤ 127 * 128 ^ i := Int.mul_le_mul_of_nonneg_right (by omega) (by omega)
    have hor : Go.bits .or .u64 u ((x % 128 * 128 ^ i) % 18446744073709551616) = u + (x % 128 * 128 ^ i) % 18446744073709551616 := by
      refine u64_join u _ (7 * i) h0 ?_ hv0 ?_ hv1 h2
      · rw [two7]; exact h1
      · rw [two7]; exact hv2
    have hsum : u + (x % 128 * 128 ^ i) % 18446744073709551616 < 18446744073709551616 := by
      obtain ⟨q, hq⟩ := Int.dvd_of_emod_eq_zero hv2
      obtain ⟨r, hr⟩ := hdvd
      have h3 : 128 ^ i * q < 128 ^ i * r := by rw [← hq, ← hr]; exact hv1
      have h4 : q < r := Int.lt_of_mul_lt_mul_left h3 (by omega)
      have h5 : 128 ^ i * (q + 1) ≤ 128 ^ i * r := Int.mul_le_mul_of_nonneg_left (by omega) (by omega)
      rw [Int.mul_add, Int.mul_one, ← hq, ← hr] at h5
      omega
    simp only [lebJn]
    rw [hv, hor, ih (fun b hb => hg b (by simp [hb])) (i + 1) _ (by omega) (by omega) (by rw [pow128]; omega) hsum]
    simp only [gN]
    rw [pow128, Int.mul_add, Int.mul_comm (128 ^ i) (x % 128)]
    have e : (128 : Int) ^ i * (128 * gN xs) = 128 * 128 ^ i * gN xs := by rw [Int.mul_comm 128 (128 ^ i), Int.mul_assoc]
    rw [e]
    generalize (128 : Int) * 128 ^ i * gN xs = y
    generalize x % 128 * 128 ^ i = z
    omega
theorem lebJn_val (g : List Int) (hg : ∀ b ∈ g, 0 ≤ b ∧ b ≤ 255) (hl : g.length ≤ 10) : lebJn g 0 0 = gN g % 18446744073709551616 := by
  have := lebJn_eq g hg 0 0 (by omega) (by omega) (by simp) (by omega)
  simpa using this
theorem lebCut_drop (l : List Int) (a : Nat) (n : Nat) : lebCut l (a : Int) n = (l.drop a).take n := by
  unfold lebCut
  rw [Int.toNat_natCast, List.drop_take]
  congr 1
  omega
theorem lebAt_nat {l : List Int} {a : Nat} (h : a < l.length) : lebAt l (a : Int) = lebGrp (l.drop a) 0 := by
  unfold lebAt
  rw [if_neg (by omega), Int.toNat_natCast]
end Go.Proofs.Ytfgfnflhdabmcaa.Leb
end
section
namespace Go.Proofs.Ytfgfnflhdabmcaa.Leb
set_option linter.unusedVariables false
set_option linter.unusedSimpArgs false
open Go.RowKit Go.Proofs.Ytfgfnflhdabmcaa.G Go.Proofs.YtfgfnflhdabmcaaW.PrintWords Go.Proofs.YtfgfnflhdabmcaaW.PrintLast Go.Proofs.YtfgfnflhdabmcaaW.PrintMore Go.Proofs.Ytfgfnflhdabmcaa.Bit
/-- how many bytes the reference counts -/
def refN : Nat ⊕ Int → Int
  | .inl n => n
  | .inr e => if e = 21 then 11 else 0
theorem rgroups_l0 (l : List Int) (a : Nat) (hm : l.length ≤ 140737488351232) (d : Nat) : ∀ (k n : Nat), n ≤ 10 → 10 - n = d → 2 * d + 2 < k → a + n ≤ l.length →
    gangwayref01_groups.l0 k l (a : Int) ((a + n : Nat) : Int) = some (refN (lebGrp (l.drop (a + n)) n)) := by
  induction d with
  | zero =>
    intro k n hn hd hk hl
    obtain ⟨k, rfl⟩ : ∃ m, k = m + 2 := ⟨k - 2, by omega⟩
    obtain rfl : n = 10 := by omega
    simp only [gangwayref01_groups.l0]
    rw [wrap64_id (by omega) (by omega)]
    by_cases c : a + 10 < l.length
    · rw [if_pos (by omega), decide_eq_true (by omega), lebGrp_drop l (a + 10) c, if_pos rfl]
      simp only [gangwayref01_groups.j2, if_true]
      rw [if_pos (by omega), if_pos (by omega), wrap64_id (n := ((a + 10 : Nat) : Int) - a) (by omega) (by omega)]
      by_cases c2 : rd l ((a + 10 : Nat) : Int) < 128
      · rw [if_pos c2, wrap64_id (by omega) (by omega)]
        simp [refN]
        omega
      · rw [if_neg c2, if_pos (by omega), wrap64_id (by omega) (by omega)]
        simp [refN]
        omega
    · rw [if_neg (by omega)]
      simp only [gangwayref01_groups.j2]
      rw [List.drop_of_length_le (by omega)]
      simp [lebGrp, refN]
  | succ d ih =>
    intro k n hn hd hk hl
    obtain ⟨k, rfl⟩ : ∃ m, k = m + 2 := ⟨k - 2, by omega⟩
    simp only [gangwayref01_groups.l0]
    rw [wrap64_id (by omega) (by omega)]
    by_cases c : a + n < l.length
    · rw [if_pos (by omega), decide_eq_true (by omega), lebGrp_drop l (a + n) c, if_neg (by omega)]
      simp only [gangwayref01_groups.j2, if_true]
      rw [if_pos (by omega), if_pos (by omega), wrap64_id (n := ((a + n : Nat) : Int) - a) (by omega) (by omega)]
      by_cases c2 : rd l ((a + n : Nat) : Int) < 128
      · rw [if_pos c2, if_pos c2, wrap64_id (by omega) (by omega)]
        simp [refN]
        omega
      · rw [if_neg c2, if_neg c2, if_neg (by omega), wrap64_id (by omega) (by omega), show ((a + n : Nat) : Int) + 1 = ((a + (n + 1) : Nat) : Int) from by omega, ih k (n + 1) (by omega) (by omega) (by omega) (by omega)]
        rfl
    · rw [if_neg (by omega)]
      simp only [gangwayref01_groups.j2]
      rw [List.drop_of_length_le (by omega)]
      simp [lebGrp, refN]
theorem rgroups_f (l : List Int) (a : Int) (hm : l.length ≤ 140737488351232) (k : Nat) (hk : 30 ≤ k) : gangwayref01_groups.f k l a = some (refN (lebAt l a)) := by
  obtain ⟨k, rfl⟩ : ∃ m, k = m + 1 := ⟨k - 1, by omega⟩
  unfold gangwayref01_groups.f lebAt
  by_cases c1 : a < 0
  · rw [if_pos c1, if_pos (.inl c1)]
    simp [gangwayref01_groups.j0, refN]
  · rw [if_neg c1]
    by_cases c2 : a > l.length
    · rw [decide_eq_true c2, if_pos (.inr (by omega))]
      simp [gangwayref01_groups.j0, refN]
    · rw [decide_eq_false c2]
      simp only [gangwayref01_groups.j0, Bool.false_eq_true, if_false]
      obtain ⟨m, rfl⟩ := Int.eq_ofNat_of_zero_le (show 0 ≤ a by omega)
      have := rgroups_l0 l m hm 10 k 0 (by omega) (by omega) (by omega) (by omega)
      rw [Nat.add_zero] at this
      rw [this]
      by_cases c3 : m < l.length
      · rw [if_neg (by omega), Int.toNat_natCast]
      · rw [if_pos (.inr (by omega)), List.drop_of_length_le (by omega)]
        rfl
theorem rraw_l0 (l : List Int) (a n : Nat) (hm : l.length ≤ 140737488351232) (hl : a + n ≤ l.length) (hn : n ≤ 10) (d : Nat) : ∀ (k i : Nat) (u : Int), i + d = n → d < k →
    gangwayref01_raw.l0 k l (a : Int) (n : Int) u (i : Int) = some (lebJn ((lebCut l a n).drop i) i u) := by
  have hlen := lebCut_length (l0 := l) (a1 := (a : Int)) (n := n) (by rw [Int.toNat_natCast]; exact hl)
  induction d with
  | zero =>
    intro k i u hi hk
    obtain ⟨k, rfl⟩ : ∃ m, k = m + 1 := ⟨k - 1, by omega⟩
    simp only [gangwayref01_raw.l0]
    rw [if_neg (by omega), List.drop_of_length_le (by omega)]
    rfl
  | succ d ih =>
    intro k i u hi hk
    obtain ⟨k, rfl⟩ : ∃ m, k = m + 1 := ⟨k - 1, by omega⟩
    have hlt : i < (lebCut l a n).length := by omega
    have hget : (lebCut l a n)[i] = l[a + i]'(by omega) := by
      have h2 : lebCut l (a : Int) n = (l.drop a).take n := lebCut_drop l a n
      simp [h2]
    have hrd : rd l ((a : Int) + i) = l[a + i]'(by omega) := by
      simp [rd, List.getD, show ((a : Int) + (i : Int)).toNat = a + i from by omega, show a + i < l.length from by omega]
    simp only [gangwayref01_raw.l0]
    rw [if_pos (by omega), wrap64_id (n := (a : Int) + i) (by omega) (by omega), if_pos (by omega), if_pos (by omega), wrap64_id (n := 7 * (i : Int)) (by omega) (by omega), wrap_u64 (7 * (i : Int)), Int.emod_eq_of_lt (by omega) (by omega), if_pos (by omega), wrap64_id (n := (i : Int) + 1) (by omega) (by omega), show (i : Int) + 1 = ((i + 1 : Nat) : Int) from by omega, ih k (i + 1) _ (by omega) (by omega), List.drop_eq_getElem_cons hlt, hget, hrd]
    rfl
theorem rraw_f (l : List Int) (a n : Nat) (hm : l.length ≤ 140737488351232) (hl : a + n ≤ l.length) (hn : n ≤ 10) (k : Nat) (hk : 20 ≤ k) : gangwayref01_raw.f k l (a : Int) (n : Int) = some (lebJn (lebCut l a n) 0 0) := by
  unfold gangwayref01_raw.f
  have := rraw_l0 l a n hm hl hn n k 0 0 (by omega) (by omega)
  simpa using this
theorem cut_rd (l : List Int) (a n i : Nat) (hl : a + n ≤ l.length) (hi : i < n) : rd (lebCut l (a : Int) n) (i : Int) = rd l ((a + i : Nat) : Int) := by
  rw [lebCut_drop]
  unfold rd
  rw [Int.toNat_natCast, Int.toNat_natCast, List.getD_eq_getElem?_getD, List.getD_eq_getElem?_getD, List.getElem?_take, if_pos hi, List.getElem?_drop]
theorem lebAt_refN {l : List Int} {a : Int} : (∃ n, lebAt l a = .inl n) ∨ lebAt l a = .inr 20 ∨ lebAt l a = .inr 21 := by
  cases h : lebAt l a with
  | inl n => exact .inl ⟨n, rfl⟩
  | inr e =>
    rcases lebAt_err h with rfl | rfl
    · exact .inr (.inl rfl)
    · exact .inr (.inr rfl)
theorem rreadU_f (l : List Int) (a : Int) (hm : l.length ≤ 140737488351232) (hb : ∀ b ∈ l, 0 ≤ b ∧ b ≤ 255) : gangwayref01_ReadUleb.f 40 l a = leb_ReadUleb.f l a := by
  unfold gangwayref01_ReadUleb.f leb_ReadUleb.f lebReadU
  rw [rgroups_f l a hm 40 (by omega), Option.bind_some]
  rcases lebAt_refN (l := l) (a := a) with ⟨n, h⟩ | h | h
  · obtain ⟨h0, hn, hn10, hln⟩ := lebAt_ok h
    obtain ⟨m, rfl⟩ := Int.eq_ofNat_of_zero_le h0
    rw [Int.toNat_natCast] at hln
    have hr : refN (lebAt l (m : Int)) = n := by rw [h]; rfl
    rw [hr, h]
    simp only
    rw [if_neg (show ¬ (n : Int) = 0 by omega), if_neg (show ¬ (n : Int) > 10 by omega), rraw_f l m n hm hln hn10 40 (by omega)]
    simp only [Option.bind_some]
    rw [wrap64_id (n := (m : Int) + n) (by omega) (by omega)]
    by_cases c : n < 10
    · rw [if_neg (show ¬ (n : Int) = 10 by omega), if_pos (.inl c)]
    · obtain rfl : n = 10 := by omega
      have e := cut_rd l m 10 9 hln (by omega)
      rw [if_pos (show ((10 : Nat) : Int) = 10 from rfl), wrap64_id (n := (m : Int) + 9) (by omega) (by omega), if_pos (show 0 ≤ (m : Int) + 9 by omega), if_pos (show (m : Int) + 9 < (l.length : Int) by omega)]
      rw [show ((9 : Nat) : Int) = 9 from rfl] at e
      rw [show (m : Int) + 9 = ((m + 9 : Nat) : Int) from by omega, ← e]
      by_cases c2 : rd (lebCut l (m : Int) 10) 9 > 1
      · rw [if_pos c2, if_neg (by omega), show wrap64 0 = 0 from by decide +kernel]
      · rw [if_neg c2, if_pos (.inr (by omega))]
  · rw [h]
    simp [refN]
    decide +kernel
  · rw [h]
    simp [refN]
    decide +kernel
theorem b_and64 (x : Int) (h0 : 0 ≤ x) (h1 : x < 256) : Go.bits .and .u8 x 64 = if x % 128 ≥ 64 then 64 else 0 :=
  byte_all (P := fun y => Go.bits .and .u8 y 64 = if y % 128 ≥ 64 then 64 else 0) (by decide +kernel) x h0 h1
theorem gN_last (g : List Int) (x : Int) (h0 : 0 ≤ x) (h1 : x < 128) : gN (g ++ [x]) = gN g + 128 ^ g.length * x := by
  induction g with
  | nil => simp [gN]; omega
  | cons y ys ih =>
    simp only [List.cons_append, gN, ih, List.length_cons, pow128]
    rw [Int.mul_assoc]
    generalize (128 : Int) ^ ys.length * x = z
    omega
theorem grp_last (l : List Int) : ∀ j n, lebGrp l j = .inl n → ∃ h : n - j - 1 < l.length, l[n - j - 1] < 128 := by
  induction l with
  | nil => intro j n h; simp [lebGrp] at h
  | cons x xs ih =>
    intro j n h
    have hle := lebGrp_le _ _ _ h
    simp only [lebGrp] at h
    split at h
    · cases h
    · split at h
      · cases h
        refine ⟨by simp, ?_⟩
        simpa using ‹x < 128›
      · obtain ⟨h1, h2⟩ := ih _ _ h
        have hle2 := lebGrp_le _ _ _ h
        refine ⟨by simp only [List.length_cons]; omega, ?_⟩
        have e : n - j - 1 = (n - (j + 1) - 1) + 1 := by omega
        simp only [e, List.getElem_cons_succ]
        exact h2
theorem sx_ref (l : List Int) (m n : Nat) (hb : ∀ b ∈ l, 0 ≤ b ∧ b ≤ 255) (hln : m + n ≤ l.length) (hn : 0 < n) (hn9 : n ≤ 9) (hlast : rd l ((m + n - 1 : Nat) : Int) < 128) (hm : l.length ≤ 140737488351232) :
    (if Go.bits .and .u8 (rd l ((m + n - 1 : Nat) : Int)) 64 = 0 then wrap64 (lebJn (lebCut l (m : Int) n) 0 0) else wrap64 (Go.bits .or .u64 (lebJn (lebCut l (m : Int) n) 0 0) (shl .u64 18446744073709551615 (7 * (n : Int))))) = lebSx (lebJn (lebCut l (m : Int) n) 0 0) n := by
  have hlen := lebCut_length (l0 := l) (a1 := (m : Int)) (n := n) (by rw [Int.toNat_natCast]; exact hln)
  have hbc : ∀ b ∈ lebCut l (m : Int) n, 0 ≤ b ∧ b ≤ 255 := fun b h => hb b (List.mem_of_mem_take (List.mem_of_mem_drop h))
  have hget := cut_rd l m n (n - 1) hln (by omega)
  rw [show m + (n - 1) = m + n - 1 from by omega] at hget
  rw [← hget] at hlast ⊢
  rw [lebJn_val _ hbc (by omega)]
  generalize lebCut l (m : Int) n = g at *
  obtain ⟨q, rfl⟩ : ∃ q, n = q + 1 := ⟨n - 1, by omega⟩
  rw [Nat.add_sub_cancel] at *
  have hsplit : g = g.take q ++ [rd g (q : Int)] := by
    have h1 : g.take (q + 1) = g := List.take_of_length_le (by omega)
    have h2 := List.take_succ_eq_append_getElem (l := g) (i := q) (by omega)
    rw [h1] at h2
    rw [h2]
    congr 1
    · rw [List.take_append_of_le_length (by rw [List.length_take]; omega), List.take_take]
      simp
    · simp [rd, List.getD, List.getElem_append, hlen]
  have hx0 : 0 ≤ rd g (q : Int) := by
    have : rd g (q : Int) = g[q]'(by omega) := by simp [rd, List.getD, show q < g.length from by omega]
    rw [this]
    exact (hbc _ (List.getElem_mem _)).1
  have hg : gN g = gN (g.take q) + 128 ^ q * rd g (q : Int) := by
    have := gN_last (g.take q) (rd g (q : Int)) hx0 hlast
    rw [← hsplit, List.length_take, Nat.min_eq_left (by omega)] at this
    exact this
  have hr := gN_range (g.take q)
  rw [List.length_take, Nat.min_eq_left (by omega)] at hr
  have hp := pow128_pos q
  have hp8 : (128 : Int) ^ q ≤ 72057594037927936 := by
    have := pow128_mono (show q ≤ 8 by omega)
    exact this
  have hmul0 : 0 ≤ 128 ^ q * rd g (q : Int) := Int.mul_nonneg (by omega) hx0
  have hmul1 : 128 ^ q * rd g (q : Int) ≤ 128 ^ q * 127 := Int.mul_le_mul_of_nonneg_left (by omega) (by omega)
  have hW : gN g % 18446744073709551616 = gN g := Int.emod_eq_of_lt (by omega) (by omega)
  rw [hW, b_and64 _ hx0 (by omega), Int.emod_eq_of_lt hx0 hlast]
  unfold lebSx
  have hpow : (2 : Int) ^ (7 * (q + 1) - 1) = 64 * 128 ^ q := by
    rw [show 7 * (q + 1) - 1 = 6 + 7 * q from by omega, Int.pow_add, two7]
    rfl
  have hshr : shr .u64 (gN g) (7 * ((q + 1 : Nat) : Int) - 1) = gN g / (64 * 128 ^ q) := by
    unfold shr
    rw [show (7 * ((q + 1 : Nat) : Int) - 1).toNat = 7 * (q + 1) - 1 from by omega, Nat.min_eq_left (by simp [IntKind.bits]; omega), hpow]
  rw [hshr]
  by_cases c : rd g (q : Int) ≥ 64
  · have k1 : 128 ^ q * 64 ≤ 128 ^ q * rd g (q : Int) := Int.mul_le_mul_of_nonneg_left c (by omega)
    have hd : gN g / (64 * 128 ^ q) = 1 := by
      have l1 : gN g / (64 * 128 ^ q) < 2 := Int.ediv_lt_of_lt_mul (by omega) (by omega)
      have l2 : 1 ≤ gN g / (64 * 128 ^ q) := Int.le_ediv_of_mul_le (by omega) (by omega)
      omega
    rw [if_pos c, if_neg (by decide), hd, if_pos ⟨by omega, by decide +kernel⟩]
  · have k1 : 128 ^ q * rd g (q : Int) ≤ 128 ^ q * 63 := Int.mul_le_mul_of_nonneg_left (by omega) (by omega)
    have hd : gN g / (64 * 128 ^ q) = 0 := Int.ediv_eq_zero_of_lt (by omega) (by omega)
    rw [if_neg c, if_pos rfl, hd, if_neg (fun h => absurd h.2 (by decide +kernel))]
theorem rreadS_f (l : List Int) (a : Int) (hm : l.length ≤ 140737488351232) (hb : ∀ b ∈ l, 0 ≤ b ∧ b ≤ 255) : gangwayref01_ReadSleb.f 40 l a = leb_ReadSleb.f l a := by
  unfold gangwayref01_ReadSleb.f leb_ReadSleb.f lebReadS
  rw [rgroups_f l a hm 40 (by omega), Option.bind_some]
  rcases lebAt_refN (l := l) (a := a) with ⟨n, h⟩ | h | h
  · obtain ⟨h0, hn, hn10, hln⟩ := lebAt_ok h
    obtain ⟨m, rfl⟩ := Int.eq_ofNat_of_zero_le h0
    rw [Int.toNat_natCast] at hln
    have hr : refN (lebAt l (m : Int)) = n := by rw [h]; rfl
    rw [hr, h]
    simp only
    rw [if_neg (show ¬ (n : Int) = 0 by omega), if_neg (show ¬ (n : Int) > 10 by omega)]
    by_cases c : n < 10
    · rw [if_neg (show ¬ (n : Int) = 10 by omega), if_pos (.inl c)]
      simp only [gangwayref01_ReadSleb.j0, Bool.false_eq_true, if_false]
      rw [rraw_f l m n hm hln hn10 39 (by omega)]
      simp only [Option.bind_some]
      have hlast : rd l ((m + n - 1 : Nat) : Int) < 128 := by
        have h1 : lebAt l (m : Int) = lebGrp (l.drop m) 0 := lebAt_nat (by omega)
        rw [h1] at h
        obtain ⟨k1, k2⟩ := grp_last _ _ _ h
        rw [List.getElem_drop] at k2
        simp only [rd, Int.toNat_natCast]
        rw [List.getD_eq_getElem?_getD, List.getElem?_eq_getElem (by omega)]
        simpa [show m + n - 1 = m + (n - 0 - 1) from by omega] using k2
      have e := sx_ref l m n hb hln hn (by omega) hlast hm
      rw [wrap64_id (n := (m : Int) + n) (by omega) (by omega), wrap64_id (n := (m : Int) + n - 1) (by omega) (by omega), if_pos (show (n : Int) < 10 by omega), if_pos (by omega), if_pos (by omega), show (m : Int) + n - 1 = ((m + n - 1 : Nat) : Int) from by omega, wrap64_id (n := 7 * (n : Int)) (by omega) (by omega), wrap_u64, Int.emod_eq_of_lt (by omega) (by omega), if_pos (show 0 ≤ 7 * (n : Int) by omega), ← e]
      split <;> rfl
    · obtain rfl : n = 10 := by omega
      have e := cut_rd l m 10 9 hln (by omega)
      rw [if_pos (show ((10 : Nat) : Int) = 10 from rfl), wrap64_id (n := (m : Int) + 9) (by omega) (by omega), if_pos (show 0 ≤ (m : Int) + 9 by omega), if_pos (show (m : Int) + 9 < (l.length : Int) by omega)]
      rw [show ((9 : Nat) : Int) = 9 from rfl] at e
      rw [show (m : Int) + 9 = ((m + 9 : Nat) : Int) from by omega, ← e]
      have hs : lebSx (lebJn (lebCut l (m : Int) 10) 0 0) 10 = wrap64 (lebJn (lebCut l (m : Int) 10) 0 0) := if_neg (fun h => absurd h.1 (by decide))
      have go : gangwayref01_ReadSleb.j0 40 l (m : Int) ((10 : Nat) : Int) false = some (lebSx (lebJn (lebCut l (m : Int) 10) 0 0) 10, (m : Int) + ((10 : Nat) : Int), 0) := by
        simp only [gangwayref01_ReadSleb.j0, Bool.false_eq_true, if_false]
        rw [rraw_f l m 10 hm hln (by omega) 39 (by omega)]
        simp only [Option.bind_some]
        rw [if_neg (show ¬ ((10 : Nat) : Int) < 10 by decide), hs, wrap64_id (n := (m : Int) + ((10 : Nat) : Int)) (by omega) (by omega)]
      by_cases c0 : rd (lebCut l (m : Int) 10) 9 = 0
      · rw [if_pos c0, if_pos (.inr (.inl c0)), go]
      · rw [if_neg c0]
        by_cases c1 : rd (lebCut l (m : Int) 10) 9 = 127
        · rw [if_pos (.inr (.inr c1)), show (rd (lebCut l (m : Int) 10) 9 != 127) = false from by simp [c1], go]
        · rw [if_neg (by omega), show (rd (lebCut l (m : Int) 10) 9 != 127) = true from by simp [c1]]
          simp [gangwayref01_ReadSleb.j0]
  · rw [h]
    simp [refN]
  · rw [h]
    simp [refN, gangwayref01_ReadSleb.j0]
end Go.Proofs.Ytfgfnflhdabmcaa.Leb
end
section
namespace Go.Proofs.Ytfgfnflhdabmcaa.Eh
set_option linter.unusedVariables false
set_option linter.unusedSimpArgs false
open Go.RowKit Go.Proofs.Ytfgfnflhdabmcaa.G Go.Proofs.YtfgfnflhdabmcaaW.PrintWords Go.Proofs.YtfgfnflhdabmcaaW.PrintLast Go.Proofs.YtfgfnflhdabmcaaW.PrintMore Go.Proofs.Ytfgfnflhdabmcaa.Bit Go.Proofs.Ytfgfnflhdabmcaa.Leb Go.Proofs.Ytfgfnflhdabmcaa.EhOf
/-- a number that was read, as a pointer: e: an error's number -/
def endS (g : Bool) (q a1 a3 a4 x end_ e : Int) : Int × Int × Int :=
  if e = 0 then (if farB x = true ∨ (g = false ∧ x < 0) then (0, 0, 11) else if farB (wrap64 (x + offV q (wrap64 (a3 + a1)) a4)) = true then (0, 0, 11) else (wrap64 (x + offV q (wrap64 (a3 + a1)) a4), end_, 0)) else (0, 0, e)
theorem end_f (s q a1 a3 a4 x end_ e : Int) (g : Bool) (k : Nat) (hk : 20 ≤ k) : ehframe_Get.j0 k a1 a3 a4 x end_ e q s g = some (endS g q a1 a3 a4 x end_ e) := by
  obtain ⟨k, rfl⟩ : ∃ m, k = m + 2 := ⟨k - 2, by omega⟩
  rw [ehframe_Get.j0]
  unfold endS
  by_cases e0 : e = 0
  · rw [if_pos e0, if_pos e0, near1 x (k + 1) (by omega)]
    simp only [Option.bind_some]
    cases hf : farB x
    · have hr := far_no hf
      simp only [Bool.not_false, if_true, Bool.false_eq_true, false_or]
      have good : ehframe_Get.j1 (k + 1) a1 a3 a4 x end_ q false = some (if farB (wrap64 (x + offV q (wrap64 (a3 + a1)) a4)) = true then (0, 0, 11) else (wrap64 (x + offV q (wrap64 (a3 + a1)) a4), end_, 0)) := by
        rw [ehframe_Get.j1, if_neg (by decide)]
        unfold offV
        by_cases q1 : q = 16
        · rw [if_pos q1, if_pos q1, near1 _ k (by omega)]
          simp only [Option.bind_some]
          cases farB (wrap64 (x + wrap64 (a3 + a1))) <;> rfl
        · rw [if_neg q1, if_neg q1]
          by_cases q2 : q = 48
          · rw [if_pos q2, if_pos q2, near1 _ k (by omega)]
            simp only [Option.bind_some]
            cases farB (wrap64 (x + a4)) <;> rfl
          · rw [if_neg q2, if_neg q2, near1 _ k (by omega), show wrap64 (x + 0) = x from by unfold wrap64; omega, hf]
            rfl
      cases g
      · simp only [if_false, Bool.false_eq_true, true_and]
        by_cases hx : x < 0
        · rw [if_pos hx, decide_eq_true hx, ehframe_Get.j1, if_pos rfl]
        · rw [if_neg hx, decide_eq_false hx]
          exact good
      · simp only [if_true, Bool.true_eq_false, false_and, if_false]
        exact good
    · simp only [Bool.not_true, Bool.false_eq_true, if_false, true_or, if_true]
      rw [ehframe_Get.j1, if_pos rfl]
  · rw [if_neg e0, if_neg e0]
/-- what is read, of a form -/
def readS (s : Int) (g : Bool) (l : List Int) (a1 : Int) : Int × Int × Int :=
  if 0 < s then ((getV l a1 s g).1, wrap64 (a1 + s), (getV l a1 s g).2)
  else ((if g = true then leb_ReadSleb.f l a1 else leb_ReadUleb.f l a1).getD (0, 0, 0))
def getS (s : Int) (g : Bool) (q : Int) (l : List Int) (a1 a3 a4 : Int) : Int × Int × Int :=
  if farB a3 = true ∨ farB a4 = true then (0, 0, 11) else endS g q a1 a3 a4 (readS s g l a1).1 (readS s g l a1).2.1 (readS s g l a1).2.2
theorem readS_some (l : List Int) (a : Int) : ∃ r, leb_ReadSleb.f l a = some r := by exact ⟨_, rfl⟩
theorem readU_some (l : List Int) (a : Int) : ∃ r, leb_ReadUleb.f l a = some r := by exact ⟨_, rfl⟩
theorem prog_get {a2 s q : Int} {g : Bool} (hof : ofF a2 = (s, g, q, true)) (hs : s = 0 ∨ s = 2 ∨ s = 4 ∨ s = 8) (l : List Int) (hl : ∀ b ∈ l, 0 ≤ b ∧ b ≤ 255) (hm : l.length ≤ 9223372036854775807) (a1 a3 a4 : Int) (k : Nat) (hk : 20 ≤ k) :
    ehframe_Get.f k l a1 a2 a3 a4 = some (getS s g q l a1 a3 a4) := by
  unfold ehframe_Get.f getS readS
  rw [show ehframe_of.f a2 = some (s, g, q, true) from congrArg some hof]
  simp only [Option.bind_some, if_true]
  rw [near2 a3 a4 k (by omega)]
  simp only [Option.bind_some]
  by_cases hf : farB a3 = true ∨ farB a4 = true
  · rw [if_pos hf, if_neg (by rcases hf with h | h <;> simp [h])]
  · have hf' : farB a3 = false ∧ farB a4 = false := by
      refine ⟨?_, ?_⟩ <;> (rw [← Bool.not_eq_true]; intro h; exact hf (by simp [h]))
    rw [if_neg hf, if_pos (by simp [hf'.1, hf'.2])]
    by_cases s0 : 0 < s
    · rw [if_pos (show s > 0 from s0), get_f l a1 s g hl hm k (by omega)]
      simp only [Option.bind_some]
      rw [end_f _ _ _ _ _ _ _ _ _ k hk, if_pos s0]
    · rw [if_neg (show ¬ s > 0 from s0), if_neg s0]
      cases g
      · obtain ⟨r, hr⟩ := readU_some l a1
        rw [if_neg (by decide), if_neg (by decide), hr]
        simp only [Option.bind_some, Option.getD_some]
        exact end_f _ _ _ _ _ _ _ _ _ k hk
      · obtain ⟨r, hr⟩ := readS_some l a1
        rw [if_pos rfl, if_pos rfl, hr]
        simp only [Option.bind_some, Option.getD_some]
        exact end_f _ _ _ _ _ _ _ _ _ k hk
theorem rget_k (l : List Int) (a s : Int) (sg : Bool) (hl : ∀ b ∈ l, 0 ≤ b ∧ b ≤ 255) (hm : l.length ≤ 140737488351232) (k : Nat) (hk : 30 ≤ k) : gangwayref01_Get.f k l a s sg = some (getV l a s sg) :=
  at_rounds (g := fun k => gangwayref01_Get.f k l a s sg) (fun k => gangwayref01_Get.mono _ _ _ _ k) hk (rget_f l a s sg hl hm)
theorem rend_f {a2 s q : Int} {g : Bool} (R : RefEnc a2 s q g) (a1 a3 a4 x end_ e : Int) (k : Nat) (hk : 1 ≤ k) : gangwayref14_Get.j1 k a1 a2 a3 a4 (Int.tmod a2 16) x end_ e = some (endS g q a1 a3 a4 x end_ e) := by
  obtain ⟨k, rfl⟩ : ∃ m, k = m + 1 := ⟨k - 1, by omega⟩
  rw [gangwayref14_Get.j1]
  unfold endS
  by_cases e0 : e = 0
  · rw [if_pos e0, if_pos e0, R.plain]
    simp only [Option.bind_some, far_f, R.off]
    cases hf : farB x
    · cases g
      · by_cases hx : x < 0
        · simp [hx]
        · simp only [hx, Bool.not_false, if_true, if_false, Bool.false_eq_true, and_false, or_self]
          cases farB (wrap64 (x + offV q (wrap64 (a3 + a1)) a4)) <;> rfl
      · simp only [Bool.not_true, Bool.false_eq_true, if_false, Bool.true_eq_false, false_and, or_self]
        cases farB (wrap64 (x + offV q (wrap64 (a3 + a1)) a4)) <;> rfl
    · cases g <;> simp
  · rw [if_neg e0, if_neg e0]
theorem ref_get {a2 s q : Int} {g : Bool} (R : RefEnc a2 s q g) (hs : s = 0 ∨ s = 2 ∨ s = 4 ∨ s = 8) (l : List Int) (hl : ∀ b ∈ l, 0 ≤ b ∧ b ≤ 255) (hm : l.length ≤ 140737488351232) (a1 a3 a4 : Int) (k : Nat) (hk : 60 ≤ k) :
    gangwayref14_Get.f k l a1 a2 a3 a4 = some (getS s g q l a1 a3 a4) := by
  obtain ⟨k, rfl⟩ : ∃ m, k = m + 1 := ⟨k - 1, by omega⟩
  have bad : gangwayref14_Get.j0 (k + 1) l a1 a2 a3 a4 true = some (0, 0, 11) := by rw [gangwayref14_Get.j0, if_pos rfl]
  unfold gangwayref14_Get.f getS
  rw [R.enc (k + 1) (by omega)]
  simp only [Option.bind_some, if_true, far_f]
  cases h3 : farB a3
  · simp only [Bool.false_eq_true, if_false, false_or]
    cases h4 : farB a4
    · simp only [Bool.false_eq_true, if_false]
      rw [gangwayref14_Get.j0, if_neg (by decide)]
      unfold readS
      by_cases s0 : 0 < s
      · rw [if_neg (fun e => by have := (R.uleb.1 e).1; omega), if_neg (fun e => by have := (R.sleb.1 e).1; omega), R.bytes k (by omega), R.plain]
        simp only [Option.bind_some, Bool.not_not]
        rw [rget_k l a1 s g hl hm k (by omega)]
        simp only [Option.bind_some]
        rw [rend_f R _ _ _ _ _ _ k (by omega), if_pos s0]
      · have s0' : s = 0 := by omega
        rw [if_neg s0]
        cases g
        · obtain ⟨r, hr⟩ := readU_some l a1
          have hr2 : gangwayref01_ReadUleb.f k l a1 = some r := at_rounds (g := fun k => gangwayref01_ReadUleb.f k l a1) (fun k => gangwayref01_ReadUleb.mono _ _ k) (show 40 ≤ k by omega) ((rreadU_f l a1 hm hl).trans hr)
          rw [if_pos (R.uleb.2 ⟨s0', rfl⟩), hr2, if_neg (by decide), hr]
          simp only [Option.bind_some, Option.getD_some]
          exact rend_f R _ _ _ _ _ _ k (by omega)
        · obtain ⟨r, hr⟩ := readS_some l a1
          have hr2 : gangwayref01_ReadSleb.f k l a1 = some r := at_rounds (g := fun k => gangwayref01_ReadSleb.f k l a1) (fun k => gangwayref01_ReadSleb.mono _ _ k) (show 40 ≤ k by omega) ((rreadS_f l a1 hm hl).trans hr)
          rw [if_neg (fun e => by have := (R.uleb.1 e).2; cases this), if_pos (R.sleb.2 ⟨s0', rfl⟩), hr2, if_pos rfl, hr]
          simp only [Option.bind_some, Option.getD_some]
          exact rend_f R _ _ _ _ _ _ k (by omega)
    · simp only [if_true]
      exact bad
  · simp only [if_true, true_or]
    exact bad
theorem get_same (l : List Int) (hl : ∀ b ∈ l, 0 ≤ b ∧ b ≤ 255) (hm : l.length ≤ 140737488351232) (a1 a2 a3 a4 : Int) (w0 : -9223372036854775808 ≤ a2 ∧ a2 ≤ 9223372036854775807) (k : Nat) (hk : 60 ≤ k) :
    ∃ r, ehframe_Get.f k l a1 a2 a3 a4 = some r ∧ gangwayref14_Get.f k l a1 a2 a3 a4 = some r := by
  by_cases h : a2 ∈ [0, 1, 2, 3, 4, 9, 10, 11, 12, 16, 17, 18, 19, 20, 25, 26, 27, 28, 48, 49, 50, 51, 52, 57, 58, 59, 60]
  · obtain ⟨h1, h2, h3⟩ := enc_ref a2 h
    exact ⟨_, prog_get h1 h2 l hl (by omega) a1 a3 a4 k (by omega), ref_get h3 h2 l hl hm a1 a3 a4 k hk⟩
  · obtain ⟨h1, h2⟩ := enc_bad a2 w0.1 w0.2 h
    refine ⟨(0, 0, 140), ?_, ?_⟩
    · unfold ehframe_Get.f
      rw [show ehframe_of.f a2 = some ((ofF a2).1, (ofF a2).2.1, (ofF a2).2.2.1, false) from congrArg some (by rw [← h1])]
      rfl
    · unfold gangwayref14_Get.f
      rw [h2 k (by omega)]
      rfl
end Go.Proofs.Ytfgfnflhdabmcaa.Eh
end
section
namespace Go.Proofs.Ytfgfnflhdabmcaa.Eh
open Go.RowKit Go.Proofs.Ytfgfnflhdabmcaa.G Go.Proofs.YtfgfnflhdabmcaaW.PrintWords Go.Proofs.YtfgfnflhdabmcaaW.PrintLast Go.Proofs.YtfgfnflhdabmcaaW.PrintMore
theorem live_60 : gangwaylaw14_live.f 60 = some true := by decide +kernel
theorem live_k (k : Nat) (hk : 60 ≤ k) : gangwaylaw14_live.f k = some true := at_rounds (g := fun k => gangwaylaw14_live.f k) (fun k => gangwaylaw14_live.mono k) hk live_60
end Go.Proofs.Ytfgfnflhdabmcaa.Eh
end
section
namespace Go.Proofs.Ytfgfnflhdabmcaa.Pure
set_option linter.unusedVariables false
set_option linter.unusedSimpArgs false
open Go.RowKit Go.Proofs.Ytfgfnflhdabmcaa.G Go.Proofs.Ytfgfnflhdabmcaa.Stmt Go.Proofs.YtfgfnflhdabmcaaW.PrintWords Go.Proofs.YtfgfnflhdabmcaaW.PrintLast Go.Proofs.YtfgfnflhdabmcaaW.PrintMore Go.Proofs.Ytfgfnflhdabmcaa.Bit Go.Proofs.Ytfgfnflhdabmcaa.Leb Go.Proofs.Ytfgfnflhdabmcaa.Eh
theorem int_range {a : Int} (h : (Lit.int .i64 a).wf = true) : -9223372036854775808 ≤ a ∧ a ≤ 9223372036854775807 := by
  simp [Lit.wf, IntKind.min, IntKind.max, IntKind.signed, IntKind.bits] at h
  omega
theorem byte_range {a : Int} (h : (Lit.int .u8 a).wf = true) : 0 ≤ a ∧ a ≤ 255 := by
  simp [Lit.wf, IntKind.min, IntKind.max, IntKind.signed, IntKind.bits] at h
  omega
theorem num_f (x : Int) : gangwaylaw14_num.f x = some x := rfl
theorem EhframePointers : Stmt.EhframePointers := by
  intro a0 l1 a2 w0 w1 w2
  obtain ⟨h0, h1, h2, h3⟩ := w0
  obtain ⟨l0, l9, l2⟩ := w1
  have hl : ∀ b ∈ l1, 0 ≤ b ∧ b ≤ 255 := fun b hb => byte_range (l2 b hb)
  have hm : l1.length ≤ 140737488351232 := by omega
  obtain ⟨r, e1, e2⟩ := put_same a0.f0 a0.f1 a0.f2 a0.f3 (int_range h0) (int_range h1) 60 (by omega)
  obtain ⟨q, e3, e4⟩ := get_same l1 hl hm a2 a0.f0 a0.f2 a0.f3 (int_range h0) 60 (by omega)
  refine ⟨60, ?_⟩
  unfold gangwaylaw14_EhframePointers.f
  rw [e1, e2]
  simp only [Option.bind_some, List.length_nil, Nat.zero_add, List.nil_append]
  rw [if_pos (by omega)]
  try simp only [Option.bind_some]
  rw [e3, e4]
  simp only [Option.bind_some, num_f, if_true]
  rw [live_k 60 (by omega)]
  first | done | rfl
end Go.Proofs.Ytfgfnflhdabmcaa.Pure
end
section
namespace Go.Proofs.Ytfgfnflhdabmcaa.Opening
set_option linter.unusedVariables false
set_option linter.unusedSimpArgs false
open Go.ChangeShapes Go.WideShapes Go.Proofs.YtfgfnflhdabmcaaW.PrintWords
/-- A datum of type t opens as a value of kind d: it is well (wf), and its bulk is at least its weight (wt). -/
structure Opens {α : Type} (P : Program) (t : TypeId) (d : Kd α) (wf : α → Prop) (wt : α → Nat) : Prop where
  cells : P.cellsOf t = d.sz
  op : ∀ {H : Type} {enc : TypeId × Value → H} {w : World} {base : Nat} {spare : Nat → Bool} {held : Bool} {fuel : Nat} {cs : List Value} {x : DataW H × List MemPlace},
    DataW.trod enc P w base spare held fuel t cs = some x → (∀ n ∈ x.1.weights P t, n ≤ 140737488351232) → ∃ a : α, d.K w a cs ∧ wf a ∧ wt a ≤ Rows.uptoBulk x.1
theorem opens_int {P : Program} {t : TypeId} (k : IntKind) (ht : P.underlying t = some (.int k)) (hc : P.cellsOf t = 1) : Opens P t (Kd.int k) (fun a => (Lit.int k a).wf = true) (fun _ => 1) :=
  ⟨hc, fun h _ => by
    obtain ⟨n, rfl, rfl, hw⟩ := DataW.trod_int ht h
    exact ⟨n, rfl, hw, by simp [Rows.uptoBulk]⟩⟩
theorem list_of {α : Type} {p : Nat → α → Prop} : ∀ {n : Nat}, (∀ i, i < n → ∃ a, p i a) → ∃ l : List α, l.length = n ∧ ∀ i (h : i < l.length), p i l[i]
  | 0, _ => ⟨[], rfl, fun i h => absurd h (Nat.not_lt_zero _)⟩
  | n + 1, h => by
    obtain ⟨l, hl, hp⟩ := list_of (n := n) (fun i hi => h i (Nat.lt_succ_of_lt hi))
    obtain ⟨a, ha⟩ := h n (Nat.lt_succ_self n)
    refine ⟨l ++ [a], by simp [hl], fun i hi => ?_⟩
    by_cases hlt : i < l.length
    · rw [List.getElem_append_left hlt]
      exact hp i hlt
    · have e : i = n := by simp at hi; omega
      subst e
      rw [List.getElem_append_right (by omega)]
      simpa [hl] using ha
theorem bulk_all {α H : Type} {wt : α → Nat} : ∀ {l : List α} {ds : List (DataW H)}, l.length ≤ ds.length → (∀ i (h : i < l.length) d, ds[i]? = some d → wt l[i] ≤ Rows.uptoBulk d) → (l.map wt).sum ≤ Rows.uptoBulkAll ds
  | [], _, _, _ => by simp
  | a :: l, [], h, _ => by simp at h
  | a :: l, d :: ds, h, hw => by
    have h0 := hw 0 (by simp) d rfl
    have h1 := bulk_all (l := l) (ds := ds) (by simpa using h) (fun i hi d' hd' => hw (i + 1) (by simpa using hi) d' (by simpa using hd'))
    simp only [List.map_cons, List.sum_cons, Rows.uptoBulkAll]
    simp at h0
    omega
theorem weights_all {H : Type} {P : Program} {e : TypeId} : ∀ {ds : List (DataW H)} {d : DataW H}, d ∈ ds → ∀ n ∈ d.weights P e, n ∈ DataW.weightsAll P e ds
  | d0 :: ds, d, h, n, hn => by
    simp only [DataW.weightsAll, List.mem_append]
    cases List.mem_cons.1 h with
    | inl e => subst e; exact .inl hn
    | inr e => exact .inr (weights_all e n hn)
theorem opens_slice {α : Type} {P : Program} {t e : TypeId} {d : Kd α} {wf : α → Prop} {wt : α → Nat} {b : Nat} (ho : Opens P e d wf wt) (ht : P.underlying t = some (.slice e)) (hc : P.cellsOf t = 1) (hb : P.bytesOf e = b) :
    Opens P t (Kd.slice e d) (fun l => l.length * b ≤ 140737488351232 ∧ l.length ≤ 9223372036854775807 ∧ ∀ a ∈ l, wf a) (fun l => (l.map wt).sum + 1) :=
  ⟨hc, fun {H enc w base spare held fuel cs x} h hz => by
    subst hb
    rcases DataW.trod_slice ht h with ⟨rfl, rfl⟩ | ⟨a, len, cap, elems, rest, n, _, rfl, rfl, hb, hl, hm, hlen, hel, hsp, hns⟩
    · exact ⟨[], ⟨none, 0, rfl, Nat.le_refl _, Kd.C_nil d w⟩, ⟨by simp, by simp, by simp⟩, by simp [Rows.uptoBulk]⟩
    · have hm' : cap ≤ 9223372036854775807 := hm
      have hz1 : (elems.length + rest.length) * P.bytesOf e ≤ 140737488351232 := hz _ (by simp [DataW.weights, ht])
      have hz2 : ∀ y ∈ elems, ∀ n ∈ y.1.weights P e, n ≤ 140737488351232 := fun y hy n hn => hz _ (by
        simp only [DataW.weights, ht, List.mem_cons, List.mem_append]
        exact .inr (.inl (weights_all (List.mem_map.2 ⟨y, hy, rfl⟩) n hn)))
      have each : ∀ i, i < len → ∃ a' : α, (∃ cs' y, w.cells? base (a.add (i * P.cellsOf e)) (P.cellsOf e) = some cs' ∧ d.K w a' cs' ∧ elems[i]? = some y ∧ wt a' ≤ Rows.uptoBulk y.1) ∧ wf a' := fun i hi => by
        have h1 := hel i hi
        rw [List.getElem?_eq_getElem (by omega)] at h1
        obtain ⟨cs', h2, h3⟩ := Option.bind_eq_some_iff.1 h1
        obtain ⟨a', k1, k2, k3⟩ := ho.op h3 (hz2 _ (List.getElem_mem _))
        exact ⟨a', ⟨cs', _, h2, k1, List.getElem?_eq_getElem (by omega), k3⟩, k2⟩
      obtain ⟨l, hl1, hl2⟩ := list_of each
      subst hl1
      refine ⟨l, ⟨some a, cap, rfl, hl, rfl, by omega, fun _ => ⟨a, rfl, fun j p hp => ?_⟩⟩, ⟨?_, by omega, fun a' ha' => ?_⟩, ?_⟩
      · obtain ⟨hj, rfl⟩ := List.getElem?_eq_some_iff.1 hp
        obtain ⟨⟨cs', y, h2, k1, _, _⟩, _⟩ := hl2 j hj
        obtain ⟨_, hcl, hcell⟩ := World.cells?_some h2
        refine ⟨cs', by rw [hcl, ho.cells], k1, fun i u hu => ?_⟩
        have hi : i < P.cellsOf e := by rw [← hcl]; exact (List.getElem?_eq_some_iff.1 hu).1
        have := hcell i hi
        rw [hu, ho.cells] at this
        rw [← this]
        congr 1
        unfold Addr.add
        by_cases hi0 : i = 0 <;> by_cases hj0 : j * d.sz = 0 <;> simp [hi0, hj0, Nat.add_assoc]
      · refine Nat.le_trans (Nat.mul_le_mul_right _ ?_) hz1
        omega
      · obtain ⟨j, hj, rfl⟩ := List.getElem_of_mem ha'
        exact (hl2 j hj).2
      · have := bulk_all (l := l) (ds := elems.map (·.1)) (wt := wt) (by simp; omega) (fun i hi dd hd => by
          obtain ⟨⟨_, y, _, _, hy, hw⟩, _⟩ := hl2 i hi
          rw [List.getElem?_map, hy] at hd
          simp at hd
          subst hd
          exact hw)
        simp only [Rows.uptoBulk]
        omega⟩
/-- The fields from one on, whose cells begin at off. -/
def OpensF {α : Type} (P : Program) (fs : List Field) (off : Nat) (d : Kd α) (wf : α → Prop) (wt : α → Nat) : Prop :=
  (∃ f r, fs = f :: r ∧ f.offset = off) ∧
  ∀ {H : Type} {enc : TypeId × Value → H} {w : World} {base : Nat} {spare : Nat → Bool} {held : Bool} {fuel : Nat} {cs : List Value} {xs : List (DataW H × List MemPlace)},
    cs.length = d.sz → xs.length = fs.length → (∀ (i : Nat) (f : Field), fs[i]? = some f → DataW.trod enc P w base spare held fuel f.type ((cs.drop (f.offset - off)).take (P.cellsOf f.type)) = xs[i]? ∧ off ≤ f.offset) →
    (∀ n ∈ DataW.weightsEach P (fs.map (·.type)) (xs.map (·.1)), n ≤ 140737488351232) → ∃ a : α, d.K w a cs ∧ wf a ∧ wt a ≤ Rows.uptoBulkAll (xs.map (·.1))
theorem opensF_one {α : Type} {P : Program} {f : Field} {off : Nat} {d : Kd α} {wf : α → Prop} {wt : α → Nat} (ho : Opens P f.type d wf wt) (hf : f.offset = off) : OpensF P [f] off d wf wt :=
  ⟨⟨f, [], rfl, hf⟩, fun {H enc w base spare held fuel cs xs} hc hx h hz => by
    match xs, hx with
    | [x], _ =>
      have h1 := (h 0 f rfl).1
      rw [hf, Nat.sub_self, List.drop_zero, ho.cells, List.take_of_length_le (by omega)] at h1
      obtain ⟨a, k1, k2, k3⟩ := ho.op (x := x) (by simpa using h1) (fun n hn => hz n (by simp [DataW.weightsEach, hn]))
      exact ⟨a, k1, k2, by simpa [Rows.uptoBulkAll] using k3⟩⟩
theorem opensF_cons {α β : Type} {P : Program} {f : Field} {fs : List Field} {off : Nat} {a : Kd α} {b : Kd β} {wfa : α → Prop} {wta : α → Nat} {wfb : β → Prop} {wtb : β → Nat} (ho : Opens P f.type a wfa wta) (hf : f.offset = off)
    (hr : OpensF P fs (off + a.sz) b wfb wtb) (hge : ∀ g ∈ fs, off + a.sz ≤ g.offset) : OpensF P (f :: fs) off (Kd.pair a b) (fun x => wfa x.1 ∧ wfb x.2) (fun x => wta x.1 + wtb x.2) :=
  ⟨⟨f, fs, rfl, hf⟩, fun {H enc w base spare held fuel cs xs} hc hx h hz => by
    match xs, hx with
    | x :: xs, hx =>
      have hc' : cs.length = a.sz + b.sz := hc
      have h1 := (h 0 f rfl).1
      rw [hf, Nat.sub_self, List.drop_zero, ho.cells] at h1
      obtain ⟨u, k1, k2, k3⟩ := ho.op (x := x) (by simpa using h1) (fun n hn => hz n (by simp [DataW.weightsEach, hn]))
      obtain ⟨v, j1, j2, j3⟩ := hr.2 (cs := cs.drop a.sz) (xs := xs) (by simp; omega) (by simpa using hx) (fun i g hg => by
        obtain ⟨h2, h3⟩ := h (i + 1) g (by simpa using hg)
        have h4 := hge g (List.mem_of_getElem? hg)
        refine ⟨?_, h4⟩
        rw [List.drop_drop, show a.sz + (g.offset - (off + a.sz)) = g.offset - off from by omega]
        simpa using h2) (fun n hn => hz n (by simp [DataW.weightsEach, hn]))
      refine ⟨(u, v), ⟨cs.take a.sz, cs.drop a.sz, (List.take_append_drop _ _).symm, k1, j1⟩, ⟨k2, j2⟩, ?_⟩
      simp only [List.map_cons, Rows.uptoBulkAll]
      omega⟩
theorem opens_struct {α β : Type} {P : Program} {t : TypeId} {fs : Array Field} {d : Kd α} {wf : α → Prop} {wt : α → Nat} (f : β → α) (g : α → β) (hfg : ∀ a, f (g a) = a) (ht : P.underlying t = some (.struct fs)) (hc : P.cellsOf t = d.sz)
    (ho : OpensF P fs.toList 0 d wf wt) : Opens P t (Kd.iso d f) (fun x => wf (f x)) (fun x => wt (f x) + 1) :=
  ⟨hc, fun {H enc w base spare held fuel cs x} h hz => by
    obtain ⟨xs, n, _, rfl, hl, hxl, hx⟩ := DataW.trod_struct ht h
    obtain ⟨a, k1, k2, k3⟩ := ho.2 (cs := cs) (xs := xs) (by rw [hl, hc]) (by simpa using hxl) (fun i fd hfd => ⟨by
      have := hx i fd (by simpa using hfd)
      simpa using this, Nat.zero_le _⟩) (fun m hm => hz m (by simpa [DataW.weights, ht] using hm))
    refine ⟨g a, ?_, ?_, ?_⟩
    · show d.K w (f (g a)) cs
      rw [hfg]
      exact k1
    · rw [hfg]
      exact k2
    · rw [hfg]
      simp only [Rows.uptoBulk]
      omega⟩
/-- The size of each part, out of the row's own reach. -/
theorem weights_of {H : Type} {P : Program} {ts : List TypeId} {ds : List (DataW H)} (h : (DataW.weightsEach P ts ds).all (· ≤ reachBytes) = true) {j : Nat} {t : TypeId} {d : DataW H} (ht : ts[j]? = some t) (hd : ds[j]? = some d) : ∀ n ∈ d.weights P t, n ≤ 140737488351232 := fun n hn => by
  have := List.all_eq_true.1 h _ (DataW.weights_mem_each ht hd n hn)
  exact of_decide_eq_true this
end Go.Proofs.Ytfgfnflhdabmcaa.Opening
end
