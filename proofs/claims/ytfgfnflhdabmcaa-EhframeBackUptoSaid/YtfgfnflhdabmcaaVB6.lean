/- Lemmas and contracts, one text behind the other: what the row of this claim needs; no conditions beyond those that each theorem names. -/
import Derived.Test.YtfgfnflhdabmcaaRows
import Derived.ChangeArms
import Derived.DataReads
import Derived.SizedLaws
import Derived.Test.YtfgfnflhdabmcaaVB5
set_option linter.unusedVariables false
set_option linter.unusedSimpArgs false
set_option maxRecDepth 100000
section
namespace Go.Proofs.Ytfgfnflhdabmcaa.Leb
open Go.RowKit Go.Proofs.Ytfgfnflhdabmcaa.G Go.Proofs.YtfgfnflhdabmcaaW.PrintWords Go.Proofs.YtfgfnflhdabmcaaW.PrintLast Go.Proofs.YtfgfnflhdabmcaaW.PrintMore Go.Proofs.Ytfgfnflhdabmcaa.Bit
def gN : List Int → Int
  | [] => 0
  | x :: xs => x % 128 + 128 * gN xs
theorem pow128 (i : Nat) : (128 : Int) ^ (i + 1) = 128 * 128 ^ i := by rw [Int.pow_succ, Int.mul_comm]
theorem pow128_pos (i : Nat) : (0 : Int) < 128 ^ i := Int.pow_pos (by decide)
theorem pow128_mono {i j : Nat} (h : i ≤ j) : (128 : Int) ^ i ≤ 128 ^ j := by
  have h2 : ((128 ^ i : Nat) : Int) ≤ ((128 ^ j : Nat) : Int) := Int.ofNat_le.mpr (Nat.pow_le_pow_right (n := 128) (by decide) h)
  rw [Int.natCast_pow, Int.natCast_pow] at h2
  exact h2
theorem two7 (i : Nat) : (2 : Int) ^ (7 * i) = 128 ^ i := by rw [Int.pow_mul]; rfl
theorem lebJn_eq (g : List Int) (hg : ∀ b ∈ g, 0 ≤ b ∧ b ≤ 255) : ∀ (i : Nat) (u : Int), i + g.length ≤ 10 → 0 ≤ u → u < 128 ^ i → u < 18446744073709551616 → lebJn g i u = (u + 128 ^ i * gN g) % 18446744073709551616 := by
  induction g with
  | nil =>
    intro i u _ h0 h1 h2
    simp only [lebJn, gN]
    omega
  | cons x xs ih =>
    intro i u hi h0 h1 h2
    have hx := hg x (by simp)
    simp only [List.length_cons] at hi
    have hp := pow128_pos i
    have hp9 : (128 : Int) ^ i ≤ 9223372036854775808 := by
      have := pow128_mono (show i ≤ 9 by omega)
      exact this
    have hdvd : (128 : Int) ^ i ∣ 18446744073709551616 := by
      have h : (18446744073709551616 : Int) = 2 ^ (7 * i) * 2 ^ (64 - 7 * i) := by
        rw [← Int.pow_add, show 7 * i + (64 - 7 * i) = 64 from by omega]
        rfl
      rw [h, two7]
      exact Int.dvd_mul_right _ _
    have hv : shl .u64 (IntKind.u64.wrap (Go.bits .and .u8 x 127)) (7 * (i : Int)) = (x % 128 * 128 ^ i) % 18446744073709551616 := by
      unfold shl
      rw [b_and127' x hx.1 (by omega), wrap_u64, wrap_u64, show (7 * (i : Int)).toNat = 7 * i from by omega, Nat.min_eq_left (by simp [IntKind.bits]; omega), two7, show x % 128 % 18446744073709551616 = x % 128 from by omega]
    have hv0 : 0 ≤ (x % 128 * 128 ^ i) % 18446744073709551616 := by omega
    have hv1 : (x % 128 * 128 ^ i) % 18446744073709551616 < 18446744073709551616 := by omega
    have hv2 : ((x % 128 * 128 ^ i) % 18446744073709551616) % 128 ^ i = 0 := by
      rw [Int.emod_emod_of_dvd _ hdvd]
      exact Int.mul_emod_left _ _
    have hle : (x % 128 * 128 ^ i) % 18446744073709551616 ≤ x % 128 * 128 ^ i := by
      have hm : 0 ≤ x % 128 * 128 ^ i := Int.mul_nonneg (by omega) (by omega)
      omega
    have hmx : x % 128 * 128 ^ i ≤ 127 * 128 ^ i := Int.mul_le_mul_of_nonneg_right (by omega) (by omega)
    have hor : Go.bits .or .u64 u ((x % 128 * 128 ^ i) % 18446744073709551616) = u + (x % 128 * 128 ^ i) % 18446744073709551616 := by
      refine u64_join u _ (7 * i) h0 ?_ hv0 ?_ hv1 h2
      · rw [two7]; exact h1
      · rw [two7]; exact hv2
    have hsum : u + (x % 128 * 128 ^ i) % 18446744073709551616 < 18446744073709551616 := by
      obtain ⟨q, hq⟩ := Int.dvd_of_emod_eq_zero hv2
      obtain ⟨r, hr⟩ := hdvd
      have h3 : 128 ^ i * q < 128 ^ i * r := by rw [← hq, ← hr]; exact hv1
      have h4 : q < r := Int.lt_of_mul_lt_mul_left h3 (by omega)
      have h5 : 128 ^ i * (q + 1) ≤ 128 ^ i * r := Int.mul_le_mul_of_nonneg_left (by omega) (by omega)
      rw [Int.mul_add, Int.mul_one, ← hq, ← hr] at h5
      omega
    simp only [lebJn]
    rw [hv, hor, ih (fun b hb => hg b (by simp [hb])) (i + 1) _ (by omega) (by omega) (by rw [pow128]; omega) hsum]
    simp only [gN]
    rw [pow128, Int.mul_add, Int.mul_comm (128 ^ i) (x % 128)]
    have e : (128 : Int) ^ i * (128 * gN xs) = 128 * 128 ^ i * gN xs := by rw [Int.mul_comm 128 (128 ^ i), Int.mul_assoc]
    rw [e]
    generalize (128 : Int) * 128 ^ i * gN xs = y
    generalize x % 128 * 128 ^ i = z
    omega
theorem lebJn_val (g : List Int) (hg : ∀ b ∈ g, 0 ≤ b ∧ b ≤ 255) (hl : g.length ≤ 10) : lebJn g 0 0 = gN g % 18446744073709551616 := by
  have := lebJn_eq g hg 0 0 (by omega) (by omega) (by simp) (by omega)
  simpa using this
theorem ulebL_range (u : Nat) : ∀ b ∈ ulebL u, 0 ≤ b ∧ b ≤ 255 := by
  induction u using Nat.strongRecOn with
  | _ u ih =>
    intro b hb
    by_cases h : 127 < u
    · rw [ulebL_big h] at hb
      rcases List.mem_cons.1 hb with rfl | hb
      · omega
      · exact ih (u / 128) (by omega) b hb
    · rw [ulebL_small h] at hb
      simp at hb
      omega
theorem ulebL_gN (u : Nat) : gN (ulebL u) = u := by
  induction u using Nat.strongRecOn with
  | _ u ih =>
    by_cases h : 127 < u
    · rw [ulebL_big h]
      simp only [gN]
      rw [ih (u / 128) (by omega)]
      omega
    · rw [ulebL_small h]
      simp only [gN]
      omega
theorem ulebL_pos (u : Nat) : 0 < (ulebL u).length := by
  by_cases h : 127 < u
  · rw [ulebL_big h]; simp
  · rw [ulebL_small h]; simp
theorem ulebL_le (d : Nat) : ∀ u : Nat, u < 128 ^ (d + 1) → (ulebL u).length ≤ d + 1 := by
  induction d with
  | zero =>
    intro u h
    rw [ulebL_small (by simp at h; omega)]
    simp
  | succ d ih =>
    intro u h
    by_cases c : 127 < u
    · rw [ulebL_big c]
      have := ih (u / 128) (by rw [Nat.pow_succ] at h; omega)
      simp
      omega
    · rw [ulebL_small c]
      simp
theorem ulebL_grp (u : Nat) : ∀ (behind : List Int) (j : Nat), j + (ulebL u).length ≤ 10 → lebGrp (ulebL u ++ behind) j = .inl (j + (ulebL u).length) := by
  induction u using Nat.strongRecOn with
  | _ u ih =>
    intro behind j hj
    by_cases h : 127 < u
    · rw [ulebL_big h] at hj ⊢
      simp only [List.length_cons, List.cons_append, lebGrp] at hj ⊢
      have hp := ulebL_pos (u / 128)
      rw [if_neg (by omega), if_neg (by omega), ih (u / 128) (by omega) behind (j + 1) (by omega)]
      congr 1
      omega
    · rw [ulebL_small h] at hj ⊢
      simp only [List.length_singleton, List.singleton_append, lebGrp] at hj ⊢
      rw [if_neg (by omega), if_pos (by omega)]
theorem slebL_range (m : Nat) : ∀ n : Int, n.natAbs = m → ∀ b ∈ slebL n, 0 ≤ b ∧ b ≤ 255 := by
  induction m using Nat.strongRecOn with
  | _ m ih =>
    intro n hn b hb
    by_cases h : n < -64 ∨ 63 < n
    · rw [slebL_big h] at hb
      rcases List.mem_cons.1 hb with rfl | hb
      · omega
      · exact ih (n / 128).natAbs (by omega) _ rfl b hb
    · rw [slebL_small h] at hb
      simp at hb
      omega
theorem slebL_pos (n : Int) : 0 < (slebL n).length := by
  by_cases h : n < -64 ∨ 63 < n
  · rw [slebL_big h]; simp
  · rw [slebL_small h]; simp
theorem emod_step (n q : Int) (hq : 0 < q) : n % 128 + 128 * ((n / 128) % q) = n % (128 * q) := by
  have h1 := Int.emod_add_mul_ediv n 128
  have h2 := Int.emod_add_mul_ediv (n / 128) q
  have h3 : (0 : Int) ≤ (n / 128) % q := Int.emod_nonneg _ (by omega)
  have h4 : (n / 128) % q < q := Int.emod_lt_of_pos _ hq
  have h5 : n = (n % 128 + 128 * ((n / 128) % q)) + (128 * q) * ((n / 128) / q) := by
    rw [Int.mul_assoc]
    generalize q * (n / 128 / q) = y at *
    omega
  have h6 : 0 ≤ n % 128 + 128 * ((n / 128) % q) ∧ n % 128 + 128 * ((n / 128) % q) < 128 * q := by omega
  generalize n % 128 + 128 * ((n / 128) % q) = z at *
  rw [h5, Int.add_mul_emod_self_left, Int.emod_eq_of_lt h6.1 h6.2]
theorem slebL_gN (m : Nat) : ∀ n : Int, n.natAbs = m → gN (slebL n) = n % 128 ^ (slebL n).length := by
  induction m using Nat.strongRecOn with
  | _ m ih =>
    intro n hn
    by_cases h : n < -64 ∨ 63 < n
    · rw [slebL_big h]
      simp only [gN, List.length_cons, pow128]
      rw [ih (n / 128).natAbs (by omega) _ rfl, ← emod_step n _ (pow128_pos _)]
      omega
    · rw [slebL_small h]
      simp [gN]
theorem slebL_le (d : Nat) : ∀ n : Int, -(64 * 128 ^ d : Int) ≤ n → n < 64 * 128 ^ d → (slebL n).length ≤ d + 1 := by
  induction d with
  | zero =>
    intro n h0 h1
    rw [slebL_small (by simp at h0 h1; omega)]
    simp
  | succ d ih =>
    intro n h0 h1
    by_cases c : n < -64 ∨ 63 < n
    · rw [slebL_big c]
      rw [pow128] at h0 h1
      have := ih (n / 128) (by omega) (by omega)
      simp
      omega
    · rw [slebL_small c]
      simp
theorem slebL_ge (m : Nat) : ∀ n : Int, n.natAbs = m → -(64 * 128 ^ ((slebL n).length - 1) : Int) ≤ n ∧ n < 64 * 128 ^ ((slebL n).length - 1) := by
  induction m using Nat.strongRecOn with
  | _ m ih =>
    intro n hn
    by_cases h : n < -64 ∨ 63 < n
    · rw [slebL_big h]
      have hp := slebL_pos (n / 128)
      have := ih (n / 128).natAbs (by omega) _ rfl
      obtain ⟨q, hq⟩ : ∃ q, (slebL (n / 128)).length = q + 1 := ⟨(slebL (n / 128)).length - 1, by omega⟩
      simp only [List.length_cons, Nat.add_sub_cancel]
      rw [hq] at this ⊢
      rw [Nat.add_sub_cancel] at this
      rw [pow128]
      omega
    · rw [slebL_small h]
      simp
      omega
theorem slebL_grp (m : Nat) : ∀ n : Int, n.natAbs = m → ∀ (behind : List Int) (j : Nat), j + (slebL n).length ≤ 10 → lebGrp (slebL n ++ behind) j = .inl (j + (slebL n).length) := by
  induction m using Nat.strongRecOn with
  | _ m ih =>
    intro n hn behind j hj
    by_cases h : n < -64 ∨ 63 < n
    · rw [slebL_big h] at hj ⊢
      simp only [List.length_cons, List.cons_append, lebGrp] at hj ⊢
      have hp := slebL_pos (n / 128)
      rw [if_neg (by omega), if_neg (by omega), ih (n / 128).natAbs (by omega) _ rfl behind (j + 1) (by omega)]
      congr 1
      omega
    · rw [slebL_small h] at hj ⊢
      simp only [List.length_singleton, List.singleton_append, lebGrp] at hj ⊢
      rw [if_neg (by omega), if_pos (by omega)]
theorem ulebL_last (u : Nat) : rd (ulebL u) (((ulebL u).length - 1 : Nat) : Int) = ((u / 128 ^ ((ulebL u).length - 1) : Nat) : Int) := by
  induction u using Nat.strongRecOn with
  | _ u ih =>
    by_cases h : 127 < u
    · have hp := ulebL_pos (u / 128)
      have := ih (u / 128) (by omega)
      obtain ⟨q, hq⟩ : ∃ q, (ulebL (u / 128)).length = q + 1 := ⟨(ulebL (u / 128)).length - 1, by omega⟩
      rw [ulebL_big h]
      simp only [List.length_cons, Nat.add_sub_cancel]
      rw [hq] at this ⊢
      rw [Nat.add_sub_cancel] at this
      have e : rd (((u % 128 + 128 : Nat) : Int) :: ulebL (u / 128)) ((q + 1 : Nat) : Int) = rd (ulebL (u / 128)) (q : Int) := by simp [rd]
      rw [e, this, Nat.pow_succ, Nat.div_div_eq_div_mul, Nat.mul_comm 128]
    · rw [ulebL_small h]
      simp [rd]
theorem slebL_last (m : Nat) : ∀ n : Int, n.natAbs = m → rd (slebL n) (((slebL n).length - 1 : Nat) : Int) = n / 128 ^ ((slebL n).length - 1) % 128 := by
  induction m using Nat.strongRecOn with
  | _ m ih =>
    intro n hn
    by_cases h : n < -64 ∨ 63 < n
    · have hp := slebL_pos (n / 128)
      have := ih (n / 128).natAbs (by omega) _ rfl
      obtain ⟨q, hq⟩ : ∃ q, (slebL (n / 128)).length = q + 1 := ⟨(slebL (n / 128)).length - 1, by omega⟩
      rw [slebL_big h]
      simp only [List.length_cons, Nat.add_sub_cancel]
      rw [hq] at this ⊢
      rw [Nat.add_sub_cancel] at this
      have e : rd ((n % 128 + 128) :: slebL (n / 128)) ((q + 1 : Nat) : Int) = rd (slebL (n / 128)) (q : Int) := by simp [rd]
      rw [e, this, pow128, Int.ediv_ediv_of_nonneg (by omega)]
    · rw [slebL_small h]
      simp [rd]
theorem lebCut_drop (l : List Int) (a : Nat) (n : Nat) : lebCut l (a : Int) n = (l.drop a).take n := by
  unfold lebCut
  rw [Int.toNat_natCast, List.drop_take]
  congr 1
  omega
theorem lebAt_nat {l : List Int} {a : Nat} (h : a < l.length) : lebAt l (a : Int) = lebGrp (l.drop a) 0 := by
  unfold lebAt
  rw [if_neg (by omega), Int.toNat_natCast]
theorem lebAt_mid {ahead g behind : List Int} {n : Nat} (hg : 0 < g.length) (h : lebGrp (g ++ behind) 0 = .inl n) : lebAt (ahead ++ g ++ behind) (ahead.length : Int) = .inl n := by
  rw [lebAt_nat (by simp; omega), List.append_assoc, List.drop_left]
  exact h
theorem lebCut_mid (ahead g behind : List Int) : lebCut (ahead ++ g ++ behind) (ahead.length : Int) g.length = g := by
  rw [lebCut_drop, List.append_assoc, List.drop_left, List.take_left]
theorem sx_eq (w : Int) (n : Nat) (hn : 0 < n) (hn9 : n ≤ 9) (h0 : 0 ≤ w) (h1 : w < 128 ^ n) : lebSx w n = if 64 * 128 ^ (n - 1) ≤ w then w - 128 ^ n else w := by
  obtain ⟨m, rfl⟩ : ∃ m, n = m + 1 := ⟨n - 1, by omega⟩
  have hp := pow128_pos m
  have hp8 : (128 : Int) ^ m ≤ 72057594037927936 := by
    have := pow128_mono (show m ≤ 8 by omega)
    exact this
  rw [pow128] at h1
  have hpow : (2 : Int) ^ (7 * (m + 1) - 1) = 64 * 128 ^ m := by
    rw [show 7 * (m + 1) - 1 = 6 + 7 * m from by omega, Int.pow_add, two7]
    rfl
  have hshr : shr .u64 w (7 * ((m + 1 : Nat) : Int) - 1) = w / (64 * 128 ^ m) := by
    unfold shr
    rw [show (7 * ((m + 1 : Nat) : Int) - 1).toNat = 7 * (m + 1) - 1 from by omega, Nat.min_eq_left (by simp [IntKind.bits]; omega), hpow]
  have hshl : shl .u64 18446744073709551615 (7 * ((m + 1 : Nat) : Int)) = 18446744073709551616 - 128 * 128 ^ m := by
    unfold shl
    rw [wrap_u64, show (7 * ((m + 1 : Nat) : Int)).toNat = 7 * (m + 1) from by omega, Nat.min_eq_left (by simp [IntKind.bits]; omega), two7, pow128]
    omega
  unfold lebSx
  rw [hshr, hshl, Nat.add_sub_cancel, pow128]
  by_cases c : 64 * 128 ^ m ≤ w
  · have hd : w / (64 * 128 ^ m) = 1 := by
      have l1 : w / (64 * 128 ^ m) < 2 := Int.ediv_lt_of_lt_mul (by omega) (by omega)
      have l2 : 1 ≤ w / (64 * 128 ^ m) := Int.le_ediv_of_mul_le (by omega) (by omega)
      omega
    rw [hd, if_pos c, if_pos ⟨by omega, by decide +kernel⟩]
    have hor : Go.bits .or .u64 w (18446744073709551616 - 128 * 128 ^ m) = w + (18446744073709551616 - 128 * 128 ^ m) := by
      refine u64_join w _ (7 * (m + 1)) h0 ?_ (by omega) ?_ (by omega) (by omega)
      · rw [two7, pow128]; exact h1
      · rw [two7]
        refine Int.emod_eq_zero_of_dvd ?_
        refine Int.dvd_sub ?_ (by rw [pow128]; exact Int.dvd_refl _)
        have h : (18446744073709551616 : Int) = 2 ^ (7 * (m + 1)) * 2 ^ (64 - 7 * (m + 1)) := by
          rw [← Int.pow_add, show 7 * (m + 1) + (64 - 7 * (m + 1)) = 64 from by omega]
          rfl
        rw [h, two7]
        exact Int.dvd_mul_right _ _
    rw [hor, wrap64_eq]
    omega
  · have hd : w / (64 * 128 ^ m) = 0 := Int.ediv_eq_zero_of_lt h0 (by omega)
    rw [hd, if_neg c, if_neg (fun h => absurd h.2 (by decide +kernel)), wrap64_id (by omega) (by omega)]
theorem readU_back (a : Int) (h0 : -9223372036854775808 ≤ a) (h1 : a ≤ 9223372036854775807) (ahead behind : List Int) :
    leb_ReadUleb.f (ahead ++ ulebL (a % 18446744073709551616).toNat ++ behind) (ahead.length : Int) = some (a, ahead.length + ((ulebL (a % 18446744073709551616).toNat).length : Int), 0) := by
  obtain ⟨u, hu⟩ := Int.eq_ofNat_of_zero_le (show 0 ≤ a % 18446744073709551616 by omega)
  rw [hu, Int.toNat_natCast]
  have hu2 : u < 18446744073709551616 := by omega
  have hl : (ulebL u).length ≤ 10 := ulebL_le 9 u (by have : (128 : Nat) ^ (9 + 1) = 1180591620717411303424 := by decide
                                                      omega)
  have hp := ulebL_pos u
  have hat := lebAt_mid (ahead := ahead) (behind := behind) hp (ulebL_grp u behind 0 (by omega))
  rw [Nat.zero_add] at hat
  unfold leb_ReadUleb.f lebReadU
  rw [hat]
  simp only [lebCut_mid]
  have hj : lebJn (ulebL u) 0 0 = u := by
    rw [lebJn_val _ (ulebL_range u) hl, ulebL_gN]
    omega
  have hc : (ulebL u).length < 10 ∨ rd (ulebL u) 9 ≤ 1 := by
    by_cases c : (ulebL u).length < 10
    · exact .inl c
    · refine .inr ?_
      have := ulebL_last u
      rw [show (ulebL u).length - 1 = 9 from by omega, show ((9 : Nat) : Int) = 9 from rfl] at this
      rw [this]
      have : (128 : Nat) ^ 9 = 9223372036854775808 := by decide
      omega
  rw [if_pos hc, hj]
  simp only [Option.some.injEq, Prod.mk.injEq, and_true]
  rw [wrap64_eq]
  omega
theorem readS_back (a : Int) (h0 : -9223372036854775808 ≤ a) (h1 : a ≤ 9223372036854775807) (ahead behind : List Int) :
    leb_ReadSleb.f (ahead ++ slebL a ++ behind) (ahead.length : Int) = some (a, ahead.length + ((slebL a).length : Int), 0) := by
  have h9 : (128 : Int) ^ 9 = 9223372036854775808 := by decide
  have h10 : (128 : Int) ^ 10 = 1180591620717411303424 := by decide
  have hl : (slebL a).length ≤ 10 := slebL_le 9 a (by omega) (by omega)
  have hp := slebL_pos a
  have hge := slebL_ge _ a rfl
  have hat := lebAt_mid (ahead := ahead) (behind := behind) hp (slebL_grp _ a rfl behind 0 (by omega))
  rw [Nat.zero_add] at hat
  unfold leb_ReadSleb.f lebReadS
  rw [hat]
  simp only [lebCut_mid]
  have hj : lebJn (slebL a) 0 0 = a % 128 ^ (slebL a).length % 18446744073709551616 := by
    rw [lebJn_val _ (slebL_range _ a rfl) hl, slebL_gN _ a rfl]
  have hc : (slebL a).length < 10 ∨ rd (slebL a) 9 = 0 ∨ rd (slebL a) 9 = 127 := by
    by_cases c : (slebL a).length < 10
    · exact .inl c
    · refine .inr ?_
      have := slebL_last _ a rfl
      rw [show (slebL a).length - 1 = 9 from by omega, show ((9 : Nat) : Int) = 9 from rfl, h9] at this
      rw [this]
      omega
  have hs : lebSx (lebJn (slebL a) 0 0) (slebL a).length = a := by
    rw [hj]
    by_cases c : (slebL a).length ≤ 9
    · obtain ⟨m, hm⟩ : ∃ m, (slebL a).length = m + 1 := ⟨(slebL a).length - 1, by omega⟩
      rw [hm] at hge c ⊢
      rw [Nat.add_sub_cancel] at hge
      have hpm := pow128_pos m
      have hp8 : (128 : Int) ^ m ≤ 72057594037927936 := by
        have := pow128_mono (show m ≤ 8 by omega)
        exact this
      have e : a % 128 ^ (m + 1) = if a < 0 then a + 128 * 128 ^ m else a := by
        rw [pow128]
        by_cases s : a < 0
        · rw [if_pos s, ← Int.add_emod_right, Int.emod_eq_of_lt (by omega) (by omega)]
        · rw [if_neg s, Int.emod_eq_of_lt (by omega) (by omega)]
      rw [e]
      by_cases s : a < 0
      · rw [if_pos s, Int.emod_eq_of_lt (by omega) (by omega), sx_eq _ _ (by omega) (by omega) (by omega) (by rw [pow128]; omega), Nat.add_sub_cancel, if_pos (by omega), pow128]
        omega
      · rw [if_neg s, Int.emod_eq_of_lt (by omega) (by omega), sx_eq _ _ (by omega) (by omega) (by omega) (by rw [pow128]; omega), Nat.add_sub_cancel, if_neg (by omega)]
    · have e10 : (slebL a).length = 10 := by omega
      rw [e10, h10]
      unfold lebSx
      rw [if_neg (by omega), wrap64_eq]
      omega
  rw [if_pos hc, hs]
end Go.Proofs.Ytfgfnflhdabmcaa.Leb
end
section
namespace Go.Proofs.Ytfgfnflhdabmcaa.EhB
open Go.RowKit Go.Proofs.Ytfgfnflhdabmcaa.G Go.Proofs.YtfgfnflhdabmcaaW.PrintWords Go.Proofs.YtfgfnflhdabmcaaW.PrintLast Go.Proofs.YtfgfnflhdabmcaaW.PrintMore Go.Proofs.Ytfgfnflhdabmcaa.Bit Go.Proofs.Ytfgfnflhdabmcaa.Leb Go.Proofs.Ytfgfnflhdabmcaa.Cfa Go.Proofs.Ytfgfnflhdabmcaa.CfaB Go.Proofs.Ytfgfnflhdabmcaa.CfaRd
theorem uR_at (a : Int) (h0 : -9223372036854775808 ≤ a) (h1 : a ≤ 9223372036854775807) (ahead behind l : List Int) (hl : l = ahead ++ U a ++ behind) (i : Int) (hi : i = ahead.length) : uR l i = some (a, i + (U a).length) := by
  subst hl hi
  unfold uR
  have := readU_back a h0 h1 ahead behind
  rw [show U a = ulebL (a % 18446744073709551616).toNat from rfl, this]
  rfl
theorem sR_at (a : Int) (h0 : -9223372036854775808 ≤ a) (h1 : a ≤ 9223372036854775807) (ahead behind l : List Int) (hl : l = ahead ++ slebL a ++ behind) (i : Int) (hi : i = ahead.length) : sR l i = some (a, i + (slebL a).length) := by
  subst hl hi
  unfold sR
  rw [readS_back a h0 h1 ahead behind]
  rfl
theorem nR_at (s : Nat) (hs : s = 1 ∨ s = 2 ∨ s = 4) (g ahead behind l : List Int) (hg : g.length = s) (hl : l = ahead ++ g ++ behind) (hb : ∀ b ∈ l, 0 ≤ b ∧ b ≤ 255) (hn : ahead.length ≤ 2000000) (hm : l.length ≤ 9223372036854775807) (i : Int) (hi : i = ahead.length) : nR l i s = some (leN g) := by
  subst hi
  have hcut : (l.drop ahead.length).take s = g := by
    rw [hl, List.append_assoc, List.drop_left, ← hg, List.take_left]
  have hr := leN_range g (fun b hb' => hb b (by rw [hl]; simp [hb']))
  have hw : wrap64 (leN g) = leN g := by
    rw [hg] at hr
    rcases hs with rfl | rfl | rfl <;> simp at hr <;> (unfold wrap64; omega)
  have hz : sizedB (s : Int) = true := by rcases hs with rfl | rfl | rfl <;> decide
  have hlen : l.length = ahead.length + s + behind.length := by rw [hl]; simp [hg]; omega
  unfold nR
  rw [if_pos (by omega), get_f l _ _ false hb hm 12 (by omega)]
  unfold getV
  rw [if_pos hz, if_neg (by omega), Int.toNat_natCast, Int.toNat_natCast, hcut]
  unfold sgnV
  simp [hw]
theorem rd_mid (ahead rest l : List Int) (c : Int) (hl : l = ahead ++ c :: rest) : rd l (ahead.length : Int) = c := by
  subst hl
  simp [rd, List.getD]
theorem may0 {k r n : Int} (hk : k = 0 ∨ k = 9 ∨ k = 10) (h : mayF k r n = true) : r = 0 ∧ n = 0 := by
  unfold mayF at h
  rw [if_pos hk] at h
  simpa using h
theorem may13 {k r n : Int} (hk : k = 1 ∨ k = 3) (h : mayF k r n = true) : r = 0 ∧ 0 ≤ n ∧ n ≤ 2147483647 := by
  unfold mayF at h
  rw [if_neg (by omega), if_pos hk] at h
  simpa using h
theorem may2 {r n : Int} (h : mayF 2 r n = true) : 0 ≤ r ∧ r ≤ 16 ∧ 0 ≤ n ∧ n ≤ 2147483647 := by
  unfold mayF at h
  rw [if_neg (by omega), if_neg (by omega), if_pos rfl] at h
  simpa using h
theorem may4 {k r n : Int} (hk : k = 4 ∨ k = 6 ∨ k = 7 ∨ k = 8) (h : mayF k r n = true) : n = 0 ∧ 0 ≤ r ∧ r ≤ 16 := by
  unfold mayF at h
  rw [if_neg (by omega), if_neg (by omega), if_neg (by omega), if_pos hk] at h
  simpa using h
theorem may_kind {k r n : Int} (h : mayF k r n = true) : (k = 0 ∨ k = 9 ∨ k = 10) ∨ (k = 1 ∨ k = 3) ∨ k = 2 ∨ (k = 4 ∨ k = 6 ∨ k = 7 ∨ k = 8) ∨ k = 5 := by
  by_cases h1 : k = 0 ∨ k = 9 ∨ k = 10
  · exact .inl h1
  by_cases h2 : k = 1 ∨ k = 3
  · exact .inr (.inl h2)
  by_cases h3 : k = 2
  · exact .inr (.inr (.inl h3))
  by_cases h4 : k = 4 ∨ k = 6 ∨ k = 7 ∨ k = 8
  · exact .inr (.inr (.inr (.inl h4)))
  by_cases h5 : k = 5
  · exact .inr (.inr (.inr (.inr h5)))
  unfold mayF at h
  rw [if_neg h1, if_neg h2, if_neg h3, if_neg h4, if_neg h5] at h
  cases h
theorem read_op {k r n : Int} (h : mayF k r n = true) (ahead behind l : List Int) (hl : l = ahead ++ opB k r n ++ behind) (hb : ∀ b ∈ l, 0 ≤ b ∧ b ≤ 255) (hn : ahead.length ≤ 1000000) (hm : l.length ≤ 9223372036854775807) :
    opR l (rd l (ahead.length : Int)) ((ahead.length : Int) + 1) = some ((k, r, n), (ahead.length : Int) + (opB k r n).length) := by
  rcases may_kind h with hk | hk | hk | hk | hk
  · obtain ⟨rfl, rfl⟩ := may0 hk h
    rcases hk with rfl | rfl | rfl
    · rw [rd_mid ahead behind l 0 (by rw [hl]; simp [opB])]; simp [opR, opB]
    · rw [rd_mid ahead behind l 10 (by rw [hl]; simp [opB])]; simp [opR, opB]
    · rw [rd_mid ahead behind l 11 (by rw [hl]; simp [opB])]; simp [opR, opB]
  · obtain ⟨rfl, h0, h1⟩ := may13 hk h
    rcases hk with rfl | rfl
    · have ho : opB 1 0 n = advB n := by simp [opB]
      rw [ho] at hl ⊢
      unfold advB at hl ⊢
      by_cases c1 : n < 64
      · rw [if_pos c1] at hl ⊢
        rw [rd_mid ahead behind l ((64 + n) % 256) (by rw [hl]; simp)]
        unfold opR
        rw [if_pos (by omega), show (64 + n) % 256 - 64 = n from by omega]
        rfl
      rw [if_neg c1] at hl ⊢
      by_cases c2 : n < 256
      · rw [if_pos c2] at hl ⊢
        rw [rd_mid ahead ([n % 256] ++ behind) l 2 (by rw [hl]; simp)]
        have e := nR_at 1 (by omega) [n % 256] (ahead ++ [2]) behind l rfl (by rw [hl]; simp) hb (by simp; omega) hm ((ahead.length : Int) + 1) (by simp)
        simp only [leN] at e
        rw [show n % 256 + 256 * 0 = n from by omega] at e
        simp [opR, show nR l ((ahead.length : Int) + 1) 1 = some n from e]
        omega
      rw [if_neg c2] at hl ⊢
      by_cases c3 : n < 65536
      · rw [if_pos c3] at hl ⊢
        rw [rd_mid ahead ([n % 256, n / 256 % 256] ++ behind) l 3 (by rw [hl]; simp)]
        have e := nR_at 2 (by omega) [n % 256, n / 256 % 256] (ahead ++ [3]) behind l rfl (by rw [hl]; simp) hb (by simp; omega) hm ((ahead.length : Int) + 1) (by simp)
        simp only [leN] at e
        rw [show n % 256 + 256 * (n / 256 % 256 + 256 * 0) = n from by omega] at e
        simp [opR, show nR l ((ahead.length : Int) + 1) 2 = some n from e]
        omega
      rw [if_neg c3] at hl ⊢
      rw [rd_mid ahead ([n % 256, n / 256 % 256, n / 65536 % 256, n / 16777216 % 256] ++ behind) l 4 (by rw [hl]; simp)]
      have e := nR_at 4 (by omega) [n % 256, n / 256 % 256, n / 65536 % 256, n / 16777216 % 256] (ahead ++ [4]) behind l rfl (by rw [hl]; simp) hb (by simp; omega) hm ((ahead.length : Int) + 1) (by simp)
      simp only [leN] at e
      rw [show n % 256 + 256 * (n / 256 % 256 + 256 * (n / 65536 % 256 + 256 * (n / 16777216 % 256 + 256 * 0))) = n from by omega] at e
      simp [opR, show nR l ((ahead.length : Int) + 1) 4 = some n from e]
      omega
    · have ho : opB 3 0 n = [14] ++ U n := by simp [opB]
      rw [ho] at hl ⊢
      rw [rd_mid ahead (U n ++ behind) l 14 (by rw [hl]; simp)]
      have e := uR_at n (by omega) (by omega) (ahead ++ [14]) behind l (by rw [hl]; simp) ((ahead.length : Int) + 1) (by simp)
      simp [opR, e]
      omega
  · subst hk
    obtain ⟨h0, h1, h2, h3⟩ := may2 h
    have ho : opB 2 r n = [12] ++ U r ++ U n := by simp [opB]
    rw [ho] at hl ⊢
    rw [rd_mid ahead (U r ++ U n ++ behind) l 12 (by rw [hl]; simp)]
    have e := uR_at r (by omega) (by omega) (ahead ++ [12]) (U n ++ behind) l (by rw [hl]; simp) ((ahead.length : Int) + 1) (by simp)
    have e2 := uR_at n (by omega) (by omega) (ahead ++ [12] ++ U r) behind l (by rw [hl]; simp) ((ahead.length : Int) + 1 + (U r).length) (by simp; omega)
    simp [opR, e, e2]
    omega
  · obtain ⟨rfl, h0, h1⟩ := may4 hk h
    rcases hk with rfl | rfl | rfl | rfl
    · have ho : opB 4 r 0 = [13] ++ U r := by simp [opB]
      rw [ho] at hl ⊢
      rw [rd_mid ahead (U r ++ behind) l 13 (by rw [hl]; simp)]
      have e := uR_at r (by omega) (by omega) (ahead ++ [13]) behind l (by rw [hl]; simp) ((ahead.length : Int) + 1) (by simp)
      simp [opR, e]
      omega
    · have ho : opB 6 r 0 = [(192 + r) % 256] := by simp [opB]
      rw [ho] at hl ⊢
      rw [rd_mid ahead behind l ((192 + r) % 256) (by rw [hl]; simp)]
      unfold opR
      rw [if_neg (by omega), if_neg (by omega), if_pos (by omega), show (192 + r) % 256 - 192 = r from by omega]
      rfl
    · have ho : opB 7 r 0 = [7] ++ U r := by simp [opB]
      rw [ho] at hl ⊢
      rw [rd_mid ahead (U r ++ behind) l 7 (by rw [hl]; simp)]
      have e := uR_at r (by omega) (by omega) (ahead ++ [7]) behind l (by rw [hl]; simp) ((ahead.length : Int) + 1) (by simp)
      simp [opR, e]
      omega
    · have ho : opB 8 r 0 = [8] ++ U r := by simp [opB]
      rw [ho] at hl ⊢
      rw [rd_mid ahead (U r ++ behind) l 8 (by rw [hl]; simp)]
      have e := uR_at r (by omega) (by omega) (ahead ++ [8]) behind l (by rw [hl]; simp) ((ahead.length : Int) + 1) (by simp)
      simp [opR, e]
      omega
  · subst hk
    obtain ⟨m, rfl, h0, h1, h2, h3⟩ := may5 h
    have hd : -(8 * m / 8) = -m := by omega
    by_cases c : 8 * m ≤ 0
    · have ho : opB 5 r (8 * m) = [(128 + r) % 256] ++ U (-m) := by simp [opB, c, hd]
      rw [ho] at hl ⊢
      rw [rd_mid ahead (U (-m) ++ behind) l ((128 + r) % 256) (by rw [hl]; simp)]
      have e := uR_at (-m) (by omega) (by omega) (ahead ++ [(128 + r) % 256]) behind l (by rw [hl]; simp) ((ahead.length : Int) + 1) (by simp)
      unfold opR
      rw [if_neg (by omega), if_pos (by omega), e, Option.bind_some, if_pos (by constructor <;> (show _ ≤ _; simp only; omega))]
      simp
      omega
    · have ho : opB 5 r (8 * m) = [17] ++ U r ++ slebL (-m) := by simp [opB, c, hd]
      rw [ho] at hl ⊢
      rw [rd_mid ahead (U r ++ slebL (-m) ++ behind) l 17 (by rw [hl]; simp)]
      have e := uR_at r (by omega) (by omega) (ahead ++ [17]) (slebL (-m) ++ behind) l (by rw [hl]; simp) ((ahead.length : Int) + 1) (by simp)
      have e2 := sR_at (-m) (by omega) (by omega) (ahead ++ [17] ++ U r) behind l (by rw [hl]; simp) ((ahead.length : Int) + 1 + (U r).length) (by simp; omega)
      simp [opR, e, e2]
      omega
theorem U_range (a : Int) : ∀ b ∈ U a, 0 ≤ b ∧ b ≤ 255 := ulebL_range _
theorem opB_range {k r n : Int} (h : mayF k r n = true) : ∀ b ∈ opB k r n, 0 ≤ b ∧ b ≤ 255 := by
  intro b hb
  unfold opB at hb
  split at hb
  · unfold advB at hb
    repeat' split at hb
    all_goals simp at hb; omega
  repeat' split at hb
  all_goals simp only [List.mem_append, List.mem_singleton] at hb
  all_goals first
    | omega
    | (rcases hb with hb | hb
       · first | omega | (rcases hb with hb | hb
                          · omega
                          · exact U_range _ _ hb)
       · first | exact U_range _ _ hb | exact slebL_range _ _ rfl _ hb)
theorem opB_pos (k r n : Int) : 0 < (opB k r n).length := by
  unfold opB advB
  repeat' split
  all_goals simp
theorem out_grows (t : List (Int × Int × Int)) : ∀ acc B : List Int, outB t acc = (B, 0) → (∃ rest, B = acc ++ rest ∧ t.length ≤ rest.length) ∧ ((∀ b ∈ acc, 0 ≤ b ∧ b ≤ 255) → ∀ b ∈ B, 0 ≤ b ∧ b ≤ 255) ∧ B.length ≤ acc.length + 30 * t.length := by
  induction t with
  | nil =>
    intro acc B h
    obtain rfl := (Prod.mk.inj h).1
    exact ⟨⟨[], by simp, by simp⟩, fun h => h, by simp⟩
  | cons x t ih =>
    obtain ⟨k, r, n⟩ := x
    intro acc B h
    unfold outB at h
    by_cases c : mayF k r n = true
    · rw [if_pos c] at h
      obtain ⟨⟨rest, hr, hl⟩, h2, h3⟩ := ih _ _ h
      have h30 := opB_le c
      have hp := opB_pos k r n
      rw [List.length_append] at h3
      refine ⟨⟨opB k r n ++ rest, by rw [hr]; simp, by simp; omega⟩, fun h' => h2 (fun b hb => ?_), by simp; omega⟩
      rcases List.mem_append.1 hb with hb | hb
      · exact h' b hb
      · exact opB_range c b hb
    · rw [if_neg c] at h
      have := (Prod.mk.inj h).2
      omega
theorem readR_out (B : List Int) (hB : ∀ b ∈ B, 0 ≤ b ∧ b ≤ 255) (hBl : B.length ≤ 1000000) (t : List S105) : ∀ (ahead : List Int) (acc : List S105) (kk : Nat), outB (opl t) ahead = (B, 0) → acc.length + t.length ≤ 4000 → t.length < kk → readR B kk (ahead.length : Int) acc = some (acc ++ t) := by
  induction t with
  | nil =>
    intro ahead acc kk h hl hk
    obtain ⟨kk, rfl⟩ : ∃ m, kk = m + 1 := ⟨kk - 1, by omega⟩
    obtain rfl := (Prod.mk.inj h).1
    rw [readR, if_neg (by omega)]
    simp
  | cons x t ih =>
    intro ahead acc kk h hl hk
    obtain ⟨kk, rfl⟩ : ∃ m, kk = m + 1 := ⟨kk - 1, by omega⟩
    have h2 : (if mayF x.f0 x.f1 x.f2 = true then outB (opl t) (ahead ++ opB x.f0 x.f1 x.f2) else ([], 130)) = (B, 0) := h
    by_cases c : mayF x.f0 x.f1 x.f2 = true
    · rw [if_pos c] at h2
      obtain ⟨⟨rest, hr, -⟩, -, -⟩ := out_grows _ _ _ h2
      have hp := opB_pos x.f0 x.f1 x.f2
      have hlen : B.length = ahead.length + (opB x.f0 x.f1 x.f2).length + rest.length := by rw [hr]; simp; omega
      simp only [List.length_cons] at hl hk
      rw [readR, if_pos (by omega), if_pos (by omega), read_op c ahead rest B hr hB (by omega) (by omega), Option.bind_some]
      have e := ih (ahead ++ opB x.f0 x.f1 x.f2) (acc ++ [x]) kk h2 (by simp; omega) (by omega)
      rw [List.length_append] at e
      simp only
      rw [if_pos ⟨c, by omega⟩, show (⟨x.f0, x.f1, x.f2⟩ : S105) = x from rfl, show (ahead.length : Int) + ((opB x.f0 x.f1 x.f2).length : Int) = ((ahead.length + (opB x.f0 x.f1 x.f2).length : Nat) : Int) from by omega, e]
      simp
    · rw [if_neg c] at h2
      have := (Prod.mk.inj h2).2
      omega
end Go.Proofs.Ytfgfnflhdabmcaa.EhB
end
section
namespace Go.Proofs.Ytfgfnflhdabmcaa.Eh
open Go.RowKit Go.Proofs.Ytfgfnflhdabmcaa.G Go.Proofs.YtfgfnflhdabmcaaW.PrintWords Go.Proofs.YtfgfnflhdabmcaaW.PrintLast Go.Proofs.YtfgfnflhdabmcaaW.PrintMore Go.Proofs.Ytfgfnflhdabmcaa.Bit Go.Proofs.Ytfgfnflhdabmcaa.Leb Go.Proofs.Ytfgfnflhdabmcaa.EhOf
theorem near3 (x y z : Int) (k : Nat) (hk : 4 ≤ k) : ehframe_near.f k [x, y, z] = some (!(farB x || farB y || farB z)) := by
  obtain ⟨k, rfl⟩ : ∃ m, k = m + 4 := ⟨k - 4, by omega⟩
  unfold ehframe_near.f
  have h0 := near_step [x, y, z] 0 (by simp) (by simp) (k + 3)
  have h1 := near_step [x, y, z] 1 (by simp) (by simp) (k + 2)
  have h2 := near_step [x, y, z] 2 (by simp) (by simp) (k + 1)
  have h3 := near_end [x, y, z] k
  rw [show ((0 : Nat) : Int) = 0 from rfl, show rd [x, y, z] 0 = x from rfl] at h0
  rw [show rd [x, y, z] ((1 : Nat) : Int) = y from rfl] at h1
  rw [show rd [x, y, z] ((2 : Nat) : Int) = z from rfl] at h2
  rw [h0]
  cases hx : farB x
  · refine h1.trans ?_
    cases hy : farB y
    · refine h2.trans ?_
      cases hz : farB z
      · exact h3
      · rfl
    · rfl
  · rfl
def offV (q at_ data : Int) : Int := if q = 16 then at_ else if q = 48 then data else 0
def fitsV (x s : Int) (g : Bool) : Bool :=
  if s = 2 then (if g = true then decide (-32768 ≤ x ∧ x < 32768) else decide (0 ≤ x ∧ x < 65536))
  else if s = 4 then (if g = true then decide (-2147483648 ≤ x ∧ x < 2147483648) else decide (0 ≤ x ∧ x < 4294967296))
  else if g = true then true else decide (0 ≤ x)
theorem sh15 : shl .i64 1 15 = 32768 := by decide +kernel
theorem sh31 : shl .i64 1 31 = 2147483648 := by decide +kernel
theorem sh16 : shl .i64 1 16 = 65536 := by decide +kernel
theorem sh32 : shl .i64 1 32 = 4294967296 := by decide +kernel
theorem sn15 : shl .i64 (-1) 15 = -32768 := by decide +kernel
theorem sn31 : shl .i64 (-1) 31 = -2147483648 := by decide +kernel
theorem dec_ite (x a b : Int) : (if x ≥ a then some (decide (x < b)) else some false) = some (decide (a ≤ x ∧ x < b)) := by
  by_cases h : x ≥ a
  · rw [if_pos h]; congr 1; simp; omega
  · rw [if_neg h]; congr 1; simp; omega
theorem dec_ite' (x b : Int) : (if x < 0 then some false else some (decide (x < b))) = some (decide (0 ≤ x ∧ x < b)) := by
  by_cases h : x < 0
  · rw [if_pos h]; congr 1; simp; omega
  · rw [if_neg h]; congr 1; simp; omega
theorem dec_ite3 (x : Int) : (if x < 0 then some false else some true) = some (decide (0 ≤ x)) := by
  by_cases h : x < 0
  · rw [if_pos h]; congr 1; simp; omega
  · rw [if_neg h]; congr 1; simp; omega
theorem fits_f (x s : Int) (g : Bool) (hs : s = 2 ∨ s = 4 ∨ s = 8) (k : Nat) (hk : 1 ≤ k) : leb_Fits.f k x (wrap64 (8 * s)) g = some (fitsV x s g) := by
  obtain ⟨k, rfl⟩ : ∃ m, k = m + 1 := ⟨k - 1, by omega⟩
  have w15 : wrap64 (16 - 1) = 15 := by decide +kernel
  have w31 : wrap64 (32 - 1) = 31 := by decide +kernel
  have e2 : wrap64 (8 * 2) = 16 := by decide +kernel
  have e4 : wrap64 (8 * 4) = 32 := by decide +kernel
  have e8 : wrap64 (8 * 8) = 64 := by decide +kernel
  unfold leb_Fits.f
  rcases hs with rfl | rfl | rfl
  · rw [e2, if_neg (by decide), leb_Fits.j0, if_neg (by decide)]
    cases g
    · rw [if_neg (by decide), if_neg (show ¬ (16 : Int) ≥ 63 by decide), if_pos (show (0 : Int) ≤ 16 by decide), sh16]
      exact dec_ite' x _
    · rw [if_pos rfl, if_neg (by decide), w15, if_pos (by decide), sn15, sh15]
      exact dec_ite x _ _
  · rw [e4, if_neg (by decide), leb_Fits.j0, if_neg (by decide)]
    cases g
    · rw [if_neg (by decide), if_neg (show ¬ (32 : Int) ≥ 63 by decide), if_pos (show (0 : Int) ≤ 32 by decide), sh32]
      exact dec_ite' x _
    · rw [if_pos rfl, if_neg (by decide), w31, if_pos (by decide), sn31, sh31]
      exact dec_ite x _ _
  · rw [e8, if_neg (by decide), leb_Fits.j0, if_neg (by decide)]
    cases g
    · rw [if_neg (by decide), if_pos (show (64 : Int) ≥ 63 by decide)]
      exact dec_ite3 x
    · rw [if_pos rfl, if_pos (by decide)]
      rfl
def tailS (s : Int) (g : Bool) (x : Int) : List Int × Int :=
  if farB x = true ∨ (g = false ∧ x < 0) then ([], 11)
  else if s = 0 then (if g = true then (slebL x, 0) else (ulebL (x % 18446744073709551616).toNat, 0))
  else if fitsV x s g = true then (leB (x % 18446744073709551616) s.toNat, 0) else ([], 11)
def putS (s : Int) (g : Bool) (q v at_ data : Int) : List Int × Int :=
  if farB v = true ∨ farB at_ = true ∨ farB data = true then ([], 11) else tailS s g (wrap64 (v - offV q at_ data))
theorem leB_take (n : Nat) : ∀ (m : Nat) (u : Int), n ≤ m → (leB u m).take n = leB u n := by
  induction n with
  | zero => intro m u _; simp [leB]
  | succ n ih =>
    intro m u h
    obtain ⟨m, rfl⟩ : ∃ j, m = j + 1 := ⟨m - 1, by omega⟩
    simp only [leB, List.take_succ_cons]
    rw [ih m _ (by omega)]
theorem tail_f (s : Int) (g : Bool) (x : Int) (hs : s = 0 ∨ s = 2 ∨ s = 4 ∨ s = 8) (k : Nat) (hk : 20 ≤ k) : ehframe_Put.j0 k x s g = some (tailS s g x) := by
  obtain ⟨k, rfl⟩ : ∃ m, k = m + 3 := ⟨k - 3, by omega⟩
  unfold tailS
  rw [ehframe_Put.j0, near1 x (k + 2) (by omega)]
  simp only [Option.bind_some]
  cases hf : farB x
  · simp only [Bool.not_false, if_true, false_or]
    have hr := far_no hf
    have hb : ∀ b : Bool, b = false → ehframe_Put.j1 (k + 2) x b s g = if s = 0 then (if g = true then some (slebL x, 0) else some (ulebL (x % 18446744073709551616).toNat, 0)) else if fitsV x s g = true then some (leB (x % 18446744073709551616) s.toNat, 0) else some ([], 11) := by
      intro b hb
      subst hb
      rw [ehframe_Put.j1, if_neg (by decide)]
      by_cases s0 : s = 0
      · rw [if_pos s0, if_pos s0, ehframe_Put.j2]
        cases g
        · rw [if_neg (by decide), if_pos s0, uleb_f x k (by omega)]
          rfl
        · rw [if_pos rfl, sleb_f x (by omega) (by omega) k (by omega)]
          rfl
      · have hs' : s = 2 ∨ s = 4 ∨ s = 8 := by omega
        rw [if_neg s0, if_neg s0, ehframe_Put.j2, if_neg (by decide), if_neg s0, fits_f x s g hs' k (by omega)]
        simp only [Option.bind_some]
        cases hfi : fitsV x s g
        · rfl
        · rw [if_pos rfl, if_pos rfl, put_f x 8 k (by omega), show putV x 8 = (leB (x % 18446744073709551616) 8, 0) from by simp [putV, sizedB]]
          simp only [Option.bind_some]
          rw [if_pos (by omega), if_pos (by rw [leB_length]; omega), leB_take _ _ _ (by omega)]
    cases g
    · simp only [Bool.false_eq_true, if_false, true_and, false_or]
      by_cases hx : x < 0
      · rw [if_pos hx, decide_eq_true hx, ehframe_Put.j1, if_pos rfl]
      · rw [if_neg hx, decide_eq_false hx, hb false rfl]
        simp only [Bool.false_eq_true, if_false]
        split
        · rfl
        · split <;> rfl
    · simp only [if_true, Bool.true_eq_false, false_and, if_false]
      rw [hb false rfl]
      simp only [if_true]
      split
      · rfl
      · split <;> rfl
  · simp only [Bool.not_true, Bool.false_eq_true, if_false, true_or, if_true]
    rw [ehframe_Put.j1, if_pos rfl]
theorem prog_put {a0 s q : Int} {g : Bool} (hof : ofF a0 = (s, g, q, true)) (hs : s = 0 ∨ s = 2 ∨ s = 4 ∨ s = 8) (v at_ data : Int) (hv : -9223372036854775808 ≤ v ∧ v ≤ 9223372036854775807) (k : Nat) (hk : 20 ≤ k) :
    ehframe_Put.f k a0 v at_ data = some (putS s g q v at_ data) := by
  unfold ehframe_Put.f putS
  rw [show ehframe_of.f a0 = some (s, g, q, true) from congrArg some hof]
  simp only [Option.bind_some, if_true]
  rw [near3 v at_ data k (by omega)]
  simp only [Option.bind_some]
  by_cases hf : farB v = true ∨ farB at_ = true ∨ farB data = true
  · rw [if_pos hf, if_neg (by rcases hf with h | h | h <;> simp [h])]
  · have hf' : farB v = false ∧ farB at_ = false ∧ farB data = false := by
      refine ⟨?_, ?_, ?_⟩ <;> (rw [← Bool.not_eq_true]; intro h; exact hf (by simp [h]))
    rw [if_neg hf, if_pos (by simp [hf'.1, hf'.2.1, hf'.2.2])]
    unfold offV
    by_cases q1 : q = 16
    · rw [if_pos q1, if_pos q1, tail_f s g _ hs k hk]
    · rw [if_neg q1, if_neg q1]
      by_cases q2 : q = 48
      · rw [if_pos q2, if_pos q2, tail_f s g _ hs k hk]
      · rw [if_neg q2, if_neg q2, tail_f s g _ hs k hk, show wrap64 (v - 0) = v from by unfold wrap64; omega]
theorem enc_good (a0 : Int) (h : ∃ s q g, ofF a0 = (s, g, q, true)) : a0 ∈ [0, 1, 2, 3, 4, 9, 10, 11, 12, 16, 17, 18, 19, 20, 25, 26, 27, 28, 48, 49, 50, 51, 52, 57, 58, 59, 60] := by
  obtain ⟨s, q, g, h⟩ := h
  unfold ofF at h
  split at h
  · cases h
  · split at h
    · cases h
    · rename_i h1 h2
      have h3 := congrArg (fun p => p.2.2.2) h
      simp only at h3
      unfold formOf at h3
      simp only [List.mem_cons, List.not_mem_nil, or_false]
      have hm : a0 % 16 = 0 ∨ a0 % 16 = 1 ∨ a0 % 16 = 2 ∨ a0 % 16 = 3 ∨ a0 % 16 = 4 ∨ a0 % 16 = 9 ∨ a0 % 16 = 10 ∨ a0 % 16 = 11 ∨ a0 % 16 = 12 := by
        repeat' split at h3
        all_goals (first | omega | cases h3)
      omega
theorem enc_size (a0 : Int) (h : a0 ∈ [0, 1, 2, 3, 4, 9, 10, 11, 12, 16, 17, 18, 19, 20, 25, 26, 27, 28, 48, 49, 50, 51, 52, 57, 58, 59, 60]) : ofF a0 = ((ofF a0).1, (ofF a0).2.1, (ofF a0).2.2.1, true) ∧ ((ofF a0).1 = 0 ∨ (ofF a0).1 = 2 ∨ (ofF a0).1 = 4 ∨ (ofF a0).1 = 8) ∧ (wrap64 (wrap64 (Int.tdiv a0 16) * 16) = (ofF a0).2.2.1) := by
  simp only [List.mem_cons, List.not_mem_nil, or_false] at h
  rcases h with rfl | rfl | rfl | rfl | rfl | rfl | rfl | rfl | rfl | rfl | rfl | rfl | rfl | rfl | rfl | rfl | rfl | rfl | rfl | rfl | rfl | rfl | rfl | rfl | rfl | rfl | rfl
  all_goals exact ⟨by decide +kernel, by decide +kernel, by decide +kernel⟩
end Go.Proofs.Ytfgfnflhdabmcaa.Eh
end
section
namespace Go.Proofs.Ytfgfnflhdabmcaa.Eh
set_option linter.unusedSectionVars false
open Go.RowKit Go.Proofs.Ytfgfnflhdabmcaa.G Go.Proofs.YtfgfnflhdabmcaaW.PrintWords Go.Proofs.YtfgfnflhdabmcaaW.PrintLast Go.Proofs.YtfgfnflhdabmcaaW.PrintMore Go.Proofs.Ytfgfnflhdabmcaa.Bit Go.Proofs.Ytfgfnflhdabmcaa.Leb Go.Proofs.Ytfgfnflhdabmcaa.EhOf
theorem check_k (c : List S69) (f : List S46) (k : Nat) (hk : 3 * c.length + 3 * f.length + 40 ≤ k) : ehframe_Check.f k c f = some (checkV c f) := rfl
theorem check_good {c : List S69} {f : List S46} (h : checkV c f = 0) : c.length ≤ 4000 ∧ f.length ≤ 4000 ∧ (∀ x ∈ c, okC0 x = true) ∧ (∀ y ∈ f, okF0 y = true) ∧ (∀ x ∈ c, okC1 x = true) ∧ (∀ y ∈ f, okF1 c.length y = true) ∧ (∀ x ∈ c, okC2 x = true) ∧ (∀ y ∈ f, okF2 c y = true) := by
  unfold checkV at h
  split at h
  · cases h
  split at h
  · cases h
  split at h
  · cases h
  split at h
  · cases h
  split at h
  · cases h
  split at h
  · cases h
  split at h
  · cases h
  rename_i h0 h1 h2 h3 h4 h5 h6
  rw [Bool.not_eq_false] at h1 h2 h3 h4 h5 h6
  exact ⟨by omega, by omega, List.all_eq_true.1 h1, List.all_eq_true.1 h2, List.all_eq_true.1 h3, List.all_eq_true.1 h4, List.all_eq_true.1 h5, List.all_eq_true.1 h6⟩
end Go.Proofs.Ytfgfnflhdabmcaa.Eh
end
section
namespace Go.Proofs.Ytfgfnflhdabmcaa.Eh
open Go.RowKit Go.Proofs.Ytfgfnflhdabmcaa.G Go.Proofs.YtfgfnflhdabmcaaW.PrintWords Go.Proofs.YtfgfnflhdabmcaaW.PrintLast Go.Proofs.YtfgfnflhdabmcaaW.PrintMore Go.Proofs.Ytfgfnflhdabmcaa.Bit Go.Proofs.Ytfgfnflhdabmcaa.Leb Go.Proofs.Ytfgfnflhdabmcaa.EhOf
def wB (l : List S105) : List Int := (CfaB.writeV (Cfa.opl l)).1
theorem outB_le (l : List (Int × Int × Int)) : ∀ acc, (CfaB.outB l acc).1.length ≤ acc.length + 30 * l.length := by
  induction l with
  | nil => intro acc; simp [CfaB.outB]
  | cons o l ih =>
    intro acc
    obtain ⟨ok, or_, on⟩ := o
    simp only [CfaB.outB, List.length_cons]
    split
    · rename_i h
      have := ih (acc ++ CfaB.opB ok or_ on)
      have h2 := CfaB.opB_le h
      simp only [List.length_append] at this
      omega
    · simp
theorem wB_le {l : List S105} (h : l.length ≤ 4000) : (wB l).length ≤ 120000 := by
  unfold wB CfaB.writeV
  split
  · simp
  · have := outB_le (Cfa.opl l) []
    rw [Cfa.opl_length] at this
    simp only [List.length_nil, Nat.zero_add] at this
    omega
theorem write_at (l : List S105) (h : l.length ≤ 4000) (k : Nat) (hk : 5000 ≤ k) : ∃ e, cfa_Write.f k l = some (wB l, e) := ⟨(CfaB.writeV (Cfa.opl l)).2, CfaB.write_f l k (by omega)⟩
def low4 (n : Int) : List Int := leB (n % 18446744073709551616) 4
theorem low4_length (n : Int) : (low4 n).length = 4 := leB_length 4 _
theorem low_k (n : Int) (k : Nat) (hk : 9 ≤ k) : ehframe_low.f k n = some (low4 n) := by
  unfold ehframe_low.f low4
  rw [put_f n 8 k hk, show putV n 8 = (leB (n % 18446744073709551616) 8, 0) from by simp [putV, sizedB]]
  simp only [Option.bind_some]
  rw [if_pos (by rw [leB_length]; omega), show ((4 : Int).toNat) = 4 from rfl, leB_take 4 8 _ (by omega)]
def lack (n : Nat) : Nat := (12 - n % 8) % 8
def recB (b : List Int) : List Int := low4 ((b.length + lack b.length : Nat) : Int) ++ (b ++ List.replicate (lack b.length) 0)
theorem recB_length (b : List Int) : (recB b).length ≤ b.length + 11 := by
  unfold recB
  rw [List.length_append, low4_length, List.length_append, List.length_replicate]
  unfold lack
  omega
theorem record_l0 (d : Nat) : ∀ (k : Nat) (b : List Int), lack b.length = d → b.length ≤ 1000000 - d → d ≤ 8 → 20 ≤ k → ehframe_record.l0 (k + d + 1) b = some (low4 ((b.length + d : Nat) : Int) ++ (b ++ List.replicate d 0)) := by
  induction d with
  | zero =>
    intro k b h hb _ hk
    rw [show k + 0 + 1 = k + 1 from rfl, ehframe_record.l0, if_pos (by unfold lack at h; omega), low_k _ k (by omega)]
    simp only [Option.bind_some]
    rw [if_pos (by rw [low4_length]; omega)]
    simp
  | succ d ih =>
    intro k b h hb hd hk
    rw [show k + (d + 1) + 1 = (k + d + 1) + 1 from rfl, ehframe_record.l0, if_neg (by unfold lack at h; omega), if_pos (by omega)]
    have e := ih k (b ++ [0]) (by simp only [List.length_append, List.length_singleton]; unfold lack at h ⊢; omega) (by simp; omega) (by omega) hk
    rw [e]
    simp only [List.length_append, List.length_singleton, List.append_assoc, List.singleton_append]
    rw [show b.length + 1 + d = b.length + (d + 1) from by omega, List.replicate_succ]
theorem record_k (b : List Int) (hb : b.length ≤ 900000) (k : Nat) (hk : 40 ≤ k) : ehframe_record.f k b = some (recB b) := by
  unfold ehframe_record.f recB
  have hl : lack b.length < 8 := by unfold lack; omega
  obtain ⟨m, rfl⟩ : ∃ m, k = m + lack b.length + 1 := ⟨k - lack b.length - 1, by omega⟩
  exact record_l0 (lack b.length) m b rfl (by omega) (by omega) (by omega)
def pV (a0 v at_ : Int) : List Int × Int := if (ofF a0).2.2.2 = true then putS (ofF a0).1 (ofF a0).2.1 (ofF a0).2.2.1 v at_ 0 else ([], 140)
theorem ofF_size {a0 : Int} (h : (ofF a0).2.2.2 = true) : ofF a0 = ((ofF a0).1, (ofF a0).2.1, (ofF a0).2.2.1, true) ∧ ((ofF a0).1 = 0 ∨ (ofF a0).1 = 2 ∨ (ofF a0).1 = 4 ∨ (ofF a0).1 = 8) := by
  have h1 := enc_good a0 ⟨(ofF a0).1, (ofF a0).2.2.1, (ofF a0).2.1, by rw [← h]⟩
  exact ⟨(enc_size a0 h1).1, (enc_size a0 h1).2.1⟩
theorem put_k (a0 v at_ : Int) (hv : -9223372036854775808 ≤ v ∧ v ≤ 9223372036854775807) (k : Nat) (hk : 20 ≤ k) : ehframe_Put.f k a0 v at_ 0 = some (pV a0 v at_) := by
  unfold pV
  by_cases h : (ofF a0).2.2.2 = true
  · rw [if_pos h]
    exact prog_put (ofF_size h).1 (ofF_size h).2 v at_ 0 hv k hk
  · rw [if_neg h]
    rw [Bool.not_eq_true] at h
    unfold ehframe_Put.f
    rw [show ehframe_of.f a0 = some ((ofF a0).1, (ofF a0).2.1, (ofF a0).2.2.1, false) from congrArg some (by rw [← h])]
    rfl
theorem tailS_le (s : Int) (g : Bool) (x : Int) (hs : s = 0 ∨ s = 2 ∨ s = 4 ∨ s = 8) : (tailS s g x).1.length ≤ 10 := by
  unfold tailS
  split
  · simp
  rename_i hx
  have hf : farB x = false := by rw [← Bool.not_eq_true]; intro h; exact hx (.inl h)
  have hr := far_no hf
  split
  · split
    · exact CfaB.S_le (by omega) (by omega)
    · exact CfaB.U_le x
  · split
    · show (leB _ _).length ≤ 10
      rw [leB_length]; omega
    · simp
theorem pV_le (a0 v at_ : Int) : (pV a0 v at_).1.length ≤ 10 := by
  unfold pV
  split
  · rename_i h
    unfold putS
    split
    · simp
    · exact tailS_le _ _ _ (ofF_size h).2
  · simp
def e15 (a : Int) : Int := Go.bits .and .i64 a 15
def headB (enc : Int) : List Int := [0, 0, 0, 0, 1, 122, 82, 0, 1, 120, 16, 1, enc % 256]
def fdeB (n : Nat) (first : Int) (p q : List Int) (ops : List S105) : List Int := recB (low4 (wrap64 (wrap64 ((n : Int) + 4) - first)) ++ p ++ q ++ [0] ++ wB ops)
def inV (ci first enc a2 : Int) : List S46 → Nat → List Int → List Int → Option (List Int × List Int)
  | [], _, b, at_ => some (b, at_)
  | y :: l, i, b, at_ =>
    if y.f0 = ci then
      if (pV enc y.f1 (wrap64 (wrap64 (a2 + (b.length : Int)) + 8))).2 = 0 then
        if (pV (e15 enc) y.f2 0).2 = 0 then inV ci first enc a2 l (i + 1) (b ++ fdeB b.length first (pV enc y.f1 (wrap64 (wrap64 (a2 + (b.length : Int)) + 8))).1 (pV (e15 enc) y.f2 0).1 y.f3) (at_.set i (b.length : Int))
        else none
      else none
    else inV ci first enc a2 l (i + 1) b at_
def outV (fs : List S46) (a2 : Int) : List S69 → Nat → List Int → List Int → Option (List Int × List Int)
  | [], _, b, at_ => some (b, at_)
  | x :: l, ci, b, at_ => (inV (ci : Int) (b.length : Int) x.f0 a2 fs 0 (b ++ recB (headB x.f0 ++ wB x.f1)) at_).bind fun r => outV fs a2 l (ci + 1) r.1 r.2
theorem fde_le (n : Nat) (first : Int) (p q : List Int) (ops : List S105) (hp : p.length ≤ 10) (hq : q.length ≤ 10) (ho : ops.length ≤ 4000) : (fdeB n first p q ops).length ≤ 130000 := by
  have h1 := recB_length (low4 (wrap64 (wrap64 ((n : Int) + 4) - first)) ++ p ++ q ++ [0] ++ wB ops)
  have h2 := wB_le ho
  simp only [List.length_append, low4_length, List.length_singleton] at h1
  unfold fdeB
  omega
structure OkF (y : S46) : Prop where
  ops : y.f3.length ≤ 4000
  b : -9223372036854775808 ≤ y.f1 ∧ y.f1 ≤ 9223372036854775807
  s : -9223372036854775808 ≤ y.f2 ∧ y.f2 ≤ 9223372036854775807
theorem in_l1 (fs : List S46) (hn : fs.length ≤ 4000) (hok : ∀ y ∈ fs, OkF y) (a2 : Int) (e : Bool) (ci first : Int) (c : List S69) (cn cj enc : Int) (ops : List S105) (d : Nat) :
    ∀ (k i : Nat) (b at_ : List Int), i + d = fs.length → at_.length = fs.length → b.length + 130000 * d ≤ 100000000000000 → 5000 ≤ k →
      ehframe_Write.l1 (k + d + 1) fs a2 e b at_ ci first c cn cj fs (fs.length : Int) (i : Int) enc ops = match inV ci first enc a2 (fs.drop i) i b at_ with
        | none => some ([], [], 11)
        | some r => ehframe_Write.l0 k fs a2 e r.1 r.2 c cn (wrap64 (cj + 1)) := by
  induction d with
  | zero =>
    intro k i b at_ h _ _ hk
    rw [show k + 0 + 1 = k + 1 from rfl, ehframe_Write.l1, if_neg (by omega), List.drop_of_length_le (by omega)]
    rfl
  | succ d ih =>
    intro k i b at_ h ha hb hk
    have hi : i < fs.length := by omega
    have hy := atF fs i hi
    have hm : rd_T46 fs (i : Int) ∈ fs := List.mem_of_mem_drop (by rw [hy]; exact List.mem_cons_self)
    obtain ⟨o1, o2, o3⟩ := hok _ hm
    rw [show k + (d + 1) + 1 = (k + d + 1) + 1 from rfl, ehframe_Write.l1, if_pos (by omega), if_pos (by omega), if_pos (by omega), hy]
    generalize rd_T46 fs (i : Int) = y at o1 o2 o3
    simp only [inV]
    by_cases hci : y.f0 = ci
    · rw [if_pos hci, if_pos hci, if_pos (by omega), low_k _ _ (by omega)]
      simp only [Option.bind_some]
      rw [put_k enc y.f1 _ o2 _ (by omega)]
      simp only [Option.bind_some]
      have hp := pV_le enc y.f1 (wrap64 (wrap64 (a2 + (b.length : Int)) + 8))
      generalize pV enc y.f1 (wrap64 (wrap64 (a2 + (b.length : Int)) + 8)) = p at hp
      by_cases hp0 : p.2 = 0
      · rw [if_pos hp0, if_pos hp0, put_k _ y.f2 0 o3 _ (by omega)]
        simp only [Option.bind_some]
        rw [show Go.bits .and .i64 enc 15 = e15 enc from rfl]
        have hq := pV_le (e15 enc) y.f2 0
        generalize pV (e15 enc) y.f2 0 = q at hq
        by_cases hq0 : q.2 = 0
        · obtain ⟨er, hw⟩ := write_at y.f3 o1 (k + d + 1) (by omega)
          have hwl := wB_le o1
          rw [if_pos hq0, if_pos hq0, hw]
          simp only [Option.bind_some]
          rw [if_pos (by rw [low4_length]; omega)]
          simp only [List.length_append, low4_length]
          rw [if_pos (by omega), if_pos (by omega)]
          simp only [List.length_append, low4_length, List.length_singleton]
          rw [if_pos (by omega), record_k _ (by simp only [List.length_append, low4_length, List.length_singleton]; omega) _ (by omega)]
          simp only [Option.bind_some]
          have hfl := fde_le b.length first p.1 q.1 y.f3 hp hq o1
          rw [show recB (low4 (wrap64 (wrap64 ((b.length : Int) + 4) - first)) ++ p.1 ++ q.1 ++ [0] ++ wB y.f3) = fdeB b.length first p.1 q.1 y.f3 from rfl, if_pos (by omega), w1 hi hn, Int.toNat_natCast]
          exact ih k (i + 1) _ _ (by omega) (by rw [List.length_set]; exact ha) (by rw [List.length_append]; omega) hk
        · rw [if_neg hq0, if_neg hq0]
      · rw [if_neg hp0, if_neg hp0]
    · rw [if_neg hci, if_neg hci, w1 hi hn]
      exact ih k (i + 1) b at_ (by omega) ha (by omega) hk
theorem in_len (ci first enc a2 : Int) (l : List S46) (hok : ∀ y ∈ l, OkF y) : ∀ (i : Nat) (b at_ : List Int) (r : List Int × List Int), inV ci first enc a2 l i b at_ = some r → r.1.length ≤ b.length + 130000 * l.length ∧ r.2.length = at_.length := by
  induction l with
  | nil => intro i b at_ r h; simp only [inV, Option.some.injEq] at h; subst h; simp
  | cons y l ih =>
    intro i b at_ r h
    have ih' := ih (fun y hy => hok y (List.mem_cons_of_mem _ hy))
    simp only [inV] at h
    split at h
    · split at h
      · split at h
        · have := ih' _ _ _ _ h
          have h2 := fde_le b.length first (pV enc y.f1 (wrap64 (wrap64 (a2 + (b.length : Int)) + 8))).1 (pV (e15 enc) y.f2 0).1 y.f3 (pV_le _ _ _) (pV_le _ _ _) (hok y List.mem_cons_self).ops
          rw [List.length_append, List.length_set] at this
          simp only [List.length_cons]
          omega
        · cases h
      · cases h
    · have := ih' _ _ _ _ h
      simp only [List.length_cons]
      omega
def lastV (e : Bool) (b at_ : List Int) : List Int × List Int × Int :=
  if (((if e = true then b ++ [0, 0, 0, 0] else b).length : Nat) : Int) > 1048576 then ([], [], 6) else (if e = true then b ++ [0, 0, 0, 0] else b, at_, 0)
theorem out_l0 (fs : List S46) (hn : fs.length ≤ 4000) (hok : ∀ y ∈ fs, OkF y) (a2 : Int) (e : Bool) (c : List S69) (hc : c.length ≤ 4000) (hco : ∀ x ∈ c, x.f1.length ≤ 4000) (d : Nat) :
    ∀ (k ci : Nat) (b at_ : List Int), ci + d = c.length → at_.length = fs.length → b.length + 1000000000 * d ≤ 99000000000000 → 5000 ≤ k →
      ehframe_Write.l0 (k + d * (fs.length + 2) + 1) fs a2 e b at_ c (c.length : Int) (ci : Int) = some (match outV fs a2 (c.drop ci) ci b at_ with
        | none => ([], [], 11)
        | some r => lastV e r.1 r.2) := by
  induction d with
  | zero =>
    intro k ci b at_ h _ hb hk
    rw [Nat.zero_mul, show k + 0 + 1 = k + 1 from rfl, ehframe_Write.l0, if_neg (by omega), List.drop_of_length_le (by omega)]
    simp only [outV, lastV]
    cases e
    · simp only [Bool.false_eq_true, if_false]
      split <;> rfl
    · simp only [if_true, Option.bind_some]
      rw [if_pos (by simp; omega)]
      split <;> rfl
  | succ d ih =>
    intro k ci b at_ h ha hb hk
    have hi : ci < c.length := by omega
    have hy := atC c ci hi
    have hm : rd_T69 c (ci : Int) ∈ c := List.mem_of_mem_drop (by rw [hy]; exact List.mem_cons_self)
    have ho := hco _ hm
    rw [show k + (d + 1) * (fs.length + 2) + 1 = ((k + d * (fs.length + 2) + 1) + fs.length + 1) + 1 from by rw [Nat.succ_mul]; omega, ehframe_Write.l0, if_pos (by omega), if_pos (by omega), if_pos (by omega), hy]
    generalize rd_T69 c (ci : Int) = x at ho
    obtain ⟨er, hw⟩ := write_at x.f1 ho ((k + d * (fs.length + 2) + 1) + fs.length + 1) (by omega)
    have hwl := wB_le ho
    have hrl := recB_length (headB x.f0 ++ wB x.f1)
    simp only [List.length_append, show (headB x.f0).length = 13 from rfl] at hrl
    rw [hw]
    simp only [Option.bind_some, show ehframe_head.f x.f0 = some (headB x.f0) from rfl, show (headB x.f0).length = 13 from rfl]
    rw [if_pos (by omega), record_k _ (by simp only [List.length_append, show (headB x.f0).length = 13 from rfl]; omega) _ (by omega)]
    simp only [Option.bind_some]
    rw [if_pos (by omega)]
    have h1 := in_l1 fs hn hok a2 e (ci : Int) (b.length : Int) c (c.length : Int) (ci : Int) x.f0 x.f1 fs.length (k + d * (fs.length + 2) + 1) 0 (b ++ recB (headB x.f0 ++ wB x.f1)) at_ (by omega) ha (by rw [List.length_append]; omega) (by omega)
    rw [show ((0 : Nat) : Int) = 0 from rfl, List.drop_zero] at h1
    rw [h1]
    simp only [outV]
    cases hv : inV (ci : Int) (b.length : Int) x.f0 a2 fs 0 (b ++ recB (headB x.f0 ++ wB x.f1)) at_ with
    | none => rfl
    | some r =>
      have hl := in_len _ _ _ _ fs hok _ _ _ _ hv
      rw [List.length_append] at hl
      simp only [Option.bind_some]
      rw [w1 hi hc]
      exact ih k (ci + 1) r.1 r.2 (by omega) (by omega) (by omega) hk
def wrV (c : List S69) (fs : List S46) (a2 : Int) (e : Bool) : List Int × List Int × Int :=
  if checkV c fs = 0 then
    if a2 < 0 ∨ 576460752303423488 < a2 then ([], [], 11)
    else match outV fs a2 c 0 [] (List.replicate fs.length 0) with
      | none => ([], [], 11)
      | some r => lastV e r.1 r.2
  else ([], [], checkV c fs)
theorem okF_of {y : S46} {n : Nat} (h0 : okF0 y = true) (h1 : okF1 n y = true) : OkF y := by
  simp only [okF0, decide_eq_true_eq] at h0
  simp only [okF1, Bool.and_eq_true, decide_eq_true_eq, Bool.not_eq_true'] at h1
  have := far_no h1.1.1.2
  exact ⟨by omega, by omega, by omega⟩
theorem write_k (c : List S69) (fs : List S46) (a2 : Int) (e : Bool) (k : Nat) (hk : 20000 + 3 * c.length + 3 * fs.length + 4000 * 4002 ≤ k) : ehframe_Write.f k c fs a2 e = some (wrV c fs a2 e) := by
  unfold ehframe_Write.f wrV
  rw [check_k c fs k (by omega)]
  simp only [Option.bind_some]
  by_cases h : checkV c fs = 0
  · obtain ⟨hc, hf, g0, g1, g2, g3, g4, g5⟩ := check_good h
    rw [if_pos h, if_pos h]
    obtain ⟨k, rfl⟩ : ∃ m, k = m + 1 := ⟨k - 1, by omega⟩
    have bad : ehframe_Write.j0 (k + 1) c fs a2 e [] true = some ([], [], 11) := by rw [ehframe_Write.j0, if_pos rfl]
    by_cases ha : a2 < 0
    · rw [if_pos ha, if_pos (.inl ha), bad]
    · rw [if_neg ha]
      by_cases hb : a2 > 576460752303423488
      · rw [decide_eq_true hb, if_pos (.inr hb), bad]
      · rw [decide_eq_false hb, if_neg (by omega), ehframe_Write.j0, if_neg (by decide), if_pos (by omega), if_pos (by omega), Int.toNat_natCast]
        have hmul : c.length * (fs.length + 2) ≤ 4000 * 4002 := Nat.mul_le_mul hc (by omega)
        obtain ⟨m, rfl⟩ : ∃ m, k = m + c.length * (fs.length + 2) + 1 := ⟨k - c.length * (fs.length + 2) - 1, by omega⟩
        have h1 := out_l0 fs hf (fun y hy => okF_of (g1 y hy) (g3 y hy)) a2 e c hc (fun x hx => by have := g0 x hx; simp only [okC0, decide_eq_true_eq] at this; omega) c.length m 0 [] (List.replicate fs.length 0) (by omega) (by simp) (by simp; omega) (by omega)
        rw [show ((0 : Nat) : Int) = 0 from rfl, List.drop_zero] at h1
        exact h1.trans (congrArg some (by cases outV fs a2 c 0 [] (List.replicate fs.length 0) <;> rfl))
  · rw [if_neg h, if_neg h]
end Go.Proofs.Ytfgfnflhdabmcaa.Eh
end
section
namespace Go.Proofs.Ytfgfnflhdabmcaa.EhB
open Go.RowKit Go.Proofs.Ytfgfnflhdabmcaa.G Go.Proofs.YtfgfnflhdabmcaaW.PrintWords Go.Proofs.YtfgfnflhdabmcaaW.PrintLast Go.Proofs.YtfgfnflhdabmcaaW.PrintMore Go.Proofs.Ytfgfnflhdabmcaa.Bit Go.Proofs.Ytfgfnflhdabmcaa.Leb Go.Proofs.Ytfgfnflhdabmcaa.Cfa Go.Proofs.Ytfgfnflhdabmcaa.CfaB Go.Proofs.Ytfgfnflhdabmcaa.EhRd Go.Proofs.Ytfgfnflhdabmcaa.Eh
def nop : S105 := ⟨0, 0, 0⟩
abbrev May (l : List (Int × Int × Int)) : Prop := ∀ o ∈ l, mayF o.1 o.2.1 o.2.2 = true
theorem does_may {t t' : T} {k r n : Int} (h : does t k r n = some t') : mayF k r n = true := by
  unfold does at h
  cases hm : mayF k r n
  · rw [if_pos hm] at h
    cases h
  · rfl
theorem doAll_may (l : List (Int × Int × Int)) : ∀ (t t' : T), doAll t l = some t' → May l := by
  induction l with
  | nil => intro t t' _ o ho; cases ho
  | cons x l ih =>
    intro t t' h o ho
    obtain ⟨u, hu, h⟩ := Option.bind_eq_some_iff.1 (show (does t x.1 x.2.1 x.2.2).bind (fun t' => doAll t' l) = some t' from h)
    rcases List.mem_cons.1 ho with rfl | ho
    · exact does_may hu
    · exact ih u t' h o ho
theorem outB_may (l : List (Int × Int × Int)) (h : May l) : ∀ acc, (outB l acc).2 = 0 ∧ ∀ m, May m → outB (l ++ m) acc = outB m (outB l acc).1 := by
  induction l with
  | nil => intro acc; exact ⟨rfl, fun m _ => rfl⟩
  | cons x l ih =>
    obtain ⟨k, r, n⟩ := x
    intro acc
    have h1 := h (k, r, n) List.mem_cons_self
    have ih := ih (fun o ho => h o (List.mem_cons_of_mem _ ho))
    simp only [List.cons_append, outB]
    rw [if_pos h1]
    exact ⟨(ih _).1, fun m hm => by rw [if_pos h1]; exact (ih _).2 m hm⟩
theorem outB_nops (z : Nat) : ∀ acc, outB (List.replicate z (0, 0, 0)) acc = (acc ++ List.replicate z 0, 0) := by
  induction z with
  | zero => intro acc; simp [outB]
  | succ z ih =>
    intro acc
    rw [List.replicate_succ, outB, if_pos (by decide), ih]
    simp [opB, List.replicate_succ]
theorem opl_append (a b : List S105) : opl (a ++ b) = opl a ++ opl b := by simp [opl]
theorem opl_nops (z : Nat) : opl (List.replicate z nop) = List.replicate z (0, 0, 0) := by simp [opl, nop]
theorem wB_eq {l : List S105} (hl : l.length ≤ 4000) : wB l = (outB (opl l) []).1 := by
  unfold wB writeV
  rw [if_neg (by rw [opl_length]; omega)]
theorem wB_range {l : List S105} (hl : l.length ≤ 4000) (hm : May (opl l)) : ∀ b ∈ wB l, 0 ≤ b ∧ b ≤ 255 := by
  rw [wB_eq hl]
  obtain ⟨⟨B, er⟩, hB⟩ : ∃ p, outB (opl l) [] = p := ⟨_, rfl⟩
  have h0 := (outB_may _ hm []).1
  rw [hB] at h0 ⊢
  obtain rfl : er = 0 := h0
  exact (out_grows _ _ _ hB).2.1 (by simp)
theorem opsV_wB (l : List S105) (hl : l.length ≤ 3992) (hm : May (opl l)) (z : Nat) (hz : z ≤ 8) : opsV (wB l ++ List.replicate z 0) = some (l ++ List.replicate z nop) := by
  have h1 : outB (opl (l ++ List.replicate z nop)) [] = (wB l ++ List.replicate z 0, 0) := by
    rw [opl_append, opl_nops, (outB_may _ hm []).2 _ (by intro o ho; rw [List.eq_of_mem_replicate ho]; decide), outB_nops, wB_eq (by omega)]
  have hg := out_grows _ _ _ h1
  have hlen : (l ++ List.replicate z nop).length = l.length + z := by simp
  have hle : (wB l ++ List.replicate z 0).length ≤ 200000 := by
    have := wB_le (l := l) (by omega)
    simp
    omega
  have hge := hg.1
  obtain ⟨rest, hr, hrl⟩ := hge
  simp only [List.nil_append] at hr
  rw [opl_length, hlen, ← hr] at hrl
  have hR := readR_out (wB l ++ List.replicate z 0) (hg.2.1 (by simp)) (by omega) (l ++ List.replicate z nop) [] [] ((wB l ++ List.replicate z 0).length + 1) h1 (by rw [hlen]; simp; omega) (by rw [hlen]; omega)
  have hf : cfa_Read.f (wB l ++ List.replicate z 0) = some (l ++ List.replicate z nop, 0) := by
    unfold cfa_Read.f CfaRd.readF
    rw [if_pos (by omega)]
    rw [show (([] : List Int).length : Int) = 0 from rfl] at hR
    rw [hR]
    rfl
  unfold opsV
  rw [hf]
  simp only
  rw [if_pos ⟨trivial, by rw [hlen]; omega⟩]
theorem trim_nops (l : List S105) (z : Nat) : trim (l ++ List.replicate z nop) = trim l := by
  induction z with
  | zero => simp
  | succ z ih => rw [List.replicate_succ', ← List.append_assoc, trim_snoc, if_pos (show nop.f0 = 0 from rfl), ih]
theorem trim_split (l : List S105) : ∃ r : List S105, l = trim l ++ r ∧ ∀ o ∈ r, o.f0 = 0 := by
  induction h : l.length generalizing l with
  | zero =>
    obtain rfl : l = [] := List.eq_nil_of_length_eq_zero h
    exact ⟨[], rfl, by simp⟩
  | succ n ih =>
    have hne : l ≠ [] := by intro e; rw [e] at h; cases h
    obtain ⟨a, o, rfl⟩ : ∃ a o, l = a ++ [o] := ⟨l.dropLast, l.getLast hne, (List.dropLast_concat_getLast hne).symm⟩
    rw [trim_snoc]
    split
    · rename_i h0
      obtain ⟨r, hr, hz⟩ := ih a (by simpa using h)
      refine ⟨r ++ [o], ?_, fun x hx => ?_⟩
      · rw [← List.append_assoc, ← hr]
      · rcases List.mem_append.1 hx with hx | hx
        · exact hz x hx
        · rw [List.mem_singleton.1 hx]; exact h0
    · exact ⟨[], by simp, by simp⟩
theorem trim_len (l : List S105) : (trim l).length ≤ l.length := by
  obtain ⟨r, hr, _⟩ := trim_split l
  have := congrArg List.length hr
  rw [List.length_append] at this
  omega
theorem doAll_append (a b : List (Int × Int × Int)) : ∀ t, doAll t (a ++ b) = (doAll t a).bind fun t' => doAll t' b := by
  induction a with
  | nil => intro t; rfl
  | cons x a ih =>
    intro t
    show (does t x.1 x.2.1 x.2.2).bind (fun t' => doAll t' (a ++ b)) = ((does t x.1 x.2.1 x.2.2).bind fun t' => doAll t' a).bind fun t' => doAll t' b
    cases does t x.1 x.2.1 x.2.2 with
    | none => rfl
    | some u => exact ih u
theorem doAll_nops (l : List (Int × Int × Int)) (h : ∀ o ∈ l, o.1 = 0) : ∀ t t', doAll t l = some t' → t' = t := by
  induction l with
  | nil => intro t t' h'; exact (Option.some.inj h').symm
  | cons x l ih =>
    intro t t' h'
    obtain ⟨u, hu, h2⟩ := Option.bind_eq_some_iff.1 (show (does t x.1 x.2.1 x.2.2).bind (fun t' => doAll t' l) = some t' from h')
    have hx := h x List.mem_cons_self
    have hm := does_may hu
    unfold does at hu
    rw [if_neg (by rw [hm]; decide), hx, if_neg (by omega)] at hu
    have : u = t := by
      unfold act at hu
      rw [if_pos rfl] at hu
      exact (Option.some.inj hu).symm
    subst this
    exact ih (fun o ho => h o (List.mem_cons_of_mem _ ho)) u t' h2
theorem doAll_trim (l : List S105) (t t' : T) (h : doAll t (opl l) = some t') : doAll t (opl (trim l)) = some t' := by
  obtain ⟨r, hr, hz⟩ := trim_split l
  rw [hr, opl_append, doAll_append] at h
  obtain ⟨u, hu, h⟩ := Option.bind_eq_some_iff.1 h
  have := doAll_nops (opl r) (by
    intro o ho
    obtain ⟨x, hx, rfl⟩ := List.mem_map.1 ho
    exact hz x hx) u t' h
  rw [hu, this]
theorem rows_run {a b : List S105} {n : Int} (h : (rowsOf (opl a) (opl b) n).2 = 0) : ¬ (n < 0 ∨ 1048576 < n) ∧ ∃ t t', doAll (fresh n) (opl a) = some t ∧ 0 ≤ t.now.getD 1 0 ∧ doAll { t with first := t.now, begun := true } (opl b) = some t' := by
  unfold rowsOf at h
  split at h
  · cases h
  rename_i h0
  split at h
  · cases h
  cases hr : run (opl a) (opl b) n with
  | none => rw [hr] at h; cases h
  | some t =>
    refine ⟨h0, ?_⟩
    obtain ⟨u, hu, hu2⟩ := Option.bind_eq_some_iff.1 (show (begin_ (fresh n) (opl a)).bind (fun t => doAll t (opl b)) = some t from hr)
    obtain ⟨v, hv, hv2⟩ := Option.bind_eq_some_iff.1 (show (doAll (fresh n) (opl a)).bind (fun t' => if 0 ≤ t'.now.getD 1 0 then some { t' with first := t'.now, begun := true } else none) = some u from hu)
    split at hv2
    · rename_i hc
      obtain rfl := Option.some.inj hv2
      exact ⟨v, t, hv, hc, hu2⟩
    · cases hv2
theorem rows_may {a b : List S105} {n : Int} (h : (rowsOf (opl a) (opl b) n).2 = 0) : May (opl a) ∧ May (opl b) := by
  obtain ⟨_, t, t', h1, _, h2⟩ := rows_run h
  exact ⟨doAll_may _ _ _ h1, doAll_may _ _ _ h2⟩
theorem rows_trim {a b : List S105} {n : Int} (ha : a.length ≤ 4000) (hb : b.length ≤ 4000) (h : (rowsOf (opl a) (opl b) n).2 = 0) : (rowsOf (opl (trim a)) (opl (trim b)) n).2 = 0 := by
  obtain ⟨h0, t, t', h1, h2, h3⟩ := rows_run h
  have h4 := doAll_trim a _ _ h1
  have h5 := doAll_trim b _ _ h3
  have hla := trim_len a
  have hlb := trim_len b
  unfold rowsOf
  rw [if_neg h0, if_neg (by rw [opl_length, opl_length]; omega)]
  unfold run begin_
  rw [h4, Option.bind_some, if_pos h2, Option.bind_some, h5]
end Go.Proofs.Ytfgfnflhdabmcaa.EhB
end
section
namespace Go.Proofs.Ytfgfnflhdabmcaa.G
open Go.RowKit Go.Proofs.YtfgfnflhdabmcaaW.PrintWords Go.Proofs.YtfgfnflhdabmcaaW.PrintLast Go.Proofs.YtfgfnflhdabmcaaW.PrintMore
attribute [local go_sem] max2_int min2_int max_two min_two max_three min_three max_four min_four
mutual
def gangwayref14_bytes.j0 : Nat → Int → Bool → Option (Int)
 | 0, _, _ => none
 | k + 1, x3, x4 => if x4 = true then (some 8) else (if x3 = 3 then (gangwayref14_bytes.j1 k x3 (x3 == 3)) else (gangwayref14_bytes.j1 k x3 (x3 == 11)))
def gangwayref14_bytes.j1 : Nat → Int → Bool → Option (Int)
 | 0, _, _ => none
 | k + 1, x3, x8 => if x8 = true then (some 4) else (if x3 = 2 then (gangwayref14_bytes.j2 k x3 (x3 == 2)) else (gangwayref14_bytes.j2 k x3 (x3 == 10)))
def gangwayref14_bytes.j2 : Nat → Int → Bool → Option (Int)
 | 0, _, _ => none
 | k + 1, x3, x11 => if x11 = true then (some 2) else (if x3 = 1 then (some 0) else (if x3 = 9 then (some 0) else (some (-1))))
end
def gangwayref14_bytes.f (k : Nat) (a0 : Int) : Option (Int) := if a0 = 0 then (gangwayref14_bytes.j0 k a0 (a0 == 0)) else (if a0 = 4 then (gangwayref14_bytes.j0 k a0 (a0 == 4)) else (gangwayref14_bytes.j0 k a0 (a0 == 12)))
def gangwayref14_Encoding.f (k : Nat) (a0 : Int) : Option (Bool) := if a0 < 0 then (some false) else ((gangwayref14_bytes.f k (Int.tmod a0 16)).bind fun t101 => (if t101 < 0 then (some false) else (if (wrap64 ((wrap64 (Int.tdiv a0 16)) * 16)) = 0 then (some true) else (if (wrap64 ((wrap64 (Int.tdiv a0 16)) * 16)) = 16 then (some true) else (some ((wrap64 ((wrap64 (Int.tdiv a0 16)) * 16)) == 48))))))
def gangwayref14_off.f (a0 : Int) (a1 : Int) (a2 : Int) : Option (Int) := if (wrap64 ((wrap64 (Int.tdiv a0 16)) * 16)) = 16 then (some a1) else (if (wrap64 ((wrap64 (Int.tdiv a0 16)) * 16)) = 48 then (some a2) else (some 0))
def gangwayref14_plain.f (a0 : Int) : Option (Bool) := if a0 = 1 then (some true) else (if a0 = 2 then (some true) else (if a0 = 3 then (some true) else (some (a0 == 4))))
end Go.Proofs.Ytfgfnflhdabmcaa.G
end
section
namespace Go.Proofs.Ytfgfnflhdabmcaa.Eh
open Go.RowKit Go.Proofs.Ytfgfnflhdabmcaa.G Go.Proofs.YtfgfnflhdabmcaaW.PrintWords Go.Proofs.YtfgfnflhdabmcaaW.PrintLast Go.Proofs.YtfgfnflhdabmcaaW.PrintMore Go.Proofs.Ytfgfnflhdabmcaa.Bit Go.Proofs.Ytfgfnflhdabmcaa.Leb Go.Proofs.Ytfgfnflhdabmcaa.EhOf
structure RefEnc (a0 s q : Int) (g : Bool) : Prop where
  enc : ∀ k, 10 ≤ k → gangwayref14_Encoding.f k a0 = some true
  bytes : ∀ k, 10 ≤ k → gangwayref14_bytes.f k (Int.tmod a0 16) = some s
  plain : gangwayref14_plain.f (Int.tmod a0 16) = some (!g)
  off : ∀ x y, gangwayref14_off.f a0 x y = some (offV q x y)
  uleb : Int.tmod a0 16 = 1 ↔ s = 0 ∧ g = false
  sleb : Int.tmod a0 16 = 9 ↔ s = 0 ∧ g = true
def endS (g : Bool) (q a1 a3 a4 x end_ e : Int) : Int × Int × Int :=
  if e = 0 then (if farB x = true ∨ (g = false ∧ x < 0) then (0, 0, 11) else if farB (wrap64 (x + offV q (wrap64 (a3 + a1)) a4)) = true then (0, 0, 11) else (wrap64 (x + offV q (wrap64 (a3 + a1)) a4), end_, 0)) else (0, 0, e)
theorem end_f (s q a1 a3 a4 x end_ e : Int) (g : Bool) (k : Nat) (hk : 20 ≤ k) : ehframe_Get.j0 k a1 a3 a4 x end_ e q s g = some (endS g q a1 a3 a4 x end_ e) := by
  obtain ⟨k, rfl⟩ : ∃ m, k = m + 2 := ⟨k - 2, by omega⟩
  rw [ehframe_Get.j0]
  unfold endS
  by_cases e0 : e = 0
  · rw [if_pos e0, if_pos e0, near1 x (k + 1) (by omega)]
    simp only [Option.bind_some]
    cases hf : farB x
    · have hr := far_no hf
      simp only [Bool.not_false, if_true, Bool.false_eq_true, false_or]
      have good : ehframe_Get.j1 (k + 1) a1 a3 a4 x end_ q false = some (if farB (wrap64 (x + offV q (wrap64 (a3 + a1)) a4)) = true then (0, 0, 11) else (wrap64 (x + offV q (wrap64 (a3 + a1)) a4), end_, 0)) := by
        rw [ehframe_Get.j1, if_neg (by decide)]
        unfold offV
        by_cases q1 : q = 16
        · rw [if_pos q1, if_pos q1, near1 _ k (by omega)]
          simp only [Option.bind_some]
          cases farB (wrap64 (x + wrap64 (a3 + a1))) <;> rfl
        · rw [if_neg q1, if_neg q1]
          by_cases q2 : q = 48
          · rw [if_pos q2, if_pos q2, near1 _ k (by omega)]
            simp only [Option.bind_some]
            cases farB (wrap64 (x + a4)) <;> rfl
          · rw [if_neg q2, if_neg q2, near1 _ k (by omega), show wrap64 (x + 0) = x from by unfold wrap64; omega, hf]
            rfl
      cases g
      · simp only [if_false, Bool.false_eq_true, true_and]
        by_cases hx : x < 0
        · rw [if_pos hx, decide_eq_true hx, ehframe_Get.j1, if_pos rfl]
        · rw [if_neg hx, decide_eq_false hx]
          exact good
      · simp only [if_true, Bool.true_eq_false, false_and, if_false]
        exact good
    · simp only [Bool.not_true, Bool.false_eq_true, if_false, true_or, if_true]
      rw [ehframe_Get.j1, if_pos rfl]
  · rw [if_neg e0, if_neg e0]
def readS (s : Int) (g : Bool) (l : List Int) (a1 : Int) : Int × Int × Int :=
  if 0 < s then ((getV l a1 s g).1, wrap64 (a1 + s), (getV l a1 s g).2)
  else ((if g = true then leb_ReadSleb.f l a1 else leb_ReadUleb.f l a1).getD (0, 0, 0))
def getS (s : Int) (g : Bool) (q : Int) (l : List Int) (a1 a3 a4 : Int) : Int × Int × Int :=
  if farB a3 = true ∨ farB a4 = true then (0, 0, 11) else endS g q a1 a3 a4 (readS s g l a1).1 (readS s g l a1).2.1 (readS s g l a1).2.2
theorem readS_some (l : List Int) (a : Int) : ∃ r, leb_ReadSleb.f l a = some r := by exact ⟨_, rfl⟩
theorem readU_some (l : List Int) (a : Int) : ∃ r, leb_ReadUleb.f l a = some r := by exact ⟨_, rfl⟩
theorem prog_get {a2 s q : Int} {g : Bool} (hof : ofF a2 = (s, g, q, true)) (hs : s = 0 ∨ s = 2 ∨ s = 4 ∨ s = 8) (l : List Int) (hl : ∀ b ∈ l, 0 ≤ b ∧ b ≤ 255) (hm : l.length ≤ 9223372036854775807) (a1 a3 a4 : Int) (k : Nat) (hk : 20 ≤ k) :
    ehframe_Get.f k l a1 a2 a3 a4 = some (getS s g q l a1 a3 a4) := by
  unfold ehframe_Get.f getS readS
  rw [show ehframe_of.f a2 = some (s, g, q, true) from congrArg some hof]
  simp only [Option.bind_some, if_true]
  rw [near2 a3 a4 k (by omega)]
  simp only [Option.bind_some]
  by_cases hf : farB a3 = true ∨ farB a4 = true
  · rw [if_pos hf, if_neg (by rcases hf with h | h <;> simp [h])]
  · have hf' : farB a3 = false ∧ farB a4 = false := by
      refine ⟨?_, ?_⟩ <;> (rw [← Bool.not_eq_true]; intro h; exact hf (by simp [h]))
    rw [if_neg hf, if_pos (by simp [hf'.1, hf'.2])]
    by_cases s0 : 0 < s
    · rw [if_pos (show s > 0 from s0), get_f l a1 s g hl hm k (by omega)]
      simp only [Option.bind_some]
      rw [end_f _ _ _ _ _ _ _ _ _ k hk, if_pos s0]
    · rw [if_neg (show ¬ s > 0 from s0), if_neg s0]
      cases g
      · obtain ⟨r, hr⟩ := readU_some l a1
        rw [if_neg (by decide), if_neg (by decide), hr]
        simp only [Option.bind_some, Option.getD_some]
        exact end_f _ _ _ _ _ _ _ _ _ k hk
      · obtain ⟨r, hr⟩ := readS_some l a1
        rw [if_pos rfl, if_pos rfl, hr]
        simp only [Option.bind_some, Option.getD_some]
        exact end_f _ _ _ _ _ _ _ _ _ k hk
end Go.Proofs.Ytfgfnflhdabmcaa.Eh
end
section
namespace Go.Proofs.Ytfgfnflhdabmcaa.EhB
open Go.RowKit Go.Proofs.Ytfgfnflhdabmcaa.G Go.Proofs.YtfgfnflhdabmcaaW.PrintWords Go.Proofs.YtfgfnflhdabmcaaW.PrintLast Go.Proofs.YtfgfnflhdabmcaaW.PrintMore Go.Proofs.Ytfgfnflhdabmcaa.Bit Go.Proofs.Ytfgfnflhdabmcaa.Leb Go.Proofs.Ytfgfnflhdabmcaa.Eh Go.Proofs.Ytfgfnflhdabmcaa.EhOf
theorem fix_back (s : Int) (g : Bool) (x : Int) (hs : s = 2 ∨ s = 4 ∨ s = 8) (hf : fitsV x s g = true) (h0 : -9223372036854775808 ≤ x ∧ x ≤ 9223372036854775807) (ahead behind : List Int) :
    Leb.getV (ahead ++ leB (x % 18446744073709551616) s.toNat ++ behind) (ahead.length : Int) s g = (x, 0) := by
  have hz : sizedB s = true := by rcases hs with rfl | rfl | rfl <;> decide
  have hl : (leB (x % 18446744073709551616) s.toNat).length = s.toNat := leB_length _ _
  have hcut : ((ahead ++ leB (x % 18446744073709551616) s.toNat ++ behind).drop (ahead.length : Int).toNat).take s.toNat = leB (x % 18446744073709551616) s.toNat := by
    have e := List.take_left (l₁ := leB (x % 18446744073709551616) s.toNat) (l₂ := behind)
    rw [hl] at e
    rw [Int.toNat_natCast, List.append_assoc, List.drop_left, e]
  unfold Leb.getV
  rw [if_pos hz, if_neg (by simp only [List.length_append, hl]; omega), hcut, leN_leB]
  congr 1
  unfold sgnV
  unfold fitsV at hf
  rcases hs with rfl | rfl | rfl
  · rw [if_pos rfl] at hf
    cases g
    · simp only [Bool.false_eq_true, if_false, decide_eq_true_eq] at hf ⊢
      rw [show (256 : Int) ^ (2 : Int).toNat = 65536 from by decide]
      unfold wrap64
      omega
    · simp only [if_true, decide_eq_true_eq] at hf ⊢
      rw [show (256 : Int) ^ (2 : Int).toNat = 65536 from by decide, show (2 : Int) ^ (8 * (2 : Int).toNat - 1) = 32768 from by decide, show (2 : Int) ^ (8 * (2 : Int).toNat) = 65536 from by decide]
      split <;> omega
  · rw [if_neg (by decide), if_pos rfl] at hf
    cases g
    · simp only [Bool.false_eq_true, if_false, decide_eq_true_eq] at hf ⊢
      rw [show (256 : Int) ^ (4 : Int).toNat = 4294967296 from by decide]
      unfold wrap64
      omega
    · simp only [if_true, decide_eq_true_eq] at hf ⊢
      rw [show (256 : Int) ^ (4 : Int).toNat = 4294967296 from by decide, show (2 : Int) ^ (8 * (4 : Int).toNat - 1) = 2147483648 from by decide, show (2 : Int) ^ (8 * (4 : Int).toNat) = 4294967296 from by decide]
      split <;> omega
  · rw [if_neg (by decide), if_neg (by decide)] at hf
    cases g
    · simp only [Bool.false_eq_true, if_false, decide_eq_true_eq] at hf ⊢
      rw [show (256 : Int) ^ (8 : Int).toNat = 18446744073709551616 from by decide]
      unfold wrap64
      omega
    · simp only [if_true] at hf ⊢
      rw [show (256 : Int) ^ (8 : Int).toNat = 18446744073709551616 from by decide, show (2 : Int) ^ (8 * (8 : Int).toNat - 1) = 9223372036854775808 from by decide, show (2 : Int) ^ (8 * (8 : Int).toNat) = 18446744073709551616 from by decide]
      split <;> omega
theorem readS_at (s : Int) (g : Bool) (x : Int) (hs : s = 0 ∨ s = 2 ∨ s = 4 ∨ s = 8) (w : List Int) (h : tailS s g x = (w, 0)) (ahead behind : List Int) (hal : ahead.length ≤ 9000000000000000000) :
    readS s g (ahead ++ w ++ behind) (ahead.length : Int) = (x, (ahead.length : Int) + (w.length : Int), 0) ∧ farB x = false ∧ ¬ (g = false ∧ x < 0) := by
  unfold tailS at h
  split at h
  · have := (Prod.mk.inj h).2
    omega
  rename_i hx
  have hf : farB x = false := by rw [← Bool.not_eq_true]; intro h; exact hx (.inl h)
  have hr := far_no hf
  refine ⟨?_, hf, fun h => hx (.inr h)⟩
  unfold readS
  rcases hs with rfl | hs
  · rw [if_pos rfl] at h
    rw [if_neg (by omega)]
    split at h
    · rename_i hg
      obtain rfl := (Prod.mk.inj h).1
      rw [if_pos hg, readS_back x (by omega) (by omega) ahead behind]
      rfl
    · rename_i hg
      obtain rfl := (Prod.mk.inj h).1
      rw [if_neg hg, readU_back x (by omega) (by omega) ahead behind]
      rfl
  · rw [if_neg (by omega)] at h
    split at h
    · rename_i hfit
      obtain rfl := (Prod.mk.inj h).1
      rw [if_pos (by omega), fix_back s g x hs hfit (by omega) ahead behind, leB_length]
      have : wrap64 ((ahead.length : Int) + s) = (ahead.length : Int) + s := by unfold wrap64; omega
      rw [this]
      have : ((s.toNat : Nat) : Int) = s := by omega
      rw [this]
    · have := (Prod.mk.inj h).2
      omega
theorem get_put (s : Int) (g : Bool) (q v at_ data : Int) (hs : s = 0 ∨ s = 2 ∨ s = 4 ∨ s = 8) (w : List Int) (h : putS s g q v at_ data = (w, 0)) (ahead behind : List Int) (hal : ahead.length ≤ 1000000000000000000) (a3 : Int) (ha3 : a3 + ahead.length = at_) (h3 : farB a3 = false) :
    getS s g q (ahead ++ w ++ behind) (ahead.length : Int) a3 data = (v, (ahead.length : Int) + (w.length : Int), 0) := by
  unfold putS at h
  split at h
  · have := (Prod.mk.inj h).2
    omega
  rename_i hn
  have hv : farB v = false := by rw [← Bool.not_eq_true]; intro h; exact hn (.inl h)
  have ha : farB at_ = false := by rw [← Bool.not_eq_true]; intro h; exact hn (.inr (.inl h))
  have hd : farB data = false := by rw [← Bool.not_eq_true]; intro h; exact hn (.inr (.inr h))
  obtain ⟨h4, h5, h6⟩ := readS_at s g _ hs w h ahead behind (by omega)
  have rv := far_no hv
  have ra := far_no ha
  have rd_ := far_no hd
  have r3 := far_no h3
  have r5 := far_no h5
  unfold getS
  rw [if_neg (by rw [h3, hd]; decide), h4]
  unfold endS
  simp only
  rw [if_pos trivial, if_neg (by rw [h5]; intro hh; rcases hh with hh | hh; cases hh; exact h6 hh)]
  have e1 : wrap64 (a3 + (ahead.length : Int)) = at_ := by unfold wrap64; omega
  rw [e1]
  have e2 : wrap64 (wrap64 (v - offV q at_ data) + offV q at_ data) = v := by
    have : -1152921504606846976 ≤ offV q at_ data ∧ offV q at_ data ≤ 1152921504606846976 := by
      unfold offV
      split
      · omega
      · split <;> omega
    unfold wrap64
    omega
  rw [e2, hv]
  rfl
end Go.Proofs.Ytfgfnflhdabmcaa.EhB
end
section
namespace Go.Proofs.Ytfgfnflhdabmcaa.EhB
open Go.RowKit Go.Proofs.Ytfgfnflhdabmcaa.G Go.Proofs.YtfgfnflhdabmcaaW.PrintWords Go.Proofs.YtfgfnflhdabmcaaW.PrintLast Go.Proofs.YtfgfnflhdabmcaaW.PrintMore Go.Proofs.Ytfgfnflhdabmcaa.Bit Go.Proofs.Ytfgfnflhdabmcaa.Leb Go.Proofs.Ytfgfnflhdabmcaa.Eh Go.Proofs.Ytfgfnflhdabmcaa.EhOf
open Go.Proofs.Ytfgfnflhdabmcaa.EhRd (gR opsV cieV fdeV lookI lookI_cons trim readR finV)
open Go.Proofs.Ytfgfnflhdabmcaa.CfaRd (uR sR)
open Go.Proofs.Ytfgfnflhdabmcaa.CfaB (U)
open Go.Proofs.Ytfgfnflhdabmcaa.Cfa (opl)
abbrev Byte (l : List Int) : Prop := ∀ b ∈ l, 0 ≤ b ∧ b ≤ 255
theorem byte_app {a b : List Int} (ha : Byte a) (hb : Byte b) : Byte (a ++ b) := fun x hx => (List.mem_append.1 hx).elim (ha x) (hb x)
theorem byte_zeros (z : Nat) : Byte (List.replicate z 0) := fun x hx => by rw [List.eq_of_mem_replicate hx]; decide
theorem byte_low (n : Int) : Byte (low4 n) := leB_range _ _
theorem byte_head (e : Int) : Byte (headB e) := by
  intro x hx
  simp only [headB, List.mem_cons, List.not_mem_nil, or_false] at hx
  omega
theorem byte_tail {s : Int} {g : Bool} {x : Int} {w : List Int} (h : tailS s g x = (w, 0)) : Byte w := by
  unfold tailS at h
  split at h
  · have := (Prod.mk.inj h).2; omega
  split at h
  · split at h
    · obtain rfl := (Prod.mk.inj h).1
      exact slebL_range _ _ rfl
    · obtain rfl := (Prod.mk.inj h).1
      exact ulebL_range _
  · split at h
    · obtain rfl := (Prod.mk.inj h).1
      exact leB_range _ _
    · have := (Prod.mk.inj h).2; omega
theorem pV_good {a0 v at_ : Int} (h : (pV a0 v at_).2 = 0) : (ofF a0).2.2.2 = true ∧ putS (ofF a0).1 (ofF a0).2.1 (ofF a0).2.2.1 v at_ 0 = ((pV a0 v at_).1, 0) := by
  unfold pV at h ⊢
  by_cases c : (ofF a0).2.2.2 = true
  · rw [if_pos c] at h ⊢
    exact ⟨c, Prod.ext rfl h⟩
  · rw [if_neg c] at h
    cases h
theorem byte_put {a0 v at_ : Int} (h : (pV a0 v at_).2 = 0) : Byte (pV a0 v at_).1 := by
  have h1 := (pV_good h).2
  unfold putS at h1
  split at h1
  · have := (Prod.mk.inj h1).2; omega
  · exact byte_tail h1
theorem gR_low (n : Int) (h0 : 0 ≤ n) (h1 : n < 4294967296) (ahead behind : List Int) (hb : Byte (ahead ++ low4 n ++ behind)) (hl : (ahead ++ low4 n ++ behind).length ≤ 9223372036854775807) : gR (ahead ++ low4 n ++ behind) (ahead.length : Int) = some n := by
  have h2 := fix_back 4 false n (.inr (.inl rfl)) (by unfold fitsV; rw [if_neg (by decide), if_pos rfl, if_neg (by decide), decide_eq_true_eq]; omega) (by omega) ahead behind
  rw [show (4 : Int).toNat = 4 from rfl, show leB (n % 18446744073709551616) 4 = low4 n from rfl] at h2
  unfold gR
  rw [get_f _ _ _ false hb hl 12 (by omega), h2]
  rfl
theorem gR_low0 (n : Int) (h0 : 0 ≤ n) (h1 : n < 4294967296) (behind : List Int) (hb : Byte (low4 n ++ behind)) (hl : (low4 n ++ behind).length ≤ 9223372036854775807) : gR (low4 n ++ behind) 0 = some n := gR_low n h0 h1 [] behind hb hl
theorem low4_0 : low4 0 = [0, 0, 0, 0] := by decide
theorem U_1 : U 1 = [1] := by decide +kernel
theorem U_16 : U 16 = [16] := by decide +kernel
theorem U_0 : U 0 = [0] := by decide +kernel
theorem S_8 : slebL (-8) = [120] := by rw [slebL_small (by decide)]; decide
theorem cie_back (enc : Int) (ho : (ofF enc).2.2.2 = true) (ops : List S105) (hl : ops.length ≤ 3992) (hm : May (opl ops)) (z : Nat) (hz : z ≤ 8) :
    gR (headB enc ++ wB ops ++ List.replicate z 0) 0 = some 0 ∧ cieV (headB enc ++ wB ops ++ List.replicate z 0) = some ⟨enc, trim ops⟩ := by
  have hr : 0 ≤ enc ∧ enc ≤ 255 := by
    unfold ofF at ho
    split at ho
    · cases ho
    · omega
  have hby : Byte (headB enc ++ wB ops ++ List.replicate z 0) := byte_app (byte_app (byte_head _) (wB_range (by omega) hm)) (byte_zeros _)
  have hwl := wB_le (l := ops) (by omega)
  have hlen : (headB enc ++ wB ops ++ List.replicate z 0).length = 13 + (wB ops).length + z := by
    simp only [List.length_append, List.length_replicate]
    rfl
  have hmod : enc % 256 = enc := by omega
  have he : headB enc ++ wB ops ++ List.replicate z 0 = [0, 0, 0, 0, 1, 122, 82, 0, 1, 120, 16, 1, enc] ++ (wB ops ++ List.replicate z 0) := by
    rw [List.append_assoc, headB, hmod]
  obtain ⟨rest, hrest⟩ : ∃ r, r = wB ops ++ List.replicate z 0 := ⟨_, rfl⟩
  refine ⟨?_, ?_⟩
  · have h := gR_low0 0 (by omega) (by omega) ([1, 122, 82, 0, 1, 120, 16, 1, enc] ++ rest) (by rw [low4_0, hrest]; rw [he] at hby; exact hby) (by rw [low4_0, hrest]; rw [he] at hlen; simp only [List.length_append, List.length_cons, List.length_nil] at hlen ⊢; omega)
    rw [low4_0, hrest] at h
    rw [he]
    exact h
  · rw [he, ← hrest] at hlen ⊢
    have u1 : uR ([0, 0, 0, 0, 1, 122, 82, 0, 1, 120, 16, 1, enc] ++ rest) 8 = some (1, 9) := by
      have h := uR_at 1 (by omega) (by omega) [0, 0, 0, 0, 1, 122, 82, 0] ([120, 16, 1, enc] ++ rest) _ rfl _ rfl
      rw [U_1] at h
      exact h
    have u2 : sR ([0, 0, 0, 0, 1, 122, 82, 0, 1, 120, 16, 1, enc] ++ rest) 9 = some (-8, 10) := by
      have h := sR_at (-8) (by omega) (by omega) [0, 0, 0, 0, 1, 122, 82, 0, 1] ([16, 1, enc] ++ rest) _ rfl _ rfl
      rw [S_8] at h
      exact h
    have u3 : uR ([0, 0, 0, 0, 1, 122, 82, 0, 1, 120, 16, 1, enc] ++ rest) 10 = some (16, 11) := by
      have h := uR_at 16 (by omega) (by omega) [0, 0, 0, 0, 1, 122, 82, 0, 1, 120] ([1, enc] ++ rest) _ rfl _ rfl
      rw [U_16] at h
      exact h
    have u4 : uR ([0, 0, 0, 0, 1, 122, 82, 0, 1, 120, 16, 1, enc] ++ rest) 11 = some (1, 12) := by
      have h := uR_at 1 (by omega) (by omega) [0, 0, 0, 0, 1, 122, 82, 0, 1, 120, 16] ([enc] ++ rest) _ rfl _ rfl
      rw [U_1] at h
      exact h
    have u5 : rd ([0, 0, 0, 0, 1, 122, 82, 0, 1, 120, 16, 1, enc] ++ rest) 12 = enc := rfl
    have u6 : ([0, 0, 0, 0, 1, 122, 82, 0, 1, 120, 16, 1, enc] ++ rest).drop ((12 : Int).toNat + 1) = rest := rfl
    have u7 := opsV_wB ops hl hm z hz
    rw [← hrest] at u7
    unfold cieV
    rw [if_pos ⟨by omega, by omega, rfl⟩, u1, Option.bind_some, u2, Option.bind_some, u3, Option.bind_some, u4, Option.bind_some]
    simp only
    rw [u5, u6, if_pos ⟨trivial, trivial, trivial, trivial, by decide, by omega, hr.1, hr.2, ho⟩, u7, Option.bind_some, trim_nops]
theorem fde_back (a2 : Int) (at_ first : Nat) (ha : 0 ≤ a2 ∧ a2 ≤ 576460752303423488) (hat : at_ ≤ 1048576) (hfi : first ≤ at_) (cs : List S69) (pm : List (Int × Int)) (ci : Int) (hci : 0 ≤ ci ∧ ci < cs.length) (enc : Int) (henc : (rd_T69 cs ci).f0 = enc) (hlook : lookI pm (first : Int) = some ci)
    (y : S46) (hp : (pV enc y.f1 (a2 + at_ + 8)).2 = 0) (hq : (pV (e15 enc) y.f2 0).2 = 0) (hl : y.f3.length ≤ 3992) (hm : May (opl y.f3)) (z : Nat) (hz : z ≤ 8) :
    gR (low4 ((at_ : Int) + 4 - first) ++ (pV enc y.f1 (a2 + at_ + 8)).1 ++ (pV (e15 enc) y.f2 0).1 ++ [0] ++ wB y.f3 ++ List.replicate z 0) 0 = some ((at_ : Int) + 4 - first) ∧
    fdeV a2 cs pm ((at_ : Int) + 4) ((at_ : Int) + 4 - first) (low4 ((at_ : Int) + 4 - first) ++ (pV enc y.f1 (a2 + at_ + 8)).1 ++ (pV (e15 enc) y.f2 0).1 ++ [0] ++ wB y.f3 ++ List.replicate z 0) = some ⟨ci, y.f1, y.f2, trim y.f3⟩ := by
  have bp := byte_put hp
  have bq := byte_put hq
  have lp := pV_le enc y.f1 (a2 + at_ + 8)
  have lq := pV_le (e15 enc) y.f2 0
  obtain ⟨op, hp2⟩ := pV_good hp
  obtain ⟨oq, hq2⟩ := pV_good hq
  have sp := ofF_size op
  have sq := ofF_size oq
  generalize (pV enc y.f1 (a2 + at_ + 8)).1 = p at *
  generalize (pV (e15 enc) y.f2 0).1 = q at *
  have hwl := wB_le (l := y.f3) (by omega)
  have hby : Byte (low4 ((at_ : Int) + 4 - first) ++ p ++ q ++ [0] ++ wB y.f3 ++ List.replicate z 0) := byte_app (byte_app (byte_app (byte_app (byte_app (byte_low _) bp) bq) (by intro x hx; rw [List.mem_singleton.1 hx]; decide)) (wB_range (by omega) hm)) (byte_zeros _)
  have hlen : (low4 ((at_ : Int) + 4 - first) ++ p ++ q ++ [0] ++ wB y.f3 ++ List.replicate z 0).length = 4 + p.length + q.length + 1 + (wB y.f3).length + z := by
    simp only [List.length_append, List.length_replicate, low4_length, List.length_singleton]
  have h4 := low4_length ((at_ : Int) + 4 - first)
  generalize hid : low4 ((at_ : Int) + 4 - first) = i4 at *
  refine ⟨?_, ?_⟩
  · have h := gR_low0 ((at_ : Int) + 4 - first) (by omega) (by omega) (p ++ q ++ [0] ++ wB y.f3 ++ List.replicate z 0) (by rw [hid]; simp only [← List.append_assoc]; exact hby) (by rw [hid]; simp only [← List.append_assoc]; omega)
    rw [hid] at h
    simp only [← List.append_assoc] at h
    exact h
  · have e1 : wrap64 ((at_ : Int) + 4 - ((at_ : Int) + 4 - first)) = (first : Int) := by unfold wrap64; omega
    have e2 : wrap64 (a2 + ((at_ : Int) + 4)) = a2 + at_ + 4 := by unfold wrap64; omega
    have g1 : EhRd.getV (i4 ++ p ++ q ++ [0] ++ wB y.f3 ++ List.replicate z 0) 4 enc (a2 + at_ + 4) = some (y.f1, 4 + (p.length : Int)) := by
      have h := get_put _ _ _ y.f1 _ 0 sp.2 p hp2 i4 (q ++ [0] ++ wB y.f3 ++ List.replicate z 0) (by omega) (a2 + at_ + 4) (by omega) (by unfold farB; simp; omega)
      rw [h4] at h
      simp only [← List.append_assoc] at h
      unfold EhRd.getV
      rw [prog_get sp.1 sp.2 _ hby (by omega) _ _ _ 60 (by omega)]
      rw [show ((4 : Nat) : Int) = 4 from rfl] at h
      rw [h]
      rfl
    have g2 : EhRd.getV (i4 ++ p ++ q ++ [0] ++ wB y.f3 ++ List.replicate z 0) (4 + (p.length : Int)) (e15 enc) 0 = some (y.f2, 4 + (p.length : Int) + (q.length : Int)) := by
      have hrel : (ofF (e15 enc)).2.2.1 = 0 := by
        have h5 : 0 ≤ e15 enc ∧ e15 enc < 16 := by
          have he : 0 ≤ enc ∧ enc ≤ 255 := by
            unfold ofF at op
            split at op
            · cases op
            · omega
          have := (bits_at enc he.1 he.2).2
          unfold e15
          rw [this]
          omega
        unfold ofF
        rw [if_neg (by omega)]
        split
        · rfl
        · show e15 enc - e15 enc % 16 = 0
          omega
      have hq3 : putS (ofF (e15 enc)).1 (ofF (e15 enc)).2.1 (ofF (e15 enc)).2.2.1 y.f2 (4 + (p.length : Int)) 0 = (q, 0) := by
        rw [← hq2]
        unfold putS
        have hf : farB (4 + (p.length : Int)) = false := by unfold farB; simp; omega
        have hf0 : farB 0 = false := by decide
        rw [hf, hf0, hrel]
        rfl
      have h := get_put _ _ _ y.f2 _ 0 sq.2 q hq3 (i4 ++ p) ([0] ++ wB y.f3 ++ List.replicate z 0) (by rw [List.length_append]; omega) 0 (by rw [List.length_append, h4]; omega) (by decide)
      rw [List.length_append, h4] at h
      simp only [← List.append_assoc] at h
      unfold EhRd.getV
      rw [prog_get sq.1 sq.2 _ hby (by omega) _ _ _ 60 (by omega)]
      rw [show ((4 + p.length : Nat) : Int) = 4 + (p.length : Int) from by omega] at h
      rw [h]
      rfl
    have g3 : uR (i4 ++ p ++ q ++ [0] ++ wB y.f3 ++ List.replicate z 0) (4 + (p.length : Int) + (q.length : Int)) = some (0, 4 + (p.length : Int) + (q.length : Int) + 1) := by
      have h := uR_at 0 (by omega) (by omega) (i4 ++ p ++ q) (wB y.f3 ++ List.replicate z 0) _ rfl (4 + (p.length : Int) + (q.length : Int)) (by rw [List.length_append, List.length_append, h4]; omega)
      rw [U_0] at h
      simp only [← List.append_assoc] at h
      exact h
    have g4 : (i4 ++ p ++ q ++ [0] ++ wB y.f3 ++ List.replicate z 0).drop (4 + (p.length : Int) + (q.length : Int) + 1).toNat = wB y.f3 ++ List.replicate z 0 := by
      rw [List.append_assoc (i4 ++ p ++ q ++ [0])]
      exact List.drop_left' (by simp only [List.length_append, h4, List.length_singleton]; omega)
    unfold fdeV
    rw [e1, hlook, Option.bind_some, if_pos hci, henc, e2, g1, Option.bind_some]
    simp only
    rw [show Go.bits .and .i64 enc 15 = e15 enc from rfl, g2, Option.bind_some]
    simp only
    rw [g3, Option.bind_some]
    simp only
    rw [if_pos ⟨trivial, by omega, by rw [hlen]; omega⟩, g4, opsV_wB y.f3 hl hm z hz, Option.bind_some, trim_nops]
end Go.Proofs.Ytfgfnflhdabmcaa.EhB
end
section
namespace Go.Proofs.Ytfgfnflhdabmcaa.EhB
open Go.RowKit Go.Proofs.Ytfgfnflhdabmcaa.G Go.Proofs.YtfgfnflhdabmcaaW.PrintWords Go.Proofs.YtfgfnflhdabmcaaW.PrintLast Go.Proofs.YtfgfnflhdabmcaaW.PrintMore Go.Proofs.Ytfgfnflhdabmcaa.Bit Go.Proofs.Ytfgfnflhdabmcaa.Leb Go.Proofs.Ytfgfnflhdabmcaa.Eh Go.Proofs.Ytfgfnflhdabmcaa.EhOf
open Go.Proofs.Ytfgfnflhdabmcaa.EhRd (gR opsV cieV fdeV lookI lookI_cons trim readR finV)
open Go.Proofs.Ytfgfnflhdabmcaa.Cfa (opl)
abbrev Cs := List S69
abbrev Fs := List S46
inductive Step (a2 : Int) (at_ : Nat) (cs : Cs) (fs : Fs) (pm : List (Int × Int)) (pb : List Int) : Cs → Fs → List (Int × Int) → Prop
  | cie (x : S69) (h1 : gR pb 0 = some 0) (h2 : cieV pb = some x) (h3 : cs.length ≤ 2097152 ∧ pm.length ≤ 2097152) : Step a2 at_ cs fs pm pb (cs ++ [x]) fs (((at_ : Int), (cs.length : Int)) :: pm)
  | fde (id : Int) (x : S46) (h1 : gR pb 0 = some id) (h2 : id ≠ 0) (h3 : fdeV a2 cs pm ((at_ : Int) + 4) id pb = some x) (h4 : fs.length ≤ 2097152) : Step a2 at_ cs fs pm pb cs (fs ++ [x]) pm
inductive Runs (a2 : Int) : Nat → Cs → Fs → List (Int × Int) → List (List Int) → Cs → Fs → List (Int × Int) → Prop
  | nil (at_ : Nat) (cs : Cs) (fs : Fs) (pm : List (Int × Int)) : Runs a2 at_ cs fs pm [] cs fs pm
  | cons {at_ : Nat} {cs cs1 cs2 : Cs} {fs fs1 fs2 : Fs} {pm pm1 pm2 : List (Int × Int)} {pb : List Int} {l : List (List Int)} (h1 : Step a2 at_ cs fs pm pb cs1 fs1 pm1) (h2 : pb.length % 8 = 4) (h3 : pb.length ≤ 200000) (h4 : Byte pb) (h5 : Runs a2 (at_ + 4 + pb.length) cs1 fs1 pm1 l cs2 fs2 pm2) : Runs a2 at_ cs fs pm (pb :: l) cs2 fs2 pm2
def recP (pb : List Int) : List Int := low4 (pb.length : Int) ++ pb
def flat (l : List (List Int)) : List Int := (l.map recP).flatten
theorem recP_length (pb : List Int) : (recP pb).length = 4 + pb.length := by unfold recP; rw [List.length_append, low4_length]
theorem flat_cons (pb : List Int) (l : List (List Int)) : flat (pb :: l) = recP pb ++ flat l := rfl
theorem flat_append (a b : List (List Int)) : flat (a ++ b) = flat a ++ flat b := by simp [flat]
theorem Runs.append {a2 : Int} {at_ : Nat} {cs cs1 cs2 : Cs} {fs fs1 fs2 : Fs} {pm pm1 pm2 : List (Int × Int)} {l m : List (List Int)} (h : Runs a2 at_ cs fs pm l cs1 fs1 pm1) (h2 : Runs a2 (at_ + (flat l).length) cs1 fs1 pm1 m cs2 fs2 pm2) : Runs a2 at_ cs fs pm (l ++ m) cs2 fs2 pm2 := by
  induction h with
  | nil => exact h2
  | cons h1 h3 h4 h5 h6 ih =>
    refine Runs.cons h1 h3 h4 h5 (ih ?_)
    rw [flat_cons, List.length_append, recP_length] at h2
    rw [show ∀ a b c : Nat, a + 4 + b + c = a + (4 + b + c) from by omega]
    exact h2
theorem Runs.byte {a2 : Int} {at_ : Nat} {cs cs1 : Cs} {fs fs1 : Fs} {pm pm1 : List (Int × Int)} {l : List (List Int)} (h : Runs a2 at_ cs fs pm l cs1 fs1 pm1) : Byte (flat l) := by
  induction h with
  | nil => intro x hx; cases hx
  | cons h1 h3 h4 h5 h6 ih => exact byte_app (byte_app (byte_low _) h5) ih
theorem head_at (pb pre suf : List Int) (hp : pb.length ≤ 200000) (hb : Byte (pre ++ recP pb ++ suf)) (hl : (pre ++ recP pb ++ suf).length ≤ 1048576) : gR (pre ++ recP pb ++ suf) (pre.length : Int) = some (pb.length : Int) ∧ ((pre ++ recP pb ++ suf).take ((pre.length : Int) + 4 + (pb.length : Int)).toNat).drop ((pre.length : Int) + 4).toNat = pb := by
  have h4 := low4_length (pb.length : Int)
  refine ⟨?_, ?_⟩
  · have h := gR_low (pb.length : Int) (by omega) (by omega) pre (pb ++ suf) (by unfold recP at hb; simpa [List.append_assoc] using hb) (by unfold recP at hl; simp only [List.length_append] at hl ⊢; omega)
    unfold recP
    simpa [List.append_assoc] using h
  · have e1 : (pre ++ recP pb ++ suf).take ((pre.length : Int) + 4 + (pb.length : Int)).toNat = pre ++ recP pb := by
      exact List.take_left' (by rw [List.length_append, recP_length]; omega)
    rw [e1]
    unfold recP
    rw [← List.append_assoc]
    exact List.drop_left' (by rw [List.length_append, h4]; omega)
theorem read_runs {a2 : Int} {at_ : Nat} {cs cs1 : Cs} {fs fs1 : Fs} {pm pm1 : List (Int × Int)} {l : List (List Int)} (h : Runs a2 at_ cs fs pm l cs1 fs1 pm1) : ∀ (L pre suf : List Int) (k : Nat), L = pre ++ flat l ++ suf → pre.length = at_ → L.length ≤ 1048576 → Byte L → readR L a2 (k + l.length) (at_ : Int) cs fs pm = readR L a2 k ((at_ + (flat l).length : Nat) : Int) cs1 fs1 pm1 := by
  induction h with
  | nil => intro L pre suf k _ _ _ _; simp [flat]
  | @cons at_ cs cs1 cs2 fs fs1 fs2 pm pm1 pm2 pb l h1 h3 h4 h5 h6 ih =>
    intro L pre suf k hL hat hlen hby
    have hL2 : L = pre ++ recP pb ++ (flat l ++ suf) := by rw [hL, flat_cons]; simp
    obtain ⟨g1, g2⟩ := head_at pb pre (flat l ++ suf) h4 (by rw [← hL2]; exact hby) (by rw [← hL2]; exact hlen)
    rw [← hL2, hat] at g1 g2
    have hll : L.length = at_ + (4 + pb.length) + (flat l ++ suf).length := by rw [hL2, List.length_append, List.length_append, recP_length, hat]
    have ih2 := ih L (pre ++ recP pb) suf k (by rw [hL2]; simp) (by rw [List.length_append, recP_length, hat]; omega) hlen hby
    rw [List.length_cons, show k + (l.length + 1) = (k + l.length) + 1 from rfl, readR, if_pos (by omega), if_pos (by omega), g1, Option.bind_some, if_neg (by omega), if_pos (by
      refine ⟨?_, by omega⟩
      rw [Int.tmod_eq_emod_of_nonneg (by omega)]
      omega), if_neg (by omega), g2]
    have e2 : (at_ : Int) + 4 + (pb.length : Int) = ((at_ + 4 + pb.length : Nat) : Int) := by omega
    rw [flat_cons, List.length_append, recP_length, show at_ + (4 + pb.length + (flat l).length) = at_ + 4 + pb.length + (flat l).length from by omega, ← ih2]
    cases h1 with
    | cie x q1 q2 q3 => rw [q1, Option.bind_some, if_pos rfl, q2, Option.bind_some, if_pos q3, e2]
    | fde id x q1 q2 q3 q4 => rw [q1, Option.bind_some, if_neg q2, q3, Option.bind_some, if_pos q4, e2]
def trimC (x : S69) : S69 := ⟨x.f0, trim x.f1⟩
def trimF (y : S46) : S46 := ⟨y.f0, y.f1, y.f2, trim y.f3⟩
theorem pad_mod (n : Nat) : (n + lack n) % 8 = 4 ∧ lack n ≤ 7 := by unfold lack; omega
theorem recB_recP (b : List Int) : recB b = recP (b ++ List.replicate (lack b.length) 0) := by
  unfold recB recP
  rw [List.length_append, List.length_replicate]
structure GoodC (x : S69) : Prop where
  enc : (ofF x.f0).2.2.2 = true
  len : x.f1.length ≤ 3992
  may : May (opl x.f1)
structure GoodF (y : S46) : Prop where
  ok : OkF y
  len : y.f3.length ≤ 3992
  may : May (opl y.f3)
theorem w2 (a2 : Int) (ha : 0 ≤ a2 ∧ a2 ≤ 576460752303423488) (n : Nat) (h : n ≤ 1048576) : wrap64 (wrap64 (a2 + (n : Int)) + 8) = a2 + (n : Int) + 8 := by unfold wrap64; omega
theorem w3 (n f : Nat) (h : n ≤ 1048576) (hf : f ≤ n) : wrap64 (wrap64 ((n : Int) + 4) - (f : Int)) = (n : Int) + 4 - (f : Int) := by unfold wrap64; omega
theorem fde_len (i : Int) (p q : List Int) (ops : List S105) (hp : p.length ≤ 10) (hq : q.length ≤ 10) (ho : ops.length ≤ 4000) : (low4 i ++ p ++ q ++ [0] ++ wB ops).length ≤ 130000 := by
  have h2 := wB_le ho
  simp only [List.length_append, low4_length, List.length_singleton]
  omega
theorem fde_step (a2 : Int) (ha : 0 ≤ a2 ∧ a2 ≤ 576460752303423488) (ci first : Nat) (enc : Int) (cs : Cs) (hci : ci < cs.length) (henc : (rd_T69 cs (ci : Int)).f0 = enc) (pm : List (Int × Int)) (hlook : lookI pm (first : Int) = some (ci : Int)) (y : S46) (hy : y.f0 = (ci : Int)) (g : GoodF y) (n : Nat) (hn : n ≤ 1048576) (hfi : first ≤ n) (fs : Fs) (hfl : fs.length ≤ 2097152)
    (hp : (pV enc y.f1 (wrap64 (wrap64 (a2 + (n : Int)) + 8))).2 = 0) (hq : (pV (e15 enc) y.f2 0).2 = 0) :
    ∃ P, fdeB n (first : Int) (pV enc y.f1 (wrap64 (wrap64 (a2 + (n : Int)) + 8))).1 (pV (e15 enc) y.f2 0).1 y.f3 = recP P ∧ P.length % 8 = 4 ∧ P.length ≤ 200000 ∧ Byte P ∧ Step a2 n cs fs pm P cs (fs ++ [trimF y]) pm := by
  rw [w2 a2 ha n hn] at hp ⊢
  have hbody := fde_back a2 n first ha hn hfi cs pm (ci : Int) (by omega) enc henc hlook y hp hq g.len g.may
  have hBl := fde_len ((n : Int) + 4 - (first : Int)) _ _ y.f3 (pV_le enc y.f1 (a2 + (n : Int) + 8)) (pV_le (e15 enc) y.f2 0) (Nat.le_trans g.len (by decide))
  have hby : Byte (low4 ((n : Int) + 4 - (first : Int)) ++ (pV enc y.f1 (a2 + (n : Int) + 8)).1 ++ (pV (e15 enc) y.f2 0).1 ++ [0] ++ wB y.f3) :=
    byte_app (byte_app (byte_app (byte_app (byte_low _) (byte_put hp)) (byte_put hq)) (by intro x hx; rw [List.mem_singleton.1 hx]; decide)) (wB_range (Nat.le_trans g.len (by decide)) g.may)
  unfold fdeB
  rw [w3 n first hn hfi]
  generalize low4 ((n : Int) + 4 - (first : Int)) ++ (pV enc y.f1 (a2 + (n : Int) + 8)).1 ++ (pV (e15 enc) y.f2 0).1 ++ [0] ++ wB y.f3 = B at hbody hBl hby ⊢
  clear hp hq
  have hpad := pad_mod B.length
  obtain ⟨q1, q2⟩ := hbody (lack B.length) (by omega)
  have hl : (B ++ List.replicate (lack B.length) 0).length = B.length + lack B.length := by rw [List.length_append, List.length_replicate]
  refine ⟨B ++ List.replicate (lack B.length) 0, recB_recP B, by rw [hl]; exact hpad.1, by rw [hl]; omega, byte_app hby (byte_zeros _), ?_⟩
  have := Step.fde (fs := fs) _ _ q1 (by omega) q2 hfl
  rw [show ((⟨(ci : Int), y.f1, y.f2, trim y.f3⟩ : S46)) = trimF y from by unfold trimF; rw [hy]] at this
  exact this
theorem cie_step (a2 : Int) (x : S69) (g : GoodC x) (n : Nat) (cs : Cs) (fs : Fs) (pm : List (Int × Int)) (hl : cs.length ≤ 2097152 ∧ pm.length ≤ 2097152) :
    ∃ P, recB (headB x.f0 ++ wB x.f1) = recP P ∧ P.length % 8 = 4 ∧ P.length ≤ 200000 ∧ Byte P ∧ Step a2 n cs fs pm P (cs ++ [trimC x]) fs (((n : Int), (cs.length : Int)) :: pm) := by
  have hback := fun z hz => cie_back x.f0 g.enc x.f1 g.len g.may z hz
  have hby : Byte (headB x.f0 ++ wB x.f1) := byte_app (byte_head _) (wB_range (Nat.le_trans g.len (by decide)) g.may)
  have hBl : (headB x.f0 ++ wB x.f1).length ≤ 130000 := by
    have hwl := wB_le (l := x.f1) (Nat.le_trans g.len (by decide))
    rw [List.length_append, show (headB x.f0).length = 13 from rfl]
    omega
  generalize headB x.f0 ++ wB x.f1 = B at hback hby hBl ⊢
  have hpad := pad_mod B.length
  have hb := hback (lack B.length) (by omega)
  have hl2 : (B ++ List.replicate (lack B.length) 0).length = B.length + lack B.length := by rw [List.length_append, List.length_replicate]
  exact ⟨B ++ List.replicate (lack B.length) 0, recB_recP B, by rw [hl2]; exact hpad.1, by rw [hl2]; omega, byte_app hby (byte_zeros _), Step.cie (trimC x) hb.1 hb.2 hl⟩
theorem in_runs (a2 : Int) (ha : 0 ≤ a2 ∧ a2 ≤ 576460752303423488) (ci : Nat) (first : Nat) (enc : Int) (cs : Cs) (hci : ci < cs.length) (henc : (rd_T69 cs (ci : Int)).f0 = enc) (pm : List (Int × Int)) (hlook : lookI pm (first : Int) = some (ci : Int)) (l : Fs) (hg : ∀ y ∈ l, GoodF y) :
    ∀ (i : Nat) (b at_ : List Int) (fs : Fs) (r : List Int × List Int), inV (ci : Int) (first : Int) enc a2 l i b at_ = some r → first ≤ b.length → r.1.length ≤ 1048576 → fs.length + l.length ≤ 2097152 →
      b.length ≤ r.1.length ∧ ∃ bodies, Runs a2 b.length cs fs pm bodies cs (fs ++ (l.filter (fun y => y.f0 = (ci : Int))).map trimF) pm ∧ r.1 = b ++ flat bodies ∧ bodies.length = (l.filter (fun y => y.f0 = (ci : Int))).length := by
  induction l with
  | nil =>
    intro i b at_ fs r h _ _ _
    simp only [inV, Option.some.injEq] at h
    subst h
    exact ⟨Nat.le_refl _, [], by simpa using Runs.nil _ _ _ _, by simp [flat], rfl⟩
  | cons y l ih =>
    intro i b at_ fs r h hfi hr hfl
    have ih' := ih (fun y hy => hg y (List.mem_cons_of_mem _ hy))
    have gy := hg y List.mem_cons_self
    simp only [inV] at h
    simp only [List.length_cons] at hfl
    by_cases hc : y.f0 = (ci : Int)
    · rw [if_pos hc] at h
      split at h
      case isFalse => cases h
      rename_i hp
      split at h
      case isFalse => cases h
      rename_i hq
      have hle : b.length ≤ (b ++ fdeB b.length (first : Int) (pV enc y.f1 (wrap64 (wrap64 (a2 + (b.length : Int)) + 8))).1 (pV (e15 enc) y.f2 0).1 y.f3).length := by rw [List.length_append]; exact Nat.le_add_right _ _
      obtain ⟨h0, bodies, h1, h2, h3⟩ := ih' (i + 1) _ _ (fs ++ [trimF y]) r h (Nat.le_trans hfi hle) hr (by rw [List.length_append, List.length_singleton]; omega)
      have hbr : b.length ≤ r.1.length := Nat.le_trans hle h0
      obtain ⟨P, p1, p2, p3, p4, p5⟩ := fde_step a2 ha ci first enc cs hci henc pm hlook y hc gy b.length (Nat.le_trans hbr hr) hfi fs (by omega) hp hq
      rw [p1] at h1 h2
      clear h hp hq p1 hle
      refine ⟨hbr, P :: bodies, Runs.cons p5 p2 p3 p4 ?_, ?_, ?_⟩
      · rw [List.filter_cons_of_pos (by simpa using hc), List.map_cons]
        rw [List.length_append, recP_length] at h1
        rw [show fs ++ trimF y :: List.map trimF (List.filter (fun y => decide (y.f0 = (ci : Int))) l) = (fs ++ [trimF y]) ++ List.map trimF (List.filter (fun y => decide (y.f0 = (ci : Int))) l) from by simp, Nat.add_assoc]
        exact h1
      · rw [h2, flat_cons, List.append_assoc]
      · rw [List.filter_cons_of_pos (by simpa using hc), List.length_cons, List.length_cons, h3]
    · rw [if_neg hc] at h
      obtain ⟨h0, bodies, h1, h2, h3⟩ := ih' (i + 1) b at_ fs r h hfi hr (by omega)
      rw [List.filter_cons_of_neg (by simpa using hc)]
      exact ⟨h0, bodies, h1, h2, h3⟩
def sortedV (fs : Fs) : Nat → Nat → Fs
  | 0, _ => []
  | n + 1, ci => (fs.filter (fun y => y.f0 = (ci : Int))).map trimF ++ sortedV fs n (ci + 1)
def countV (fs : Fs) : Nat → Nat → Nat
  | 0, _ => 0
  | n + 1, ci => 1 + (fs.filter (fun y => y.f0 = (ci : Int))).length + countV fs n (ci + 1)
theorem out_runs (a2 : Int) (ha : 0 ≤ a2 ∧ a2 ≤ 576460752303423488) (fs : Fs) (hfl : fs.length ≤ 4000) (hg : ∀ y ∈ fs, GoodF y) (c : Cs) (hgc : ∀ x ∈ c, GoodC x) :
    ∀ (ci : Nat) (b at_ : List Int) (cs : Cs) (fs0 : Fs) (pm : List (Int × Int)) (r : List Int × List Int), outV fs a2 c ci b at_ = some r → cs.length = ci → pm.length = ci → ci + c.length ≤ 4000 → r.1.length ≤ 1048576 → fs0.length + (sortedV fs c.length ci).length ≤ 2000000 →
      b.length ≤ r.1.length ∧ ∃ bodies pm', Runs a2 b.length cs fs0 pm bodies (cs ++ c.map trimC) (fs0 ++ sortedV fs c.length ci) pm' ∧ r.1 = b ++ flat bodies ∧ bodies.length = countV fs c.length ci := by
  induction c with
  | nil =>
    intro ci b at_ cs fs0 pm r h _ _ _ _ _
    simp only [outV, Option.some.injEq] at h
    subst h
    exact ⟨Nat.le_refl _, [], pm, by simpa [sortedV] using Runs.nil _ _ _ _, by simp [flat], rfl⟩
  | cons x c ih =>
    intro ci b at_ cs fs0 pm r h hcs hpm hcl hr hf0
    have ih' := ih (fun x hx => hgc x (List.mem_cons_of_mem _ hx))
    have gx := hgc x List.mem_cons_self
    simp only [outV] at h
    obtain ⟨r1, h1, h⟩ := Option.bind_eq_some_iff.1 h
    simp only [List.length_cons, sortedV, List.length_append, List.length_map] at hcl hf0
    have hlf : (fs.filter (fun y => decide (y.f0 = (ci : Int)))).length ≤ 4000 := Nat.le_trans (List.length_filter_le _ _) hfl
    obtain ⟨P, p1, p2, p3, p4, p5⟩ := cie_step a2 x gx b.length cs fs0 pm (by omega)
    rw [p1] at h1
    obtain ⟨k0, b2, pm2, q4, q5, q6⟩ := ih' (ci + 1) r1.1 r1.2 (cs ++ [trimC x]) (fs0 ++ (fs.filter (fun y => y.f0 = (ci : Int))).map trimF) (((b.length : Int), (cs.length : Int)) :: pm) r h (by rw [List.length_append, List.length_singleton, hcs]) (by rw [List.length_cons, hpm]) (by omega) hr (by rw [List.length_append, List.length_map]; omega)
    have hget : (rd_T69 (cs ++ [trimC x]) (ci : Int)).f0 = x.f0 := by
      unfold rd_T69
      rw [Int.toNat_natCast, List.getD_eq_getElem?_getD, ← hcs, List.getElem?_concat_length]
      rfl
    have hle : b.length ≤ (b ++ recP P).length := by rw [List.length_append]; exact Nat.le_add_right _ _
    obtain ⟨k1, b1, q1, q2, q3⟩ := in_runs a2 ha ci b.length x.f0 (cs ++ [trimC x]) (by rw [List.length_append, List.length_singleton]; omega) hget (((b.length : Int), (cs.length : Int)) :: pm) (by rw [lookI_cons, if_pos rfl, hcs]) fs hg 0 (b ++ recP P) at_ fs0 r1 h1 hle (Nat.le_trans k0 hr) (by omega)
    clear h h1 p1
    refine ⟨Nat.le_trans hle (Nat.le_trans k1 k0), P :: (b1 ++ b2), pm2, ?_, ?_, ?_⟩
    · refine Runs.cons p5 p2 p3 p4 ?_
      rw [List.length_append, recP_length, ← Nat.add_assoc] at q1
      have q7 := Runs.append q1 (by
        rw [show b.length + 4 + P.length + (flat b1).length = r1.1.length from by rw [q2, List.length_append, List.length_append, recP_length]; omega]
        exact q4)
      simpa [List.append_assoc, sortedV] using q7
    · rw [q5, q2, flat_cons, flat_append]
      simp
    · rw [List.length_cons, List.length_append, q3, q6, List.length_cons, countV]
      omega
end Go.Proofs.Ytfgfnflhdabmcaa.EhB
end
section
namespace Go.Proofs.Ytfgfnflhdabmcaa.EhB
open Go.RowKit Go.Proofs.Ytfgfnflhdabmcaa.G Go.Proofs.YtfgfnflhdabmcaaW.PrintWords Go.Proofs.YtfgfnflhdabmcaaW.PrintLast Go.Proofs.YtfgfnflhdabmcaaW.PrintMore Go.Proofs.Ytfgfnflhdabmcaa.Bit Go.Proofs.Ytfgfnflhdabmcaa.Leb Go.Proofs.Ytfgfnflhdabmcaa.Eh Go.Proofs.Ytfgfnflhdabmcaa.EhOf
open Go.Proofs.Ytfgfnflhdabmcaa.EhRd (gR opsV cieV fdeV lookI lookI_cons trim readR finV readF)
open Go.Proofs.Ytfgfnflhdabmcaa.Cfa (opl)
theorem count_sorted (fs : Fs) : ∀ n ci, countV fs n ci = n + (sortedV fs n ci).length := by
  intro n
  induction n with
  | zero => intro ci; rfl
  | succ n ih =>
    intro ci
    simp only [countV, sortedV, List.length_append, List.length_map]
    rw [ih]
    omega
theorem filt_add (ci n : Nat) (l : Fs) : (l.filter (fun y => decide (y.f0 = (ci : Int)))).length + (l.filter (fun y => decide (((ci + 1 : Nat) : Int) ≤ y.f0 ∧ y.f0 < ((ci + 1 + n : Nat) : Int)))).length = (l.filter (fun y => decide ((ci : Int) ≤ y.f0 ∧ y.f0 < ((ci + (n + 1) : Nat) : Int)))).length := by
  induction l with
  | nil => rfl
  | cons y l ih =>
    simp only [List.filter_cons]
    by_cases h1 : y.f0 = (ci : Int)
    · rw [if_pos (by simpa using h1), if_neg (by simp; omega), if_pos (by simp; omega), List.length_cons, List.length_cons]
      omega
    · rw [if_neg (by simpa using h1)]
      by_cases h2 : ((ci + 1 : Nat) : Int) ≤ y.f0 ∧ y.f0 < ((ci + 1 + n : Nat) : Int)
      · rw [if_pos (by simpa using h2), if_pos (by simp; omega), List.length_cons, List.length_cons]
        omega
      · rw [if_neg (by simpa using h2), if_neg (by simp; omega)]
        exact ih
theorem sorted_len (fs : Fs) : ∀ n ci, (sortedV fs n ci).length = (fs.filter (fun y => decide ((ci : Int) ≤ y.f0 ∧ y.f0 < ((ci + n : Nat) : Int)))).length := by
  intro n
  induction n with
  | zero =>
    intro ci
    rw [List.filter_eq_nil_iff.2 (fun y _ => by simp only [decide_eq_true_eq]; omega)]
    rfl
  | succ n ih =>
    intro ci
    simp only [sortedV, List.length_append, List.length_map]
    rw [ih, ← filt_add]
theorem sorted_all (fs : Fs) (n : Nat) (h : ∀ y ∈ fs, 0 ≤ y.f0 ∧ y.f0 < (n : Int)) : (sortedV fs n 0).length = fs.length := by
  rw [sorted_len, List.filter_eq_self.2 (fun y hy => by have := h y hy; simp; omega)]
theorem sorted_mem (fs : Fs) : ∀ n ci, ∀ z ∈ sortedV fs n ci, ∃ y ∈ fs, z = trimF y := by
  intro n
  induction n with
  | zero => intro ci z hz; cases hz
  | succ n ih =>
    intro ci z hz
    simp only [sortedV] at hz
    rcases List.mem_append.1 hz with hz | hz
    · obtain ⟨y, hy, rfl⟩ := List.mem_map.1 hz
      exact ⟨y, (List.mem_filter.1 hy).1, rfl⟩
    · exact ih _ z hz
theorem check_all {c : Cs} {f : Fs} (h0 : c.length ≤ 4000 ∧ f.length ≤ 4000) (h1 : ∀ x ∈ c, okC0 x = true) (h2 : ∀ y ∈ f, okF0 y = true) (h3 : ∀ x ∈ c, okC1 x = true) (h4 : ∀ y ∈ f, okF1 c.length y = true) (h5 : ∀ x ∈ c, okC2 x = true) (h6 : ∀ y ∈ f, okF2 c y = true) : checkV c f = 0 := by
  unfold checkV
  rw [if_neg (by omega), if_neg (by rw [List.all_eq_true.2 h1]; decide), if_neg (by rw [List.all_eq_true.2 h2]; decide), if_neg (by rw [List.all_eq_true.2 h3]; decide), if_neg (by rw [List.all_eq_true.2 h4]; decide), if_neg (by rw [List.all_eq_true.2 h5]; decide), if_neg (by rw [List.all_eq_true.2 h6]; decide)]
theorem rd_trim (c : Cs) (i : Int) (h0 : 0 ≤ i) (h1 : i < (c.length : Int)) : rd_T69 (c.map trimC) i = trimC (rd_T69 c i) := by
  unfold rd_T69
  have h : i.toNat < c.length := by omega
  simp [List.getD_eq_getElem?_getD, h]
theorem check_trim {c : Cs} {fs : Fs} (h : checkV c fs = 0) : checkV (c.map trimC) (sortedV fs c.length 0) = 0 ∧ (sortedV fs c.length 0).length = fs.length := by
  obtain ⟨hc, hf, g0, g1, g2, g3, g4, g5⟩ := check_good h
  have hr : ∀ y ∈ fs, 0 ≤ y.f0 ∧ y.f0 < (c.length : Int) := fun y hy => by
    have := g3 y hy
    simp only [okF1, Bool.and_eq_true, decide_eq_true_eq] at this
    omega
  have hl := sorted_all fs c.length hr
  refine ⟨?_, hl⟩
  refine check_all (by rw [List.length_map, hl]; omega) ?_ ?_ ?_ ?_ ?_ ?_
  · intro x' hx'
    obtain ⟨x, hx, rfl⟩ := List.mem_map.1 hx'
    have := g0 x hx
    have h2 := trim_len x.f1
    simp only [okC0, decide_eq_true_eq] at this ⊢
    show (trim x.f1).length ≤ 3992
    omega
  · intro y' hy'
    obtain ⟨y, hy, rfl⟩ := sorted_mem _ _ _ _ hy'
    have := g1 y hy
    have h2 := trim_len y.f3
    simp only [okF0, decide_eq_true_eq] at this ⊢
    show (trim y.f3).length ≤ 3992
    omega
  · intro x' hx'
    obtain ⟨x, hx, rfl⟩ := List.mem_map.1 hx'
    exact g2 x hx
  · intro y' hy'
    obtain ⟨y, hy, rfl⟩ := sorted_mem _ _ _ _ hy'
    rw [List.length_map]
    exact g3 y hy
  · intro x' hx'
    obtain ⟨x, hx, rfl⟩ := List.mem_map.1 hx'
    have h1 := g4 x hx
    have h2 := g0 x hx
    simp only [okC2, okC0, decide_eq_true_eq] at h1 h2 ⊢
    exact rows_trim (b := []) (by omega) (by simp) h1
  · intro y' hy'
    obtain ⟨y, hy, rfl⟩ := sorted_mem _ _ _ _ hy'
    have h1 := g5 y hy
    have h2 := g1 y hy
    obtain ⟨r0, r1⟩ := hr y hy
    have hm : rd_T69 c y.f0 ∈ c := by
      unfold rd_T69
      have h : y.f0.toNat < c.length := by omega
      rw [List.getD_eq_getElem?_getD, List.getElem?_eq_getElem h]
      exact List.getElem_mem h
    have h3 := g0 _ hm
    simp only [okF2, okF0, okC0, decide_eq_true_eq] at h1 h2 h3 ⊢
    show (Cfa.rowsOf (opl (rd_T69 (c.map trimC) y.f0).f1) (opl (trim y.f3)) y.f2).2 = 0
    rw [rd_trim c y.f0 r0 r1]
    exact rows_trim (by omega) (by omega) h1
def tailV (e : Bool) : List Int := if e = true then [0, 0, 0, 0] else []
theorem wr_good (c : Cs) (fs : Fs) (a2 : Int) (e : Bool) (h : (wrV c fs a2 e).2.2 = 0) :
    (0 ≤ a2 ∧ a2 ≤ 576460752303423488) ∧ checkV c fs = 0 ∧ (wrV c fs a2 e).1.length ≤ 1048576 ∧ (wrV c fs a2 e).2.1.length = fs.length ∧
    ∃ bodies pm', Runs a2 0 [] [] [] bodies (c.map trimC) (sortedV fs c.length 0) pm' ∧ (wrV c fs a2 e).1 = flat bodies ++ tailV e ∧ bodies.length = c.length + fs.length := by
  unfold wrV at h ⊢
  by_cases g : checkV c fs = 0
  · rw [if_pos g] at h ⊢
    obtain ⟨hc, hf, g0, g1, g2, g3, g4, g5⟩ := check_good g
    have hct := check_trim g
    by_cases r1 : a2 < 0 ∨ 576460752303423488 < a2
    · rw [if_pos r1] at h
      cases h
    rw [if_neg r1] at h ⊢
    have ha : 0 ≤ a2 ∧ a2 ≤ 576460752303423488 := by omega
    have hgc : ∀ x ∈ c, GoodC x := fun x hx => by
      have h0 := g0 x hx
      have h2 := g4 x hx
      simp only [okC0, okC2, decide_eq_true_eq] at h0 h2
      exact ⟨g2 x hx, h0, (rows_may (b := []) h2).1⟩
    have hgf : ∀ y ∈ fs, GoodF y := fun y hy => by
      have h0 := g1 y hy
      have h2 := g5 y hy
      simp only [okF0, okF2, decide_eq_true_eq] at h0 h2
      exact ⟨okF_of (g1 y hy) (g3 y hy), h0, (rows_may h2).2⟩
    cases e1 : outV fs a2 c 0 [] (List.replicate fs.length 0) with
    | none => rw [e1] at h; cases h
    | some r =>
      rw [e1] at h
      simp only at h ⊢
      have hat : ∀ (l : Cs) (ci : Nat) (b at_ : List Int) (r : List Int × List Int), outV fs a2 l ci b at_ = some r → r.2.length = at_.length := by
        intro l
        induction l with
        | nil =>
          intro ci b at_ r h
          simp only [outV, Option.some.injEq] at h
          subst h
          rfl
        | cons x l ih =>
          intro ci b at_ r h
          simp only [outV] at h
          obtain ⟨r1, h1, h⟩ := Option.bind_eq_some_iff.1 h
          rw [ih _ _ _ _ h, (in_len _ _ _ _ fs (fun y hy => (hgf y hy).ok) _ _ _ _ h1).2]
      have hat1 := hat c 0 [] _ r e1
      rw [List.length_replicate] at hat1
      have hle : r.1.length ≤ (if e = true then r.1 ++ [0, 0, 0, 0] else r.1).length := by
        split
        · rw [List.length_append]; exact Nat.le_add_right _ _
        · exact Nat.le_refl _
      have hx : (if e = true then r.1 ++ [0, 0, 0, 0] else r.1) = r.1 ++ tailV e := by
        unfold tailV
        cases e <;> simp
      unfold lastV at h ⊢
      rw [hx] at h hle ⊢
      by_cases c1 : (((r.1 ++ tailV e).length : Nat) : Int) > 1048576
      · rw [if_pos c1] at h
        cases h
      rw [if_neg c1]
      obtain ⟨_, bodies, pm', q1, q2, q3⟩ := out_runs a2 ha fs hf hgf c hgc 0 [] _ [] [] [] r e1 rfl rfl (by omega) (by omega) (by rw [hct.2]; simp; omega)
      refine ⟨ha, g, by show (r.1 ++ tailV e).length ≤ 1048576; omega, hat1, bodies, pm', by simpa using q1, by rw [q2]; simp, ?_⟩
      rw [q3, count_sorted, hct.2]
  · rw [if_neg g] at h
    exact absurd h g
theorem flat_len {a2 : Int} {at_ : Nat} {cs cs1 : Cs} {fs fs1 : Fs} {pm pm1 : List (Int × Int)} {l : List (List Int)} (h : Runs a2 at_ cs fs pm l cs1 fs1 pm1) : 8 * l.length ≤ (flat l).length ∧ (flat l).length % 8 = 0 := by
  induction h with
  | nil => simp [flat]
  | cons h1 h3 h4 h5 h6 ih =>
    rw [flat_cons, List.length_append, recP_length, List.length_cons]
    omega
theorem read_back (c : Cs) (fs : Fs) (a2 : Int) (e : Bool) (h : (wrV c fs a2 e).2.2 = 0) : readF (wrV c fs a2 e).1 a2 = some (c.map trimC, sortedV fs c.length 0, 0) := by
  obtain ⟨ha, hg, hl, _, bodies, pm', q1, q2, q3⟩ := wr_good c fs a2 e h
  have hct := (check_trim hg).1
  generalize (wrV c fs a2 e).1 = L at hl q2 ⊢
  have hfl := flat_len q1
  have hby : Byte L := by
    rw [q2]
    refine byte_app q1.byte ?_
    unfold tailV
    intro x hx
    split at hx
    · simp at hx; omega
    · cases hx
  have hLl : L.length = (flat bodies).length + (tailV e).length := by rw [q2, List.length_append]
  have hfin : finV (c.map trimC) (sortedV fs c.length 0) = some (c.map trimC, sortedV fs c.length 0, 0) := by
    unfold finV
    rw [if_pos (show ehframe_Check.f 0 (c.map trimC) (sortedV fs c.length 0) = some 0 from by rw [show ehframe_Check.f 0 (c.map trimC) (sortedV fs c.length 0) = some (checkV (c.map trimC) (sortedV fs c.length 0)) from rfl, hct])]
  unfold readF
  rw [if_pos ⟨hl, ha⟩]
  obtain ⟨k, hk⟩ : ∃ k, L.length + 1 = (k + 1) + bodies.length := ⟨L.length - bodies.length, by omega⟩
  rw [hk]
  have hr := read_runs q1 L [] (tailV e) (k + 1) (by rw [q2]; simp) rfl hl hby
  rw [show ((0 : Nat) : Int) = 0 from rfl] at hr
  rw [hr, Nat.zero_add, readR]
  cases e
  · rw [if_neg (by have : (tailV false).length = 0 := rfl; omega)]
    exact hfin
  · have ht : (tailV true).length = 4 := rfl
    have h0 := gR_low 0 (by omega) (by omega) (flat bodies) [] (by rw [low4_0]; simpa [tailV] using (by rw [← show L = flat bodies ++ [0, 0, 0, 0] from q2]; exact hby : Byte (flat bodies ++ [0, 0, 0, 0]))) (by rw [low4_0]; simp; omega)
    rw [low4_0, List.append_nil, show flat bodies ++ [0, 0, 0, 0] = L from q2.symm] at h0
    rw [if_pos (by omega), if_pos (by omega), h0, Option.bind_some, if_pos rfl, if_pos (by omega)]
    exact hfin
end Go.Proofs.Ytfgfnflhdabmcaa.EhB
end
section
namespace Go.Proofs.Ytfgfnflhdabmcaa.Cfa
open Go.RowKit Go.Proofs.Ytfgfnflhdabmcaa.G Go.Proofs.YtfgfnflhdabmcaaW.PrintWords Go.Proofs.YtfgfnflhdabmcaaW.PrintLast Go.Proofs.YtfgfnflhdabmcaaW.PrintMore
def conv (l : List S97) : List S105 := l.map fun o => ⟨o.f0, o.f1, o.f2⟩
theorem conv_length (l : List S97) : (conv l).length = l.length := by simp [conv]
end Go.Proofs.Ytfgfnflhdabmcaa.Cfa
end
section
namespace Go.Proofs.Ytfgfnflhdabmcaa.Eh
open Go.RowKit Go.Proofs.Ytfgfnflhdabmcaa.G Go.Proofs.YtfgfnflhdabmcaaW.PrintWords Go.Proofs.YtfgfnflhdabmcaaW.PrintLast Go.Proofs.YtfgfnflhdabmcaaW.PrintMore
def cieV (x : S43) : S69 := ⟨x.f0, Cfa.conv x.f1⟩
def fdeV (y : S61) : S46 := ⟨y.f0, y.f1, y.f2, Cfa.conv y.f3⟩
theorem rd_cieV (l : List S43) (n : Nat) (h : n < l.length) : rd_T69 (l.map cieV) (n : Int) = cieV (rd_T43 l (n : Int)) := by
  simp [rd_T69, rd_T43, List.getD, h]
theorem rd_fdeV (l : List S61) (n : Nat) (h : n < l.length) : rd_T46 (l.map fdeV) (n : Int) = fdeV (rd_T61 l (n : Int)) := by
  simp [rd_T46, rd_T61, List.getD, h]
theorem rd_memC (l : List S43) (n : Nat) (h : n < l.length) : rd_T43 l (n : Int) ∈ l := by
  have : rd_T43 l (n : Int) = l[n] := by simp [rd_T43, List.getD, h]
  rw [this]
  exact List.getElem_mem h
theorem rd_memF (l : List S61) (n : Nat) (h : n < l.length) : rd_T61 l (n : Int) ∈ l := by
  have : rd_T61 l (n : Int) = l[n] := by simp [rd_T61, List.getD, h]
  rw [this]
  exact List.getElem_mem h
theorem lops_l0 (l : List S97) (hl : l.length < 5864062014805) (d : Nat) : ∀ (k n : Nat), n + d = l.length → d < k → gangwaylaw14_ops.l0 k l (Cfa.conv (l.take n)) (n : Int) = some (Cfa.conv l) := by
  induction d with
  | zero =>
    intro k n h hk
    obtain ⟨k, rfl⟩ : ∃ m, k = m + 1 := ⟨k - 1, by omega⟩
    rw [gangwaylaw14_ops.l0, if_neg (by omega), List.take_of_length_le (by omega)]
  | succ d ih =>
    intro k n h hk
    obtain ⟨k, rfl⟩ : ∃ m, k = m + 1 := ⟨k - 1, by omega⟩
    have hn : n < l.length := by omega
    rw [gangwaylaw14_ops.l0, if_pos (by omega), if_pos (by omega), if_pos (by rw [Cfa.conv_length, List.length_take]; omega), show wrap64 ((n : Int) + 1) = ((n + 1 : Nat) : Int) from by unfold wrap64; omega]
    have e : Cfa.conv (l.take n) ++ [(⟨(rd_T97 l (n : Int)).f0, (rd_T97 l (n : Int)).f1, (rd_T97 l (n : Int)).f2⟩ : S105)] = Cfa.conv (l.take (n + 1)) := by
      have hrd : rd_T97 l (n : Int) = l[n] := by simp [rd_T97, List.getD, hn]
      rw [hrd, List.take_succ_eq_append_getElem hn]
      unfold Cfa.conv
      rw [List.map_append]
      rfl
    rw [e]
    exact ih k (n + 1) (by omega) (by omega)
theorem lops_k (l : List S97) (hl : l.length < 5864062014805) (k : Nat) (hk : l.length < k) : gangwaylaw14_ops.f k l = some (Cfa.conv l) := by
  have h := lops_l0 l hl l.length k 0 (by omega) hk
  rw [List.take_zero] at h
  exact h
def mostC (l : List S43) : Nat := (l.map fun x => x.f1.length + 1).sum
def mostF (l : List S61) : Nat := (l.map fun y => y.f3.length + 1).sum
theorem mostC_ge (l : List S43) : l.length ≤ mostC l ∧ ∀ x ∈ l, x.f1.length < mostC l := by
  induction l with
  | nil => simp [mostC]
  | cons x l ih =>
    simp only [mostC, List.map_cons, List.sum_cons, List.length_cons] at ih ⊢
    refine ⟨by omega, fun y hy => ?_⟩
    rcases List.mem_cons.1 hy with rfl | hy
    · omega
    · have := ih.2 y hy; omega
theorem mostF_ge (l : List S61) : l.length ≤ mostF l ∧ ∀ y ∈ l, y.f3.length < mostF l := by
  induction l with
  | nil => simp [mostF]
  | cons x l ih =>
    simp only [mostF, List.map_cons, List.sum_cons, List.length_cons] at ih ⊢
    refine ⟨by omega, fun y hy => ?_⟩
    rcases List.mem_cons.1 hy with rfl | hy
    · omega
    · have := ih.2 y hy; omega
theorem tables_l1 (cs : List S69) (l : List S61) (hl : l.length < 2932031007402) (ho : ∀ y ∈ l, y.f3.length < 5864062014805) (d : Nat) :
    ∀ (k n : Nat), n + d = l.length → mostF l + d < k → gangwaylaw14_tables.l1 k l cs ((l.take n).map fdeV) (n : Int) = some (cs, l.map fdeV) := by
  induction d with
  | zero =>
    intro k n h hk
    obtain ⟨k, rfl⟩ : ∃ m, k = m + 1 := ⟨k - 1, by omega⟩
    rw [gangwaylaw14_tables.l1, if_neg (by omega), List.take_of_length_le (by omega)]
  | succ d ih =>
    intro k n h hk
    obtain ⟨k, rfl⟩ : ∃ m, k = m + 1 := ⟨k - 1, by omega⟩
    have hn : n < l.length := by omega
    have hrd : rd_T61 l (n : Int) = l[n] := by simp [rd_T61, List.getD, hn]
    have hm := List.getElem_mem hn
    rw [gangwaylaw14_tables.l1, if_pos (by omega), if_pos (by omega), hrd, lops_k _ (ho _ hm) k (by have := (mostF_ge l).2 _ hm; omega)]
    simp only [Option.bind_some]
    rw [if_pos (by rw [List.length_map, List.length_take]; omega), show wrap64 ((n : Int) + 1) = ((n + 1 : Nat) : Int) from by unfold wrap64; omega]
    have e : (l.take n).map fdeV ++ [(⟨l[n].f0, l[n].f1, l[n].f2, Cfa.conv l[n].f3⟩ : S46)] = (l.take (n + 1)).map fdeV := by
      rw [List.take_succ_eq_append_getElem hn, List.map_append]
      rfl
    rw [e]
    exact ih k (n + 1) (by omega) (by omega)
theorem tables_l0 (cl : List S43) (hc : cl.length < 4398046511104) (hco : ∀ x ∈ cl, x.f1.length < 5864062014805) (l : List S61) (hl : l.length < 2932031007402) (ho : ∀ y ∈ l, y.f3.length < 5864062014805) (d : Nat) :
    ∀ (k n : Nat), n + d = cl.length → mostC cl + d + mostF l + l.length + 1 < k → gangwaylaw14_tables.l0 k cl l ((cl.take n).map cieV) (n : Int) = some (cl.map cieV, l.map fdeV) := by
  induction d with
  | zero =>
    intro k n h hk
    obtain ⟨k, rfl⟩ : ∃ m, k = m + 1 := ⟨k - 1, by omega⟩
    rw [gangwaylaw14_tables.l0, if_neg (by omega), List.take_of_length_le (by omega)]
    have h1 := tables_l1 (cl.map cieV) l hl ho l.length k 0 (by omega) (by omega)
    rw [List.take_zero] at h1
    exact h1
  | succ d ih =>
    intro k n h hk
    obtain ⟨k, rfl⟩ : ∃ m, k = m + 1 := ⟨k - 1, by omega⟩
    have hn : n < cl.length := by omega
    have hrd : rd_T43 cl (n : Int) = cl[n] := by simp [rd_T43, List.getD, hn]
    have hm := List.getElem_mem hn
    rw [gangwaylaw14_tables.l0, if_pos (by omega), if_pos (by omega), hrd, lops_k _ (hco _ hm) k (by have := (mostC_ge cl).2 _ hm; omega)]
    simp only [Option.bind_some]
    rw [if_pos (by rw [List.length_map, List.length_take]; omega), show wrap64 ((n : Int) + 1) = ((n + 1 : Nat) : Int) from by unfold wrap64; omega]
    have e : (cl.take n).map cieV ++ [(⟨cl[n].f0, Cfa.conv cl[n].f1⟩ : S69)] = (cl.take (n + 1)).map cieV := by
      rw [List.take_succ_eq_append_getElem hn, List.map_append]
      rfl
    rw [e]
    exact ih k (n + 1) (by omega) (by omega)
theorem tables_k (cl : List S43) (hc : cl.length < 4398046511104) (hco : ∀ x ∈ cl, x.f1.length < 5864062014805) (l : List S61) (hl : l.length < 2932031007402) (ho : ∀ y ∈ l, y.f3.length < 5864062014805) (k : Nat) (hk : 2 * mostC cl + 2 * mostF l + 2 < k) :
    gangwaylaw14_tables.f k cl l = some (cl.map cieV, l.map fdeV) := by
  have h := tables_l0 cl hc hco l hl ho cl.length k 0 (by omega) (by have := (mostC_ge cl).1; have := (mostF_ge l).1; omega)
  rw [List.take_zero] at h
  exact h
theorem sameOps_l0 (l : List S97) (hl : l.length ≤ 9223372036854775807) (d : Nat) : ∀ (kk i : Nat), i + d = l.length → d < kk → gangwaylaw14_sameOps.l0 kk (Cfa.conv l) l (i : Int) = some true := by
  induction d with
  | zero =>
    intro kk i h hk
    obtain ⟨kk, rfl⟩ : ∃ m, kk = m + 1 := ⟨kk - 1, by omega⟩
    rw [gangwaylaw14_sameOps.l0, if_neg (by rw [Cfa.conv_length]; omega)]
  | succ d ih =>
    intro kk i h hk
    obtain ⟨kk, rfl⟩ : ∃ m, kk = m + 1 := ⟨kk - 1, by omega⟩
    have hi : i < l.length := by omega
    have e1 : rd_T105 (Cfa.conv l) (i : Int) = ⟨(rd_T97 l (i : Int)).f0, (rd_T97 l (i : Int)).f1, (rd_T97 l (i : Int)).f2⟩ := by simp [rd_T105, rd_T97, Cfa.conv, List.getD, hi]
    rw [gangwaylaw14_sameOps.l0, e1]
    have hc := Cfa.conv_length l
    simp only [hc, show ((i : Int) < (l.length : Int)) = True from eq_true (by omega), show (0 ≤ (i : Int)) = True from eq_true (by omega), if_true]
    rw [show wrap64 ((i : Int) + 1) = ((i + 1 : Nat) : Int) from by unfold wrap64; omega]
    exact ih kk (i + 1) (by omega) (by omega)
theorem sameOps_k (l : List S97) (hl : l.length ≤ 9223372036854775807) (k : Nat) (hk : l.length < k) : gangwaylaw14_sameOps.f k (Cfa.conv l) l = some true := by
  unfold gangwaylaw14_sameOps.f
  rw [if_pos (by rw [Cfa.conv_length])]
  exact sameOps_l0 l hl l.length k 0 (by omega) hk
theorem same_l1 (f : List S61) (hf : f.length < 9000000000000000000) (hfo : ∀ y ∈ f, y.f3.length ≤ 9223372036854775807) (d : Nat) : ∀ (kk i : Nat), i + d = f.length → mostF f + d < kk → gangwaylaw14_same.l1 kk (f.map fdeV) f (i : Int) = some true := by
  induction d with
  | zero =>
    intro kk i h hk
    obtain ⟨kk, rfl⟩ : ∃ m, kk = m + 1 := ⟨kk - 1, by omega⟩
    rw [gangwaylaw14_same.l1, if_neg (by omega)]
  | succ d ih =>
    intro kk i h hk
    obtain ⟨kk, rfl⟩ : ∃ m, kk = m + 1 := ⟨kk - 1, by omega⟩
    have hi : i < f.length := by omega
    have hm := rd_memF f i hi
    have hg := (mostF_ge f).2 _ hm
    have ho := hfo _ hm
    have e := sameOps_k (rd_T61 f (i : Int)).f3 ho kk (by omega)
    rw [gangwaylaw14_same.l1, if_pos (by omega), if_pos (by omega), if_pos (by rw [List.length_map]; omega), rd_fdeV f i hi]
    rw [if_pos (show (fdeV (rd_T61 f (i : Int))).f0 = (rd_T61 f (i : Int)).f0 from rfl), if_pos (show (fdeV (rd_T61 f (i : Int))).f1 = (rd_T61 f (i : Int)).f1 from rfl), if_pos (show (fdeV (rd_T61 f (i : Int))).f2 = (rd_T61 f (i : Int)).f2 from rfl)]
    rw [show (fdeV (rd_T61 f (i : Int))).f3 = Cfa.conv (rd_T61 f (i : Int)).f3 from rfl, e, Option.bind_some, if_pos rfl]
    rw [show wrap64 ((i : Int) + 1) = ((i + 1 : Nat) : Int) from by unfold wrap64; omega]
    exact ih kk (i + 1) (by omega) (by omega)
theorem same_l0 (c : List S43) (hc : c.length < 9000000000000000000) (hco : ∀ x ∈ c, x.f1.length ≤ 9223372036854775807) (f : List S61) (hf : f.length < 9000000000000000000) (hfo : ∀ y ∈ f, y.f3.length ≤ 9223372036854775807) (d : Nat) : ∀ (kk i : Nat), i + d = c.length → mostC c + d + mostF f + f.length + 1 < kk → gangwaylaw14_same.l0 kk (c.map cieV) (f.map fdeV) c f (i : Int) = some true := by
  induction d with
  | zero =>
    intro kk i h hk
    obtain ⟨kk, rfl⟩ : ∃ m, kk = m + 1 := ⟨kk - 1, by omega⟩
    rw [gangwaylaw14_same.l0, if_neg (by omega)]
    exact same_l1 f hf hfo f.length kk 0 (by omega) (by omega)
  | succ d ih =>
    intro kk i h hk
    obtain ⟨kk, rfl⟩ : ∃ m, kk = m + 1 := ⟨kk - 1, by omega⟩
    have hi : i < c.length := by omega
    have hm := rd_memC c i hi
    have hg := (mostC_ge c).2 _ hm
    have ho := hco _ hm
    have e := sameOps_k (rd_T43 c (i : Int)).f1 ho kk (by omega)
    rw [gangwaylaw14_same.l0, if_pos (by omega), if_pos (by omega), if_pos (by rw [List.length_map]; omega), rd_cieV c i hi]
    rw [if_pos (show (cieV (rd_T43 c (i : Int))).f0 = (rd_T43 c (i : Int)).f0 from rfl)]
    rw [show (cieV (rd_T43 c (i : Int))).f1 = Cfa.conv (rd_T43 c (i : Int)).f1 from rfl, e, Option.bind_some, if_pos rfl]
    rw [show wrap64 ((i : Int) + 1) = ((i + 1 : Nat) : Int) from by unfold wrap64; omega]
    exact ih kk (i + 1) (by omega) (by omega)
theorem same_k (c : List S43) (hc : c.length < 9000000000000000000) (hco : ∀ x ∈ c, x.f1.length ≤ 9223372036854775807) (f : List S61) (hf : f.length < 9000000000000000000) (hfo : ∀ y ∈ f, y.f3.length ≤ 9223372036854775807) (k : Nat) (hk : 2 * mostC c + 2 * mostF f + 3 < k) : gangwaylaw14_same.f k (c.map cieV) (f.map fdeV) c f = some true := by
  obtain ⟨k, rfl⟩ : ∃ m, k = m + 1 := ⟨k - 1, by omega⟩
  have h1 := (mostC_ge c).1
  have h2 := (mostF_ge f).1
  unfold gangwaylaw14_same.f
  rw [if_pos (by rw [List.length_map]), List.length_map, show ((f.length : Int) != (f.length : Int)) = false from bne_self_eq_false _, gangwaylaw14_same.j0, if_neg (by decide)]
  exact same_l0 c hc hco f hf hfo c.length k 0 (by omega) (by omega)
theorem live_60 : gangwaylaw14_live.f 60 = some true := by decide +kernel
theorem live_k (k : Nat) (hk : 60 ≤ k) : gangwaylaw14_live.f k = some true := at_rounds (g := fun k => gangwaylaw14_live.f k) (fun k => gangwaylaw14_live.mono k) hk live_60
end Go.Proofs.Ytfgfnflhdabmcaa.Eh
end
section
namespace Go.Proofs.Ytfgfnflhdabmcaa.Pure
open Go.RowKit Go.Proofs.Ytfgfnflhdabmcaa.G Go.Proofs.Ytfgfnflhdabmcaa.Stmt Go.Proofs.YtfgfnflhdabmcaaW.PrintWords Go.Proofs.YtfgfnflhdabmcaaW.PrintLast Go.Proofs.YtfgfnflhdabmcaaW.PrintMore Go.Proofs.Ytfgfnflhdabmcaa.Bit Go.Proofs.Ytfgfnflhdabmcaa.Leb Go.Proofs.Ytfgfnflhdabmcaa.Eh Go.Proofs.Ytfgfnflhdabmcaa.EhOf Go.Proofs.Ytfgfnflhdabmcaa.EhB
open Go.Proofs.Ytfgfnflhdabmcaa.EhRd (trim trim_snoc)
theorem wf_int {a : Int} (h : (Lit.int .i64 a).wf = true) : -9223372036854775808 ≤ a ∧ a ≤ 9223372036854775807 := by
  simp [Lit.wf, IntKind.min, IntKind.max, IntKind.signed, IntKind.bits] at h
  omega
theorem wf_u8 {a : Int} (h : (Lit.int .u8 a).wf = true) : 0 ≤ a ∧ a ≤ 255 := by
  simp [Lit.wf, IntKind.min, IntKind.max, IntKind.signed, IntKind.bits] at h
  omega
theorem num_f (x : Int) : gangwaylaw14_num.f x = some x := rfl
def trimR (l : List S97) : List S97 := (l.reverse.dropWhile fun o => o.f0 == 0).reverse
theorem trimR_snoc (l : List S97) (o : S97) : trimR (l ++ [o]) = if o.f0 = 0 then trimR l else l ++ [o] := by
  unfold trimR
  rw [List.reverse_append]
  by_cases h : o.f0 = 0
  · simp [h]
  · simp [h]
theorem snoc_of {α : Type} {l : List α} {n : Nat} (h : l.length = n + 1) : ∃ a o, l = a ++ [o] ∧ a.length = n := by
  have hne : l ≠ [] := by intro e; rw [e] at h; cases h
  refine ⟨l.dropLast, l.getLast hne, (List.dropLast_concat_getLast hne).symm, by rw [List.length_dropLast]; omega⟩
theorem conv_trim (n : Nat) : ∀ l : List S97, l.length = n → Cfa.conv (trimR l) = trim (Cfa.conv l) := by
  induction n with
  | zero =>
    intro l h
    obtain rfl := List.eq_nil_of_length_eq_zero h
    rfl
  | succ n ih =>
    intro l h
    obtain ⟨a, o, rfl, ha⟩ := snoc_of h
    rw [trimR_snoc, show Cfa.conv (a ++ [o]) = Cfa.conv a ++ [⟨o.f0, o.f1, o.f2⟩] from by simp [Cfa.conv], trim_snoc]
    simp only
    split
    · exact ih a ha
    · simp [Cfa.conv]
theorem trimR_len (l : List S97) : (trimR l).length ≤ l.length := by
  unfold trimR
  rw [List.length_reverse]
  have := (List.dropWhile_sublist (fun o : S97 => o.f0 == 0) (l := l.reverse)).length_le
  rw [List.length_reverse] at this
  exact this
theorem trimmed_l0 (n : Nat) : ∀ (l : List S97) (k : Nat), l.length = n → n < k → n ≤ 9000000000000000000 → gangwaylaw14_trimmed.l0 k l = some (trimR l) := by
  induction n with
  | zero =>
    intro l k h hk _
    obtain ⟨k, rfl⟩ : ∃ m, k = m + 1 := ⟨k - 1, by omega⟩
    obtain rfl := List.eq_nil_of_length_eq_zero h
    rfl
  | succ n ih =>
    intro l k h hk hn
    obtain ⟨k, rfl⟩ : ∃ m, k = m + 1 := ⟨k - 1, by omega⟩
    obtain ⟨a, o, rfl, ha⟩ := snoc_of h
    have hl : ((a ++ [o]).length : Int) = (n : Int) + 1 := by rw [h]; omega
    have hw : wrap64 (((a ++ [o]).length : Int) - 1) = (n : Int) := by rw [hl]; unfold wrap64; omega
    have hrd : rd_T97 (a ++ [o]) (n : Int) = o := by
      unfold rd_T97
      rw [Int.toNat_natCast, List.getD_eq_getElem?_getD, ← ha, List.getElem?_concat_length]
      rfl
    rw [gangwaylaw14_trimmed.l0, if_pos (by omega), hw, if_pos (by omega), if_pos (by omega), hrd, trimR_snoc]
    by_cases c : o.f0 = 0
    · rw [if_pos c, if_pos c, if_pos (by omega), Int.toNat_natCast, ← ha, List.take_left' rfl]
      exact ih a k ha (by omega) (by omega)
    · rw [if_neg c, if_neg c]
theorem trimmed_k (l : List S97) (k : Nat) (hk : l.length < k) (hl : l.length ≤ 9000000000000000000) : gangwaylaw14_trimmed.f k l = some (trimR l) := trimmed_l0 l.length l k rfl hk hl
def trC (x : S43) : S43 := ⟨x.f0, trimR x.f1⟩
def trF (y : S61) : S61 := ⟨y.f0, y.f1, y.f2, trimR y.f3⟩
def sortedR (fs : List S61) : Nat → Nat → List S61
  | 0, _ => []
  | n + 1, ci => (fs.filter (fun y => y.f0 = (ci : Int))).map trF ++ sortedR fs n (ci + 1)
theorem conv_C (l : List S43) : (l.map trC).map cieV = (l.map cieV).map trimC := by
  rw [List.map_map, List.map_map]
  refine List.map_congr_left fun x _ => ?_
  simp only [Function.comp, trC, cieV, trimC, conv_trim _ x.f1 rfl]
theorem conv_F (l : List S61) : (l.map trF).map fdeV = (l.map fdeV).map trimF := by
  rw [List.map_map, List.map_map]
  refine List.map_congr_left fun x _ => ?_
  simp only [Function.comp, trF, fdeV, trimF, conv_trim _ x.f3 rfl]
theorem filt_conv (l : List S61) (ci : Nat) : (l.map fdeV).filter (fun y => decide (y.f0 = (ci : Int))) = (l.filter (fun y => decide (y.f0 = (ci : Int)))).map fdeV := by
  induction l with
  | nil => rfl
  | cons y l ih =>
    rw [List.map_cons, List.filter_cons, List.filter_cons, ih]
    show (if decide (y.f0 = (ci : Int)) = true then _ else _) = _
    split <;> rfl
theorem conv_sorted (l : List S61) : ∀ n ci, (sortedR l n ci).map fdeV = sortedV (l.map fdeV) n ci := by
  intro n
  induction n with
  | zero => intro ci; rfl
  | succ n ih =>
    intro ci
    rw [sortedR, sortedV, List.map_append, conv_F, ih, filt_conv]
theorem sortedR_mem (fs : List S61) : ∀ n ci, ∀ z ∈ sortedR fs n ci, ∃ y ∈ fs, z = trF y := by
  intro n
  induction n with
  | zero => intro ci z hz; cases hz
  | succ n ih =>
    intro ci z hz
    simp only [sortedR] at hz
    rcases List.mem_append.1 hz with hz | hz
    · obtain ⟨y, hy, rfl⟩ := List.mem_map.1 hz
      exact ⟨y, (List.mem_filter.1 hy).1, rfl⟩
    · exact ih _ z hz
theorem dropR {α : Type} (l : List α) (i : Nat) (h : i < l.length) (z : α) : l.drop i = l.getD i z :: l.drop (i + 1) := by
  rw [List.getD_eq_getElem?_getD, List.getElem?_eq_getElem h, List.drop_eq_getElem_cons h]
  rfl
theorem wn (n : Nat) (h : n ≤ 4000) : wrap64 ((n : Int) + 1) = ((n + 1 : Nat) : Int) := by unfold wrap64; omega
theorem back_l1 (cl : List S43) (fl : List S61) (hfl : fl.length ≤ 4000) (hfo : ∀ y ∈ fl, y.f3.length ≤ 4000) (a2 : Int) (b : List Int) (tr : List S43) (ci : Nat) (d : Nat) :
    ∀ (i k : Nat) (so : List S61), i + d = fl.length → 5000 ≤ k → so.length + d ≤ 2000000000 →
      gangwaylaw14_EhframeBack.l1 (k + d + 1) cl fl a2 b so tr (ci : Int) (i : Int) = gangwaylaw14_EhframeBack.l0 k cl fl a2 b (so ++ ((fl.drop i).filter (fun y => y.f0 = (ci : Int))).map trF) tr (wrap64 ((ci : Int) + 1)) := by
  induction d with
  | zero =>
    intro i k so h hk _
    rw [show k + 0 + 1 = k + 1 from rfl, gangwaylaw14_EhframeBack.l1, if_neg (by omega), List.drop_of_length_le (by omega)]
    simp
  | succ d ih =>
    intro i k so h hk hs
    have hi : i < fl.length := by omega
    have hd := dropR fl i hi z61
    have hr : rd_T61 fl (i : Int) = fl.getD i z61 := rfl
    have hm : fl.getD i z61 ∈ fl := List.mem_of_mem_drop (by rw [hd]; exact List.mem_cons_self)
    have ho := hfo _ hm
    rw [show k + (d + 1) + 1 = (k + d + 1) + 1 from rfl, gangwaylaw14_EhframeBack.l1, if_pos (by omega), if_pos (by omega), hr, hd, wn i (by omega)]
    generalize fl.getD i z61 = y at ho
    by_cases hc : y.f0 = (ci : Int)
    · rw [if_pos hc, trimmed_k y.f3 _ (by omega) (by omega), Option.bind_some, if_pos (by omega), ih (i + 1) k _ (by omega) hk (by rw [List.length_append, List.length_singleton]; omega), List.filter_cons_of_pos (by simpa using hc), List.map_cons]
      simp [trF]
    · rw [if_neg hc, ih (i + 1) k so (by omega) hk (by omega), List.filter_cons_of_neg (by simpa using hc)]
theorem back_l0 (cl : List S43) (hcl : cl.length ≤ 4000) (hco : ∀ x ∈ cl, x.f1.length ≤ 4000) (fl : List S61) (hfl : fl.length ≤ 4000) (hfo : ∀ y ∈ fl, y.f3.length ≤ 4000) (a2 : Int) (b : List Int) (d : Nat) :
    ∀ (ci k : Nat) (so : List S61), ci + d = cl.length → 5000 ≤ k → so.length + 4000 * d + 4000 ≤ 1900000000 →
      gangwaylaw14_EhframeBack.l0 (k + d * (fl.length + 2)) cl fl a2 b so ((cl.take ci).map trC) (ci : Int) = gangwaylaw14_EhframeBack.l0 k cl fl a2 b (so ++ sortedR fl d ci) (cl.map trC) (cl.length : Int) := by
  induction d with
  | zero =>
    intro ci k so h hk _
    have : ci = cl.length := by omega
    subst this
    simp [sortedR]
  | succ d ih =>
    intro ci k so h hk hs
    have hi : ci < cl.length := by omega
    have hd := dropR cl ci hi z43
    have hr : rd_T43 cl (ci : Int) = cl.getD ci z43 := rfl
    have hm : cl.getD ci z43 ∈ cl := List.mem_of_mem_drop (by rw [hd]; exact List.mem_cons_self)
    have ho := hco _ hm
    have htk : (cl.take ci).map trC ++ [trC (cl.getD ci z43)] = (cl.take (ci + 1)).map trC := by
      rw [List.take_succ_eq_append_getElem hi, List.map_append, List.getD_eq_getElem?_getD, List.getElem?_eq_getElem hi]
      rfl
    rw [show k + (d + 1) * (fl.length + 2) = ((k + d * (fl.length + 2)) + fl.length + 1) + 1 from by rw [Nat.succ_mul]; omega, gangwaylaw14_EhframeBack.l0, if_pos (by omega), if_pos (by omega), hr, trimmed_k _ _ (by omega) (by omega), Option.bind_some, if_pos (by rw [List.length_map, List.length_take]; omega)]
    rw [show (⟨(cl.getD ci z43).f0, trimR (cl.getD ci z43).f1⟩ : S43) = trC (cl.getD ci z43) from rfl, htk]
    have h1 := back_l1 cl fl hfl hfo a2 b ((cl.take (ci + 1)).map trC) ci fl.length 0 (k + d * (fl.length + 2)) so (by omega) (by omega) (by omega)
    rw [show ((0 : Nat) : Int) = 0 from rfl, List.drop_zero] at h1
    have hlf : (fl.filter (fun y => decide (y.f0 = (ci : Int)))).length ≤ 4000 := Nat.le_trans (List.length_filter_le _ _) hfl
    rw [h1, wn ci (by omega), ih (ci + 1) k _ (by omega) hk (by rw [List.length_append, List.length_map]; omega), sortedR, List.append_assoc]
theorem wr_bad (c : Cs) (fs : Fs) (a2 : Int) (e : Bool) (h : (wrV c fs a2 e).2.2 ≠ 0) : (wrV c fs a2 e).1 = [] := by
  unfold wrV at h ⊢
  split
  · rename_i g
    rw [if_pos g] at h
    split
    · rfl
    · rename_i r
      rw [if_neg r] at h
      cases e1 : outV fs a2 c 0 [] (List.replicate fs.length 0) with
      | none => rfl
      | some r =>
        rw [e1] at h
        simp only at h ⊢
        unfold lastV at h ⊢
        by_cases q : (((if e = true then r.1 ++ [0, 0, 0, 0] else r.1).length : Nat) : Int) > 1048576
        · rw [if_pos q]
        · rw [if_neg q] at h
          exact absurd rfl h
  · rfl
theorem back_j0 (l0 : List S43) (l1 : List S61) (a2 : Int) (a3 : Bool) (hc : l0.length < 4398046511104) (hco : ∀ x ∈ l0, x.f1.length < 5864062014805) (hl : l1.length < 2932031007402) (ho : ∀ y ∈ l1, y.f3.length < 5864062014805) :
    ∃ K, ∀ k, K ≤ k → gangwaylaw14_EhframeBack.j0 k l0 l1 a2 a3 = some true := by
  have hC := (mostC_ge l0).1
  have hF := (mostF_ge l1).1
  obtain ⟨K, hK⟩ : ∃ K, K = 40000 + 4 * mostC l0 + 5 * mostF l1 + 4000 * 4002 + 2 * mostC (l0.map trC) + 2 * mostF (sortedR l1 l0.length 0) + l0.length * (l1.length + 2) := ⟨_, rfl⟩
  refine ⟨K, fun k hk => ?_⟩
  obtain ⟨m, rfl⟩ : ∃ m, k = m + 1 := ⟨k - 1, by omega⟩
  rw [gangwaylaw14_EhframeBack.j0, tables_k l0 hc hco l1 hl ho m (by omega), Option.bind_some]
  simp only
  rw [write_k _ _ a2 a3 m (by rw [List.length_map, List.length_map]; omega), Option.bind_some, num_f, Option.bind_some]
  by_cases e1 : (wrV (l0.map cieV) (l1.map fdeV) a2 a3).2.2 = 0
  · rw [if_pos e1]
    obtain ⟨ha, hg, hl', -⟩ := wr_good _ _ a2 a3 e1
    have hrb := read_back _ _ a2 a3 e1
    obtain ⟨hcl, hfl, g0, g1, -⟩ := check_good hg
    rw [List.length_map] at hcl hfl hrb
    have hco4 : ∀ x ∈ l0, x.f1.length ≤ 4000 := fun x hx => by
      have := g0 (cieV x) (List.mem_map_of_mem hx)
      simp only [okC0, decide_eq_true_eq, cieV, Cfa.conv_length] at this
      omega
    have hfo4 : ∀ y ∈ l1, y.f3.length ≤ 4000 := fun y hy => by
      have := g1 (fdeV y) (List.mem_map_of_mem hy)
      simp only [okF0, decide_eq_true_eq, fdeV, Cfa.conv_length] at this
      omega
    generalize (wrV (l0.map cieV) (l1.map fdeV) a2 a3).1 = L at hl' hrb ⊢
    obtain ⟨q, hq⟩ : ∃ q, m = (q + 1) + l0.length * (l1.length + 2) := ⟨m - 1 - l0.length * (l1.length + 2), by omega⟩
    have h1 := back_l0 l0 hcl hco4 l1 hfl hfo4 a2 L l0.length 0 (q + 1) [] (by omega) (by omega) (by simp; omega)
    rw [List.take_zero, List.map_nil, List.nil_append, show ((0 : Nat) : Int) = 0 from rfl, ← hq] at h1
    rw [h1, gangwaylaw14_EhframeBack.l0, if_neg (by omega)]
    rw [show ehframe_Read.f L a2 = some ((l0.map cieV).map trimC, sortedV (l1.map fdeV) l0.length 0, 0) from hrb, Option.bind_some, num_f, Option.bind_some, if_pos rfl, ← conv_C, ← conv_sorted]
    have hsl : (sortedR l1 l0.length 0).length ≤ 100000000 := by
      have h2 := congrArg List.length (conv_sorted l1 l0.length 0)
      rw [List.length_map, (by simpa using (check_trim hg).2 : (sortedV (l1.map fdeV) l0.length 0).length = l1.length)] at h2
      omega
    rw [same_k (l0.map trC) (by rw [List.length_map]; omega) (fun x hx => by
      obtain ⟨y, hy, rfl⟩ := List.mem_map.1 hx
      have := hco4 y hy
      have := trimR_len y.f1
      show (trimR y.f1).length ≤ _
      omega) (sortedR l1 l0.length 0) (by omega) (fun z hz => by
      obtain ⟨y, hy, rfl⟩ := sortedR_mem _ _ _ _ hz
      have := hfo4 y hy
      have := trimR_len y.f3
      show (trimR y.f3).length ≤ _
      omega) q (by omega), Option.bind_some, if_pos rfl, live_k q (by omega)]
    rfl
  · rw [if_neg e1, wr_bad _ _ _ _ e1, if_pos (show ((([] : List Int).length : Nat) : Int) = 0 from rfl), live_k m (by omega)]
    rfl
theorem EhframeBack : Stmt.EhframeBack := by
  intro l0 l1 a2 a3 a4 l5 l6 w0 w1 w2 w3 w5 w6 hbulk
  obtain ⟨c1, c2, c3⟩ := w0
  obtain ⟨f1, f2, f3⟩ := w1
  obtain ⟨v0, v1, v2, v3⟩ := w3
  have hsum : ∀ l : List Int, (l.map (fun _ => 1)).sum = l.length := by
    intro l
    induction l with
    | nil => rfl
    | cons x l ih => simp [ih]; omega
  have h5 : l5.length ≤ 1048576 := by have := hsum l5; omega
  have h6 : l6.length ≤ 1048576 := by have := hsum l6; omega
  clear hbulk
  have b5 : Byte l5 := fun b hb => wf_u8 (w5.2.2 b hb)
  have b6 : Byte l6 := fun b hb => wf_u8 (w6.2.2 b hb)
  obtain ⟨K, hK⟩ := back_j0 l0 l1 a2 a3 (by omega) (fun x hx => by have := (c3 x hx).2.1; omega) (by omega) (fun y hy => by have := (f3 y hy).2.2.2.1; omega)
  refine ⟨K + 60, ?_⟩
  have hj := hK (K + 60) (by omega)
  unfold gangwaylaw14_EhframeBack.f
  by_cases ho : (ofF a4.f0).2.2.2 = true
  · obtain ⟨hof, hs⟩ := ofF_size ho
    rw [prog_put hof hs a4.f1 a4.f2 a4.f3 (wf_int v1) (K + 60) (by omega), Option.bind_some, num_f, Option.bind_some]
    obtain ⟨⟨w, er⟩, hp⟩ : ∃ p, putS (ofF a4.f0).1 (ofF a4.f0).2.1 (ofF a4.f0).2.2.1 a4.f1 a4.f2 a4.f3 = p := ⟨_, rfl⟩
    rw [hp]
    simp only
    by_cases he : er = 0
    · subst he
      rw [if_pos rfl]
      simp only [Option.bind_some, List.nil_append]
      have hr2 : -1152921504606846976 ≤ a4.f2 ∧ a4.f2 ≤ 1152921504606846976 := by
        unfold putS at hp
        split at hp
        · have := (Prod.mk.inj hp).2; omega
        · rename_i hn
          exact far_no (by rw [← Bool.not_eq_true]; intro h; exact hn (.inr (.inl h)))
      have hwl : w.length ≤ 10 ∧ Byte w := by
        unfold putS at hp
        split at hp
        · have := (Prod.mk.inj hp).2; omega
        · refine ⟨?_, byte_tail hp⟩
          have := tailS_le (ofF a4.f0).1 (ofF a4.f0).2.1 (wrap64 (a4.f1 - offV (ofF a4.f0).2.2.1 a4.f2 a4.f3)) hs
          rw [hp] at this
          exact this
      have hby : Byte (l5 ++ w ++ l6) := byte_app (byte_app b5 hwl.2) b6
      have hw : wrap64 (a4.f2 - (l5.length : Int)) = a4.f2 - (l5.length : Int) := by unfold wrap64; omega
      have hlen : (l5 ++ w ++ l6).length = l5.length + w.length + l6.length := by simp; omega
      rw [if_pos (by simp; omega), if_pos (by omega), if_pos (by rw [List.length_append]; omega), hw, prog_get hof hs _ hby (by omega) _ _ _ (K + 60) (by omega), Option.bind_some]
      by_cases hn : a4.f2 - (l5.length : Int) ≥ -1152921504606846976
      · rw [if_pos hn, get_put _ _ _ a4.f1 a4.f2 a4.f3 hs w hp l5 l6 (by omega) (a4.f2 - (l5.length : Int)) (by omega) (by unfold farB; simp; omega), num_f, Option.bind_some, if_pos rfl, if_pos rfl, if_pos (show (l5.length : Int) + (w.length : Int) = wrap64 ((l5.length : Int) + (w.length : Int)) by unfold wrap64; omega)]
        exact hj
      · rw [if_neg hn]
        exact hj
    · rw [if_neg he]
      exact hj
  · rw [Bool.not_eq_true] at ho
    have hput : ehframe_Put.f (K + 60) a4.f0 a4.f1 a4.f2 a4.f3 = some ([], 140) := by
      unfold ehframe_Put.f
      rw [show ehframe_of.f a4.f0 = some ((ofF a4.f0).1, (ofF a4.f0).2.1, (ofF a4.f0).2.2.1, false) from congrArg some (by rw [← ho])]
      rfl
    rw [hput, Option.bind_some, num_f, Option.bind_some, if_neg (by decide)]
    exact hj
end Go.Proofs.Ytfgfnflhdabmcaa.Pure
end
section
namespace Go.Proofs.Ytfgfnflhdabmcaa.Opening
open Go.ChangeShapes Go.WideShapes Go.Proofs.YtfgfnflhdabmcaaW.PrintWords
structure Opens {α : Type} (P : Program) (t : TypeId) (d : Kd α) (wf : α → Prop) (wt : α → Nat) : Prop where
  cells : P.cellsOf t = d.sz
  op : ∀ {H : Type} {enc : TypeId × Value → H} {w : World} {base : Nat} {spare : Nat → Bool} {held : Bool} {fuel : Nat} {cs : List Value} {x : DataW H × List MemPlace},
    DataW.trod enc P w base spare held fuel t cs = some x → (∀ n ∈ x.1.weights P t, n ≤ 140737488351232) → ∃ a : α, d.K w a cs ∧ wf a ∧ wt a ≤ Rows.uptoBulk x.1
theorem opens_int {P : Program} {t : TypeId} (k : IntKind) (ht : P.underlying t = some (.int k)) (hc : P.cellsOf t = 1) : Opens P t (Kd.int k) (fun a => (Lit.int k a).wf = true) (fun _ => 1) :=
  ⟨hc, fun h _ => by
    obtain ⟨n, rfl, rfl, hw⟩ := DataW.trod_int ht h
    exact ⟨n, rfl, hw, by simp [Rows.uptoBulk]⟩⟩
theorem list_of {α : Type} {p : Nat → α → Prop} : ∀ {n : Nat}, (∀ i, i < n → ∃ a, p i a) → ∃ l : List α, l.length = n ∧ ∀ i (h : i < l.length), p i l[i]
  | 0, _ => ⟨[], rfl, fun i h => absurd h (Nat.not_lt_zero _)⟩
  | n + 1, h => by
    obtain ⟨l, hl, hp⟩ := list_of (n := n) (fun i hi => h i (Nat.lt_succ_of_lt hi))
    obtain ⟨a, ha⟩ := h n (Nat.lt_succ_self n)
    refine ⟨l ++ [a], by simp [hl], fun i hi => ?_⟩
    by_cases hlt : i < l.length
    · rw [List.getElem_append_left hlt]
      exact hp i hlt
    · have e : i = n := by simp at hi; omega
      subst e
      rw [List.getElem_append_right (by omega)]
      simpa [hl] using ha
theorem bulk_all {α H : Type} {wt : α → Nat} : ∀ {l : List α} {ds : List (DataW H)}, l.length ≤ ds.length → (∀ i (h : i < l.length) d, ds[i]? = some d → wt l[i] ≤ Rows.uptoBulk d) → (l.map wt).sum ≤ Rows.uptoBulkAll ds
  | [], _, _, _ => by simp
  | a :: l, [], h, _ => by simp at h
  | a :: l, d :: ds, h, hw => by
    have h0 := hw 0 (by simp) d rfl
    have h1 := bulk_all (l := l) (ds := ds) (by simpa using h) (fun i hi d' hd' => hw (i + 1) (by simpa using hi) d' (by simpa using hd'))
    simp only [List.map_cons, List.sum_cons, Rows.uptoBulkAll]
    simp at h0
    omega
theorem weights_all {H : Type} {P : Program} {e : TypeId} : ∀ {ds : List (DataW H)} {d : DataW H}, d ∈ ds → ∀ n ∈ d.weights P e, n ∈ DataW.weightsAll P e ds
  | d0 :: ds, d, h, n, hn => by
    simp only [DataW.weightsAll, List.mem_append]
    cases List.mem_cons.1 h with
    | inl e => subst e; exact .inl hn
    | inr e => exact .inr (weights_all e n hn)
theorem opens_slice {α : Type} {P : Program} {t e : TypeId} {d : Kd α} {wf : α → Prop} {wt : α → Nat} {b : Nat} (ho : Opens P e d wf wt) (ht : P.underlying t = some (.slice e)) (hc : P.cellsOf t = 1) (hb : P.bytesOf e = b) :
    Opens P t (Kd.slice e d) (fun l => l.length * b ≤ 140737488351232 ∧ l.length ≤ 9223372036854775807 ∧ ∀ a ∈ l, wf a) (fun l => (l.map wt).sum + 1) :=
  ⟨hc, fun {H enc w base spare held fuel cs x} h hz => by
    subst hb
    rcases DataW.trod_slice ht h with ⟨rfl, rfl⟩ | ⟨a, len, cap, elems, rest, n, _, rfl, rfl, hb, hl, hm, hlen, hel, hsp, hns⟩
    · exact ⟨[], ⟨none, 0, rfl, Nat.le_refl _, Kd.C_nil d w⟩, ⟨by simp, by simp, by simp⟩, by simp [Rows.uptoBulk]⟩
    · have hm' : cap ≤ 9223372036854775807 := hm
      have hz1 : (elems.length + rest.length) * P.bytesOf e ≤ 140737488351232 := hz _ (by simp [DataW.weights, ht])
      have hz2 : ∀ y ∈ elems, ∀ n ∈ y.1.weights P e, n ≤ 140737488351232 := fun y hy n hn => hz _ (by
        simp only [DataW.weights, ht, List.mem_cons, List.mem_append]
        exact .inr (.inl (weights_all (List.mem_map.2 ⟨y, hy, rfl⟩) n hn)))
      have each : ∀ i, i < len → ∃ a' : α, (∃ cs' y, w.cells? base (a.add (i * P.cellsOf e)) (P.cellsOf e) = some cs' ∧ d.K w a' cs' ∧ elems[i]? = some y ∧ wt a' ≤ Rows.uptoBulk y.1) ∧ wf a' := fun i hi => by
        have h1 := hel i hi
        rw [List.getElem?_eq_getElem (by omega)] at h1
        obtain ⟨cs', h2, h3⟩ := Option.bind_eq_some_iff.1 h1
        obtain ⟨a', k1, k2, k3⟩ := ho.op h3 (hz2 _ (List.getElem_mem _))
        exact ⟨a', ⟨cs', _, h2, k1, List.getElem?_eq_getElem (by omega), k3⟩, k2⟩
      obtain ⟨l, hl1, hl2⟩ := list_of each
      subst hl1
      refine ⟨l, ⟨some a, cap, rfl, hl, rfl, by omega, fun _ => ⟨a, rfl, fun j p hp => ?_⟩⟩, ⟨?_, by omega, fun a' ha' => ?_⟩, ?_⟩
      · obtain ⟨hj, rfl⟩ := List.getElem?_eq_some_iff.1 hp
        obtain ⟨⟨cs', y, h2, k1, _, _⟩, _⟩ := hl2 j hj
        obtain ⟨_, hcl, hcell⟩ := World.cells?_some h2
        refine ⟨cs', by rw [hcl, ho.cells], k1, fun i u hu => ?_⟩
        have hi : i < P.cellsOf e := by rw [← hcl]; exact (List.getElem?_eq_some_iff.1 hu).1
        have := hcell i hi
        rw [hu, ho.cells] at this
        rw [← this]
        congr 1
        unfold Addr.add
        by_cases hi0 : i = 0 <;> by_cases hj0 : j * d.sz = 0 <;> simp [hi0, hj0, Nat.add_assoc]
      · refine Nat.le_trans (Nat.mul_le_mul_right _ ?_) hz1
        omega
      · obtain ⟨j, hj, rfl⟩ := List.getElem_of_mem ha'
        exact (hl2 j hj).2
      · have := bulk_all (l := l) (ds := elems.map (·.1)) (wt := wt) (by simp; omega) (fun i hi dd hd => by
          obtain ⟨⟨_, y, _, _, hy, hw⟩, _⟩ := hl2 i hi
          rw [List.getElem?_map, hy] at hd
          simp at hd
          subst hd
          exact hw)
        simp only [Rows.uptoBulk]
        omega⟩
def OpensF {α : Type} (P : Program) (fs : List Field) (off : Nat) (d : Kd α) (wf : α → Prop) (wt : α → Nat) : Prop :=
  (∃ f r, fs = f :: r ∧ f.offset = off) ∧
  ∀ {H : Type} {enc : TypeId × Value → H} {w : World} {base : Nat} {spare : Nat → Bool} {held : Bool} {fuel : Nat} {cs : List Value} {xs : List (DataW H × List MemPlace)},
    cs.length = d.sz → xs.length = fs.length → (∀ (i : Nat) (f : Field), fs[i]? = some f → DataW.trod enc P w base spare held fuel f.type ((cs.drop (f.offset - off)).take (P.cellsOf f.type)) = xs[i]? ∧ off ≤ f.offset) →
    (∀ n ∈ DataW.weightsEach P (fs.map (·.type)) (xs.map (·.1)), n ≤ 140737488351232) → ∃ a : α, d.K w a cs ∧ wf a ∧ wt a ≤ Rows.uptoBulkAll (xs.map (·.1))
theorem opensF_one {α : Type} {P : Program} {f : Field} {off : Nat} {d : Kd α} {wf : α → Prop} {wt : α → Nat} (ho : Opens P f.type d wf wt) (hf : f.offset = off) : OpensF P [f] off d wf wt :=
  ⟨⟨f, [], rfl, hf⟩, fun {H enc w base spare held fuel cs xs} hc hx h hz => by
    match xs, hx with
    | [x], _ =>
      have h1 := (h 0 f rfl).1
      rw [hf, Nat.sub_self, List.drop_zero, ho.cells, List.take_of_length_le (by omega)] at h1
      obtain ⟨a, k1, k2, k3⟩ := ho.op (x := x) (by simpa using h1) (fun n hn => hz n (by simp [DataW.weightsEach, hn]))
      exact ⟨a, k1, k2, by simpa [Rows.uptoBulkAll] using k3⟩⟩
theorem opensF_cons {α β : Type} {P : Program} {f : Field} {fs : List Field} {off : Nat} {a : Kd α} {b : Kd β} {wfa : α → Prop} {wta : α → Nat} {wfb : β → Prop} {wtb : β → Nat} (ho : Opens P f.type a wfa wta) (hf : f.offset = off)
    (hr : OpensF P fs (off + a.sz) b wfb wtb) (hge : ∀ g ∈ fs, off + a.sz ≤ g.offset) : OpensF P (f :: fs) off (Kd.pair a b) (fun x => wfa x.1 ∧ wfb x.2) (fun x => wta x.1 + wtb x.2) :=
  ⟨⟨f, fs, rfl, hf⟩, fun {H enc w base spare held fuel cs xs} hc hx h hz => by
    match xs, hx with
    | x :: xs, hx =>
      have hc' : cs.length = a.sz + b.sz := hc
      have h1 := (h 0 f rfl).1
      rw [hf, Nat.sub_self, List.drop_zero, ho.cells] at h1
      obtain ⟨u, k1, k2, k3⟩ := ho.op (x := x) (by simpa using h1) (fun n hn => hz n (by simp [DataW.weightsEach, hn]))
      obtain ⟨v, j1, j2, j3⟩ := hr.2 (cs := cs.drop a.sz) (xs := xs) (by simp; omega) (by simpa using hx) (fun i g hg => by
        obtain ⟨h2, h3⟩ := h (i + 1) g (by simpa using hg)
        have h4 := hge g (List.mem_of_getElem? hg)
        refine ⟨?_, h4⟩
        rw [List.drop_drop, show a.sz + (g.offset - (off + a.sz)) = g.offset - off from by omega]
        simpa using h2) (fun n hn => hz n (by simp [DataW.weightsEach, hn]))
      refine ⟨(u, v), ⟨cs.take a.sz, cs.drop a.sz, (List.take_append_drop _ _).symm, k1, j1⟩, ⟨k2, j2⟩, ?_⟩
      simp only [List.map_cons, Rows.uptoBulkAll]
      omega⟩
theorem opens_struct {α β : Type} {P : Program} {t : TypeId} {fs : Array Field} {d : Kd α} {wf : α → Prop} {wt : α → Nat} (f : β → α) (g : α → β) (hfg : ∀ a, f (g a) = a) (ht : P.underlying t = some (.struct fs)) (hc : P.cellsOf t = d.sz)
    (ho : OpensF P fs.toList 0 d wf wt) : Opens P t (Kd.iso d f) (fun x => wf (f x)) (fun x => wt (f x) + 1) :=
  ⟨hc, fun {H enc w base spare held fuel cs x} h hz => by
    obtain ⟨xs, n, _, rfl, hl, hxl, hx⟩ := DataW.trod_struct ht h
    obtain ⟨a, k1, k2, k3⟩ := ho.2 (cs := cs) (xs := xs) (by rw [hl, hc]) (by simpa using hxl) (fun i fd hfd => ⟨by
      have := hx i fd (by simpa using hfd)
      simpa using this, Nat.zero_le _⟩) (fun m hm => hz m (by simpa [DataW.weights, ht] using hm))
    refine ⟨g a, ?_, ?_, ?_⟩
    · show d.K w (f (g a)) cs
      rw [hfg]
      exact k1
    · rw [hfg]
      exact k2
    · rw [hfg]
      simp only [Rows.uptoBulk]
      omega⟩
theorem weights_of {H : Type} {P : Program} {ts : List TypeId} {ds : List (DataW H)} (h : (DataW.weightsEach P ts ds).all (· ≤ reachBytes) = true) {j : Nat} {t : TypeId} {d : DataW H} (ht : ts[j]? = some t) (hd : ds[j]? = some d) : ∀ n ∈ d.weights P t, n ≤ 140737488351232 := fun n hn => by
  have := List.all_eq_true.1 h _ (DataW.weights_mem_each ht hd n hn)
  exact of_decide_eq_true this
end Go.Proofs.Ytfgfnflhdabmcaa.Opening
end
