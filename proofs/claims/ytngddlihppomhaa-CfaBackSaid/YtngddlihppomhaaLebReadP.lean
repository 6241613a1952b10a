/- Numbers in groups of seven bits, read: what leb.ReadUleb and leb.ReadSleb answer; what was written is read; no shorter bytes are the same number. -/
import Derived.Test.YtngddlihppomhaaLebNumP
import Derived.Test.YtngddlihppomhaaGfM
namespace Go.Proofs.Ytngddlihppomhaa.Leb
set_option linter.unusedVariables false
set_option linter.unusedSimpArgs false
open Go.RowKit Go.Proofs.Ytngddlihppomhaa.G Go.Proofs.YtngddlihppomhaaW.PrintWords Go.Proofs.YtngddlihppomhaaW.PrintLast Go.Proofs.YtngddlihppomhaaW.PrintMore Go.Proofs.Ytngddlihppomhaa.Bit

/-- the groups' bits as a number -/
def gN : List Int → Int
  | [] => 0
  | x :: xs => x % 128 + 128 * gN xs
theorem pow128 (i : Nat) : (128 : Int) ^ (i + 1) = 128 * 128 ^ i := by rw [Int.pow_succ, Int.mul_comm]
theorem pow128_pos (i : Nat) : (0 : Int) < 128 ^ i := Int.pow_pos (by decide)
theorem pow128_mono {i j : Nat} (h : i ≤ j) : (128 : Int) ^ i ≤ 128 ^ j := by
  have h2 : ((128 ^ i : Nat) : Int) ≤ ((128 ^ j : Nat) : Int) := Int.ofNat_le.mpr (Nat.pow_le_pow_right (n := 128) (by decide) h)
  rw [Int.natCast_pow, Int.natCast_pow] at h2
  exact h2
theorem two7 (i : Nat) : (2 : Int) ^ (7 * i) = 128 ^ i := by rw [Int.pow_mul]; rfl
theorem gN_range (l : List Int) : 0 ≤ gN l ∧ gN l < 128 ^ l.length := by
  induction l with
  | nil => simp [gN]
  | cons x xs ih =>
    simp only [gN, List.length_cons, pow128]
    omega
theorem lebJn_eq (g : List Int) (hg : ∀ b ∈ g, 0 ≤ b ∧ b ≤ 255) : ∀ (i : Nat) (u : Int), i + g.length ≤ 10 → 0 ≤ u → u < 128 ^ i → u < 18446744073709551616 → lebJn g i u = (u + 128 ^ i * gN g) % 18446744073709551616 := by
  induction g with
  | nil =>
    intro i u _ h0 h1 h2
    simp only [lebJn, gN]
    omega
  | cons x xs ih =>
    intro i u hi h0 h1 h2
    have hx := hg x (by simp)
    simp only [List.length_cons] at hi
    have hp := pow128_pos i
    have hp9 : (128 : Int) ^ i ≤ 9223372036854775808 := by
      have := pow128_mono (show i ≤ 9 by omega)
      exact this
    have hdvd : (128 : Int) ^ i ∣ 18446744073709551616 := by
      have h : (18446744073709551616 : Int) = 2 ^ (7 * i) * 2 ^ (64 - 7 * i) := by
        rw [← Int.pow_add, show 7 * i + (64 - 7 * i) = 64 from by omega]
        rfl
      rw [h, two7]
      exact Int.dvd_mul_right _ _
    have hv : shl .u64 (IntKind.u64.wrap (Go.bits .and .u8 x 127)) (7 * (i : Int)) = (x % 128 * 128 ^ i) % 18446744073709551616 := by
      unfold shl
      rw [b_and127' x hx.1 (by omega), wrap_u64, wrap_u64, show (7 * (i : Int)).toNat = 7 * i from by omega, Nat.min_eq_left (by simp [IntKind.bits]; omega), two7, show x % 128 % 18446744073709551616 = x % 128 from by omega]
    have hv0 : 0 ≤ (x % 128 * 128 ^ i) % 18446744073709551616 := by omega
    have hv1 : (x % 128 * 128 ^ i) % 18446744073709551616 < 18446744073709551616 := by omega
    have hv2 : ((x % 128 * 128 ^ i) % 18446744073709551616) % 128 ^ i = 0 := by
      rw [Int.emod_emod_of_dvd _ hdvd]
      exact Int.mul_emod_left _ _
    have hle : (x % 128 * 128 ^ i) % 18446744073709551616 ≤ x % 128 * 128 ^ i := by
      have hm : 0 ≤ x % 128 * 128 ^ i := Int.mul_nonneg (by omega) (by omega)
      omega
    have hmx : x % 128 * 128 ^ i ≤ 127 * 128 ^ i := Int.mul_le_mul_of_nonneg_right (by omega) (by omega)
    have hor : Go.bits .or .u64 u ((x % 128 * 128 ^ i) % 18446744073709551616) = u + (x % 128 * 128 ^ i) % 18446744073709551616 := by
      refine u64_join u _ (7 * i) h0 ?_ hv0 ?_ hv1 h2
      · rw [two7]; exact h1
      · rw [two7]; exact hv2
    have hsum : u + (x % 128 * 128 ^ i) % 18446744073709551616 < 18446744073709551616 := by
      obtain ⟨q, hq⟩ := Int.dvd_of_emod_eq_zero hv2
      obtain ⟨r, hr⟩ := hdvd
      have h3 : 128 ^ i * q < 128 ^ i * r := by rw [← hq, ← hr]; exact hv1
      have h4 : q < r := Int.lt_of_mul_lt_mul_left h3 (by omega)
      have h5 : 128 ^ i * (q + 1) ≤ 128 ^ i * r := Int.mul_le_mul_of_nonneg_left (by omega) (by omega)
      rw [Int.mul_add, Int.mul_one, ← hq, ← hr] at h5
      omega
    simp only [lebJn]
    rw [hv, hor, ih (fun b hb => hg b (by simp [hb])) (i + 1) _ (by omega) (by omega) (by rw [pow128]; omega) hsum]
    simp only [gN]
    rw [pow128, Int.mul_add, Int.mul_comm (128 ^ i) (x % 128)]
    have e : (128 : Int) ^ i * (128 * gN xs) = 128 * 128 ^ i * gN xs := by rw [Int.mul_comm 128 (128 ^ i), Int.mul_assoc]
    rw [e]
    generalize (128 : Int) * 128 ^ i * gN xs = y
    generalize x % 128 * 128 ^ i = z
    omega
theorem lebJn_val (g : List Int) (hg : ∀ b ∈ g, 0 ≤ b ∧ b ≤ 255) (hl : g.length ≤ 10) : lebJn g 0 0 = gN g % 18446744073709551616 := by
  have := lebJn_eq g hg 0 0 (by omega) (by omega) (by simp) (by omega)
  simpa using this

/-! ### what is written -/
theorem ulebL_range (u : Nat) : ∀ b ∈ ulebL u, 0 ≤ b ∧ b ≤ 255 := by
  induction u using Nat.strongRecOn with
  | _ u ih =>
    intro b hb
    by_cases h : 127 < u
    · rw [ulebL_big h] at hb
      rcases List.mem_cons.1 hb with rfl | hb
      · omega
      · exact ih (u / 128) (by omega) b hb
    · rw [ulebL_small h] at hb
      simp at hb
      omega
theorem ulebL_gN (u : Nat) : gN (ulebL u) = u := by
  induction u using Nat.strongRecOn with
  | _ u ih =>
    by_cases h : 127 < u
    · rw [ulebL_big h]
      simp only [gN]
      rw [ih (u / 128) (by omega)]
      omega
    · rw [ulebL_small h]
      simp only [gN]
      omega
theorem ulebL_pos (u : Nat) : 0 < (ulebL u).length := by
  by_cases h : 127 < u
  · rw [ulebL_big h]; simp
  · rw [ulebL_small h]; simp
theorem ulebL_le (d : Nat) : ∀ u : Nat, u < 128 ^ (d + 1) → (ulebL u).length ≤ d + 1 := by
  induction d with
  | zero =>
    intro u h
    rw [ulebL_small (by simp at h; omega)]
    simp
  | succ d ih =>
    intro u h
    by_cases c : 127 < u
    · rw [ulebL_big c]
      have := ih (u / 128) (by rw [Nat.pow_succ] at h; omega)
      simp
      omega
    · rw [ulebL_small c]
      simp
/-- the groups but the last are marked, the last is not -/
theorem ulebL_grp (u : Nat) : ∀ (behind : List Int) (j : Nat), j + (ulebL u).length ≤ 10 → lebGrp (ulebL u ++ behind) j = .inl (j + (ulebL u).length) := by
  induction u using Nat.strongRecOn with
  | _ u ih =>
    intro behind j hj
    by_cases h : 127 < u
    · rw [ulebL_big h] at hj ⊢
      simp only [List.length_cons, List.cons_append, lebGrp] at hj ⊢
      have hp := ulebL_pos (u / 128)
      rw [if_neg (by omega), if_neg (by omega), ih (u / 128) (by omega) behind (j + 1) (by omega)]
      congr 1
      omega
    · rw [ulebL_small h] at hj ⊢
      simp only [List.length_singleton, List.singleton_append, lebGrp] at hj ⊢
      rw [if_neg (by omega), if_pos (by omega)]
theorem grp_marked (l : List Int) : ∀ j, (∀ b ∈ l, 128 ≤ b) → j + l.length ≤ 10 → lebGrp l j = .inr 20 := by
  induction l with
  | nil => intro j _ _; rfl
  | cons x xs ih =>
    intro j h hj
    simp only [List.length_cons] at hj
    simp only [lebGrp]
    have := h x (by simp)
    rw [if_neg (by omega), if_neg (by omega)]
    exact ih _ (fun b hb => h b (by simp [hb])) (by omega)
theorem ulebL_marked (u : Nat) : ∀ b ∈ (ulebL u).take ((ulebL u).length - 1), 128 ≤ b := by
  induction u using Nat.strongRecOn with
  | _ u ih =>
    by_cases h : 127 < u
    · rw [ulebL_big h]
      have hp := ulebL_pos (u / 128)
      simp only [List.length_cons, Nat.add_sub_cancel]
      intro b hb
      obtain ⟨m, hm⟩ : ∃ m, (ulebL (u / 128)).length = m + 1 := ⟨(ulebL (u / 128)).length - 1, by omega⟩
      rw [hm, List.take_succ_cons] at hb
      rcases List.mem_cons.1 hb with rfl | hb
      · omega
      · exact ih (u / 128) (by omega) b (by rw [hm]; simpa using hb)
    · rw [ulebL_small h]
      simp
theorem slebL_range (m : Nat) : ∀ n : Int, n.natAbs = m → ∀ b ∈ slebL n, 0 ≤ b ∧ b ≤ 255 := by
  induction m using Nat.strongRecOn with
  | _ m ih =>
    intro n hn b hb
    by_cases h : n < -64 ∨ 63 < n
    · rw [slebL_big h] at hb
      rcases List.mem_cons.1 hb with rfl | hb
      · omega
      · exact ih (n / 128).natAbs (by omega) _ rfl b hb
    · rw [slebL_small h] at hb
      simp at hb
      omega
theorem slebL_pos (n : Int) : 0 < (slebL n).length := by
  by_cases h : n < -64 ∨ 63 < n
  · rw [slebL_big h]; simp
  · rw [slebL_small h]; simp
theorem emod_step (n q : Int) (hq : 0 < q) : n % 128 + 128 * ((n / 128) % q) = n % (128 * q) := by
  have h1 := Int.emod_add_mul_ediv n 128
  have h2 := Int.emod_add_mul_ediv (n / 128) q
  have h3 : (0 : Int) ≤ (n / 128) % q := Int.emod_nonneg _ (by omega)
  have h4 : (n / 128) % q < q := Int.emod_lt_of_pos _ hq
  have h5 : n = (n % 128 + 128 * ((n / 128) % q)) + (128 * q) * ((n / 128) / q) := by
    rw [Int.mul_assoc]
    generalize q * (n / 128 / q) = y at *
    omega
  have h6 : 0 ≤ n % 128 + 128 * ((n / 128) % q) ∧ n % 128 + 128 * ((n / 128) % q) < 128 * q := by omega
  generalize n % 128 + 128 * ((n / 128) % q) = z at *
  rw [h5, Int.add_mul_emod_self_left, Int.emod_eq_of_lt h6.1 h6.2]
theorem slebL_gN (m : Nat) : ∀ n : Int, n.natAbs = m → gN (slebL n) = n % 128 ^ (slebL n).length := by
  induction m using Nat.strongRecOn with
  | _ m ih =>
    intro n hn
    by_cases h : n < -64 ∨ 63 < n
    · rw [slebL_big h]
      simp only [gN, List.length_cons, pow128]
      rw [ih (n / 128).natAbs (by omega) _ rfl, ← emod_step n _ (pow128_pos _)]
      omega
    · rw [slebL_small h]
      simp [gN]
theorem slebL_le (d : Nat) : ∀ n : Int, -(64 * 128 ^ d : Int) ≤ n → n < 64 * 128 ^ d → (slebL n).length ≤ d + 1 := by
  induction d with
  | zero =>
    intro n h0 h1
    rw [slebL_small (by simp at h0 h1; omega)]
    simp
  | succ d ih =>
    intro n h0 h1
    by_cases c : n < -64 ∨ 63 < n
    · rw [slebL_big c]
      rw [pow128] at h0 h1
      have := ih (n / 128) (by omega) (by omega)
      simp
      omega
    · rw [slebL_small c]
      simp
theorem slebL_ge (m : Nat) : ∀ n : Int, n.natAbs = m → -(64 * 128 ^ ((slebL n).length - 1) : Int) ≤ n ∧ n < 64 * 128 ^ ((slebL n).length - 1) := by
  induction m using Nat.strongRecOn with
  | _ m ih =>
    intro n hn
    by_cases h : n < -64 ∨ 63 < n
    · rw [slebL_big h]
      have hp := slebL_pos (n / 128)
      have := ih (n / 128).natAbs (by omega) _ rfl
      obtain ⟨q, hq⟩ : ∃ q, (slebL (n / 128)).length = q + 1 := ⟨(slebL (n / 128)).length - 1, by omega⟩
      simp only [List.length_cons, Nat.add_sub_cancel]
      rw [hq] at this ⊢
      rw [Nat.add_sub_cancel] at this
      rw [pow128]
      omega
    · rw [slebL_small h]
      simp
      omega
theorem slebL_grp (m : Nat) : ∀ n : Int, n.natAbs = m → ∀ (behind : List Int) (j : Nat), j + (slebL n).length ≤ 10 → lebGrp (slebL n ++ behind) j = .inl (j + (slebL n).length) := by
  induction m using Nat.strongRecOn with
  | _ m ih =>
    intro n hn behind j hj
    by_cases h : n < -64 ∨ 63 < n
    · rw [slebL_big h] at hj ⊢
      simp only [List.length_cons, List.cons_append, lebGrp] at hj ⊢
      have hp := slebL_pos (n / 128)
      rw [if_neg (by omega), if_neg (by omega), ih (n / 128).natAbs (by omega) _ rfl behind (j + 1) (by omega)]
      congr 1
      omega
    · rw [slebL_small h] at hj ⊢
      simp only [List.length_singleton, List.singleton_append, lebGrp] at hj ⊢
      rw [if_neg (by omega), if_pos (by omega)]
theorem slebL_marked (m : Nat) : ∀ n : Int, n.natAbs = m → ∀ b ∈ (slebL n).take ((slebL n).length - 1), 128 ≤ b := by
  induction m using Nat.strongRecOn with
  | _ m ih =>
    intro n hn
    by_cases h : n < -64 ∨ 63 < n
    · rw [slebL_big h]
      have hp := slebL_pos (n / 128)
      simp only [List.length_cons, Nat.add_sub_cancel]
      intro b hb
      obtain ⟨q, hq⟩ : ∃ q, (slebL (n / 128)).length = q + 1 := ⟨(slebL (n / 128)).length - 1, by omega⟩
      rw [hq, List.take_succ_cons] at hb
      rcases List.mem_cons.1 hb with rfl | hb
      · omega
      · exact ih (n / 128).natAbs (by omega) _ rfl b (by rw [hq]; simpa using hb)
    · rw [slebL_small h]
      simp

theorem ulebL_last (u : Nat) : rd (ulebL u) (((ulebL u).length - 1 : Nat) : Int) = ((u / 128 ^ ((ulebL u).length - 1) : Nat) : Int) := by
  induction u using Nat.strongRecOn with
  | _ u ih =>
    by_cases h : 127 < u
    · have hp := ulebL_pos (u / 128)
      have := ih (u / 128) (by omega)
      obtain ⟨q, hq⟩ : ∃ q, (ulebL (u / 128)).length = q + 1 := ⟨(ulebL (u / 128)).length - 1, by omega⟩
      rw [ulebL_big h]
      simp only [List.length_cons, Nat.add_sub_cancel]
      rw [hq] at this ⊢
      rw [Nat.add_sub_cancel] at this
      have e : rd (((u % 128 + 128 : Nat) : Int) :: ulebL (u / 128)) ((q + 1 : Nat) : Int) = rd (ulebL (u / 128)) (q : Int) := by simp [rd]
      rw [e, this, Nat.pow_succ, Nat.div_div_eq_div_mul, Nat.mul_comm 128]
    · rw [ulebL_small h]
      simp [rd]
theorem slebL_last (m : Nat) : ∀ n : Int, n.natAbs = m → rd (slebL n) (((slebL n).length - 1 : Nat) : Int) = n / 128 ^ ((slebL n).length - 1) % 128 := by
  induction m using Nat.strongRecOn with
  | _ m ih =>
    intro n hn
    by_cases h : n < -64 ∨ 63 < n
    · have hp := slebL_pos (n / 128)
      have := ih (n / 128).natAbs (by omega) _ rfl
      obtain ⟨q, hq⟩ : ∃ q, (slebL (n / 128)).length = q + 1 := ⟨(slebL (n / 128)).length - 1, by omega⟩
      rw [slebL_big h]
      simp only [List.length_cons, Nat.add_sub_cancel]
      rw [hq] at this ⊢
      rw [Nat.add_sub_cancel] at this
      have e : rd ((n % 128 + 128) :: slebL (n / 128)) ((q + 1 : Nat) : Int) = rd (slebL (n / 128)) (q : Int) := by simp [rd]
      rw [e, this, pow128, Int.ediv_ediv_of_nonneg (by omega)]
    · rw [slebL_small h]
      simp [rd]

/-! ### what is read -/
theorem lebCut_drop (l : List Int) (a : Nat) (n : Nat) : lebCut l (a : Int) n = (l.drop a).take n := by
  unfold lebCut
  rw [Int.toNat_natCast, List.drop_take]
  congr 1
  omega
theorem lebAt_nat {l : List Int} {a : Nat} (h : a < l.length) : lebAt l (a : Int) = lebGrp (l.drop a) 0 := by
  unfold lebAt
  rw [if_neg (by omega), Int.toNat_natCast]
/-- a list's groups, with anything ahead and behind -/
theorem lebAt_mid {ahead g behind : List Int} {n : Nat} (hg : 0 < g.length) (h : lebGrp (g ++ behind) 0 = .inl n) : lebAt (ahead ++ g ++ behind) (ahead.length : Int) = .inl n := by
  rw [lebAt_nat (by simp; omega), List.append_assoc, List.drop_left]
  exact h
theorem lebCut_mid (ahead g behind : List Int) : lebCut (ahead ++ g ++ behind) (ahead.length : Int) g.length = g := by
  rw [lebCut_drop, List.append_assoc, List.drop_left, List.take_left]
theorem sx_eq (w : Int) (n : Nat) (hn : 0 < n) (hn9 : n ≤ 9) (h0 : 0 ≤ w) (h1 : w < 128 ^ n) : lebSx w n = if 64 * 128 ^ (n - 1) ≤ w then w - 128 ^ n else w := by
  obtain ⟨m, rfl⟩ : ∃ m, n = m + 1 := ⟨n - 1, by omega⟩
  have hp := pow128_pos m
  have hp8 : (128 : Int) ^ m ≤ 72057594037927936 := by
    have := pow128_mono (show m ≤ 8 by omega)
    exact this
  rw [pow128] at h1
  have hpow : (2 : Int) ^ (7 * (m + 1) - 1) = 64 * 128 ^ m := by
    rw [show 7 * (m + 1) - 1 = 6 + 7 * m from by omega, Int.pow_add, two7]
    rfl
  have hshr : shr .u64 w (7 * ((m + 1 : Nat) : Int) - 1) = w / (64 * 128 ^ m) := by
    unfold shr
    rw [show (7 * ((m + 1 : Nat) : Int) - 1).toNat = 7 * (m + 1) - 1 from by omega, Nat.min_eq_left (by simp [IntKind.bits]; omega), hpow]
  have hshl : shl .u64 18446744073709551615 (7 * ((m + 1 : Nat) : Int)) = 18446744073709551616 - 128 * 128 ^ m := by
    unfold shl
    rw [wrap_u64, show (7 * ((m + 1 : Nat) : Int)).toNat = 7 * (m + 1) from by omega, Nat.min_eq_left (by simp [IntKind.bits]; omega), two7, pow128]
    omega
  unfold lebSx
  rw [hshr, hshl, Nat.add_sub_cancel, pow128]
  by_cases c : 64 * 128 ^ m ≤ w
  · have hd : w / (64 * 128 ^ m) = 1 := by
      have l1 : w / (64 * 128 ^ m) < 2 := Int.ediv_lt_of_lt_mul (by omega) (by omega)
      have l2 : 1 ≤ w / (64 * 128 ^ m) := Int.le_ediv_of_mul_le (by omega) (by omega)
      omega
    rw [hd, if_pos c, if_pos ⟨by omega, by decide +kernel⟩]
    have hor : Go.bits .or .u64 w (18446744073709551616 - 128 * 128 ^ m) = w + (18446744073709551616 - 128 * 128 ^ m) := by
      refine u64_join w _ (7 * (m + 1)) h0 ?_ (by omega) ?_ (by omega) (by omega)
      · rw [two7, pow128]; exact h1
      · rw [two7]
        refine Int.emod_eq_zero_of_dvd ?_
        refine Int.dvd_sub ?_ (by rw [pow128]; exact Int.dvd_refl _)
        have h : (18446744073709551616 : Int) = 2 ^ (7 * (m + 1)) * 2 ^ (64 - 7 * (m + 1)) := by
          rw [← Int.pow_add, show 7 * (m + 1) + (64 - 7 * (m + 1)) = 64 from by omega]
          rfl
        rw [h, two7]
        exact Int.dvd_mul_right _ _
    rw [hor, wrap64_eq]
    omega
  · have hd : w / (64 * 128 ^ m) = 0 := Int.ediv_eq_zero_of_lt h0 (by omega)
    rw [hd, if_neg c, if_neg (fun h => absurd h.2 (by decide +kernel)), wrap64_id (by omega) (by omega)]

theorem readU_back (a : Int) (h0 : -9223372036854775808 ≤ a) (h1 : a ≤ 9223372036854775807) (ahead behind : List Int) :
    leb_ReadUleb.f (ahead ++ ulebL (a % 18446744073709551616).toNat ++ behind) (ahead.length : Int) = some (a, ahead.length + ((ulebL (a % 18446744073709551616).toNat).length : Int), 0) := by
  obtain ⟨u, hu⟩ := Int.eq_ofNat_of_zero_le (show 0 ≤ a % 18446744073709551616 by omega)
  rw [hu, Int.toNat_natCast]
  have hu2 : u < 18446744073709551616 := by omega
  have hl : (ulebL u).length ≤ 10 := ulebL_le 9 u (by have : (128 : Nat) ^ (9 + 1) = 1180591620717411303424 := by decide
                                                      omega)
  have hp := ulebL_pos u
  have hat := lebAt_mid (ahead := ahead) (behind := behind) hp (ulebL_grp u behind 0 (by omega))
  rw [Nat.zero_add] at hat
  unfold leb_ReadUleb.f lebReadU
  rw [hat]
  simp only [lebCut_mid]
  have hj : lebJn (ulebL u) 0 0 = u := by
    rw [lebJn_val _ (ulebL_range u) hl, ulebL_gN]
    omega
  have hc : (ulebL u).length < 10 ∨ rd (ulebL u) 9 ≤ 1 := by
    by_cases c : (ulebL u).length < 10
    · exact .inl c
    · refine .inr ?_
      have := ulebL_last u
      rw [show (ulebL u).length - 1 = 9 from by omega, show ((9 : Nat) : Int) = 9 from rfl] at this
      rw [this]
      have : (128 : Nat) ^ 9 = 9223372036854775808 := by decide
      omega
  rw [if_pos hc, hj]
  simp only [Option.some.injEq, Prod.mk.injEq, and_true]
  rw [wrap64_eq]
  omega
theorem readS_back (a : Int) (h0 : -9223372036854775808 ≤ a) (h1 : a ≤ 9223372036854775807) (ahead behind : List Int) :
    leb_ReadSleb.f (ahead ++ slebL a ++ behind) (ahead.length : Int) = some (a, ahead.length + ((slebL a).length : Int), 0) := by
  have h9 : (128 : Int) ^ 9 = 9223372036854775808 := by decide
  have h10 : (128 : Int) ^ 10 = 1180591620717411303424 := by decide
  have hl : (slebL a).length ≤ 10 := slebL_le 9 a (by omega) (by omega)
  have hp := slebL_pos a
  have hge := slebL_ge _ a rfl
  have hat := lebAt_mid (ahead := ahead) (behind := behind) hp (slebL_grp _ a rfl behind 0 (by omega))
  rw [Nat.zero_add] at hat
  unfold leb_ReadSleb.f lebReadS
  rw [hat]
  simp only [lebCut_mid]
  have hj : lebJn (slebL a) 0 0 = a % 128 ^ (slebL a).length % 18446744073709551616 := by
    rw [lebJn_val _ (slebL_range _ a rfl) hl, slebL_gN _ a rfl]
  have hc : (slebL a).length < 10 ∨ rd (slebL a) 9 = 0 ∨ rd (slebL a) 9 = 127 := by
    by_cases c : (slebL a).length < 10
    · exact .inl c
    · refine .inr ?_
      have := slebL_last _ a rfl
      rw [show (slebL a).length - 1 = 9 from by omega, show ((9 : Nat) : Int) = 9 from rfl, h9] at this
      rw [this]
      omega
  have hs : lebSx (lebJn (slebL a) 0 0) (slebL a).length = a := by
    rw [hj]
    by_cases c : (slebL a).length ≤ 9
    · obtain ⟨m, hm⟩ : ∃ m, (slebL a).length = m + 1 := ⟨(slebL a).length - 1, by omega⟩
      rw [hm] at hge c ⊢
      rw [Nat.add_sub_cancel] at hge
      have hpm := pow128_pos m
      have hp8 : (128 : Int) ^ m ≤ 72057594037927936 := by
        have := pow128_mono (show m ≤ 8 by omega)
        exact this
      have e : a % 128 ^ (m + 1) = if a < 0 then a + 128 * 128 ^ m else a := by
        rw [pow128]
        by_cases s : a < 0
        · rw [if_pos s, ← Int.add_emod_right, Int.emod_eq_of_lt (by omega) (by omega)]
        · rw [if_neg s, Int.emod_eq_of_lt (by omega) (by omega)]
      rw [e]
      by_cases s : a < 0
      · rw [if_pos s, Int.emod_eq_of_lt (by omega) (by omega), sx_eq _ _ (by omega) (by omega) (by omega) (by rw [pow128]; omega), Nat.add_sub_cancel, if_pos (by omega), pow128]
        omega
      · rw [if_neg s, Int.emod_eq_of_lt (by omega) (by omega), sx_eq _ _ (by omega) (by omega) (by omega) (by rw [pow128]; omega), Nat.add_sub_cancel, if_neg (by omega)]
    · have e10 : (slebL a).length = 10 := by omega
      rw [e10, h10]
      unfold lebSx
      rw [if_neg (by omega), wrap64_eq]
      omega
  rw [if_pos hc, hs]
/-- with a byte less they end too early -/
theorem readU_short (u : Nat) (hl : (ulebL u).length ≤ 10) : ∃ x y, leb_ReadUleb.f ((ulebL u).take ((ulebL u).length - 1)) 0 = some (x, y, 20) := by
  have hm := ulebL_marked u
  have hlen : ((ulebL u).take ((ulebL u).length - 1)).length ≤ 9 := by rw [List.length_take]; omega
  generalize (ulebL u).take ((ulebL u).length - 1) = g at *
  have hat : lebAt g 0 = .inr 20 := by
    unfold lebAt
    by_cases c : (g.length : Int) ≤ 0
    · rw [if_pos (.inr c)]
    · rw [if_neg (by omega)]
      exact grp_marked _ _ (by simpa using hm) (by simp; omega)
  unfold leb_ReadUleb.f lebReadU
  rw [hat]
  exact ⟨_, _, rfl⟩
theorem readS_short (n : Int) (hl : (slebL n).length ≤ 10) : ∃ x y, leb_ReadSleb.f ((slebL n).take ((slebL n).length - 1)) 0 = some (x, y, 20) := by
  have hm := slebL_marked _ n rfl
  have hlen : ((slebL n).take ((slebL n).length - 1)).length ≤ 9 := by rw [List.length_take]; omega
  generalize (slebL n).take ((slebL n).length - 1) = g at *
  have hat : lebAt g 0 = .inr 20 := by
    unfold lebAt
    by_cases c : (g.length : Int) ≤ 0
    · rw [if_pos (.inr c)]
    · rw [if_neg (by omega)]
      exact grp_marked _ _ (by simpa using hm) (by simp; omega)
  unfold leb_ReadSleb.f lebReadS
  rw [hat]
  exact ⟨_, _, rfl⟩
/-- no shorter bytes are read as the same number -/
theorem readU_min {l : List Int} {a x i : Int} (hl : ∀ b ∈ l, 0 ≤ b ∧ b ≤ 255) (ha0 : -9223372036854775808 ≤ a) (ha1 : a ≤ 9223372036854775807) (h : leb_ReadUleb.f l 0 = some (x, i, 0)) (hx : x = a) : ((ulebL (a % 18446744073709551616).toNat).length : Int) ≤ i := by
  obtain ⟨u, hu⟩ := Int.eq_ofNat_of_zero_le (show 0 ≤ a % 18446744073709551616 by omega)
  rw [hu, Int.toNat_natCast]
  have hu2 : u < 18446744073709551616 := by omega
  have hl10 : (ulebL u).length ≤ 10 := ulebL_le 9 u (by have : (128 : Nat) ^ (9 + 1) = 1180591620717411303424 := by decide
                                                        omega)
  unfold leb_ReadUleb.f lebReadU at h
  cases hat : lebAt l 0 with
  | inr e =>
    rw [hat] at h
    simp at h
    have := lebAt_err hat
    omega
  | inl n =>
    obtain ⟨_, hn, hn10, hln⟩ := lebAt_ok hat
    rw [hat] at h
    simp only at h
    by_cases c : n < 10 ∨ rd (lebCut l 0 n) 9 ≤ 1
    · rw [if_pos c] at h
      simp only [Option.some.injEq, Prod.mk.injEq] at h
      obtain ⟨h1, h2, _⟩ := h
      by_cases c9 : n ≤ 9
      · have hlen := lebCut_length (l0 := l) (a1 := 0) hln
        have hr := gN_range (lebCut l 0 n)
        rw [hlen] at hr
        have hb : ∀ b ∈ lebCut l 0 n, 0 ≤ b ∧ b ≤ 255 := fun b hb => hl b (List.mem_of_mem_take (List.mem_of_mem_drop hb))
        rw [lebJn_val _ hb (by omega), wrap64_eq] at h1
        obtain ⟨m, rfl⟩ : ∃ m, n = m + 1 := ⟨n - 1, by omega⟩
        have hp9 : (128 : Int) ^ (m + 1) ≤ 9223372036854775808 := by
          have := pow128_mono (show m + 1 ≤ 9 by omega)
          exact this
        have hlt : (u : Int) < 128 ^ (m + 1) := by omega
        have := ulebL_le m u (by
          have e : ((128 ^ (m + 1) : Nat) : Int) = (128 : Int) ^ (m + 1) := by rw [Int.natCast_pow]; rfl
          omega)
        omega
      · omega
    · rw [if_neg c] at h
      simp at h
theorem readS_min {l : List Int} {a x i : Int} (hl : ∀ b ∈ l, 0 ≤ b ∧ b ≤ 255) (ha0 : -9223372036854775808 ≤ a) (ha1 : a ≤ 9223372036854775807) (h : leb_ReadSleb.f l 0 = some (x, i, 0)) (hx : x = a) : ((slebL a).length : Int) ≤ i := by
  have h9 : (128 : Int) ^ 9 = 9223372036854775808 := by decide
  have hl10 : (slebL a).length ≤ 10 := slebL_le 9 a (by omega) (by omega)
  unfold leb_ReadSleb.f lebReadS at h
  cases hat : lebAt l 0 with
  | inr e =>
    rw [hat] at h
    simp at h
    have := lebAt_err hat
    omega
  | inl n =>
    obtain ⟨_, hn, hn10, hln⟩ := lebAt_ok hat
    rw [hat] at h
    simp only at h
    by_cases c : n < 10 ∨ rd (lebCut l 0 n) 9 = 0 ∨ rd (lebCut l 0 n) 9 = 127
    · rw [if_pos c] at h
      simp only [Option.some.injEq, Prod.mk.injEq] at h
      obtain ⟨h1, h2, _⟩ := h
      by_cases c9 : n ≤ 9
      · have hlen := lebCut_length (l0 := l) (a1 := 0) hln
        have hr := gN_range (lebCut l 0 n)
        rw [hlen] at hr
        have hb : ∀ b ∈ lebCut l 0 n, 0 ≤ b ∧ b ≤ 255 := fun b hb => hl b (List.mem_of_mem_take (List.mem_of_mem_drop hb))
        have hp9 : (128 : Int) ^ n ≤ 9223372036854775808 := by
          have := pow128_mono (show n ≤ 9 by omega)
          exact this
        rw [lebJn_val _ hb (by omega), Int.emod_eq_of_lt hr.1 (by omega), sx_eq _ _ hn c9 hr.1 hr.2] at h1
        obtain ⟨m, rfl⟩ : ∃ m, n = m + 1 := ⟨n - 1, by omega⟩
        rw [pow128] at h1 hr
        rw [Nat.add_sub_cancel] at h1
        have hpm := pow128_pos m
        have : -(64 * 128 ^ m : Int) ≤ a ∧ a < 64 * 128 ^ m := by
          split at h1 <;> omega
        have := slebL_le m a this.1 this.2
        omega
      · omega
    · rw [if_neg c] at h
      simp at h
end Go.Proofs.Ytngddlihppomhaa.Leb
