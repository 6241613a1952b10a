/- Numbers of a fixed size as bytes: what leb.Put and leb.Get answer, as plain lists and numbers. -/
import Derived.Test.YtejdnanhnkjaoaaBits
import Derived.Test.YtejdnanhnkjaoaaGfM
namespace Go.Proofs.Ytejdnanhnkjaoaa.Leb
set_option linter.unusedVariables false
set_option linter.unusedSimpArgs false
open Go.RowKit Go.Proofs.Ytejdnanhnkjaoaa.G Go.Proofs.YtejdnanhnkjaoaaW.PrintWords Go.Proofs.YtejdnanhnkjaoaaW.PrintLast Go.Proofs.YtejdnanhnkjaoaaW.PrintMore Go.Proofs.Ytejdnanhnkjaoaa.Bit

/-- bytes as a number, the low one first -/
def leN : List Int → Int
  | [] => 0
  | b :: bs => b + 256 * leN bs
/-- so many low bytes of a number -/
def leB (u : Int) : Nat → List Int
  | 0 => []
  | s + 1 => u % 256 :: leB (u / 256) s
theorem leB_length (s : Nat) : ∀ u, (leB u s).length = s := by
  induction s with
  | zero => intro u; rfl
  | succ s ih => intro u; simp [leB, ih]
theorem leB_range (s : Nat) : ∀ u, ∀ b ∈ leB u s, 0 ≤ b ∧ b ≤ 255 := by
  induction s with
  | zero => intro u b h; simp [leB] at h
  | succ s ih =>
    intro u b h
    simp only [leB, List.mem_cons] at h
    rcases h with rfl | h
    · omega
    · exact ih _ _ h
theorem pow256 (i : Nat) : (256 : Int) ^ (i + 1) = 256 * 256 ^ i := by rw [Int.pow_succ, Int.mul_comm]
theorem pow256_pos (i : Nat) : (0 : Int) < 256 ^ i := Int.pow_pos (by decide +kernel)
theorem leN_leB (s : Nat) : ∀ u, leN (leB u s) = u % 256 ^ s := by
  induction s with
  | zero => intro u; simp [leB, leN, Int.emod_one]
  | succ s ih =>
    intro u
    simp only [leB, leN]
    rw [ih, pow256]
    have h1 := Int.emod_add_mul_ediv u 256
    have h2 := Int.emod_add_mul_ediv (u / 256) (256 ^ s)
    have h3 : (0 : Int) ≤ (u / 256) % 256 ^ s := Int.emod_nonneg _ (by have := pow256_pos s; omega)
    have h4 : (u / 256) % 256 ^ s < 256 ^ s := Int.emod_lt_of_pos _ (pow256_pos s)
    have h5 : u = (u % 256 + 256 * ((u / 256) % 256 ^ s)) + (256 * 256 ^ s) * ((u / 256) / 256 ^ s) := by
      rw [Int.mul_assoc]
      generalize (256 : Int) ^ s * (u / 256 / 256 ^ s) = y at *
      omega
    have h6 : 0 ≤ u % 256 + 256 * ((u / 256) % 256 ^ s) ∧ u % 256 + 256 * ((u / 256) % 256 ^ s) < 256 * 256 ^ s := by omega
    generalize u % 256 + 256 * ((u / 256) % 256 ^ s) = z at *
    rw [h5, Int.add_mul_emod_self_left, Int.emod_eq_of_lt h6.1 h6.2]
theorem leN_range (l : List Int) (h : ∀ b ∈ l, 0 ≤ b ∧ b ≤ 255) : 0 ≤ leN l ∧ leN l < 256 ^ l.length := by
  induction l with
  | nil => simp [leN]
  | cons b bs ih =>
    have h1 := h b (by simp)
    have h2 := ih (fun x hx => h x (by simp [hx]))
    simp only [leN, List.length_cons, pow256]
    omega
theorem shr_bytes (u : Int) (i : Nat) (hi : i ≤ 8) : shr .u64 u (wrap64 (8 * (i : Int))) = u / 256 ^ i := by
  unfold shr
  rw [wrap64_id (by omega) (by omega), show (8 * (i : Int)).toNat = 8 * i from by omega, Nat.min_eq_left (by simp [IntKind.bits]; omega), show (2 : Int) ^ (8 * i) = 256 ^ i from by rw [Int.pow_mul]; rfl]
theorem low_l0 (d : Nat) : ∀ (k i : Nat) (u : Int) (s : Nat) (acc : List Int), s ≤ 8 → i ≤ s → s - i = d → d < k → acc.length ≤ 1000 - d → d ≤ 8 → leb_low_uint64.l0 k u acc (s : Int) (i : Int) = some (acc ++ leB (u / 256 ^ i) (s - i)) := by
  induction d with
  | zero =>
    intro k i u s acc hs hi hd hk ha _
    obtain ⟨k, rfl⟩ : ∃ m, k = m + 1 := ⟨k - 1, by omega⟩
    simp only [leb_low_uint64.l0]
    rw [if_neg (by omega), hd]
    simp [leB]
  | succ d ih =>
    intro k i u s acc hs hi hd hk ha hd8
    obtain ⟨k, rfl⟩ : ∃ m, k = m + 1 := ⟨k - 1, by omega⟩
    simp only [leb_low_uint64.l0]
    rw [if_pos (show (i : Int) < s by omega), shr_bytes u i (by omega), wrap64_id (n := 8 * (i : Int)) (by omega) (by omega), if_pos (show 0 ≤ 8 * (i : Int) by omega), if_pos (show acc.length < 140737488355328 by omega), wrap64_id (n := (i : Int) + 1) (by omega) (by omega), show (i : Int) + 1 = ((i + 1 : Nat) : Int) from by omega,
      ih k (i + 1) u s _ hs (by omega) (by omega) (by omega) (by simp; omega) (by omega), show s - i = (s - (i + 1)) + 1 from by omega]
    simp only [leB, List.append_assoc, List.singleton_append]
    rw [Int.pow_succ, Int.ediv_ediv_of_nonneg (by have := pow256_pos i; omega)]
theorem low_f (u : Int) (s : Nat) (hs : s ≤ 8) (k : Nat) (hk : 9 ≤ k) : leb_low_uint64.f k u (s : Int) = some (leB u s) := by
  unfold leb_low_uint64.f
  have := low_l0 s k 0 u s [] hs (by omega) (by omega) (by omega) (by simp) (by omega)
  simpa using this
/-- may a number have so many bytes? -/
def sizedB (s : Int) : Bool := s == 1 || s == 2 || s == 4 || s == 8
theorem sized_f (s : Int) : leb_sized.f s = some (sizedB s) := by
  unfold leb_sized.f sizedB
  by_cases h1 : s = 1
  · simp [h1]
  · by_cases h2 : s = 2
    · simp [h2]
    · by_cases h4 : s = 4
      · simp [h4]
      · simp [h1, h2, h4]
theorem sizedB_cases {s : Int} (h : sizedB s = true) : s = 1 ∨ s = 2 ∨ s = 4 ∨ s = 8 := by
  unfold sizedB at h
  simp at h
  omega
/-- what leb.Put answers -/
def putV (n s : Int) : List Int × Int :=
  if sizedB s = true then (if s < 8 ∧ (n < -2 ^ (8 * s.toNat - 1) ∨ 2 ^ (8 * s.toNat) ≤ n) then ([], 11) else (leB (n % 18446744073709551616) s.toNat, 0)) else ([], 1)
theorem put_f (n s : Int) (k : Nat) (hk : 9 ≤ k) : leb_Put.f k n s = some (putV n s) := by
  unfold leb_Put.f putV
  rw [sized_f, Option.bind_some]
  by_cases hs : sizedB s = true
  · rw [if_pos hs, if_pos hs, wrap_u64]
    rcases sizedB_cases hs with rfl | rfl | rfl | rfl
    · rw [show leb_low_uint64.f k (n % 18446744073709551616) 1 = _ from low_f _ 1 (by omega) k hk]
      have e1 : shl .i64 (-1) (wrap64 (wrap64 (8 * 1) - 1)) = -128 := by decide +kernel
      have e2 : shl .i64 1 (wrap64 (8 * 1)) = 256 := by decide +kernel
      rw [e1, e2, if_pos (show (1 : Int) < 8 by omega), if_pos (show 0 ≤ wrap64 (wrap64 (8 * 1) - 1) by decide +kernel), if_pos (show 0 ≤ wrap64 (8 * 1) by decide +kernel)]
      simp only [Option.bind_some]
      by_cases c1 : n < -128
      · rw [if_pos c1, if_pos (by simp; omega)]
      · rw [if_neg c1]
        by_cases c2 : n ≥ 256
        · rw [if_pos c2, if_pos (by simp; omega)]
        · rw [if_neg c2, if_neg (by simp; omega)]; rfl
    · rw [show leb_low_uint64.f k (n % 18446744073709551616) 2 = _ from low_f _ 2 (by omega) k hk]
      have e1 : shl .i64 (-1) (wrap64 (wrap64 (8 * 2) - 1)) = -32768 := by decide +kernel
      have e2 : shl .i64 1 (wrap64 (8 * 2)) = 65536 := by decide +kernel
      rw [e1, e2, if_pos (show (2 : Int) < 8 by omega), if_pos (show 0 ≤ wrap64 (wrap64 (8 * 2) - 1) by decide +kernel), if_pos (show 0 ≤ wrap64 (8 * 2) by decide +kernel)]
      simp only [Option.bind_some]
      by_cases c1 : n < -32768
      · rw [if_pos c1, if_pos (by simp; omega)]
      · rw [if_neg c1]
        by_cases c2 : n ≥ 65536
        · rw [if_pos c2, if_pos (by simp; omega)]
        · rw [if_neg c2, if_neg (by simp; omega)]; rfl
    · rw [show leb_low_uint64.f k (n % 18446744073709551616) 4 = _ from low_f _ 4 (by omega) k hk]
      have e1 : shl .i64 (-1) (wrap64 (wrap64 (8 * 4) - 1)) = -2147483648 := by decide +kernel
      have e2 : shl .i64 1 (wrap64 (8 * 4)) = 4294967296 := by decide +kernel
      rw [e1, e2, if_pos (show (4 : Int) < 8 by omega), if_pos (show 0 ≤ wrap64 (wrap64 (8 * 4) - 1) by decide +kernel), if_pos (show 0 ≤ wrap64 (8 * 4) by decide +kernel)]
      simp only [Option.bind_some]
      by_cases c1 : n < -2147483648
      · rw [if_pos c1, if_pos (by simp; omega)]
      · rw [if_neg c1]
        by_cases c2 : n ≥ 4294967296
        · rw [if_pos c2, if_pos (by simp; omega)]
        · rw [if_neg c2, if_neg (by simp; omega)]; rfl
    · rw [show leb_low_uint64.f k (n % 18446744073709551616) 8 = _ from low_f _ 8 (by omega) k hk, if_neg (show ¬ (8 : Int) < 8 by omega), if_neg (by simp)]
      rfl
  · rw [if_neg hs, if_neg hs]
/-- a number of so many bytes, with its sign -/
def sgnV (u : Int) (s : Int) (sg : Bool) : Int :=
  if sg = true then (if 2 ^ (8 * s.toNat - 1) ≤ u then u - 2 ^ (8 * s.toNat) else u) else wrap64 u
theorem get_l0 (l : List Int) (a : Int) (s : Nat) (sg : Bool) (hl : ∀ b ∈ l, 0 ≤ b ∧ b ≤ 255) (hs : s ≤ 8) (ha : 0 ≤ a) (hal : a + s ≤ l.length) (hm : l.length ≤ 9223372036854775807) (d : Nat) :
    ∀ (k i : Nat) (u : Int), i ≤ s → s - i = d → d < k → 0 ≤ u → u < 256 ^ i →
      leb_Get.l0 k l a s sg u s i = leb_Get.l0 (k - d) l a s sg (u + 256 ^ i * leN ((l.drop (a.toNat + i)).take (s - i))) s s := by
  induction d with
  | zero =>
    intro k i u hi hd hk hu0 hu
    rw [show i = s from by omega]
    simp [leN]
  | succ d ih =>
    intro k i u hi hd hk hu0 hu
    obtain ⟨k, rfl⟩ : ∃ m, k = m + 1 := ⟨k - 1, by omega⟩
    have hil : a.toNat + i < l.length := by omega
    have hb := hl _ (List.getElem_mem hil)
    have hrd : rd l (wrap64 (a + (i : Int))) = l[a.toNat + i] := by
      rw [wrap64_id (by omega) (by omega)]
      simp [rd, List.getD, show (a + (i : Int)).toNat = a.toNat + i from by omega, hil]
    have hpos := pow256_pos i
    have hp8 : (256 : Int) ^ i * 256 ≤ 18446744073709551616 := by
      have h2 : ((256 ^ (i + 1) : Nat) : Int) ≤ ((256 ^ 8 : Nat) : Int) := Int.ofNat_le.mpr (Nat.pow_le_pow_right (n := 256) (by decide) (show i + 1 ≤ 8 by omega))
      rw [Int.natCast_pow, Int.natCast_pow, Int.pow_succ] at h2
      exact h2
    have hmul0 : 0 ≤ l[a.toNat + i] * 256 ^ i := Int.mul_nonneg hb.1 (by omega)
    have hmul : l[a.toNat + i] * 256 ^ i ≤ 255 * 256 ^ i := Int.mul_le_mul_of_nonneg_right hb.2 (by omega)
    have hshl : shl .u64 (IntKind.u64.wrap (l[a.toNat + i])) (wrap64 (8 * (i : Int))) = l[a.toNat + i] * 256 ^ i := by
      unfold shl
      rw [wrap64_id (by omega) (by omega), wrap_u64, wrap_u64, show (8 * (i : Int)).toNat = 8 * i from by omega, Nat.min_eq_left (by simp [IntKind.bits]; omega), show (2 : Int) ^ (8 * i) = 256 ^ i from by rw [Int.pow_mul]; rfl,
        Int.emod_eq_of_lt hb.1 (by omega), Int.emod_eq_of_lt hmul0 (by omega)]
    have hor : Go.bits .or .u64 u (l[a.toNat + i] * 256 ^ i) = u + l[a.toNat + i] * 256 ^ i := by
      refine u64_join u _ (8 * i) hu0 ?_ hmul0 ?_ (by omega) (by omega)
      · rw [show (2 : Int) ^ (8 * i) = 256 ^ i from by rw [Int.pow_mul]; rfl]; exact hu
      · rw [show (2 : Int) ^ (8 * i) = 256 ^ i from by rw [Int.pow_mul]; rfl]; exact Int.mul_emod_left _ _
    have step : leb_Get.l0 (k + 1) l a s sg u s i = leb_Get.l0 k l a s sg (u + l[a.toNat + i] * 256 ^ i) s ((i + 1 : Nat) : Int) := by
      rw [leb_Get.l0]
      rw [if_pos (show (i : Int) < s by omega), hrd, hshl, hor, wrap64_id (n := a + (i : Int)) (by omega) (by omega), if_pos (show 0 ≤ a + (i : Int) by omega), if_pos (show a + (i : Int) < l.length by omega), wrap64_id (n := 8 * (i : Int)) (by omega) (by omega), if_pos (show 0 ≤ 8 * (i : Int) by omega), wrap64_id (n := (i : Int) + 1) (by omega) (by omega)]
      rfl
    rw [step, ih k (i + 1) _ (by omega) (by omega) (by omega) (by omega) (by rw [pow256]; omega), show k + 1 - (d + 1) = k - d from by omega]
    have e : ((l.drop (a.toNat + i)).take (s - i)) = l[a.toNat + i] :: ((l.drop (a.toNat + (i + 1))).take (s - (i + 1))) := by
      rw [List.drop_eq_getElem_cons hil, show s - i = (s - (i + 1)) + 1 from by omega, List.take_succ_cons]
      rfl
    rw [e]
    simp only [leN]
    congr 1
    rw [pow256, Int.mul_add, Int.mul_comm (l[a.toNat + i])]
    have : (256 : Int) ^ i * (256 * leN ((l.drop (a.toNat + (i + 1))).take (s - (i + 1)))) = 256 * 256 ^ i * leN ((l.drop (a.toNat + (i + 1))).take (s - (i + 1))) := by
      rw [Int.mul_comm 256 (256 ^ i), Int.mul_assoc]
    omega
theorem get_end (l : List Int) (a : Int) (s : Nat) (sg : Bool) (hs : s = 1 ∨ s = 2 ∨ s = 4 ∨ s = 8) (u : Int) (h0 : 0 ≤ u) (h1 : u < 256 ^ s) (k : Nat) : leb_Get.l0 (k + 1) l a s sg u s s = some (sgnV u s sg, 0) := by
  rw [leb_Get.l0]
  rw [if_neg (by omega)]
  unfold sgnV
  cases sg with
  | false => simp
  | true =>
    rw [if_pos rfl, if_pos rfl]
    rcases hs with rfl | rfl | rfl | rfl
    · have h1' : u < 256 := by simpa using h1
      rw [if_pos (show 0 ≤ wrap64 (64 - wrap64 (8 * ((1 : Nat) : Int))) by decide +kernel), show wrap64 (64 - wrap64 (8 * ((1 : Nat) : Int))) = 56 from by decide +kernel]
      unfold shl shr
      rw [wrap_u64, wrap64_eq, show min (56 : Int).toNat IntKind.u64.bits = 56 from by decide +kernel, show min (56 : Int).toNat IntKind.i64.bits = 56 from by decide +kernel]
      simp
      split <;> omega
    · have h1' : u < 65536 := by simpa using h1
      rw [if_pos (show 0 ≤ wrap64 (64 - wrap64 (8 * ((2 : Nat) : Int))) by decide +kernel), show wrap64 (64 - wrap64 (8 * ((2 : Nat) : Int))) = 48 from by decide +kernel]
      unfold shl shr
      rw [wrap_u64, wrap64_eq, show min (48 : Int).toNat IntKind.u64.bits = 48 from by decide +kernel, show min (48 : Int).toNat IntKind.i64.bits = 48 from by decide +kernel]
      simp
      split <;> omega
    · have h1' : u < 4294967296 := by simpa using h1
      rw [if_pos (show 0 ≤ wrap64 (64 - wrap64 (8 * ((4 : Nat) : Int))) by decide +kernel), show wrap64 (64 - wrap64 (8 * ((4 : Nat) : Int))) = 32 from by decide +kernel]
      unfold shl shr
      rw [wrap_u64, wrap64_eq, show min (32 : Int).toNat IntKind.u64.bits = 32 from by decide +kernel, show min (32 : Int).toNat IntKind.i64.bits = 32 from by decide +kernel]
      simp
      split <;> omega
    · have h1' : u < 18446744073709551616 := by simpa using h1
      rw [if_pos (show 0 ≤ wrap64 (64 - wrap64 (8 * ((8 : Nat) : Int))) by decide +kernel), show wrap64 (64 - wrap64 (8 * ((8 : Nat) : Int))) = 0 from by decide +kernel]
      unfold shl shr
      rw [wrap_u64, wrap64_eq, show min (0 : Int).toNat IntKind.u64.bits = 0 from by decide +kernel, show min (0 : Int).toNat IntKind.i64.bits = 0 from by decide +kernel]
      simp
      split <;> omega
/-- what leb.Get answers -/
def getV (l : List Int) (a s : Int) (sg : Bool) : Int × Int :=
  if sizedB s = true then (if a < 0 ∨ l.length - s < a then (0, 20) else (sgnV (leN ((l.drop a.toNat).take s.toNat)) s sg, 0)) else (0, 1)
theorem get_f (l : List Int) (a s : Int) (sg : Bool) (hl : ∀ b ∈ l, 0 ≤ b ∧ b ≤ 255) (hm : l.length ≤ 9223372036854775807) (k : Nat) (hk : 10 ≤ k) : leb_Get.f k l a s sg = some (getV l a s sg) := by
  unfold leb_Get.f getV
  rw [sized_f, Option.bind_some]
  by_cases hs : sizedB s = true
  · rw [if_pos hs, if_pos hs]
    have hs' := sizedB_cases hs
    rw [wrap64_id (by omega) (by omega)]
    by_cases c1 : a < 0
    · rw [if_pos c1, if_pos (.inl c1)]
    · rw [if_neg c1]
      by_cases c2 : a > l.length - s
      · rw [if_pos c2, if_pos (.inr c2)]
      · rw [if_neg c2, if_neg (by omega)]
        obtain ⟨m, rfl⟩ := Int.eq_ofNat_of_zero_le (show 0 ≤ s by omega)
        have := get_l0 l a m sg hl (by omega) (by omega) (by omega) hm m k 0 0 (by omega) (by omega) (by omega) (by omega) (by simp)
        simp only [Int.pow_zero, Int.one_mul, Int.zero_add, Nat.add_zero, Nat.sub_zero, Int.toNat_natCast] at this ⊢
        have hr := leN_range ((l.drop a.toNat).take m) (fun b hb => hl b (List.mem_of_mem_drop (List.mem_of_mem_take hb)))
        have hlen : ((l.drop a.toNat).take m).length = m := by rw [List.length_take, List.length_drop]; omega
        rw [hlen] at hr
        obtain ⟨j, hj⟩ : ∃ j, k - m = j + 1 := ⟨k - m - 1, by omega⟩
        rw [show ((0 : Int)) = ((0 : Nat) : Int) from rfl]
        rw [show (((0 : Nat) : Int)) = (0 : Int) from rfl] at *
        refine Eq.trans this ?_
        rw [hj]
        exact get_end l a m sg (by omega) _ hr.1 hr.2 j
  · rw [if_neg hs, if_neg hs]
end Go.Proofs.Ytejdnanhnkjaoaa.Leb
