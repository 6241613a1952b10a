/- The plain law of LebSums: the program's aligned numbers, sums, and what fits, are the reference's, for all numbers. -/
import Derived.Test.YtjcabmopajhggaaStmtLebSums
import Derived.Test.YtjcabmopajhggaaOnes
import Derived.Test.YtjcabmopajhggaaKnows
namespace Go.Proofs.Ytjcabmopajhggaa.Pure
set_option linter.unusedVariables false
set_option linter.unusedSimpArgs false
open Go.RowKit Go.Proofs.Ytjcabmopajhggaa.G Go.Proofs.Ytjcabmopajhggaa.Stmt Go.Proofs.YtjcabmopajhggaaW.PrintWords Go.Proofs.YtjcabmopajhggaaW.PrintLast Go.Proofs.YtjcabmopajhggaaW.PrintMore Go.Proofs.Ytjcabmopajhggaa.Bit Go.Proofs.Ytjcabmopajhggaa.Leb

theorem align_bad (n a : Int) (h : ¬ ∃ i : Nat, i ≤ 30 ∧ a = 2 ^ i) (hw0 : -9223372036854775808 ≤ a) (hw1 : a ≤ 9223372036854775807) : leb_Align.f 30 n a = some (0, 1) := by
  unfold leb_Align.f
  by_cases c1 : a < 1
  · rw [if_pos c1]
    simp [leb_Align.j0]
  · rw [if_neg c1]
    by_cases c2 : a > 1073741824
    · rw [if_pos c2]
      simp [leb_Align.j0]
    · rw [if_neg c2, wrap_u64, Int.emod_eq_of_lt (by omega) (by omega)]
      obtain ⟨t, ht, hiff⟩ := ones_one (a := a) (by omega) (by omega)
      rw [ht]
      have : (t != 1) = true := by
        rw [bne_iff_ne]
        exact fun e => h (hiff.1 e)
      simp only [Option.bind_some]
      rw [this]
      simp [leb_Align.j0]
theorem power_ref (a : Int) (hw0 : -9223372036854775808 ≤ a) (hw1 : a ≤ 9223372036854775807) : ∃ b, gangwayref01_Power.f a = some b ∧ (b = true ↔ ∃ i : Nat, i ≤ 30 ∧ a = 2 ^ i) := by
  unfold gangwayref01_Power.f
  by_cases c1 : a ≥ 1
  · rw [if_pos c1]
    by_cases c2 : a ≤ 1073741824
    · rw [if_pos c2, wrap64_id (by omega) (by omega)]
      refine ⟨_, rfl, ?_⟩
      rw [beq_iff_eq]
      exact and_pred c1 c2
    · rw [if_neg c2]
      refine ⟨_, rfl, ?_⟩
      simp
      intro i hi e
      have := pow2_range hi
      omega
  · rw [if_neg c1]
    refine ⟨_, rfl, ?_⟩
    simp
    intro i hi e
    have := pow2_range hi
    omega
theorem align_same (n a : Int) (hn0 : -9223372036854775808 ≤ n) (hn1 : n ≤ 9223372036854775807) (hw0 : -9223372036854775808 ≤ a) (hw1 : a ≤ 9223372036854775807) : ∃ r, leb_Align.f 30 n a = some r ∧ gangwayref01_Align.f n a = some r := by
  obtain ⟨b, hb, hiff⟩ := power_ref a hw0 hw1
  unfold gangwayref01_Align.f
  rw [hb, Option.bind_some]
  by_cases h : ∃ i : Nat, i ≤ 30 ∧ a = 2 ^ i
  · rw [if_pos (hiff.2 h)]
    obtain ⟨i, hi, rfl⟩ := h
    have hp := pow2_range hi
    refine ⟨_, align_pow n i hi hn1 hn0 30 (by omega), ?_⟩
    unfold alignV
    by_cases c0 : n < 0
    · rw [if_pos c0, if_pos c0]
    · rw [if_neg c0, if_neg c0, if_neg (by omega), Int.tmod_eq_emod_of_nonneg (by omega)]
      have hdv : (2 : Int) ^ i ∣ 9223372036854775808 := by
        have h : (9223372036854775808 : Int) = 2 ^ i * 2 ^ (63 - i) := by
          rw [← Int.pow_add, show i + (63 - i) = 63 from by omega]
          rfl
        rw [h]
        exact Int.dvd_mul_right _ _
      obtain ⟨c, hc⟩ := hdv
      generalize hA : (2 : Int) ^ i = a at *
      have h1 := Int.emod_add_mul_ediv n a
      have h2 : 0 ≤ n % a := Int.emod_nonneg _ (by omega)
      have h3 : n % a < a := Int.emod_lt_of_pos _ (by omega)
      have w1 : wrap64 (n - n % a) = n - n % a := wrap64_id (by omega) (by omega)
      have w2 : wrap64 (9223372036854775807 - a) = 9223372036854775807 - a := wrap64_id (by omega) (by omega)
      rw [w1, w2]
      by_cases c1 : n % a = 0
      · rw [if_pos c1]
        by_cases c2 : n > 9223372036854775807 - (a - 1)
        · rw [if_pos c2, if_pos c1]
        · rw [if_neg c2]
          have e : (n + a - 1) % a = a - 1 := by
            rw [show n + a - 1 = (a - 1) + n from by omega, Int.add_emod, c1, Int.add_zero, Int.emod_emod_of_dvd _ (Int.dvd_refl a), Int.emod_eq_of_lt (by omega) (by omega)]
          rw [e]
          congr 2
          omega
      · rw [if_neg c1]
        by_cases c2 : n > 9223372036854775807 - (a - 1)
        · rw [if_pos c2, if_neg c1]
          have hq : n - n % a > 9223372036854775807 - a := by
            have k1 : a * (c - 1) ≤ a * (n / a) := by
              refine Int.mul_le_mul_of_nonneg_left ?_ (by omega)
              refine Int.le_of_lt_add_one ?_
              refine Int.lt_of_mul_lt_mul_left (a := a) ?_ (by omega)
              rw [Int.mul_sub, Int.mul_add, ← hc]
              omega
            rw [Int.mul_sub, ← hc] at k1
            omega
          rw [if_pos hq]
        · rw [if_neg c2]
          have hq : ¬ n - n % a > 9223372036854775807 - a := by omega
          rw [if_neg hq, wrap64_id (by omega) (by omega)]
          have e : (n + a - 1) % a = n % a - 1 := by
            rw [show n + a - 1 = (n % a - 1) + a * (n / a + 1) from by rw [Int.mul_add]; omega, Int.add_mul_emod_self_left, Int.emod_eq_of_lt (by omega) (by omega)]
          rw [e]
          congr 2
          omega
  · rw [if_neg (fun e => h (hiff.1 e))]
    exact ⟨_, align_bad n a h hw0 hw1, rfl⟩
theorem add_same (a b : Int) (h0 : -9223372036854775808 ≤ a) (h1 : a ≤ 9223372036854775807) (h2 : -9223372036854775808 ≤ b) (h3 : b ≤ 9223372036854775807) : ∃ r, leb_Add.f a b = some r ∧ gangwayref01_Add.f a b = some r := by
  unfold leb_Add.f gangwayref01_Add.f
  simp only [wrap64_eq]
  by_cases c1 : a > 0 <;> by_cases c2 : b > 0 <;> by_cases c3 : a < 0 <;> by_cases c4 : b < 0 <;> simp only [c1, c2, c3, c4, if_true, if_false] <;> first | (exfalso; omega) | skip
  all_goals (repeat' split) <;> first | exact ⟨_, rfl, rfl⟩ | (exfalso; omega)
theorem shl_neg (e : Int) (h0 : 0 ≤ e) (h1 : e ≤ 63) : wrap64 (-(shl .i64 1 e)) = shl .i64 (-1) e := by
  unfold shl
  rw [IntKind.wrap_i64, IntKind.wrap_i64, wrap64_eq]
  generalize (2 : Int) ^ min e.toNat IntKind.i64.bits = p
  omega
theorem fits_same (a b : Int) (s : Bool) (h2 : -9223372036854775808 ≤ b) (h3 : b ≤ 9223372036854775807) : ∃ r, leb_Fits.f 30 a b s = some r ∧ gangwayref01_Fits.f 30 a b s = some r := by
  unfold leb_Fits.f gangwayref01_Fits.f
  by_cases c1 : b < 1
  · rw [if_pos c1, if_pos c1]
    exact ⟨false, by simp [leb_Fits.j0], by simp [gangwayref01_Fits.j0]⟩
  · rw [if_neg c1, if_neg c1]
    by_cases c2 : b > 64
    · rw [show decide (b > 64) = true from decide_eq_true c2]
      exact ⟨false, by simp [leb_Fits.j0], by simp [gangwayref01_Fits.j0]⟩
    · rw [show decide (b > 64) = false from decide_eq_false c2]
      simp only [leb_Fits.j0, gangwayref01_Fits.j0, Bool.false_eq_true, if_false]
      cases s with
      | true =>
        simp only [if_true]
        by_cases c3 : b = 64
        · rw [if_pos c3, if_pos c3]
          exact ⟨_, rfl, rfl⟩
        · rw [if_neg c3, if_neg c3, wrap64_id (n := b - 1) (by omega) (by omega), wrap_u64, Int.emod_eq_of_lt (by omega) (by omega), shl_neg (b - 1) (by omega) (by omega), if_pos (show 0 ≤ b - 1 by omega)]
          split
          · exact ⟨_, rfl, rfl⟩
          · exact ⟨_, rfl, rfl⟩
      | false =>
        simp only [Bool.false_eq_true, if_false]
        rw [wrap_u64, Int.emod_eq_of_lt (by omega) (by omega)]
        by_cases c3 : a < 0
        · rw [if_pos c3, if_neg (show ¬ a ≥ 0 by omega)]
          exact ⟨_, rfl, rfl⟩
        · rw [if_neg c3, if_pos (show a ≥ 0 by omega)]
          by_cases c4 : b ≥ 63
          · rw [if_pos c4]
            exact ⟨_, rfl, rfl⟩
          · rw [if_neg c4, if_pos (show 0 ≤ b by omega)]
            exact ⟨_, rfl, rfl⟩
theorem LebSums : Stmt.LebSums := by
  intro a0 a1 a2 a3 ha hb hc
  obtain ⟨h0, h1⟩ := wf_i64 ha
  obtain ⟨h2, h3⟩ := wf_i64 hb
  obtain ⟨h4, h5⟩ := wf_i64 hc
  refine ⟨30, ?_⟩
  unfold gangwaylaw01_LebSums.f
  obtain ⟨r, e1, e2⟩ := align_same a0 a1 h0 h1 h2 h3
  obtain ⟨s, e3, e4⟩ := add_same a0 a1 h0 h1 h2 h3
  obtain ⟨t, e5, e6⟩ := fits_same a0 a2 a3 h4 h5
  rw [e1, e2, e3, e4, e5, e6, knows_k 30 (by omega)]
  simp [gangwaylaw01_num.f]
end Go.Proofs.Ytjcabmopajhggaa.Pure
