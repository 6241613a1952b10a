/- The plain law of LebAligned: an aligned number is a multiple, not below the number, less than one multiple above it; aligned again it stays. -/
import Derived.Test.YtjcabmopajhggaaStmtLebAligned
import Derived.Test.YtjcabmopajhggaaLebAlign
import Derived.Test.YtjcabmopajhggaaKnows
namespace Go.Proofs.Ytjcabmopajhggaa.Pure
set_option linter.unusedVariables false
set_option linter.unusedSimpArgs false
open Go.RowKit Go.Proofs.Ytjcabmopajhggaa.G Go.Proofs.Ytjcabmopajhggaa.Stmt Go.Proofs.YtjcabmopajhggaaW.PrintWords Go.Proofs.YtjcabmopajhggaaW.PrintLast Go.Proofs.YtjcabmopajhggaaW.PrintMore Go.Proofs.Ytjcabmopajhggaa.Bit Go.Proofs.Ytjcabmopajhggaa.Leb
theorem shift_count (a1 : Int) (h0 : -9223372036854775808 ≤ a1) (h1 : a1 ≤ 9223372036854775807) : ∃ i : Nat, i ≤ 30 ∧ IntKind.u64.wrap (Int.tmod (wrap64 (Int.tmod a1 31 + 31)) 31) = (i : Int) := by
  have b1 := Int.tmod_lt_of_pos a1 (show (0 : Int) < 31 by decide)
  have b2 : -31 < Int.tmod a1 31 := Int.lt_tmod_of_pos a1 (show (0 : Int) < 31 by decide)
  rw [wrap64_id (by omega) (by omega), Int.tmod_eq_emod_of_nonneg (by omega), wrap_u64]
  refine ⟨((Int.tmod a1 31 + 31) % 31).toNat, by omega, by omega⟩
theorem LebAligned : Stmt.LebAligned := by
  intro a0 a1 ha hb
  obtain ⟨h0, h1⟩ := wf_i64 ha
  obtain ⟨h2, h3⟩ := wf_i64 hb
  obtain ⟨i, hi, hc⟩ := shift_count a1 h2 h3
  refine ⟨30, ?_⟩
  have hp := pow2_range hi
  have hshl : shl .i64 1 (i : Int) = 2 ^ i := by
    unfold shl
    rw [Int.one_mul, Int.toNat_natCast, Nat.min_eq_left (by simp [IntKind.bits]; omega), IntKind.wrap_i64]
    omega
  unfold gangwaylaw01_LebAligned.f
  rw [hc, if_pos (by omega), hshl]
  have hm0 : 0 ≤ mx a0 0 ∧ mx a0 0 ≤ 9223372036854775807 := by unfold mx; split <;> omega
  generalize mx a0 0 = n at *
  generalize hA : (2 : Int) ^ i = a at *
  have hal := align_pow n i hi hm0.2 (by omega) 30 (by omega)
  rw [hA] at hal
  rw [hal, Option.bind_some]
  simp only [gangwaylaw01_num.f, Option.bind_some]
  rw [knows_k 30 (by omega)]
  unfold alignV
  rw [if_neg (show ¬ n < 0 by omega)]
  have again : ∀ x : Int, 0 ≤ x → x ≤ 9223372036854775807 → x % a = 0 → leb_Align.f 29 x a = some (x, 0) := by
    intro x hx0 hx1 hxa
    have := align_pow x i hi hx1 (by omega) 29 (by omega)
    rw [hA] at this
    rw [this]
    unfold alignV
    rw [if_neg (by omega)]
    by_cases c : x > 9223372036854775807 - (a - 1)
    · rw [if_pos c, if_pos hxa]
    · rw [if_neg c]
      have e : (x + a - 1) % a = a - 1 := by
        rw [show x + a - 1 = (a - 1) + x from by omega, Int.add_emod, hxa, Int.add_zero, Int.emod_emod_of_dvd _ (Int.dvd_refl a), Int.emod_eq_of_lt (by omega) (by omega)]
      rw [e]
      congr 2
      omega
  by_cases c1 : n > 9223372036854775807 - (a - 1)
  · rw [if_pos c1]
    by_cases c2 : n % a = 0
    · rw [if_pos c2]
      simp only [if_true, Option.bind_some, Bool.not_true, gangwaylaw01_LebAligned.j0, Bool.false_eq_true, if_false]
      rw [again n hm0.1 hm0.2 c2]
      simp only [Option.bind_some]
      rw [if_neg (by omega), Int.tmod_eq_emod_of_nonneg hm0.1, if_pos c2, if_pos (by omega), show n - n = 0 from by omega, show wrap64 0 = 0 from by decide +kernel, if_pos (by omega)]
      simp [gangwaylaw01_num.f]
    · rw [if_neg c2]
      simp only [show ¬ (11 : Int) = 0 by decide, if_false, gangwaylaw01_LebAligned.j0, if_true, gangwaylaw01_num.f, Option.bind_some]
      rw [wrap64_id (by omega) (by omega), if_pos (by omega), knows_k 29 (by omega), Option.bind_some]
  · rw [if_neg c1]
    have hr0 : 0 ≤ (n + a - 1) % a := Int.emod_nonneg _ (by omega)
    have hr1 : (n + a - 1) % a < a := Int.emod_lt_of_pos _ (by omega)
    have hx : (n + a - 1 - (n + a - 1) % a) % a = 0 := Int.emod_eq_zero_of_dvd (Int.dvd_self_sub_emod)
    generalize hq : n + a - 1 - (n + a - 1) % a = x at *
    simp only [if_true, Option.bind_some, Bool.not_true, gangwaylaw01_LebAligned.j0, Bool.false_eq_true, if_false]
    rw [again x (by omega) (by omega) hx]
    simp only [Option.bind_some]
    rw [if_neg (by omega), Int.tmod_eq_emod_of_nonneg (by omega), if_pos hx, if_pos (by omega), wrap64_id (by omega) (by omega), if_pos (by omega)]
    simp [gangwaylaw01_num.f]
end Go.Proofs.Ytjcabmopajhggaa.Pure
