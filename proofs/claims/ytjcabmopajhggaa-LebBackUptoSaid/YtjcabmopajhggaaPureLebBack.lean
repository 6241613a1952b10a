/- The plain law of LebBack: what is written is read as it was, with anything ahead and behind. -/
import Derived.Test.YtjcabmopajhggaaStmtLebBack
import Derived.Test.YtjcabmopajhggaaLebRead
import Derived.Test.YtjcabmopajhggaaLebFix
import Derived.Test.YtjcabmopajhggaaKnows
namespace Go.Proofs.Ytjcabmopajhggaa.Pure
set_option linter.unusedVariables false
set_option linter.unusedSimpArgs false
open Go.RowKit Go.Proofs.Ytjcabmopajhggaa.G Go.Proofs.Ytjcabmopajhggaa.Stmt Go.Proofs.YtjcabmopajhggaaW.PrintWords Go.Proofs.YtjcabmopajhggaaW.PrintLast Go.Proofs.YtjcabmopajhggaaW.PrintMore Go.Proofs.Ytjcabmopajhggaa.Bit Go.Proofs.Ytjcabmopajhggaa.Leb
theorem sum_one (l : List Int) : (l.map (fun _ => 1)).sum = l.length := by
  induction l with
  | nil => rfl
  | cons x xs ih => simp [ih]; omega
theorem back_j0 (a0 : Int) (l2 l3 : List Int) (h0 : -9223372036854775808 ≤ a0) (h1 : a0 ≤ 9223372036854775807) (hl2 : l2.length ≤ 2000000) (hl3 : l3.length ≤ 2000000) :
    gangwaylaw01_LebBack.j0 30 a0 l2 l3 = some true := by
  have h9 : (128 : Int) ^ 9 = 9223372036854775808 := by decide
  have hul : (ulebL (a0 % 18446744073709551616).toNat).length ≤ 10 := ulebL_le 9 _ (by
    have : (128 : Nat) ^ (9 + 1) = 1180591620717411303424 := by decide
    omega)
  have hsl : (slebL a0).length ≤ 10 := slebL_le 9 a0 (by omega) (by omega)
  simp only [gangwaylaw01_LebBack.j0]
  rw [uleb_f a0 29 (by omega), sleb_f a0 h0 h1 29 (by omega), knows_k 29 (by omega)]
  simp only [Option.bind_some, List.nil_append, List.length_nil, List.length_append, gangwaylaw01_num.f]
  rw [if_pos (by omega), if_pos (by omega), if_pos (by omega), readU_back a0 h0 h1 l2 l3]
  simp only [Option.bind_some]
  rw [if_pos (by omega), if_pos (by omega), if_pos (by omega), readS_back a0 h0 h1 l2 l3]
  simp only [Option.bind_some]
  rw [show wrap64 (0 + 0) = 0 from by decide +kernel, wrap64_id (n := (l2.length : Int) + ((ulebL (a0 % 18446744073709551616).toNat).length : Int)) (by omega) (by omega), wrap64_id (n := (l2.length : Int) + ((slebL a0).length : Int)) (by omega) (by omega)]
  simp
theorem size_of_arg (a1 : Int) (h0 : -9223372036854775808 ≤ a1) (h1 : a1 ≤ 9223372036854775807) : ∃ i : Nat, i < 4 ∧ Int.tmod (wrap64 (Int.tmod a1 4 + 4)) 4 = (i : Int) := by
  have b1 := Int.tmod_lt_of_pos a1 (show (0 : Int) < 4 by decide)
  have b2 : -4 < Int.tmod a1 4 := Int.lt_tmod_of_pos a1 (show (0 : Int) < 4 by decide)
  rw [wrap64_id (by omega) (by omega), Int.tmod_eq_emod_of_nonneg (by omega)]
  exact ⟨((Int.tmod a1 4 + 4) % 4).toNat, by omega, by omega⟩
theorem put_back (a0 s : Int) (hs : s = 1 ∨ s = 2 ∨ s = 4 ∨ s = 8) (h0 : -9223372036854775808 ≤ a0) (h1 : a0 ≤ 9223372036854775807) (l2 l3 : List Int) (hp : (putV a0 s).2 = 0) :
    (putV a0 s).1 = leB (a0 % 18446744073709551616) s.toNat ∧ getV (l2 ++ leB (a0 % 18446744073709551616) s.toNat ++ l3) l2.length s (decide (a0 < 0)) = (a0, 0) := by
  have hsz : sizedB s = true := by rcases hs with rfl | rfl | rfl | rfl <;> rfl
  unfold putV at hp ⊢
  rw [if_pos hsz] at hp ⊢
  by_cases c : s < 8 ∧ (a0 < -2 ^ (8 * s.toNat - 1) ∨ 2 ^ (8 * s.toNat) ≤ a0)
  · rw [if_pos c] at hp
    simp at hp
  · rw [if_neg c]
    refine ⟨rfl, ?_⟩
    unfold getV
    have hl := leB_length s.toNat (a0 % 18446744073709551616)
    rw [if_pos hsz, if_neg (by rw [List.length_append, List.length_append, hl]; omega), Int.toNat_natCast, List.append_assoc, List.drop_left]
    have e : (leB (a0 % 18446744073709551616) s.toNat ++ l3).take s.toNat = leB (a0 % 18446744073709551616) s.toNat := by
      have := List.take_left (l₁ := leB (a0 % 18446744073709551616) s.toNat) (l₂ := l3)
      rwa [hl] at this
    rw [e, leN_leB]
    congr 1
    unfold sgnV
    rcases hs with rfl | rfl | rfl | rfl
    all_goals
      simp at c ⊢
      by_cases n : a0 < 0
      · rw [if_pos n]
        split <;> omega
      · rw [if_neg n, wrap64_eq]
        omega
theorem LebBack : Stmt.LebBack := by
  intro a0 a1 l2 l3 ha hb hl2 hl3 hbulk
  obtain ⟨h0, h1⟩ := wf_i64 ha
  obtain ⟨h2, h3⟩ := wf_i64 hb
  rw [sum_one, sum_one] at hbulk
  have hb2 : ∀ b ∈ l2, 0 ≤ b ∧ b ≤ 255 := fun b hb => wf_u8 (hl2.2.2 b hb)
  have hb3 : ∀ b ∈ l3, 0 ≤ b ∧ b ≤ 255 := fun b hb => wf_u8 (hl3.2.2 b hb)
  obtain ⟨i, hi, hc⟩ := size_of_arg a1 h2 h3
  refine ⟨30, ?_⟩
  unfold gangwaylaw01_LebBack.f
  simp only [Option.bind_some]
  rw [hc, if_pos (by omega), if_pos (by simp; omega)]
  obtain ⟨s, hs, hrd⟩ : ∃ s : Int, (s = 1 ∨ s = 2 ∨ s = 4 ∨ s = 8) ∧ rd [1, 2, 4, 8] (i : Int) = s := by
    refine ⟨_, ?_, rfl⟩
    have : i = 0 ∨ i = 1 ∨ i = 2 ∨ i = 3 := by omega
    rcases this with rfl | rfl | rfl | rfl <;> simp [rd]
  rw [hrd, put_f a0 s 30 (by omega), back_j0 a0 l2 l3 h0 h1 (by omega) (by omega)]
  simp only [Option.bind_some, gangwaylaw01_num.f, List.nil_append, List.length_nil, List.length_append]
  by_cases c : (putV a0 s).2 = 0
  · rw [if_pos c]
    obtain ⟨e1, e2⟩ := put_back a0 s hs h0 h1 l2 l3 c
    rw [e1]
    have hl := leB_length s.toNat (a0 % 18446744073709551616)
    rw [if_pos (by omega), hl, if_pos (by omega), if_pos (by omega), show ((s.toNat : Nat) : Int) = s from by omega]
    have hall : ∀ b ∈ l2 ++ leB (a0 % 18446744073709551616) s.toNat ++ l3, 0 ≤ b ∧ b ≤ 255 := by
      intro b hb
      rcases List.mem_append.1 hb with hb | hb
      · rcases List.mem_append.1 hb with hb | hb
        · exact hb2 b hb
        · exact leB_range _ _ b hb
      · exact hb3 b hb
    rw [get_f _ _ _ _ hall (by rw [List.length_append, List.length_append, hl]; omega) 30 (by omega), e2]
    simp
  · rw [if_neg c]
end Go.Proofs.Ytjcabmopajhggaa.Pure
