/- The plain law of LebShort: numbers in groups are as short as may be. -/
import Derived.Test.YtjcabmopajhggaaStmtLebShort
import Derived.Test.YtjcabmopajhggaaLebRead
import Derived.Test.YtjcabmopajhggaaKnows
namespace Go.Proofs.Ytjcabmopajhggaa.Pure
set_option linter.unusedVariables false
set_option linter.unusedSimpArgs false
open Go.RowKit Go.Proofs.Ytjcabmopajhggaa.G Go.Proofs.Ytjcabmopajhggaa.Stmt Go.Proofs.YtjcabmopajhggaaW.PrintWords Go.Proofs.YtjcabmopajhggaaW.PrintLast Go.Proofs.YtjcabmopajhggaaW.PrintMore Go.Proofs.Ytjcabmopajhggaa.Bit Go.Proofs.Ytjcabmopajhggaa.Leb
theorem short_j1 (a0 : Int) (l1 : List Int) (h0 : -9223372036854775808 ≤ a0) (h1 : a0 ≤ 9223372036854775807) (hl : ∀ b ∈ l1, 0 ≤ b ∧ b ≤ 255) (k : Nat) :
    gangwaylaw01_LebShort.j1 (k + 1) a0 l1 (ulebL (a0 % 18446744073709551616).toNat) (slebL a0) false = some true := by
  simp only [gangwaylaw01_LebShort.j1, Bool.false_eq_true, if_false]
  obtain ⟨⟨x, i, e⟩, hu⟩ : ∃ r, leb_ReadUleb.f l1 0 = some r := ⟨_, rfl⟩
  obtain ⟨⟨y, j, f⟩, hs⟩ : ∃ r, leb_ReadSleb.f l1 0 = some r := ⟨_, rfl⟩
  rw [hu, hs]
  simp only [Option.bind_some, gangwaylaw01_num.f]
  have hS : (if f = 0 then if y = a0 then some (decide (j ≥ ((slebL a0).length : Int))) else some true else some true) = some true := by
    by_cases c : f = 0
    · rw [if_pos c]
      by_cases d : y = a0
      · subst c
        rw [if_pos d, decide_eq_true (readS_min hl h0 h1 hs d)]
      · rw [if_neg d]
    · rw [if_neg c]
  rw [hS]
  by_cases c : e = 0
  · rw [if_pos c]
    by_cases d : x = a0
    · subst c
      rw [if_pos d, if_pos (readU_min hl h0 h1 hu d)]
    · rw [if_neg d]
  · rw [if_neg c]
theorem LebShort : Stmt.LebShort := by
  intro a0 l1 ha hl
  obtain ⟨h0, h1⟩ := wf_i64 ha
  have hb : ∀ b ∈ l1, 0 ≤ b ∧ b ≤ 255 := fun b hb => wf_u8 (hl.2.2 b hb)
  refine ⟨30, ?_⟩
  unfold gangwaylaw01_LebShort.f
  rw [uleb_f a0 30 (by omega), sleb_f a0 h0 h1 30 (by omega), knows_k 30 (by omega)]
  have h9 : (128 : Int) ^ 9 = 9223372036854775808 := by decide
  have hul : (ulebL (a0 % 18446744073709551616).toNat).length ≤ 10 := ulebL_le 9 _ (by
    have : (128 : Nat) ^ (9 + 1) = 1180591620717411303424 := by decide
    omega)
  have hsl : (slebL a0).length ≤ 10 := slebL_le 9 a0 (by omega) (by omega)
  have hup := ulebL_pos (a0 % 18446744073709551616).toNat
  have hsp := slebL_pos a0
  simp only [Option.bind_some]
  rw [if_neg (by omega), if_neg (by omega), if_neg (by omega), if_neg (by omega)]
  simp only [Bool.not_true, gangwaylaw01_LebShort.j0, Bool.false_eq_true, if_false]
  rw [wrap64_id (by omega) (by omega), wrap64_id (by omega) (by omega), if_pos (by omega), if_pos (by omega)]
  obtain ⟨x, y, e1⟩ := readU_short (a0 % 18446744073709551616).toNat hul
  obtain ⟨z, t, e2⟩ := readS_short a0 hsl
  rw [show (((ulebL (a0 % 18446744073709551616).toNat).length : Int) - 1).toNat = (ulebL (a0 % 18446744073709551616).toNat).length - 1 from by omega, e1]
  simp only [Option.bind_some]
  rw [if_pos (by omega), if_pos (by omega), show (((slebL a0).length : Int) - 1).toNat = (slebL a0).length - 1 from by omega, e2]
  simp only [Option.bind_some, gangwaylaw01_num.f, if_true, bne_self_eq_false]
  exact short_j1 a0 l1 h0 h1 hb 28
end Go.Proofs.Ytjcabmopajhggaa.Pure
