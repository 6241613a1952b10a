/- What symtab.At answers. -/
import Derived.Test.YtejdnanhnkjaoaaSymNamesS
import Derived.Test.YtejdnanhnkjaoaaGfM
namespace Go.Proofs.Ytejdnanhnkjaoaa.Sym
set_option linter.unusedVariables false
set_option linter.unusedSimpArgs false
open Go.RowKit Go.Proofs.Ytejdnanhnkjaoaa.G Go.Proofs.YtejdnanhnkjaoaaW.PrintWords Go.Proofs.YtejdnanhnkjaoaaW.PrintLast Go.Proofs.YtejdnanhnkjaoaaW.PrintMore Go.Proofs.Ytejdnanhnkjaoaa.Bit
theorem bindex_l0 (l : List Int) (d : Nat) : ∀ (k i : Nat), i ≤ l.length → l.length - i = d → d < k → l.length ≤ 140737488355328 →
    slices_Index_byte_byte.l0 k l 0 (l.length : Int) (i : Int) = some (match zeroAt (l.drop i) with | some n => ((i + n : Nat) : Int) | none => -1) := by
  induction d with
  | zero =>
    intro k i hi hd hk hl
    obtain ⟨k, rfl⟩ : ∃ m, k = m + 1 := ⟨k - 1, by omega⟩
    simp only [slices_Index_byte_byte.l0]
    rw [if_neg (by omega), List.drop_of_length_le (by omega)]
    rfl
  | succ d ih =>
    intro k i hi hd hk hl
    obtain ⟨k, rfl⟩ : ∃ m, k = m + 1 := ⟨k - 1, by omega⟩
    have hlt : i < l.length := by omega
    have hrd : rd l (i : Int) = l[i] := by simp [rd, List.getD, hlt]
    simp only [slices_Index_byte_byte.l0]
    rw [if_pos (by omega), if_pos (by omega), if_pos (by omega), hrd, List.drop_eq_getElem_cons hlt]
    simp only [zeroAt]
    by_cases c : l[i] = 0
    · rw [if_pos c.symm, if_pos c]
      simp
    · rw [if_neg (fun e => c e.symm), if_neg c, wrap64_id (by omega) (by omega), show (i : Int) + 1 = ((i + 1 : Nat) : Int) from by omega, ih k (i + 1) (by omega) (by omega) (by omega) hl]
      cases zeroAt (l.drop (i + 1)) with
      | none => rfl
      | some n =>
        simp only [Option.map_some]
        rw [show i + (n + 1) = i + 1 + n from by omega]
theorem at_f (l : List Int) (a : Int) (hm : l.length ≤ 140737488351232) (k : Nat) (hk : l.length + 3 ≤ k) : symtab_At.f k l a = some (atOf l a) := by
  obtain ⟨k, rfl⟩ : ∃ m, k = m + 1 := ⟨k - 1, by omega⟩
  unfold symtab_At.f atOf
  by_cases c1 : a < 0
  · rw [if_pos c1, if_pos (.inl c1)]
    simp only [symtab_At.j0, if_true]
  · rw [if_neg c1]
    by_cases c2 : (l.length : Int) ≤ a
    · rw [decide_eq_true (show a ≥ l.length from c2), if_pos (.inr c2)]
      simp only [symtab_At.j0, if_true]
    · rw [decide_eq_false (show ¬ a ≥ l.length from c2), if_neg (by omega)]
      obtain ⟨m, rfl⟩ := Int.eq_ofNat_of_zero_le (show 0 ≤ a by omega)
      simp only [symtab_At.j0, Bool.false_eq_true, if_false]
      rw [if_pos (by omega), if_pos (by omega), Int.toNat_natCast]
      unfold slices_Index_byte_byte.f
      have := bindex_l0 (l.drop m) (l.drop m).length k 0 (by omega) (by omega) (by rw [List.length_drop]; omega) (by rw [List.length_drop]; omega)
      simp only [List.drop_zero, Nat.zero_add, Int.natCast_zero] at this
      rw [this, Option.bind_some]
      cases hz : zeroAt (l.drop m) with
      | none => rfl
      | some n =>
        have hlt := zeroAt_lt _ _ hz
        rw [List.length_drop] at hlt
        simp only
        rw [if_neg (by omega)]
        by_cases c3 : n > 255
        · rw [if_pos (by omega), if_pos c3]
        · rw [if_neg (by omega), if_neg c3, wrap64_id (by omega) (by omega), if_pos (by omega), if_pos (by omega), show ((m : Int) + (n : Int)).toNat = m + n from by omega]
end Go.Proofs.Ytejdnanhnkjaoaa.Sym
