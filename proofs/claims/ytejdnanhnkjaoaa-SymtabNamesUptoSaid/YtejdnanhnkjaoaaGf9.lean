/- Each theorem here says what a call of one Go function returns, and what it leaves of the memory, for the arguments that its hypotheses name. Printed by a driver of this session over the kit's printer; what stands behind GIVENBYHAND is this session's own text. -/
import Derived.Test.YtejdnanhnkjaoaaG0
import Derived.Lib.ConvBytes
namespace Go.Proofs.Ytejdnanhnkjaoaa.G
open Go.RowKit Go.Proofs.YtejdnanhnkjaoaaW.PrintWords Go.Proofs.YtejdnanhnkjaoaaW.PrintLast Go.Proofs.YtejdnanhnkjaoaaW.PrintMore
attribute [local go_sem] max2_int min2_int max_two min_two max_three min_three max_four min_four   -- for this text's walks alone
set_option linter.unusedVariables false
set_option linter.unusedSimpArgs false

/-! ### symtab_Hash: function 9 -/
-- GIVENBYHAND Derived.Lib.ConvBytes
def hashOne (h x : Int) : Int :=
  Go.bits .xor .u32 (Go.bits .andNot .u32 ((h * 16 + x) % 4294967296) (Go.bits .and .u32 ((h * 16 + x) % 4294967296) 4026531840)) (Go.bits .and .u32 ((h * 16 + x) % 4294967296) 4026531840 / 16777216)
def symHash : List UInt8 → Int → Int
  | [], h => h
  | x :: xs, h => symHash xs (hashOne h x.toNat)
theorem symHash_drop (l : List UInt8) (i : Nat) (hi : i < l.length) (h : Int) : symHash (l.drop i) h = symHash (l.drop (i + 1)) (hashOne h (((l.getD i 0).toNat : Nat) : Int)) := by
  rw [List.drop_eq_getElem_cons hi]
  simp [symHash, hi]
def symtab_Hash.f (a0 : ByteArray) : Option Int := if a0.size ≤ 4611686018427387904 then some (symHash a0.data.toList 0) else none
theorem symtab_Hash.calls (a0 : ByteArray) (r : Int) (w : World) (h : symtab_Hash.f a0 = some r) :
    Calls Try.prog 9 #[.string a0] w fun e w' => e = .returned (.int .u32 r) ∧ Below w.heap.size w w' := by
  unfold symtab_Hash.f at h
  split at h
  case isFalse => cases h
  rename_i hlim
  obtain rfl := Option.some.inj h
  clear h
  have hlen : a0.data.toList.length = a0.size := data_length a0
  go_enter Try.func9, Try.ntmps9
  have hcv := Lib.run_convert_string_bytes (P := Try.prog) w 9 24 5 a0 Try.underlying9 Try.underlying24 Try.underlying5
  go_wp2
  have hcell := Lib.bytesWorld_cell w 5 a0
  have hend : Below w.heap.size w (Lib.bytesWorld w 5 a0) := bytes_below (Below.refl _ _) (Nat.le_refl _) _ _
  generalize Lib.bytesWorld w 5 a0 = W at *
  generalize grownCap w a0.size 0 5 = cap at *
  go_loop [3, 10] (fun v i => ∃ n : Nat, n ≤ a0.size ∧ i = .int .i64 (n : Int) ∧ ∃ h : Int, v = .int .u32 h ∧ Aside0 (symHash a0.data.toList 0 = symHash (a0.data.toList.drop n) h)) (fun _ i => a0.size - (intOf i).toNat)
  case atStart => exact ⟨0, by omega, rfl, 0, rfl, ⟨rfl⟩⟩
  case round =>
    obtain ⟨n, hn, rfl, h, rfl, HA⟩ := hrel
    by_cases hlt : n < a0.size
    · have hltb : decide ((n : Int) < (a0.size : Int)) = true := by simp; omega
      have hx := hcell n hlt
      generalize hxx : ((a0.data.toList.getD n 0).toNat : Int) = x at hx
      go_wp2
      go_round
      case rel =>
        refine ⟨n + 1, by omega, by go_num, _, rfl, ⟨?_⟩⟩
        rw [HA.out, symHash_drop _ _ (by omega), hxx]
        have hx2 : ((a0.data[n]'(by rw [Array.length_toList] at hlen; omega)).toNat : Int) = x := by rw [← hxx, List.getD_eq_getElem?_getD, List.getElem?_eq_getElem (by omega)]; simp
        rw [hx2]
        rfl
      case measure =>
        have h1 : wrap64 ((n : Int) + 1) = n + 1 := by unfold wrap64; omega
        simp [intOf, h1]
        omega
    · have hltb : decide ((n : Int) < (a0.size : Int)) = false := by simp; omega
      have h := HA.out
      rw [List.drop_of_length_le (by omega)] at h
      replace h := Aside0.mk h
      go_wp2
      go_ret
      exact ⟨by rw [h.out]; rfl, hend⟩


end Go.Proofs.Ytejdnanhnkjaoaa.G
