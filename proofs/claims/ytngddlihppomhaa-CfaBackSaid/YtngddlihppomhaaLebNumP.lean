/- Numbers in groups of seven bits: what leb.Uleb, leb.Sleb and their reference write, as plain lists; what is read of them. -/
import Derived.Test.YtngddlihppomhaaBits
import Derived.Test.YtngddlihppomhaaGfM
namespace Go.Proofs.Ytngddlihppomhaa.Leb
set_option linter.unusedVariables false
set_option linter.unusedSimpArgs false
open Go.RowKit Go.Proofs.Ytngddlihppomhaa.G Go.Proofs.YtngddlihppomhaaW.PrintWords Go.Proofs.YtngddlihppomhaaW.PrintLast Go.Proofs.YtngddlihppomhaaW.PrintMore Go.Proofs.Ytngddlihppomhaa.Bit

/-- an unsigned number's groups -/
def ulebL (u : Nat) : List Int := if h : 127 < u then ((u % 128 + 128 : Nat) : Int) :: ulebL (u / 128) else [(u : Int)]
termination_by u
decreasing_by omega
/-- a signed number's groups -/
def slebL (n : Int) : List Int := if h : n < -64 ∨ 63 < n then (n % 128 + 128) :: slebL (n / 128) else [n % 128]
termination_by n.natAbs
decreasing_by omega
theorem ulebL_big {u : Nat} (h : 127 < u) : ulebL u = ((u % 128 + 128 : Nat) : Int) :: ulebL (u / 128) := by rw [ulebL, dif_pos h]
theorem ulebL_small {u : Nat} (h : ¬ 127 < u) : ulebL u = [(u : Int)] := by rw [ulebL, dif_neg h]
theorem slebL_big {n : Int} (h : n < -64 ∨ 63 < n) : slebL n = (n % 128 + 128) :: slebL (n / 128) := by rw [slebL, dif_pos h]
theorem slebL_small {n : Int} (h : ¬ (n < -64 ∨ 63 < n)) : slebL n = [n % 128] := by rw [slebL, dif_neg h]

theorem uleb_l0 (d : Nat) : ∀ (k u : Nat) (acc : List Int), u < 128 ^ (d + 1) → d < k → acc.length + d ≤ 1000 → leb_Uleb.l0 k acc (u : Int) = some (acc ++ ulebL u) := by
  induction d with
  | zero =>
    intro k u acc hu hk ha
    obtain ⟨k, rfl⟩ : ∃ m, k = m + 1 := ⟨k - 1, by omega⟩
    have hu' : u < 128 := by simpa using hu
    simp only [leb_Uleb.l0]
    rw [if_neg (by omega), if_pos (by omega), ulebL_small (by omega), show ((u : Int)) % 256 = u from by omega]
  | succ d ih =>
    intro k u acc hu hk ha
    obtain ⟨k, rfl⟩ : ∃ m, k = m + 1 := ⟨k - 1, by omega⟩
    simp only [leb_Uleb.l0]
    by_cases h : 127 < u
    · rw [if_pos (by omega), if_pos (by omega), b_or128]
      have hd : u / 128 < 128 ^ (d + 1) := by rw [Nat.pow_succ] at hu; omega
      have := ih k (u / 128) (acc ++ [((u % 128 + 128 : Nat) : Int)]) hd (by omega) (by simp; omega)
      rw [show ((u : Int)) % 128 + 128 = ((u % 128 + 128 : Nat) : Int) from by omega, show ((u : Int)) / 128 = ((u / 128 : Nat) : Int) from by omega, this, ulebL_big h]
      simp
    · rw [if_neg (by omega), if_pos (by omega), ulebL_small h, show ((u : Int)) % 256 = u from by omega]
theorem uleb_f (a : Int) (k : Nat) (hk : 10 ≤ k) : leb_Uleb.f k a = some (ulebL (a % 18446744073709551616).toNat) := by
  unfold leb_Uleb.f
  have h0 : 0 ≤ a % 18446744073709551616 := by omega
  obtain ⟨u, hu⟩ := Int.eq_ofNat_of_zero_le h0
  rw [wrap_u64, hu, uleb_l0 9 k u [] (by have : (128 : Nat) ^ (9 + 1) = 1180591620717411303424 := by decide
                                         omega) (by omega) (by simp)]
  simp
theorem sleb_l0 (d : Nat) : ∀ (k : Nat) (n : Int) (acc : List Int), -(64 * 128 ^ d : Int) ≤ n → n < 64 * 128 ^ d → d < k → acc.length + d ≤ 1000 → leb_Sleb.l0 k n acc = some (acc ++ slebL n) := by
  induction d with
  | zero =>
    intro k n acc h0 h1 hk ha
    obtain ⟨k, rfl⟩ : ∃ m, k = m + 1 := ⟨k - 1, by omega⟩
    simp only [leb_Sleb.l0]
    rw [if_neg (by simp at h0; omega), if_neg (by simp at h1; omega), if_pos (by omega), slebL_small (by simp at h0 h1; omega), b_and127]
  | succ d ih =>
    intro k n acc h0 h1 hk ha
    obtain ⟨k, rfl⟩ : ∃ m, k = m + 1 := ⟨k - 1, by omega⟩
    simp only [leb_Sleb.l0]
    by_cases h : n < -64 ∨ 63 < n
    · have hp : (128 : Int) ^ (d + 1) = 128 ^ d * 128 := Int.pow_succ _ _
      have hi := ih k (n / 128) (acc ++ [n % 128 + 128]) (by rw [hp] at h0; omega) (by rw [hp] at h1; omega) (by omega) (by simp; omega)
      simp only [List.append_assoc, List.singleton_append] at hi
      by_cases c : n < -64
      · rw [if_pos c, if_pos (show acc.length < 140737488355328 by omega), b_or128, hi, slebL_big h]
      · rw [if_neg c, if_pos (show n > 63 by omega), if_pos (show acc.length < 140737488355328 by omega), b_or128, hi, slebL_big h]
    · rw [if_neg (by omega), if_neg (by omega), if_pos (by omega), slebL_small h, b_and127]
theorem sleb_f (a : Int) (h0 : -9223372036854775808 ≤ a) (h1 : a ≤ 9223372036854775807) (k : Nat) (hk : 10 ≤ k) : leb_Sleb.f k a = some (slebL a) := by
  unfold leb_Sleb.f
  rw [sleb_l0 9 k a [] (by have : (128 : Int) ^ 9 = 9223372036854775808 := by decide
                           omega) (by have : (128 : Int) ^ 9 = 9223372036854775808 := by decide
                                      omega) (by omega) (by simp)]
  simp
end Go.Proofs.Ytngddlihppomhaa.Leb
