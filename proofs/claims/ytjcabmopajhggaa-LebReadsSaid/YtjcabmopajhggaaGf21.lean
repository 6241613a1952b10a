/- Each theorem here says what a call of one Go function returns, and what it leaves of the memory, for the arguments that its hypotheses name. Printed by a driver of this session over the kit's printer; what stands behind GIVENBYHAND is this session's own text. -/
import Derived.Test.YtjcabmopajhggaaG0
namespace Go.Proofs.Ytjcabmopajhggaa.G
open Go.RowKit Go.Proofs.YtjcabmopajhggaaW.PrintWords Go.Proofs.YtjcabmopajhggaaW.PrintLast Go.Proofs.YtjcabmopajhggaaW.PrintMore
attribute [local go_sem] max2_int min2_int max_two min_two max_three min_three max_four min_four   -- for this text's walks alone
set_option linter.unusedVariables false
set_option linter.unusedSimpArgs false

/-! ### gangwaylaw01_Stays: function 21 -/
-- GIVENBYHAND 
/-- Stays answers true of lent bytes that are as they were. -/
theorem stays_calls (A0 : Option Addr) (c0 : Nat) (A1 : Option Addr) (c1 : Nat) (l1 : List Int) (w : World) (hr0 : Kd.C (Kd.int .u8) w A0 (l1 ++ [201, 202]).length (l1 ++ [201, 202])) (hc0 : l1.length + 2 ≤ c0) (hr1 : Kd.C (Kd.int .u8) w A1 l1.length l1) (hc1 : l1.length ≤ c1) (hlim : l1.length ≤ 140737488351232) :
    Calls Try.prog 21 #[.slice A0 l1.length c0, .slice A1 l1.length c1] w fun e w' => e = .returned (.bool true) ∧ Drawn0 w w' := by
  have hlen : (l1 ++ [201, 202]).length = l1.length + 2 := by simp
  rw [hlen] at hr0
  have HR0 := Aside0.mk hr0
  have HR1 := Aside0.mk hr1
  obtain ⟨ad, rfl, hx⟩ := Kd.at_int hr0 (l1.length : Int) (by omega) (by omega)
  obtain ⟨ad', e', hy⟩ := Kd.at_int hr0 ((l1.length : Int) + 1) (by omega) (by omega)
  obtain rfl : ad = ad' := by injection e'
  have e1 : rd (l1 ++ [201, 202]) (l1.length : Int) = 201 := by simp [rd]
  have e2 : rd (l1 ++ [201, 202]) ((l1.length : Int) + 1) = 202 := by
    simp [rd, show ((l1.length : Int) + 1).toNat = l1.length + 1 from by omega, List.getElem?_append_right]
  rw [e1, Int.toNat_natCast] at hx
  rw [e2, show ((l1.length : Int) + 1).toNat = l1.length + 1 from by omega] at hy
  clear e1 e2 e' hr0 hr1
  have hcut : Kd.C (Kd.int .u8) w (some ad) l1.length l1 := by
    have := Kd.C_take (m := l1.length) (xs := l1 ++ [201, 202]) (by rw [hlen]; exact HR0.out) (by simp)
    simpa using this
  have hcv1 := Kd.C_string (P := Try.prog) (A := some ad) (c := c0) Try.underlying22 Try.underlying5 Try.underlying9 hcut
  have hcv3 := fun m : Nat => Kd.C_string (P := Try.prog) (A := some ad) (c := c0) Try.underlying22 Try.underlying5 Try.underlying9 (Kd.C_drewN hcut m)
  have hcv2 := Kd.C_string (P := Try.prog) (A := A1) (c := c1) Try.underlying22 Try.underlying5 Try.underlying9 HR1.out
  have hcv4 := fun m : Nat => Kd.C_string (P := Try.prog) (A := A1) (c := c1) Try.underlying22 Try.underlying5 Try.underlying9 (Kd.C_drewN HR1.out m)
  clear hcut hlen
  obtain ⟨i0, hi0, _, hsz0, _⟩ := info_parts info5
  have hsl : ∀ W : World, (Instr.slice 22 (.slice (some ad) (l1.length + 2) c0) none (some (.int .i64 (l1.length : Int))) none).run Try.prog W = .ok (.slice (some ad) l1.length c0) W := fun W => by
    have h := (print_take_of (P := Try.prog) (Value.int .u8) 0 22 5 .i64 Try.underlying22 hi0 hsz0 (some ad) c0 (l1 ++ [201, 202]) (l1.length : Int) (by omega) (by simp; omega) (by simp; omega)).1 W
    simpa using h
  clear hi0 hsz0
  have b0 := eq_true (show 0 ≤ (l1.length : Int) by omega)
  have b1 := eq_true (show (l1.length : Int) < (l1.length : Int) + 2 by omega)
  have b2 := eq_true (show 0 ≤ (l1.length : Int) + 1 by omega)
  have b3 := eq_true (show (l1.length : Int) + 1 < (l1.length : Int) + 2 by omega)
  have hy' := hy
  rw [show ad.add (l1.length + 1) = ⟨ad.block, ad.off + (l1.length + 1), none⟩ from by simp [Addr.add]] at hy'
  have hw1 : IntKind.i64.wrap ((l1.length : Int) + 1) = (l1.length : Int) + 1 := by rw [IntKind.wrap_i64]; omega
  go_enter Try.func21, Try.ntmps21
  go_wp2
  go_quiet (fail)
  go_wp2
  go_ret
  exact ⟨by first | rfl | (simp; done), by repeat (first | exact Drawn0.refl _ | apply Drawn0.step)⟩


end Go.Proofs.Ytjcabmopajhggaa.G
