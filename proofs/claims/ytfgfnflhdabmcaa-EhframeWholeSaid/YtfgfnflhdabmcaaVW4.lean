/- Lemmas and contracts, one text behind the other: what the row of this claim needs; no conditions beyond those that each theorem names. -/
import Derived.Laws.EntriesVeiled
import Derived.Lib.Hide
import Derived.Great.Frames
import Derived.Recover
import Derived.Test.YtfgfnflhdabmcaaVW3
set_option linter.unusedVariables false
set_option linter.unusedSimpArgs false
set_option maxRecDepth 100000
section
namespace Go.Proofs.Ytfgfnflhdabmcaa.G
open Go.RowKit Go.Proofs.YtfgfnflhdabmcaaW.PrintWords Go.Proofs.YtfgfnflhdabmcaaW.PrintLast Go.Proofs.YtfgfnflhdabmcaaW.PrintMore
attribute [local go_sem] max2_int min2_int max_two min_two max_three min_three max_four min_four
def leb_ReadSleb_1.f (k : Nat) (l0 : List Int) : Option (Int × Bool) := (leb_joined.f k l0).bind fun t101 => (if (wrap64 (7 * (l0.length : Int))) < 64 then (if 0 ≤ (wrap64 ((wrap64 (7 * (l0.length : Int))) - 1)) then (if (Go.bits .and .u64 (shr .u64 t101 (wrap64 ((wrap64 (7 * (l0.length : Int))) - 1))) 1) = 1 then (if 0 ≤ (wrap64 (7 * (l0.length : Int))) then (if (l0.length : Int) < 10 then (some (wrap64 (Go.bits .or .u64 t101 (shl .u64 18446744073709551615 (wrap64 (7 * (l0.length : Int))))), true)) else (if 9 < (l0.length : Int) then (if (rd l0 9) = 0 then (some (wrap64 (Go.bits .or .u64 t101 (shl .u64 18446744073709551615 (wrap64 (7 * (l0.length : Int))))), true)) else (some (wrap64 (Go.bits .or .u64 t101 (shl .u64 18446744073709551615 (wrap64 (7 * (l0.length : Int))))), ((rd l0 9) == 127)))) else (none))) else (none)) else (if (l0.length : Int) < 10 then (some (wrap64 (t101), true)) else (if 9 < (l0.length : Int) then (if (rd l0 9) = 0 then (some (wrap64 (t101), true)) else (some (wrap64 (t101), ((rd l0 9) == 127)))) else (none)))) else (none)) else (if (l0.length : Int) < 10 then (some (wrap64 (t101), true)) else (if 9 < (l0.length : Int) then (if (rd l0 9) = 0 then (some (wrap64 (t101), true)) else (some (wrap64 (t101), ((rd l0 9) == 127)))) else (none))))
set_option maxHeartbeats 8000000 in
theorem leb_ReadSleb_1.calls (k : Nat) (A0 : Option Addr) (c0 : Nat) (l0 : List Int) (r1 : Int) (r2 : Bool) (w : World) (hr0 : Kd.C (Kd.int .u8) w A0 l0.length l0) (hc0 : l0.length ≤ c0) (h : leb_ReadSleb_1.f k l0 = some (r1, r2)) :
    Calls Try.prog 69 #[.slice A0 l0.length c0] w fun e w' => e = .returned (.tuple #[.int .i64 r1, .bool r2]) ∧ Drawn0 w w' := by
 have HR0 := am hr0
 have HC0 := am hc0
 clear hr0 hc0
 have H : ((leb_joined.f k l0).bind fun t101 => (if (wrap64 (7 * (l0.length : Int))) < 64 then (if 0 ≤ (wrap64 ((wrap64 (7 * (l0.length : Int))) - 1)) then (if (Go.bits .and .u64 (shr .u64 t101 (wrap64 ((wrap64 (7 * (l0.length : Int))) - 1))) 1) = 1 then (if 0 ≤ (wrap64 (7 * (l0.length : Int))) then (if (l0.length : Int) < 10 then (some (wrap64 (Go.bits .or .u64 t101 (shl .u64 18446744073709551615 (wrap64 (7 * (l0.length : Int))))), true)) else (if 9 < (l0.length : Int) then (if (rd l0 9) = 0 then (some (wrap64 (Go.bits .or .u64 t101 (shl .u64 18446744073709551615 (wrap64 (7 * (l0.length : Int))))), true)) else (some (wrap64 (Go.bits .or .u64 t101 (shl .u64 18446744073709551615 (wrap64 (7 * (l0.length : Int))))), ((rd l0 9) == 127)))) else (none))) else (none)) else (if (l0.length : Int) < 10 then (some (wrap64 (t101), true)) else (if 9 < (l0.length : Int) then (if (rd l0 9) = 0 then (some (wrap64 (t101), true)) else (some (wrap64 (t101), ((rd l0 9) == 127)))) else (none)))) else (none)) else (if (l0.length : Int) < 10 then (some (wrap64 (t101), true)) else (if 9 < (l0.length : Int) then (if (rd l0 9) = 0 then (some (wrap64 (t101), true)) else (some (wrap64 (t101), ((rd l0 9) == 127)))) else (none))))) = some (r1, r2) := h
 clear h
 replace H := Option.bind_eq_some_iff.mp H
 obtain ⟨t101, A20, H⟩ := H
 replace H : (if (wrap64 (7 * (l0.length : Int))) < 64 then (if 0 ≤ (wrap64 ((wrap64 (7 * (l0.length : Int))) - 1)) then (if (Go.bits .and .u64 (shr .u64 t101 (wrap64 ((wrap64 (7 * (l0.length : Int))) - 1))) 1) = 1 then (if 0 ≤ (wrap64 (7 * (l0.length : Int))) then (if (l0.length : Int) < 10 then (some (wrap64 (Go.bits .or .u64 t101 (shl .u64 18446744073709551615 (wrap64 (7 * (l0.length : Int))))), true)) else (if 9 < (l0.length : Int) then (if (rd l0 9) = 0 then (some (wrap64 (Go.bits .or .u64 t101 (shl .u64 18446744073709551615 (wrap64 (7 * (l0.length : Int))))), true)) else (some (wrap64 (Go.bits .or .u64 t101 (shl .u64 18446744073709551615 (wrap64 (7 * (l0.length : Int))))), ((rd l0 9) == 127)))) else (none))) else (none)) else (if (l0.length : Int) < 10 then (some (wrap64 (t101), true)) else (if 9 < (l0.length : Int) then (if (rd l0 9) = 0 then (some (wrap64 (t101), true)) else (some (wrap64 (t101), ((rd l0 9) == 127)))) else (none)))) else (none)) else (if (l0.length : Int) < 10 then (some (wrap64 (t101), true)) else (if 9 < (l0.length : Int) then (if (rd l0 9) = 0 then (some (wrap64 (t101), true)) else (some (wrap64 (t101), ((rd l0 9) == 127)))) else (none)))) = some (r1, r2) := H
 have A2 := am A20
 clear A20
 by_cases c3 : (wrap64 (7 * (l0.length : Int))) < 64
 rotate_left
 ·
  rw [if_neg c3] at H
  have c3b0 : decide ((wrap64 (7 * (l0.length : Int))) < 64) = false := decide_eq_false c3
  clear c3
  by_cases c17 : (l0.length : Int) < 10
  ·
   rw [if_pos c17] at H
   have c17b0 : decide ((l0.length : Int) < 10) = true := decide_eq_true c17
   have c17b1 : decide (l0.length < 10) = true := decide_eq_true (by omega)
   clear c17
   simp only [Option.some.injEq, Prod.mk.injEq] at H
   obtain ⟨rfl, rfl⟩ := H
   go_enter Try.func69, Try.ntmps69
   go_wp2_with (first | (go_at_call 70; (with_reducible refine (leb_joined.calls k _ _ l0 t101 _ ?side1 ?side2 A2.out).mono ?_); (case side1 => exact Kd.C_o HR0.out); (case side2 => exact HC0.out); rintro e w' ⟨rfl, ⟨nd, rfl⟩⟩; (try first | exact ⟨rfl, _, World.drewN_drewN _ _ _⟩ | exact ⟨rfl, _, Eq.trans (World.drewN_drewN _ _ _) (congrArg (World.drewN _) (Nat.add_assoc _ _ _))⟩)))
   repeat (go_quiet (first | (go_at_call 70; (with_reducible refine (leb_joined.calls k _ _ l0 t101 _ ?side1 ?side2 A2.out).mono ?_); (case side1 => exact Kd.C_o HR0.out); (case side2 => exact HC0.out); rintro e w' ⟨rfl, ⟨nd, rfl⟩⟩; (try first | exact ⟨rfl, _, World.drewN_drewN _ _ _⟩ | exact ⟨rfl, _, Eq.trans (World.drewN_drewN _ _ _) (congrArg (World.drewN _) (Nat.add_assoc _ _ _))⟩))); try go_wp2_with (first | (go_at_call 70; (with_reducible refine (leb_joined.calls k _ _ l0 t101 _ ?side1 ?side2 A2.out).mono ?_); (case side1 => exact Kd.C_o HR0.out); (case side2 => exact HC0.out); rintro e w' ⟨rfl, ⟨nd, rfl⟩⟩; (try first | exact ⟨rfl, _, World.drewN_drewN _ _ _⟩ | exact ⟨rfl, _, Eq.trans (World.drewN_drewN _ _ _) (congrArg (World.drewN _) (Nat.add_assoc _ _ _))⟩))))
   go_ret2
   exact ⟨by first | rfl | (simp; done) | (simp [*]; done), by repeat (first | exact Drawn0.refl _ | apply Drawn0.step)⟩
  rw [if_neg c17] at H
  have c17b0 : decide ((l0.length : Int) < 10) = false := decide_eq_false c17
  have c17b1 : decide (l0.length < 10) = false := decide_eq_false (by omega)
  clear c17
  by_cases c18 : 9 < (l0.length : Int)
  rotate_left
  ·
   rw [if_neg c18] at H
   exact absurd H (by simp)
  rw [if_pos c18] at H
  have c18b0 : decide (9 < (l0.length : Int)) = true := decide_eq_true c18
  have c18b1 : decide (9 < l0.length) = true := decide_eq_true (by omega)
  clear c18
  by_cases c19 : (rd l0 9) = 0
  ·
   rw [if_pos c19] at H
   have c19b0 : ((rd l0 9) == 0) = true := beq_iff_eq.mpr c19
   have c19b1 : ((rd l0 9) != 0) = false := bne_eq_false_iff_eq.mpr c19
   clear c19
   simp only [Option.some.injEq, Prod.mk.injEq] at H
   obtain ⟨rfl, rfl⟩ := H
   go_enter Try.func69, Try.ntmps69
   go_wp2_with (first | (go_at_call 70; (with_reducible refine (leb_joined.calls k _ _ l0 t101 _ ?side1 ?side2 A2.out).mono ?_); (case side1 => exact Kd.C_o HR0.out); (case side2 => exact HC0.out); rintro e w' ⟨rfl, ⟨nd, rfl⟩⟩; (try first | exact ⟨rfl, _, World.drewN_drewN _ _ _⟩ | exact ⟨rfl, _, Eq.trans (World.drewN_drewN _ _ _) (congrArg (World.drewN _) (Nat.add_assoc _ _ _))⟩); have p106 : 0 ≤ (9 : Int) := (by omega); have q106 : 9 < (l0.length : Int) := od; obtain ⟨ad106, e106, hx106_0⟩ := Kd.at_int HR0.out 9 p106 q106; cases e106; (try simp only [show (9 : Int).toNat = 9 from rfl, Nat.reduceMul, Nat.reduceEqDiff, Go.Addr.add, ↓reduceIte] at hx106_0); have qi106 : (9 < l0.length) = True := eq_true (by omega); (try rw [show ((9 : Int)).toNat = 9 from rfl] at hx106_0); replace p106 := eq_true p106; replace q106 := eq_true q106))
   repeat (go_quiet (first | (go_at_call 70; (with_reducible refine (leb_joined.calls k _ _ l0 t101 _ ?side1 ?side2 A2.out).mono ?_); (case side1 => exact Kd.C_o HR0.out); (case side2 => exact HC0.out); rintro e w' ⟨rfl, ⟨nd, rfl⟩⟩; (try first | exact ⟨rfl, _, World.drewN_drewN _ _ _⟩ | exact ⟨rfl, _, Eq.trans (World.drewN_drewN _ _ _) (congrArg (World.drewN _) (Nat.add_assoc _ _ _))⟩); have p106 : 0 ≤ (9 : Int) := (by omega); have q106 : 9 < (l0.length : Int) := od; obtain ⟨ad106, e106, hx106_0⟩ := Kd.at_int HR0.out 9 p106 q106; cases e106; (try simp only [show (9 : Int).toNat = 9 from rfl, Nat.reduceMul, Nat.reduceEqDiff, Go.Addr.add, ↓reduceIte] at hx106_0); have qi106 : (9 < l0.length) = True := eq_true (by omega); (try rw [show ((9 : Int)).toNat = 9 from rfl] at hx106_0); replace p106 := eq_true p106; replace q106 := eq_true q106)); try go_wp2_with (first | (go_at_call 70; (with_reducible refine (leb_joined.calls k _ _ l0 t101 _ ?side1 ?side2 A2.out).mono ?_); (case side1 => exact Kd.C_o HR0.out); (case side2 => exact HC0.out); rintro e w' ⟨rfl, ⟨nd, rfl⟩⟩; (try first | exact ⟨rfl, _, World.drewN_drewN _ _ _⟩ | exact ⟨rfl, _, Eq.trans (World.drewN_drewN _ _ _) (congrArg (World.drewN _) (Nat.add_assoc _ _ _))⟩); have p106 : 0 ≤ (9 : Int) := (by omega); have q106 : 9 < (l0.length : Int) := od; obtain ⟨ad106, e106, hx106_0⟩ := Kd.at_int HR0.out 9 p106 q106; cases e106; (try simp only [show (9 : Int).toNat = 9 from rfl, Nat.reduceMul, Nat.reduceEqDiff, Go.Addr.add, ↓reduceIte] at hx106_0); have qi106 : (9 < l0.length) = True := eq_true (by omega); (try rw [show ((9 : Int)).toNat = 9 from rfl] at hx106_0); replace p106 := eq_true p106; replace q106 := eq_true q106)))
   go_ret2
   exact ⟨by first | rfl | (simp; done) | (simp [*]; done), by repeat (first | exact Drawn0.refl _ | apply Drawn0.step)⟩
  rw [if_neg c19] at H
  have c19b0 : ((rd l0 9) == 0) = false := beq_eq_false_iff_ne.mpr c19
  have c19b1 : ((rd l0 9) != 0) = true := bne_iff_ne.mpr c19
  simp only [Option.some.injEq, Prod.mk.injEq] at H
  obtain ⟨rfl, rfl⟩ := H
  go_enter Try.func69, Try.ntmps69
  go_wp2_with (first | (go_at_call 70; (with_reducible refine (leb_joined.calls k _ _ l0 t101 _ ?side1 ?side2 A2.out).mono ?_); (case side1 => exact Kd.C_o HR0.out); (case side2 => exact HC0.out); rintro e w' ⟨rfl, ⟨nd, rfl⟩⟩; (try first | exact ⟨rfl, _, World.drewN_drewN _ _ _⟩ | exact ⟨rfl, _, Eq.trans (World.drewN_drewN _ _ _) (congrArg (World.drewN _) (Nat.add_assoc _ _ _))⟩); have p106 : 0 ≤ (9 : Int) := (by omega); have q106 : 9 < (l0.length : Int) := od; obtain ⟨ad106, e106, hx106_0⟩ := Kd.at_int HR0.out 9 p106 q106; cases e106; (try simp only [show (9 : Int).toNat = 9 from rfl, Nat.reduceMul, Nat.reduceEqDiff, Go.Addr.add, ↓reduceIte] at hx106_0); have qi106 : (9 < l0.length) = True := eq_true (by omega); (try rw [show ((9 : Int)).toNat = 9 from rfl] at hx106_0); replace p106 := eq_true p106; replace q106 := eq_true q106; have p107 : 0 ≤ (9 : Int) := (by omega); have q107 : 9 < (l0.length : Int) := od; obtain ⟨ad107, e107, hx107_0⟩ := Kd.at_int HR0.out 9 p107 q107; obtain rfl : ad106 = ad107 := (by injection e107); (try simp only [show (9 : Int).toNat = 9 from rfl, Nat.reduceMul, Nat.reduceEqDiff, Go.Addr.add, ↓reduceIte] at hx107_0); have qi107 : (9 < l0.length) = True := eq_true (by omega); (try rw [show ((9 : Int)).toNat = 9 from rfl] at hx107_0); replace p107 := eq_true p107; replace q107 := eq_true q107))
  repeat (go_quiet (first | (go_at_call 70; (with_reducible refine (leb_joined.calls k _ _ l0 t101 _ ?side1 ?side2 A2.out).mono ?_); (case side1 => exact Kd.C_o HR0.out); (case side2 => exact HC0.out); rintro e w' ⟨rfl, ⟨nd, rfl⟩⟩; (try first | exact ⟨rfl, _, World.drewN_drewN _ _ _⟩ | exact ⟨rfl, _, Eq.trans (World.drewN_drewN _ _ _) (congrArg (World.drewN _) (Nat.add_assoc _ _ _))⟩); have p106 : 0 ≤ (9 : Int) := (by omega); have q106 : 9 < (l0.length : Int) := od; obtain ⟨ad106, e106, hx106_0⟩ := Kd.at_int HR0.out 9 p106 q106; cases e106; (try simp only [show (9 : Int).toNat = 9 from rfl, Nat.reduceMul, Nat.reduceEqDiff, Go.Addr.add, ↓reduceIte] at hx106_0); have qi106 : (9 < l0.length) = True := eq_true (by omega); (try rw [show ((9 : Int)).toNat = 9 from rfl] at hx106_0); replace p106 := eq_true p106; replace q106 := eq_true q106; have p107 : 0 ≤ (9 : Int) := (by omega); have q107 : 9 < (l0.length : Int) := od; obtain ⟨ad107, e107, hx107_0⟩ := Kd.at_int HR0.out 9 p107 q107; obtain rfl : ad106 = ad107 := (by injection e107); (try simp only [show (9 : Int).toNat = 9 from rfl, Nat.reduceMul, Nat.reduceEqDiff, Go.Addr.add, ↓reduceIte] at hx107_0); have qi107 : (9 < l0.length) = True := eq_true (by omega); (try rw [show ((9 : Int)).toNat = 9 from rfl] at hx107_0); replace p107 := eq_true p107; replace q107 := eq_true q107)); try go_wp2_with (first | (go_at_call 70; (with_reducible refine (leb_joined.calls k _ _ l0 t101 _ ?side1 ?side2 A2.out).mono ?_); (case side1 => exact Kd.C_o HR0.out); (case side2 => exact HC0.out); rintro e w' ⟨rfl, ⟨nd, rfl⟩⟩; (try first | exact ⟨rfl, _, World.drewN_drewN _ _ _⟩ | exact ⟨rfl, _, Eq.trans (World.drewN_drewN _ _ _) (congrArg (World.drewN _) (Nat.add_assoc _ _ _))⟩); have p106 : 0 ≤ (9 : Int) := (by omega); have q106 : 9 < (l0.length : Int) := od; obtain ⟨ad106, e106, hx106_0⟩ := Kd.at_int HR0.out 9 p106 q106; cases e106; (try simp only [show (9 : Int).toNat = 9 from rfl, Nat.reduceMul, Nat.reduceEqDiff, Go.Addr.add, ↓reduceIte] at hx106_0); have qi106 : (9 < l0.length) = True := eq_true (by omega); (try rw [show ((9 : Int)).toNat = 9 from rfl] at hx106_0); replace p106 := eq_true p106; replace q106 := eq_true q106; have p107 : 0 ≤ (9 : Int) := (by omega); have q107 : 9 < (l0.length : Int) := od; obtain ⟨ad107, e107, hx107_0⟩ := Kd.at_int HR0.out 9 p107 q107; obtain rfl : ad106 = ad107 := (by injection e107); (try simp only [show (9 : Int).toNat = 9 from rfl, Nat.reduceMul, Nat.reduceEqDiff, Go.Addr.add, ↓reduceIte] at hx107_0); have qi107 : (9 < l0.length) = True := eq_true (by omega); (try rw [show ((9 : Int)).toNat = 9 from rfl] at hx107_0); replace p107 := eq_true p107; replace q107 := eq_true q107)))
  go_ret2
  exact ⟨by first | rfl | (simp; done) | (simp [*]; done), by repeat (first | exact Drawn0.refl _ | apply Drawn0.step)⟩
 rw [if_pos c3] at H
 have c3b0 : decide ((wrap64 (7 * (l0.length : Int))) < 64) = true := decide_eq_true c3
 clear c3
 obtain ⟨ji4, hji4⟩ : ∃ j_ : Int, (wrap64 ((wrap64 (7 * (l0.length : Int))) - 1)) = j_ := ⟨_, rfl⟩
 replace H : (if 0 ≤ (ji4) then (if (Go.bits .and .u64 (shr .u64 t101 (ji4)) 1) = 1 then (if 0 ≤ (wrap64 (7 * (l0.length : Int))) then (if (l0.length : Int) < 10 then (some (wrap64 (Go.bits .or .u64 t101 (shl .u64 18446744073709551615 (wrap64 (7 * (l0.length : Int))))), true)) else (if 9 < (l0.length : Int) then (if (rd l0 9) = 0 then (some (wrap64 (Go.bits .or .u64 t101 (shl .u64 18446744073709551615 (wrap64 (7 * (l0.length : Int))))), true)) else (some (wrap64 (Go.bits .or .u64 t101 (shl .u64 18446744073709551615 (wrap64 (7 * (l0.length : Int))))), ((rd l0 9) == 127)))) else (none))) else (none)) else (if (l0.length : Int) < 10 then (some (wrap64 (t101), true)) else (if 9 < (l0.length : Int) then (if (rd l0 9) = 0 then (some (wrap64 (t101), true)) else (some (wrap64 (t101), ((rd l0 9) == 127)))) else (none)))) else (none)) = some (r1, r2) := by first | (rw [hji4] at H; exact H) | (simp only [hji4] at H ⊢; exact H)
 (try rw [hji4] at A2)
 have hji4w : (IntKind.i64.wrap ((wrap64 (7 * (l0.length : Int))) - 1)) = ji4 := (i64_w _).trans hji4
 by_cases c5 : 0 ≤ (ji4)
 rotate_left
 ·
  rw [if_neg c5] at H
  exact absurd H (by simp)
 rw [if_pos c5] at H
 have c5b0 := eq_true c5
 have c5b1 : decide (0 ≤ (ji4)) = true := decide_eq_true c5
 clear c5
 obtain ⟨ji6, hji6⟩ : ∃ j_ : Int, (shr .u64 t101 (ji4)) = j_ := ⟨_, rfl⟩
 replace H : (if (Go.bits .and .u64 (ji6) 1) = 1 then (if 0 ≤ (wrap64 (7 * (l0.length : Int))) then (if (l0.length : Int) < 10 then (some (wrap64 (Go.bits .or .u64 t101 (shl .u64 18446744073709551615 (wrap64 (7 * (l0.length : Int))))), true)) else (if 9 < (l0.length : Int) then (if (rd l0 9) = 0 then (some (wrap64 (Go.bits .or .u64 t101 (shl .u64 18446744073709551615 (wrap64 (7 * (l0.length : Int))))), true)) else (some (wrap64 (Go.bits .or .u64 t101 (shl .u64 18446744073709551615 (wrap64 (7 * (l0.length : Int))))), ((rd l0 9) == 127)))) else (none))) else (none)) else (if (l0.length : Int) < 10 then (some (wrap64 (t101), true)) else (if 9 < (l0.length : Int) then (if (rd l0 9) = 0 then (some (wrap64 (t101), true)) else (some (wrap64 (t101), ((rd l0 9) == 127)))) else (none)))) = some (r1, r2) := by first | (rw [hji6] at H; exact H) | (simp only [hji6] at H ⊢; exact H)
 (try rw [hji6] at A2)
 have hji6_ : (t101 / 2 ^ min (ji4).toNat 64) = ji6 := hji6
 have hji6z : (ji4) ≤ 64 → (t101 / 2 ^ (ji4).toNat) = ji6 := shr_small hji6
 by_cases c7 : (Go.bits .and .u64 (ji6) 1) = 1
 rotate_left
 ·
  rw [if_neg c7] at H
  have c7b0 : ((Go.bits .and .u64 (ji6) 1) == 1) = false := beq_eq_false_iff_ne.mpr c7
  have c7b1 : ((Go.bits .and .u64 (ji6) 1) != 1) = true := bne_iff_ne.mpr c7
  by_cases c14 : (l0.length : Int) < 10
  ·
   rw [if_pos c14] at H
   have c14b0 : decide ((l0.length : Int) < 10) = true := decide_eq_true c14
   have c14b1 : decide (l0.length < 10) = true := decide_eq_true (by omega)
   clear c14
   simp only [Option.some.injEq, Prod.mk.injEq] at H
   obtain ⟨rfl, rfl⟩ := H
   go_enter Try.func69, Try.ntmps69
   go_wp2_with (first | (go_at_call 70; (with_reducible refine (leb_joined.calls k _ _ l0 t101 _ ?side1 ?side2 A2.out).mono ?_); (case side1 => exact Kd.C_o HR0.out); (case side2 => exact HC0.out); rintro e w' ⟨rfl, ⟨nd, rfl⟩⟩; (try first | exact ⟨rfl, _, World.drewN_drewN _ _ _⟩ | exact ⟨rfl, _, Eq.trans (World.drewN_drewN _ _ _) (congrArg (World.drewN _) (Nat.add_assoc _ _ _))⟩)))
   repeat (go_quiet (first | (go_at_call 70; (with_reducible refine (leb_joined.calls k _ _ l0 t101 _ ?side1 ?side2 A2.out).mono ?_); (case side1 => exact Kd.C_o HR0.out); (case side2 => exact HC0.out); rintro e w' ⟨rfl, ⟨nd, rfl⟩⟩; (try first | exact ⟨rfl, _, World.drewN_drewN _ _ _⟩ | exact ⟨rfl, _, Eq.trans (World.drewN_drewN _ _ _) (congrArg (World.drewN _) (Nat.add_assoc _ _ _))⟩))); try go_wp2_with (first | (go_at_call 70; (with_reducible refine (leb_joined.calls k _ _ l0 t101 _ ?side1 ?side2 A2.out).mono ?_); (case side1 => exact Kd.C_o HR0.out); (case side2 => exact HC0.out); rintro e w' ⟨rfl, ⟨nd, rfl⟩⟩; (try first | exact ⟨rfl, _, World.drewN_drewN _ _ _⟩ | exact ⟨rfl, _, Eq.trans (World.drewN_drewN _ _ _) (congrArg (World.drewN _) (Nat.add_assoc _ _ _))⟩))))
   go_ret2
   exact ⟨by first | rfl | (simp; done) | (simp only [← hji4, ← hji6] <;> (first | rfl | simp)) | (simp [*]; done), by repeat (first | exact Drawn0.refl _ | apply Drawn0.step)⟩
  rw [if_neg c14] at H
  have c14b0 : decide ((l0.length : Int) < 10) = false := decide_eq_false c14
  have c14b1 : decide (l0.length < 10) = false := decide_eq_false (by omega)
  clear c14
  by_cases c15 : 9 < (l0.length : Int)
  rotate_left
  ·
   rw [if_neg c15] at H
   exact absurd H (by simp)
  rw [if_pos c15] at H
  have c15b0 : decide (9 < (l0.length : Int)) = true := decide_eq_true c15
  have c15b1 : decide (9 < l0.length) = true := decide_eq_true (by omega)
  clear c15
  by_cases c16 : (rd l0 9) = 0
  ·
   rw [if_pos c16] at H
   have c16b0 : ((rd l0 9) == 0) = true := beq_iff_eq.mpr c16
   have c16b1 : ((rd l0 9) != 0) = false := bne_eq_false_iff_eq.mpr c16
   clear c16
   simp only [Option.some.injEq, Prod.mk.injEq] at H
   obtain ⟨rfl, rfl⟩ := H
   go_enter Try.func69, Try.ntmps69
   go_wp2_with (first | (go_at_call 70; (with_reducible refine (leb_joined.calls k _ _ l0 t101 _ ?side1 ?side2 A2.out).mono ?_); (case side1 => exact Kd.C_o HR0.out); (case side2 => exact HC0.out); rintro e w' ⟨rfl, ⟨nd, rfl⟩⟩; (try first | exact ⟨rfl, _, World.drewN_drewN _ _ _⟩ | exact ⟨rfl, _, Eq.trans (World.drewN_drewN _ _ _) (congrArg (World.drewN _) (Nat.add_assoc _ _ _))⟩); have p104 : 0 ≤ (9 : Int) := (by omega); have q104 : 9 < (l0.length : Int) := od; obtain ⟨ad104, e104, hx104_0⟩ := Kd.at_int HR0.out 9 p104 q104; cases e104; (try simp only [show (9 : Int).toNat = 9 from rfl, Nat.reduceMul, Nat.reduceEqDiff, Go.Addr.add, ↓reduceIte] at hx104_0); have qi104 : (9 < l0.length) = True := eq_true (by omega); (try rw [show ((9 : Int)).toNat = 9 from rfl] at hx104_0); replace p104 := eq_true p104; replace q104 := eq_true q104))
   repeat (go_quiet (first | (go_at_call 70; (with_reducible refine (leb_joined.calls k _ _ l0 t101 _ ?side1 ?side2 A2.out).mono ?_); (case side1 => exact Kd.C_o HR0.out); (case side2 => exact HC0.out); rintro e w' ⟨rfl, ⟨nd, rfl⟩⟩; (try first | exact ⟨rfl, _, World.drewN_drewN _ _ _⟩ | exact ⟨rfl, _, Eq.trans (World.drewN_drewN _ _ _) (congrArg (World.drewN _) (Nat.add_assoc _ _ _))⟩); have p104 : 0 ≤ (9 : Int) := (by omega); have q104 : 9 < (l0.length : Int) := od; obtain ⟨ad104, e104, hx104_0⟩ := Kd.at_int HR0.out 9 p104 q104; cases e104; (try simp only [show (9 : Int).toNat = 9 from rfl, Nat.reduceMul, Nat.reduceEqDiff, Go.Addr.add, ↓reduceIte] at hx104_0); have qi104 : (9 < l0.length) = True := eq_true (by omega); (try rw [show ((9 : Int)).toNat = 9 from rfl] at hx104_0); replace p104 := eq_true p104; replace q104 := eq_true q104)); try go_wp2_with (first | (go_at_call 70; (with_reducible refine (leb_joined.calls k _ _ l0 t101 _ ?side1 ?side2 A2.out).mono ?_); (case side1 => exact Kd.C_o HR0.out); (case side2 => exact HC0.out); rintro e w' ⟨rfl, ⟨nd, rfl⟩⟩; (try first | exact ⟨rfl, _, World.drewN_drewN _ _ _⟩ | exact ⟨rfl, _, Eq.trans (World.drewN_drewN _ _ _) (congrArg (World.drewN _) (Nat.add_assoc _ _ _))⟩); have p104 : 0 ≤ (9 : Int) := (by omega); have q104 : 9 < (l0.length : Int) := od; obtain ⟨ad104, e104, hx104_0⟩ := Kd.at_int HR0.out 9 p104 q104; cases e104; (try simp only [show (9 : Int).toNat = 9 from rfl, Nat.reduceMul, Nat.reduceEqDiff, Go.Addr.add, ↓reduceIte] at hx104_0); have qi104 : (9 < l0.length) = True := eq_true (by omega); (try rw [show ((9 : Int)).toNat = 9 from rfl] at hx104_0); replace p104 := eq_true p104; replace q104 := eq_true q104)))
   go_ret2
   exact ⟨by first | rfl | (simp; done) | (simp only [← hji4, ← hji6] <;> (first | rfl | simp)) | (simp [*]; done), by repeat (first | exact Drawn0.refl _ | apply Drawn0.step)⟩
  rw [if_neg c16] at H
  have c16b0 : ((rd l0 9) == 0) = false := beq_eq_false_iff_ne.mpr c16
  have c16b1 : ((rd l0 9) != 0) = true := bne_iff_ne.mpr c16
  simp only [Option.some.injEq, Prod.mk.injEq] at H
  obtain ⟨rfl, rfl⟩ := H
  go_enter Try.func69, Try.ntmps69
  go_wp2_with (first | (go_at_call 70; (with_reducible refine (leb_joined.calls k _ _ l0 t101 _ ?side1 ?side2 A2.out).mono ?_); (case side1 => exact Kd.C_o HR0.out); (case side2 => exact HC0.out); rintro e w' ⟨rfl, ⟨nd, rfl⟩⟩; (try first | exact ⟨rfl, _, World.drewN_drewN _ _ _⟩ | exact ⟨rfl, _, Eq.trans (World.drewN_drewN _ _ _) (congrArg (World.drewN _) (Nat.add_assoc _ _ _))⟩); have p104 : 0 ≤ (9 : Int) := (by omega); have q104 : 9 < (l0.length : Int) := od; obtain ⟨ad104, e104, hx104_0⟩ := Kd.at_int HR0.out 9 p104 q104; cases e104; (try simp only [show (9 : Int).toNat = 9 from rfl, Nat.reduceMul, Nat.reduceEqDiff, Go.Addr.add, ↓reduceIte] at hx104_0); have qi104 : (9 < l0.length) = True := eq_true (by omega); (try rw [show ((9 : Int)).toNat = 9 from rfl] at hx104_0); replace p104 := eq_true p104; replace q104 := eq_true q104; have p105 : 0 ≤ (9 : Int) := (by omega); have q105 : 9 < (l0.length : Int) := od; obtain ⟨ad105, e105, hx105_0⟩ := Kd.at_int HR0.out 9 p105 q105; obtain rfl : ad104 = ad105 := (by injection e105); (try simp only [show (9 : Int).toNat = 9 from rfl, Nat.reduceMul, Nat.reduceEqDiff, Go.Addr.add, ↓reduceIte] at hx105_0); have qi105 : (9 < l0.length) = True := eq_true (by omega); (try rw [show ((9 : Int)).toNat = 9 from rfl] at hx105_0); replace p105 := eq_true p105; replace q105 := eq_true q105))
  repeat (go_quiet (first | (go_at_call 70; (with_reducible refine (leb_joined.calls k _ _ l0 t101 _ ?side1 ?side2 A2.out).mono ?_); (case side1 => exact Kd.C_o HR0.out); (case side2 => exact HC0.out); rintro e w' ⟨rfl, ⟨nd, rfl⟩⟩; (try first | exact ⟨rfl, _, World.drewN_drewN _ _ _⟩ | exact ⟨rfl, _, Eq.trans (World.drewN_drewN _ _ _) (congrArg (World.drewN _) (Nat.add_assoc _ _ _))⟩); have p104 : 0 ≤ (9 : Int) := (by omega); have q104 : 9 < (l0.length : Int) := od; obtain ⟨ad104, e104, hx104_0⟩ := Kd.at_int HR0.out 9 p104 q104; cases e104; (try simp only [show (9 : Int).toNat = 9 from rfl, Nat.reduceMul, Nat.reduceEqDiff, Go.Addr.add, ↓reduceIte] at hx104_0); have qi104 : (9 < l0.length) = True := eq_true (by omega); (try rw [show ((9 : Int)).toNat = 9 from rfl] at hx104_0); replace p104 := eq_true p104; replace q104 := eq_true q104; have p105 : 0 ≤ (9 : Int) := (by omega); have q105 : 9 < (l0.length : Int) := od; obtain ⟨ad105, e105, hx105_0⟩ := Kd.at_int HR0.out 9 p105 q105; obtain rfl : ad104 = ad105 := (by injection e105); (try simp only [show (9 : Int).toNat = 9 from rfl, Nat.reduceMul, Nat.reduceEqDiff, Go.Addr.add, ↓reduceIte] at hx105_0); have qi105 : (9 < l0.length) = True := eq_true (by omega); (try rw [show ((9 : Int)).toNat = 9 from rfl] at hx105_0); replace p105 := eq_true p105; replace q105 := eq_true q105)); try go_wp2_with (first | (go_at_call 70; (with_reducible refine (leb_joined.calls k _ _ l0 t101 _ ?side1 ?side2 A2.out).mono ?_); (case side1 => exact Kd.C_o HR0.out); (case side2 => exact HC0.out); rintro e w' ⟨rfl, ⟨nd, rfl⟩⟩; (try first | exact ⟨rfl, _, World.drewN_drewN _ _ _⟩ | exact ⟨rfl, _, Eq.trans (World.drewN_drewN _ _ _) (congrArg (World.drewN _) (Nat.add_assoc _ _ _))⟩); have p104 : 0 ≤ (9 : Int) := (by omega); have q104 : 9 < (l0.length : Int) := od; obtain ⟨ad104, e104, hx104_0⟩ := Kd.at_int HR0.out 9 p104 q104; cases e104; (try simp only [show (9 : Int).toNat = 9 from rfl, Nat.reduceMul, Nat.reduceEqDiff, Go.Addr.add, ↓reduceIte] at hx104_0); have qi104 : (9 < l0.length) = True := eq_true (by omega); (try rw [show ((9 : Int)).toNat = 9 from rfl] at hx104_0); replace p104 := eq_true p104; replace q104 := eq_true q104; have p105 : 0 ≤ (9 : Int) := (by omega); have q105 : 9 < (l0.length : Int) := od; obtain ⟨ad105, e105, hx105_0⟩ := Kd.at_int HR0.out 9 p105 q105; obtain rfl : ad104 = ad105 := (by injection e105); (try simp only [show (9 : Int).toNat = 9 from rfl, Nat.reduceMul, Nat.reduceEqDiff, Go.Addr.add, ↓reduceIte] at hx105_0); have qi105 : (9 < l0.length) = True := eq_true (by omega); (try rw [show ((9 : Int)).toNat = 9 from rfl] at hx105_0); replace p105 := eq_true p105; replace q105 := eq_true q105)))
  go_ret2
  exact ⟨by first | rfl | (simp; done) | (simp only [← hji4, ← hji6] <;> (first | rfl | simp)) | (simp [*]; done), by repeat (first | exact Drawn0.refl _ | apply Drawn0.step)⟩
 rw [if_pos c7] at H
 have c7b0 : ((Go.bits .and .u64 (ji6) 1) == 1) = true := beq_iff_eq.mpr c7
 have c7b1 : ((Go.bits .and .u64 (ji6) 1) != 1) = false := bne_eq_false_iff_eq.mpr c7
 clear c7
 obtain ⟨ji8, hji8⟩ : ∃ j_ : Int, (wrap64 (7 * (l0.length : Int))) = j_ := ⟨_, rfl⟩
 replace H : (if 0 ≤ (ji8) then (if (l0.length : Int) < 10 then (some (wrap64 (Go.bits .or .u64 t101 (shl .u64 18446744073709551615 (ji8))), true)) else (if 9 < (l0.length : Int) then (if (rd l0 9) = 0 then (some (wrap64 (Go.bits .or .u64 t101 (shl .u64 18446744073709551615 (ji8))), true)) else (some (wrap64 (Go.bits .or .u64 t101 (shl .u64 18446744073709551615 (ji8))), ((rd l0 9) == 127)))) else (none))) else (none)) = some (r1, r2) := by first | (rw [hji8] at H; exact H) | (simp only [hji8] at H ⊢; exact H)
 (try rw [hji8] at c3b0)
 (try rw [hji8] at A2)
 have hji8w : (IntKind.i64.wrap (7 * (l0.length : Int))) = ji8 := (i64_w _).trans hji8
 (try (have hji8ji4 : (wrap64 (ji8 - 1)) = ji4 := by (rw [← hji8]; exact hji4)))
 (try (have hji8ji4w : (IntKind.i64.wrap (ji8 - 1)) = ji4 := (i64_w _).trans hji8ji4))
 by_cases c9 : 0 ≤ (ji8)
 rotate_left
 ·
  rw [if_neg c9] at H
  exact absurd H (by simp)
 rw [if_pos c9] at H
 have c9b0 := eq_true c9
 have c9b1 : decide (0 ≤ (ji8)) = true := decide_eq_true c9
 clear c9
 obtain ⟨ji10, hji10⟩ : ∃ j_ : Int, (shl .u64 18446744073709551615 (ji8)) = j_ := ⟨_, rfl⟩
 replace H : (if (l0.length : Int) < 10 then (some (wrap64 (Go.bits .or .u64 t101 (ji10)), true)) else (if 9 < (l0.length : Int) then (if (rd l0 9) = 0 then (some (wrap64 (Go.bits .or .u64 t101 (ji10)), true)) else (some (wrap64 (Go.bits .or .u64 t101 (ji10)), ((rd l0 9) == 127)))) else (none))) = some (r1, r2) := by first | (rw [hji10] at H; exact H) | (simp only [hji10] at H ⊢; exact H)
 (try rw [hji10] at A2)
 have hji10_ : (IntKind.u64.wrap (18446744073709551615 * 2 ^ min (ji8).toNat 64)) = ji10 := hji10
 have hji10z : (ji8) ≤ 64 → (IntKind.u64.wrap (18446744073709551615 * 2 ^ (ji8).toNat)) = ji10 := shl_small hji10
 by_cases c11 : (l0.length : Int) < 10
 ·
  rw [if_pos c11] at H
  have c11b0 : decide ((l0.length : Int) < 10) = true := decide_eq_true c11
  have c11b1 : decide (l0.length < 10) = true := decide_eq_true (by omega)
  clear c11
  simp only [Option.some.injEq, Prod.mk.injEq] at H
  obtain ⟨rfl, rfl⟩ := H
  go_enter Try.func69, Try.ntmps69
  go_wp2_with (first | (go_at_call 70; (with_reducible refine (leb_joined.calls k _ _ l0 t101 _ ?side1 ?side2 A2.out).mono ?_); (case side1 => exact Kd.C_o HR0.out); (case side2 => exact HC0.out); rintro e w' ⟨rfl, ⟨nd, rfl⟩⟩; (try first | exact ⟨rfl, _, World.drewN_drewN _ _ _⟩ | exact ⟨rfl, _, Eq.trans (World.drewN_drewN _ _ _) (congrArg (World.drewN _) (Nat.add_assoc _ _ _))⟩)))
  repeat (go_quiet (first | (go_at_call 70; (with_reducible refine (leb_joined.calls k _ _ l0 t101 _ ?side1 ?side2 A2.out).mono ?_); (case side1 => exact Kd.C_o HR0.out); (case side2 => exact HC0.out); rintro e w' ⟨rfl, ⟨nd, rfl⟩⟩; (try first | exact ⟨rfl, _, World.drewN_drewN _ _ _⟩ | exact ⟨rfl, _, Eq.trans (World.drewN_drewN _ _ _) (congrArg (World.drewN _) (Nat.add_assoc _ _ _))⟩))); try go_wp2_with (first | (go_at_call 70; (with_reducible refine (leb_joined.calls k _ _ l0 t101 _ ?side1 ?side2 A2.out).mono ?_); (case side1 => exact Kd.C_o HR0.out); (case side2 => exact HC0.out); rintro e w' ⟨rfl, ⟨nd, rfl⟩⟩; (try first | exact ⟨rfl, _, World.drewN_drewN _ _ _⟩ | exact ⟨rfl, _, Eq.trans (World.drewN_drewN _ _ _) (congrArg (World.drewN _) (Nat.add_assoc _ _ _))⟩))))
  go_ret2
  exact ⟨by first | rfl | (simp; done) | (simp only [← hji4, ← hji6, ← hji8, ← hji10] <;> (first | rfl | simp)) | (simp [*]; done), by repeat (first | exact Drawn0.refl _ | apply Drawn0.step)⟩
 rw [if_neg c11] at H
 have c11b0 : decide ((l0.length : Int) < 10) = false := decide_eq_false c11
 have c11b1 : decide (l0.length < 10) = false := decide_eq_false (by omega)
 clear c11
 by_cases c12 : 9 < (l0.length : Int)
 rotate_left
 ·
  rw [if_neg c12] at H
  exact absurd H (by simp)
 rw [if_pos c12] at H
 have c12b0 : decide (9 < (l0.length : Int)) = true := decide_eq_true c12
 have c12b1 : decide (9 < l0.length) = true := decide_eq_true (by omega)
 clear c12
 by_cases c13 : (rd l0 9) = 0
 ·
  rw [if_pos c13] at H
  have c13b0 : ((rd l0 9) == 0) = true := beq_iff_eq.mpr c13
  have c13b1 : ((rd l0 9) != 0) = false := bne_eq_false_iff_eq.mpr c13
  clear c13
  simp only [Option.some.injEq, Prod.mk.injEq] at H
  obtain ⟨rfl, rfl⟩ := H
  go_enter Try.func69, Try.ntmps69
  go_wp2_with (first | (go_at_call 70; (with_reducible refine (leb_joined.calls k _ _ l0 t101 _ ?side1 ?side2 A2.out).mono ?_); (case side1 => exact Kd.C_o HR0.out); (case side2 => exact HC0.out); rintro e w' ⟨rfl, ⟨nd, rfl⟩⟩; (try first | exact ⟨rfl, _, World.drewN_drewN _ _ _⟩ | exact ⟨rfl, _, Eq.trans (World.drewN_drewN _ _ _) (congrArg (World.drewN _) (Nat.add_assoc _ _ _))⟩); have p102 : 0 ≤ (9 : Int) := (by omega); have q102 : 9 < (l0.length : Int) := od; obtain ⟨ad102, e102, hx102_0⟩ := Kd.at_int HR0.out 9 p102 q102; cases e102; (try simp only [show (9 : Int).toNat = 9 from rfl, Nat.reduceMul, Nat.reduceEqDiff, Go.Addr.add, ↓reduceIte] at hx102_0); have qi102 : (9 < l0.length) = True := eq_true (by omega); (try rw [show ((9 : Int)).toNat = 9 from rfl] at hx102_0); replace p102 := eq_true p102; replace q102 := eq_true q102))
  repeat (go_quiet (first | (go_at_call 70; (with_reducible refine (leb_joined.calls k _ _ l0 t101 _ ?side1 ?side2 A2.out).mono ?_); (case side1 => exact Kd.C_o HR0.out); (case side2 => exact HC0.out); rintro e w' ⟨rfl, ⟨nd, rfl⟩⟩; (try first | exact ⟨rfl, _, World.drewN_drewN _ _ _⟩ | exact ⟨rfl, _, Eq.trans (World.drewN_drewN _ _ _) (congrArg (World.drewN _) (Nat.add_assoc _ _ _))⟩); have p102 : 0 ≤ (9 : Int) := (by omega); have q102 : 9 < (l0.length : Int) := od; obtain ⟨ad102, e102, hx102_0⟩ := Kd.at_int HR0.out 9 p102 q102; cases e102; (try simp only [show (9 : Int).toNat = 9 from rfl, Nat.reduceMul, Nat.reduceEqDiff, Go.Addr.add, ↓reduceIte] at hx102_0); have qi102 : (9 < l0.length) = True := eq_true (by omega); (try rw [show ((9 : Int)).toNat = 9 from rfl] at hx102_0); replace p102 := eq_true p102; replace q102 := eq_true q102)); try go_wp2_with (first | (go_at_call 70; (with_reducible refine (leb_joined.calls k _ _ l0 t101 _ ?side1 ?side2 A2.out).mono ?_); (case side1 => exact Kd.C_o HR0.out); (case side2 => exact HC0.out); rintro e w' ⟨rfl, ⟨nd, rfl⟩⟩; (try first | exact ⟨rfl, _, World.drewN_drewN _ _ _⟩ | exact ⟨rfl, _, Eq.trans (World.drewN_drewN _ _ _) (congrArg (World.drewN _) (Nat.add_assoc _ _ _))⟩); have p102 : 0 ≤ (9 : Int) := (by omega); have q102 : 9 < (l0.length : Int) := od; obtain ⟨ad102, e102, hx102_0⟩ := Kd.at_int HR0.out 9 p102 q102; cases e102; (try simp only [show (9 : Int).toNat = 9 from rfl, Nat.reduceMul, Nat.reduceEqDiff, Go.Addr.add, ↓reduceIte] at hx102_0); have qi102 : (9 < l0.length) = True := eq_true (by omega); (try rw [show ((9 : Int)).toNat = 9 from rfl] at hx102_0); replace p102 := eq_true p102; replace q102 := eq_true q102)))
  go_ret2
  exact ⟨by first | rfl | (simp; done) | (simp only [← hji4, ← hji6, ← hji8, ← hji10] <;> (first | rfl | simp)) | (simp [*]; done), by repeat (first | exact Drawn0.refl _ | apply Drawn0.step)⟩
 rw [if_neg c13] at H
 have c13b0 : ((rd l0 9) == 0) = false := beq_eq_false_iff_ne.mpr c13
 have c13b1 : ((rd l0 9) != 0) = true := bne_iff_ne.mpr c13
 simp only [Option.some.injEq, Prod.mk.injEq] at H
 obtain ⟨rfl, rfl⟩ := H
 go_enter Try.func69, Try.ntmps69
 go_wp2_with (first | (go_at_call 70; (with_reducible refine (leb_joined.calls k _ _ l0 t101 _ ?side1 ?side2 A2.out).mono ?_); (case side1 => exact Kd.C_o HR0.out); (case side2 => exact HC0.out); rintro e w' ⟨rfl, ⟨nd, rfl⟩⟩; (try first | exact ⟨rfl, _, World.drewN_drewN _ _ _⟩ | exact ⟨rfl, _, Eq.trans (World.drewN_drewN _ _ _) (congrArg (World.drewN _) (Nat.add_assoc _ _ _))⟩); have p102 : 0 ≤ (9 : Int) := (by omega); have q102 : 9 < (l0.length : Int) := od; obtain ⟨ad102, e102, hx102_0⟩ := Kd.at_int HR0.out 9 p102 q102; cases e102; (try simp only [show (9 : Int).toNat = 9 from rfl, Nat.reduceMul, Nat.reduceEqDiff, Go.Addr.add, ↓reduceIte] at hx102_0); have qi102 : (9 < l0.length) = True := eq_true (by omega); (try rw [show ((9 : Int)).toNat = 9 from rfl] at hx102_0); replace p102 := eq_true p102; replace q102 := eq_true q102; have p103 : 0 ≤ (9 : Int) := (by omega); have q103 : 9 < (l0.length : Int) := od; obtain ⟨ad103, e103, hx103_0⟩ := Kd.at_int HR0.out 9 p103 q103; obtain rfl : ad102 = ad103 := (by injection e103); (try simp only [show (9 : Int).toNat = 9 from rfl, Nat.reduceMul, Nat.reduceEqDiff, Go.Addr.add, ↓reduceIte] at hx103_0); have qi103 : (9 < l0.length) = True := eq_true (by omega); (try rw [show ((9 : Int)).toNat = 9 from rfl] at hx103_0); replace p103 := eq_true p103; replace q103 := eq_true q103))
 repeat (go_quiet (first | (go_at_call 70; (with_reducible refine (leb_joined.calls k _ _ l0 t101 _ ?side1 ?side2 A2.out).mono ?_); (case side1 => exact Kd.C_o HR0.out); (case side2 => exact HC0.out); rintro e w' ⟨rfl, ⟨nd, rfl⟩⟩; (try first | exact ⟨rfl, _, World.drewN_drewN _ _ _⟩ | exact ⟨rfl, _, Eq.trans (World.drewN_drewN _ _ _) (congrArg (World.drewN _) (Nat.add_assoc _ _ _))⟩); have p102 : 0 ≤ (9 : Int) := (by omega); have q102 : 9 < (l0.length : Int) := od; obtain ⟨ad102, e102, hx102_0⟩ := Kd.at_int HR0.out 9 p102 q102; cases e102; (try simp only [show (9 : Int).toNat = 9 from rfl, Nat.reduceMul, Nat.reduceEqDiff, Go.Addr.add, ↓reduceIte] at hx102_0); have qi102 : (9 < l0.length) = True := eq_true (by omega); (try rw [show ((9 : Int)).toNat = 9 from rfl] at hx102_0); replace p102 := eq_true p102; replace q102 := eq_true q102; have p103 : 0 ≤ (9 : Int) := (by omega); have q103 : 9 < (l0.length : Int) := od; obtain ⟨ad103, e103, hx103_0⟩ := Kd.at_int HR0.out 9 p103 q103; obtain rfl : ad102 = ad103 := (by injection e103); (try simp only [show (9 : Int).toNat = 9 from rfl, Nat.reduceMul, Nat.reduceEqDiff, Go.Addr.add, ↓reduceIte] at hx103_0); have qi103 : (9 < l0.length) = True := eq_true (by omega); (try rw [show ((9 : Int)).toNat = 9 from rfl] at hx103_0); replace p103 := eq_true p103; replace q103 := eq_true q103)); try go_wp2_with (first | (go_at_call 70; (with_reducible refine (leb_joined.calls k _ _ l0 t101 _ ?side1 ?side2 A2.out).mono ?_); (case side1 => exact Kd.C_o HR0.out); (case side2 => exact HC0.out); rintro e w' ⟨rfl, ⟨nd, rfl⟩⟩; (try first | exact ⟨rfl, _, World.drewN_drewN _ _ _⟩ | exact ⟨rfl, _, Eq.trans (World.drewN_drewN _ _ _) (congrArg (World.drewN _) (Nat.add_assoc _ _ _))⟩); have p102 : 0 ≤ (9 : Int) := (by omega); have q102 : 9 < (l0.length : Int) := od; obtain ⟨ad102, e102, hx102_0⟩ := Kd.at_int HR0.out 9 p102 q102; cases e102; (try simp only [show (9 : Int).toNat = 9 from rfl, Nat.reduceMul, Nat.reduceEqDiff, Go.Addr.add, ↓reduceIte] at hx102_0); have qi102 : (9 < l0.length) = True := eq_true (by omega); (try rw [show ((9 : Int)).toNat = 9 from rfl] at hx102_0); replace p102 := eq_true p102; replace q102 := eq_true q102; have p103 : 0 ≤ (9 : Int) := (by omega); have q103 : 9 < (l0.length : Int) := od; obtain ⟨ad103, e103, hx103_0⟩ := Kd.at_int HR0.out 9 p103 q103; obtain rfl : ad102 = ad103 := (by injection e103); (try simp only [show (9 : Int).toNat = 9 from rfl, Nat.reduceMul, Nat.reduceEqDiff, Go.Addr.add, ↓reduceIte] at hx103_0); have qi103 : (9 < l0.length) = True := eq_true (by omega); (try rw [show ((9 : Int)).toNat = 9 from rfl] at hx103_0); replace p103 := eq_true p103; replace q103 := eq_true q103)))
 go_ret2
 exact ⟨by first | rfl | (simp; done) | (simp only [← hji4, ← hji6, ← hji8, ← hji10] <;> (first | rfl | simp)) | (simp [*]; done), by repeat (first | exact Drawn0.refl _ | apply Drawn0.step)⟩
/-- a signed number's value of its groups' bits u (n groups) -/
def lebSx (u : Int) (n : Nat) : Int :=
  if 7 * n < 64 ∧ Go.bits .and .u64 (shr .u64 u (7 * (n : Int) - 1)) 1 = 1 then wrap64 (Go.bits .or .u64 u (shl .u64 18446744073709551615 (7 * (n : Int)))) else wrap64 u
def lebReadS (l0 : List Int) (a1 : Int) : Int × Int × Int :=
  match lebAt l0 a1 with
  | .inr er => (0, 0, er)
  | .inl n => if n < 10 ∨ rd (lebCut l0 a1 n) 9 = 0 ∨ rd (lebCut l0 a1 n) 9 = 127 then (lebSx (lebJn (lebCut l0 a1 n) 0 0) n, a1 + n, 0) else (0, 0, 21)
theorem lebS1_some (g : List Int) (n : Nat) (hn : 0 < n) (hn10 : n ≤ 10) (hlen : g.length = n) :
    leb_ReadSleb_1.f 1001 g = some (lebSx (lebJn g 0 0) n, decide (n < 10 ∨ rd g 9 = 0 ∨ rd g 9 = 127)) := by
 unfold leb_ReadSleb_1.f
 rw [lebJoined_some _ (by rw [hlen]; omega), Option.bind_some, hlen]
 have w7 : wrap64 (7 * (n : Int)) = 7 * (n : Int) := by unfold wrap64; omega
 have w71 : wrap64 (7 * (n : Int) - 1) = 7 * (n : Int) - 1 := by unfold wrap64; omega
 rw [w7, w71, if_pos (show 0 ≤ 7 * (n : Int) - 1 by omega), if_pos (show 0 ≤ 7 * (n : Int) by omega)]
 generalize lebJn g 0 0 = u
 by_cases c1 : 7 * n < 64
 ·
  rw [if_pos (show 7 * (n : Int) < 64 by omega)]
  by_cases c2 : Go.bits .and .u64 (shr .u64 u (7 * (n : Int) - 1)) 1 = 1
  ·
   have e : lebSx u n = wrap64 (Go.bits .or .u64 u (shl .u64 18446744073709551615 (7 * (n : Int)))) := if_pos ⟨c1, c2⟩
   rw [if_pos c2, if_pos (show (n : Int) < 10 by omega), e]
   simp [show n < 10 by omega]
  have e : lebSx u n = wrap64 u := if_neg (fun h => c2 h.2)
  rw [if_neg c2, if_pos (show (n : Int) < 10 by omega), e]
  simp [show n < 10 by omega]
 have e : lebSx u n = wrap64 u := if_neg (fun h => c1 h.1)
 rw [if_neg (show ¬ 7 * (n : Int) < 64 by omega), if_neg (show ¬ (n : Int) < 10 by omega), if_pos (show 9 < (n : Int) by omega), e]
 by_cases c3 : rd g 9 = 0
 ·
  rw [if_pos c3]
  simp [c3]
 rw [if_neg c3]
 simp [c3, show ¬ n < 10 by omega]
 rfl
set_option maxHeartbeats 1000000 in
theorem lebReadS_calls (A0 : Option Addr) (c0 : Nat) (l0 : List Int) (a1 : Int) (w : World) (hr0 : Kd.C (Kd.int .u8) w A0 l0.length l0) (hc0 : l0.length ≤ c0) :
    Calls Try.prog 71 #[.agg #[.func (.func 69) #[] #[]], .slice A0 l0.length c0, .int .i64 a1] w fun e w' =>
      e = .returned (.tuple #[.int .i64 (lebReadS l0 a1).1, .int .i64 (lebReadS l0 a1).2.1, .int .i64 (lebReadS l0 a1).2.2]) ∧ Below w.heap.size w w' := by
 have HR0 := am hr0
 have hb0 := Below.refl w.heap.size w
 cases hL : lebAt l0 a1 with
 | inr er =>
  have hf : lebReadS l0 a1 = (0, 0, er) := by unfold lebReadS; rw [hL]
  rw [hf]
  have her := lebAt_err hL
  have HL := Lib.hid hL
  clear hL hf hr0
  have hu := Try.underlying122
  rcases her with rfl | rfl
  all_goals
    go_enter Try.func71, Try.ntmps71
    go_wp2_with fail
    refine (lebGroups_calls A0 c0 l0 a1 _ (Kd.C_alloc HR0.out _) hc0).mono ?_
    rintro e w' ⟨hg, rfl⟩
    obtain rfl := lebGrpOut_err HL.out hg
    clear hg
    go_wp2
    go_ret3
    exact ⟨rfl, below_alloc hb0 _⟩
 | inl n =>
  obtain ⟨h0, hn, hn10, hln⟩ := lebAt_ok hL
  have hf : lebReadS l0 a1 = if n < 10 ∨ rd (lebCut l0 a1 n) 9 = 0 ∨ rd (lebCut l0 a1 n) 9 = 127 then (lebSx (lebJn (lebCut l0 a1 n) 0 0) n, a1 + n, 0) else (0, 0, 21) := by unfold lebReadS; rw [hL]
  rw [hf]
  have hlen := lebCut_length (l0 := l0) (a1 := a1) hln
  have HLN := Lib.hid hlen
  have hone := lebS1_some _ n hn hn10 hlen
  have HL := Lib.hid hL
  have HF := Lib.hid hf
  have HONE := Lib.hid hone
  clear hL hf hr0 hone hlen
  have hu := Try.underlying122
  generalize lebSx (lebJn (lebCut l0 a1 n) 0 0) n = sx at HONE ⊢
  by_cases hok : n < 10 ∨ rd (lebCut l0 a1 n) 9 = 0 ∨ rd (lebCut l0 a1 n) 9 = 127
  ·
   have HOK := Lib.hid hok
   clear hok
   go_enter Try.func71, Try.ntmps71
   go_wp2_with fail
   refine (lebGroups_calls A0 c0 l0 a1 _ (Kd.C_alloc HR0.out _) hc0).mono ?_
   rintro e w' ⟨hg, rfl⟩
   obtain ⟨ad, rfl, rfl⟩ := lebGrpOut_ok HL.out hg
   clear hg
   have hr1 := lebCut_reads (n := n) HR0.out hc0 hn hln
   go_wp2_with fail
   have hc := leb_ReadSleb_1.calls 1001 (some (ad.add a1.toNat)) (c0 - a1.toNat) (lebCut l0 a1 n) _ _ _ (Kd.C_alloc hr1 (Obj.cells #[Value.func (Fn.func 69) #[] #[]] 122)) (by rw [HLN.out]; omega) HONE.out
   rw [HLN.out] at hc
   refine hc.mono ?_
   clear hc hr1
   rintro e w' ⟨rfl, ⟨nd, rfl⟩⟩
   have hd : decide (n < 10 ∨ rd (lebCut l0 a1 n) 9 = 0 ∨ rd (lebCut l0 a1 n) 9 = 127) = true := decide_eq_true HOK.out
   rw [hd]
   clear hd
   go_wp2
   go_ret3
   refine ⟨?_, by repeat (first | exact hb0 | apply below_alloc | apply pw_below_drewN | apply below_drew1)⟩
   rfl
  have HOK := Lib.hid hok
  clear hok
  go_enter Try.func71, Try.ntmps71
  go_wp2_with fail
  refine (lebGroups_calls A0 c0 l0 a1 _ (Kd.C_alloc HR0.out _) hc0).mono ?_
  rintro e w' ⟨hg, rfl⟩
  obtain ⟨ad, rfl, rfl⟩ := lebGrpOut_ok HL.out hg
  clear hg
  have hr1 := lebCut_reads (n := n) HR0.out hc0 hn hln
  go_wp2_with fail
  have hc := leb_ReadSleb_1.calls 1001 (some (ad.add a1.toNat)) (c0 - a1.toNat) (lebCut l0 a1 n) _ _ _ (Kd.C_alloc hr1 (Obj.cells #[Value.func (Fn.func 69) #[] #[]] 122)) (by rw [HLN.out]; omega) HONE.out
  rw [HLN.out] at hc
  refine hc.mono ?_
  clear hc hr1
  rintro e w' ⟨rfl, ⟨nd, rfl⟩⟩
  have hd : decide (n < 10 ∨ rd (lebCut l0 a1 n) 9 = 0 ∨ rd (lebCut l0 a1 n) 9 = 127) = false := decide_eq_false HOK.out
  rw [hd]
  clear hd
  go_wp2
  go_ret3
  refine ⟨?_, by repeat (first | exact hb0 | apply below_alloc | apply pw_below_drewN | apply below_drew1)⟩
  rfl
def leb_ReadSleb.f (l0 : List Int) (a1 : Int) : Option (Int × Int × Int) := some (lebReadS l0 a1)
set_option maxHeartbeats 1000000 in
theorem leb_ReadSleb.calls (A0 : Option Addr) (c0 : Nat) (l0 : List Int) (a1 : Int) (r1 : Int) (r2 : Int) (r3 : Int) (w : World) (hr0 : Kd.C (Kd.int .u8) w A0 l0.length l0) (hc0 : l0.length ≤ c0) (h : leb_ReadSleb.f l0 a1 = some (r1, r2, r3)) :
    Calls Try.prog 49 #[.slice A0 l0.length c0, .int .i64 a1] w fun e w' => e = .returned (.tuple #[.int .i64 r1, .int .i64 r2, .int .i64 r3]) ∧ Below w.heap.size w w' := by
 have HR0 := am hr0
 have hb0 := Below.refl w.heap.size w
 have HX : Hid (lebReadS l0 a1 = (r1, r2, r3)) := Lib.hid (Option.some.inj h)
 have hu := Try.underlying122
 clear hr0 h
 go_enter Try.func49, Try.ntmps49
 go_wp2_with fail
 have hc := lebReadS_calls A0 c0 l0 a1 _ (Kd.C_alloc HR0.out (Obj.cells #[Value.func (Fn.func 69) #[] #[]] 122)) hc0
 rw [HX.out] at hc
 refine hc.mono ?_
 clear hc
 rintro e w' ⟨rfl, hb1⟩
 have hb2 : Below w.heap.size w w' := below_then (below_alloc hb0 _) (by simp) hb1
 clear hb1
 replace hb2 := am hb2
 go_wp2
 go_ret3
 exact ⟨rfl, hb2.out⟩
def leb_Get.l0 : Nat → List Int → Int → Int → Bool → Int → Int → Int → Option (Int × Int)
  | 0, _, _, _, _, _, _, _ => none
  | k + 1, x0, x1, x2, x3, x10, x28, x29 => if x29 < x28 then (if 0 ≤ (wrap64 (x1 + x29)) then (if (wrap64 (x1 + x29)) < (x0.length : Int) then (if 0 ≤ (wrap64 (8 * x29)) then (leb_Get.l0 k x0 x1 x2 x3 (Go.bits .or .u64 x10 (shl .u64 (IntKind.u64.wrap (rd x0 (wrap64 (x1 + x29)))) (wrap64 (8 * x29)))) x28 (wrap64 (x29 + 1))) else (none)) else (none)) else (none)) else (if x3 = true then (if 0 ≤ (wrap64 (64 - (wrap64 (8 * x2)))) then (some (shr .i64 (wrap64 (shl .u64 x10 (wrap64 (64 - (wrap64 (8 * x2)))))) (wrap64 (64 - (wrap64 (8 * x2)))), 0)) else (none)) else (some (wrap64 (x10), 0)))
def leb_Get.f (k : Nat) (l0 : List Int) (a1 : Int) (a2 : Int) (a3 : Bool) : Option (Int × Int) := (leb_sized.f a2).bind fun t101 => (if t101 = true then (if a1 < 0 then (some (0, 20)) else (if a1 > (wrap64 ((l0.length : Int) - a2)) then (some (0, 20)) else (leb_Get.l0 k l0 a1 a2 a3 0 a2 0))) else (some (0, 1)))
set_option maxHeartbeats 8000000 in
theorem leb_Get.calls (k : Nat) (A0 : Option Addr) (c0 : Nat) (l0 : List Int) (a1 : Int) (a2 : Int) (a3 : Bool) (r1 : Int) (r2 : Int) (w : World) (hr0 : Kd.C (Kd.int .u8) w A0 l0.length l0) (hc0 : l0.length ≤ c0) (h : leb_Get.f k l0 a1 a2 a3 = some (r1, r2)) :
    Calls Try.prog 48 #[.slice A0 l0.length c0, .int .i64 a1, .int .i64 a2, .bool a3] w fun e w' => e = .returned (.tuple #[.int .i64 r1, .int .i64 r2]) ∧ Drawn0 w w' := by
 have HR0 := am hr0
 have HC0 := am hc0
 clear hr0 hc0
 have H : ((leb_sized.f a2).bind fun t101 => (if t101 = true then (if a1 < 0 then (some (0, 20)) else (if a1 > (wrap64 ((l0.length : Int) - a2)) then (some (0, 20)) else (leb_Get.l0 k l0 a1 a2 a3 0 a2 0))) else (some (0, 1)))) = some (r1, r2) := h
 clear h
 replace H := Option.bind_eq_some_iff.mp H
 obtain ⟨t101, A50, H⟩ := H
 replace H : (if t101 = true then (if a1 < 0 then (some (0, 20)) else (if a1 > (wrap64 ((l0.length : Int) - a2)) then (some (0, 20)) else (leb_Get.l0 k l0 a1 a2 a3 0 a2 0))) else (some (0, 1))) = some (r1, r2) := H
 have A5 := am A50
 clear A50
 by_cases c6 : t101 = true
 rotate_left
 ·
  replace c6 := Bool.eq_false_iff.mpr c6
  subst c6
  replace H : (some (0, 1)) = some (r1, r2) := by rw [if_neg (show ¬ (false = true) by decide)] at H; exact H
  simp only [Option.some.injEq, Prod.mk.injEq] at H
  obtain ⟨rfl, rfl⟩ := H
  go_enter Try.func48, Try.ntmps48
  go_wp2_with (first | ((with_reducible refine gate_callee (f := 66) rfl ?_); refine goesL_ (some 15) rfl rfl Try.func66 (by kernel_rfl) rfl #[.int .i64 a2] rfl (by simp only [ml]; try rfl) ?_; (with_reducible refine (leb_sized.calls a2 false _ A5.out).mono ?_); rintro e w' ⟨rfl, ⟨nd, rfl⟩⟩; refine ⟨_, rfl, ?_⟩))
  go_ret2
  exact ⟨by first | rfl | (simp; done) | (simp [*]; done), by repeat (first | exact Drawn0.refl _ | apply Drawn0.step)⟩
 subst c6
 replace H : (if a1 < 0 then (some (0, 20)) else (if a1 > (wrap64 ((l0.length : Int) - a2)) then (some (0, 20)) else (leb_Get.l0 k l0 a1 a2 a3 0 a2 0))) = some (r1, r2) := by rw [if_pos rfl] at H; exact H
 by_cases c7 : a1 < 0
 ·
  rw [if_pos c7] at H
  have c7b0 : decide (a1 < 0) = true := decide_eq_true c7
  clear c7
  simp only [Option.some.injEq, Prod.mk.injEq] at H
  obtain ⟨rfl, rfl⟩ := H
  go_enter Try.func48, Try.ntmps48
  go_wp2_with (first | ((with_reducible refine gate_callee (f := 66) rfl ?_); refine goesL_ (some 15) rfl rfl Try.func66 (by kernel_rfl) rfl #[.int .i64 a2] rfl (by simp only [ml]; try rfl) ?_; (with_reducible refine (leb_sized.calls a2 true _ A5.out).mono ?_); rintro e w' ⟨rfl, ⟨nd, rfl⟩⟩; refine ⟨_, rfl, ?_⟩))
  go_ret2
  exact ⟨by first | rfl | (simp; done) | (simp [*]; done), by repeat (first | exact Drawn0.refl _ | apply Drawn0.step)⟩
 rw [if_neg c7] at H
 have c7b0 : decide (a1 < 0) = false := decide_eq_false c7
 clear c7
 by_cases c8 : a1 > (wrap64 ((l0.length : Int) - a2))
 ·
  rw [if_pos c8] at H
  have c8b0 : decide ((wrap64 ((l0.length : Int) - a2)) < a1) = true := decide_eq_true c8
  clear c8
  simp only [Option.some.injEq, Prod.mk.injEq] at H
  obtain ⟨rfl, rfl⟩ := H
  go_enter Try.func48, Try.ntmps48
  go_wp2_with (first | ((with_reducible refine gate_callee (f := 66) rfl ?_); refine goesL_ (some 15) rfl rfl Try.func66 (by kernel_rfl) rfl #[.int .i64 a2] rfl (by simp only [ml]; try rfl) ?_; (with_reducible refine (leb_sized.calls a2 true _ A5.out).mono ?_); rintro e w' ⟨rfl, ⟨nd, rfl⟩⟩; refine ⟨_, rfl, ?_⟩))
  go_ret2
  exact ⟨by first | rfl | (simp; done) | (simp [*]; done), by repeat (first | exact Drawn0.refl _ | apply Drawn0.step)⟩
 rw [if_neg c8] at H
 have c8b0 : decide ((wrap64 ((l0.length : Int) - a2)) < a1) = false := decide_eq_false c8
 clear c8
 have H' := am H
 clear H
 go_enter Try.func48, Try.ntmps48
 go_wp2_with (first | ((with_reducible refine gate_callee (f := 66) rfl ?_); refine goesL_ (some 15) rfl rfl Try.func66 (by kernel_rfl) rfl #[.int .i64 a2] rfl (by simp only [ml]; try rfl) ?_; (with_reducible refine (leb_sized.calls a2 true _ A5.out).mono ?_); rintro e w' ⟨rfl, ⟨nd, rfl⟩⟩; refine ⟨_, rfl, ?_⟩))
 go_loopg [10, 29] k (fun kq v10 v29 w' => ∃ (x10_1 : Int) (x29_1 : Int), v10 = .int .u64 x10_1 ∧ v29 = .int .i64 x29_1 ∧ Aside0 (leb_Get.l0 kq l0 a1 a2 a3 x10_1 a2 x29_1 = some (r1, r2)) ∧ Aside0 (kq ≤ k) ∧ Drawn0 w w')
 case atStart => exact ⟨(0), (0), (by first | rfl | (simp; done) | (simp [*]; done)), (by first | rfl | (simp; done) | (simp [*]; done)), H', ⟨Nat.le_refl _⟩, by repeat (first | exact Drawn0.refl _ | apply Drawn0.step)⟩
 case round =>
  clear H'
  try clear p2
  try clear c4
  try clear c6
  try clear p6
  try clear c7
  try clear c7b0
  try clear c8
  try clear c8b0
  obtain ⟨x10_1, x29_1, rfl, rfl, HA, HK1, ⟨m1, rfl⟩⟩ := hrel
  cases gk with
  | zero => exact absurd HA.out (by simp [leb_Get.l0])
  | succ k1 =>
   have H := HA.out
   clear HA
   simp only [leb_Get.l0] at H
   by_cases c9 : x29_1 < a2
   rotate_left
   ·
    rw [if_neg c9] at H
    have c9b0 : decide (x29_1 < a2) = false := decide_eq_false c9
    clear c9
    by_cases c16 : a3 = true
    rotate_left
    ·
     replace c16 := Bool.eq_false_iff.mpr c16
     subst c16
     replace H : (some (wrap64 (x10_1), 0)) = some (r1, r2) := by rw [if_neg (show ¬ (false = true) by decide)] at H; exact H
     simp only [Option.some.injEq, Prod.mk.injEq] at H
     obtain ⟨rfl, rfl⟩ := H
     go_wp2
     go_ret2
     exact ⟨by first | rfl | (simp; done) | (simp [*]; done), by repeat (first | exact Drawn0.refl _ | apply Drawn0.step)⟩
    subst c16
    replace H : (if 0 ≤ (wrap64 (64 - (wrap64 (8 * a2)))) then (some (shr .i64 (wrap64 (shl .u64 x10_1 (wrap64 (64 - (wrap64 (8 * a2)))))) (wrap64 (64 - (wrap64 (8 * a2)))), 0)) else (none)) = some (r1, r2) := by rw [if_pos rfl] at H; exact H
    obtain ⟨ji17, hji17⟩ : ∃ j_ : Int, (wrap64 (64 - (wrap64 (8 * a2)))) = j_ := ⟨_, rfl⟩
    replace H : (if 0 ≤ (ji17) then (some (shr .i64 (wrap64 (shl .u64 x10_1 (ji17))) (ji17), 0)) else (none)) = some (r1, r2) := by first | (rw [hji17] at H; exact H) | (simp only [hji17] at H ⊢; exact H)
    have hji17w : (IntKind.i64.wrap (64 - (wrap64 (8 * a2)))) = ji17 := (i64_w _).trans hji17
    by_cases c18 : 0 ≤ (ji17)
    rotate_left
    ·
     rw [if_neg c18] at H
     exact absurd H (by simp)
    rw [if_pos c18] at H
    have c18b0 := eq_true c18
    have c18b1 : decide (0 ≤ (ji17)) = true := decide_eq_true c18
    clear c18
    obtain ⟨ji19, hji19⟩ : ∃ j_ : Int, (shl .u64 x10_1 (ji17)) = j_ := ⟨_, rfl⟩
    replace H : (some (shr .i64 (wrap64 (ji19)) (ji17), 0)) = some (r1, r2) := by first | (rw [hji19] at H; exact H) | (simp only [hji19] at H ⊢; exact H)
    have hji19_ : (IntKind.u64.wrap (x10_1 * 2 ^ min (ji17).toNat 64)) = ji19 := hji19
    have hji19z : (ji17) ≤ 64 → (IntKind.u64.wrap (x10_1 * 2 ^ (ji17).toNat)) = ji19 := shl_small hji19
    have c20b0 := eq_true (od : 0 ≤ (ji17))
    obtain ⟨ji21, hji21⟩ : ∃ j_ : Int, (shr .i64 (wrap64 (ji19)) (ji17)) = j_ := ⟨_, rfl⟩
    replace H : (some (ji21, 0)) = some (r1, r2) := by first | (rw [hji21] at H; exact H) | (simp only [hji21] at H ⊢; exact H)
    have hji21_ : ((wrap64 (ji19)) / 2 ^ min (ji17).toNat 64) = ji21 := hji21
    have hji21z : (ji17) ≤ 64 → ((wrap64 (ji19)) / 2 ^ (ji17).toNat) = ji21 := shr_small hji21
    simp only [Option.some.injEq, Prod.mk.injEq] at H
    obtain ⟨rfl, rfl⟩ := H
    go_wp2
    go_ret2
    exact ⟨by first | rfl | (simp; done) | (simp only [← hji17, ← hji19, ← hji21] <;> (first | rfl | simp)) | (simp [*]; done), by repeat (first | exact Drawn0.refl _ | apply Drawn0.step)⟩
   rw [if_pos c9] at H
   have c9b0 : decide (x29_1 < a2) = true := decide_eq_true c9
   clear c9
   obtain ⟨ji10, hji10⟩ : ∃ j_ : Int, (wrap64 (a1 + x29_1)) = j_ := ⟨_, rfl⟩
   replace H : (if 0 ≤ (ji10) then (if (ji10) < (l0.length : Int) then (if 0 ≤ (wrap64 (8 * x29_1)) then (leb_Get.l0 k1 l0 a1 a2 a3 (Go.bits .or .u64 x10_1 (shl .u64 (IntKind.u64.wrap (rd l0 (ji10))) (wrap64 (8 * x29_1)))) a2 (wrap64 (x29_1 + 1))) else (none)) else (none)) else (none)) = some (r1, r2) := by first | (rw [hji10] at H; exact H) | (simp only [hji10] at H ⊢; exact H)
   have hji10w : (IntKind.i64.wrap (a1 + x29_1)) = ji10 := (i64_w _).trans hji10
   by_cases c11 : 0 ≤ (ji10)
   rotate_left
   ·
    rw [if_neg c11] at H
    exact absurd H (by simp)
   rw [if_pos c11] at H
   have c11b0 : decide (0 ≤ (ji10)) = true := decide_eq_true c11
   clear c11
   by_cases c12 : (ji10) < (l0.length : Int)
   rotate_left
   ·
    rw [if_neg c12] at H
    exact absurd H (by simp)
   rw [if_pos c12] at H
   have c12b0 : decide ((ji10) < (l0.length : Int)) = true := decide_eq_true c12
   clear c12
   obtain ⟨ji13, hji13⟩ : ∃ j_ : Int, (wrap64 (8 * x29_1)) = j_ := ⟨_, rfl⟩
   replace H : (if 0 ≤ (ji13) then (leb_Get.l0 k1 l0 a1 a2 a3 (Go.bits .or .u64 x10_1 (shl .u64 (IntKind.u64.wrap (rd l0 (ji10))) (ji13))) a2 (wrap64 (x29_1 + 1))) else (none)) = some (r1, r2) := by first | (rw [hji13] at H; exact H) | (simp only [hji13] at H ⊢; exact H)
   have hji13w : (IntKind.i64.wrap (8 * x29_1)) = ji13 := (i64_w _).trans hji13
   by_cases c14 : 0 ≤ (ji13)
   rotate_left
   ·
    rw [if_neg c14] at H
    exact absurd H (by simp)
   rw [if_pos c14] at H
   have c14b0 := eq_true c14
   have c14b1 : decide (0 ≤ (ji13)) = true := decide_eq_true c14
   clear c14
   obtain ⟨ji15, hji15⟩ : ∃ j_ : Int, (shl .u64 (IntKind.u64.wrap (rd l0 (ji10))) (ji13)) = j_ := ⟨_, rfl⟩
   replace H : (leb_Get.l0 k1 l0 a1 a2 a3 (Go.bits .or .u64 x10_1 (ji15)) a2 (wrap64 (x29_1 + 1))) = some (r1, r2) := by first | (rw [hji15] at H; exact H) | (simp only [hji15] at H ⊢; exact H)
   have hji15_ : (IntKind.u64.wrap ((IntKind.u64.wrap (rd l0 (ji10))) * 2 ^ min (ji13).toNat 64)) = ji15 := hji15
   have hji15z : (ji13) ≤ 64 → (IntKind.u64.wrap ((IntKind.u64.wrap (rd l0 (ji10))) * 2 ^ (ji13).toNat)) = ji15 := shl_small hji15
   have H' := am H
   clear H
   have p102 : 0 ≤ ((ji10) : Int) := od
   have q102 : (ji10) < (l0.length : Int) := od
   obtain ⟨ad102, e102, hx102_0⟩ := Kd.at_int HR0.out (ji10) p102 q102
   cases e102
   replace p102 := eq_true p102
   replace q102 := eq_true q102
   go_wp2
   go_roundg k1
   case measure => have := HK1.out; omega
   case rel => exact ⟨(Go.bits .or .u64 x10_1 (ji15)), (wrap64 (x29_1 + 1)), (by first | rfl | (simp; done) | (simp only [← hji15] <;> (first | rfl | simp)) | (simp [*]; done)), (by first | rfl | (simp; done) | (simp [*]; done)), H', ⟨by have := HK1.out; omega⟩, by repeat (first | exact Drawn0.refl _ | apply Drawn0.step)⟩
end Go.Proofs.Ytfgfnflhdabmcaa.G
end
section
namespace Go.Proofs.Ytfgfnflhdabmcaa.CfaRd
open Go.RowKit Go.Proofs.Ytfgfnflhdabmcaa.G Go.Proofs.YtfgfnflhdabmcaaW.PrintWords Go.Proofs.YtfgfnflhdabmcaaW.PrintLast Go.Proofs.YtfgfnflhdabmcaaW.PrintMore Go.Proofs.Ytfgfnflhdabmcaa.Cfa
/-- A reader in block g. -/
def Rd (w : World) (g : Nat) (A : Option Addr) (n c : Nat) (at_ : Int) (bad : Bool) : Prop := w.heap[g]? = some (.cells #[.slice A n c, .int .i64 at_, .bool bad] 170 (0, 0))
theorem rd_put {w : World} {g : Nat} {A : Option Addr} {n c : Nat} {at_ : Int} {bad : Bool} (h : Rd w g A n c at_ bad) (v : Bool) (en : Int) : Rd ((w.setCell ⟨g, 2, none⟩ (.bool v)).setCell ⟨g, 1, none⟩ (.int .i64 en)) g A n c en v := by
 have h1 : (w.setCell ⟨g, 2, none⟩ (.bool v)).heap[g]? = some (.cells #[.slice A n c, .int .i64 at_, .bool v] 170 (0, 0)) := blk_put h 2 _ (by rfl)
 exact blk_put h1 1 _ (by rfl)
theorem uleb_calls (w0 w : World) (g : Nat) (A : Option Addr) (c : Nat) (l : List Int) (hC : Kd.C (Kd.int .u8) w0 A l.length l) (hc : l.length ≤ c) (hB : Below w0.heap.size w0 w) (hg : w0.heap.size ≤ g) (at_ : Int) (bad : Bool) (h : Rd w g A l.length c at_ bad) (n en er : Int) (hr : leb_ReadUleb.f l at_ = some (n, en, er)) :
    Calls Try.prog 107 #[.pointer (some ⟨g, 0, none⟩)] w fun e w' => e = .returned (.int .i64 n) ∧ Below w0.heap.size w0 w' ∧ Rd w' g A l.length c en (bad || er != 0) ∧ w.grownBy w' (some g) := by
 have HC := am hC
 have HB := am hB
 have HG := am hg
 have HR := am hr
 have H := am h
 have HCC := am hc
 have f0 : w.cell? ⟨g, 0, none⟩ = some (.slice A l.length c) := (blk_cell h 0).trans rfl
 have f1 : w.cell? ⟨g, 1, none⟩ = some (.int .i64 at_) := (blk_cell h 1).trans rfl
 clear hC hc hB hg h hr
 go_enter Try.func107, Try.ntmps107
 go_wp2
 refine start_ (n := 16) (S := fun u => u.cell? ⟨g, 0, none⟩ = some (.slice A l.length c) ∧ u.cell? ⟨g, 1, none⟩ = some (.int .i64 at_)) (ds := [8]) (bm 16 0) (by kernel_rfl) rfl rfl ?_ (fun hHeld => ?_)
 case refine_1 => exact ⟨by go_simp, by go_simp⟩
 refine pure_ (i := 0) (N := some 7) (v := ?_) (a' := ?_) (bm 16 1) rfl rfl (by kernel_rfl) (fun _ _ _ h => h) (Or.inl ⟨by rfl, ?_⟩) ?_ ?_
 rotate_left
 ·
  intro u
  go_simp
  with_reducible rfl
 rotate_left
 ·
  simp only [pz]
  rfl
 refine pure_ (i := 1) (N := some 8) (v := ?_) (a' := ?_) (bm 16 3) rfl rfl (by kernel_rfl) (fun _ _ _ h => h) (Or.inl ⟨by rfl, ?_⟩) ?_ ?_
 rotate_left
 ·
  intro u
  go_simp
  with_reducible rfl
 rotate_left
 ·
  simp only [pz]
  rfl
 refine pure_ (i := 2) (N := some 9) (v := ?_) (a' := ?_) (bm 16 7) rfl rfl (by kernel_rfl) (fun _ _ _ h => h) (Or.inl ⟨by rfl, ?_⟩) ?_ ?_
 rotate_left
 ·
  intro u
  go_simp
  with_reducible rfl
 rotate_left
 ·
  simp only [pz]
  rfl
 refine take_ (i := 3) (N := some 10) (v := ?_) (a' := ?_) (bm 16 15) rfl rfl (by kernel_rfl) (fun _ _ _ h => h) (Or.inl ⟨by rfl, ?_⟩) hHeld ?_ ?_
 rotate_left
 ·
  rintro u ⟨s0, s1⟩
  go_simp
  with_reducible rfl
 rotate_left
 ·
  simp only [pz]
  rfl
 refine pure_ (i := 4) (N := some 11) (v := ?_) (a' := ?_) (bm 16 31) rfl rfl (by kernel_rfl) (fun _ _ _ h => h) (Or.inl ⟨by rfl, ?_⟩) ?_ ?_
 rotate_left
 ·
  intro u
  go_simp
  with_reducible rfl
 rotate_left
 ·
  simp only [pz]
  rfl
 refine pure_ (i := 5) (N := some 12) (v := ?_) (a' := ?_) (bm 16 63) rfl rfl (by kernel_rfl) (fun _ _ _ h => h) (Or.inl ⟨by rfl, ?_⟩) ?_ ?_
 rotate_left
 ·
  intro u
  go_simp
  with_reducible rfl
 rotate_left
 ·
  simp only [pz]
  rfl
 refine pure_ (i := 6) (N := some 13) (v := ?_) (a' := ?_) (bm 16 127) rfl rfl (by kernel_rfl) (fun _ _ _ h => h) (Or.inl ⟨by rfl, ?_⟩) ?_ ?_
 rotate_left
 ·
  intro u
  go_simp
  with_reducible rfl
 rotate_left
 ·
  simp only [pz]
  rfl
 refine take_ (i := 7) (N := some 14) (v := ?_) (a' := ?_) (bm 16 255) rfl rfl (by kernel_rfl) (fun _ _ _ h => h) (Or.inl ⟨by rfl, ?_⟩) hHeld ?_ ?_
 rotate_left
 ·
  rintro u ⟨s0, s1⟩
  go_simp
  with_reducible rfl
 rotate_left
 ·
  simp only [pz]
  rfl
 refine last_ (i := 8) (N := some 15) (bm 16 511) rfl rfl (by kernel_rfl) (by decide) (fun K hK => ?_)
 refine goes_ Try.func50 (by kernel_rfl) rfl #[.slice A l.length c, .int .i64 at_] (by rfl) rfl rfl (by (try simp only [ml]); first | done | rfl) ?_
 refine (leb_ReadUleb.calls A c l at_ n en er _ (Kd.C_below HC.out (below_drew HB.out)) HCC.out HR.out).mono ?_
 rintro e w1 ⟨rfl, hw1⟩
 refine ⟨_, rfl, ?_⟩
 have HB1 := am (below_step (below_drew HB.out) hw1)
 have HGR := am (grown_below' (grown_drew (World.grownBy.refl w (some g))) hw1)
 have H1 := am (blk_below (blk_drew H.out) hw1)
 have q0 : w1.cell? ⟨g, 1, none⟩ = some (.int .i64 at_) := (blk_cell H1.out 1).trans rfl
 have q1 : w1.cell? ⟨g, 2, none⟩ = some (.bool bad) := (blk_cell H1.out 2).trans rfl
 have q2 := blk_frozen H1.out 1
 have q3 := blk_frozen H1.out 2
 clear hw1 hHeld
 refine hK.out _ _ ?_
 clear hK K
 refine norm_ (a' := ?_) ?_ ?_
 rotate_left
 ·
  show Act.put _ (some 15) _ = _
  simp only [pz]
  rfl
 refine pure_ (i := 9) (N := some 6) (v := ?_) (a' := ?_) (bm 16 1023) rfl rfl (by kernel_rfl) (fun _ _ _ h => h) (Or.inl ⟨by rfl, ?_⟩) ?_ ?_
 rotate_left
 ·
  intro u
  go_simp
  with_reducible rfl
 rotate_left
 ·
  simp only [pz]
  rfl
 refine pure_ (i := 10) (N := some 16) (v := ?_) (a' := ?_) (bm 16 2047) rfl rfl (by kernel_rfl) (fun _ _ _ h => h) (Or.inl ⟨by rfl, ?_⟩) ?_ ?_
 rotate_left
 ·
  intro u
  go_simp
  with_reducible rfl
 rotate_left
 ·
  simp only [pz]
  rfl
 refine pure_ (i := 11) (N := some 17) (v := ?_) (a' := ?_) (bm 16 4095) rfl rfl (by kernel_rfl) (fun _ _ _ h => h) (Or.inl ⟨by rfl, ?_⟩) ?_ ?_
 rotate_left
 ·
  intro u
  go_simp
  with_reducible rfl
 rotate_left
 ·
  simp only [pz]
  rfl
 refine pure_ (i := 12) (N := some 18) (v := ?_) (a' := ?_) (bm 16 8191) rfl rfl (by kernel_rfl) (fun _ _ _ h => h) (Or.inl ⟨by rfl, ?_⟩) ?_ ?_
 rotate_left
 ·
  intro u
  go_simp
  with_reducible rfl
 rotate_left
 ·
  simp only [pz]
  rfl
 refine pure_ (i := 13) (N := some 3) (v := ?_) (a' := ?_) (bm 16 16383) rfl rfl (by kernel_rfl) (fun _ _ _ h => h) (Or.inl ⟨by rfl, ?_⟩) ?_ ?_
 rotate_left
 ·
  intro u
  go_simp
  with_reducible rfl
 rotate_left
 ·
  simp only [pz]
  rfl
 refine pure_ (i := 14) (N := some 4) (v := ?_) (a' := ?_) (bm 16 32767) rfl rfl (by kernel_rfl) (fun _ _ _ h => h) (Or.inl ⟨by rfl, ?_⟩) ?_ ?_
 rotate_left
 ·
  intro u
  go_simp
  with_reducible rfl
 rotate_left
 ·
  simp only [pz]
  rfl
 refine pure_ (i := 15) (N := some 5) (v := ?_) (a' := ?_) (bm 16 65535) rfl rfl (by kernel_rfl) (fun _ _ _ h => h) (Or.inl ⟨by rfl, ?_⟩) ?_ ?_
 rotate_left
 ·
  intro u
  go_simp
  with_reducible rfl
 rotate_left
 ·
  simp only [pz]
  rfl
 refine done_ (by kernel_rfl) ?_
 have hfin : ∀ v : Bool, Rd ((w1.setCell ⟨g, 2, none⟩ (.bool v)).setCell ⟨g, 1, none⟩ (.int .i64 en)) g A l.length c en v := fun v => rd_put H1.out v en
 have HFIN := am hfin
 have hb2 : ∀ v : Bool, Below w0.heap.size w0 ((w1.setCell ⟨g, 2, none⟩ (.bool v)).setCell ⟨g, 1, none⟩ (.int .i64 en)) := fun v => (HB1.out.setCell HG.out _).setCell HG.out _
 have HB2 := am hb2
 have hg2 : ∀ v : Bool, w.grownBy ((w1.setCell ⟨g, 2, none⟩ (.bool v)).setCell ⟨g, 1, none⟩ (.int .i64 en)) (some g) := fun v => grown_set' (grown_set' HGR.out _ _) _ _
 have HG2 := am hg2
 clear hfin hb2 hg2
 by_cases ce : er = 0
 ·
  subst ce
  cases bad <;>
  ·
   go_wp2
   go_ret
   exact ⟨rfl, HB2.out _, HFIN.out _, HG2.out _⟩
 obtain ⟨d1, d2⟩ := may_ne ce
 clear ce
 cases bad <;>
 ·
  go_wp2
  go_ret
  exact ⟨rfl, HB2.out _, by rw [d2]; exact HFIN.out _, HG2.out _⟩
theorem number_calls (w0 w : World) (g : Nat) (A : Option Addr) (c : Nat) (l : List Int) (hC : Kd.C (Kd.int .u8) w0 A l.length l) (hc : l.length ≤ c) (hB : Below w0.heap.size w0 w) (hg : w0.heap.size ≤ g) (at_ : Int) (bad : Bool) (size : Int) (hs : 0 ≤ at_ + size ∧ at_ + size ≤ 9223372036854775807) (h : Rd w g A l.length c at_ bad) (k : Nat) (n er : Int) (hr : leb_Get.f k l at_ size false = some (n, er)) :
    Calls Try.prog 108 #[.pointer (some ⟨g, 0, none⟩), .int .i64 size] w fun e w' => e = .returned (.int .i64 n) ∧ Below w0.heap.size w0 w' ∧ Rd w' g A l.length c (at_ + size) (bad || er != 0) ∧ w.grownBy w' (some g) := by
 have HC := am hC
 have HB := am hB
 have HG := am hg
 have HR := am hr
 have H := am h
 have HCC := am hc
 have f0 : w.cell? ⟨g, 0, none⟩ = some (.slice A l.length c) := (blk_cell h 0).trans rfl
 have f1 : w.cell? ⟨g, 1, none⟩ = some (.int .i64 at_) := (blk_cell h 1).trans rfl
 have hwr : wrap64 (at_ + size) = at_ + size := by unfold wrap64; omega
 have hwi : IntKind.i64.wrap (at_ + size) = at_ + size := by rw [IntKind.wrap_i64]; omega
 clear hC hc hB hg h hr hs
 go_enter Try.func108, Try.ntmps108
 go_wp2
 refine start_ (n := 15) (S := fun u => u.cell? ⟨g, 0, none⟩ = some (.slice A l.length c) ∧ u.cell? ⟨g, 1, none⟩ = some (.int .i64 at_)) (ds := [9]) (bm 15 0) (by kernel_rfl) rfl rfl ?_ (fun hHeld => ?_)
 case refine_1 => exact ⟨by go_simp, by go_simp⟩
 refine pure_ (i := 0) (N := some 8) (v := ?_) (a' := ?_) (bm 15 1) rfl rfl (by kernel_rfl) (fun _ _ _ h => h) (Or.inl ⟨by rfl, ?_⟩) ?_ ?_
 rotate_left
 ·
  intro u
  go_simp
  with_reducible rfl
 rotate_left
 ·
  simp only [pz]
  rfl
 refine pure_ (i := 1) (N := some 9) (v := ?_) (a' := ?_) (bm 15 3) rfl rfl (by kernel_rfl) (fun _ _ _ h => h) (Or.inl ⟨by rfl, ?_⟩) ?_ ?_
 rotate_left
 ·
  intro u
  go_simp
  with_reducible rfl
 rotate_left
 ·
  simp only [pz]
  rfl
 refine pure_ (i := 2) (N := some 10) (v := ?_) (a' := ?_) (bm 15 7) rfl rfl (by kernel_rfl) (fun _ _ _ h => h) (Or.inl ⟨by rfl, ?_⟩) ?_ ?_
 rotate_left
 ·
  intro u
  go_simp
  with_reducible rfl
 rotate_left
 ·
  simp only [pz]
  rfl
 refine take_ (i := 3) (N := some 11) (v := ?_) (a' := ?_) (bm 15 15) rfl rfl (by kernel_rfl) (fun _ _ _ h => h) (Or.inl ⟨by rfl, ?_⟩) hHeld ?_ ?_
 rotate_left
 ·
  rintro u ⟨s0, s1⟩
  go_simp
  with_reducible rfl
 rotate_left
 ·
  simp only [pz]
  rfl
 refine pure_ (i := 4) (N := some 12) (v := ?_) (a' := ?_) (bm 15 31) rfl rfl (by kernel_rfl) (fun _ _ _ h => h) (Or.inl ⟨by rfl, ?_⟩) ?_ ?_
 rotate_left
 ·
  intro u
  go_simp
  with_reducible rfl
 rotate_left
 ·
  simp only [pz]
  rfl
 refine pure_ (i := 5) (N := some 13) (v := ?_) (a' := ?_) (bm 15 63) rfl rfl (by kernel_rfl) (fun _ _ _ h => h) (Or.inl ⟨by rfl, ?_⟩) ?_ ?_
 rotate_left
 ·
  intro u
  go_simp
  with_reducible rfl
 rotate_left
 ·
  simp only [pz]
  rfl
 refine pure_ (i := 6) (N := some 14) (v := ?_) (a' := ?_) (bm 15 127) rfl rfl (by kernel_rfl) (fun _ _ _ h => h) (Or.inl ⟨by rfl, ?_⟩) ?_ ?_
 rotate_left
 ·
  intro u
  go_simp
  with_reducible rfl
 rotate_left
 ·
  simp only [pz]
  rfl
 refine take_ (i := 7) (N := some 15) (v := ?_) (a' := ?_) (bm 15 255) rfl rfl (by kernel_rfl) (fun _ _ _ h => h) (Or.inl ⟨by rfl, ?_⟩) hHeld ?_ ?_
 rotate_left
 ·
  rintro u ⟨s0, s1⟩
  go_simp
  with_reducible rfl
 rotate_left
 ·
  simp only [pz]
  rfl
 refine pure_ (i := 8) (N := some 16) (v := ?_) (a' := ?_) (bm 15 511) rfl rfl (by kernel_rfl) (fun _ _ _ h => h) (Or.inl ⟨by rfl, ?_⟩) ?_ ?_
 rotate_left
 ·
  intro u
  go_simp
  with_reducible rfl
 rotate_left
 ·
  simp only [pz]
  rfl
 refine last_ (i := 9) (N := some 17) (bm 15 1023) rfl rfl (by kernel_rfl) (by decide) (fun K hK => ?_)
 refine goes_ Try.func48 (by kernel_rfl) rfl #[.slice A l.length c, .int .i64 at_, .int .i64 size, .bool false] (by rfl) rfl rfl (by (try simp only [ml]); first | done | rfl) ?_
 refine (leb_Get.calls k A c l at_ size false n er _ (Kd.C_below HC.out (below_drew HB.out)) HCC.out HR.out).mono ?_
 rintro e w1 ⟨rfl, hw1⟩
 have hw1 := hw1.below
 refine ⟨_, rfl, ?_⟩
 have HB1 := am (below_step (below_drew HB.out) hw1)
 have HGR := am (grown_below' (grown_drew (World.grownBy.refl w (some g))) hw1)
 have H1 := am (blk_below (blk_drew H.out) hw1)
 have q0 : w1.cell? ⟨g, 1, none⟩ = some (.int .i64 at_) := (blk_cell H1.out 1).trans rfl
 have q1 : w1.cell? ⟨g, 2, none⟩ = some (.bool bad) := (blk_cell H1.out 2).trans rfl
 have q2 := blk_frozen H1.out 1
 have q3 := blk_frozen H1.out 2
 clear hw1 hHeld
 refine hK.out _ _ ?_
 clear hK K
 refine norm_ (a' := ?_) ?_ ?_
 rotate_left
 ·
  show Act.put _ (some 17) _ = _
  simp only [pz]
  rfl
 refine pure_ (i := 10) (N := some 7) (v := ?_) (a' := ?_) (bm 15 2047) rfl rfl (by kernel_rfl) (fun _ _ _ h => h) (Or.inl ⟨by rfl, ?_⟩) ?_ ?_
 rotate_left
 ·
  intro u
  go_simp
  with_reducible rfl
 rotate_left
 ·
  simp only [pz]
  rfl
 refine pure_ (i := 11) (N := some 18) (v := ?_) (a' := ?_) (bm 15 4095) rfl rfl (by kernel_rfl) (fun _ _ _ h => h) (Or.inl ⟨by rfl, ?_⟩) ?_ ?_
 rotate_left
 ·
  intro u
  go_simp
  with_reducible rfl
 rotate_left
 ·
  simp only [pz]
  rfl
 refine pure_ (i := 12) (N := some 19) (v := ?_) (a' := ?_) (bm 15 8191) rfl rfl (by kernel_rfl) (fun _ _ _ h => h) (Or.inl ⟨by rfl, ?_⟩) ?_ ?_
 rotate_left
 ·
  intro u
  go_simp
  with_reducible rfl
 rotate_left
 ·
  simp only [pz]
  rfl
 refine pure_ (i := 13) (N := some 5) (v := ?_) (a' := ?_) (bm 15 16383) rfl rfl (by kernel_rfl) (fun _ _ _ h => h) (Or.inl ⟨by rfl, ?_⟩) ?_ ?_
 rotate_left
 ·
  intro u
  go_simp
  with_reducible rfl
 rotate_left
 ·
  simp only [pz]
  rfl
 refine pure_ (i := 14) (N := some 6) (v := ?_) (a' := ?_) (bm 15 32767) rfl rfl (by kernel_rfl) (fun _ _ _ h => h) (Or.inl ⟨by rfl, ?_⟩) ?_ ?_
 rotate_left
 ·
  intro u
  go_simp
  with_reducible rfl
 rotate_left
 ·
  simp only [pz]
  rfl
 refine done_ (by kernel_rfl) ?_
 have hfin : ∀ v : Bool, Rd ((w1.setCell ⟨g, 2, none⟩ (.bool v)).setCell ⟨g, 1, none⟩ (.int .i64 (at_ + size))) g A l.length c (at_ + size) v := fun v => rd_put H1.out v (at_ + size)
 have HFIN := am hfin
 have hb2 : ∀ v : Bool, Below w0.heap.size w0 ((w1.setCell ⟨g, 2, none⟩ (.bool v)).setCell ⟨g, 1, none⟩ (.int .i64 (at_ + size))) := fun v => (HB1.out.setCell HG.out _).setCell HG.out _
 have HB2 := am hb2
 have hg2 : ∀ v : Bool, w.grownBy ((w1.setCell ⟨g, 2, none⟩ (.bool v)).setCell ⟨g, 1, none⟩ (.int .i64 (at_ + size))) (some g) := fun v => grown_set' (grown_set' HGR.out _ _) _ _
 have HG2 := am hg2
 clear hfin hb2 hg2
 by_cases ce : er = 0
 ·
  subst ce
  cases bad <;>
  ·
   go_wp2
   go_ret
   exact ⟨rfl, HB2.out _, HFIN.out _, HG2.out _⟩
 obtain ⟨d1, d2⟩ := may_ne ce
 clear ce
 cases bad <;>
 ·
  go_wp2
  go_ret
  exact ⟨rfl, HB2.out _, by rw [d2]; exact HFIN.out _, HG2.out _⟩
/-- what 'factored' answers, and whether the reader is bad then -/
def facV (n : Int) (bad : Bool) : Int × Bool := if n < -1099511627776 then (0, true) else if n > 1099511627776 then (0, true) else (-8 * n, bad)
theorem factored_calls (w0 w : World) (g : Nat) (A : Option Addr) (len c : Nat) (hB : Below w0.heap.size w0 w) (hg : w0.heap.size ≤ g) (at_ : Int) (bad : Bool) (h : Rd w g A len c at_ bad) (n : Int) :
    Calls Try.prog 106 #[.pointer (some ⟨g, 0, none⟩), .int .i64 n] w fun e w' => e = .returned (.int .i64 (facV n bad).1) ∧ Below w0.heap.size w0 w' ∧ Rd w' g A len c at_ (facV n bad).2 ∧ w.grownBy w' (some g) := by
 have HB := am hB
 have HG := am hg
 have H := am h
 have q1 : w.cell? ⟨g, 2, none⟩ = some (.bool bad) := (blk_cell h 2).trans rfl
 have q3 := blk_frozen h 2
 have HP : Aside0 (Rd (w.setCell ⟨g, 2, none⟩ (.bool true)) g A len c at_ true) := ⟨blk_put h 2 _ (by rfl)⟩
 unfold facV
 clear hB hg h
 by_cases c1 : n < -1099511627776
 ·
  rw [if_pos c1]
  have d1 : decide (n < -1099511627776) = true := decide_eq_true c1
  clear c1
  go_enter Try.func106, Try.ntmps106
  go_wp2
  go_ret
  exact ⟨rfl, HB.out.setCell HG.out _, HP.out, grown_set _ _ _ _⟩
 rw [if_neg c1]
 have d1 : decide (n < -1099511627776) = false := decide_eq_false c1
 by_cases c2 : n > 1099511627776
 ·
  rw [if_pos c2]
  have d2 : decide (n > 1099511627776) = true := decide_eq_true c2
  clear c1 c2
  go_enter Try.func106, Try.ntmps106
  go_wp2
  go_ret
  exact ⟨rfl, HB.out.setCell HG.out _, HP.out, grown_set _ _ _ _⟩
 rw [if_neg c2]
 have d2 : decide (n > 1099511627776) = false := decide_eq_false c2
 have hw : wrap64 (-8 * n) = -8 * n := by unfold wrap64; omega
 have hwi : IntKind.i64.wrap (-8 * n) = -8 * n := by rw [IntKind.wrap_i64]; omega
 clear c1 c2
 go_enter Try.func106, Try.ntmps106
 go_wp2
 go_ret
 exact ⟨rfl, HB.out, H.out, World.grownBy.refl _ _⟩
/-- What 'op' answers: an op, and the reader as it is then. -/
def OpPost (w0 w : World) (g : Nat) (A : Option Addr) (len c : Nat) (o : Int × Int × Int) (at_ : Int) (e : Ending) (w' : World) : Prop :=
  e = .returned (.agg #[.int .i64 o.1, .int .i64 o.2.1, .int .i64 o.2.2]) ∧ Below w0.heap.size w0 w' ∧ Rd w' g A len c at_ false ∧ w.grownBy w' (some g)
theorem op_size : (Try.prog.info? 105).map (·.size) = some 3 := by kernel_rfl
theorem op_recall (w0 w : World) (g : Nat) (A : Option Addr) (len c : Nat) (hB : Below w0.heap.size w0 w) (hg : w0.heap.size ≤ g) (at_ : Int) (h : Rd w g A len c at_ false) :
    Calls Try.prog 94 #[.pointer (some ⟨g, 0, none⟩), .int .i64 11] w (OpPost w0 w g A len c (10, 0, 0) at_) := by
 have HB := am hB
 have HG := am hg
 have H := am h
 have hgl := blk_lt h
 clear hB hg h
 go_enter Try.func94, Try.ntmps94
 go_wp2
 exact bodyPost_ret (v := .agg #[.int .i64 10, .int .i64 0, .int .i64 0]) (results_single (r := .cell 4 105) rfl (.cell w.heap.size 105 _ (0, 0) _ rfl (blk_new w _) Try.underlying105 rfl op_size .nil)) rfl ⟨rfl, (HB.out.trans ((below_alloc (Below.refl w.heap.size w) _).mono HB.out.size)), blk_alloc H.out _, grown_alloc (World.grownBy.refl _ _) _⟩
theorem op_remember (w0 w : World) (g : Nat) (A : Option Addr) (len c : Nat) (hB : Below w0.heap.size w0 w) (hg : w0.heap.size ≤ g) (at_ : Int) (h : Rd w g A len c at_ false) :
    Calls Try.prog 94 #[.pointer (some ⟨g, 0, none⟩), .int .i64 10] w (OpPost w0 w g A len c (9, 0, 0) at_) := by
 have HB := am hB
 have HG := am hg
 have H := am h
 have hgl := blk_lt h
 clear hB hg h
 go_enter Try.func94, Try.ntmps94
 go_wp2
 exact bodyPost_ret (v := .agg #[.int .i64 9, .int .i64 0, .int .i64 0]) (results_single (r := .cell 4 105) rfl (.cell w.heap.size 105 _ (0, 0) _ rfl (blk_new w _) Try.underlying105 rfl op_size .nil)) rfl ⟨rfl, (HB.out.trans ((below_alloc (Below.refl w.heap.size w) _).mono HB.out.size)), blk_alloc H.out _, grown_alloc (World.grownBy.refl _ _) _⟩
theorem op_nop (w0 w : World) (g : Nat) (A : Option Addr) (len c : Nat) (hB : Below w0.heap.size w0 w) (hg : w0.heap.size ≤ g) (at_ : Int) (h : Rd w g A len c at_ false) :
    Calls Try.prog 94 #[.pointer (some ⟨g, 0, none⟩), .int .i64 0] w (OpPost w0 w g A len c (0, 0, 0) at_) := by
 have HB := am hB
 have HG := am hg
 have H := am h
 have hgl := blk_lt h
 clear hB hg h
 go_enter Try.func94, Try.ntmps94
 go_wp2
 exact bodyPost_ret (v := .agg #[.int .i64 0, .int .i64 0, .int .i64 0]) (results_single (r := .cell 4 105) rfl (.cell w.heap.size 105 _ (0, 0) _ rfl (blk_new w _) Try.underlying105 rfl op_size .nil)) rfl ⟨rfl, (HB.out.trans ((below_alloc (Below.refl w.heap.size w) _).mono HB.out.size)), blk_alloc H.out _, grown_alloc (World.grownBy.refl _ _) _⟩
theorem grown_far {w w' : World} {row : Option Nat} (h : w.grownBy w' row) {b : Nat} (hb : w.heap.size ≤ b) (j : Nat) (v : Value) : w.grownBy (w'.setCell ⟨b, j, none⟩ v) row :=
  ⟨h.os, h.tape, h.output, by simpa [World.setCell] using h.size, fun k hk hr => (Below.heap_setCell w' ⟨b, j, none⟩ v k (fun e => absurd (show k = b from e) (Nat.ne_of_lt (Nat.lt_of_lt_of_le hk hb)))).trans (h.block k hk hr)⟩
theorem op_defRegister (w0 w : World) (g : Nat) (A : Option Addr) (c : Nat) (l : List Int) (hC : Kd.C (Kd.int .u8) w0 A l.length l) (hc : l.length ≤ c) (hB : Below w0.heap.size w0 w) (hg : w0.heap.size ≤ g) (at_ : Int) (h : Rd w g A l.length c at_ false) (x en : Int) (hr : leb_ReadUleb.f l at_ = some (x, en, 0)) :
    Calls Try.prog 94 #[.pointer (some ⟨g, 0, none⟩), .int .i64 13] w (OpPost w0 w g A l.length c (4, x, 0) en) := by
 have HC := am hC
 have HCC := am hc
 have HR := am hr
 have HB := am hB
 have HG := am hg
 have H := am h
 have hgl : g < w.heap.size := blk_lt h
 have hne : w.heap.size ≠ g := Nat.ne_of_gt hgl
 clear hB hg h hC hc hr
 go_enter Try.func94, Try.ntmps94
 go_wp2_with fail
 refine (uleb_calls w0 _ g A c l HC.out HCC.out (HB.out.trans ((below_alloc (Below.refl w.heap.size w) _).mono HB.out.size)) HG.out at_ false (blk_alloc H.out _) x en 0 HR.out).mono ?_
 rintro e w1 ⟨rfl, hb1, hr1, hg1⟩
 have HB1 := am hb1
 have H1 := am (show Rd w1 g A l.length c en false from hr1)
 have HG1 := am (World.grownBy.trans (grown_alloc (World.grownBy.refl w (some g)) (.cells #[.int .i64 0, .int .i64 0, .int .i64 0] 105)) hg1)
 have hbk := blk_grown (blk_new w (.cells #[.int .i64 0, .int .i64 0, .int .i64 0] 105)) hg1 (fun e => hne (Option.some.inj e))
 have HBK := am hbk
 have c0 : w1.cell? ⟨w.heap.size, 0, none⟩ = some (.int .i64 0) := (blk_cell hbk 0).trans rfl
 have c1 : w1.cell? ⟨w.heap.size, 1, none⟩ = some (.int .i64 0) := (blk_cell hbk 1).trans rfl
 have c2 : w1.cell? ⟨w.heap.size, 2, none⟩ = some (.int .i64 0) := (blk_cell hbk 2).trans rfl
 have d0 := blk_frozen hbk 0
 have d1 := blk_frozen hbk 1
 have d2 := blk_frozen hbk 2
 clear hb1 hr1 hg1 hbk
 go_wp2
 have hlo : w0.heap.size ≤ w.heap.size := HB.out.size
 exact bodyPost_ret (v := .agg #[.int .i64 4, .int .i64 x, .int .i64 0]) (results_single (r := .cell 4 105) rfl (.cell w.heap.size 105 _ (0, 0) _ rfl (blk_put (blk_put (blk_put HBK.out 0 _ rfl) 1 _ rfl) 2 _ rfl) Try.underlying105 rfl op_size .nil)) rfl ⟨rfl, ((HB1.out.setCell hlo _).setCell hlo _).setCell hlo _, blk_far (blk_far (blk_far H1.out hne.symm _) hne.symm _) hne.symm _, grown_far (grown_far (grown_far HG1.out (Nat.le_refl _) _ _) (Nat.le_refl _) _ _) (Nat.le_refl _) _ _⟩
theorem op_defOffset (w0 w : World) (g : Nat) (A : Option Addr) (c : Nat) (l : List Int) (hC : Kd.C (Kd.int .u8) w0 A l.length l) (hc : l.length ≤ c) (hB : Below w0.heap.size w0 w) (hg : w0.heap.size ≤ g) (at_ : Int) (h : Rd w g A l.length c at_ false) (x en : Int) (hr : leb_ReadUleb.f l at_ = some (x, en, 0)) :
    Calls Try.prog 94 #[.pointer (some ⟨g, 0, none⟩), .int .i64 14] w (OpPost w0 w g A l.length c (3, 0, x) en) := by
 have HC := am hC
 have HCC := am hc
 have HR := am hr
 have HB := am hB
 have HG := am hg
 have H := am h
 have hgl : g < w.heap.size := blk_lt h
 have hne : w.heap.size ≠ g := Nat.ne_of_gt hgl
 clear hB hg h hC hc hr
 go_enter Try.func94, Try.ntmps94
 go_wp2_with fail
 refine (uleb_calls w0 _ g A c l HC.out HCC.out (HB.out.trans ((below_alloc (Below.refl w.heap.size w) _).mono HB.out.size)) HG.out at_ false (blk_alloc H.out _) x en 0 HR.out).mono ?_
 rintro e w1 ⟨rfl, hb1, hr1, hg1⟩
 have HB1 := am hb1
 have H1 := am (show Rd w1 g A l.length c en false from hr1)
 have HG1 := am (World.grownBy.trans (grown_alloc (World.grownBy.refl w (some g)) (.cells #[.int .i64 0, .int .i64 0, .int .i64 0] 105)) hg1)
 have hbk := blk_grown (blk_new w (.cells #[.int .i64 0, .int .i64 0, .int .i64 0] 105)) hg1 (fun e => hne (Option.some.inj e))
 have HBK := am hbk
 have c0 : w1.cell? ⟨w.heap.size, 0, none⟩ = some (.int .i64 0) := (blk_cell hbk 0).trans rfl
 have c1 : w1.cell? ⟨w.heap.size, 1, none⟩ = some (.int .i64 0) := (blk_cell hbk 1).trans rfl
 have c2 : w1.cell? ⟨w.heap.size, 2, none⟩ = some (.int .i64 0) := (blk_cell hbk 2).trans rfl
 have d0 := blk_frozen hbk 0
 have d1 := blk_frozen hbk 1
 have d2 := blk_frozen hbk 2
 clear hb1 hr1 hg1 hbk
 go_wp2
 have hlo : w0.heap.size ≤ w.heap.size := HB.out.size
 exact bodyPost_ret (v := .agg #[.int .i64 3, .int .i64 0, .int .i64 x]) (results_single (r := .cell 4 105) rfl (.cell w.heap.size 105 _ (0, 0) _ rfl (blk_put (blk_put (blk_put HBK.out 0 _ rfl) 1 _ rfl) 2 _ rfl) Try.underlying105 rfl op_size .nil)) rfl ⟨rfl, ((HB1.out.setCell hlo _).setCell hlo _).setCell hlo _, blk_far (blk_far (blk_far H1.out hne.symm _) hne.symm _) hne.symm _, grown_far (grown_far (grown_far HG1.out (Nat.le_refl _) _ _) (Nat.le_refl _) _ _) (Nat.le_refl _) _ _⟩
theorem op_undefined (w0 w : World) (g : Nat) (A : Option Addr) (c : Nat) (l : List Int) (hC : Kd.C (Kd.int .u8) w0 A l.length l) (hc : l.length ≤ c) (hB : Below w0.heap.size w0 w) (hg : w0.heap.size ≤ g) (at_ : Int) (h : Rd w g A l.length c at_ false) (x en : Int) (hr : leb_ReadUleb.f l at_ = some (x, en, 0)) :
    Calls Try.prog 94 #[.pointer (some ⟨g, 0, none⟩), .int .i64 7] w (OpPost w0 w g A l.length c (7, x, 0) en) := by
 have HC := am hC
 have HCC := am hc
 have HR := am hr
 have HB := am hB
 have HG := am hg
 have H := am h
 have hgl : g < w.heap.size := blk_lt h
 have hne : w.heap.size ≠ g := Nat.ne_of_gt hgl
 clear hB hg h hC hc hr
 go_enter Try.func94, Try.ntmps94
 go_wp2_with fail
 refine (uleb_calls w0 _ g A c l HC.out HCC.out (HB.out.trans ((below_alloc (Below.refl w.heap.size w) _).mono HB.out.size)) HG.out at_ false (blk_alloc H.out _) x en 0 HR.out).mono ?_
 rintro e w1 ⟨rfl, hb1, hr1, hg1⟩
 have HB1 := am hb1
 have H1 := am (show Rd w1 g A l.length c en false from hr1)
 have HG1 := am (World.grownBy.trans (grown_alloc (World.grownBy.refl w (some g)) (.cells #[.int .i64 0, .int .i64 0, .int .i64 0] 105)) hg1)
 have hbk := blk_grown (blk_new w (.cells #[.int .i64 0, .int .i64 0, .int .i64 0] 105)) hg1 (fun e => hne (Option.some.inj e))
 have HBK := am hbk
 have c0 : w1.cell? ⟨w.heap.size, 0, none⟩ = some (.int .i64 0) := (blk_cell hbk 0).trans rfl
 have c1 : w1.cell? ⟨w.heap.size, 1, none⟩ = some (.int .i64 0) := (blk_cell hbk 1).trans rfl
 have c2 : w1.cell? ⟨w.heap.size, 2, none⟩ = some (.int .i64 0) := (blk_cell hbk 2).trans rfl
 have d0 := blk_frozen hbk 0
 have d1 := blk_frozen hbk 1
 have d2 := blk_frozen hbk 2
 clear hb1 hr1 hg1 hbk
 go_wp2
 have hlo : w0.heap.size ≤ w.heap.size := HB.out.size
 exact bodyPost_ret (v := .agg #[.int .i64 7, .int .i64 x, .int .i64 0]) (results_single (r := .cell 4 105) rfl (.cell w.heap.size 105 _ (0, 0) _ rfl (blk_put (blk_put (blk_put HBK.out 0 _ rfl) 1 _ rfl) 2 _ rfl) Try.underlying105 rfl op_size .nil)) rfl ⟨rfl, ((HB1.out.setCell hlo _).setCell hlo _).setCell hlo _, blk_far (blk_far (blk_far H1.out hne.symm _) hne.symm _) hne.symm _, grown_far (grown_far (grown_far HG1.out (Nat.le_refl _) _ _) (Nat.le_refl _) _ _) (Nat.le_refl _) _ _⟩
theorem op_sameValue (w0 w : World) (g : Nat) (A : Option Addr) (c : Nat) (l : List Int) (hC : Kd.C (Kd.int .u8) w0 A l.length l) (hc : l.length ≤ c) (hB : Below w0.heap.size w0 w) (hg : w0.heap.size ≤ g) (at_ : Int) (h : Rd w g A l.length c at_ false) (x en : Int) (hr : leb_ReadUleb.f l at_ = some (x, en, 0)) :
    Calls Try.prog 94 #[.pointer (some ⟨g, 0, none⟩), .int .i64 8] w (OpPost w0 w g A l.length c (8, x, 0) en) := by
 have HC := am hC
 have HCC := am hc
 have HR := am hr
 have HB := am hB
 have HG := am hg
 have H := am h
 have hgl : g < w.heap.size := blk_lt h
 have hne : w.heap.size ≠ g := Nat.ne_of_gt hgl
 clear hB hg h hC hc hr
 go_enter Try.func94, Try.ntmps94
 go_wp2_with fail
 refine (uleb_calls w0 _ g A c l HC.out HCC.out (HB.out.trans ((below_alloc (Below.refl w.heap.size w) _).mono HB.out.size)) HG.out at_ false (blk_alloc H.out _) x en 0 HR.out).mono ?_
 rintro e w1 ⟨rfl, hb1, hr1, hg1⟩
 have HB1 := am hb1
 have H1 := am (show Rd w1 g A l.length c en false from hr1)
 have HG1 := am (World.grownBy.trans (grown_alloc (World.grownBy.refl w (some g)) (.cells #[.int .i64 0, .int .i64 0, .int .i64 0] 105)) hg1)
 have hbk := blk_grown (blk_new w (.cells #[.int .i64 0, .int .i64 0, .int .i64 0] 105)) hg1 (fun e => hne (Option.some.inj e))
 have HBK := am hbk
 have c0 : w1.cell? ⟨w.heap.size, 0, none⟩ = some (.int .i64 0) := (blk_cell hbk 0).trans rfl
 have c1 : w1.cell? ⟨w.heap.size, 1, none⟩ = some (.int .i64 0) := (blk_cell hbk 1).trans rfl
 have c2 : w1.cell? ⟨w.heap.size, 2, none⟩ = some (.int .i64 0) := (blk_cell hbk 2).trans rfl
 have d0 := blk_frozen hbk 0
 have d1 := blk_frozen hbk 1
 have d2 := blk_frozen hbk 2
 clear hb1 hr1 hg1 hbk
 go_wp2
 have hlo : w0.heap.size ≤ w.heap.size := HB.out.size
 exact bodyPost_ret (v := .agg #[.int .i64 8, .int .i64 x, .int .i64 0]) (results_single (r := .cell 4 105) rfl (.cell w.heap.size 105 _ (0, 0) _ rfl (blk_put (blk_put (blk_put HBK.out 0 _ rfl) 1 _ rfl) 2 _ rfl) Try.underlying105 rfl op_size .nil)) rfl ⟨rfl, ((HB1.out.setCell hlo _).setCell hlo _).setCell hlo _, blk_far (blk_far (blk_far H1.out hne.symm _) hne.symm _) hne.symm _, grown_far (grown_far (grown_far HG1.out (Nat.le_refl _) _ _) (Nat.le_refl _) _ _) (Nat.le_refl _) _ _⟩
end Go.Proofs.Ytfgfnflhdabmcaa.CfaRd
end
section
namespace Go.Proofs.Ytfgfnflhdabmcaa.CfaRd
open Go.Proofs.Ytfgfnflhdabmcaa.Bit Go.RowKit Go.Proofs.Ytfgfnflhdabmcaa.G Go.Proofs.YtfgfnflhdabmcaaW.PrintWords Go.Proofs.YtfgfnflhdabmcaaW.PrintLast Go.Proofs.YtfgfnflhdabmcaaW.PrintMore Go.Proofs.Ytfgfnflhdabmcaa.Cfa
theorem b63 (b : Int) : Go.bits .and .i64 b 63 = b % 64 := i64_mask b 6 (by decide)
theorem op_advance (w0 w : World) (g : Nat) (A : Option Addr) (len c : Nat) (hB : Below w0.heap.size w0 w) (hg : w0.heap.size ≤ g) (at_ : Int) (h : Rd w g A len c at_ false) (b n : Int) (hb : b = 64 + n) (hn : 0 ≤ n ∧ n < 64) :
    Calls Try.prog 94 #[.pointer (some ⟨g, 0, none⟩), .int .i64 b] w (OpPost w0 w g A len c (1, 0, n) at_) := by
 have HB := am hB
 have HG := am hg
 have H := am h
 have hgl := blk_lt h
 have fq : b / 64 = 1 := by omega
 have fb : Go.bits .and .i64 b 63 = n := by rw [b63]; omega
 clear hB hg h hb hn
 go_enter Try.func94, Try.ntmps94
 go_wp2
 exact bodyPost_ret (v := .agg #[.int .i64 1, .int .i64 0, .int .i64 n]) (results_single (r := .cell 4 105) rfl (.cell w.heap.size 105 _ (0, 0) _ rfl (blk_new w _) Try.underlying105 rfl op_size .nil)) rfl ⟨rfl, (HB.out.trans ((below_alloc (Below.refl w.heap.size w) _).mono HB.out.size)), blk_alloc H.out _, grown_alloc (World.grownBy.refl _ _) _⟩
theorem op_restore (w0 w : World) (g : Nat) (A : Option Addr) (len c : Nat) (hB : Below w0.heap.size w0 w) (hg : w0.heap.size ≤ g) (at_ : Int) (h : Rd w g A len c at_ false) (b n : Int) (hb : b = 192 + n) (hn : 0 ≤ n ∧ n < 64) :
    Calls Try.prog 94 #[.pointer (some ⟨g, 0, none⟩), .int .i64 b] w (OpPost w0 w g A len c (6, n, 0) at_) := by
 have HB := am hB
 have HG := am hg
 have H := am h
 have hgl := blk_lt h
 have fq : b / 64 = 3 := by omega
 have fb : Go.bits .and .i64 b 63 = n := by rw [b63]; omega
 clear hB hg h hb hn
 go_enter Try.func94, Try.ntmps94
 go_wp2
 exact bodyPost_ret (v := .agg #[.int .i64 6, .int .i64 n, .int .i64 0]) (results_single (r := .cell 4 105) rfl (.cell w.heap.size 105 _ (0, 0) _ rfl (blk_new w _) Try.underlying105 rfl op_size .nil)) rfl ⟨rfl, (HB.out.trans ((below_alloc (Below.refl w.heap.size w) _).mono HB.out.size)), blk_alloc H.out _, grown_alloc (World.grownBy.refl _ _) _⟩
theorem op_number1 (w0 w : World) (g : Nat) (A : Option Addr) (c : Nat) (l : List Int) (hC : Kd.C (Kd.int .u8) w0 A l.length l) (hc : l.length ≤ c) (hB : Below w0.heap.size w0 w) (hg : w0.heap.size ≤ g) (at_ : Int) (h : Rd w g A l.length c at_ false) (hs : 0 ≤ at_ + 1 ∧ at_ + 1 ≤ 9223372036854775807) (k : Nat) (x : Int) (hr : leb_Get.f k l at_ 1 false = some (x, 0)) :
    Calls Try.prog 94 #[.pointer (some ⟨g, 0, none⟩), .int .i64 2] w (OpPost w0 w g A l.length c (1, 0, x) (at_ + 1)) := by
 have HC := am hC
 have HCC := am hc
 have HR := am hr
 have HS := am hs
 have HB := am hB
 have HG := am hg
 have H := am h
 have hgl : g < w.heap.size := blk_lt h
 have hne : w.heap.size ≠ g := Nat.ne_of_gt hgl
 clear hB hg h hC hc hr hs
 go_enter Try.func94, Try.ntmps94
 go_wp2_with fail
 refine (number_calls w0 _ g A c l HC.out HCC.out (HB.out.trans ((below_alloc (Below.refl w.heap.size w) _).mono HB.out.size)) HG.out at_ false 1 HS.out (blk_alloc H.out _) k x 0 HR.out).mono ?_
 rintro e w1 ⟨rfl, hb1, hr1, hg1⟩
 have HB1 := am hb1
 have H1 := am (show Rd w1 g A l.length c (at_ + 1) false from hr1)
 have HG1 := am (World.grownBy.trans (grown_alloc (World.grownBy.refl w (some g)) (.cells #[.int .i64 0, .int .i64 0, .int .i64 0] 105)) hg1)
 have hbk := blk_grown (blk_new w (.cells #[.int .i64 0, .int .i64 0, .int .i64 0] 105)) hg1 (fun e => hne (Option.some.inj e))
 have HBK := am hbk
 have c0 : w1.cell? ⟨w.heap.size, 0, none⟩ = some (.int .i64 0) := (blk_cell hbk 0).trans rfl
 have c1 : w1.cell? ⟨w.heap.size, 1, none⟩ = some (.int .i64 0) := (blk_cell hbk 1).trans rfl
 have c2 : w1.cell? ⟨w.heap.size, 2, none⟩ = some (.int .i64 0) := (blk_cell hbk 2).trans rfl
 have d0 := blk_frozen hbk 0
 have d1 := blk_frozen hbk 1
 have d2 := blk_frozen hbk 2
 clear hb1 hr1 hg1 hbk
 go_wp2
 have hlo : w0.heap.size ≤ w.heap.size := HB.out.size
 exact bodyPost_ret (v := .agg #[.int .i64 1, .int .i64 0, .int .i64 x]) (results_single (r := .cell 4 105) rfl (.cell w.heap.size 105 _ (0, 0) _ rfl (blk_put (blk_put (blk_put HBK.out 0 _ rfl) 1 _ rfl) 2 _ rfl) Try.underlying105 rfl op_size .nil)) rfl ⟨rfl, ((HB1.out.setCell hlo _).setCell hlo _).setCell hlo _, blk_far (blk_far (blk_far H1.out hne.symm _) hne.symm _) hne.symm _, grown_far (grown_far (grown_far HG1.out (Nat.le_refl _) _ _) (Nat.le_refl _) _ _) (Nat.le_refl _) _ _⟩
theorem op_number2 (w0 w : World) (g : Nat) (A : Option Addr) (c : Nat) (l : List Int) (hC : Kd.C (Kd.int .u8) w0 A l.length l) (hc : l.length ≤ c) (hB : Below w0.heap.size w0 w) (hg : w0.heap.size ≤ g) (at_ : Int) (h : Rd w g A l.length c at_ false) (hs : 0 ≤ at_ + 2 ∧ at_ + 2 ≤ 9223372036854775807) (k : Nat) (x : Int) (hr : leb_Get.f k l at_ 2 false = some (x, 0)) :
    Calls Try.prog 94 #[.pointer (some ⟨g, 0, none⟩), .int .i64 3] w (OpPost w0 w g A l.length c (1, 0, x) (at_ + 2)) := by
 have HC := am hC
 have HCC := am hc
 have HR := am hr
 have HS := am hs
 have HB := am hB
 have HG := am hg
 have H := am h
 have hgl : g < w.heap.size := blk_lt h
 have hne : w.heap.size ≠ g := Nat.ne_of_gt hgl
 clear hB hg h hC hc hr hs
 go_enter Try.func94, Try.ntmps94
 go_wp2_with fail
 refine (number_calls w0 _ g A c l HC.out HCC.out (HB.out.trans ((below_alloc (Below.refl w.heap.size w) _).mono HB.out.size)) HG.out at_ false 2 HS.out (blk_alloc H.out _) k x 0 HR.out).mono ?_
 rintro e w1 ⟨rfl, hb1, hr1, hg1⟩
 have HB1 := am hb1
 have H1 := am (show Rd w1 g A l.length c (at_ + 2) false from hr1)
 have HG1 := am (World.grownBy.trans (grown_alloc (World.grownBy.refl w (some g)) (.cells #[.int .i64 0, .int .i64 0, .int .i64 0] 105)) hg1)
 have hbk := blk_grown (blk_new w (.cells #[.int .i64 0, .int .i64 0, .int .i64 0] 105)) hg1 (fun e => hne (Option.some.inj e))
 have HBK := am hbk
 have c0 : w1.cell? ⟨w.heap.size, 0, none⟩ = some (.int .i64 0) := (blk_cell hbk 0).trans rfl
 have c1 : w1.cell? ⟨w.heap.size, 1, none⟩ = some (.int .i64 0) := (blk_cell hbk 1).trans rfl
 have c2 : w1.cell? ⟨w.heap.size, 2, none⟩ = some (.int .i64 0) := (blk_cell hbk 2).trans rfl
 have d0 := blk_frozen hbk 0
 have d1 := blk_frozen hbk 1
 have d2 := blk_frozen hbk 2
 clear hb1 hr1 hg1 hbk
 go_wp2
 have hlo : w0.heap.size ≤ w.heap.size := HB.out.size
 exact bodyPost_ret (v := .agg #[.int .i64 1, .int .i64 0, .int .i64 x]) (results_single (r := .cell 4 105) rfl (.cell w.heap.size 105 _ (0, 0) _ rfl (blk_put (blk_put (blk_put HBK.out 0 _ rfl) 1 _ rfl) 2 _ rfl) Try.underlying105 rfl op_size .nil)) rfl ⟨rfl, ((HB1.out.setCell hlo _).setCell hlo _).setCell hlo _, blk_far (blk_far (blk_far H1.out hne.symm _) hne.symm _) hne.symm _, grown_far (grown_far (grown_far HG1.out (Nat.le_refl _) _ _) (Nat.le_refl _) _ _) (Nat.le_refl _) _ _⟩
theorem op_number4 (w0 w : World) (g : Nat) (A : Option Addr) (c : Nat) (l : List Int) (hC : Kd.C (Kd.int .u8) w0 A l.length l) (hc : l.length ≤ c) (hB : Below w0.heap.size w0 w) (hg : w0.heap.size ≤ g) (at_ : Int) (h : Rd w g A l.length c at_ false) (hs : 0 ≤ at_ + 4 ∧ at_ + 4 ≤ 9223372036854775807) (k : Nat) (x : Int) (hr : leb_Get.f k l at_ 4 false = some (x, 0)) :
    Calls Try.prog 94 #[.pointer (some ⟨g, 0, none⟩), .int .i64 4] w (OpPost w0 w g A l.length c (1, 0, x) (at_ + 4)) := by
 have HC := am hC
 have HCC := am hc
 have HR := am hr
 have HS := am hs
 have HB := am hB
 have HG := am hg
 have H := am h
 have hgl : g < w.heap.size := blk_lt h
 have hne : w.heap.size ≠ g := Nat.ne_of_gt hgl
 clear hB hg h hC hc hr hs
 go_enter Try.func94, Try.ntmps94
 go_wp2_with fail
 refine (number_calls w0 _ g A c l HC.out HCC.out (HB.out.trans ((below_alloc (Below.refl w.heap.size w) _).mono HB.out.size)) HG.out at_ false 4 HS.out (blk_alloc H.out _) k x 0 HR.out).mono ?_
 rintro e w1 ⟨rfl, hb1, hr1, hg1⟩
 have HB1 := am hb1
 have H1 := am (show Rd w1 g A l.length c (at_ + 4) false from hr1)
 have HG1 := am (World.grownBy.trans (grown_alloc (World.grownBy.refl w (some g)) (.cells #[.int .i64 0, .int .i64 0, .int .i64 0] 105)) hg1)
 have hbk := blk_grown (blk_new w (.cells #[.int .i64 0, .int .i64 0, .int .i64 0] 105)) hg1 (fun e => hne (Option.some.inj e))
 have HBK := am hbk
 have c0 : w1.cell? ⟨w.heap.size, 0, none⟩ = some (.int .i64 0) := (blk_cell hbk 0).trans rfl
 have c1 : w1.cell? ⟨w.heap.size, 1, none⟩ = some (.int .i64 0) := (blk_cell hbk 1).trans rfl
 have c2 : w1.cell? ⟨w.heap.size, 2, none⟩ = some (.int .i64 0) := (blk_cell hbk 2).trans rfl
 have d0 := blk_frozen hbk 0
 have d1 := blk_frozen hbk 1
 have d2 := blk_frozen hbk 2
 clear hb1 hr1 hg1 hbk
 go_wp2
 have hlo : w0.heap.size ≤ w.heap.size := HB.out.size
 exact bodyPost_ret (v := .agg #[.int .i64 1, .int .i64 0, .int .i64 x]) (results_single (r := .cell 4 105) rfl (.cell w.heap.size 105 _ (0, 0) _ rfl (blk_put (blk_put (blk_put HBK.out 0 _ rfl) 1 _ rfl) 2 _ rfl) Try.underlying105 rfl op_size .nil)) rfl ⟨rfl, ((HB1.out.setCell hlo _).setCell hlo _).setCell hlo _, blk_far (blk_far (blk_far H1.out hne.symm _) hne.symm _) hne.symm _, grown_far (grown_far (grown_far HG1.out (Nat.le_refl _) _ _) (Nat.le_refl _) _ _) (Nat.le_refl _) _ _⟩
theorem op_defCfa (w0 w : World) (g : Nat) (A : Option Addr) (c : Nat) (l : List Int) (hC : Kd.C (Kd.int .u8) w0 A l.length l) (hc : l.length ≤ c) (hB : Below w0.heap.size w0 w) (hg : w0.heap.size ≤ g) (at_ : Int) (h : Rd w g A l.length c at_ false) (x en y en2 : Int) (hr : leb_ReadUleb.f l at_ = some (x, en, 0)) (hr2 : leb_ReadUleb.f l en = some (y, en2, 0)) :
    Calls Try.prog 94 #[.pointer (some ⟨g, 0, none⟩), .int .i64 12] w (OpPost w0 w g A l.length c (2, x, y) en2) := by
 have HC := am hC
 have HCC := am hc
 have HR := am hr
 have HR2 := am hr2
 have HB := am hB
 have HG := am hg
 have H := am h
 have hgl : g < w.heap.size := blk_lt h
 have hne : w.heap.size ≠ g := Nat.ne_of_gt hgl
 clear hB hg h hC hc hr hr2
 go_enter Try.func94, Try.ntmps94
 go_wp2_with fail
 refine (uleb_calls w0 _ g A c l HC.out HCC.out (HB.out.trans ((below_alloc (Below.refl w.heap.size w) _).mono HB.out.size)) HG.out at_ false (blk_alloc H.out _) x en 0 HR.out).mono ?_
 rintro e w1 ⟨rfl, hb1, hr1, hg1⟩
 have HB1 := am hb1
 have H1 := am (show Rd w1 g A l.length c en false from hr1)
 have HG1 := am (World.grownBy.trans (grown_alloc (World.grownBy.refl w (some g)) (.cells #[.int .i64 0, .int .i64 0, .int .i64 0] 105)) hg1)
 have hbk := blk_grown (blk_new w (.cells #[.int .i64 0, .int .i64 0, .int .i64 0] 105)) hg1 (fun e => hne (Option.some.inj e))
 have HBK1 := am hbk
 clear hb1 hr1 hg1 hbk
 go_wp2_with fail
 refine (uleb_calls w0 _ g A c l HC.out HCC.out HB1.out HG.out en false H1.out y en2 0 HR2.out).mono ?_
 rintro e w2 ⟨rfl, hb2, hr2, hg2⟩
 have HB2 := am hb2
 have H2 := am (show Rd w2 g A l.length c en2 false from hr2)
 have HG2 := am (World.grownBy.trans HG1.out hg2)
 have hbk := blk_grown HBK1.out hg2 (fun e => hne (Option.some.inj e))
 have HBK := am hbk
 have c0 : w2.cell? ⟨w.heap.size, 0, none⟩ = some (.int .i64 0) := (blk_cell hbk 0).trans rfl
 have c1 : w2.cell? ⟨w.heap.size, 1, none⟩ = some (.int .i64 0) := (blk_cell hbk 1).trans rfl
 have c2 : w2.cell? ⟨w.heap.size, 2, none⟩ = some (.int .i64 0) := (blk_cell hbk 2).trans rfl
 have d0 := blk_frozen hbk 0
 have d1 := blk_frozen hbk 1
 have d2 := blk_frozen hbk 2
 clear hb2 hr2 hg2 hbk
 go_wp2
 have hlo : w0.heap.size ≤ w.heap.size := HB.out.size
 exact bodyPost_ret (v := .agg #[.int .i64 2, .int .i64 x, .int .i64 y]) (results_single (r := .cell 4 105) rfl (.cell w.heap.size 105 _ (0, 0) _ rfl (blk_put (blk_put (blk_put HBK.out 0 _ rfl) 1 _ rfl) 2 _ rfl) Try.underlying105 rfl op_size .nil)) rfl ⟨rfl, ((HB2.out.setCell hlo _).setCell hlo _).setCell hlo _, blk_far (blk_far (blk_far H2.out hne.symm _) hne.symm _) hne.symm _, grown_far (grown_far (grown_far HG2.out (Nat.le_refl _) _ _) (Nat.le_refl _) _ _) (Nat.le_refl _) _ _⟩
theorem facV_ok {n : Int} (h0 : -1099511627776 ≤ n) (h1 : n ≤ 1099511627776) : facV n false = (-8 * n, false) := by
 unfold facV
 rw [if_neg (by omega), if_neg (by omega)]
theorem op_offset (w0 w : World) (g : Nat) (A : Option Addr) (c : Nat) (l : List Int) (hC : Kd.C (Kd.int .u8) w0 A l.length l) (hc : l.length ≤ c) (hB : Below w0.heap.size w0 w) (hg : w0.heap.size ≤ g) (at_ : Int) (h : Rd w g A l.length c at_ false) (b r : Int) (hb : b = 128 + r) (hn : 0 ≤ r ∧ r < 64) (x en : Int) (hr : leb_ReadUleb.f l at_ = some (x, en, 0)) (hx : -1099511627776 ≤ x ∧ x ≤ 1099511627776) :
    Calls Try.prog 94 #[.pointer (some ⟨g, 0, none⟩), .int .i64 b] w (OpPost w0 w g A l.length c (5, r, -8 * x) en) := by
 have HC := am hC
 have HCC := am hc
 have HR := am hr
 have HF := am (facV_ok hx.1 hx.2)
 have fq : b / 64 = 2 := by omega
 have fb : Go.bits .and .i64 b 63 = r := by rw [b63]; omega
 have HB := am hB
 have HG := am hg
 have H := am h
 have hgl : g < w.heap.size := blk_lt h
 have hne : w.heap.size ≠ g := Nat.ne_of_gt hgl
 clear hB hg h hC hc hr hb hn hx
 go_enter Try.func94, Try.ntmps94
 go_wp2_with fail
 refine (uleb_calls w0 _ g A c l HC.out HCC.out (HB.out.trans ((below_alloc (Below.refl w.heap.size w) _).mono HB.out.size)) HG.out at_ false (blk_alloc H.out _) x en 0 HR.out).mono ?_
 rintro e w1 ⟨rfl, hb1, hr1, hg1⟩
 have HB1 := am hb1
 have H1 := am (show Rd w1 g A l.length c en false from hr1)
 have HG1 := am (World.grownBy.trans (grown_alloc (World.grownBy.refl w (some g)) (.cells #[.int .i64 0, .int .i64 0, .int .i64 0] 105)) hg1)
 have hbk := blk_grown (blk_new w (.cells #[.int .i64 0, .int .i64 0, .int .i64 0] 105)) hg1 (fun e => hne (Option.some.inj e))
 have HBK1 := am hbk
 clear hb1 hr1 hg1 hbk
 go_wp2_with fail
 refine (factored_calls w0 _ g A l.length c HB1.out HG.out en false H1.out x).mono ?_
 rw [HF.out]
 rintro e w2 ⟨rfl, hb2, hr2, hg2⟩
 have HB2 := am hb2
 have H2 := am (show Rd w2 g A l.length c en false from hr2)
 have HG2 := am (World.grownBy.trans HG1.out hg2)
 have hbk := blk_grown HBK1.out hg2 (fun e => hne (Option.some.inj e))
 have HBK := am hbk
 have c0 : w2.cell? ⟨w.heap.size, 0, none⟩ = some (.int .i64 0) := (blk_cell hbk 0).trans rfl
 have c1 : w2.cell? ⟨w.heap.size, 1, none⟩ = some (.int .i64 0) := (blk_cell hbk 1).trans rfl
 have c2 : w2.cell? ⟨w.heap.size, 2, none⟩ = some (.int .i64 0) := (blk_cell hbk 2).trans rfl
 have d0 := blk_frozen hbk 0
 have d1 := blk_frozen hbk 1
 have d2 := blk_frozen hbk 2
 clear hb2 hr2 hg2 hbk
 go_wp2
 have hlo : w0.heap.size ≤ w.heap.size := HB.out.size
 exact bodyPost_ret (v := .agg #[.int .i64 5, .int .i64 r, .int .i64 (-8 * x)]) (results_single (r := .cell 4 105) rfl (.cell w.heap.size 105 _ (0, 0) _ rfl (blk_put (blk_put (blk_put HBK.out 0 _ rfl) 1 _ rfl) 2 _ rfl) Try.underlying105 rfl op_size .nil)) rfl ⟨rfl, ((HB2.out.setCell hlo _).setCell hlo _).setCell hlo _, blk_far (blk_far (blk_far H2.out hne.symm _) hne.symm _) hne.symm _, grown_far (grown_far (grown_far HG2.out (Nat.le_refl _) _ _) (Nat.le_refl _) _ _) (Nat.le_refl _) _ _⟩
theorem op_offset17 (w0 w : World) (g : Nat) (A : Option Addr) (c : Nat) (l : List Int) (hC : Kd.C (Kd.int .u8) w0 A l.length l) (hc : l.length ≤ c) (hB : Below w0.heap.size w0 w) (hg : w0.heap.size ≤ g) (at_ : Int) (h : Rd w g A l.length c at_ false) (r en x en2 : Int) (hr : leb_ReadUleb.f l at_ = some (r, en, 0)) (hr2 : leb_ReadSleb.f l en = some (x, en2, 0)) (hx : -1099511627776 ≤ x ∧ x ≤ 1099511627776) :
    Calls Try.prog 94 #[.pointer (some ⟨g, 0, none⟩), .int .i64 17] w (OpPost w0 w g A l.length c (5, r, -8 * x) en2) := by
 have HC := am hC
 have HCC := am hc
 have HR := am hr
 have HR2 := am hr2
 have HF := am (facV_ok hx.1 hx.2)
 have HB := am hB
 have HG := am hg
 have H := am h
 have hgl : g < w.heap.size := blk_lt h
 have hne : w.heap.size ≠ g := Nat.ne_of_gt hgl
 clear hB hg h hC hc hr hr2 hx
 go_enter Try.func94, Try.ntmps94
 go_wp2_with fail
 refine (uleb_calls w0 _ g A c l HC.out HCC.out (HB.out.trans ((below_alloc (Below.refl w.heap.size w) _).mono HB.out.size)) HG.out at_ false (blk_alloc H.out _) r en 0 HR.out).mono ?_
 rintro e w1 ⟨rfl, hb1, hr1, hg1⟩
 have HB1 := am hb1
 have H1 := am (show Rd w1 g A l.length c en false from hr1)
 have HG1 := am (World.grownBy.trans (grown_alloc (World.grownBy.refl w (some g)) (.cells #[.int .i64 0, .int .i64 0, .int .i64 0] 105)) hg1)
 have hbk := blk_grown (blk_new w (.cells #[.int .i64 0, .int .i64 0, .int .i64 0] 105)) hg1 (fun e => hne (Option.some.inj e))
 have HBK1 := am hbk
 have f0 : w1.cell? ⟨g, 0, none⟩ = some (.slice A l.length c) := (blk_cell H1.out 0).trans rfl
 have f1 : w1.cell? ⟨g, 1, none⟩ = some (.int .i64 en) := (blk_cell H1.out 1).trans rfl
 clear hb1 hr1 hg1 hbk
 go_wp2_with fail
 refine start_ (n := 16) (S := fun u => u.cell? ⟨g, 0, none⟩ = some (.slice A l.length c) ∧ u.cell? ⟨g, 1, none⟩ = some (.int .i64 en)) (ds := [8]) (bm 16 0) (by kernel_rfl) rfl rfl ?_ (fun hHeld => ?_)
 case refine_1 => exact ⟨by go_simp, by go_simp⟩
 refine pure_ (i := 0) (N := some 105) (v := ?_) (a' := ?_) (bm 16 1) rfl rfl (by kernel_rfl) (fun _ _ _ h => h) (Or.inl ⟨by rfl, ?_⟩) ?_ ?_
 rotate_left
 ·
  intro u
  go_simp
  with_reducible rfl
 rotate_left
 ·
  simp only [pz]
  rfl
 refine pure_ (i := 1) (N := some 106) (v := ?_) (a' := ?_) (bm 16 3) rfl rfl (by kernel_rfl) (fun _ _ _ h => h) (Or.inl ⟨by rfl, ?_⟩) ?_ ?_
 rotate_left
 ·
  intro u
  go_simp
  with_reducible rfl
 rotate_left
 ·
  simp only [pz]
  rfl
 refine pure_ (i := 2) (N := some 107) (v := ?_) (a' := ?_) (bm 16 7) rfl rfl (by kernel_rfl) (fun _ _ _ h => h) (Or.inl ⟨by rfl, ?_⟩) ?_ ?_
 rotate_left
 ·
  intro u
  go_simp
  with_reducible rfl
 rotate_left
 ·
  simp only [pz]
  rfl
 refine take_ (i := 3) (N := some 108) (v := ?_) (a' := ?_) (bm 16 15) rfl rfl (by kernel_rfl) (fun _ _ _ h => h) (Or.inl ⟨by rfl, ?_⟩) hHeld ?_ ?_
 rotate_left
 ·
  rintro u ⟨s0, s1⟩
  go_simp
  with_reducible rfl
 rotate_left
 ·
  simp only [pz]
  rfl
 refine pure_ (i := 4) (N := some 109) (v := ?_) (a' := ?_) (bm 16 31) rfl rfl (by kernel_rfl) (fun _ _ _ h => h) (Or.inl ⟨by rfl, ?_⟩) ?_ ?_
 rotate_left
 ·
  intro u
  go_simp
  with_reducible rfl
 rotate_left
 ·
  simp only [pz]
  rfl
 refine pure_ (i := 5) (N := some 110) (v := ?_) (a' := ?_) (bm 16 63) rfl rfl (by kernel_rfl) (fun _ _ _ h => h) (Or.inl ⟨by rfl, ?_⟩) ?_ ?_
 rotate_left
 ·
  intro u
  go_simp
  with_reducible rfl
 rotate_left
 ·
  simp only [pz]
  rfl
 refine pure_ (i := 6) (N := some 111) (v := ?_) (a' := ?_) (bm 16 127) rfl rfl (by kernel_rfl) (fun _ _ _ h => h) (Or.inl ⟨by rfl, ?_⟩) ?_ ?_
 rotate_left
 ·
  intro u
  go_simp
  with_reducible rfl
 rotate_left
 ·
  simp only [pz]
  rfl
 refine take_ (i := 7) (N := some 112) (v := ?_) (a' := ?_) (bm 16 255) rfl rfl (by kernel_rfl) (fun _ _ _ h => h) (Or.inl ⟨by rfl, ?_⟩) hHeld ?_ ?_
 rotate_left
 ·
  rintro u ⟨s0, s1⟩
  go_simp
  with_reducible rfl
 rotate_left
 ·
  simp only [pz]
  rfl
 refine last_ (i := 8) (N := some 113) (bm 16 511) rfl rfl (by kernel_rfl) (by decide) (fun K hK => ?_)
 refine goes_ Try.func49 (by kernel_rfl) rfl #[.slice A l.length c, .int .i64 en] (by rfl) rfl rfl (by (try simp only [ml]); first | done | rfl) ?_
 refine (leb_ReadSleb.calls A c l en x en2 0 _ (Kd.C_below HC.out (below_drew HB1.out)) HCC.out HR2.out).mono ?_
 rintro e w2 ⟨rfl, hw2⟩
 refine ⟨_, rfl, ?_⟩
 have HB2 := am (below_step (below_drew HB1.out) hw2)
 have HG2 := am (grown_below' (grown_drew HG1.out) hw2)
 have H2 := am (blk_below (blk_drew H1.out) hw2)
 have HBK2 := am (blk_below (blk_drew HBK1.out) hw2)
 have q0 : w2.cell? ⟨g, 1, none⟩ = some (.int .i64 en) := (blk_cell H2.out 1).trans rfl
 have q1 : w2.cell? ⟨g, 2, none⟩ = some (.bool false) := (blk_cell H2.out 2).trans rfl
 have q2 := blk_frozen H2.out 1
 have q3 := blk_frozen H2.out 2
 clear hw2 hHeld
 refine hK.out _ _ ?_
 clear hK K
 refine norm_ (a' := ?_) ?_ ?_
 rotate_left
 ·
  show Act.put _ (some 113) _ = _
  simp only [pz]
  rfl
 refine pure_ (i := 9) (N := some 104) (v := ?_) (a' := ?_) (bm 16 1023) rfl rfl (by kernel_rfl) (fun _ _ _ h => h) (Or.inl ⟨by rfl, ?_⟩) ?_ ?_
 rotate_left
 ·
  intro u
  go_simp
  with_reducible rfl
 rotate_left
 ·
  simp only [pz]
  rfl
 refine pure_ (i := 10) (N := some 114) (v := ?_) (a' := ?_) (bm 16 2047) rfl rfl (by kernel_rfl) (fun _ _ _ h => h) (Or.inl ⟨by rfl, ?_⟩) ?_ ?_
 rotate_left
 ·
  intro u
  go_simp
  with_reducible rfl
 rotate_left
 ·
  simp only [pz]
  rfl
 refine pure_ (i := 11) (N := some 115) (v := ?_) (a' := ?_) (bm 16 4095) rfl rfl (by kernel_rfl) (fun _ _ _ h => h) (Or.inl ⟨by rfl, ?_⟩) ?_ ?_
 rotate_left
 ·
  intro u
  go_simp
  with_reducible rfl
 rotate_left
 ·
  simp only [pz]
  rfl
 refine pure_ (i := 12) (N := some 116) (v := ?_) (a' := ?_) (bm 16 8191) rfl rfl (by kernel_rfl) (fun _ _ _ h => h) (Or.inl ⟨by rfl, ?_⟩) ?_ ?_
 rotate_left
 ·
  intro u
  go_simp
  with_reducible rfl
 rotate_left
 ·
  simp only [pz]
  rfl
 refine pure_ (i := 13) (N := some 8) (v := ?_) (a' := ?_) (bm 16 16383) rfl rfl (by kernel_rfl) (fun _ _ _ h => h) (Or.inl ⟨by rfl, ?_⟩) ?_ ?_
 rotate_left
 ·
  intro u
  go_simp
  with_reducible rfl
 rotate_left
 ·
  simp only [pz]
  rfl
 refine pure_ (i := 14) (N := some 9) (v := ?_) (a' := ?_) (bm 16 32767) rfl rfl (by kernel_rfl) (fun _ _ _ h => h) (Or.inl ⟨by rfl, ?_⟩) ?_ ?_
 rotate_left
 ·
  intro u
  go_simp
  with_reducible rfl
 rotate_left
 ·
  simp only [pz]
  rfl
 refine pure_ (i := 15) (N := some 10) (v := ?_) (a' := ?_) (bm 16 65535) rfl rfl (by kernel_rfl) (fun _ _ _ h => h) (Or.inl ⟨by rfl, ?_⟩) ?_ ?_
 rotate_left
 ·
  intro u
  go_simp
  with_reducible rfl
 rotate_left
 ·
  simp only [pz]
  rfl
 refine done_ (by kernel_rfl) ?_
 go_wp2_with fail
 refine (factored_calls w0 _ g A l.length c ((HB2.out.setCell HG.out _).setCell HG.out _) HG.out en2 false (rd_put H2.out false en2) x).mono ?_
 rw [HF.out]
 rintro e w3 ⟨rfl, hb3, hr3, hg3⟩
 have HB3 := am hb3
 have H3 := am (show Rd w3 g A l.length c en2 false from hr3)
 have HG3 := am (World.grownBy.trans (grown_set' (grown_set' HG2.out _ _) _ _) hg3)
 have hbk := blk_grown (blk_far (blk_far HBK2.out hne _) hne _) hg3 (fun e => hne (Option.some.inj e))
 have HBK := am hbk
 have c0 : w3.cell? ⟨w.heap.size, 0, none⟩ = some (.int .i64 0) := (blk_cell hbk 0).trans rfl
 have c1 : w3.cell? ⟨w.heap.size, 1, none⟩ = some (.int .i64 0) := (blk_cell hbk 1).trans rfl
 have c2 : w3.cell? ⟨w.heap.size, 2, none⟩ = some (.int .i64 0) := (blk_cell hbk 2).trans rfl
 have d0 := blk_frozen hbk 0
 have d1 := blk_frozen hbk 1
 have d2 := blk_frozen hbk 2
 clear hb3 hr3 hg3 hbk
 go_wp2
 have hlo : w0.heap.size ≤ w.heap.size := HB.out.size
 exact bodyPost_ret (v := .agg #[.int .i64 5, .int .i64 r, .int .i64 (-8 * x)]) (results_single (r := .cell 4 105) rfl (.cell w.heap.size 105 _ (0, 0) _ rfl (blk_put (blk_put (blk_put HBK.out 0 _ rfl) 1 _ rfl) 2 _ rfl) Try.underlying105 rfl op_size .nil)) rfl ⟨rfl, ((HB3.out.setCell hlo _).setCell hlo _).setCell hlo _, blk_far (blk_far (blk_far H3.out hne.symm _) hne.symm _) hne.symm _, grown_far (grown_far (grown_far HG3.out (Nat.le_refl _) _ _) (Nat.le_refl _) _ _) (Nat.le_refl _) _ _⟩
end Go.Proofs.Ytfgfnflhdabmcaa.CfaRd
end
section
namespace Go.Proofs.Ytfgfnflhdabmcaa.CfaRd
open Go.RowKit Go.Proofs.Ytfgfnflhdabmcaa.G Go.Proofs.YtfgfnflhdabmcaaW.PrintWords Go.Proofs.YtfgfnflhdabmcaaW.PrintLast Go.Proofs.YtfgfnflhdabmcaaW.PrintMore
open Go.Proofs.Ytfgfnflhdabmcaa.Cfa
def uR (l : List Int) (at_ : Int) : Option (Int × Int) := match leb_ReadUleb.f l at_ with
  | some (x, en, er) => if er = 0 then some (x, en) else none
  | none => none
def sR (l : List Int) (at_ : Int) : Option (Int × Int) := match leb_ReadSleb.f l at_ with
  | some (x, en, er) => if er = 0 then some (x, en) else none
  | none => none
def nR (l : List Int) (at_ s : Int) : Option Int := if 0 ≤ at_ + s ∧ at_ + s ≤ 2097152 then (match leb_Get.f 12 l at_ s false with
  | some (x, er) => if er = 0 then some x else none
  | none => none) else none
theorem uR_eq {l : List Int} {at_ x en : Int} (h : uR l at_ = some (x, en)) : leb_ReadUleb.f l at_ = some (x, en, 0) := by
 unfold uR at h
 split at h
 rotate_left
 ·
  cases h
 split at h
 ·
  rename_i x' en' er' he e0
  simp only [Option.some.injEq, Prod.mk.injEq] at h
  obtain ⟨rfl, rfl⟩ := h
  rw [he, e0]
 cases h
theorem sR_eq {l : List Int} {at_ x en : Int} (h : sR l at_ = some (x, en)) : leb_ReadSleb.f l at_ = some (x, en, 0) := by
 unfold sR at h
 split at h
 rotate_left
 ·
  cases h
 split at h
 ·
  rename_i x' en' er' he e0
  simp only [Option.some.injEq, Prod.mk.injEq] at h
  obtain ⟨rfl, rfl⟩ := h
  rw [he, e0]
 cases h
theorem nR_eq {l : List Int} {at_ s x : Int} (h : nR l at_ s = some x) : leb_Get.f 12 l at_ s false = some (x, 0) ∧ 0 ≤ at_ + s ∧ at_ + s ≤ 9223372036854775807 := by
 unfold nR at h
 split at h
 rotate_left
 ·
  cases h
 rename_i hs
 refine ⟨?_, hs.1, by omega⟩
 split at h
 rotate_left
 ·
  cases h
 split at h
 ·
  rename_i x' er' he e0
  simp only [Option.some.injEq] at h
  obtain rfl := h
  rw [he, e0]
 cases h
/-- Which op begins with byte b, and the place behind it (at_: the place behind the byte). -/
def opR (l : List Int) (b at_ : Int) : Option ((Int × Int × Int) × Int) :=
  if 64 ≤ b ∧ b < 128 then some ((1, 0, b - 64), at_)
  else if 128 ≤ b ∧ b < 192 then (uR l at_).bind fun p => if -1099511627776 ≤ p.1 ∧ p.1 ≤ 1099511627776 then some ((5, b - 128, -8 * p.1), p.2) else none
  else if 192 ≤ b ∧ b < 256 then some ((6, b - 192, 0), at_)
  else if b = 0 then some ((0, 0, 0), at_)
  else if b = 2 then (nR l at_ 1).bind fun x => some ((1, 0, x), at_ + 1)
  else if b = 3 then (nR l at_ 2).bind fun x => some ((1, 0, x), at_ + 2)
  else if b = 4 then (nR l at_ 4).bind fun x => some ((1, 0, x), at_ + 4)
  else if b = 7 then (uR l at_).bind fun p => some ((7, p.1, 0), p.2)
  else if b = 8 then (uR l at_).bind fun p => some ((8, p.1, 0), p.2)
  else if b = 10 then some ((9, 0, 0), at_)
  else if b = 11 then some ((10, 0, 0), at_)
  else if b = 12 then (uR l at_).bind fun p => (uR l p.2).bind fun q => some ((2, p.1, q.1), q.2)
  else if b = 13 then (uR l at_).bind fun p => some ((4, p.1, 0), p.2)
  else if b = 14 then (uR l at_).bind fun p => some ((3, 0, p.1), p.2)
  else if b = 17 then (uR l at_).bind fun p => (sR l p.2).bind fun q => if -1099511627776 ≤ q.1 ∧ q.1 ≤ 1099511627776 then some ((5, p.1, -8 * q.1), q.2) else none
  else none
theorem op_calls (w0 w : World) (g : Nat) (A : Option Addr) (c : Nat) (l : List Int) (hC : Kd.C (Kd.int .u8) w0 A l.length l) (hc : l.length ≤ c) (hB : Below w0.heap.size w0 w) (hg : w0.heap.size ≤ g) (b at_ : Int) (h : Rd w g A l.length c at_ false) (o : Int × Int × Int) (at2 : Int) (hr : opR l b at_ = some (o, at2)) :
    Calls Try.prog 94 #[.pointer (some ⟨g, 0, none⟩), .int .i64 b] w (OpPost w0 w g A l.length c o at2) := by
 unfold opR at hr
 by_cases hb : 64 ≤ b ∧ b < 128
 ·
  rw [if_pos hb] at hr
  obtain ⟨rfl, rfl⟩ := Prod.mk.inj (Option.some.inj hr)
  exact op_advance w0 w g A l.length c hB hg _ h b (b - 64) (by omega) (by omega)
 rw [if_neg hb] at hr
 by_cases hb : 128 ≤ b ∧ b < 192
 ·
  rw [if_pos hb] at hr
  obtain ⟨⟨x, en⟩, hu, hr⟩ := Option.bind_eq_some_iff.1 hr
  split at hr
  ·
   rename_i hx
   obtain ⟨rfl, rfl⟩ := Prod.mk.inj (Option.some.inj hr)
   exact op_offset w0 w g A c l hC hc hB hg at_ h b (b - 128) (by omega) (by omega) x en (uR_eq hu) hx
  cases hr
 rw [if_neg hb] at hr
 by_cases hb : 192 ≤ b ∧ b < 256
 ·
  rw [if_pos hb] at hr
  obtain ⟨rfl, rfl⟩ := Prod.mk.inj (Option.some.inj hr)
  exact op_restore w0 w g A l.length c hB hg _ h b (b - 192) (by omega) (by omega)
 rw [if_neg hb] at hr
 by_cases hb : b = 0
 ·
  rw [if_pos hb] at hr
  obtain ⟨rfl, rfl⟩ := Prod.mk.inj (Option.some.inj hr)
  subst hb
  exact op_nop w0 w g A l.length c hB hg _ h
 rw [if_neg hb] at hr
 by_cases hb : b = 2
 ·
  rw [if_pos hb] at hr
  obtain ⟨x, hu, hr⟩ := Option.bind_eq_some_iff.1 hr
  obtain ⟨rfl, rfl⟩ := Prod.mk.inj (Option.some.inj hr)
  subst hb
  exact op_number1 w0 w g A c l hC hc hB hg at_ h (nR_eq hu).2 12 x (nR_eq hu).1
 rw [if_neg hb] at hr
 by_cases hb : b = 3
 ·
  rw [if_pos hb] at hr
  obtain ⟨x, hu, hr⟩ := Option.bind_eq_some_iff.1 hr
  obtain ⟨rfl, rfl⟩ := Prod.mk.inj (Option.some.inj hr)
  subst hb
  exact op_number2 w0 w g A c l hC hc hB hg at_ h (nR_eq hu).2 12 x (nR_eq hu).1
 rw [if_neg hb] at hr
 by_cases hb : b = 4
 ·
  rw [if_pos hb] at hr
  obtain ⟨x, hu, hr⟩ := Option.bind_eq_some_iff.1 hr
  obtain ⟨rfl, rfl⟩ := Prod.mk.inj (Option.some.inj hr)
  subst hb
  exact op_number4 w0 w g A c l hC hc hB hg at_ h (nR_eq hu).2 12 x (nR_eq hu).1
 rw [if_neg hb] at hr
 by_cases hb : b = 7
 ·
  rw [if_pos hb] at hr
  obtain ⟨⟨x, en⟩, hu, hr⟩ := Option.bind_eq_some_iff.1 hr
  obtain ⟨rfl, rfl⟩ := Prod.mk.inj (Option.some.inj hr)
  subst hb
  exact op_undefined w0 w g A c l hC hc hB hg at_ h x en (uR_eq hu)
 rw [if_neg hb] at hr
 by_cases hb : b = 8
 ·
  rw [if_pos hb] at hr
  obtain ⟨⟨x, en⟩, hu, hr⟩ := Option.bind_eq_some_iff.1 hr
  obtain ⟨rfl, rfl⟩ := Prod.mk.inj (Option.some.inj hr)
  subst hb
  exact op_sameValue w0 w g A c l hC hc hB hg at_ h x en (uR_eq hu)
 rw [if_neg hb] at hr
 by_cases hb : b = 10
 ·
  rw [if_pos hb] at hr
  obtain ⟨rfl, rfl⟩ := Prod.mk.inj (Option.some.inj hr)
  subst hb
  exact op_remember w0 w g A l.length c hB hg _ h
 rw [if_neg hb] at hr
 by_cases hb : b = 11
 ·
  rw [if_pos hb] at hr
  obtain ⟨rfl, rfl⟩ := Prod.mk.inj (Option.some.inj hr)
  subst hb
  exact op_recall w0 w g A l.length c hB hg _ h
 rw [if_neg hb] at hr
 by_cases hb : b = 12
 ·
  rw [if_pos hb] at hr
  obtain ⟨⟨x, en⟩, hu, hr⟩ := Option.bind_eq_some_iff.1 hr
  obtain ⟨⟨y, en2⟩, hu2, hr⟩ := Option.bind_eq_some_iff.1 hr
  obtain ⟨rfl, rfl⟩ := Prod.mk.inj (Option.some.inj hr)
  subst hb
  exact op_defCfa w0 w g A c l hC hc hB hg at_ h x en y en2 (uR_eq hu) (uR_eq hu2)
 rw [if_neg hb] at hr
 by_cases hb : b = 13
 ·
  rw [if_pos hb] at hr
  obtain ⟨⟨x, en⟩, hu, hr⟩ := Option.bind_eq_some_iff.1 hr
  obtain ⟨rfl, rfl⟩ := Prod.mk.inj (Option.some.inj hr)
  subst hb
  exact op_defRegister w0 w g A c l hC hc hB hg at_ h x en (uR_eq hu)
 rw [if_neg hb] at hr
 by_cases hb : b = 14
 ·
  rw [if_pos hb] at hr
  obtain ⟨⟨x, en⟩, hu, hr⟩ := Option.bind_eq_some_iff.1 hr
  obtain ⟨rfl, rfl⟩ := Prod.mk.inj (Option.some.inj hr)
  subst hb
  exact op_defOffset w0 w g A c l hC hc hB hg at_ h x en (uR_eq hu)
 rw [if_neg hb] at hr
 by_cases hb : b = 17
 ·
  rw [if_pos hb] at hr
  obtain ⟨⟨x, en⟩, hu, hr⟩ := Option.bind_eq_some_iff.1 hr
  obtain ⟨⟨y, en2⟩, hu2, hr⟩ := Option.bind_eq_some_iff.1 hr
  split at hr
  ·
   rename_i hx
   obtain ⟨rfl, rfl⟩ := Prod.mk.inj (Option.some.inj hr)
   subst hb
   exact op_offset17 w0 w g A c l hC hc hB hg at_ h x en y en2 (uR_eq hu) (sR_eq hu2) hx
  cases hr
 rw [if_neg hb] at hr
 cases hr
theorem opR_range {l : List Int} {b at_ : Int} {p : (Int × Int × Int) × Int} (h : opR l b at_ = some p) : wrap64 b = b := by
 have : 0 ≤ b ∧ b < 256 := by
  unfold opR at h
  by_cases hb : 64 ≤ b ∧ b < 128
  ·
   omega
  rw [if_neg hb] at h
  clear hb
  by_cases hb : 128 ≤ b ∧ b < 192
  ·
   omega
  rw [if_neg hb] at h
  clear hb
  by_cases hb : 192 ≤ b ∧ b < 256
  ·
   omega
  rw [if_neg hb] at h
  clear hb
  by_cases hb : b = 0
  ·
   omega
  rw [if_neg hb] at h
  clear hb
  by_cases hb : b = 2
  ·
   omega
  rw [if_neg hb] at h
  clear hb
  by_cases hb : b = 3
  ·
   omega
  rw [if_neg hb] at h
  clear hb
  by_cases hb : b = 4
  ·
   omega
  rw [if_neg hb] at h
  clear hb
  by_cases hb : b = 7
  ·
   omega
  rw [if_neg hb] at h
  clear hb
  by_cases hb : b = 8
  ·
   omega
  rw [if_neg hb] at h
  clear hb
  by_cases hb : b = 10
  ·
   omega
  rw [if_neg hb] at h
  clear hb
  by_cases hb : b = 11
  ·
   omega
  rw [if_neg hb] at h
  clear hb
  by_cases hb : b = 12
  ·
   omega
  rw [if_neg hb] at h
  clear hb
  by_cases hb : b = 13
  ·
   omega
  rw [if_neg hb] at h
  clear hb
  by_cases hb : b = 14
  ·
   omega
  rw [if_neg hb] at h
  clear hb
  by_cases hb : b = 17
  ·
   omega
  rw [if_neg hb] at h
  clear hb
  cases h
 unfold wrap64; omega
def readR (l : List Int) : Nat → Int → List S105 → Option (List S105)
  | 0, _, _ => none
  | k + 1, at_, acc => if at_ < (l.length : Int) then (if 0 ≤ at_ then (opR l (rd l at_) (at_ + 1)).bind fun p => if mayF p.1.1 p.1.2.1 p.1.2.2 = true ∧ acc.length < 4000 then readR l k p.2 (acc ++ [⟨p.1.1, p.1.2.1, p.1.2.2⟩]) else none else none) else some acc
def readF (l : List Int) : Option (List S105 × Int) := if l.length ≤ 1048576 then (readR l (l.length + 1) 0 []).map fun r => (r, 0) else none
theorem read_calls (A0 : Option Addr) (c0 : Nat) (l0 : List Int) (r1 : List S105) (r2 : Int) (w : World) (hr0 : Kd.C (Kd.int .u8) w A0 l0.length l0) (hc0 : l0.length ≤ c0) (h : readF l0 = some (r1, r2)) :
    Calls Try.prog 90 #[.slice A0 l0.length c0] w fun e w' => ∃ v0_ : Value, e = .returned (.tuple #[v0_, .int .i64 r2]) ∧ Kd.R k105 105 w' w.heap.size (fun _ => True) v0_ r1 ∧ Below w.heap.size w w' := by
 unfold readF at h
 split at h
 case isFalse => cases h
 rename_i hlen
 obtain ⟨r, h1, h2⟩ := Option.map_eq_some_iff.1 h
 clear h
 have h := h1
 clear h1
 obtain ⟨rfl, rfl⟩ := Prod.mk.inj h2
 clear h2
 have hu := Try.underlying105
 have HR0 := am hr0
 have HC0 := am hc0
 have HH := am h
 have HL := am hlen
 have f0 : decide ((l0.length : Int) > 1048576) = false := decide_eq_false (by omega)
 have f0b : decide (1048576 < l0.length) = false := decide_eq_false (by omega)
 obtain ⟨K, hK⟩ : ∃ K, K = l0.length + 1 := ⟨_, rfl⟩
 rw [← hK] at HH
 clear hr0 hc0 h hlen
 go_enter Try.func90, Try.ntmps90
 go_wp2
 go_step3
 go_wp2
 go_step3
 go_wp2
 have hg0 : Rd (w.alloc (.cells #[.slice A0 l0.length c0, .int .i64 0, .bool false] 170)) w.heap.size A0 l0.length c0 0 false := blk_new w _
 have HG0 := am hg0
 have HB := am (below_alloc (Below.refl w.heap.size w) (.cells #[.slice A0 l0.length c0, .int .i64 0, .bool false] 170))
 clear hg0
 go_loopg [5, 6] K (fun kq v5 v6 w' => ∃ (at_ : Int) (acc : List S105), v6 = .bool false ∧ Aside0 (readR l0 kq at_ acc = some r) ∧ Aside0 (Kd.R k105 105 w' w.heap.size (fun k => k ≠ w.heap.size) v5 acc) ∧ Aside0 (Rd w' w.heap.size A0 l0.length c0 at_ false) ∧ Aside0 (Below w.heap.size w w'))
 case atStart => exact ⟨0, [], rfl, HH, ⟨Kd.R_nil _ _ _ _ _⟩, HG0, HB⟩
 case round =>
  clear HB HG0 HH
  obtain ⟨at_, acc, rfl, HH, HO, HD, HB⟩ := hrel
  cases gk with
  | zero => exact absurd HH.out (by simp [readR])
  | succ k1 =>
   have H := HH.out
   clear HH
   rw [readR] at H
   have q1 : wr.cell? ⟨w.heap.size, 1, none⟩ = some (.int .i64 at_) := (blk_cell HD.out 1).trans rfl
   have q3 := blk_frozen HD.out 1
   by_cases c1 : at_ < (l0.length : Int)
   rotate_left
   ·
    rw [if_neg c1] at H
    obtain rfl := Option.some.inj H
    have f1 : decide (at_ < (l0.length : Int)) = false := decide_eq_false c1
    have q2 : wr.cell? ⟨w.heap.size, 2, none⟩ = some (.bool false) := (blk_cell HD.out 2).trans rfl
    clear H c1
    go_wp2
    rw [Exit.noGoto_ret]
    go_ret2
    exact ⟨_, rfl, Kd.R_mono HO.out (fun _ _ => trivial), HB.out⟩
   rw [if_pos c1] at H
   by_cases c2 : 0 ≤ at_
   rotate_left
   ·
    rw [if_neg c2] at H
    cases H
   rw [if_pos c2] at H
   obtain ⟨⟨o, at2⟩, hop, H⟩ := Option.bind_eq_some_iff.1 H
   have H2 : (if mayF o.1 o.2.1 o.2.2 = true ∧ acc.length < 4000 then readR l0 k1 at2 (acc ++ [⟨o.1, o.2.1, o.2.2⟩]) else none) = some r := H
   clear H
   by_cases c3 : mayF o.1 o.2.1 o.2.2 = true ∧ acc.length < 4000
   rotate_left
   ·
    rw [if_neg c3] at H2
    cases H2
   rw [if_pos c3] at H2
   have HOP := am hop
   have HN := am H2
   have HM := am c3.1
   have HAL := am c3.2
   have hll := HL.out
   have hw : wrap64 (at_ + 1) = at_ + 1 := by unfold wrap64; omega
   have hwi : IntKind.i64.wrap (at_ + 1) = at_ + 1 := by rw [IntKind.wrap_i64]; omega
   obtain ⟨ad, rfl, hx⟩ := Kd.at_int (Kd.C_below HR0.out HB.out) at_ c2 c1
   have f1 : decide (at_ < (l0.length : Int)) = true := decide_eq_true c1
   have f2 : decide (0 ≤ at_) = true := decide_eq_true c2
   clear H2 c3 hop hll
   replace c1 := eq_true c1
   replace c2 := eq_true c2
   generalize rd l0 at_ = b at *
   obtain ⟨o0, o1, o2⟩ := o
   have hwb := opR_range HOP.out
   clear H
   go_wp2_with fail
   refine (op_calls w _ w.heap.size (some ad) c0 l0 HR0.out HC0.out (HB.out.setCell (Nat.le_refl _) _) (Nat.le_refl _) b (at_ + 1) (blk_put HD.out 1 _ rfl) (o0, o1, o2) at2 HOP.out).mono ?_
   rintro e w2 ⟨rfl, hb2, hr2, hg2⟩
   have HB2 := am hb2
   have HD2 := am hr2
   have HO2 := am (Kd.R_grown (Kd.R_far HO.out (p := ⟨w.heap.size, 1, none⟩) (fun k hk => hk) (.int .i64 (at_ + 1))) hg2 (fun k hk e => hk (Option.some.inj e)))
   have hgl : w.heap.size < w2.heap.size := blk_lt hr2
   have hne : w2.heap.size ≠ w.heap.size := Nat.ne_of_gt hgl
   have q2 : w2.cell? ⟨w.heap.size, 2, none⟩ = some (.bool false) := (blk_cell hr2 2).trans rfl
   clear hb2 hr2 hg2 HB HO HD q1 q3 hx HOP hw hwi hwb
   go_wp2_with fail
   refine (cfa_Op_may.calls o0 o1 o2 true _ (by rw [cfa_Op_may.f, HM.out])).mono ?_
   rintro e w3 ⟨rfl, hb3⟩
   have HB3 := am (below_step (below_alloc HB2.out _) hb3)
   have HD3 := am (show Rd w3 w.heap.size (some ad) l0.length c0 at2 false from blk_below (blk_alloc HD2.out _) hb3)
   have HO3 := am (Kd.R_below (Kd.R_alloc HO2.out _) hb3)
   have hbk : w3.heap[w2.heap.size]? = some (.cells #[.int .i64 o0, .int .i64 o1, .int .i64 o2] 105 (0, 0)) := blk_below (blk_new w2 _) hb3
   have e0 : w3.cell? ⟨w2.heap.size, 0, none⟩ = some (.int .i64 o0) := (blk_cell hbk 0).trans rfl
   have e1 : w3.cell? ⟨w2.heap.size, 1, none⟩ = some (.int .i64 o1) := (blk_cell hbk 1).trans rfl
   have e2 : w3.cell? ⟨w2.heap.size, 2, none⟩ = some (.int .i64 o2) := (blk_cell hbk 2).trans rfl
   clear hb3 hbk HB2 HD2 HO2 hgl hne q2
   have hgl : w.heap.size < w3.heap.size := blk_lt HD3.out
   have HGL := am hgl
   have hle : w.heap.size ≤ w3.heap.size := Nat.le_of_lt hgl
   have HLE := am hle
   have hal : (acc.length + 1) * 24 ≤ 140737488355328 := by have := HAL.out; omega
   have HAL2 := am hal
   have hlen : (acc ++ [(⟨o0, o1, o2⟩ : S105)]).length = acc.length + 1 := by simp
   have h4 : ((acc.length : Int) + 1 ≤ 4000) = True := eq_true (by have := HAL.out; omega)
   have h4b : decide ((acc.length : Int) + 1 > 4000) = false := decide_eq_false (by have := HAL.out; omega)
   have h4c : decide (4000 < (acc.length : Int) + 1) = false := h4b
   clear hgl hle hal
   go_wp2_with ((with_reducible refine gate_dst (N := 55) rfl ?_); refine Kd.R_append k105 (w0 := w) w.heap.size (by rfl) (.tmp 52) (.tmp 54) 44 105 (.agg #[(.int .i64 0), (.int .i64 0), (.int .i64 0)]) 24 rfl Try.underlying44 info105 rfl (by decide) (by decide) u5 acc (⟨o0, o1, o2⟩ : S105) [.int .i64 o0, .int .i64 o1, .int .i64 o2] (fun k => k ≠ w.heap.size) (fun _ => False) rfl rfl (k105_mkM _ _ _ (⟨o0, o1, o2⟩ : S105)) (fun _ hk => hk.elim) (fun k hk e => absurd HGL.out (by rw [e] at hk; exact Nat.not_lt.2 hk)) HO3.out HB3.out HLE.out HAL2.out ?_; intro v1 w4 ho hb hg hat; have HB4 := am hb; have HD4 := am (show Rd w4 w.heap.size (some ad) l0.length c0 at2 false from blk_grown HD3.out hg (fun e => (HO3.out.1 _ e.symm) rfl)); obtain ⟨A1, cp1, rfl⟩ := Kd.R_slice ho; rw [hlen] at ho; have HO4 := am ho; rw [hlen]; clear ho hb hg hat HO3 HB3 HD3)
   go_roundg k1
   case measure => omega
   case rel => exact ⟨at2, acc ++ [⟨o0, o1, o2⟩], rfl, HN, HO4, HD4, HB4⟩
end Go.Proofs.Ytfgfnflhdabmcaa.CfaRd
end
section
namespace Go.Proofs.Ytfgfnflhdabmcaa.G
open Go.RowKit Go.Proofs.YtfgfnflhdabmcaaW.PrintWords Go.Proofs.YtfgfnflhdabmcaaW.PrintLast Go.Proofs.YtfgfnflhdabmcaaW.PrintMore
attribute [local go_sem] max2_int min2_int max_two min_two max_three min_three max_four min_four
def cfa_Read.f (l0 : List Int) : Option (List S105 × Int) := CfaRd.readF l0
theorem cfa_Read.calls (A0 : Option Addr) (c0 : Nat) (l0 : List Int) (r1 : List S105) (r2 : Int) (w : World) (hr0 : Kd.C (Kd.int .u8) w A0 l0.length l0) (hc0 : l0.length ≤ c0) (h : cfa_Read.f l0 = some (r1, r2)) :
  Calls Try.prog 90 #[.slice A0 l0.length c0] w fun e w' => ∃ v0_ : Value, e = .returned (.tuple #[v0_, .int .i64 r2]) ∧ Kd.R k105 105 w' w.heap.size (fun _ => True) v0_ r1 ∧ Below w.heap.size w w' := CfaRd.read_calls A0 c0 l0 r1 r2 w hr0 hc0 h
mutual
def ehframe_Get.j0 : Nat → Int → Int → Int → Int → Int → Int → Int → Int → Bool → Option (Int × Int × Int)
  | 0, _, _, _, _, _, _, _, _, _ => none
  | k + 1, x1, x3, x4, x10, x11, x12, x14, x106000, x106001 => if x12 = 0 then ((ehframe_near.f k (([x10] : List Int))).bind fun t121 => (if t121 = true then (if x106001 = true then (ehframe_Get.j1 k x1 x3 x4 x10 x11 x14 false) else (ehframe_Get.j1 k x1 x3 x4 x10 x11 x14 (decide (x10 < 0)))) else (ehframe_Get.j1 k x1 x3 x4 x10 x11 x14 true))) else (some (0, 0, x12))
def ehframe_Get.j1 : Nat → Int → Int → Int → Int → Int → Int → Bool → Option (Int × Int × Int)
  | 0, _, _, _, _, _, _, _ => none
  | k + 1, x1, x3, x4, x10, x11, x14, x79 => if x79 = true then (some (0, 0, 11)) else (if x14 = 16 then ((ehframe_near.f k (([wrap64 (x10 + (wrap64 (x3 + x1)))] : List Int))).bind fun t125 => (if t125 = true then (some (wrap64 (x10 + (wrap64 (x3 + x1))), x11, 0)) else (some (0, 0, 11)))) else (if x14 = 48 then ((ehframe_near.f k (([wrap64 (x10 + x4)] : List Int))).bind fun t129 => (if t129 = true then (some (wrap64 (x10 + x4), x11, 0)) else (some (0, 0, 11)))) else ((ehframe_near.f k (([x10] : List Int))).bind fun t133 => (if t133 = true then (some (x10, x11, 0)) else (some (0, 0, 11))))))
end
def ehframe_Get.f (k : Nat) (l0 : List Int) (a1 : Int) (a2 : Int) (a3 : Int) (a4 : Int) : Option (Int × Int × Int) := (ehframe_of.f a2).bind fun bt101 => (if bt101.2.2.2 = true then ((ehframe_near.f k (([a3, a4] : List Int))).bind fun t109 => (if t109 = true then (if bt101.1 > 0 then ((leb_Get.f k l0 a1 bt101.1 bt101.2.1).bind fun bt110 => (ehframe_Get.j0 k a1 a3 a4 bt110.1 (wrap64 (a1 + bt101.1)) bt110.2 bt101.2.2.1 bt101.1 bt101.2.1)) else (if bt101.2.1 = true then ((leb_ReadSleb.f l0 a1).bind fun bt112 => (ehframe_Get.j0 k a1 a3 a4 bt112.1 bt112.2.1 bt112.2.2 bt101.2.2.1 bt101.1 bt101.2.1)) else ((leb_ReadUleb.f l0 a1).bind fun bt115 => (ehframe_Get.j0 k a1 a3 a4 bt115.1 bt115.2.1 bt115.2.2 bt101.2.2.1 bt101.1 bt101.2.1)))) else (some (0, 0, 11)))) else (some (0, 0, 140)))
set_option maxHeartbeats 8000000 in
theorem ehframe_Get.calls (k : Nat) (A0 : Option Addr) (c0 : Nat) (l0 : List Int) (a1 : Int) (a2 : Int) (a3 : Int) (a4 : Int) (r1 : Int) (r2 : Int) (r3 : Int) (w : World) (hr0 : Kd.C (Kd.int .u8) w A0 l0.length l0) (hc0 : l0.length ≤ c0) (h : ehframe_Get.f k l0 a1 a2 a3 a4 = some (r1, r2, r3)) :
    Calls Try.prog 18 #[.slice A0 l0.length c0, .int .i64 a1, .int .i64 a2, .int .i64 a3, .int .i64 a4] w fun e w' => e = .returned (.tuple #[.int .i64 r1, .int .i64 r2, .int .i64 r3]) ∧ Below w.heap.size w w' := by
 have hu76 := Try.underlying76
 have HR0 := am hr0
 have HC0 := am hc0
 clear hr0 hc0
 have HB := am (Below.refl w.heap.size w)
 have H : ((ehframe_of.f a2).bind fun bt101 => (if bt101.2.2.2 = true then ((ehframe_near.f k (([a3, a4] : List Int))).bind fun t109 => (if t109 = true then (if bt101.1 > 0 then ((leb_Get.f k l0 a1 bt101.1 bt101.2.1).bind fun bt110 => (ehframe_Get.j0 k a1 a3 a4 bt110.1 (wrap64 (a1 + bt101.1)) bt110.2 bt101.2.2.1 bt101.1 bt101.2.1)) else (if bt101.2.1 = true then ((leb_ReadSleb.f l0 a1).bind fun bt112 => (ehframe_Get.j0 k a1 a3 a4 bt112.1 bt112.2.1 bt112.2.2 bt101.2.2.1 bt101.1 bt101.2.1)) else ((leb_ReadUleb.f l0 a1).bind fun bt115 => (ehframe_Get.j0 k a1 a3 a4 bt115.1 bt115.2.1 bt115.2.2 bt101.2.2.1 bt101.1 bt101.2.1)))) else (some (0, 0, 11)))) else (some (0, 0, 140)))) = some (r1, r2, r3) := h
 clear h
 replace H := Option.bind_eq_some_iff.mp H
 obtain ⟨⟨t101, t102, t103, t104⟩, A60, H⟩ := H
 replace H : (if t104 = true then ((ehframe_near.f k (([a3, a4] : List Int))).bind fun t109 => (if t109 = true then (if t101 > 0 then ((leb_Get.f k l0 a1 t101 t102).bind fun bt110 => (ehframe_Get.j0 k a1 a3 a4 bt110.1 (wrap64 (a1 + t101)) bt110.2 t103 t101 t102)) else (if t102 = true then ((leb_ReadSleb.f l0 a1).bind fun bt112 => (ehframe_Get.j0 k a1 a3 a4 bt112.1 bt112.2.1 bt112.2.2 t103 t101 t102)) else ((leb_ReadUleb.f l0 a1).bind fun bt115 => (ehframe_Get.j0 k a1 a3 a4 bt115.1 bt115.2.1 bt115.2.2 t103 t101 t102)))) else (some (0, 0, 11)))) else (some (0, 0, 140))) = some (r1, r2, r3) := H
 have A6 := am A60
 clear A60
 by_cases c7 : t104 = true
 rotate_left
 ·
  replace c7 := Bool.eq_false_iff.mpr c7
  subst c7
  replace H : (some (0, 0, 140)) = some (r1, r2, r3) := by rw [if_neg (show ¬ (false = true) by decide)] at H; exact H
  simp only [Option.some.injEq, Prod.mk.injEq] at H
  obtain ⟨rfl, rfl, rfl⟩ := H
  go_enter Try.func18, Try.ntmps18
  go_wp2_with (first | ((with_reducible refine gate_callee (f := 29) rfl ?_); refine goesL_ (some 18) rfl rfl Try.func29 (by kernel_rfl) rfl #[.int .i64 a2] rfl (by simp only [ml]; try rfl) ?_; (with_reducible refine (ehframe_of.calls a2 t101 t102 t103 false _ A6.out).mono ?_); rintro e w76 ⟨rfl, hb⟩; refine ⟨_, rfl, ?_⟩; have n0_ := am (below_step (by exact bl_o HB.out) hb); clear HB; have HB := n0_; clear n0_) | ((with_reducible refine gate_dst (N := 13) rfl ?_); refine box_event ?hg (N := 13) ?hd (cs := #[.int .i64 0, .bool false]) (t := 76) ?hr ?_; (case hd => rfl); (case hg => rfl); (case hr => go_simp; try rfl); intro gb105 hg w77 hbox hb; refine mv3 (am (below_step (by exact bl_o HB.out) hb)) (am (hbox)) (lei (by rw [hg]; exact (below_size (by exact bl_o HB.out)) : w.heap.size ≤ gb105)) ?_; clear HB; intro HB BK105 GW105; have GE105 := GW105; clear hb hbox hg; obtain ⟨hcz78_0, hcz78_1, hfz78_0, hfz78_1⟩ := cells2 BK105.out))
  go_ret3
  exact ⟨rfl, by exact bl_g HB.out⟩
 subst c7
 replace H : ((ehframe_near.f k (([a3, a4] : List Int))).bind fun t109 => (if t109 = true then (if t101 > 0 then ((leb_Get.f k l0 a1 t101 t102).bind fun bt110 => (ehframe_Get.j0 k a1 a3 a4 bt110.1 (wrap64 (a1 + t101)) bt110.2 t103 t101 t102)) else (if t102 = true then ((leb_ReadSleb.f l0 a1).bind fun bt112 => (ehframe_Get.j0 k a1 a3 a4 bt112.1 bt112.2.1 bt112.2.2 t103 t101 t102)) else ((leb_ReadUleb.f l0 a1).bind fun bt115 => (ehframe_Get.j0 k a1 a3 a4 bt115.1 bt115.2.1 bt115.2.2 t103 t101 t102)))) else (some (0, 0, 11)))) = some (r1, r2, r3) := by rw [if_pos rfl] at H; exact H
 obtain ⟨y106, hy106⟩ : ∃ y_ : List Int, y_ = (([a3, a4] : List Int)) := ⟨_, rfl⟩
 replace H : ((ehframe_near.f k y106).bind fun t109 => (if t109 = true then (if t101 > 0 then ((leb_Get.f k l0 a1 t101 t102).bind fun bt110 => (ehframe_Get.j0 k a1 a3 a4 bt110.1 (wrap64 (a1 + t101)) bt110.2 t103 t101 t102)) else (if t102 = true then ((leb_ReadSleb.f l0 a1).bind fun bt112 => (ehframe_Get.j0 k a1 a3 a4 bt112.1 bt112.2.1 bt112.2.2 t103 t101 t102)) else ((leb_ReadUleb.f l0 a1).bind fun bt115 => (ehframe_Get.j0 k a1 a3 a4 bt115.1 bt115.2.1 bt115.2.2 t103 t101 t102)))) else (some (0, 0, 11)))) = some (r1, r2, r3) := by first | (rw [hy106]; with_reducible exact H) | (have H2_ := (Option.bind_some _ _).symm.trans H; rw [hy106]; with_reducible exact H2_)
 have Ny106 := am hy106
 clear hy106
 replace H := Option.bind_eq_some_iff.mp H
 obtain ⟨t109, A80, H⟩ := H
 replace H : (if t109 = true then (if t101 > 0 then ((leb_Get.f k l0 a1 t101 t102).bind fun bt110 => (ehframe_Get.j0 k a1 a3 a4 bt110.1 (wrap64 (a1 + t101)) bt110.2 t103 t101 t102)) else (if t102 = true then ((leb_ReadSleb.f l0 a1).bind fun bt112 => (ehframe_Get.j0 k a1 a3 a4 bt112.1 bt112.2.1 bt112.2.2 t103 t101 t102)) else ((leb_ReadUleb.f l0 a1).bind fun bt115 => (ehframe_Get.j0 k a1 a3 a4 bt115.1 bt115.2.1 bt115.2.2 t103 t101 t102)))) else (some (0, 0, 11))) = some (r1, r2, r3) := H
 have A8 := am A80
 clear A80
 by_cases c9 : t109 = true
 rotate_left
 ·
  replace c9 := Bool.eq_false_iff.mpr c9
  subst c9
  replace H : (some (0, 0, 11)) = some (r1, r2, r3) := by rw [if_neg (show ¬ (false = true) by decide)] at H; exact H
  simp only [Option.some.injEq, Prod.mk.injEq] at H
  obtain ⟨rfl, rfl, rfl⟩ := H
  go_enter Try.func18, Try.ntmps18
  go_wp2_with (first | ((with_reducible refine gate_callee (f := 29) rfl ?_); refine goesL_ (some 18) rfl rfl Try.func29 (by kernel_rfl) rfl #[.int .i64 a2] rfl (by simp only [ml]; try rfl) ?_; (with_reducible refine (ehframe_of.calls a2 t101 t102 t103 true _ A6.out).mono ?_); rintro e w70 ⟨rfl, hb⟩; refine ⟨_, rfl, ?_⟩; have n0_ := am (below_step (by exact bl_o HB.out) hb); clear HB; have HB := n0_; clear n0_) | ((with_reducible refine gate_dst (N := 13) rfl ?_); refine box_event ?hg (N := 13) ?hd (cs := #[.int .i64 0, .bool false]) (t := 76) ?hr ?_; (case hd => rfl); (case hg => rfl); (case hr => go_simp; try rfl); intro gb105 hg w71 hbox hb; refine mv3 (am (below_step (by exact bl_o HB.out) hb)) (am (hbox)) (lei (by rw [hg]; exact (below_size (by exact bl_o HB.out)) : w.heap.size ≤ gb105)) ?_; clear HB; intro HB BK105 GW105; have GE105 := GW105; clear hb hbox hg; obtain ⟨hcz72_0, hcz72_1, hfz72_0, hfz72_1⟩ := cells2 BK105.out) | ((with_reducible refine gate_dst (N := 26) rfl ?_); refine Kd.R_lit (Kd.int .i64) _ 3 ?hg (N := 26) ?hd (xs := ([a3, a4] : List Int)) (inner := [.int .i64 a3, .int .i64 a4]) (ok := fun _ => True) (okp := fun _ => True) ?hr ?hp (fun _ hk => hk) trivial (Below.refl _ _) (Nat.le_refl _) (by simp) ?_; (case hd => rfl); (case hg => rfl); (case hr => go_simp; try rfl); (case hp => exact (Reps.one (show Kd.M (Kd.int .i64) _ _ _ a3 [.int .i64 a3] from rfl) (Reps.one (show Kd.M (Kd.int .i64) _ _ _ a4 [.int .i64 a4] from rfl) (Reps.none _ _)))); intro v107 w73 ho74 hb hg_ hnew_; clear hg_ hnew_; (first | rw [← Ny106.out] at ho74 | (simp only [Int.reduceToNat] at ho74; rw [← Ny106.out] at ho74)); refine mv3 (am (Kd.R_lower ho74 (below_size (by exact bl_g HB.out)))) (am (blk_below (g := gb105) (o := .cells #[.int .i64 t101, .bool t102] 76 (0, 0)) (bps BK105.out rfl) hb)) (am (below_step (by exact bl_g HB.out) hb)) ?_; clear BK105 HB; intro HO108 BK105 HB; clear hb ho74; obtain ⟨Ao75, co75, eo75⟩ := Kd.R_slice HO108.out; subst eo75) | ((with_reducible refine gate_callee (f := 30) rfl ?_); refine goesL_ (some 27) rfl rfl Try.func30 (by kernel_rfl) rfl #[.slice Ao75 y106.length co75] rfl (by simp only [ml]; try rfl) ?_; (with_reducible refine (ehframe_near.calls k _ _ y106 false _ ?side1 ?side2 A8.out).mono ?_); (case side1 => exact Kd.C_o ((Kd.R_reads' HO108.out).2.2)); (case side2 => exact (Kd.R_reads' HO108.out).2.1); rintro e w' ⟨rfl, ⟨nd, rfl⟩⟩; refine ⟨_, rfl, ?_⟩))
  go_ret3
  exact ⟨rfl, by exact bl_g HB.out⟩
 subst c9
 replace H : (if t101 > 0 then ((leb_Get.f k l0 a1 t101 t102).bind fun bt110 => (ehframe_Get.j0 k a1 a3 a4 bt110.1 (wrap64 (a1 + t101)) bt110.2 t103 t101 t102)) else (if t102 = true then ((leb_ReadSleb.f l0 a1).bind fun bt112 => (ehframe_Get.j0 k a1 a3 a4 bt112.1 bt112.2.1 bt112.2.2 t103 t101 t102)) else ((leb_ReadUleb.f l0 a1).bind fun bt115 => (ehframe_Get.j0 k a1 a3 a4 bt115.1 bt115.2.1 bt115.2.2 t103 t101 t102)))) = some (r1, r2, r3) := by rw [if_pos rfl] at H; exact H
 have HC10 := am H
 clear H
 go_enter Try.func18, Try.ntmps18
 go_upto_block 0 with (first | ((with_reducible refine gate_callee (f := 29) rfl ?_); refine goesL_ (some 18) rfl rfl Try.func29 (by kernel_rfl) rfl #[.int .i64 a2] rfl (by simp only [ml]; try rfl) ?_; (with_reducible refine (ehframe_of.calls a2 t101 t102 t103 true _ A6.out).mono ?_); rintro e w11 ⟨rfl, hb⟩; refine ⟨_, rfl, ?_⟩; have n0_ := am (below_step (by exact bl_o HB.out) hb); clear HB; have HB := n0_; clear n0_) | ((with_reducible refine gate_dst (N := 13) rfl ?_); refine box_event ?hg (N := 13) ?hd (cs := #[.int .i64 0, .bool false]) (t := 76) ?hr ?_; (case hd => rfl); (case hg => rfl); (case hr => go_simp; try rfl); intro gb105 hg w12 hbox hb; refine mv3 (am (below_step (by exact bl_o HB.out) hb)) (am (hbox)) (lei (by rw [hg]; exact (below_size (by exact bl_o HB.out)) : w.heap.size ≤ gb105)) ?_; clear HB; intro HB BK105 GW105; have GE105 := GW105; clear hb hbox hg; obtain ⟨hcz13_0, hcz13_1, hfz13_0, hfz13_1⟩ := cells2 BK105.out) | ((with_reducible refine gate_dst (N := 26) rfl ?_); refine Kd.R_lit (Kd.int .i64) _ 3 ?hg (N := 26) ?hd (xs := ([a3, a4] : List Int)) (inner := [.int .i64 a3, .int .i64 a4]) (ok := fun _ => True) (okp := fun _ => True) ?hr ?hp (fun _ hk => hk) trivial (Below.refl _ _) (Nat.le_refl _) (by simp) ?_; (case hd => rfl); (case hg => rfl); (case hr => go_simp; try rfl); (case hp => exact (Reps.one (show Kd.M (Kd.int .i64) _ _ _ a3 [.int .i64 a3] from rfl) (Reps.one (show Kd.M (Kd.int .i64) _ _ _ a4 [.int .i64 a4] from rfl) (Reps.none _ _)))); intro v107 w14 ho15 hb hg_ hnew_; clear hg_ hnew_; (first | rw [← Ny106.out] at ho15 | (simp only [Int.reduceToNat] at ho15; rw [← Ny106.out] at ho15)); refine mv3 (am (Kd.R_lower ho15 (below_size (by exact bl_g HB.out)))) (am (blk_below (g := gb105) (o := .cells #[.int .i64 t101, .bool t102] 76 (0, 0)) (bps BK105.out rfl) hb)) (am (below_step (by exact bl_g HB.out) hb)) ?_; clear BK105 HB; intro HO108 BK105 HB; clear hb ho15; obtain ⟨Ao16, co16, eo16⟩ := Kd.R_slice HO108.out; subst eo16) | ((with_reducible refine gate_callee (f := 30) rfl ?_); refine goesL_ (some 27) rfl rfl Try.func30 (by kernel_rfl) rfl #[.slice Ao16 y106.length co16] rfl (by simp only [ml]; try rfl) ?_; (with_reducible refine (ehframe_near.calls k _ _ y106 true _ ?side1 ?side2 A8.out).mono ?_); (case side1 => exact Kd.C_o ((Kd.R_reads' HO108.out).2.2)); (case side2 => exact (Kd.R_reads' HO108.out).2.1); rintro e w' ⟨rfl, ⟨nd, rfl⟩⟩; refine ⟨_, rfl, ?_⟩))
 (try simp only [Act.put, List.setIfInBounds_toArray, List.set_cons_zero, List.set_cons_succ])
 go_cut [10, 11, 12] (fun v10 v11 v12 wc => ∃ (kq : Nat) (x10_9 : Int) (x11_9 : Int) (x12_9 : Int), v10 = .int .i64 x10_9 ∧ v11 = .int .i64 x11_9 ∧ v12 = .int .i64 x12_9 ∧ Aside0 (ehframe_Get.j0 kq a1 a3 a4 x10_9 x11_9 x12_9 t103 t101 t102 = some (r1, r2, r3)) ∧ Aside0 (kq ≤ k) ∧ Aside0 (wc.heap[gb105]? = some (.cells #[.int .i64 t101, .bool t102] 76 (0, 0))) ∧ Aside0 (Below w.heap.size w wc))
 case first =>
  have H := HC10.out
  clear HC10
  by_cases c17 : t101 > 0
  ·
   rw [if_pos c17] at H
   have c17b0 : decide (0 < t101) = true := decide_eq_true c17
   clear c17
   (first | rw [c17b0] | (simp only [i64_w, i32_w]; rw [c17b0]) | skip)
   replace H := Option.bind_eq_some_iff.mp H
   obtain ⟨⟨t110, t111⟩, A180, H⟩ := H
   replace H : (ehframe_Get.j0 k a1 a3 a4 t110 (wrap64 (a1 + t101)) t111 t103 t101 t102) = some (r1, r2, r3) := H
   have A18 := am A180
   clear A180
   have H' := am H
   clear H
   obtain ⟨hcz19_0, hcz19_1, hfz19_0, hfz19_1⟩ := cells2 BK105.out
   go_wp2_with (first | ((with_reducible refine gate_callee (f := 48) rfl ?_); refine goesL_ (some 47) rfl rfl Try.func48 (by kernel_rfl) rfl #[.slice A0 l0.length c0, .int .i64 a1, .int .i64 t101, .bool t102] rfl (by simp only [ml]; try rfl) ?_; (with_reducible refine (leb_Get.calls k _ _ l0 a1 t101 t102 t110 t111 _ ?side1 ?side2 A18.out).mono ?_); (case side1 => exact Kd.C_o (Kd.C_below HR0.out HB.out)); (case side2 => exact HC0.out); rintro e w' ⟨rfl, ⟨nd, rfl⟩⟩; refine ⟨_, rfl, ?_⟩))
   go_meet
   case rel => exact ⟨_, (t110), (wrap64 (a1 + t101)), (t111), (by first | rfl | (simp; done) | (simp [*]; done)), (by first | rfl | (simp; done) | (simp [*]; done)), (by first | rfl | (simp; done) | (simp [*]; done)), H', ⟨by first | omega | exact Nat.le_refl _⟩, ⟨by (with_reducible repeat (first | refine blk_drewN ?_ _ | refine blk_drew ?_ | refine blk_alloc ?_ _)); exact BK105.out⟩, ⟨by exact bl_g HB.out⟩⟩
  rw [if_neg c17] at H
  have c17b0 : decide (0 < t101) = false := decide_eq_false c17
  clear c17
  (first | rw [c17b0] | (simp only [i64_w, i32_w]; rw [c17b0]) | skip)
  by_cases c20 : t102 = true
  ·
   subst c20
   replace H : ((leb_ReadSleb.f l0 a1).bind fun bt112 => (ehframe_Get.j0 k a1 a3 a4 bt112.1 bt112.2.1 bt112.2.2 t103 t101 true)) = some (r1, r2, r3) := by rw [if_pos rfl] at H; exact H
   replace H := Option.bind_eq_some_iff.mp H
   obtain ⟨⟨t112, t113, t114⟩, A210, H⟩ := H
   replace H : (ehframe_Get.j0 k a1 a3 a4 t112 t113 t114 t103 t101 true) = some (r1, r2, r3) := H
   have A21 := am A210
   clear A210
   have H' := am H
   clear H
   obtain ⟨hcz22_0, hcz22_1, hfz22_0, hfz22_1⟩ := cells2 BK105.out
   go_wp2_with (first | ((with_reducible refine gate_callee (f := 49) rfl ?_); refine goesL_ (some 60) rfl rfl Try.func49 (by kernel_rfl) rfl #[.slice A0 l0.length c0, .int .i64 a1] rfl (by simp only [ml]; try rfl) ?_; (with_reducible refine (leb_ReadSleb.calls _ _ l0 a1 t112 t113 t114 _ ?side1 ?side2 A21.out).mono ?_); (case side1 => exact Kd.C_o (Kd.C_below HR0.out HB.out)); (case side2 => exact HC0.out); rintro e w23 ⟨rfl, hb⟩; refine ⟨_, rfl, ?_⟩; refine mv3 (am (Kd.R_below (Kd.R_o HO108.out) hb)) (am (blk_below (blk_o BK105.out) hb)) (am (below_step (by exact bl_g HB.out) hb)) ?_; clear HO108 BK105 HB; intro HO108 BK105 HB))
   go_meet
   case rel => exact ⟨_, (t112), (t113), (t114), (by first | rfl | (simp; done) | (simp [*]; done)), (by first | rfl | (simp; done) | (simp [*]; done)), (by first | rfl | (simp; done) | (simp [*]; done)), H', ⟨by first | omega | exact Nat.le_refl _⟩, ⟨by (with_reducible repeat (first | refine blk_drewN ?_ _ | refine blk_drew ?_ | refine blk_alloc ?_ _)); exact BK105.out⟩, ⟨by exact bl_g HB.out⟩⟩
  replace c20 := Bool.eq_false_iff.mpr c20
  subst c20
  replace H : ((leb_ReadUleb.f l0 a1).bind fun bt115 => (ehframe_Get.j0 k a1 a3 a4 bt115.1 bt115.2.1 bt115.2.2 t103 t101 false)) = some (r1, r2, r3) := by rw [if_neg (show ¬ (false = true) by decide)] at H; exact H
  replace H := Option.bind_eq_some_iff.mp H
  obtain ⟨⟨t115, t116, t117⟩, A240, H⟩ := H
  replace H : (ehframe_Get.j0 k a1 a3 a4 t115 t116 t117 t103 t101 false) = some (r1, r2, r3) := H
  have A24 := am A240
  clear A240
  have H' := am H
  clear H
  obtain ⟨hcz25_0, hcz25_1, hfz25_0, hfz25_1⟩ := cells2 BK105.out
  go_wp2_with (first | ((with_reducible refine gate_callee (f := 50) rfl ?_); refine goesL_ (some 32) rfl rfl Try.func50 (by kernel_rfl) rfl #[.slice A0 l0.length c0, .int .i64 a1] rfl (by simp only [ml]; try rfl) ?_; (with_reducible refine (leb_ReadUleb.calls _ _ l0 a1 t115 t116 t117 _ ?side1 ?side2 A24.out).mono ?_); (case side1 => exact Kd.C_o (Kd.C_below HR0.out HB.out)); (case side2 => exact HC0.out); rintro e w26 ⟨rfl, hb⟩; refine ⟨_, rfl, ?_⟩; refine mv3 (am (Kd.R_below (Kd.R_o HO108.out) hb)) (am (blk_below (blk_o BK105.out) hb)) (am (below_step (by exact bl_g HB.out) hb)) ?_; clear HO108 BK105 HB; intro HO108 BK105 HB))
  go_meet
  case rel => exact ⟨_, (t115), (t116), (t117), (by first | rfl | (simp; done) | (simp [*]; done)), (by first | rfl | (simp; done) | (simp [*]; done)), (by first | rfl | (simp; done) | (simp [*]; done)), H', ⟨by first | omega | exact Nat.le_refl _⟩, ⟨by (with_reducible repeat (first | refine blk_drewN ?_ _ | refine blk_drew ?_ | refine blk_alloc ?_ _)); exact BK105.out⟩, ⟨by exact bl_g HB.out⟩⟩
 case rest =>
  clear HC10
  try clear c1
  try clear c2
  try clear p2
  try clear c3
  try clear c4
  try clear c5
  try clear p6
  try clear c7
  try clear c9
  try clear c17
  try clear c17b0
  try clear c18
  try clear c20
  try clear hcz13_0
  try clear hcz13_1
  try clear hcz19_0
  try clear hcz19_1
  try clear hcz22_0
  try clear hcz22_1
  try clear hcz25_0
  try clear hcz25_1
  try clear hfz13_0
  try clear hfz13_1
  try clear hfz19_0
  try clear hfz19_1
  try clear hfz22_0
  try clear hfz22_1
  try clear hfz25_0
  try clear hfz25_1
  obtain ⟨kq, x10_9, x11_9, x12_9, rfl, rfl, rfl, HA, HJ9, BK105, HB⟩ := hcut
  cases kq with
  | zero => exact absurd HA.out (by simp [ehframe_Get.j0])
  | succ kj9 =>
   have H := HA.out
   clear HA
   simp only [ehframe_Get.j0] at H
   by_cases c27 : x12_9 = 0
   rotate_left
   ·
    rw [if_neg c27] at H
    have c27b0 : (x12_9 == 0) = false := beq_eq_false_iff_ne.mpr c27
    have c27b1 : (x12_9 != 0) = true := bne_iff_ne.mpr c27
    simp only [Option.some.injEq, Prod.mk.injEq] at H
    obtain ⟨rfl, rfl, rfl⟩ := H
    go_wp2
    go_ret3
    exact ⟨rfl, by exact bl_g HB.out⟩
   rw [if_pos c27] at H
   have c27b0 : (x12_9 == 0) = true := beq_iff_eq.mpr c27
   have c27b1 : (x12_9 != 0) = false := bne_eq_false_iff_eq.mpr c27
   clear c27
   have HC28 := am H
   clear H
   go_upto_region 14 with (fail)
   go_cut [79] (fun v79 wc => ∃ (kq : Nat) (x79_27 : Bool), v79 = .bool x79_27 ∧ Aside0 (ehframe_Get.j1 kq a1 a3 a4 x10_9 x11_9 t103 x79_27 = some (r1, r2, r3)) ∧ Aside0 (kq ≤ kj9) ∧ Aside0 (wc.heap[gb105]? = some (.cells #[.int .i64 t101, .bool t102] 76 (0, 0))) ∧ Aside0 (Below w.heap.size w wc))
   case first =>
    have H := HC28.out
    clear HC28
    obtain ⟨y118, hy118⟩ : ∃ y_ : List Int, y_ = (([x10_9] : List Int)) := ⟨_, rfl⟩
    replace H : ((ehframe_near.f kj9 y118).bind fun t121 => (if t121 = true then (if t102 = true then (ehframe_Get.j1 kj9 a1 a3 a4 x10_9 x11_9 t103 false) else (ehframe_Get.j1 kj9 a1 a3 a4 x10_9 x11_9 t103 (decide (x10_9 < 0)))) else (ehframe_Get.j1 kj9 a1 a3 a4 x10_9 x11_9 t103 true))) = some (r1, r2, r3) := by first | (rw [hy118]; with_reducible exact H) | (have H2_ := (Option.bind_some _ _).symm.trans H; rw [hy118]; with_reducible exact H2_)
    have Ny118 := am hy118
    clear hy118
    replace H := Option.bind_eq_some_iff.mp H
    obtain ⟨t121, A290, H⟩ := H
    replace H : (if t121 = true then (if t102 = true then (ehframe_Get.j1 kj9 a1 a3 a4 x10_9 x11_9 t103 false) else (ehframe_Get.j1 kj9 a1 a3 a4 x10_9 x11_9 t103 (decide (x10_9 < 0)))) else (ehframe_Get.j1 kj9 a1 a3 a4 x10_9 x11_9 t103 true)) = some (r1, r2, r3) := H
    have A29 := am A290
    clear A290
    by_cases c30 : t121 = true
    rotate_left
    ·
     replace c30 := Bool.eq_false_iff.mpr c30
     subst c30
     replace H : (ehframe_Get.j1 kj9 a1 a3 a4 x10_9 x11_9 t103 true) = some (r1, r2, r3) := by rw [if_neg (show ¬ (false = true) by decide)] at H; exact H
     have H' := am H
     clear H
     go_wp2_with (first | ((with_reducible refine gate_dst (N := 68) rfl ?_); refine Kd.R_lit (Kd.int .i64) _ 3 ?hg (N := 68) ?hd (xs := ([x10_9] : List Int)) (inner := [.int .i64 x10_9]) (ok := fun _ => True) (okp := fun _ => True) ?hr ?hp (fun _ hk => hk) trivial (Below.refl _ _) (Nat.le_refl _) (by simp) ?_; (case hd => rfl); (case hg => rfl); (case hr => go_simp; try rfl); (case hp => exact (Reps.one (show Kd.M (Kd.int .i64) _ _ _ x10_9 [.int .i64 x10_9] from rfl) (Reps.none _ _))); intro v119 w40 ho41 hb hg_ hnew_; clear hg_ hnew_; (first | rw [← Ny118.out] at ho41 | (simp only [Int.reduceToNat] at ho41; rw [← Ny118.out] at ho41)); refine mv3 (am (Kd.R_lower ho41 (below_size (by exact bl_g HB.out)))) (am (blk_below (blk_o BK105.out) hb)) (am (below_step (by exact bl_g HB.out) hb)) ?_; clear BK105 HB; intro HO120 BK105 HB; clear hb ho41; obtain ⟨Ao42, co42, eo42⟩ := Kd.R_slice HO120.out; subst eo42) | ((with_reducible refine gate_callee (f := 30) rfl ?_); refine goesL_ (some 69) rfl rfl Try.func30 (by kernel_rfl) rfl #[.slice Ao42 y118.length co42] rfl (by simp only [ml]; try rfl) ?_; (with_reducible refine (ehframe_near.calls kj9 _ _ y118 false _ ?side1 ?side2 A29.out).mono ?_); (case side1 => exact Kd.C_o ((Kd.R_reads' HO120.out).2.2)); (case side2 => exact (Kd.R_reads' HO120.out).2.1); rintro e w' ⟨rfl, ⟨nd, rfl⟩⟩; refine ⟨_, rfl, ?_⟩))
     go_meet
     case rel => exact ⟨_, (true), (by first | rfl | (simp; done) | (simp [*]; done)), H', ⟨by have := HJ9.out; first | omega | exact Nat.le_refl _⟩, ⟨by (with_reducible repeat (first | refine blk_drewN ?_ _ | refine blk_drew ?_ | refine blk_alloc ?_ _)); exact BK105.out⟩, ⟨by exact bl_g HB.out⟩⟩
    subst c30
    replace H : (if t102 = true then (ehframe_Get.j1 kj9 a1 a3 a4 x10_9 x11_9 t103 false) else (ehframe_Get.j1 kj9 a1 a3 a4 x10_9 x11_9 t103 (decide (x10_9 < 0)))) = some (r1, r2, r3) := by rw [if_pos rfl] at H; exact H
    by_cases c31 : t102 = true
    ·
     subst c31
     replace H : (ehframe_Get.j1 kj9 a1 a3 a4 x10_9 x11_9 t103 false) = some (r1, r2, r3) := by rw [if_pos rfl] at H; exact H
     have H' := am H
     clear H
     go_wp2_with (first | ((with_reducible refine gate_dst (N := 68) rfl ?_); refine Kd.R_lit (Kd.int .i64) _ 3 ?hg (N := 68) ?hd (xs := ([x10_9] : List Int)) (inner := [.int .i64 x10_9]) (ok := fun _ => True) (okp := fun _ => True) ?hr ?hp (fun _ hk => hk) trivial (Below.refl _ _) (Nat.le_refl _) (by simp) ?_; (case hd => rfl); (case hg => rfl); (case hr => go_simp; try rfl); (case hp => exact (Reps.one (show Kd.M (Kd.int .i64) _ _ _ x10_9 [.int .i64 x10_9] from rfl) (Reps.none _ _))); intro v119 w32 ho33 hb hg_ hnew_; clear hg_ hnew_; (first | rw [← Ny118.out] at ho33 | (simp only [Int.reduceToNat] at ho33; rw [← Ny118.out] at ho33)); refine mv3 (am (Kd.R_lower ho33 (below_size (by exact bl_g HB.out)))) (am (blk_below (blk_o BK105.out) hb)) (am (below_step (by exact bl_g HB.out) hb)) ?_; clear BK105 HB; intro HO120 BK105 HB; clear hb ho33; obtain ⟨Ao34, co34, eo34⟩ := Kd.R_slice HO120.out; subst eo34) | ((with_reducible refine gate_callee (f := 30) rfl ?_); refine goesL_ (some 69) rfl rfl Try.func30 (by kernel_rfl) rfl #[.slice Ao34 y118.length co34] rfl (by simp only [ml]; try rfl) ?_; (with_reducible refine (ehframe_near.calls kj9 _ _ y118 true _ ?side1 ?side2 A29.out).mono ?_); (case side1 => exact Kd.C_o ((Kd.R_reads' HO120.out).2.2)); (case side2 => exact (Kd.R_reads' HO120.out).2.1); rintro e w' ⟨rfl, ⟨nd, rfl⟩⟩; refine ⟨_, rfl, ?_⟩; obtain ⟨hcz35_0, hcz35_1, hfz35_0, hfz35_1⟩ := cells2 BK105.out))
     go_meet
     case rel => exact ⟨_, (false), (by first | rfl | (simp; done) | (simp [*]; done)), H', ⟨by have := HJ9.out; first | omega | exact Nat.le_refl _⟩, ⟨by (with_reducible repeat (first | refine blk_drewN ?_ _ | refine blk_drew ?_ | refine blk_alloc ?_ _)); exact BK105.out⟩, ⟨by exact bl_g HB.out⟩⟩
    replace c31 := Bool.eq_false_iff.mpr c31
    subst c31
    replace H : (ehframe_Get.j1 kj9 a1 a3 a4 x10_9 x11_9 t103 (decide (x10_9 < 0))) = some (r1, r2, r3) := by rw [if_neg (show ¬ (false = true) by decide)] at H; exact H
    have H' := am H
    clear H
    go_wp2_with (first | ((with_reducible refine gate_dst (N := 68) rfl ?_); refine Kd.R_lit (Kd.int .i64) _ 3 ?hg (N := 68) ?hd (xs := ([x10_9] : List Int)) (inner := [.int .i64 x10_9]) (ok := fun _ => True) (okp := fun _ => True) ?hr ?hp (fun _ hk => hk) trivial (Below.refl _ _) (Nat.le_refl _) (by simp) ?_; (case hd => rfl); (case hg => rfl); (case hr => go_simp; try rfl); (case hp => exact (Reps.one (show Kd.M (Kd.int .i64) _ _ _ x10_9 [.int .i64 x10_9] from rfl) (Reps.none _ _))); intro v119 w36 ho37 hb hg_ hnew_; clear hg_ hnew_; (first | rw [← Ny118.out] at ho37 | (simp only [Int.reduceToNat] at ho37; rw [← Ny118.out] at ho37)); refine mv3 (am (Kd.R_lower ho37 (below_size (by exact bl_g HB.out)))) (am (blk_below (blk_o BK105.out) hb)) (am (below_step (by exact bl_g HB.out) hb)) ?_; clear BK105 HB; intro HO120 BK105 HB; clear hb ho37; obtain ⟨Ao38, co38, eo38⟩ := Kd.R_slice HO120.out; subst eo38) | ((with_reducible refine gate_callee (f := 30) rfl ?_); refine goesL_ (some 69) rfl rfl Try.func30 (by kernel_rfl) rfl #[.slice Ao38 y118.length co38] rfl (by simp only [ml]; try rfl) ?_; (with_reducible refine (ehframe_near.calls kj9 _ _ y118 true _ ?side1 ?side2 A29.out).mono ?_); (case side1 => exact Kd.C_o ((Kd.R_reads' HO120.out).2.2)); (case side2 => exact (Kd.R_reads' HO120.out).2.1); rintro e w' ⟨rfl, ⟨nd, rfl⟩⟩; refine ⟨_, rfl, ?_⟩; obtain ⟨hcz39_0, hcz39_1, hfz39_0, hfz39_1⟩ := cells2 BK105.out))
    go_meet
    case rel => exact ⟨_, (decide (x10_9 < 0)), (by first | rfl | (simp; done) | (simp [*]; done)), H', ⟨by have := HJ9.out; first | omega | exact Nat.le_refl _⟩, ⟨by (with_reducible repeat (first | refine blk_drewN ?_ _ | refine blk_drew ?_ | refine blk_alloc ?_ _)); exact BK105.out⟩, ⟨by exact bl_g HB.out⟩⟩
   case rest =>
    clear HC28
    try clear c1
    try clear c2
    try clear p2
    try clear c3
    try clear c4
    try clear c5
    try clear p6
    try clear c7
    try clear c9
    try clear c17
    try clear c17b0
    try clear c18
    try clear c20
    try clear c27
    try clear c27b0
    try clear c27b1
    try clear c29
    try clear c30
    try clear c31
    try clear hcz13_0
    try clear hcz13_1
    try clear hcz19_0
    try clear hcz19_1
    try clear hcz22_0
    try clear hcz22_1
    try clear hcz25_0
    try clear hcz25_1
    try clear hcz35_0
    try clear hcz35_1
    try clear hcz39_0
    try clear hcz39_1
    try clear hfz13_0
    try clear hfz13_1
    try clear hfz19_0
    try clear hfz19_1
    try clear hfz22_0
    try clear hfz22_1
    try clear hfz25_0
    try clear hfz25_1
    try clear hfz35_0
    try clear hfz35_1
    try clear hfz39_0
    try clear hfz39_1
    try clear p2
    try clear p6
    obtain ⟨kq, x79_27, rfl, HA, HJ27, BK105, HB⟩ := hcut
    cases kq with
    | zero => exact absurd HA.out (by simp [ehframe_Get.j1])
    | succ kj27 =>
     have H := HA.out
     clear HA
     simp only [ehframe_Get.j1] at H
     by_cases c43 : x79_27 = true
     ·
      subst c43
      replace H : (some (0, 0, 11)) = some (r1, r2, r3) := by rw [if_pos rfl] at H; exact H
      simp only [Option.some.injEq, Prod.mk.injEq] at H
      obtain ⟨rfl, rfl, rfl⟩ := H
      go_wp2
      go_ret3
      exact ⟨rfl, by exact bl_g HB.out⟩
     replace c43 := Bool.eq_false_iff.mpr c43
     subst c43
     replace H : (if t103 = 16 then ((ehframe_near.f kj27 (([wrap64 (x10_9 + (wrap64 (a3 + a1)))] : List Int))).bind fun t125 => (if t125 = true then (some (wrap64 (x10_9 + (wrap64 (a3 + a1))), x11_9, 0)) else (some (0, 0, 11)))) else (if t103 = 48 then ((ehframe_near.f kj27 (([wrap64 (x10_9 + a4)] : List Int))).bind fun t129 => (if t129 = true then (some (wrap64 (x10_9 + a4), x11_9, 0)) else (some (0, 0, 11)))) else ((ehframe_near.f kj27 (([x10_9] : List Int))).bind fun t133 => (if t133 = true then (some (x10_9, x11_9, 0)) else (some (0, 0, 11)))))) = some (r1, r2, r3) := by rw [if_neg (show ¬ (false = true) by decide)] at H; exact H
     by_cases c44 : t103 = 16
     ·
      rw [if_pos c44] at H
      have c44b0 : (t103 == 16) = true := beq_iff_eq.mpr c44
      have c44b1 : (t103 != 16) = false := bne_eq_false_iff_eq.mpr c44
      clear c44
      obtain ⟨y122, hy122⟩ : ∃ y_ : List Int, y_ = (([wrap64 (x10_9 + (wrap64 (a3 + a1)))] : List Int)) := ⟨_, rfl⟩
      replace H : ((ehframe_near.f kj27 y122).bind fun t125 => (if t125 = true then (some (wrap64 (x10_9 + (wrap64 (a3 + a1))), x11_9, 0)) else (some (0, 0, 11)))) = some (r1, r2, r3) := by first | (rw [hy122]; with_reducible exact H) | (have H2_ := (Option.bind_some _ _).symm.trans H; rw [hy122]; with_reducible exact H2_)
      have Ny122 := am hy122
      clear hy122
      replace H := Option.bind_eq_some_iff.mp H
      obtain ⟨t125, A450, H⟩ := H
      replace H : (if t125 = true then (some (wrap64 (x10_9 + (wrap64 (a3 + a1))), x11_9, 0)) else (some (0, 0, 11))) = some (r1, r2, r3) := H
      have A45 := am A450
      clear A450
      by_cases c46 : t125 = true
      ·
       subst c46
       replace H : (some (wrap64 (x10_9 + (wrap64 (a3 + a1))), x11_9, 0)) = some (r1, r2, r3) := by rw [if_pos rfl] at H; exact H
       simp only [Option.some.injEq, Prod.mk.injEq] at H
       obtain ⟨rfl, rfl, rfl⟩ := H
       go_wp2_with (first | ((with_reducible refine gate_dst (N := 94) rfl ?_); refine Kd.R_lit (Kd.int .i64) _ 3 ?hg (N := 94) ?hd (xs := ([wrap64 (x10_9 + (wrap64 (a3 + a1)))] : List Int)) (inner := [.int .i64 (wrap64 (x10_9 + (wrap64 (a3 + a1))))]) (ok := fun _ => True) (okp := fun _ => True) ?hr ?hp (fun _ hk => hk) trivial (Below.refl _ _) (Nat.le_refl _) (by simp) ?_; (case hd => rfl); (case hg => rfl); (case hr => go_simp; try rfl); (case hp => exact (Reps.one (show Kd.M (Kd.int .i64) _ _ _ (wrap64 (x10_9 + (wrap64 (a3 + a1)))) [.int .i64 (wrap64 (x10_9 + (wrap64 (a3 + a1))))] from rfl) (Reps.none _ _))); intro v123 w47 ho48 hb hg_ hnew_; clear hg_ hnew_; (first | rw [← Ny122.out] at ho48 | (simp only [Int.reduceToNat] at ho48; rw [← Ny122.out] at ho48)); refine mv3 (am (Kd.R_lower ho48 (below_size (by exact bl_g HB.out)))) (am (blk_below (blk_o BK105.out) hb)) (am (below_step (by exact bl_g HB.out) hb)) ?_; clear BK105 HB; intro HO124 BK105 HB; clear hb ho48; obtain ⟨Ao49, co49, eo49⟩ := Kd.R_slice HO124.out; subst eo49) | ((with_reducible refine gate_callee (f := 30) rfl ?_); refine goesL_ (some 95) rfl rfl Try.func30 (by kernel_rfl) rfl #[.slice Ao49 y122.length co49] rfl (by simp only [ml]; try rfl) ?_; (with_reducible refine (ehframe_near.calls kj27 _ _ y122 true _ ?side1 ?side2 A45.out).mono ?_); (case side1 => exact Kd.C_o ((Kd.R_reads' HO124.out).2.2)); (case side2 => exact (Kd.R_reads' HO124.out).2.1); rintro e w' ⟨rfl, ⟨nd, rfl⟩⟩; refine ⟨_, rfl, ?_⟩))
       go_ret3
       exact ⟨rfl, by exact bl_g HB.out⟩
      replace c46 := Bool.eq_false_iff.mpr c46
      subst c46
      replace H : (some (0, 0, 11)) = some (r1, r2, r3) := by rw [if_neg (show ¬ (false = true) by decide)] at H; exact H
      simp only [Option.some.injEq, Prod.mk.injEq] at H
      obtain ⟨rfl, rfl, rfl⟩ := H
      go_wp2_with (first | ((with_reducible refine gate_dst (N := 94) rfl ?_); refine Kd.R_lit (Kd.int .i64) _ 3 ?hg (N := 94) ?hd (xs := ([wrap64 (x10_9 + (wrap64 (a3 + a1)))] : List Int)) (inner := [.int .i64 (wrap64 (x10_9 + (wrap64 (a3 + a1))))]) (ok := fun _ => True) (okp := fun _ => True) ?hr ?hp (fun _ hk => hk) trivial (Below.refl _ _) (Nat.le_refl _) (by simp) ?_; (case hd => rfl); (case hg => rfl); (case hr => go_simp; try rfl); (case hp => exact (Reps.one (show Kd.M (Kd.int .i64) _ _ _ (wrap64 (x10_9 + (wrap64 (a3 + a1)))) [.int .i64 (wrap64 (x10_9 + (wrap64 (a3 + a1))))] from rfl) (Reps.none _ _))); intro v123 w50 ho51 hb hg_ hnew_; clear hg_ hnew_; (first | rw [← Ny122.out] at ho51 | (simp only [Int.reduceToNat] at ho51; rw [← Ny122.out] at ho51)); refine mv3 (am (Kd.R_lower ho51 (below_size (by exact bl_g HB.out)))) (am (blk_below (blk_o BK105.out) hb)) (am (below_step (by exact bl_g HB.out) hb)) ?_; clear BK105 HB; intro HO124 BK105 HB; clear hb ho51; obtain ⟨Ao52, co52, eo52⟩ := Kd.R_slice HO124.out; subst eo52) | ((with_reducible refine gate_callee (f := 30) rfl ?_); refine goesL_ (some 95) rfl rfl Try.func30 (by kernel_rfl) rfl #[.slice Ao52 y122.length co52] rfl (by simp only [ml]; try rfl) ?_; (with_reducible refine (ehframe_near.calls kj27 _ _ y122 false _ ?side1 ?side2 A45.out).mono ?_); (case side1 => exact Kd.C_o ((Kd.R_reads' HO124.out).2.2)); (case side2 => exact (Kd.R_reads' HO124.out).2.1); rintro e w' ⟨rfl, ⟨nd, rfl⟩⟩; refine ⟨_, rfl, ?_⟩))
      go_ret3
      exact ⟨rfl, by exact bl_g HB.out⟩
     rw [if_neg c44] at H
     have c44b0 : (t103 == 16) = false := beq_eq_false_iff_ne.mpr c44
     have c44b1 : (t103 != 16) = true := bne_iff_ne.mpr c44
     by_cases c53 : t103 = 48
     ·
      rw [if_pos c53] at H
      have c53b0 : (t103 == 48) = true := beq_iff_eq.mpr c53
      have c53b1 : (t103 != 48) = false := bne_eq_false_iff_eq.mpr c53
      clear c53
      obtain ⟨y126, hy126⟩ : ∃ y_ : List Int, y_ = (([wrap64 (x10_9 + a4)] : List Int)) := ⟨_, rfl⟩
      replace H : ((ehframe_near.f kj27 y126).bind fun t129 => (if t129 = true then (some (wrap64 (x10_9 + a4), x11_9, 0)) else (some (0, 0, 11)))) = some (r1, r2, r3) := by first | (rw [hy126]; with_reducible exact H) | (have H2_ := (Option.bind_some _ _).symm.trans H; rw [hy126]; with_reducible exact H2_)
      have Ny126 := am hy126
      clear hy126
      replace H := Option.bind_eq_some_iff.mp H
      obtain ⟨t129, A540, H⟩ := H
      replace H : (if t129 = true then (some (wrap64 (x10_9 + a4), x11_9, 0)) else (some (0, 0, 11))) = some (r1, r2, r3) := H
      have A54 := am A540
      clear A540
      by_cases c55 : t129 = true
      ·
       subst c55
       replace H : (some (wrap64 (x10_9 + a4), x11_9, 0)) = some (r1, r2, r3) := by rw [if_pos rfl] at H; exact H
       simp only [Option.some.injEq, Prod.mk.injEq] at H
       obtain ⟨rfl, rfl, rfl⟩ := H
       go_wp2_with (first | ((with_reducible refine gate_dst (N := 94) rfl ?_); refine Kd.R_lit (Kd.int .i64) _ 3 ?hg (N := 94) ?hd (xs := ([wrap64 (x10_9 + a4)] : List Int)) (inner := [.int .i64 (wrap64 (x10_9 + a4))]) (ok := fun _ => True) (okp := fun _ => True) ?hr ?hp (fun _ hk => hk) trivial (Below.refl _ _) (Nat.le_refl _) (by simp) ?_; (case hd => rfl); (case hg => rfl); (case hr => go_simp; try rfl); (case hp => exact (Reps.one (show Kd.M (Kd.int .i64) _ _ _ (wrap64 (x10_9 + a4)) [.int .i64 (wrap64 (x10_9 + a4))] from rfl) (Reps.none _ _))); intro v127 w56 ho57 hb hg_ hnew_; clear hg_ hnew_; (first | rw [← Ny126.out] at ho57 | (simp only [Int.reduceToNat] at ho57; rw [← Ny126.out] at ho57)); refine mv3 (am (Kd.R_lower ho57 (below_size (by exact bl_g HB.out)))) (am (blk_below (blk_o BK105.out) hb)) (am (below_step (by exact bl_g HB.out) hb)) ?_; clear BK105 HB; intro HO128 BK105 HB; clear hb ho57; obtain ⟨Ao58, co58, eo58⟩ := Kd.R_slice HO128.out; subst eo58) | ((with_reducible refine gate_callee (f := 30) rfl ?_); refine goesL_ (some 95) rfl rfl Try.func30 (by kernel_rfl) rfl #[.slice Ao58 y126.length co58] rfl (by simp only [ml]; try rfl) ?_; (with_reducible refine (ehframe_near.calls kj27 _ _ y126 true _ ?side1 ?side2 A54.out).mono ?_); (case side1 => exact Kd.C_o ((Kd.R_reads' HO128.out).2.2)); (case side2 => exact (Kd.R_reads' HO128.out).2.1); rintro e w' ⟨rfl, ⟨nd, rfl⟩⟩; refine ⟨_, rfl, ?_⟩))
       go_ret3
       exact ⟨rfl, by exact bl_g HB.out⟩
      replace c55 := Bool.eq_false_iff.mpr c55
      subst c55
      replace H : (some (0, 0, 11)) = some (r1, r2, r3) := by rw [if_neg (show ¬ (false = true) by decide)] at H; exact H
      simp only [Option.some.injEq, Prod.mk.injEq] at H
      obtain ⟨rfl, rfl, rfl⟩ := H
      go_wp2_with (first | ((with_reducible refine gate_dst (N := 94) rfl ?_); refine Kd.R_lit (Kd.int .i64) _ 3 ?hg (N := 94) ?hd (xs := ([wrap64 (x10_9 + a4)] : List Int)) (inner := [.int .i64 (wrap64 (x10_9 + a4))]) (ok := fun _ => True) (okp := fun _ => True) ?hr ?hp (fun _ hk => hk) trivial (Below.refl _ _) (Nat.le_refl _) (by simp) ?_; (case hd => rfl); (case hg => rfl); (case hr => go_simp; try rfl); (case hp => exact (Reps.one (show Kd.M (Kd.int .i64) _ _ _ (wrap64 (x10_9 + a4)) [.int .i64 (wrap64 (x10_9 + a4))] from rfl) (Reps.none _ _))); intro v127 w59 ho60 hb hg_ hnew_; clear hg_ hnew_; (first | rw [← Ny126.out] at ho60 | (simp only [Int.reduceToNat] at ho60; rw [← Ny126.out] at ho60)); refine mv3 (am (Kd.R_lower ho60 (below_size (by exact bl_g HB.out)))) (am (blk_below (blk_o BK105.out) hb)) (am (below_step (by exact bl_g HB.out) hb)) ?_; clear BK105 HB; intro HO128 BK105 HB; clear hb ho60; obtain ⟨Ao61, co61, eo61⟩ := Kd.R_slice HO128.out; subst eo61) | ((with_reducible refine gate_callee (f := 30) rfl ?_); refine goesL_ (some 95) rfl rfl Try.func30 (by kernel_rfl) rfl #[.slice Ao61 y126.length co61] rfl (by simp only [ml]; try rfl) ?_; (with_reducible refine (ehframe_near.calls kj27 _ _ y126 false _ ?side1 ?side2 A54.out).mono ?_); (case side1 => exact Kd.C_o ((Kd.R_reads' HO128.out).2.2)); (case side2 => exact (Kd.R_reads' HO128.out).2.1); rintro e w' ⟨rfl, ⟨nd, rfl⟩⟩; refine ⟨_, rfl, ?_⟩))
      go_ret3
      exact ⟨rfl, by exact bl_g HB.out⟩
     rw [if_neg c53] at H
     have c53b0 : (t103 == 48) = false := beq_eq_false_iff_ne.mpr c53
     have c53b1 : (t103 != 48) = true := bne_iff_ne.mpr c53
     obtain ⟨y130, hy130⟩ : ∃ y_ : List Int, y_ = (([x10_9] : List Int)) := ⟨_, rfl⟩
     replace H : ((ehframe_near.f kj27 y130).bind fun t133 => (if t133 = true then (some (x10_9, x11_9, 0)) else (some (0, 0, 11)))) = some (r1, r2, r3) := by first | (rw [hy130]; with_reducible exact H) | (have H2_ := (Option.bind_some _ _).symm.trans H; rw [hy130]; with_reducible exact H2_)
     have Ny130 := am hy130
     clear hy130
     replace H := Option.bind_eq_some_iff.mp H
     obtain ⟨t133, A620, H⟩ := H
     replace H : (if t133 = true then (some (x10_9, x11_9, 0)) else (some (0, 0, 11))) = some (r1, r2, r3) := H
     have A62 := am A620
     clear A620
     by_cases c63 : t133 = true
     ·
      subst c63
      replace H : (some (x10_9, x11_9, 0)) = some (r1, r2, r3) := by rw [if_pos rfl] at H; exact H
      simp only [Option.some.injEq, Prod.mk.injEq] at H
      obtain ⟨rfl, rfl, rfl⟩ := H
      go_wp2_with (first | ((with_reducible refine gate_dst (N := 94) rfl ?_); refine Kd.R_lit (Kd.int .i64) _ 3 ?hg (N := 94) ?hd (xs := ([x10_9] : List Int)) (inner := [.int .i64 x10_9]) (ok := fun _ => True) (okp := fun _ => True) ?hr ?hp (fun _ hk => hk) trivial (Below.refl _ _) (Nat.le_refl _) (by simp) ?_; (case hd => rfl); (case hg => rfl); (case hr => go_simp; try rfl); (case hp => exact (Reps.one (show Kd.M (Kd.int .i64) _ _ _ x10_9 [.int .i64 x10_9] from rfl) (Reps.none _ _))); intro v131 w64 ho65 hb hg_ hnew_; clear hg_ hnew_; (first | rw [← Ny130.out] at ho65 | (simp only [Int.reduceToNat] at ho65; rw [← Ny130.out] at ho65)); refine mv3 (am (Kd.R_lower ho65 (below_size (by exact bl_g HB.out)))) (am (blk_below (blk_o BK105.out) hb)) (am (below_step (by exact bl_g HB.out) hb)) ?_; clear BK105 HB; intro HO132 BK105 HB; clear hb ho65; obtain ⟨Ao66, co66, eo66⟩ := Kd.R_slice HO132.out; subst eo66) | ((with_reducible refine gate_callee (f := 30) rfl ?_); refine goesL_ (some 95) rfl rfl Try.func30 (by kernel_rfl) rfl #[.slice Ao66 y130.length co66] rfl (by simp only [ml]; try rfl) ?_; (with_reducible refine (ehframe_near.calls kj27 _ _ y130 true _ ?side1 ?side2 A62.out).mono ?_); (case side1 => exact Kd.C_o ((Kd.R_reads' HO132.out).2.2)); (case side2 => exact (Kd.R_reads' HO132.out).2.1); rintro e w' ⟨rfl, ⟨nd, rfl⟩⟩; refine ⟨_, rfl, ?_⟩))
      go_ret3
      exact ⟨rfl, by exact bl_g HB.out⟩
     replace c63 := Bool.eq_false_iff.mpr c63
     subst c63
     replace H : (some (0, 0, 11)) = some (r1, r2, r3) := by rw [if_neg (show ¬ (false = true) by decide)] at H; exact H
     simp only [Option.some.injEq, Prod.mk.injEq] at H
     obtain ⟨rfl, rfl, rfl⟩ := H
     go_wp2_with (first | ((with_reducible refine gate_dst (N := 94) rfl ?_); refine Kd.R_lit (Kd.int .i64) _ 3 ?hg (N := 94) ?hd (xs := ([x10_9] : List Int)) (inner := [.int .i64 x10_9]) (ok := fun _ => True) (okp := fun _ => True) ?hr ?hp (fun _ hk => hk) trivial (Below.refl _ _) (Nat.le_refl _) (by simp) ?_; (case hd => rfl); (case hg => rfl); (case hr => go_simp; try rfl); (case hp => exact (Reps.one (show Kd.M (Kd.int .i64) _ _ _ x10_9 [.int .i64 x10_9] from rfl) (Reps.none _ _))); intro v131 w67 ho68 hb hg_ hnew_; clear hg_ hnew_; (first | rw [← Ny130.out] at ho68 | (simp only [Int.reduceToNat] at ho68; rw [← Ny130.out] at ho68)); refine mv3 (am (Kd.R_lower ho68 (below_size (by exact bl_g HB.out)))) (am (blk_below (blk_o BK105.out) hb)) (am (below_step (by exact bl_g HB.out) hb)) ?_; clear BK105 HB; intro HO132 BK105 HB; clear hb ho68; obtain ⟨Ao69, co69, eo69⟩ := Kd.R_slice HO132.out; subst eo69) | ((with_reducible refine gate_callee (f := 30) rfl ?_); refine goesL_ (some 95) rfl rfl Try.func30 (by kernel_rfl) rfl #[.slice Ao69 y130.length co69] rfl (by simp only [ml]; try rfl) ?_; (with_reducible refine (ehframe_near.calls kj27 _ _ y130 false _ ?side1 ?side2 A62.out).mono ?_); (case side1 => exact Kd.C_o ((Kd.R_reads' HO132.out).2.2)); (case side2 => exact (Kd.R_reads' HO132.out).2.1); rintro e w' ⟨rfl, ⟨nd, rfl⟩⟩; refine ⟨_, rfl, ?_⟩))
     go_ret3
     exact ⟨rfl, by exact bl_g HB.out⟩
end Go.Proofs.Ytfgfnflhdabmcaa.G
end
section
namespace Go.Proofs.Ytfgfnflhdabmcaa.EhRd
open Go.RowKit Go.Proofs.Ytfgfnflhdabmcaa.G Go.Proofs.YtfgfnflhdabmcaaW.PrintWords Go.Proofs.YtfgfnflhdabmcaaW.PrintLast Go.Proofs.YtfgfnflhdabmcaaW.PrintMore
open Go.Proofs.Ytfgfnflhdabmcaa.Own
/-- the panic that gives up -/
def gaveUp : List PanicEntry := [{ v := .iface 30 (.int .i64 140), recovered := false }]
theorem fail_no (g : Nat) (w : World) : Calls Try.prog 55 #[.pointer (some ⟨g, 0, none⟩), .bool false] w fun e w' => e = .returned (.tuple #[]) ∧ w' = w := by
 go_enter Try.func55, Try.ntmps55
 go_wp2
 go_end0
 exact ⟨rfl, rfl⟩
theorem fail_yes (g : Nat) (w : World) : Calls Try.prog 55 #[.pointer (some ⟨g, 0, none⟩), .bool true] w fun e w' => e = .panicked gaveUp ∧ w' = w := by
 have hp : ∀ W : World, Sem.run Try.prog (Instr.panic (.iface 30 (.int .i64 140))) W = .halt (.panic (.iface 30 (.int .i64 140))) W := fun _ => rfl
 go_enter Try.func55, Try.ntmps55
 go_wp2
 exact ⟨rfl, rfl, rfl⟩
theorem uleb_ok (w : World) (g : Nat) (A0 : Option Addr) (c0 : Nat) (l0 : List Int) (hC : Kd.C (Kd.int .u8) w A0 l0.length l0) (hc : l0.length ≤ c0) (at_ n en : Int) (hr : leb_ReadUleb.f l0 at_ = some (n, en, 0)) :
    Calls Try.prog 76 #[.pointer (some ⟨g, 0, none⟩), .slice A0 l0.length c0, .int .i64 at_] w fun e w' => e = .returned (.tuple #[.int .i64 n, .int .i64 en]) ∧ Below w.heap.size w w' := by
 have HC := am hC
 have HCC := am hc
 have HR := am hr
 clear hC hc hr
 go_enter Try.func76, Try.ntmps76
 go_wp2_with fail
 refine (leb_ReadUleb.calls A0 c0 l0 at_ n en 0 _ HC.out HCC.out HR.out).mono ?_
 rintro e w1 ⟨rfl, hd⟩
 have HD := am hd
 clear hd
 go_wp2_with fail
 refine (fail_no g w1).mono ?_
 rintro e w2 ⟨rfl, rfl⟩
 go_wp2
 go_ret2
 exact ⟨rfl, HD.out⟩
theorem sleb_ok (w : World) (g : Nat) (A0 : Option Addr) (c0 : Nat) (l0 : List Int) (hC : Kd.C (Kd.int .u8) w A0 l0.length l0) (hc : l0.length ≤ c0) (at_ n en : Int) (hr : leb_ReadSleb.f l0 at_ = some (n, en, 0)) :
    Calls Try.prog 77 #[.pointer (some ⟨g, 0, none⟩), .slice A0 l0.length c0, .int .i64 at_] w fun e w' => e = .returned (.tuple #[.int .i64 n, .int .i64 en]) ∧ Below w.heap.size w w' := by
 have HC := am hC
 have HCC := am hc
 have HR := am hr
 clear hC hc hr
 go_enter Try.func77, Try.ntmps77
 go_wp2_with fail
 refine (leb_ReadSleb.calls A0 c0 l0 at_ n en 0 _ HC.out HCC.out HR.out).mono ?_
 rintro e w1 ⟨rfl, hd⟩
 have HD := am hd
 clear hd
 go_wp2_with fail
 refine (fail_no g w1).mono ?_
 rintro e w2 ⟨rfl, rfl⟩
 go_wp2
 go_ret2
 exact ⟨rfl, HD.out⟩
/-- ops without Nops at the end -/
def trim (l : List S105) : List S105 := (l.reverse.dropWhile fun o => o.f0 == 0).reverse
theorem trim_snoc (l : List S105) (o : S105) : trim (l ++ [o]) = if o.f0 = 0 then trim l else l ++ [o] := by
 unfold trim
 rw [List.reverse_append]
 by_cases h : o.f0 = 0
 ·
  simp [h]
 simp [h]
theorem trim_take (l : List S105) (n : Nat) (h : n < l.length) : trim (l.take (n + 1)) = if (l[n]).f0 = 0 then trim (l.take n) else l.take (n + 1) := by
 rw [← List.take_append_getElem h, trim_snoc]
theorem ops_ok (w : World) (g : Nat) (A0 : Option Addr) (c0 : Nat) (l0 : List Int) (hC : Kd.C (Kd.int .u8) w A0 l0.length l0) (hc : l0.length ≤ c0) (l : List S105) (hr : cfa_Read.f l0 = some (l, 0)) (hl : l.length ≤ 100000) :
    Calls Try.prog 78 #[.pointer (some ⟨g, 0, none⟩), .slice A0 l0.length c0] w fun e w' => ∃ v : Value, e = .returned v ∧ Kd.R k105 105 w' w.heap.size (fun _ => True) v (trim l) ∧ Below w.heap.size w w' := by
 have HC := am hC
 have HCC := am hc
 have HR := am hr
 have HL := am hl
 clear hC hc hr hl
 go_enter Try.func78, Try.ntmps78
 go_wp2_with fail
 refine (cfa_Read.calls A0 c0 l0 l 0 _ HC.out HCC.out HR.out).mono ?_
 rintro e w1 ⟨v, rfl, hv, hd⟩
 have HD := am hd
 have HV := am hv
 clear hd hv
 go_wp2_with fail
 refine (fail_no g w1).mono ?_
 rintro e w2 ⟨rfl, rfl⟩
 go_wp2
 go_loopg [5] l.length (fun kq v5 w' => w' = w2 ∧ kq ≤ l.length ∧ Aside0 (trim (l.take kq) = trim l) ∧ Aside0 (Kd.R k105 105 w2 w.heap.size (fun _ => True) v5 (l.take kq)))
 case atStart => exact ⟨rfl, Nat.le_refl _, ⟨by rw [List.take_length]⟩, ⟨by rw [List.take_length]; exact HV.out⟩⟩
 case round =>
  obtain ⟨rfl, hle, HT, HV5⟩ := hrel
  have hll := HL.out
  obtain ⟨xs, hxs⟩ : ∃ xs, xs = l.take gk := ⟨_, rfl⟩
  have hxl : xs.length = gk := by rw [hxs, List.length_take]; omega
  rw [← hxs] at HV5 HT
  obtain ⟨A5, c5, e5⟩ := Kd.R_slice HV5.out
  subst e5
  cases gk with
  | zero =>
   have c2b0 : decide (0 < (xs.length : Int)) = false := decide_eq_false (by omega)
   have c2b1 : decide (0 < xs.length) = false := decide_eq_false (by omega)
   clear hll hle
   go_wp2
   go_ret
   have hz : xs = [] := List.eq_nil_of_length_eq_zero hxl
   refine ⟨_, rfl, ?_, HD.out⟩
   rw [← HT.out]
   subst hz
   exact HV5.out
  | succ k1 =>
   have hlt : k1 < l.length := hle
   have hw : wrap64 ((xs.length : Int) - 1) = (k1 : Int) := by unfold wrap64; omega
   have hwi : IntKind.i64.wrap ((xs.length : Int) - 1) = (k1 : Int) := by rw [IntKind.wrap_i64]; omega
   have c2b0 : decide (0 < (xs.length : Int)) = true := decide_eq_true (by omega)
   have c2b1 : decide (0 < xs.length) = true := decide_eq_true (by omega)
   have p101 : 0 ≤ (k1 : Int) := by omega
   have q101 : (k1 : Int) < (xs.length : Int) := by omega
   obtain ⟨ad101, e101, hx0, hx1, hx2⟩ := at_T105 (Kd.R_reads' HV5.out).2.2 (k1 : Int) p101 q101
   cases e101
   rw [Int.toNat_natCast] at hx0 hx1 hx2
   have hrd : rd_T105 xs (k1 : Int) = l[k1] := by
    show xs.getD (k1 : Int).toNat _ = _
    have : (k1 : Int).toNat = k1 := by omega
    rw [this, hxs, List.getD_eq_getElem?_getD, List.getElem?_take]
    simp [hlt]
   have htr := trim_take l k1 hlt
   rw [← hxs, HT.out] at htr
   obtain ⟨o, ho⟩ : ∃ o, l[k1] = o := ⟨_, rfl⟩
   rw [ho] at htr hrd
   have HTR := am htr
   have HRD := am hrd
   have HXS := am hxs
   have HLT := am hlt
   have HXL := am hxl
   clear htr hrd hxs hll ho hle hlt hxl
   by_cases c6 : (rd_T105 xs (k1 : Int)).f0 = 0
   rotate_left
   ·
    have c6b0 : ((rd_T105 xs (k1 : Int)).f0 == 0) = false := beq_eq_false_iff_ne.mpr c6
    have HC6 := am c6
    clear c6
    replace p101 := eq_true p101
    replace q101 := eq_true q101
    go_wp2
    go_ret
    refine ⟨_, rfl, ?_, HD.out⟩
    have hxx : trim l = xs := by rw [HTR.out, if_neg (by rw [← HRD.out]; exact HC6.out), HXS.out]
    rw [hxx]
    exact HV5.out
   have c6b0 : ((rd_T105 xs (k1 : Int)).f0 == 0) = true := beq_iff_eq.mpr c6
   have HC6 := am c6
   have q10 : (k1 : Int) ≤ (xs.length : Int) := by omega
   obtain ⟨i010, hi010, _, hsz10, _⟩ := info_parts info105
   have hroom10 : xs.length ≤ c5 := (Kd.R_reads' HV5.out).2.1
   have hcut10 := cut_to (P := Try.prog) 44 105 .i64 Try.underlying44 hi010 (some ad101) xs.length c5 (k1 : Int) p101 q10 hroom10
   have hr10 := Kd.R_take (m := (k1 : Int).toNat) HV5.out (by omega)
   have hk1 : (k1 : Int).toNat = k1 := by omega
   have htk : xs.take k1 = l.take k1 := by rw [HXS.out, List.take_take]; congr 1; omega
   rw [hk1] at hr10 hcut10
   have HO := am hr10
   have HTK := am htk
   clear hr10 hroom10 hi010 hsz10 c6 hk1 htk
   replace p101 := eq_true p101
   replace q101 := eq_true q101
   replace q10 := eq_true q10
   go_wp2
   go_roundg k1
   case measure => omega
   case rel =>
    have ht : trim (l.take k1) = trim l := by rw [HTR.out, if_pos (by rw [← HRD.out]; exact HC6.out)]
    exact ⟨rfl, Nat.le_of_lt HLT.out, ⟨ht⟩, ⟨by rw [← HTK.out]; exact HO.out⟩⟩
end Go.Proofs.Ytfgfnflhdabmcaa.EhRd
end
section
namespace Go.Proofs.Ytfgfnflhdabmcaa.EhRd
open Go.RowKit Go.Proofs.Ytfgfnflhdabmcaa.G Go.Proofs.YtfgfnflhdabmcaaW.PrintWords Go.Proofs.YtfgfnflhdabmcaaW.PrintLast Go.Proofs.YtfgfnflhdabmcaaW.PrintMore
open Go.Proofs.Ytfgfnflhdabmcaa.Own Go.ChangeMaps
open Go.Maps (Keyed)
theorem info5 : ∃ i, Try.prog.info? 5 = some i ∧ i.size = 1 := by
  obtain ⟨i, hi, _, hs, _⟩ := info_parts Go.Proofs.Ytfgfnflhdabmcaa.G.info5
  exact ⟨i, hi, hs⟩
theorem cut_mid1 (A : Option Addr) (c : Nat) (b : List Int) (i j : Int) (lo hi : Nat) (e1 : i = lo) (e2 : j = hi) (h1 : lo ≤ hi) (h2 : hi ≤ b.length) (hc : b.length ≤ c) :
    ∃ A1 c1, ((b.take hi).drop lo).length ≤ c1 ∧ (∀ W : World, (Instr.slice 28 (.slice A b.length c) (some (.int .i64 i)) (some (.int .i64 j)) none).run Try.prog W = .ok (.slice A1 ((b.take hi).drop lo).length c1) W) ∧ ∀ W : World, Kd.C (Kd.int .u8) W A b.length b → Kd.C (Kd.int .u8) W A1 ((b.take hi).drop lo).length ((b.take hi).drop lo) := by
  obtain ⟨io, hio, hsz⟩ := info5
  have hl : ((b.take hi).drop lo).length = hi - lo := by rw [List.length_drop, List.length_take]; omega
  subst e1 e2
  refine ⟨_, c - lo, by omega, ?_, fun W h => Kd.C_mid h h1 h2 hc⟩
  have := cut_mid (P := Try.prog) 28 5 .i64 .i64 Try.underlying28 hio 1 hsz A b.length c (lo : Int) (hi : Int) (by omega) (by omega) (by omega) hc
  rw [hl]
  simpa [show (Kd.int IntKind.u8).sz = 1 from rfl] using this
theorem cut_from1 (A : Option Addr) (c : Nat) (b : List Int) (i : Int) (lo : Nat) (e1 : i = lo) (h1 : lo ≤ b.length) (hc : b.length ≤ c) :
    ∃ A1 c1, (b.drop lo).length ≤ c1 ∧ (∀ W : World, (Instr.slice 28 (.slice A b.length c) (some (.int .i64 i)) none none).run Try.prog W = .ok (.slice A1 (b.drop lo).length c1) W) ∧ ∀ W : World, Kd.C (Kd.int .u8) W A b.length b → Kd.C (Kd.int .u8) W A1 (b.drop lo).length (b.drop lo) := by
  obtain ⟨io, hio, hsz⟩ := info5
  subst e1
  refine ⟨_, c - lo, by rw [List.length_drop]; omega, ?_, fun W h => Kd.C_drop h h1 hc⟩
  have := cut_from (P := Try.prog) 28 5 .i64 Try.underlying28 hio 1 hsz A b.length c (lo : Int) (by omega) (by omega)
  rw [List.length_drop]
  simpa [show (Kd.int IntKind.u8).sz = 1 from rfl] using this
def lookI (m : List (Int × Int)) (s : Int) : Option Int := (m.find? (fun p => p.1 == s)).map (·.2)
def intF (m : List (Int × Int)) : Lit → Option Int
  | .int .i64 s => lookI m s
  | _ => none
theorem lookI_cons (m : List (Int × Int)) (s s' : Int) (c : Int) : lookI ((s, c) :: m) s' = if s = s' then some c else lookI m s' := by
  unfold lookI
  by_cases h : s = s'
  · subst h
    simp
  · rw [List.find?_cons_of_neg (by simpa using h), if_neg h]
theorem putF_intF (m : List (Int × Int)) (s : Int) (c : Int) : putF (intF m) (.int .i64 s) c = intF ((s, c) :: m) := by
  funext k
  unfold putF
  by_cases h : k = .int .i64 s
  · subst h
    rw [if_pos rfl]
    simp [intF, lookI_cons]
  · rw [if_neg h]
    cases k <;> simp only [intF]
    rename_i q s'
    cases q <;> simp only [intF]
    rw [lookI_cons, if_neg (fun e => h (by rw [e]))]
theorem intF_nil : intF [] = fun _ => none := by
  funext k
  cases k <;> simp only [intF]
  rename_i q s
  cases q <;> simp [intF, lookI]
theorem law : Keyed Try.prog 3 := Go.Maps.int_keyed Try.underlying3
def Cells (w : World) (g m : Nat) (A0 : Option Addr) (n0 c0 : Nat) (addr : Int) (vc vf : Value) : Prop := w.heap[g]? = some (.cells #[.slice A0 n0 c0, .int .i64 addr, vc, vf, .map (some m)] 101 (0, 0))
structure StV (w0 w : World) (g m : Nat) (A0 : Option Addr) (n0 c0 : Nat) (addr : Int) (cs : List S69) (fs : List S46) (pm : List (Int × Int)) (vc vf : Value) : Prop where
  blk : Cells w g m A0 n0 c0 addr vc vf
  hc : Kd.S k69 69 w w0.heap.size (fun _ => True) vc cs
  hf : Kd.S k46 46 w w0.heap.size (fun _ => True) vf fs
  hm : MapF Try.prog 3 3 w m pm.length (intF pm)
  lg : w0.heap.size ≤ g
  lm : w0.heap.size ≤ m
  ne : m ≠ g
  hb : Below w0.heap.size w0 w
def St (w0 w : World) (g m : Nat) (A0 : Option Addr) (n0 c0 : Nat) (addr : Int) (cs : List S69) (fs : List S46) (pm : List (Int × Int)) : Prop := ∃ vc vf, StV w0 w g m A0 n0 c0 addr cs fs pm vc vf
theorem S_overMap {P : Program} {k e : TypeId} {W w1 : World} {b n : Nat} {f : Lit → Option Int} {α : Type} {d : Kd α} {t base : Nat} {ok : Nat → Prop} {u : Value} {xs : List α} (hS : Kd.S d t W base ok u xs) (h : MapF P k e W b n f) (hg : W.grownBy w1 (some b)) : Kd.S d t w1 base ok u xs := by
  obtain ⟨F, hF⟩ := hS
  exact ⟨F, R_overMap hF h hg⟩
section
variable {w0 w w1 : World} {g m : Nat} {A0 : Option Addr} {n0 c0 : Nat} {addr : Int} {cs : List S69} {fs : List S46} {pm : List (Int × Int)} {vc vf : Value}
theorem StV.glt (h : StV w0 w g m A0 n0 c0 addr cs fs pm vc vf) : g < w.heap.size := blk_lt h.blk
theorem StV.base (h : StV w0 w g m A0 n0 c0 addr cs fs pm vc vf) : w0.heap.size ≤ w.heap.size := Nat.le_trans h.lg (Nat.le_of_lt h.glt)
/-- the world moves, but not in old blocks -/
theorem StV.below (h : StV w0 w g m A0 n0 c0 addr cs fs pm vc vf) (hb : Below w.heap.size w w1) : StV w0 w1 g m A0 n0 c0 addr cs fs pm vc vf where
  blk := blk_below h.blk hb
  hc := Kd.S_below h.hc hb
  hf := Kd.S_below h.hf hb
  hm := h.hm.kept (grown_of_below hb none) (Option.some_ne_none _)
  lg := h.lg
  lm := h.lm
  ne := h.ne
  hb := h.hb.trans (hb.mono h.base)
theorem StV.drew (h : StV w0 w g m A0 n0 c0 addr cs fs pm vc vf) : StV w0 w.drew g m A0 n0 c0 addr cs fs pm vc vf := h.below (below_drew (Below.refl _ _))
theorem StV.alloc (h : StV w0 w g m A0 n0 c0 addr cs fs pm vc vf) (o : Obj) : StV w0 (w.alloc o) g m A0 n0 c0 addr cs fs pm vc vf := h.below (below_alloc (Below.refl _ _) o)
theorem St.below (h : St w0 w g m A0 n0 c0 addr cs fs pm) (hb : Below w.heap.size w w1) : St w0 w1 g m A0 n0 c0 addr cs fs pm := by
  obtain ⟨vc, vf, h⟩ := h
  exact ⟨vc, vf, h.below hb⟩
/-- a place put into the map -/
theorem StV.put (h : StV w0 w g m A0 n0 c0 addr cs fs pm vc vf) {s c : Int} (hm : MapF Try.prog 3 3 w1 m (pm.length + 1) (putF (intF pm) (.int .i64 s) c)) (hg : w.grownBy w1 (some m)) : StV w0 w1 g m A0 n0 c0 addr cs fs ((s, c) :: pm) vc vf where
  blk := blk_grown h.blk hg (fun e => h.ne (Option.some.inj e).symm)
  hc := S_overMap h.hc h.hm hg
  hf := S_overMap h.hf h.hm hg
  hm := by rw [← putF_intF]; exact hm
  lg := h.lg
  lm := h.lm
  ne := h.ne
  hb := h.hb.grown hg h.base (fun k hk => by cases hk; exact h.lm)
end
section
variable {w0 w w1 : World} {g m : Nat} {A0 : Option Addr} {n0 c0 : Nat} {addr : Int} {cs : List S69} {fs : List S46} {pm : List (Int × Int)} {vc vf v1 : Value}
/-- another list of common entries in its cell -/
theorem StV.putC (h : StV w0 w g m A0 n0 c0 addr cs fs pm vc vf) {cs' : List S69} (hN : Kd.S k69 69 w1 w0.heap.size (fun _ => True) v1 cs') (hg : w.grownBy w1 vc.ownBlock) : StV w0 (w1.setCell ⟨g, 2, none⟩ v1) g m A0 n0 c0 addr cs' fs pm v1 vf := by
 have hty := Kd.S_typed h.hc
 have hblk : Cells w1 g m A0 n0 c0 addr vc vf := blk_grown h.blk hg (fun e => Kd.S_ne h.hc h.blk (by decide) e)
 have hm1 : MapF Try.prog 3 3 w1 m pm.length (intF pm) := h.hm.over hty hg
 have hsz : (w1.setCell ⟨g, 2, none⟩ v1).heap.size = w1.heap.size := by simp [World.setCell]
 have hgs : w1.grownBy (w1.setCell ⟨g, 2, none⟩ v1) (some g) := ⟨rfl, rfl, rfl, by rw [hsz]; exact Nat.le_refl _, fun k _ hk => Below.heap_setCell w1 _ _ k (fun e => hk (by rw [e]))⟩
 have hF1 := Kd.S_over' h.hf hty (by decide) hg
 exact {
   blk := blk_put hblk 2 v1 (by rfl)
   hc := Kd.S_set hN hblk (by decide) _ _
   hf := Kd.S_set hF1 hblk (by decide) _ _
   hm := hm1.kept hgs (fun e => h.ne (Option.some.inj e))
   lg := h.lg
   lm := h.lm
   ne := h.ne
   hb := (h.hb.grown hg h.base (Kd.S_base h.hc)).setCell h.lg _ }
end
theorem run_mapUpdate {P : Program} {a : Act} {w w1 : World} {oi : Oper} (t : TypeId) (m x v : Operand) {M X V : Value} (hop : oi.op = .mapUpdate t m x v) (hm : a.eval m = M) (hx : a.eval x = X) (hv : a.eval v = V) (hrun : (Instr.mapUpdate t M X V).run P w = .ok () w1) : (execOp a.eval oi).run P w = .ok .skip w1 := by
 unfold execOp
 simp [hop, hm, hx, hv, hrun, Result.andThen]
set_option maxHeartbeats 4000000 in
theorem cie_ok (w0 w : World) (g m : Nat) (A0 : Option Addr) (n0 c0 : Nat) (addr : Int) (cs : List S69) (fs : List S46) (pm : List (Int × Int)) (h : St w0 w g m A0 n0 c0 addr cs fs pm)
    (A : Option Addr) (c : Nat) (b : List Int) (hC : Kd.C (Kd.int .u8) w0 A b.length b) (hc : b.length ≤ c) (hm : b.length ≤ 2097152) (h8 : 8 ≤ b.length) (hz : (b.take 8).drop 4 = [1, 122, 82, 0]) (e1 e2 e3 e4 : Int)
    (u1 : leb_ReadUleb.f b 8 = some (1, e1, 0)) (u2 : leb_ReadSleb.f b e1 = some (-8, e2, 0)) (u3 : leb_ReadUleb.f b e2 = some (16, e3, 0)) (u4 : leb_ReadUleb.f b e3 = some (1, e4, 0)) (h4 : 0 ≤ e4) (h5 : e4 < b.length) (x : Int) (hx : rd b e4 = x) (hxr : 0 ≤ x ∧ x ≤ 255) (r1 : Int) (r2 : Bool) (r3 : Int) (ho : ehframe_of.f x = some (r1, r2, r3, true))
    (os : List S105) (hos : cfa_Read.f (b.drop (e4.toNat + 1)) = some (os, 0)) (hol : os.length ≤ 100000) (first : Int) (hf : 0 ≤ first ∧ first ≤ 2097152) (hcl : cs.length ≤ 2097152) (hpl : pm.length ≤ 2097152) :
    Calls Try.prog 56 #[.pointer (some ⟨g, 0, none⟩), .slice A b.length c, .int .i64 first] w fun e w' => e = .returned (.tuple #[]) ∧ St w0 w' g m A0 n0 c0 addr (cs ++ [⟨x, trim os⟩]) fs ((first, (cs.length : Int)) :: pm) := by
 obtain ⟨vc, vf, hst⟩ := h
 have HST := am hst
 have HC := am hC
 have HCC := am hc
 have U1 := am u1
 have U2 := am u2
 have U3 := am u3
 have U4 := am u4
 have HO := am ho
 have HOL := am hol
 have HCL := am hcl
 have HPL := am hpl
 have HF := am hf
 have HX := am hx
 have H4 := am h4
 have H5 := am h5
 have d0 : decide ((b.length : Int) < 8) = false := decide_eq_false (by omega)
 have d0b : decide (b.length < 8) = false := decide_eq_false (by omega)
 have d1 : decide ((b.length : Int) ≤ e4) = false := decide_eq_false (by omega)
 have d2 : decide (e4 ≥ (b.length : Int)) = false := d1
 have hw4 : wrap64 (e4 + 1) = e4 + 1 := by unfold wrap64; omega
 have hw4i : IntKind.i64.wrap (e4 + 1) = e4 + 1 := by rw [IntKind.wrap_i64]; omega
 have hwx : wrap64 x = x := by unfold wrap64; omega
 have hwxi : IntKind.i64.wrap x = x := by rw [IntKind.wrap_i64]; omega
 obtain ⟨ad, rfl, hq⟩ := Kd.at_int hC e4 h4 (by omega)
 rw [hx] at hq
 have HQ := am hq
 obtain ⟨A4, c4, hl4, hcut4, hC4⟩ := cut_mid1 (some ad) c b 4 8 4 8 rfl rfl (by omega) h8 hc
 obtain ⟨A5, c5, hl5, hcut5, hC5⟩ := cut_from1 (some ad) c b (e4 + 1) (e4.toNat + 1) (by omega) (by omega) hc
 rw [hz] at hl4 hcut4 hC4
 obtain ⟨b5, hb5⟩ : ∃ l, b.drop (e4.toNat + 1) = l := ⟨_, rfl⟩
 rw [hb5] at hl5 hcut5 hC5 hos
 have HOS := am hos
 clear hb5
 have HC4 := am (show ∀ W : World, Kd.C (Kd.int .u8) W (some ad) b.length b → Kd.C (Kd.int .u8) W A4 4 [1, 122, 82, 0] from hC4)
 replace hcut4 : ∀ W : World, (Instr.slice 28 (.slice (some ad) b.length c) (some (.int .i64 4)) (some (.int .i64 8)) none).run Try.prog W = .ok (.slice A4 4 c4) W := hcut4
 have HC5 := am hC5
 have HL5 := am hl5
 clear hst hC hc u1 u2 u3 u4 ho hos hol hcl hpl hf hx h4 h5 hC4 hl4 hC5 hl5 h8 hz hxr hq hm
 go_enter Try.func56, Try.ntmps56
 go_wp2_with fail
 refine (ehframe_head.calls 0 [0, 0, 0, 0, 1, 122, 82, 0, 1, 120, 16, 1, 0] _ rfl).mono ?_
 rintro e wa ⟨vh, rfl, hvh, hba⟩
 obtain ⟨gh, ch, rfl, -, -, -⟩ := Kd.R_form hvh (by decide)
 have hch := (Kd.R_reads' hvh).2.1
 simp only [List.length_cons, List.length_nil] at hch
 have hC6 : Kd.C (Kd.int .u8) wa (some ⟨gh, 4, none⟩) 4 [1, 122, 82, 0] := by
  have hq := Kd.C_mid (lo := 4) (hi := 8) (Kd.R_reads' hvh).2.2 (by omega) (by decide) (Kd.R_reads' hvh).2.1
  rw [if_neg (by omega)] at hq
  exact hq
 have hcv6 := fun (m_ : Nat) => Kd.C_string (P := Try.prog) (A := some ⟨gh, 4, none⟩) (c := ch - 4) Try.underlying28 Try.underlying5 Try.underlying9 (Kd.C_drewN hC6 m_)
 have hcv4 := fun (m_ : Nat) => Kd.C_string (P := Try.prog) (A := A4) (c := c4) Try.underlying28 Try.underlying5 Try.underlying9 (Kd.C_drewN (HC4.out wa (Kd.C_below HC.out (HST.out.hb.trans (hba.mono HST.out.base)))) m_)
 have HSA := am (HST.out.below hba)
 have hcutH : ∀ W : World, (Instr.slice 28 (.slice (some ⟨gh, 0, none⟩) 13 ch) (some (.int .i64 4)) (some (.int .i64 8)) none).run Try.prog W = .ok (.slice (some ⟨gh, 4, none⟩) 4 (ch - 4)) W := by
  obtain ⟨io, hio, hsz⟩ := info5
  have hq := cut_mid (P := Try.prog) 28 5 .i64 .i64 Try.underlying28 hio 1 hsz (some ⟨gh, 0, none⟩) 13 ch 4 8 (by decide) (by decide) (by decide) (by omega)
  intro W
  rw [hq W, if_neg (by show ¬ ch = 4; omega)]
  rfl
 have HCH := am hch
 clear hvh hba hC6 HC4 hch
 go_wp2
 go_quiet (first | (go_at_call 55; refine Calls.quiet_of_same (fail_no _ _)))
 go_wp2_with fail
 have HSB := am (HSA.out.below (pw_below_drewN (Below.refl _ _) nq))
 clear hcv6 hcv4 hcut4 hcutH HSA HCH
 refine (uleb_ok _ g (some ad) c b (Kd.C_below HC.out HSB.out.hb) HCC.out 8 1 e1 U1.out).mono ?_
 rintro e wb ⟨rfl, hb⟩
 have HSC := am (HSB.out.below hb)
 clear hb HSB
 go_wp2_with fail
 refine (sleb_ok _ g (some ad) c b (Kd.C_below HC.out HSC.out.hb) HCC.out e1 (-8) e2 U2.out).mono ?_
 rintro e wc ⟨rfl, hb⟩
 have HSB := am (HSC.out.below hb)
 clear hb HSC
 go_wp2_with fail
 refine (uleb_ok _ g (some ad) c b (Kd.C_below HC.out HSB.out.hb) HCC.out e2 16 e3 U3.out).mono ?_
 rintro e wd ⟨rfl, hb⟩
 have HSC := am (HSB.out.below hb)
 clear hb HSB
 go_wp2_with fail
 refine (uleb_ok _ g (some ad) c b (Kd.C_below HC.out HSC.out.hb) HCC.out e3 1 e4 U4.out).mono ?_
 rintro e we ⟨rfl, hb⟩
 have HSB := am (HSC.out.below hb)
 clear hb HSC
 go_wp2_with fail
 refine (fail_no g _).mono ?_
 rintro e wf ⟨rfl, hwf⟩
 subst hwf
 have q1 := (HSB.out.hb.cell (World.block_lt_of_cell? _ _ HQ.out)).trans HQ.out
 have p1 := eq_true H4.out
 have p2 := eq_true H5.out
 go_wp2_with fail
 refine (ehframe_of.calls x r1 r2 r3 true _ HO.out).mono ?_
 rintro e wg ⟨rfl, hb⟩
 have HSC := am (HSB.out.below hb)
 clear hb HSB q1
 go_wp2_with fail
 refine (fail_no g _).mono ?_
 rintro e wh ⟨rfl, hwh⟩
 have HSB := am (HSC.out.below (w1 := wh) (by rw [hwh]; exact below_alloc (Below.refl _ _) _))
 clear hwh HSC
 obtain ⟨Av, cv, rfl⟩ := Kd.S_slice HSB.out.hc
 have g4 : wh.cell? ⟨g, 4, none⟩ = some (.map (some m)) := (blk_cell HSB.out.blk 4).trans rfl
 have g2 : wh.cell? ⟨g, 2, none⟩ = some (.slice Av cs.length cv) := (blk_cell HSB.out.blk 2).trans rfl
 go_wp2
 refine start_ (n := 11) (S := fun u => u.cell? ⟨g, 4, none⟩ = some (.map (some m)) ∧ u.cell? ⟨g, 2, none⟩ = some (.slice Av cs.length cv)) (ds := [10]) (bm 11 0) (by kernel_rfl) rfl rfl ?_ (fun hHeld => ?_)
 case refine_1 => exact ⟨by go_simp, by go_simp⟩
 refine pure_ (i := 0) (N := some 93) (v := ?_) (a' := ?_) (bm 11 1) rfl rfl (by kernel_rfl) (fun _ _ _ h => h) (Or.inl ⟨by rfl, ?_⟩) ?_ ?_
 rotate_left
 ·
  intro u
  go_simp
  with_reducible rfl
 rotate_left
 ·
  simp only [pz]
  rfl
 refine pure_ (i := 1) (N := some 94) (v := ?_) (a' := ?_) (bm 11 3) rfl rfl (by kernel_rfl) (fun _ _ _ h => h) (Or.inl ⟨by rfl, ?_⟩) ?_ ?_
 rotate_left
 ·
  intro u
  go_simp
  with_reducible rfl
 rotate_left
 ·
  simp only [pz]
  rfl
 refine pure_ (i := 2) (N := some 95) (v := ?_) (a' := ?_) (bm 11 7) rfl rfl (by kernel_rfl) (fun _ _ _ h => h) (Or.inl ⟨by rfl, ?_⟩) ?_ ?_
 rotate_left
 ·
  intro u
  go_simp
  with_reducible rfl
 rotate_left
 ·
  simp only [pz]
  rfl
 refine take_ (i := 3) (N := some 96) (v := ?_) (a' := ?_) (bm 11 15) rfl rfl (by kernel_rfl) (fun _ _ _ h => h) (Or.inl ⟨by rfl, ?_⟩) hHeld ?_ ?_
 rotate_left
 ·
  rintro u ⟨s0, s1⟩
  go_simp
  with_reducible rfl
 rotate_left
 ·
  simp only [pz]
  rfl
 refine pure_ (i := 4) (N := some 97) (v := ?_) (a' := ?_) (bm 11 31) rfl rfl (by kernel_rfl) (fun _ _ _ h => h) (Or.inl ⟨by rfl, ?_⟩) ?_ ?_
 rotate_left
 ·
  intro u
  go_simp
  with_reducible rfl
 rotate_left
 ·
  simp only [pz]
  rfl
 refine pure_ (i := 5) (N := some 98) (v := ?_) (a' := ?_) (bm 11 63) rfl rfl (by kernel_rfl) (fun _ _ _ h => h) (Or.inl ⟨by rfl, ?_⟩) ?_ ?_
 rotate_left
 ·
  intro u
  go_simp
  with_reducible rfl
 rotate_left
 ·
  simp only [pz]
  rfl
 refine pure_ (i := 6) (N := some 99) (v := ?_) (a' := ?_) (bm 11 127) rfl rfl (by kernel_rfl) (fun _ _ _ h => h) (Or.inl ⟨by rfl, ?_⟩) ?_ ?_
 rotate_left
 ·
  intro u
  go_simp
  with_reducible rfl
 rotate_left
 ·
  simp only [pz]
  rfl
 refine pure_ (i := 7) (N := some 100) (v := ?_) (a' := ?_) (bm 11 255) rfl rfl (by kernel_rfl) (fun _ _ _ h => h) (Or.inl ⟨by rfl, ?_⟩) ?_ ?_
 rotate_left
 ·
  intro u
  go_simp
  with_reducible rfl
 rotate_left
 ·
  simp only [pz]
  rfl
 refine take_ (i := 8) (N := some 101) (v := ?_) (a' := ?_) (bm 11 511) rfl rfl (by kernel_rfl) (fun _ _ _ h => h) (Or.inl ⟨by rfl, ?_⟩) hHeld ?_ ?_
 rotate_left
 ·
  rintro u ⟨s0, s1⟩
  go_simp
  with_reducible rfl
 rotate_left
 ·
  simp only [pz]
  rfl
 refine pure_ (i := 9) (N := some 102) (v := ?_) (a' := ?_) (bm 11 1023) rfl rfl (by kernel_rfl) (fun _ _ _ h => h) (Or.inl ⟨by rfl, ?_⟩) ?_ ?_
 rotate_left
 ·
  intro u
  go_simp
  with_reducible rfl
 rotate_left
 ·
  simp only [pz]
  rfl
 refine last_ (i := 10) (N := none) (bm 11 2047) rfl rfl (by kernel_rfl) (by decide) (fun K hK => ?_)
 obtain ⟨wi, hrun, hmi, hgi⟩ := HSB.out.drew.hm.put (t := 99) law Try.underlying99 Try.underlying3 (by have := HPL.out; unfold maxLen; omega) (Go.Maps.keyOf_int_mk Try.underlying3 (wf64 HF.out.1 (by have := HF.out.2; omega))) (wf64 (Int.natCast_nonneg cs.length) (by have := HCL.out; omega))
 refine skip_ (w1 := wi) (by rfl) rfl (run_mapUpdate 99 (.tmp 96) (.tmp 97) (.tmp 102) rfl rfl rfl rfl hrun) ?_
 have HSC := am (HSB.out.drew.put hmi hgi)
 clear hrun hmi hgi hHeld g4 g2 HSB
 refine hK.out _ _ ?_
 clear hK K
 refine done_ (by kernel_rfl) ?_
 have g2 : wi.cell? ⟨g, 2, none⟩ = some (.slice Av cs.length cv) := (blk_cell HSC.out.blk 2).trans rfl
 have q1 := (HSC.out.hb.cell (World.block_lt_of_cell? _ _ HQ.out)).trans HQ.out
 go_wp2
 refine start_ (n := 22) (S := fun u => u.cell? ⟨g, 2, none⟩ = some (.slice Av cs.length cv) ∧ u.cell? (ad.add e4.toNat) = some (.int .u8 x)) (ds := [21]) (bm 22 0) (by kernel_rfl) rfl rfl ?_ (fun hHeld => ?_)
 case refine_1 => exact ⟨by go_simp, by go_simp⟩
 refine pure_ (i := 0) (N := some 103) (v := ?_) (a' := ?_) (bm 22 1) rfl rfl (by kernel_rfl) (fun _ _ _ h => h) (Or.inl ⟨by rfl, ?_⟩) ?_ ?_
 rotate_left
 ·
  intro u
  go_simp
  with_reducible rfl
 rotate_left
 ·
  simp only [pz]
  rfl
 refine pure_ (i := 1) (N := some 104) (v := ?_) (a' := ?_) (bm 22 3) rfl rfl (by kernel_rfl) (fun _ _ _ h => h) (Or.inl ⟨by rfl, ?_⟩) ?_ ?_
 rotate_left
 ·
  intro u
  go_simp
  with_reducible rfl
 rotate_left
 ·
  simp only [pz]
  rfl
 refine pure_ (i := 2) (N := some 105) (v := ?_) (a' := ?_) (bm 22 7) rfl rfl (by kernel_rfl) (fun _ _ _ h => h) (Or.inl ⟨by rfl, ?_⟩) ?_ ?_
 rotate_left
 ·
  intro u
  go_simp
  with_reducible rfl
 rotate_left
 ·
  simp only [pz]
  rfl
 refine pure_ (i := 3) (N := some 106) (v := ?_) (a' := ?_) (bm 22 15) rfl rfl (by kernel_rfl) (fun _ _ _ h => h) (Or.inl ⟨by rfl, ?_⟩) ?_ ?_
 rotate_left
 ·
  intro u
  go_simp
  with_reducible rfl
 rotate_left
 ·
  simp only [pz]
  rfl
 refine take_ (i := 4) (N := some 107) (v := ?_) (a' := ?_) (bm 22 31) rfl rfl (by kernel_rfl) (fun _ _ _ h => h) (Or.inl ⟨by rfl, ?_⟩) hHeld ?_ ?_
 rotate_left
 ·
  rintro u ⟨s0, s1⟩
  go_simp
  with_reducible rfl
 rotate_left
 ·
  simp only [pz]
  rfl
 refine pure_ (i := 5) (N := some 108) (v := ?_) (a' := ?_) (bm 22 63) rfl rfl (by kernel_rfl) (fun _ _ _ h => h) (Or.inl ⟨by rfl, ?_⟩) ?_ ?_
 rotate_left
 ·
  intro u
  go_simp
  with_reducible rfl
 rotate_left
 ·
  simp only [pz]
  rfl
 refine pure_ (i := 6) (N := some 109) (v := ?_) (a' := ?_) (bm 22 127) rfl rfl (by kernel_rfl) (fun _ _ _ h => h) (Or.inl ⟨by rfl, ?_⟩) ?_ ?_
 rotate_left
 ·
  intro u
  go_simp
  with_reducible rfl
 rotate_left
 ·
  simp only [pz]
  rfl
 refine pure_ (i := 7) (N := some 110) (v := ?_) (a' := ?_) (bm 22 255) rfl rfl (by kernel_rfl) (fun _ _ _ h => h) (Or.inl ⟨by rfl, ?_⟩) ?_ ?_
 rotate_left
 ·
  intro u
  go_simp
  with_reducible rfl
 rotate_left
 ·
  simp only [pz]
  rfl
 refine take_ (i := 8) (N := some 111) (v := ?_) (a' := ?_) (bm 22 511) rfl rfl (by kernel_rfl) (fun _ _ _ h => h) (Or.inl ⟨by rfl, ?_⟩) hHeld ?_ ?_
 rotate_left
 ·
  rintro u ⟨s0, s1⟩
  go_simp
  with_reducible rfl
 rotate_left
 ·
  simp only [pz]
  rfl
 refine pure_ (i := 9) (N := some 112) (v := ?_) (a' := ?_) (bm 22 1023) rfl rfl (by kernel_rfl) (fun _ _ _ h => h) (Or.inl ⟨by rfl, ?_⟩) ?_ ?_
 rotate_left
 ·
  intro u
  go_simp
  with_reducible rfl
 rotate_left
 ·
  simp only [pz]
  rfl
 refine pure_ (i := 10) (N := some 113) (v := ?_) (a' := ?_) (bm 22 2047) rfl rfl (by kernel_rfl) (fun _ _ _ h => h) (Or.inl ⟨by rfl, ?_⟩) ?_ ?_
 rotate_left
 ·
  intro u
  go_simp
  with_reducible rfl
 rotate_left
 ·
  simp only [pz]
  rfl
 refine pure_ (i := 11) (N := some 114) (v := ?_) (a' := ?_) (bm 22 4095) rfl rfl (by kernel_rfl) (fun _ _ _ h => h) (Or.inl ⟨by rfl, ?_⟩) ?_ ?_
 rotate_left
 ·
  intro u
  go_simp
  with_reducible rfl
 rotate_left
 ·
  simp only [pz]
  rfl
 refine pure_ (i := 12) (N := some 115) (v := ?_) (a' := ?_) (bm 22 8191) rfl rfl (by kernel_rfl) (fun _ _ _ h => h) (Or.inl ⟨by rfl, ?_⟩) ?_ ?_
 rotate_left
 ·
  intro u
  go_simp
  with_reducible rfl
 rotate_left
 ·
  simp only [pz]
  rfl
 refine pure_ (i := 13) (N := some 116) (v := ?_) (a' := ?_) (bm 22 16383) rfl rfl (by kernel_rfl) (fun _ _ _ h => h) (Or.inl ⟨by rfl, ?_⟩) ?_ ?_
 rotate_left
 ·
  intro u
  go_simp
  with_reducible rfl
 rotate_left
 ·
  simp only [pz]
  rfl
 refine pure_ (i := 14) (N := some 117) (v := ?_) (a' := ?_) (bm 22 32767) rfl rfl (by kernel_rfl) (fun _ _ _ h => h) (Or.inl ⟨by rfl, ?_⟩) ?_ ?_
 rotate_left
 ·
  intro u
  go_simp
  with_reducible rfl
 rotate_left
 ·
  simp only [pz]
  rfl
 refine one_ (i := 15) (N := some 118) (bm 22 65535) rfl rfl (by kernel_rfl) (by decide) (fun K hK => ?_)
 refine goes_ Try.func78 (by kernel_rfl) rfl #[.pointer (some ⟨g, 0, none⟩), .slice A5 b5.length c5] (by rfl) rfl rfl (by (try simp only [ml]); first | done | rfl) ?_
 refine (ops_ok _ g A5 c5 b5 (HC5.out _ (Kd.C_below HC.out HSC.out.drew.hb)) HL5.out os HOS.out HOL.out).mono ?_
 rintro e wj ⟨v, rfl, hv, hb⟩
 refine ⟨_, rfl, ?_⟩
 have HSD := am (HSC.out.drew.below hb)
 obtain ⟨Ao, co, rfl⟩ := Kd.R_slice hv
 have HV := am hv
 have HOB := am (show Kd.S k69 69 wj w0.heap.size (fun k => True ∧ ¬ (wi.heap.size ≤ k)) _ _ from Kd.S_mono (Kd.S_below (Kd.S_bound HSC.out.drew.hc) hb) (fun k hk => ⟨trivial, Nat.not_le.2 hk.2.2.1⟩))
 have HSZ := am (show wi.heap.size ≤ wj.heap.size from hb.size)
 have g3 : wj.cell? ⟨g, 2, none⟩ = some (.slice Av cs.length cv) := (blk_cell HSD.out.blk 2).trans rfl
 have q3 := (HSD.out.hb.cell (World.block_lt_of_cell? _ _ HQ.out)).trans HQ.out
 clear hv hb hHeld g2 q1
 refine hK.out _ _ ⟨g3, q3⟩ (fun hHeld => ?_)
 clear hK K
 refine norm_ (a' := ?_) ?_ ?_
 rotate_left
 ·
  show Act.put _ (some 118) _ = _
  simp only [pz]
  rfl
 refine pure_ (i := 16) (N := some 119) (v := ?_) (a' := ?_) (bm 22 131071) rfl rfl (by kernel_rfl) (fun _ _ _ h => h) (Or.inl ⟨by rfl, ?_⟩) ?_ ?_
 rotate_left
 ·
  intro u
  go_simp
  with_reducible rfl
 rotate_left
 ·
  simp only [pz]
  rfl
 refine one_ (i := 17) (N := some 120) (bm 22 262143) rfl rfl (by kernel_rfl) (by decide) (fun K hK => ?_)
 refine value_ (w1 := ?_) (v := ?_) (by rfl) rfl ?_ ?_
 rotate_left 2
 ·
  go_simp
  constructor
  ·
   rfl
  rfl
 refine hK.out _ _ ⟨(World.cell?_alloc_lt _ _ _ (World.block_lt_of_cell? _ _ g3)).trans g3, (World.cell?_alloc_lt _ _ _ (World.block_lt_of_cell? _ _ q3)).trans q3⟩ (fun hHeld => ?_)
 clear hK K
 refine norm_ (a' := ?_) ?_ ?_
 rotate_left
 ·
  show Act.put _ (some 120) _ = _
  simp only [pz]
  rfl
 refine one_ (i := 18) (N := some 121) (bm 22 524287) rfl rfl (by kernel_rfl) (by decide) (fun K hK => ?_)
 refine Kd.S_append_step k69 (w0 := w0) w0.heap.size (by rfl) (.tmp 107) (.tmp 120) 24 69 (.agg #[(.int .i64 0), (.slice none 0 0)]) 32 rfl Try.underlying24 info69 rfl (by decide) (by decide) (.slice Av cs.length cv) cs (⟨x, trim os⟩ : S69) [.int .i64 x, .slice Ao (trim os).length co] (fun _ => True) (fun k => wi.heap.size ≤ k) rfl rfl ?aP ?aK ?aF ?aO ?aB ?aS ?aL ?_
 case aP => exact k69_mkM _ _ _ _ (Kd.R_lower (Kd.R_mono (Kd.R_bound HV.out) (fun k hk => hk.2.1)) HSC.out.base)
 case aK => exact fun k hk => ⟨trivial, fun e => absurd (Kd.S_lt HSC.out.hc k e.symm) (Nat.not_lt.2 hk)⟩
 case aF => exact fun _ _ => trivial
 case aO => exact HOB.out
 case aB => exact HSD.out.hb
 case aS => exact HSD.out.base
 case aL => have := HCL.out; omega
 intro v1 wk hN hbk hg hat
 obtain ⟨A1, cp1, rfl⟩ := Kd.S_slice hN
 have hfin := HSD.out.putC hN hg
 have HFIN := am hfin
 have hbl : Cells wk g m A0 n0 c0 addr (.slice Av cs.length cv) vf := blk_grown HSD.out.blk hg (fun e => Kd.S_ne HSD.out.hc HSD.out.blk (by decide) e)
 have g5 : wk.cell? ⟨g, 2, none⟩ = some (.slice Av cs.length cv) := (blk_cell hbl 2).trans rfl
 have g6 := blk_frozen hbl 2
 have q5 := (hbk.cell (World.block_lt_of_cell? _ _ HQ.out)).trans HQ.out
 clear hN hbk hg hat hfin hbl g3 q3
 refine hK.out _ _ ⟨g5, q5⟩ (fun hHeld => ?_)
 clear hK K
 refine norm_ (a' := ?_) ?_ ?_
 rotate_left
 ·
  show Act.put _ (some 121) _ = _
  simp only [pz]
  rfl
 refine pure_ (i := 19) (N := some 122) (v := ?_) (a' := ?_) (bm 22 1048575) rfl rfl (by kernel_rfl) (fun _ _ _ h => h) (Or.inl ⟨by rfl, ?_⟩) ?_ ?_
 rotate_left
 ·
  intro u
  go_simp
  with_reducible rfl
 rotate_left
 ·
  simp only [pz]
  rfl
 refine pure_ (i := 20) (N := some 123) (v := ?_) (a' := ?_) (bm 22 2097151) rfl rfl (by kernel_rfl) (fun _ _ _ h => h) (Or.inl ⟨by rfl, ?_⟩) ?_ ?_
 rotate_left
 ·
  intro u
  go_simp
  with_reducible rfl
 rotate_left
 ·
  simp only [pz]
  rfl
 refine last_ (i := 21) (N := none) (bm 22 4194303) rfl rfl (by kernel_rfl) (by decide) (fun K hK => ?_)
 rw [if_pos (by rfl)]
 go_simp
 refine hK.out _ _ ?_
 clear hK K
 refine done_ (by kernel_rfl) ?_
 go_wp2
 go_end0
 have hq := HFIN.out
 rw [show (cs ++ [(⟨x, trim os⟩ : S69)]).length = cs.length + 1 by simp] at hq
 exact ⟨rfl, _, _, hq⟩
section
variable {w0 w w1 : World} {g m : Nat} {A0 : Option Addr} {n0 c0 : Nat} {addr : Int} {cs : List S69} {fs : List S46} {pm : List (Int × Int)} {vc vf v1 : Value}
/-- another list of functions' entries in its cell -/
theorem StV.putF (h : StV w0 w g m A0 n0 c0 addr cs fs pm vc vf) {fs' : List S46} (hN : Kd.S k46 46 w1 w0.heap.size (fun _ => True) v1 fs') (hg : w.grownBy w1 vf.ownBlock) : StV w0 (w1.setCell ⟨g, 3, none⟩ v1) g m A0 n0 c0 addr cs fs' pm vc v1 := by
 have hty := Kd.S_typed h.hf
 have hblk : Cells w1 g m A0 n0 c0 addr vc vf := blk_grown h.blk hg (fun e => Kd.S_ne h.hf h.blk (by decide) e)
 have hm1 : MapF Try.prog 3 3 w1 m pm.length (intF pm) := h.hm.over hty hg
 have hsz : (w1.setCell ⟨g, 3, none⟩ v1).heap.size = w1.heap.size := by simp [World.setCell]
 have hgs : w1.grownBy (w1.setCell ⟨g, 3, none⟩ v1) (some g) := ⟨rfl, rfl, rfl, by rw [hsz]; exact Nat.le_refl _, fun k _ hk => Below.heap_setCell w1 _ _ k (fun e => hk (by rw [e]))⟩
 have hF1 := Kd.S_over' h.hc hty (by decide) hg
 exact {
   blk := blk_put hblk 3 v1 (by rfl)
   hf := Kd.S_set hN hblk (by decide) _ _
   hc := Kd.S_set hF1 hblk (by decide) _ _
   hm := hm1.kept hgs (fun e => h.ne (Option.some.inj e))
   lg := h.lg
   lm := h.lm
   ne := h.ne
   hb := (h.hb.grown hg h.base (Kd.S_base h.hf)).setCell h.lg _ }
end
set_option maxHeartbeats 4000000 in
theorem fde_ok (w0 w : World) (g m : Nat) (A0 : Option Addr) (n0 c0 : Nat) (addr : Int) (cs : List S69) (fs : List S46) (pm : List (Int × Int)) (h : St w0 w g m A0 n0 c0 addr cs fs pm)
    (A : Option Addr) (c : Nat) (b : List Int) (hC : Kd.C (Kd.int .u8) w0 A b.length b) (hc : b.length ≤ c) (place id q kq : Int) (hq : wrap64 (place - id) = q) (hqr : -9223372036854775808 ≤ q ∧ q ≤ 9223372036854775807) (hl : lookI pm q = some kq) (hk0 : 0 ≤ kq) (hk1 : kq < cs.length) (enc e15 : Int) (he : (rd_T69 cs kq).f0 = enc) (he15 : Go.bits .and .i64 enc 15 = e15)
    (k : Nat) (begin_ size e1 e2 e3 ap : Int) (hap : wrap64 (addr + place) = ap) (u1 : ehframe_Get.f k b 4 enc ap 0 = some (begin_, e1, 0)) (u2 : ehframe_Get.f k b e1 e15 0 0 = some (size, e2, 0)) (u3 : leb_ReadUleb.f b e2 = some (0, e3, 0)) (h4 : 0 ≤ e3) (h5 : e3 ≤ b.length)
    (os : List S105) (hos : cfa_Read.f (b.drop e3.toNat) = some (os, 0)) (hol : os.length ≤ 100000) (hfl : fs.length ≤ 2097152) :
    Calls Try.prog 57 #[.pointer (some ⟨g, 0, none⟩), .slice A b.length c, .int .i64 place, .int .i64 id] w fun e w' => e = .returned (.tuple #[]) ∧ St w0 w' g m A0 n0 c0 addr cs (fs ++ [⟨kq, begin_, size, trim os⟩]) pm := by
 obtain ⟨vc, vf, hst⟩ := h
 have HST := am hst
 have HC := am hC
 have HCC := am hc
 have U1 := am u1
 have U2 := am u2
 have U3 := am u3
 have HOL := am hol
 have HFL := am hfl
 have hqi : IntKind.i64.wrap (place - id) = q := by rw [i64_w]; exact hq
 have hapi : IntKind.i64.wrap (addr + place) = ap := by rw [i64_w]; exact hap
 obtain ⟨A5, c5, hl5, hcut5, hC5⟩ := cut_from1 A c b e3 e3.toNat (by omega) (by omega) hc
 obtain ⟨b5, hb5⟩ : ∃ l, b.drop e3.toNat = l := ⟨_, rfl⟩
 rw [hb5] at hl5 hcut5 hC5 hos
 have HOS := am hos
 have HC5 := am hC5
 have HL5 := am hl5
 obtain ⟨Av, cv, rfl⟩ := Kd.S_slice hst.hc
 obtain ⟨Af, cf, rfl⟩ := Kd.S_slice hst.hf
 have g4 : w.cell? ⟨g, 4, none⟩ = some (.map (some m)) := (blk_cell hst.blk 4).trans rfl
 have hlook : (Instr.lookup 99 (.map (some m)) (.int .i64 q) true).run Try.prog w = .ok (.tuple #[.int .i64 kq, .bool true]) w := by
  have hz : (zeroValue 3).run Try.prog w = .ok (.int .i64 0) w := by kernel_rfl
  have h1 := hst.hm.look_ok (t := 99) law Try.underlying99 Try.underlying3 hz (Go.Maps.keyOf_int_mk Try.underlying3 (a := q) (by simp [Lit.wf, IntKind.min, IntKind.max, IntKind.signed, IntKind.bits]; omega))
  rw [h1]
  simp only [intF, hl, Option.getD_some, Option.isSome_some]
 have HK0 := am hk0
 have HK1 := am hk1
 have HE := am he
 clear hst hC hc u1 u2 u3 hos hol hfl hC5 hl5 hb5 hk0 hk1 he h4 h5 hqr hl
 go_enter Try.func57, Try.ntmps57
 go_wp2_with fail
 refine (fail_no g _).mono ?_
 rintro e wf ⟨rfl, hwf⟩
 subst hwf
 clear hlook g4
 have g2 : wf.cell? ⟨g, 2, none⟩ = some (.slice Av cs.length cv) := (blk_cell HST.out.blk 2).trans rfl
 have g1 : wf.cell? ⟨g, 1, none⟩ = some (.int .i64 addr) := (blk_cell HST.out.blk 1).trans rfl
 obtain ⟨ad, A9, c9, rfl, hx0, hx1, -, -⟩ := at_T69 (Kd.S_reads' HST.out.hc).2.2 kq HK0.out HK1.out
 rw [HE.out] at hx0
 clear hx1
 have p1 := eq_true HK0.out
 have p2 := eq_true HK1.out
 go_wp2_with fail
 refine (ehframe_Get.calls k A c b 4 enc ap 0 begin_ e1 0 _ (Kd.C_below HC.out HST.out.hb) HCC.out U1.out).mono ?_
 rintro e wa ⟨rfl, hb⟩
 have HSB := am (HST.out.below hb)
 clear hb hx0 g2 g1
 go_wp2_with fail
 refine (fail_no g _).mono ?_
 rintro e wf ⟨rfl, hwf⟩
 subst hwf
 go_wp2_with fail
 refine (ehframe_Get.calls k A c b e1 e15 0 0 size e2 0 _ (Kd.C_below HC.out HSB.out.hb) HCC.out U2.out).mono ?_
 rintro e wb ⟨rfl, hb⟩
 have HSC := am (HSB.out.below hb)
 clear hb HSB
 go_wp2_with fail
 refine (fail_no g _).mono ?_
 rintro e wf ⟨rfl, hwf⟩
 subst hwf
 go_wp2_with fail
 refine (uleb_ok _ g A c b (Kd.C_below HC.out HSC.out.hb) HCC.out e2 0 e3 U3.out).mono ?_
 rintro e wc ⟨rfl, hb⟩
 have HSB := am (HSC.out.below hb)
 clear hb HSC
 go_wp2_with fail
 refine (fail_no g _).mono ?_
 rintro e wi ⟨rfl, hwf⟩
 subst hwf
 have g2 : wi.cell? ⟨g, 3, none⟩ = some (.slice Af fs.length cf) := (blk_cell HSB.out.blk 3).trans rfl
 go_wp2
 refine start_ (n := 19) (S := fun u => u.cell? ⟨g, 3, none⟩ = some (.slice Af fs.length cf)) (ds := [18]) (bm 19 0) (by kernel_rfl) rfl rfl ?_ (fun hHeld => ?_)
 case refine_1 => exact (by go_simp)
 refine pure_ (i := 0) (N := some 80) (v := ?_) (a' := ?_) (bm 19 1) rfl rfl (by kernel_rfl) (fun _ _ _ h => h) (Or.inl ⟨by rfl, ?_⟩) ?_ ?_
 rotate_left
 ·
  intro u
  go_simp
  with_reducible rfl
 rotate_left
 ·
  simp only [pz]
  rfl
 refine pure_ (i := 1) (N := some 81) (v := ?_) (a' := ?_) (bm 19 3) rfl rfl (by kernel_rfl) (fun _ _ _ h => h) (Or.inl ⟨by rfl, ?_⟩) ?_ ?_
 rotate_left
 ·
  intro u
  go_simp
  with_reducible rfl
 rotate_left
 ·
  simp only [pz]
  rfl
 refine pure_ (i := 2) (N := some 82) (v := ?_) (a' := ?_) (bm 19 7) rfl rfl (by kernel_rfl) (fun _ _ _ h => h) (Or.inl ⟨by rfl, ?_⟩) ?_ ?_
 rotate_left
 ·
  intro u
  go_simp
  with_reducible rfl
 rotate_left
 ·
  simp only [pz]
  rfl
 refine pure_ (i := 3) (N := some 83) (v := ?_) (a' := ?_) (bm 19 15) rfl rfl (by kernel_rfl) (fun _ _ _ h => h) (Or.inl ⟨by rfl, ?_⟩) ?_ ?_
 rotate_left
 ·
  intro u
  go_simp
  with_reducible rfl
 rotate_left
 ·
  simp only [pz]
  rfl
 refine take_ (i := 4) (N := some 84) (v := ?_) (a' := ?_) (bm 19 31) rfl rfl (by kernel_rfl) (fun _ _ _ h => h) (Or.inl ⟨by rfl, ?_⟩) hHeld ?_ ?_
 rotate_left
 ·
  rintro u s0
  go_simp
  with_reducible rfl
 rotate_left
 ·
  simp only [pz]
  rfl
 refine pure_ (i := 5) (N := some 85) (v := ?_) (a' := ?_) (bm 19 63) rfl rfl (by kernel_rfl) (fun _ _ _ h => h) (Or.inl ⟨by rfl, ?_⟩) ?_ ?_
 rotate_left
 ·
  intro u
  go_simp
  with_reducible rfl
 rotate_left
 ·
  simp only [pz]
  rfl
 refine pure_ (i := 6) (N := some 86) (v := ?_) (a' := ?_) (bm 19 127) rfl rfl (by kernel_rfl) (fun _ _ _ h => h) (Or.inl ⟨by rfl, ?_⟩) ?_ ?_
 rotate_left
 ·
  intro u
  go_simp
  with_reducible rfl
 rotate_left
 ·
  simp only [pz]
  rfl
 refine pure_ (i := 7) (N := some 87) (v := ?_) (a' := ?_) (bm 19 255) rfl rfl (by kernel_rfl) (fun _ _ _ h => h) (Or.inl ⟨by rfl, ?_⟩) ?_ ?_
 rotate_left
 ·
  intro u
  go_simp
  with_reducible rfl
 rotate_left
 ·
  simp only [pz]
  rfl
 refine pure_ (i := 8) (N := some 88) (v := ?_) (a' := ?_) (bm 19 511) rfl rfl (by kernel_rfl) (fun _ _ _ h => h) (Or.inl ⟨by rfl, ?_⟩) ?_ ?_
 rotate_left
 ·
  intro u
  go_simp
  with_reducible rfl
 rotate_left
 ·
  simp only [pz]
  rfl
 refine pure_ (i := 9) (N := some 89) (v := ?_) (a' := ?_) (bm 19 1023) rfl rfl (by kernel_rfl) (fun _ _ _ h => h) (Or.inl ⟨by rfl, ?_⟩) ?_ ?_
 rotate_left
 ·
  intro u
  go_simp
  with_reducible rfl
 rotate_left
 ·
  simp only [pz]
  rfl
 refine pure_ (i := 10) (N := some 90) (v := ?_) (a' := ?_) (bm 19 2047) rfl rfl (by kernel_rfl) (fun _ _ _ h => h) (Or.inl ⟨by rfl, ?_⟩) ?_ ?_
 rotate_left
 ·
  intro u
  go_simp
  with_reducible rfl
 rotate_left
 ·
  simp only [pz]
  rfl
 refine pure_ (i := 11) (N := some 91) (v := ?_) (a' := ?_) (bm 19 4095) rfl rfl (by kernel_rfl) (fun _ _ _ h => h) (Or.inl ⟨by rfl, ?_⟩) ?_ ?_
 rotate_left
 ·
  intro u
  go_simp
  with_reducible rfl
 rotate_left
 ·
  simp only [pz]
  rfl
 refine one_ (i := 12) (N := some 92) (bm 19 8191) rfl rfl (by kernel_rfl) (by decide) (fun K hK => ?_)
 refine goes_ Try.func78 (by kernel_rfl) rfl #[.pointer (some ⟨g, 0, none⟩), .slice A5 b5.length c5] (by rfl) rfl rfl (by (try simp only [ml]); first | done | rfl) ?_
 refine (ops_ok _ g A5 c5 b5 (HC5.out _ (Kd.C_below HC.out HSB.out.drew.hb)) HL5.out os HOS.out HOL.out).mono ?_
 rintro e wj ⟨v, rfl, hv, hb⟩
 refine ⟨_, rfl, ?_⟩
 have HSD := am (HSB.out.drew.below hb)
 obtain ⟨Ao, co, rfl⟩ := Kd.R_slice hv
 have HV := am hv
 have HOB := am (show Kd.S k46 46 wj w0.heap.size (fun k => True ∧ ¬ (wi.heap.size ≤ k)) _ _ from Kd.S_mono (Kd.S_below (Kd.S_bound HSB.out.drew.hf) hb) (fun k hk => ⟨trivial, Nat.not_le.2 hk.2.2.1⟩))
 have HSZ := am (show wi.heap.size ≤ wj.heap.size from hb.size)
 have g3 : wj.cell? ⟨g, 3, none⟩ = some (.slice Af fs.length cf) := (blk_cell HSD.out.blk 3).trans rfl
 clear hv hb hHeld g2
 refine hK.out _ _ g3 (fun hHeld => ?_)
 clear hK K
 refine norm_ (a' := ?_) ?_ ?_
 rotate_left
 ·
  show Act.put _ (some 92) _ = _
  simp only [pz]
  rfl
 refine pure_ (i := 13) (N := some 93) (v := ?_) (a' := ?_) (bm 19 16383) rfl rfl (by kernel_rfl) (fun _ _ _ h => h) (Or.inl ⟨by rfl, ?_⟩) ?_ ?_
 rotate_left
 ·
  intro u
  go_simp
  with_reducible rfl
 rotate_left
 ·
  simp only [pz]
  rfl
 refine one_ (i := 14) (N := some 94) (bm 19 32767) rfl rfl (by kernel_rfl) (by decide) (fun K hK => ?_)
 refine value_ (w1 := ?_) (v := ?_) (by rfl) rfl ?_ ?_
 rotate_left 2
 ·
  go_simp
  constructor
  ·
   rfl
  rfl
 refine hK.out _ _ ((World.cell?_alloc_lt _ _ _ (World.block_lt_of_cell? _ _ g3)).trans g3) (fun hHeld => ?_)
 clear hK K
 refine norm_ (a' := ?_) ?_ ?_
 rotate_left
 ·
  show Act.put _ (some 94) _ = _
  simp only [pz]
  rfl
 refine one_ (i := 15) (N := some 95) (bm 19 65535) rfl rfl (by kernel_rfl) (by decide) (fun K hK => ?_)
 refine Kd.S_append_step k46 (w0 := w0) w0.heap.size (by rfl) (.tmp 84) (.tmp 94) 25 46 (.agg #[(.int .i64 0), (.int .i64 0), (.int .i64 0), (.slice none 0 0)]) 48 rfl Try.underlying25 info46 rfl (by decide) (by decide) (.slice Af fs.length cf) fs (⟨kq, begin_, size, trim os⟩ : S46) [.int .i64 kq, .int .i64 begin_, .int .i64 size, .slice Ao (trim os).length co] (fun _ => True) (fun k => wi.heap.size ≤ k) rfl rfl ?aP ?aK ?aF ?aO ?aB ?aS ?aL ?_
 case aP => exact k46_mkM _ _ _ _ (Kd.R_lower (Kd.R_mono (Kd.R_bound HV.out) (fun k hk => hk.2.1)) HSB.out.base)
 case aK => exact fun k hk => ⟨trivial, fun e => absurd (Kd.S_lt HSB.out.hf k e.symm) (Nat.not_lt.2 hk)⟩
 case aF => exact fun _ _ => trivial
 case aO => exact HOB.out
 case aB => exact HSD.out.hb
 case aS => exact HSD.out.base
 case aL => have := HFL.out; omega
 intro v1 wk hN hbk hg hat
 obtain ⟨A1, cp1, rfl⟩ := Kd.S_slice hN
 have hfin := HSD.out.putF hN hg
 have HFIN := am hfin
 have hbl : Cells wk g m A0 n0 c0 addr (.slice (some ad) cs.length cv) (.slice Af fs.length cf) := blk_grown HSD.out.blk hg (fun e => Kd.S_ne HSD.out.hf HSD.out.blk (by decide) e)
 have g5 : wk.cell? ⟨g, 3, none⟩ = some (.slice Af fs.length cf) := (blk_cell hbl 3).trans rfl
 have g6 := blk_frozen hbl 3
 clear hN hbk hg hat hfin hbl g3
 refine hK.out _ _ g5 (fun hHeld => ?_)
 clear hK K
 refine norm_ (a' := ?_) ?_ ?_
 rotate_left
 ·
  show Act.put _ (some 95) _ = _
  simp only [pz]
  rfl
 refine pure_ (i := 16) (N := some 96) (v := ?_) (a' := ?_) (bm 19 131071) rfl rfl (by kernel_rfl) (fun _ _ _ h => h) (Or.inl ⟨by rfl, ?_⟩) ?_ ?_
 rotate_left
 ·
  intro u
  go_simp
  with_reducible rfl
 rotate_left
 ·
  simp only [pz]
  rfl
 refine pure_ (i := 17) (N := some 97) (v := ?_) (a' := ?_) (bm 19 262143) rfl rfl (by kernel_rfl) (fun _ _ _ h => h) (Or.inl ⟨by rfl, ?_⟩) ?_ ?_
 rotate_left
 ·
  intro u
  go_simp
  with_reducible rfl
 rotate_left
 ·
  simp only [pz]
  rfl
 refine last_ (i := 18) (N := none) (bm 19 524287) rfl rfl (by kernel_rfl) (by decide) (fun K hK => ?_)
 rw [if_pos (by rfl)]
 go_simp
 refine hK.out _ _ ?_
 clear hK K
 refine done_ (by kernel_rfl) ?_
 go_wp2
 go_end0
 have hq := HFIN.out
 rw [show (fs ++ [(⟨kq, begin_, size, trim os⟩ : S46)]).length = fs.length + 1 by simp] at hq
 exact ⟨rfl, _, _, hq⟩
end Go.Proofs.Ytfgfnflhdabmcaa.EhRd
end
