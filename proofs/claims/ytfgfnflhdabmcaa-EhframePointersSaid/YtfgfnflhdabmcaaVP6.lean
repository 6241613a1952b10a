/- Lemmas and contracts, one text behind the other: what the row of this claim needs; no conditions beyond those that each theorem names. -/
import Derived.Laws.EntriesVeiled
import Derived.Lib.Hide
import Derived.Test.YtfgfnflhdabmcaaVP5
section
namespace Go.Proofs.Ytfgfnflhdabmcaa.G
open Go.RowKit Go.Proofs.YtfgfnflhdabmcaaW.PrintWords Go.Proofs.YtfgfnflhdabmcaaW.PrintLast Go.Proofs.YtfgfnflhdabmcaaW.PrintMore
attribute [local go_sem] max2_int min2_int max_two min_two max_three min_three max_four min_four   -- for this text's walks alone
set_option linter.unusedVariables false
set_option linter.unusedSimpArgs false
def leb_ReadSleb_1.f (k : Nat) (l0 : List Int) : Option (Int × Bool) := (leb_joined.f k l0).bind fun t101 => (if (wrap64 (7 * (l0.length : Int))) < 64 then (if 0 ≤ (wrap64 ((wrap64 (7 * (l0.length : Int))) - 1)) then (if (Go.bits .and .u64 (shr .u64 t101 (wrap64 ((wrap64 (7 * (l0.length : Int))) - 1))) 1) = 1 then (if 0 ≤ (wrap64 (7 * (l0.length : Int))) then (if (l0.length : Int) < 10 then (some (wrap64 (Go.bits .or .u64 t101 (shl .u64 18446744073709551615 (wrap64 (7 * (l0.length : Int))))), true)) else (if 9 < (l0.length : Int) then (if (rd l0 9) = 0 then (some (wrap64 (Go.bits .or .u64 t101 (shl .u64 18446744073709551615 (wrap64 (7 * (l0.length : Int))))), true)) else (some (wrap64 (Go.bits .or .u64 t101 (shl .u64 18446744073709551615 (wrap64 (7 * (l0.length : Int))))), ((rd l0 9) == 127)))) else (none))) else (none)) else (if (l0.length : Int) < 10 then (some (wrap64 (t101), true)) else (if 9 < (l0.length : Int) then (if (rd l0 9) = 0 then (some (wrap64 (t101), true)) else (some (wrap64 (t101), ((rd l0 9) == 127)))) else (none)))) else (none)) else (if (l0.length : Int) < 10 then (some (wrap64 (t101), true)) else (if 9 < (l0.length : Int) then (if (rd l0 9) = 0 then (some (wrap64 (t101), true)) else (some (wrap64 (t101), ((rd l0 9) == 127)))) else (none))))
set_option maxHeartbeats 8000000 in
set_option maxRecDepth 100000 in
theorem leb_ReadSleb_1.calls (k : Nat) (A0 : Option Addr) (c0 : Nat) (l0 : List Int) (r1 : Int) (r2 : Bool) (w : World) (hr0 : Kd.C (Kd.int .u8) w A0 l0.length l0) (hc0 : l0.length ≤ c0) (h : leb_ReadSleb_1.f k l0 = some (r1, r2)) :
  Calls Try.prog 69 #[.slice A0 l0.length c0] w fun e w' => e = .returned (.tuple #[.int .i64 r1, .bool r2]) ∧ Drawn0 w w' := by
 have HR0 := am hr0
 have HC0 := am hc0
 clear hr0 hc0
 have H : ((leb_joined.f k l0).bind fun t101 => (if (wrap64 (7 * (l0.length : Int))) < 64 then (if 0 ≤ (wrap64 ((wrap64 (7 * (l0.length : Int))) - 1)) then (if (Go.bits .and .u64 (shr .u64 t101 (wrap64 ((wrap64 (7 * (l0.length : Int))) - 1))) 1) = 1 then (if 0 ≤ (wrap64 (7 * (l0.length : Int))) then (if (l0.length : Int) < 10 then (some (wrap64 (Go.bits .or .u64 t101 (shl .u64 18446744073709551615 (wrap64 (7 * (l0.length : Int))))), true)) else (if 9 < (l0.length : Int) then (if (rd l0 9) = 0 then (some (wrap64 (Go.bits .or .u64 t101 (shl .u64 18446744073709551615 (wrap64 (7 * (l0.length : Int))))), true)) else (some (wrap64 (Go.bits .or .u64 t101 (shl .u64 18446744073709551615 (wrap64 (7 * (l0.length : Int))))), ((rd l0 9) == 127)))) else (none))) else (none)) else (if (l0.length : Int) < 10 then (some (wrap64 (t101), true)) else (if 9 < (l0.length : Int) then (if (rd l0 9) = 0 then (some (wrap64 (t101), true)) else (some (wrap64 (t101), ((rd l0 9) == 127)))) else (none)))) else (none)) else (if (l0.length : Int) < 10 then (some (wrap64 (t101), true)) else (if 9 < (l0.length : Int) then (if (rd l0 9) = 0 then (some (wrap64 (t101), true)) else (some (wrap64 (t101), ((rd l0 9) == 127)))) else (none))))) = some (r1, r2) := h
 clear h
 replace H := Option.bind_eq_some_iff.mp H
 obtain ⟨t101, A20, H⟩ := H
 replace H : (if (wrap64 (7 * (l0.length : Int))) < 64 then (if 0 ≤ (wrap64 ((wrap64 (7 * (l0.length : Int))) - 1)) then (if (Go.bits .and .u64 (shr .u64 t101 (wrap64 ((wrap64 (7 * (l0.length : Int))) - 1))) 1) = 1 then (if 0 ≤ (wrap64 (7 * (l0.length : Int))) then (if (l0.length : Int) < 10 then (some (wrap64 (Go.bits .or .u64 t101 (shl .u64 18446744073709551615 (wrap64 (7 * (l0.length : Int))))), true)) else (if 9 < (l0.length : Int) then (if (rd l0 9) = 0 then (some (wrap64 (Go.bits .or .u64 t101 (shl .u64 18446744073709551615 (wrap64 (7 * (l0.length : Int))))), true)) else (some (wrap64 (Go.bits .or .u64 t101 (shl .u64 18446744073709551615 (wrap64 (7 * (l0.length : Int))))), ((rd l0 9) == 127)))) else (none))) else (none)) else (if (l0.length : Int) < 10 then (some (wrap64 (t101), true)) else (if 9 < (l0.length : Int) then (if (rd l0 9) = 0 then (some (wrap64 (t101), true)) else (some (wrap64 (t101), ((rd l0 9) == 127)))) else (none)))) else (none)) else (if (l0.length : Int) < 10 then (some (wrap64 (t101), true)) else (if 9 < (l0.length : Int) then (if (rd l0 9) = 0 then (some (wrap64 (t101), true)) else (some (wrap64 (t101), ((rd l0 9) == 127)))) else (none)))) = some (r1, r2) := H
 have A2 := am A20
 clear A20
 by_cases c3 : (wrap64 (7 * (l0.length : Int))) < 64
 ·
  rw [if_pos c3] at H
  have c3b0 : decide ((wrap64 (7 * (l0.length : Int))) < 64) = true := decide_eq_true c3
  clear c3
  obtain ⟨ji4, hji4⟩ : ∃ j_ : Int, (wrap64 ((wrap64 (7 * (l0.length : Int))) - 1)) = j_ := ⟨_, rfl⟩
  replace H : (if 0 ≤ (ji4) then (if (Go.bits .and .u64 (shr .u64 t101 (ji4)) 1) = 1 then (if 0 ≤ (wrap64 (7 * (l0.length : Int))) then (if (l0.length : Int) < 10 then (some (wrap64 (Go.bits .or .u64 t101 (shl .u64 18446744073709551615 (wrap64 (7 * (l0.length : Int))))), true)) else (if 9 < (l0.length : Int) then (if (rd l0 9) = 0 then (some (wrap64 (Go.bits .or .u64 t101 (shl .u64 18446744073709551615 (wrap64 (7 * (l0.length : Int))))), true)) else (some (wrap64 (Go.bits .or .u64 t101 (shl .u64 18446744073709551615 (wrap64 (7 * (l0.length : Int))))), ((rd l0 9) == 127)))) else (none))) else (none)) else (if (l0.length : Int) < 10 then (some (wrap64 (t101), true)) else (if 9 < (l0.length : Int) then (if (rd l0 9) = 0 then (some (wrap64 (t101), true)) else (some (wrap64 (t101), ((rd l0 9) == 127)))) else (none)))) else (none)) = some (r1, r2) := by first | (rw [hji4] at H; exact H) | (simp only [hji4] at H ⊢; exact H)
  (try rw [hji4] at A2)
  have hji4w : (IntKind.i64.wrap ((wrap64 (7 * (l0.length : Int))) - 1)) = ji4 := (i64_w _).trans hji4
  by_cases c5 : 0 ≤ (ji4)
  ·
   rw [if_pos c5] at H
   have c5b0 := eq_true c5
   have c5b1 : decide (0 ≤ (ji4)) = true := decide_eq_true c5
   clear c5
   obtain ⟨ji6, hji6⟩ : ∃ j_ : Int, (shr .u64 t101 (ji4)) = j_ := ⟨_, rfl⟩
   replace H : (if (Go.bits .and .u64 (ji6) 1) = 1 then (if 0 ≤ (wrap64 (7 * (l0.length : Int))) then (if (l0.length : Int) < 10 then (some (wrap64 (Go.bits .or .u64 t101 (shl .u64 18446744073709551615 (wrap64 (7 * (l0.length : Int))))), true)) else (if 9 < (l0.length : Int) then (if (rd l0 9) = 0 then (some (wrap64 (Go.bits .or .u64 t101 (shl .u64 18446744073709551615 (wrap64 (7 * (l0.length : Int))))), true)) else (some (wrap64 (Go.bits .or .u64 t101 (shl .u64 18446744073709551615 (wrap64 (7 * (l0.length : Int))))), ((rd l0 9) == 127)))) else (none))) else (none)) else (if (l0.length : Int) < 10 then (some (wrap64 (t101), true)) else (if 9 < (l0.length : Int) then (if (rd l0 9) = 0 then (some (wrap64 (t101), true)) else (some (wrap64 (t101), ((rd l0 9) == 127)))) else (none)))) = some (r1, r2) := by first | (rw [hji6] at H; exact H) | (simp only [hji6] at H ⊢; exact H)
   (try rw [hji6] at A2)
   have hji6_ : (t101 / 2 ^ min (ji4).toNat 64) = ji6 := hji6
   have hji6z : (ji4) ≤ 64 → (t101 / 2 ^ (ji4).toNat) = ji6 := shr_small hji6
   by_cases c7 : (Go.bits .and .u64 (ji6) 1) = 1
   ·
    rw [if_pos c7] at H
    have c7b0 : ((Go.bits .and .u64 (ji6) 1) == 1) = true := beq_iff_eq.mpr c7
    have c7b1 : ((Go.bits .and .u64 (ji6) 1) != 1) = false := bne_eq_false_iff_eq.mpr c7
    clear c7
    obtain ⟨ji8, hji8⟩ : ∃ j_ : Int, (wrap64 (7 * (l0.length : Int))) = j_ := ⟨_, rfl⟩
    replace H : (if 0 ≤ (ji8) then (if (l0.length : Int) < 10 then (some (wrap64 (Go.bits .or .u64 t101 (shl .u64 18446744073709551615 (ji8))), true)) else (if 9 < (l0.length : Int) then (if (rd l0 9) = 0 then (some (wrap64 (Go.bits .or .u64 t101 (shl .u64 18446744073709551615 (ji8))), true)) else (some (wrap64 (Go.bits .or .u64 t101 (shl .u64 18446744073709551615 (ji8))), ((rd l0 9) == 127)))) else (none))) else (none)) = some (r1, r2) := by first | (rw [hji8] at H; exact H) | (simp only [hji8] at H ⊢; exact H)
    (try rw [hji8] at c3b0)
    (try rw [hji8] at A2)
    have hji8w : (IntKind.i64.wrap (7 * (l0.length : Int))) = ji8 := (i64_w _).trans hji8
    (try (have hji8ji4 : (wrap64 (ji8 - 1)) = ji4 := by (rw [← hji8]; exact hji4)))
    (try (have hji8ji4w : (IntKind.i64.wrap (ji8 - 1)) = ji4 := (i64_w _).trans hji8ji4))
    by_cases c9 : 0 ≤ (ji8)
    ·
     rw [if_pos c9] at H
     have c9b0 := eq_true c9
     have c9b1 : decide (0 ≤ (ji8)) = true := decide_eq_true c9
     clear c9
     obtain ⟨ji10, hji10⟩ : ∃ j_ : Int, (shl .u64 18446744073709551615 (ji8)) = j_ := ⟨_, rfl⟩
     replace H : (if (l0.length : Int) < 10 then (some (wrap64 (Go.bits .or .u64 t101 (ji10)), true)) else (if 9 < (l0.length : Int) then (if (rd l0 9) = 0 then (some (wrap64 (Go.bits .or .u64 t101 (ji10)), true)) else (some (wrap64 (Go.bits .or .u64 t101 (ji10)), ((rd l0 9) == 127)))) else (none))) = some (r1, r2) := by first | (rw [hji10] at H; exact H) | (simp only [hji10] at H ⊢; exact H)
     (try rw [hji10] at A2)
     have hji10_ : (IntKind.u64.wrap (18446744073709551615 * 2 ^ min (ji8).toNat 64)) = ji10 := hji10
     have hji10z : (ji8) ≤ 64 → (IntKind.u64.wrap (18446744073709551615 * 2 ^ (ji8).toNat)) = ji10 := shl_small hji10
     by_cases c11 : (l0.length : Int) < 10
     ·
      rw [if_pos c11] at H
      have c11b0 : decide ((l0.length : Int) < 10) = true := decide_eq_true c11
      have c11b1 : decide (l0.length < 10) = true := decide_eq_true (by omega)
      clear c11
      simp only [Option.some.injEq, Prod.mk.injEq] at H
      obtain ⟨rfl, rfl⟩ := H
      go_enter Try.func69, Try.ntmps69
      go_wp2_with (first | (go_at_call 70; (with_reducible refine (leb_joined.calls k _ _ l0 t101 _ ?side1 ?side2 A2.out).mono ?_); (case side1 => exact Kd.C_o HR0.out); (case side2 => exact HC0.out); rintro e w' ⟨rfl, ⟨nd, rfl⟩⟩; (try first | exact ⟨rfl, _, World.drewN_drewN _ _ _⟩ | exact ⟨rfl, _, Eq.trans (World.drewN_drewN _ _ _) (congrArg (World.drewN _) (Nat.add_assoc _ _ _))⟩)))
      repeat (go_quiet (first | (go_at_call 70; (with_reducible refine (leb_joined.calls k _ _ l0 t101 _ ?side1 ?side2 A2.out).mono ?_); (case side1 => exact Kd.C_o HR0.out); (case side2 => exact HC0.out); rintro e w' ⟨rfl, ⟨nd, rfl⟩⟩; (try first | exact ⟨rfl, _, World.drewN_drewN _ _ _⟩ | exact ⟨rfl, _, Eq.trans (World.drewN_drewN _ _ _) (congrArg (World.drewN _) (Nat.add_assoc _ _ _))⟩))); try go_wp2_with (first | (go_at_call 70; (with_reducible refine (leb_joined.calls k _ _ l0 t101 _ ?side1 ?side2 A2.out).mono ?_); (case side1 => exact Kd.C_o HR0.out); (case side2 => exact HC0.out); rintro e w' ⟨rfl, ⟨nd, rfl⟩⟩; (try first | exact ⟨rfl, _, World.drewN_drewN _ _ _⟩ | exact ⟨rfl, _, Eq.trans (World.drewN_drewN _ _ _) (congrArg (World.drewN _) (Nat.add_assoc _ _ _))⟩))))
      go_ret2
      exact ⟨by first | rfl | (simp; done) | (simp only [← hji4, ← hji6, ← hji8, ← hji10] <;> (first | rfl | simp)) | (simp [*]; done), by repeat (first | exact Drawn0.refl _ | apply Drawn0.step)⟩
     ·
      rw [if_neg c11] at H
      have c11b0 : decide ((l0.length : Int) < 10) = false := decide_eq_false c11
      have c11b1 : decide (l0.length < 10) = false := decide_eq_false (by omega)
      clear c11
      by_cases c12 : 9 < (l0.length : Int)
      ·
       rw [if_pos c12] at H
       have c12b0 : decide (9 < (l0.length : Int)) = true := decide_eq_true c12
       have c12b1 : decide (9 < l0.length) = true := decide_eq_true (by omega)
       clear c12
       by_cases c13 : (rd l0 9) = 0
       ·
        rw [if_pos c13] at H
        have c13b0 : ((rd l0 9) == 0) = true := beq_iff_eq.mpr c13
        have c13b1 : ((rd l0 9) != 0) = false := bne_eq_false_iff_eq.mpr c13
        clear c13
        simp only [Option.some.injEq, Prod.mk.injEq] at H
        obtain ⟨rfl, rfl⟩ := H
        go_enter Try.func69, Try.ntmps69
        go_wp2_with (first | (go_at_call 70; (with_reducible refine (leb_joined.calls k _ _ l0 t101 _ ?side1 ?side2 A2.out).mono ?_); (case side1 => exact Kd.C_o HR0.out); (case side2 => exact HC0.out); rintro e w' ⟨rfl, ⟨nd, rfl⟩⟩; (try first | exact ⟨rfl, _, World.drewN_drewN _ _ _⟩ | exact ⟨rfl, _, Eq.trans (World.drewN_drewN _ _ _) (congrArg (World.drewN _) (Nat.add_assoc _ _ _))⟩); have p102 : 0 ≤ (9 : Int) := (by omega); have q102 : 9 < (l0.length : Int) := of_decide_eq_true (by first | (with_reducible assumption) | assumption); obtain ⟨ad102, e102, hx102_0⟩ := Kd.at_int HR0.out 9 p102 q102; cases e102; (try simp only [show (9 : Int).toNat = 9 from rfl, Nat.reduceMul, Nat.reduceEqDiff, Go.Addr.add, ↓reduceIte] at hx102_0); have qi102 : (9 < l0.length) = True := eq_true (by omega); (try rw [show ((9 : Int)).toNat = 9 from rfl] at hx102_0); replace p102 := eq_true p102; replace q102 := eq_true q102))
        repeat (go_quiet (first | (go_at_call 70; (with_reducible refine (leb_joined.calls k _ _ l0 t101 _ ?side1 ?side2 A2.out).mono ?_); (case side1 => exact Kd.C_o HR0.out); (case side2 => exact HC0.out); rintro e w' ⟨rfl, ⟨nd, rfl⟩⟩; (try first | exact ⟨rfl, _, World.drewN_drewN _ _ _⟩ | exact ⟨rfl, _, Eq.trans (World.drewN_drewN _ _ _) (congrArg (World.drewN _) (Nat.add_assoc _ _ _))⟩); have p102 : 0 ≤ (9 : Int) := (by omega); have q102 : 9 < (l0.length : Int) := of_decide_eq_true (by first | (with_reducible assumption) | assumption); obtain ⟨ad102, e102, hx102_0⟩ := Kd.at_int HR0.out 9 p102 q102; cases e102; (try simp only [show (9 : Int).toNat = 9 from rfl, Nat.reduceMul, Nat.reduceEqDiff, Go.Addr.add, ↓reduceIte] at hx102_0); have qi102 : (9 < l0.length) = True := eq_true (by omega); (try rw [show ((9 : Int)).toNat = 9 from rfl] at hx102_0); replace p102 := eq_true p102; replace q102 := eq_true q102)); try go_wp2_with (first | (go_at_call 70; (with_reducible refine (leb_joined.calls k _ _ l0 t101 _ ?side1 ?side2 A2.out).mono ?_); (case side1 => exact Kd.C_o HR0.out); (case side2 => exact HC0.out); rintro e w' ⟨rfl, ⟨nd, rfl⟩⟩; (try first | exact ⟨rfl, _, World.drewN_drewN _ _ _⟩ | exact ⟨rfl, _, Eq.trans (World.drewN_drewN _ _ _) (congrArg (World.drewN _) (Nat.add_assoc _ _ _))⟩); have p102 : 0 ≤ (9 : Int) := (by omega); have q102 : 9 < (l0.length : Int) := of_decide_eq_true (by first | (with_reducible assumption) | assumption); obtain ⟨ad102, e102, hx102_0⟩ := Kd.at_int HR0.out 9 p102 q102; cases e102; (try simp only [show (9 : Int).toNat = 9 from rfl, Nat.reduceMul, Nat.reduceEqDiff, Go.Addr.add, ↓reduceIte] at hx102_0); have qi102 : (9 < l0.length) = True := eq_true (by omega); (try rw [show ((9 : Int)).toNat = 9 from rfl] at hx102_0); replace p102 := eq_true p102; replace q102 := eq_true q102)))
        go_ret2
        exact ⟨by first | rfl | (simp; done) | (simp only [← hji4, ← hji6, ← hji8, ← hji10] <;> (first | rfl | simp)) | (simp [*]; done), by repeat (first | exact Drawn0.refl _ | apply Drawn0.step)⟩
       ·
        rw [if_neg c13] at H
        have c13b0 : ((rd l0 9) == 0) = false := beq_eq_false_iff_ne.mpr c13
        have c13b1 : ((rd l0 9) != 0) = true := bne_iff_ne.mpr c13
        simp only [Option.some.injEq, Prod.mk.injEq] at H
        obtain ⟨rfl, rfl⟩ := H
        go_enter Try.func69, Try.ntmps69
        go_wp2_with (first | (go_at_call 70; (with_reducible refine (leb_joined.calls k _ _ l0 t101 _ ?side1 ?side2 A2.out).mono ?_); (case side1 => exact Kd.C_o HR0.out); (case side2 => exact HC0.out); rintro e w' ⟨rfl, ⟨nd, rfl⟩⟩; (try first | exact ⟨rfl, _, World.drewN_drewN _ _ _⟩ | exact ⟨rfl, _, Eq.trans (World.drewN_drewN _ _ _) (congrArg (World.drewN _) (Nat.add_assoc _ _ _))⟩); have p102 : 0 ≤ (9 : Int) := (by omega); have q102 : 9 < (l0.length : Int) := of_decide_eq_true (by first | (with_reducible assumption) | assumption); obtain ⟨ad102, e102, hx102_0⟩ := Kd.at_int HR0.out 9 p102 q102; cases e102; (try simp only [show (9 : Int).toNat = 9 from rfl, Nat.reduceMul, Nat.reduceEqDiff, Go.Addr.add, ↓reduceIte] at hx102_0); have qi102 : (9 < l0.length) = True := eq_true (by omega); (try rw [show ((9 : Int)).toNat = 9 from rfl] at hx102_0); replace p102 := eq_true p102; replace q102 := eq_true q102; have p103 : 0 ≤ (9 : Int) := (by omega); have q103 : 9 < (l0.length : Int) := of_decide_eq_true (by first | (with_reducible assumption) | assumption); obtain ⟨ad103, e103, hx103_0⟩ := Kd.at_int HR0.out 9 p103 q103; obtain rfl : ad102 = ad103 := (by injection e103); (try simp only [show (9 : Int).toNat = 9 from rfl, Nat.reduceMul, Nat.reduceEqDiff, Go.Addr.add, ↓reduceIte] at hx103_0); have qi103 : (9 < l0.length) = True := eq_true (by omega); (try rw [show ((9 : Int)).toNat = 9 from rfl] at hx103_0); replace p103 := eq_true p103; replace q103 := eq_true q103))
        repeat (go_quiet (first | (go_at_call 70; (with_reducible refine (leb_joined.calls k _ _ l0 t101 _ ?side1 ?side2 A2.out).mono ?_); (case side1 => exact Kd.C_o HR0.out); (case side2 => exact HC0.out); rintro e w' ⟨rfl, ⟨nd, rfl⟩⟩; (try first | exact ⟨rfl, _, World.drewN_drewN _ _ _⟩ | exact ⟨rfl, _, Eq.trans (World.drewN_drewN _ _ _) (congrArg (World.drewN _) (Nat.add_assoc _ _ _))⟩); have p102 : 0 ≤ (9 : Int) := (by omega); have q102 : 9 < (l0.length : Int) := of_decide_eq_true (by first | (with_reducible assumption) | assumption); obtain ⟨ad102, e102, hx102_0⟩ := Kd.at_int HR0.out 9 p102 q102; cases e102; (try simp only [show (9 : Int).toNat = 9 from rfl, Nat.reduceMul, Nat.reduceEqDiff, Go.Addr.add, ↓reduceIte] at hx102_0); have qi102 : (9 < l0.length) = True := eq_true (by omega); (try rw [show ((9 : Int)).toNat = 9 from rfl] at hx102_0); replace p102 := eq_true p102; replace q102 := eq_true q102; have p103 : 0 ≤ (9 : Int) := (by omega); have q103 : 9 < (l0.length : Int) := of_decide_eq_true (by first | (with_reducible assumption) | assumption); obtain ⟨ad103, e103, hx103_0⟩ := Kd.at_int HR0.out 9 p103 q103; obtain rfl : ad102 = ad103 := (by injection e103); (try simp only [show (9 : Int).toNat = 9 from rfl, Nat.reduceMul, Nat.reduceEqDiff, Go.Addr.add, ↓reduceIte] at hx103_0); have qi103 : (9 < l0.length) = True := eq_true (by omega); (try rw [show ((9 : Int)).toNat = 9 from rfl] at hx103_0); replace p103 := eq_true p103; replace q103 := eq_true q103)); try go_wp2_with (first | (go_at_call 70; (with_reducible refine (leb_joined.calls k _ _ l0 t101 _ ?side1 ?side2 A2.out).mono ?_); (case side1 => exact Kd.C_o HR0.out); (case side2 => exact HC0.out); rintro e w' ⟨rfl, ⟨nd, rfl⟩⟩; (try first | exact ⟨rfl, _, World.drewN_drewN _ _ _⟩ | exact ⟨rfl, _, Eq.trans (World.drewN_drewN _ _ _) (congrArg (World.drewN _) (Nat.add_assoc _ _ _))⟩); have p102 : 0 ≤ (9 : Int) := (by omega); have q102 : 9 < (l0.length : Int) := of_decide_eq_true (by first | (with_reducible assumption) | assumption); obtain ⟨ad102, e102, hx102_0⟩ := Kd.at_int HR0.out 9 p102 q102; cases e102; (try simp only [show (9 : Int).toNat = 9 from rfl, Nat.reduceMul, Nat.reduceEqDiff, Go.Addr.add, ↓reduceIte] at hx102_0); have qi102 : (9 < l0.length) = True := eq_true (by omega); (try rw [show ((9 : Int)).toNat = 9 from rfl] at hx102_0); replace p102 := eq_true p102; replace q102 := eq_true q102; have p103 : 0 ≤ (9 : Int) := (by omega); have q103 : 9 < (l0.length : Int) := of_decide_eq_true (by first | (with_reducible assumption) | assumption); obtain ⟨ad103, e103, hx103_0⟩ := Kd.at_int HR0.out 9 p103 q103; obtain rfl : ad102 = ad103 := (by injection e103); (try simp only [show (9 : Int).toNat = 9 from rfl, Nat.reduceMul, Nat.reduceEqDiff, Go.Addr.add, ↓reduceIte] at hx103_0); have qi103 : (9 < l0.length) = True := eq_true (by omega); (try rw [show ((9 : Int)).toNat = 9 from rfl] at hx103_0); replace p103 := eq_true p103; replace q103 := eq_true q103)))
        go_ret2
        exact ⟨by first | rfl | (simp; done) | (simp only [← hji4, ← hji6, ← hji8, ← hji10] <;> (first | rfl | simp)) | (simp [*]; done), by repeat (first | exact Drawn0.refl _ | apply Drawn0.step)⟩
      ·
       rw [if_neg c12] at H
       exact absurd H (by simp)
    ·
     rw [if_neg c9] at H
     exact absurd H (by simp)
   ·
    rw [if_neg c7] at H
    have c7b0 : ((Go.bits .and .u64 (ji6) 1) == 1) = false := beq_eq_false_iff_ne.mpr c7
    have c7b1 : ((Go.bits .and .u64 (ji6) 1) != 1) = true := bne_iff_ne.mpr c7
    by_cases c14 : (l0.length : Int) < 10
    ·
     rw [if_pos c14] at H
     have c14b0 : decide ((l0.length : Int) < 10) = true := decide_eq_true c14
     have c14b1 : decide (l0.length < 10) = true := decide_eq_true (by omega)
     clear c14
     simp only [Option.some.injEq, Prod.mk.injEq] at H
     obtain ⟨rfl, rfl⟩ := H
     go_enter Try.func69, Try.ntmps69
     go_wp2_with (first | (go_at_call 70; (with_reducible refine (leb_joined.calls k _ _ l0 t101 _ ?side1 ?side2 A2.out).mono ?_); (case side1 => exact Kd.C_o HR0.out); (case side2 => exact HC0.out); rintro e w' ⟨rfl, ⟨nd, rfl⟩⟩; (try first | exact ⟨rfl, _, World.drewN_drewN _ _ _⟩ | exact ⟨rfl, _, Eq.trans (World.drewN_drewN _ _ _) (congrArg (World.drewN _) (Nat.add_assoc _ _ _))⟩)))
     repeat (go_quiet (first | (go_at_call 70; (with_reducible refine (leb_joined.calls k _ _ l0 t101 _ ?side1 ?side2 A2.out).mono ?_); (case side1 => exact Kd.C_o HR0.out); (case side2 => exact HC0.out); rintro e w' ⟨rfl, ⟨nd, rfl⟩⟩; (try first | exact ⟨rfl, _, World.drewN_drewN _ _ _⟩ | exact ⟨rfl, _, Eq.trans (World.drewN_drewN _ _ _) (congrArg (World.drewN _) (Nat.add_assoc _ _ _))⟩))); try go_wp2_with (first | (go_at_call 70; (with_reducible refine (leb_joined.calls k _ _ l0 t101 _ ?side1 ?side2 A2.out).mono ?_); (case side1 => exact Kd.C_o HR0.out); (case side2 => exact HC0.out); rintro e w' ⟨rfl, ⟨nd, rfl⟩⟩; (try first | exact ⟨rfl, _, World.drewN_drewN _ _ _⟩ | exact ⟨rfl, _, Eq.trans (World.drewN_drewN _ _ _) (congrArg (World.drewN _) (Nat.add_assoc _ _ _))⟩))))
     go_ret2
     exact ⟨by first | rfl | (simp; done) | (simp only [← hji4, ← hji6] <;> (first | rfl | simp)) | (simp [*]; done), by repeat (first | exact Drawn0.refl _ | apply Drawn0.step)⟩
    ·
     rw [if_neg c14] at H
     have c14b0 : decide ((l0.length : Int) < 10) = false := decide_eq_false c14
     have c14b1 : decide (l0.length < 10) = false := decide_eq_false (by omega)
     clear c14
     by_cases c15 : 9 < (l0.length : Int)
     ·
      rw [if_pos c15] at H
      have c15b0 : decide (9 < (l0.length : Int)) = true := decide_eq_true c15
      have c15b1 : decide (9 < l0.length) = true := decide_eq_true (by omega)
      clear c15
      by_cases c16 : (rd l0 9) = 0
      ·
       rw [if_pos c16] at H
       have c16b0 : ((rd l0 9) == 0) = true := beq_iff_eq.mpr c16
       have c16b1 : ((rd l0 9) != 0) = false := bne_eq_false_iff_eq.mpr c16
       clear c16
       simp only [Option.some.injEq, Prod.mk.injEq] at H
       obtain ⟨rfl, rfl⟩ := H
       go_enter Try.func69, Try.ntmps69
       go_wp2_with (first | (go_at_call 70; (with_reducible refine (leb_joined.calls k _ _ l0 t101 _ ?side1 ?side2 A2.out).mono ?_); (case side1 => exact Kd.C_o HR0.out); (case side2 => exact HC0.out); rintro e w' ⟨rfl, ⟨nd, rfl⟩⟩; (try first | exact ⟨rfl, _, World.drewN_drewN _ _ _⟩ | exact ⟨rfl, _, Eq.trans (World.drewN_drewN _ _ _) (congrArg (World.drewN _) (Nat.add_assoc _ _ _))⟩); have p104 : 0 ≤ (9 : Int) := (by omega); have q104 : 9 < (l0.length : Int) := of_decide_eq_true (by first | (with_reducible assumption) | assumption); obtain ⟨ad104, e104, hx104_0⟩ := Kd.at_int HR0.out 9 p104 q104; cases e104; (try simp only [show (9 : Int).toNat = 9 from rfl, Nat.reduceMul, Nat.reduceEqDiff, Go.Addr.add, ↓reduceIte] at hx104_0); have qi104 : (9 < l0.length) = True := eq_true (by omega); (try rw [show ((9 : Int)).toNat = 9 from rfl] at hx104_0); replace p104 := eq_true p104; replace q104 := eq_true q104))
       repeat (go_quiet (first | (go_at_call 70; (with_reducible refine (leb_joined.calls k _ _ l0 t101 _ ?side1 ?side2 A2.out).mono ?_); (case side1 => exact Kd.C_o HR0.out); (case side2 => exact HC0.out); rintro e w' ⟨rfl, ⟨nd, rfl⟩⟩; (try first | exact ⟨rfl, _, World.drewN_drewN _ _ _⟩ | exact ⟨rfl, _, Eq.trans (World.drewN_drewN _ _ _) (congrArg (World.drewN _) (Nat.add_assoc _ _ _))⟩); have p104 : 0 ≤ (9 : Int) := (by omega); have q104 : 9 < (l0.length : Int) := of_decide_eq_true (by first | (with_reducible assumption) | assumption); obtain ⟨ad104, e104, hx104_0⟩ := Kd.at_int HR0.out 9 p104 q104; cases e104; (try simp only [show (9 : Int).toNat = 9 from rfl, Nat.reduceMul, Nat.reduceEqDiff, Go.Addr.add, ↓reduceIte] at hx104_0); have qi104 : (9 < l0.length) = True := eq_true (by omega); (try rw [show ((9 : Int)).toNat = 9 from rfl] at hx104_0); replace p104 := eq_true p104; replace q104 := eq_true q104)); try go_wp2_with (first | (go_at_call 70; (with_reducible refine (leb_joined.calls k _ _ l0 t101 _ ?side1 ?side2 A2.out).mono ?_); (case side1 => exact Kd.C_o HR0.out); (case side2 => exact HC0.out); rintro e w' ⟨rfl, ⟨nd, rfl⟩⟩; (try first | exact ⟨rfl, _, World.drewN_drewN _ _ _⟩ | exact ⟨rfl, _, Eq.trans (World.drewN_drewN _ _ _) (congrArg (World.drewN _) (Nat.add_assoc _ _ _))⟩); have p104 : 0 ≤ (9 : Int) := (by omega); have q104 : 9 < (l0.length : Int) := of_decide_eq_true (by first | (with_reducible assumption) | assumption); obtain ⟨ad104, e104, hx104_0⟩ := Kd.at_int HR0.out 9 p104 q104; cases e104; (try simp only [show (9 : Int).toNat = 9 from rfl, Nat.reduceMul, Nat.reduceEqDiff, Go.Addr.add, ↓reduceIte] at hx104_0); have qi104 : (9 < l0.length) = True := eq_true (by omega); (try rw [show ((9 : Int)).toNat = 9 from rfl] at hx104_0); replace p104 := eq_true p104; replace q104 := eq_true q104)))
       go_ret2
       exact ⟨by first | rfl | (simp; done) | (simp only [← hji4, ← hji6] <;> (first | rfl | simp)) | (simp [*]; done), by repeat (first | exact Drawn0.refl _ | apply Drawn0.step)⟩
      ·
       rw [if_neg c16] at H
       have c16b0 : ((rd l0 9) == 0) = false := beq_eq_false_iff_ne.mpr c16
       have c16b1 : ((rd l0 9) != 0) = true := bne_iff_ne.mpr c16
       simp only [Option.some.injEq, Prod.mk.injEq] at H
       obtain ⟨rfl, rfl⟩ := H
       go_enter Try.func69, Try.ntmps69
       go_wp2_with (first | (go_at_call 70; (with_reducible refine (leb_joined.calls k _ _ l0 t101 _ ?side1 ?side2 A2.out).mono ?_); (case side1 => exact Kd.C_o HR0.out); (case side2 => exact HC0.out); rintro e w' ⟨rfl, ⟨nd, rfl⟩⟩; (try first | exact ⟨rfl, _, World.drewN_drewN _ _ _⟩ | exact ⟨rfl, _, Eq.trans (World.drewN_drewN _ _ _) (congrArg (World.drewN _) (Nat.add_assoc _ _ _))⟩); have p104 : 0 ≤ (9 : Int) := (by omega); have q104 : 9 < (l0.length : Int) := of_decide_eq_true (by first | (with_reducible assumption) | assumption); obtain ⟨ad104, e104, hx104_0⟩ := Kd.at_int HR0.out 9 p104 q104; cases e104; (try simp only [show (9 : Int).toNat = 9 from rfl, Nat.reduceMul, Nat.reduceEqDiff, Go.Addr.add, ↓reduceIte] at hx104_0); have qi104 : (9 < l0.length) = True := eq_true (by omega); (try rw [show ((9 : Int)).toNat = 9 from rfl] at hx104_0); replace p104 := eq_true p104; replace q104 := eq_true q104; have p105 : 0 ≤ (9 : Int) := (by omega); have q105 : 9 < (l0.length : Int) := of_decide_eq_true (by first | (with_reducible assumption) | assumption); obtain ⟨ad105, e105, hx105_0⟩ := Kd.at_int HR0.out 9 p105 q105; obtain rfl : ad104 = ad105 := (by injection e105); (try simp only [show (9 : Int).toNat = 9 from rfl, Nat.reduceMul, Nat.reduceEqDiff, Go.Addr.add, ↓reduceIte] at hx105_0); have qi105 : (9 < l0.length) = True := eq_true (by omega); (try rw [show ((9 : Int)).toNat = 9 from rfl] at hx105_0); replace p105 := eq_true p105; replace q105 := eq_true q105))
       repeat (go_quiet (first | (go_at_call 70; (with_reducible refine (leb_joined.calls k _ _ l0 t101 _ ?side1 ?side2 A2.out).mono ?_); (case side1 => exact Kd.C_o HR0.out); (case side2 => exact HC0.out); rintro e w' ⟨rfl, ⟨nd, rfl⟩⟩; (try first | exact ⟨rfl, _, World.drewN_drewN _ _ _⟩ | exact ⟨rfl, _, Eq.trans (World.drewN_drewN _ _ _) (congrArg (World.drewN _) (Nat.add_assoc _ _ _))⟩); have p104 : 0 ≤ (9 : Int) := (by omega); have q104 : 9 < (l0.length : Int) := of_decide_eq_true (by first | (with_reducible assumption) | assumption); obtain ⟨ad104, e104, hx104_0⟩ := Kd.at_int HR0.out 9 p104 q104; cases e104; (try simp only [show (9 : Int).toNat = 9 from rfl, Nat.reduceMul, Nat.reduceEqDiff, Go.Addr.add, ↓reduceIte] at hx104_0); have qi104 : (9 < l0.length) = True := eq_true (by omega); (try rw [show ((9 : Int)).toNat = 9 from rfl] at hx104_0); replace p104 := eq_true p104; replace q104 := eq_true q104; have p105 : 0 ≤ (9 : Int) := (by omega); have q105 : 9 < (l0.length : Int) := of_decide_eq_true (by first | (with_reducible assumption) | assumption); obtain ⟨ad105, e105, hx105_0⟩ := Kd.at_int HR0.out 9 p105 q105; obtain rfl : ad104 = ad105 := (by injection e105); (try simp only [show (9 : Int).toNat = 9 from rfl, Nat.reduceMul, Nat.reduceEqDiff, Go.Addr.add, ↓reduceIte] at hx105_0); have qi105 : (9 < l0.length) = True := eq_true (by omega); (try rw [show ((9 : Int)).toNat = 9 from rfl] at hx105_0); replace p105 := eq_true p105; replace q105 := eq_true q105)); try go_wp2_with (first | (go_at_call 70; (with_reducible refine (leb_joined.calls k _ _ l0 t101 _ ?side1 ?side2 A2.out).mono ?_); (case side1 => exact Kd.C_o HR0.out); (case side2 => exact HC0.out); rintro e w' ⟨rfl, ⟨nd, rfl⟩⟩; (try first | exact ⟨rfl, _, World.drewN_drewN _ _ _⟩ | exact ⟨rfl, _, Eq.trans (World.drewN_drewN _ _ _) (congrArg (World.drewN _) (Nat.add_assoc _ _ _))⟩); have p104 : 0 ≤ (9 : Int) := (by omega); have q104 : 9 < (l0.length : Int) := of_decide_eq_true (by first | (with_reducible assumption) | assumption); obtain ⟨ad104, e104, hx104_0⟩ := Kd.at_int HR0.out 9 p104 q104; cases e104; (try simp only [show (9 : Int).toNat = 9 from rfl, Nat.reduceMul, Nat.reduceEqDiff, Go.Addr.add, ↓reduceIte] at hx104_0); have qi104 : (9 < l0.length) = True := eq_true (by omega); (try rw [show ((9 : Int)).toNat = 9 from rfl] at hx104_0); replace p104 := eq_true p104; replace q104 := eq_true q104; have p105 : 0 ≤ (9 : Int) := (by omega); have q105 : 9 < (l0.length : Int) := of_decide_eq_true (by first | (with_reducible assumption) | assumption); obtain ⟨ad105, e105, hx105_0⟩ := Kd.at_int HR0.out 9 p105 q105; obtain rfl : ad104 = ad105 := (by injection e105); (try simp only [show (9 : Int).toNat = 9 from rfl, Nat.reduceMul, Nat.reduceEqDiff, Go.Addr.add, ↓reduceIte] at hx105_0); have qi105 : (9 < l0.length) = True := eq_true (by omega); (try rw [show ((9 : Int)).toNat = 9 from rfl] at hx105_0); replace p105 := eq_true p105; replace q105 := eq_true q105)))
       go_ret2
       exact ⟨by first | rfl | (simp; done) | (simp only [← hji4, ← hji6] <;> (first | rfl | simp)) | (simp [*]; done), by repeat (first | exact Drawn0.refl _ | apply Drawn0.step)⟩
     ·
      rw [if_neg c15] at H
      exact absurd H (by simp)
  ·
   rw [if_neg c5] at H
   exact absurd H (by simp)
 ·
  rw [if_neg c3] at H
  have c3b0 : decide ((wrap64 (7 * (l0.length : Int))) < 64) = false := decide_eq_false c3
  clear c3
  by_cases c17 : (l0.length : Int) < 10
  ·
   rw [if_pos c17] at H
   have c17b0 : decide ((l0.length : Int) < 10) = true := decide_eq_true c17
   have c17b1 : decide (l0.length < 10) = true := decide_eq_true (by omega)
   clear c17
   simp only [Option.some.injEq, Prod.mk.injEq] at H
   obtain ⟨rfl, rfl⟩ := H
   go_enter Try.func69, Try.ntmps69
   go_wp2_with (first | (go_at_call 70; (with_reducible refine (leb_joined.calls k _ _ l0 t101 _ ?side1 ?side2 A2.out).mono ?_); (case side1 => exact Kd.C_o HR0.out); (case side2 => exact HC0.out); rintro e w' ⟨rfl, ⟨nd, rfl⟩⟩; (try first | exact ⟨rfl, _, World.drewN_drewN _ _ _⟩ | exact ⟨rfl, _, Eq.trans (World.drewN_drewN _ _ _) (congrArg (World.drewN _) (Nat.add_assoc _ _ _))⟩)))
   repeat (go_quiet (first | (go_at_call 70; (with_reducible refine (leb_joined.calls k _ _ l0 t101 _ ?side1 ?side2 A2.out).mono ?_); (case side1 => exact Kd.C_o HR0.out); (case side2 => exact HC0.out); rintro e w' ⟨rfl, ⟨nd, rfl⟩⟩; (try first | exact ⟨rfl, _, World.drewN_drewN _ _ _⟩ | exact ⟨rfl, _, Eq.trans (World.drewN_drewN _ _ _) (congrArg (World.drewN _) (Nat.add_assoc _ _ _))⟩))); try go_wp2_with (first | (go_at_call 70; (with_reducible refine (leb_joined.calls k _ _ l0 t101 _ ?side1 ?side2 A2.out).mono ?_); (case side1 => exact Kd.C_o HR0.out); (case side2 => exact HC0.out); rintro e w' ⟨rfl, ⟨nd, rfl⟩⟩; (try first | exact ⟨rfl, _, World.drewN_drewN _ _ _⟩ | exact ⟨rfl, _, Eq.trans (World.drewN_drewN _ _ _) (congrArg (World.drewN _) (Nat.add_assoc _ _ _))⟩))))
   go_ret2
   exact ⟨by first | rfl | (simp; done) | (simp [*]; done), by repeat (first | exact Drawn0.refl _ | apply Drawn0.step)⟩
  ·
   rw [if_neg c17] at H
   have c17b0 : decide ((l0.length : Int) < 10) = false := decide_eq_false c17
   have c17b1 : decide (l0.length < 10) = false := decide_eq_false (by omega)
   clear c17
   by_cases c18 : 9 < (l0.length : Int)
   ·
    rw [if_pos c18] at H
    have c18b0 : decide (9 < (l0.length : Int)) = true := decide_eq_true c18
    have c18b1 : decide (9 < l0.length) = true := decide_eq_true (by omega)
    clear c18
    by_cases c19 : (rd l0 9) = 0
    ·
     rw [if_pos c19] at H
     have c19b0 : ((rd l0 9) == 0) = true := beq_iff_eq.mpr c19
     have c19b1 : ((rd l0 9) != 0) = false := bne_eq_false_iff_eq.mpr c19
     clear c19
     simp only [Option.some.injEq, Prod.mk.injEq] at H
     obtain ⟨rfl, rfl⟩ := H
     go_enter Try.func69, Try.ntmps69
     go_wp2_with (first | (go_at_call 70; (with_reducible refine (leb_joined.calls k _ _ l0 t101 _ ?side1 ?side2 A2.out).mono ?_); (case side1 => exact Kd.C_o HR0.out); (case side2 => exact HC0.out); rintro e w' ⟨rfl, ⟨nd, rfl⟩⟩; (try first | exact ⟨rfl, _, World.drewN_drewN _ _ _⟩ | exact ⟨rfl, _, Eq.trans (World.drewN_drewN _ _ _) (congrArg (World.drewN _) (Nat.add_assoc _ _ _))⟩); have p106 : 0 ≤ (9 : Int) := (by omega); have q106 : 9 < (l0.length : Int) := of_decide_eq_true (by first | (with_reducible assumption) | assumption); obtain ⟨ad106, e106, hx106_0⟩ := Kd.at_int HR0.out 9 p106 q106; cases e106; (try simp only [show (9 : Int).toNat = 9 from rfl, Nat.reduceMul, Nat.reduceEqDiff, Go.Addr.add, ↓reduceIte] at hx106_0); have qi106 : (9 < l0.length) = True := eq_true (by omega); (try rw [show ((9 : Int)).toNat = 9 from rfl] at hx106_0); replace p106 := eq_true p106; replace q106 := eq_true q106))
     repeat (go_quiet (first | (go_at_call 70; (with_reducible refine (leb_joined.calls k _ _ l0 t101 _ ?side1 ?side2 A2.out).mono ?_); (case side1 => exact Kd.C_o HR0.out); (case side2 => exact HC0.out); rintro e w' ⟨rfl, ⟨nd, rfl⟩⟩; (try first | exact ⟨rfl, _, World.drewN_drewN _ _ _⟩ | exact ⟨rfl, _, Eq.trans (World.drewN_drewN _ _ _) (congrArg (World.drewN _) (Nat.add_assoc _ _ _))⟩); have p106 : 0 ≤ (9 : Int) := (by omega); have q106 : 9 < (l0.length : Int) := of_decide_eq_true (by first | (with_reducible assumption) | assumption); obtain ⟨ad106, e106, hx106_0⟩ := Kd.at_int HR0.out 9 p106 q106; cases e106; (try simp only [show (9 : Int).toNat = 9 from rfl, Nat.reduceMul, Nat.reduceEqDiff, Go.Addr.add, ↓reduceIte] at hx106_0); have qi106 : (9 < l0.length) = True := eq_true (by omega); (try rw [show ((9 : Int)).toNat = 9 from rfl] at hx106_0); replace p106 := eq_true p106; replace q106 := eq_true q106)); try go_wp2_with (first | (go_at_call 70; (with_reducible refine (leb_joined.calls k _ _ l0 t101 _ ?side1 ?side2 A2.out).mono ?_); (case side1 => exact Kd.C_o HR0.out); (case side2 => exact HC0.out); rintro e w' ⟨rfl, ⟨nd, rfl⟩⟩; (try first | exact ⟨rfl, _, World.drewN_drewN _ _ _⟩ | exact ⟨rfl, _, Eq.trans (World.drewN_drewN _ _ _) (congrArg (World.drewN _) (Nat.add_assoc _ _ _))⟩); have p106 : 0 ≤ (9 : Int) := (by omega); have q106 : 9 < (l0.length : Int) := of_decide_eq_true (by first | (with_reducible assumption) | assumption); obtain ⟨ad106, e106, hx106_0⟩ := Kd.at_int HR0.out 9 p106 q106; cases e106; (try simp only [show (9 : Int).toNat = 9 from rfl, Nat.reduceMul, Nat.reduceEqDiff, Go.Addr.add, ↓reduceIte] at hx106_0); have qi106 : (9 < l0.length) = True := eq_true (by omega); (try rw [show ((9 : Int)).toNat = 9 from rfl] at hx106_0); replace p106 := eq_true p106; replace q106 := eq_true q106)))
     go_ret2
     exact ⟨by first | rfl | (simp; done) | (simp [*]; done), by repeat (first | exact Drawn0.refl _ | apply Drawn0.step)⟩
    ·
     rw [if_neg c19] at H
     have c19b0 : ((rd l0 9) == 0) = false := beq_eq_false_iff_ne.mpr c19
     have c19b1 : ((rd l0 9) != 0) = true := bne_iff_ne.mpr c19
     simp only [Option.some.injEq, Prod.mk.injEq] at H
     obtain ⟨rfl, rfl⟩ := H
     go_enter Try.func69, Try.ntmps69
     go_wp2_with (first | (go_at_call 70; (with_reducible refine (leb_joined.calls k _ _ l0 t101 _ ?side1 ?side2 A2.out).mono ?_); (case side1 => exact Kd.C_o HR0.out); (case side2 => exact HC0.out); rintro e w' ⟨rfl, ⟨nd, rfl⟩⟩; (try first | exact ⟨rfl, _, World.drewN_drewN _ _ _⟩ | exact ⟨rfl, _, Eq.trans (World.drewN_drewN _ _ _) (congrArg (World.drewN _) (Nat.add_assoc _ _ _))⟩); have p106 : 0 ≤ (9 : Int) := (by omega); have q106 : 9 < (l0.length : Int) := of_decide_eq_true (by first | (with_reducible assumption) | assumption); obtain ⟨ad106, e106, hx106_0⟩ := Kd.at_int HR0.out 9 p106 q106; cases e106; (try simp only [show (9 : Int).toNat = 9 from rfl, Nat.reduceMul, Nat.reduceEqDiff, Go.Addr.add, ↓reduceIte] at hx106_0); have qi106 : (9 < l0.length) = True := eq_true (by omega); (try rw [show ((9 : Int)).toNat = 9 from rfl] at hx106_0); replace p106 := eq_true p106; replace q106 := eq_true q106; have p107 : 0 ≤ (9 : Int) := (by omega); have q107 : 9 < (l0.length : Int) := of_decide_eq_true (by first | (with_reducible assumption) | assumption); obtain ⟨ad107, e107, hx107_0⟩ := Kd.at_int HR0.out 9 p107 q107; obtain rfl : ad106 = ad107 := (by injection e107); (try simp only [show (9 : Int).toNat = 9 from rfl, Nat.reduceMul, Nat.reduceEqDiff, Go.Addr.add, ↓reduceIte] at hx107_0); have qi107 : (9 < l0.length) = True := eq_true (by omega); (try rw [show ((9 : Int)).toNat = 9 from rfl] at hx107_0); replace p107 := eq_true p107; replace q107 := eq_true q107))
     repeat (go_quiet (first | (go_at_call 70; (with_reducible refine (leb_joined.calls k _ _ l0 t101 _ ?side1 ?side2 A2.out).mono ?_); (case side1 => exact Kd.C_o HR0.out); (case side2 => exact HC0.out); rintro e w' ⟨rfl, ⟨nd, rfl⟩⟩; (try first | exact ⟨rfl, _, World.drewN_drewN _ _ _⟩ | exact ⟨rfl, _, Eq.trans (World.drewN_drewN _ _ _) (congrArg (World.drewN _) (Nat.add_assoc _ _ _))⟩); have p106 : 0 ≤ (9 : Int) := (by omega); have q106 : 9 < (l0.length : Int) := of_decide_eq_true (by first | (with_reducible assumption) | assumption); obtain ⟨ad106, e106, hx106_0⟩ := Kd.at_int HR0.out 9 p106 q106; cases e106; (try simp only [show (9 : Int).toNat = 9 from rfl, Nat.reduceMul, Nat.reduceEqDiff, Go.Addr.add, ↓reduceIte] at hx106_0); have qi106 : (9 < l0.length) = True := eq_true (by omega); (try rw [show ((9 : Int)).toNat = 9 from rfl] at hx106_0); replace p106 := eq_true p106; replace q106 := eq_true q106; have p107 : 0 ≤ (9 : Int) := (by omega); have q107 : 9 < (l0.length : Int) := of_decide_eq_true (by first | (with_reducible assumption) | assumption); obtain ⟨ad107, e107, hx107_0⟩ := Kd.at_int HR0.out 9 p107 q107; obtain rfl : ad106 = ad107 := (by injection e107); (try simp only [show (9 : Int).toNat = 9 from rfl, Nat.reduceMul, Nat.reduceEqDiff, Go.Addr.add, ↓reduceIte] at hx107_0); have qi107 : (9 < l0.length) = True := eq_true (by omega); (try rw [show ((9 : Int)).toNat = 9 from rfl] at hx107_0); replace p107 := eq_true p107; replace q107 := eq_true q107)); try go_wp2_with (first | (go_at_call 70; (with_reducible refine (leb_joined.calls k _ _ l0 t101 _ ?side1 ?side2 A2.out).mono ?_); (case side1 => exact Kd.C_o HR0.out); (case side2 => exact HC0.out); rintro e w' ⟨rfl, ⟨nd, rfl⟩⟩; (try first | exact ⟨rfl, _, World.drewN_drewN _ _ _⟩ | exact ⟨rfl, _, Eq.trans (World.drewN_drewN _ _ _) (congrArg (World.drewN _) (Nat.add_assoc _ _ _))⟩); have p106 : 0 ≤ (9 : Int) := (by omega); have q106 : 9 < (l0.length : Int) := of_decide_eq_true (by first | (with_reducible assumption) | assumption); obtain ⟨ad106, e106, hx106_0⟩ := Kd.at_int HR0.out 9 p106 q106; cases e106; (try simp only [show (9 : Int).toNat = 9 from rfl, Nat.reduceMul, Nat.reduceEqDiff, Go.Addr.add, ↓reduceIte] at hx106_0); have qi106 : (9 < l0.length) = True := eq_true (by omega); (try rw [show ((9 : Int)).toNat = 9 from rfl] at hx106_0); replace p106 := eq_true p106; replace q106 := eq_true q106; have p107 : 0 ≤ (9 : Int) := (by omega); have q107 : 9 < (l0.length : Int) := of_decide_eq_true (by first | (with_reducible assumption) | assumption); obtain ⟨ad107, e107, hx107_0⟩ := Kd.at_int HR0.out 9 p107 q107; obtain rfl : ad106 = ad107 := (by injection e107); (try simp only [show (9 : Int).toNat = 9 from rfl, Nat.reduceMul, Nat.reduceEqDiff, Go.Addr.add, ↓reduceIte] at hx107_0); have qi107 : (9 < l0.length) = True := eq_true (by omega); (try rw [show ((9 : Int)).toNat = 9 from rfl] at hx107_0); replace p107 := eq_true p107; replace q107 := eq_true q107)))
     go_ret2
     exact ⟨by first | rfl | (simp; done) | (simp [*]; done), by repeat (first | exact Drawn0.refl _ | apply Drawn0.step)⟩
   ·
    rw [if_neg c18] at H
    exact absurd H (by simp)
end Go.Proofs.Ytfgfnflhdabmcaa.G
end
section
namespace Go.Proofs.Ytfgfnflhdabmcaa.G
open Go.RowKit Go.Proofs.YtfgfnflhdabmcaaW.PrintWords Go.Proofs.YtfgfnflhdabmcaaW.PrintLast Go.Proofs.YtfgfnflhdabmcaaW.PrintMore
attribute [local go_sem] max2_int min2_int max_two min_two max_three min_three max_four min_four   -- for this text's walks alone
set_option linter.unusedVariables false
set_option linter.unusedSimpArgs false
/-- a signed number's value of its groups' bits u (n groups) -/
def lebSx (u : Int) (n : Nat) : Int :=
 if 7 * n < 64 ∧ Go.bits .and .u64 (shr .u64 u (7 * (n : Int) - 1)) 1 = 1 then wrap64 (Go.bits .or .u64 u (shl .u64 18446744073709551615 (7 * (n : Int)))) else wrap64 u
def lebReadS (l0 : List Int) (a1 : Int) : Int × Int × Int :=
 match lebAt l0 a1 with
 | .inr er => (0, 0, er)
 | .inl n => if n < 10 ∨ rd (lebCut l0 a1 n) 9 = 0 ∨ rd (lebCut l0 a1 n) 9 = 127 then (lebSx (lebJn (lebCut l0 a1 n) 0 0) n, a1 + n, 0) else (0, 0, 21)
theorem lebS1_some (g : List Int) (n : Nat) (hn : 0 < n) (hn10 : n ≤ 10) (hlen : g.length = n) :
  leb_ReadSleb_1.f 1001 g = some (lebSx (lebJn g 0 0) n, decide (n < 10 ∨ rd g 9 = 0 ∨ rd g 9 = 127)) := by
 unfold leb_ReadSleb_1.f
 rw [lebJoined_some _ (by rw [hlen]; omega), Option.bind_some, hlen]
 have w7 : wrap64 (7 * (n : Int)) = 7 * (n : Int) := by unfold wrap64; omega
 have w71 : wrap64 (7 * (n : Int) - 1) = 7 * (n : Int) - 1 := by unfold wrap64; omega
 rw [w7, w71, if_pos (show 0 ≤ 7 * (n : Int) - 1 by omega), if_pos (show 0 ≤ 7 * (n : Int) by omega)]
 generalize lebJn g 0 0 = u
 by_cases c1 : 7 * n < 64
 ·
  rw [if_pos (show 7 * (n : Int) < 64 by omega)]
  by_cases c2 : Go.bits .and .u64 (shr .u64 u (7 * (n : Int) - 1)) 1 = 1
  ·
   have e : lebSx u n = wrap64 (Go.bits .or .u64 u (shl .u64 18446744073709551615 (7 * (n : Int)))) := if_pos ⟨c1, c2⟩
   rw [if_pos c2, if_pos (show (n : Int) < 10 by omega), e]
   simp [show n < 10 by omega]
  ·
   have e : lebSx u n = wrap64 u := if_neg (fun h => c2 h.2)
   rw [if_neg c2, if_pos (show (n : Int) < 10 by omega), e]
   simp [show n < 10 by omega]
 ·
  have e : lebSx u n = wrap64 u := if_neg (fun h => c1 h.1)
  rw [if_neg (show ¬ 7 * (n : Int) < 64 by omega), if_neg (show ¬ (n : Int) < 10 by omega), if_pos (show 9 < (n : Int) by omega), e]
  by_cases c3 : rd g 9 = 0
  ·
   rw [if_pos c3]
   simp [c3]
  ·
   rw [if_neg c3]
   simp [c3, show ¬ n < 10 by omega]
   rfl
set_option maxRecDepth 100000 in
set_option maxHeartbeats 1000000 in
theorem lebReadS_calls (A0 : Option Addr) (c0 : Nat) (l0 : List Int) (a1 : Int) (w : World) (hr0 : Kd.C (Kd.int .u8) w A0 l0.length l0) (hc0 : l0.length ≤ c0) :
  Calls Try.prog 71 #[.agg #[.func (.func 69) #[] #[]], .slice A0 l0.length c0, .int .i64 a1] w fun e w' =>
   e = .returned (.tuple #[.int .i64 (lebReadS l0 a1).1, .int .i64 (lebReadS l0 a1).2.1, .int .i64 (lebReadS l0 a1).2.2]) ∧ Below w.heap.size w w' := by
 have HR0 := am hr0
 have hb0 := Below.refl w.heap.size w
 cases hL : lebAt l0 a1 with
 | inr er =>
  have hf : lebReadS l0 a1 = (0, 0, er) := by unfold lebReadS; rw [hL]
  rw [hf]
  have her := lebAt_err hL
  have HL := Lib.hid hL
  clear hL hf hr0
  have hu := Try.underlying122
  rcases her with rfl | rfl
  all_goals
   go_enter Try.func71, Try.ntmps71
   go_wp2_with fail
   refine (lebGroups_calls A0 c0 l0 a1 _ (Kd.C_alloc HR0.out _) hc0).mono ?_
   rintro e w' ⟨hg, rfl⟩
   obtain rfl := lebGrpOut_err HL.out hg
   clear hg
   go_wp2
   go_ret3
   exact ⟨rfl, below_alloc hb0 _⟩
 | inl n =>
  obtain ⟨h0, hn, hn10, hln⟩ := lebAt_ok hL
  have hf : lebReadS l0 a1 = if n < 10 ∨ rd (lebCut l0 a1 n) 9 = 0 ∨ rd (lebCut l0 a1 n) 9 = 127 then (lebSx (lebJn (lebCut l0 a1 n) 0 0) n, a1 + n, 0) else (0, 0, 21) := by unfold lebReadS; rw [hL]
  rw [hf]
  have hlen := lebCut_length (l0 := l0) (a1 := a1) hln
  have HLN := Lib.hid hlen
  have hone := lebS1_some _ n hn hn10 hlen
  have HL := Lib.hid hL
  have HF := Lib.hid hf
  have HONE := Lib.hid hone
  clear hL hf hr0 hone hlen
  have hu := Try.underlying122
  generalize lebSx (lebJn (lebCut l0 a1 n) 0 0) n = sx at HONE ⊢
  by_cases hok : n < 10 ∨ rd (lebCut l0 a1 n) 9 = 0 ∨ rd (lebCut l0 a1 n) 9 = 127
  ·
   have HOK := Lib.hid hok
   clear hok
   go_enter Try.func71, Try.ntmps71
   go_wp2_with fail
   refine (lebGroups_calls A0 c0 l0 a1 _ (Kd.C_alloc HR0.out _) hc0).mono ?_
   rintro e w' ⟨hg, rfl⟩
   obtain ⟨ad, rfl, rfl⟩ := lebGrpOut_ok HL.out hg
   clear hg
   have hr1 := lebCut_reads (n := n) HR0.out hc0 hn hln
   go_wp2_with fail
   have hc := leb_ReadSleb_1.calls 1001 (some (ad.add a1.toNat)) (c0 - a1.toNat) (lebCut l0 a1 n) _ _ _ (Kd.C_alloc hr1 (Obj.cells #[Value.func (Fn.func 69) #[] #[]] 122)) (by rw [HLN.out]; omega) HONE.out
   rw [HLN.out] at hc
   refine hc.mono ?_
   clear hc hr1
   rintro e w' ⟨rfl, ⟨nd, rfl⟩⟩
   have hd : decide (n < 10 ∨ rd (lebCut l0 a1 n) 9 = 0 ∨ rd (lebCut l0 a1 n) 9 = 127) = true := decide_eq_true HOK.out
   rw [hd]
   clear hd
   go_wp2
   go_ret3
   refine ⟨?_, by repeat (first | exact hb0 | apply below_alloc | apply pw_below_drewN | apply below_drew1)⟩
   rfl
  ·
   have HOK := Lib.hid hok
   clear hok
   go_enter Try.func71, Try.ntmps71
   go_wp2_with fail
   refine (lebGroups_calls A0 c0 l0 a1 _ (Kd.C_alloc HR0.out _) hc0).mono ?_
   rintro e w' ⟨hg, rfl⟩
   obtain ⟨ad, rfl, rfl⟩ := lebGrpOut_ok HL.out hg
   clear hg
   have hr1 := lebCut_reads (n := n) HR0.out hc0 hn hln
   go_wp2_with fail
   have hc := leb_ReadSleb_1.calls 1001 (some (ad.add a1.toNat)) (c0 - a1.toNat) (lebCut l0 a1 n) _ _ _ (Kd.C_alloc hr1 (Obj.cells #[Value.func (Fn.func 69) #[] #[]] 122)) (by rw [HLN.out]; omega) HONE.out
   rw [HLN.out] at hc
   refine hc.mono ?_
   clear hc hr1
   rintro e w' ⟨rfl, ⟨nd, rfl⟩⟩
   have hd : decide (n < 10 ∨ rd (lebCut l0 a1 n) 9 = 0 ∨ rd (lebCut l0 a1 n) 9 = 127) = false := decide_eq_false HOK.out
   rw [hd]
   clear hd
   go_wp2
   go_ret3
   refine ⟨?_, by repeat (first | exact hb0 | apply below_alloc | apply pw_below_drewN | apply below_drew1)⟩
   rfl
def leb_ReadSleb.f (l0 : List Int) (a1 : Int) : Option (Int × Int × Int) := some (lebReadS l0 a1)
set_option maxRecDepth 100000 in
set_option maxHeartbeats 1000000 in
theorem leb_ReadSleb.calls (A0 : Option Addr) (c0 : Nat) (l0 : List Int) (a1 : Int) (r1 : Int) (r2 : Int) (r3 : Int) (w : World) (hr0 : Kd.C (Kd.int .u8) w A0 l0.length l0) (hc0 : l0.length ≤ c0) (h : leb_ReadSleb.f l0 a1 = some (r1, r2, r3)) :
  Calls Try.prog 49 #[.slice A0 l0.length c0, .int .i64 a1] w fun e w' => e = .returned (.tuple #[.int .i64 r1, .int .i64 r2, .int .i64 r3]) ∧ Below w.heap.size w w' := by
 have HR0 := am hr0
 have hb0 := Below.refl w.heap.size w
 have HX : Hid (lebReadS l0 a1 = (r1, r2, r3)) := Lib.hid (Option.some.inj h)
 have hu := Try.underlying122
 clear hr0 h
 go_enter Try.func49, Try.ntmps49
 go_wp2_with fail
 have hc := lebReadS_calls A0 c0 l0 a1 _ (Kd.C_alloc HR0.out (Obj.cells #[Value.func (Fn.func 69) #[] #[]] 122)) hc0
 rw [HX.out] at hc
 refine hc.mono ?_
 clear hc
 rintro e w' ⟨rfl, hb1⟩
 have hb2 : Below w.heap.size w w' := below_then (below_alloc hb0 _) (by simp) hb1
 clear hb1
 replace hb2 := am hb2
 go_wp2
 go_ret3
 exact ⟨rfl, hb2.out⟩
end Go.Proofs.Ytfgfnflhdabmcaa.G
end
section
namespace Go.Proofs.Ytfgfnflhdabmcaa.G
open Go.RowKit Go.Proofs.YtfgfnflhdabmcaaW.PrintWords Go.Proofs.YtfgfnflhdabmcaaW.PrintLast Go.Proofs.YtfgfnflhdabmcaaW.PrintMore
attribute [local go_sem] max2_int min2_int max_two min_two max_three min_three max_four min_four   -- for this text's walks alone
set_option linter.unusedVariables false
set_option linter.unusedSimpArgs false
mutual
def ehframe_Get.j0 : Nat → Int → Int → Int → Int → Int → Int → Int → Int → Bool → Option (Int × Int × Int)
 | 0, _, _, _, _, _, _, _, _, _ => none
 | k + 1, x1, x3, x4, x10, x11, x12, x14, x106000, x106001 => if x12 = 0 then ((ehframe_near.f k (([x10] : List Int))).bind fun t121 => (if t121 = true then (if x106001 = true then (ehframe_Get.j1 k x1 x3 x4 x10 x11 x14 false) else (ehframe_Get.j1 k x1 x3 x4 x10 x11 x14 (decide (x10 < 0)))) else (ehframe_Get.j1 k x1 x3 x4 x10 x11 x14 true))) else (some (0, 0, x12))
def ehframe_Get.j1 : Nat → Int → Int → Int → Int → Int → Int → Bool → Option (Int × Int × Int)
 | 0, _, _, _, _, _, _, _ => none
 | k + 1, x1, x3, x4, x10, x11, x14, x79 => if x79 = true then (some (0, 0, 11)) else (if x14 = 16 then ((ehframe_near.f k (([wrap64 (x10 + (wrap64 (x3 + x1)))] : List Int))).bind fun t125 => (if t125 = true then (some (wrap64 (x10 + (wrap64 (x3 + x1))), x11, 0)) else (some (0, 0, 11)))) else (if x14 = 48 then ((ehframe_near.f k (([wrap64 (x10 + x4)] : List Int))).bind fun t129 => (if t129 = true then (some (wrap64 (x10 + x4), x11, 0)) else (some (0, 0, 11)))) else ((ehframe_near.f k (([x10] : List Int))).bind fun t133 => (if t133 = true then (some (x10, x11, 0)) else (some (0, 0, 11))))))
end
def ehframe_Get.f (k : Nat) (l0 : List Int) (a1 : Int) (a2 : Int) (a3 : Int) (a4 : Int) : Option (Int × Int × Int) := (ehframe_of.f a2).bind fun bt101 => (if bt101.2.2.2 = true then ((ehframe_near.f k (([a3, a4] : List Int))).bind fun t109 => (if t109 = true then (if bt101.1 > 0 then ((leb_Get.f k l0 a1 bt101.1 bt101.2.1).bind fun bt110 => (ehframe_Get.j0 k a1 a3 a4 bt110.1 (wrap64 (a1 + bt101.1)) bt110.2 bt101.2.2.1 bt101.1 bt101.2.1)) else (if bt101.2.1 = true then ((leb_ReadSleb.f l0 a1).bind fun bt112 => (ehframe_Get.j0 k a1 a3 a4 bt112.1 bt112.2.1 bt112.2.2 bt101.2.2.1 bt101.1 bt101.2.1)) else ((leb_ReadUleb.f l0 a1).bind fun bt115 => (ehframe_Get.j0 k a1 a3 a4 bt115.1 bt115.2.1 bt115.2.2 bt101.2.2.1 bt101.1 bt101.2.1)))) else (some (0, 0, 11)))) else (some (0, 0, 140)))
set_option maxHeartbeats 8000000 in
set_option maxRecDepth 100000 in
theorem ehframe_Get.calls (k : Nat) (A0 : Option Addr) (c0 : Nat) (l0 : List Int) (a1 : Int) (a2 : Int) (a3 : Int) (a4 : Int) (r1 : Int) (r2 : Int) (r3 : Int) (w : World) (hr0 : Kd.C (Kd.int .u8) w A0 l0.length l0) (hc0 : l0.length ≤ c0) (h : ehframe_Get.f k l0 a1 a2 a3 a4 = some (r1, r2, r3)) :
  Calls Try.prog 18 #[.slice A0 l0.length c0, .int .i64 a1, .int .i64 a2, .int .i64 a3, .int .i64 a4] w fun e w' => e = .returned (.tuple #[.int .i64 r1, .int .i64 r2, .int .i64 r3]) ∧ Below w.heap.size w w' := by
 have hu76 := Try.underlying76
 have HR0 := am hr0
 have HC0 := am hc0
 clear hr0 hc0
 have HB := am (Below.refl w.heap.size w)
 have H : ((ehframe_of.f a2).bind fun bt101 => (if bt101.2.2.2 = true then ((ehframe_near.f k (([a3, a4] : List Int))).bind fun t109 => (if t109 = true then (if bt101.1 > 0 then ((leb_Get.f k l0 a1 bt101.1 bt101.2.1).bind fun bt110 => (ehframe_Get.j0 k a1 a3 a4 bt110.1 (wrap64 (a1 + bt101.1)) bt110.2 bt101.2.2.1 bt101.1 bt101.2.1)) else (if bt101.2.1 = true then ((leb_ReadSleb.f l0 a1).bind fun bt112 => (ehframe_Get.j0 k a1 a3 a4 bt112.1 bt112.2.1 bt112.2.2 bt101.2.2.1 bt101.1 bt101.2.1)) else ((leb_ReadUleb.f l0 a1).bind fun bt115 => (ehframe_Get.j0 k a1 a3 a4 bt115.1 bt115.2.1 bt115.2.2 bt101.2.2.1 bt101.1 bt101.2.1)))) else (some (0, 0, 11)))) else (some (0, 0, 140)))) = some (r1, r2, r3) := h
 clear h
 replace H := Option.bind_eq_some_iff.mp H
 obtain ⟨⟨t101, t102, t103, t104⟩, A60, H⟩ := H
 replace H : (if t104 = true then ((ehframe_near.f k (([a3, a4] : List Int))).bind fun t109 => (if t109 = true then (if t101 > 0 then ((leb_Get.f k l0 a1 t101 t102).bind fun bt110 => (ehframe_Get.j0 k a1 a3 a4 bt110.1 (wrap64 (a1 + t101)) bt110.2 t103 t101 t102)) else (if t102 = true then ((leb_ReadSleb.f l0 a1).bind fun bt112 => (ehframe_Get.j0 k a1 a3 a4 bt112.1 bt112.2.1 bt112.2.2 t103 t101 t102)) else ((leb_ReadUleb.f l0 a1).bind fun bt115 => (ehframe_Get.j0 k a1 a3 a4 bt115.1 bt115.2.1 bt115.2.2 t103 t101 t102)))) else (some (0, 0, 11)))) else (some (0, 0, 140))) = some (r1, r2, r3) := H
 have A6 := am A60
 clear A60
 by_cases c7 : t104 = true
 ·
  subst c7
  have H1 : ((ehframe_near.f k (([a3, a4] : List Int))).bind fun t109 => (if t109 = true then (if t101 > 0 then ((leb_Get.f k l0 a1 t101 t102).bind fun bt110 => (ehframe_Get.j0 k a1 a3 a4 bt110.1 (wrap64 (a1 + t101)) bt110.2 t103 t101 t102)) else (if t102 = true then ((leb_ReadSleb.f l0 a1).bind fun bt112 => (ehframe_Get.j0 k a1 a3 a4 bt112.1 bt112.2.1 bt112.2.2 t103 t101 t102)) else ((leb_ReadUleb.f l0 a1).bind fun bt115 => (ehframe_Get.j0 k a1 a3 a4 bt115.1 bt115.2.1 bt115.2.2 t103 t101 t102)))) else (some (0, 0, 11)))) = some (r1, r2, r3) := by rw [if_pos rfl] at H; exact H
  clear H
  have H := H1
  clear H1
  obtain ⟨y106, hy106⟩ : ∃ y_ : List Int, y_ = (([a3, a4] : List Int)) := ⟨_, rfl⟩
  replace H : ((ehframe_near.f k y106).bind fun t109 => (if t109 = true then (if t101 > 0 then ((leb_Get.f k l0 a1 t101 t102).bind fun bt110 => (ehframe_Get.j0 k a1 a3 a4 bt110.1 (wrap64 (a1 + t101)) bt110.2 t103 t101 t102)) else (if t102 = true then ((leb_ReadSleb.f l0 a1).bind fun bt112 => (ehframe_Get.j0 k a1 a3 a4 bt112.1 bt112.2.1 bt112.2.2 t103 t101 t102)) else ((leb_ReadUleb.f l0 a1).bind fun bt115 => (ehframe_Get.j0 k a1 a3 a4 bt115.1 bt115.2.1 bt115.2.2 t103 t101 t102)))) else (some (0, 0, 11)))) = some (r1, r2, r3) := by first | (rw [hy106]; with_reducible exact H) | (have H2_ := (Option.bind_some _ _).symm.trans H; rw [hy106]; with_reducible exact H2_)
  have Ny106 := am hy106
  clear hy106
  replace H := Option.bind_eq_some_iff.mp H
  obtain ⟨t109, A80, H⟩ := H
  replace H : (if t109 = true then (if t101 > 0 then ((leb_Get.f k l0 a1 t101 t102).bind fun bt110 => (ehframe_Get.j0 k a1 a3 a4 bt110.1 (wrap64 (a1 + t101)) bt110.2 t103 t101 t102)) else (if t102 = true then ((leb_ReadSleb.f l0 a1).bind fun bt112 => (ehframe_Get.j0 k a1 a3 a4 bt112.1 bt112.2.1 bt112.2.2 t103 t101 t102)) else ((leb_ReadUleb.f l0 a1).bind fun bt115 => (ehframe_Get.j0 k a1 a3 a4 bt115.1 bt115.2.1 bt115.2.2 t103 t101 t102)))) else (some (0, 0, 11))) = some (r1, r2, r3) := H
  have A8 := am A80
  clear A80
  by_cases c9 : t109 = true
  ·
   subst c9
   have H1 : (if t101 > 0 then ((leb_Get.f k l0 a1 t101 t102).bind fun bt110 => (ehframe_Get.j0 k a1 a3 a4 bt110.1 (wrap64 (a1 + t101)) bt110.2 t103 t101 t102)) else (if t102 = true then ((leb_ReadSleb.f l0 a1).bind fun bt112 => (ehframe_Get.j0 k a1 a3 a4 bt112.1 bt112.2.1 bt112.2.2 t103 t101 t102)) else ((leb_ReadUleb.f l0 a1).bind fun bt115 => (ehframe_Get.j0 k a1 a3 a4 bt115.1 bt115.2.1 bt115.2.2 t103 t101 t102)))) = some (r1, r2, r3) := by rw [if_pos rfl] at H; exact H
   clear H
   have H := H1
   clear H1
   have HC10 := am H
   clear H
   go_enter Try.func18, Try.ntmps18
   go_upto_block 0 with (first | ((with_reducible refine gate_callee (f := 29) rfl ?_); refine goesL_ (some 18) rfl rfl Try.func29 (by kernel_rfl) rfl #[.int .i64 a2] rfl (by simp only [List.map_toArray, List.map_cons, List.map_nil]; try rfl) ?_; (with_reducible refine (ehframe_of.calls a2 t101 t102 t103 true _ A6.out).mono ?_); rintro e w11 ⟨rfl, hb⟩; refine ⟨_, rfl, ?_⟩; have n0_ := am (below_step (by exact bl_o HB.out) hb); clear HB; have HB := n0_; clear n0_; (try clear hb); (try clear hb2); (try clear hk); (try clear hi)) | ((with_reducible refine gate_dst (N := 13) rfl ?_); refine box_event ?hg (N := 13) ?hd (cs := #[.int .i64 0, .bool false]) (t := 76) ?hr ?_; (case hd => rfl); (case hg => rfl); (case hr => go_simp; try rfl); intro gb105 hg w12 hbox hb; have n0_ := am (below_step (by exact bl_o HB.out) hb); have n1_ := am (hbox); have n2_ := lei (by rw [hg]; exact (below_size (by exact bl_o HB.out)) : w.heap.size ≤ gb105); have n3_ := n2_; clear HB; have HB := n0_; have BK105 := n1_; have GW105 := n2_; have GE105 := n3_; clear n0_ n1_ n2_ n3_; clear hb hbox hg; obtain ⟨hcz13_0, hcz13_1, hfz13_0, hfz13_1⟩ := cells2 BK105.out) | ((with_reducible refine gate_dst (N := 26) rfl ?_); refine Kd.R_lit (Kd.int .i64) _ 3 ?hg (N := 26) ?hd (xs := ([a3, a4] : List Int)) (inner := [.int .i64 a3, .int .i64 a4]) (ok := fun _ => True) (okp := fun _ => True) ?hr ?hp (fun _ hk => hk) trivial (Below.refl _ _) (Nat.le_refl _) (by simp) ?_; (case hd => rfl); (case hg => rfl); (case hr => go_simp; try rfl); (case hp => exact (Reps.one (show Kd.M (Kd.int .i64) _ _ _ a3 [.int .i64 a3] from rfl) (Reps.one (show Kd.M (Kd.int .i64) _ _ _ a4 [.int .i64 a4] from rfl) (Reps.none _ _)))); intro v107 w14 ho15 hb hg_ hnew_; clear hg_ hnew_; (first | rw [← Ny106.out] at ho15 | (simp only [Int.reduceToNat] at ho15; rw [← Ny106.out] at ho15)); have n0_ := am (Kd.R_lower ho15 (below_size (by exact bl_g HB.out))); have n1_ := am (blk_below (g := gb105) (o := .cells #[.int .i64 t101, .bool t102] 76 (0, 0)) (by (with_reducible repeat (first | refine blk_drewN ?_ _ | refine blk_drew ?_ | refine blk_alloc ?_ _)); refine blk_put (cs := #[.int .i64 t101, .bool false]) ?_ 1 _ rfl; (with_reducible repeat (first | refine blk_drewN ?_ _ | refine blk_drew ?_ | refine blk_alloc ?_ _)); refine blk_put (cs := #[.int .i64 0, .bool false]) ?_ 0 _ rfl; (with_reducible repeat (first | refine blk_drewN ?_ _ | refine blk_drew ?_ | refine blk_alloc ?_ _)); exact BK105.out) hb); have n2_ := am (below_step (by exact bl_g HB.out) hb); clear BK105; clear HB; have HO108 := n0_; have BK105 := n1_; have HB := n2_; clear n0_ n1_ n2_; clear hb ho15; obtain ⟨Ao16, co16, eo16⟩ := Kd.R_slice HO108.out; subst eo16) | ((with_reducible refine gate_callee (f := 30) rfl ?_); refine goesL_ (some 27) rfl rfl Try.func30 (by kernel_rfl) rfl #[.slice Ao16 y106.length co16] rfl (by simp only [List.map_toArray, List.map_cons, List.map_nil]; try rfl) ?_; (with_reducible refine (ehframe_near.calls k _ _ y106 true _ ?side1 ?side2 A8.out).mono ?_); (case side1 => exact Kd.C_o ((Kd.R_reads' HO108.out).2.2)); (case side2 => exact (Kd.R_reads' HO108.out).2.1); rintro e w' ⟨rfl, ⟨nd, rfl⟩⟩; refine ⟨_, rfl, ?_⟩))
   (try simp only [Act.put, List.setIfInBounds_toArray, List.set_cons_zero, List.set_cons_succ])
   go_cut [10, 11, 12] (fun v10 v11 v12 wc => ∃ (kq : Nat) (x10_9 : Int) (x11_9 : Int) (x12_9 : Int), v10 = .int .i64 x10_9 ∧ v11 = .int .i64 x11_9 ∧ v12 = .int .i64 x12_9 ∧ Aside0 (ehframe_Get.j0 kq a1 a3 a4 x10_9 x11_9 x12_9 t103 t101 t102 = some (r1, r2, r3)) ∧ Aside0 (kq ≤ k) ∧ Aside0 (wc.heap[gb105]? = some (.cells #[.int .i64 t101, .bool t102] 76 (0, 0))) ∧ Aside0 (Below w.heap.size w wc))
   case first =>
    have H := HC10.out
    clear HC10
    by_cases c17 : t101 > 0
    ·
     rw [if_pos c17] at H
     have c17b0 : decide (0 < t101) = true := decide_eq_true c17
     clear c17
     (first | rw [c17b0] | (simp only [i64_w, i32_w]; rw [c17b0]) | skip)
     replace H := Option.bind_eq_some_iff.mp H
     obtain ⟨⟨t110, t111⟩, A180, H⟩ := H
     replace H : (ehframe_Get.j0 k a1 a3 a4 t110 (wrap64 (a1 + t101)) t111 t103 t101 t102) = some (r1, r2, r3) := H
     have A18 := am A180
     clear A180
     have H' := am H
     clear H
     obtain ⟨hcz19_0, hcz19_1, hfz19_0, hfz19_1⟩ := cells2 BK105.out
     go_wp2_with (first | ((with_reducible refine gate_callee (f := 48) rfl ?_); refine goesL_ (some 47) rfl rfl Try.func48 (by kernel_rfl) rfl #[.slice A0 l0.length c0, .int .i64 a1, .int .i64 t101, .bool t102] rfl (by simp only [List.map_toArray, List.map_cons, List.map_nil]; try rfl) ?_; (with_reducible refine (leb_Get.calls k _ _ l0 a1 t101 t102 t110 t111 _ ?side1 ?side2 A18.out).mono ?_); (case side1 => exact Kd.C_o (Kd.C_below HR0.out HB.out)); (case side2 => exact HC0.out); rintro e w' ⟨rfl, ⟨nd, rfl⟩⟩; refine ⟨_, rfl, ?_⟩))
     go_meet
     case rel => exact ⟨_, (t110), (wrap64 (a1 + t101)), (t111), (by first | rfl | (simp; done) | (simp [*]; done)), (by first | rfl | (simp; done) | (simp [*]; done)), (by first | rfl | (simp; done) | (simp [*]; done)), H', ⟨by first | omega | exact Nat.le_refl _⟩, ⟨by (with_reducible repeat (first | refine blk_drewN ?_ _ | refine blk_drew ?_ | refine blk_alloc ?_ _)); exact BK105.out⟩, ⟨by exact bl_g HB.out⟩⟩
    ·
     rw [if_neg c17] at H
     have c17b0 : decide (0 < t101) = false := decide_eq_false c17
     clear c17
     (first | rw [c17b0] | (simp only [i64_w, i32_w]; rw [c17b0]) | skip)
     by_cases c20 : t102 = true
     ·
      subst c20
      have H1 : ((leb_ReadSleb.f l0 a1).bind fun bt112 => (ehframe_Get.j0 k a1 a3 a4 bt112.1 bt112.2.1 bt112.2.2 t103 t101 true)) = some (r1, r2, r3) := by rw [if_pos rfl] at H; exact H
      clear H
      have H := H1
      clear H1
      replace H := Option.bind_eq_some_iff.mp H
      obtain ⟨⟨t112, t113, t114⟩, A210, H⟩ := H
      replace H : (ehframe_Get.j0 k a1 a3 a4 t112 t113 t114 t103 t101 true) = some (r1, r2, r3) := H
      have A21 := am A210
      clear A210
      have H' := am H
      clear H
      obtain ⟨hcz22_0, hcz22_1, hfz22_0, hfz22_1⟩ := cells2 BK105.out
      go_wp2_with (first | ((with_reducible refine gate_callee (f := 49) rfl ?_); refine goesL_ (some 60) rfl rfl Try.func49 (by kernel_rfl) rfl #[.slice A0 l0.length c0, .int .i64 a1] rfl (by simp only [List.map_toArray, List.map_cons, List.map_nil]; try rfl) ?_; (with_reducible refine (leb_ReadSleb.calls _ _ l0 a1 t112 t113 t114 _ ?side1 ?side2 A21.out).mono ?_); (case side1 => exact Kd.C_o (Kd.C_below HR0.out HB.out)); (case side2 => exact HC0.out); rintro e w23 ⟨rfl, hb⟩; refine ⟨_, rfl, ?_⟩; have n0_ := am (Kd.R_below (Kd.R_o HO108.out) hb); have n1_ := am (blk_below (blk_o BK105.out) hb); have n2_ := am (below_step (by exact bl_g HB.out) hb); clear HO108; clear BK105; clear HB; have HO108 := n0_; have BK105 := n1_; have HB := n2_; clear n0_ n1_ n2_; (try clear hb); (try clear hb2); (try clear hk); (try clear hi)))
      go_meet
      case rel => exact ⟨_, (t112), (t113), (t114), (by first | rfl | (simp; done) | (simp [*]; done)), (by first | rfl | (simp; done) | (simp [*]; done)), (by first | rfl | (simp; done) | (simp [*]; done)), H', ⟨by first | omega | exact Nat.le_refl _⟩, ⟨by (with_reducible repeat (first | refine blk_drewN ?_ _ | refine blk_drew ?_ | refine blk_alloc ?_ _)); exact BK105.out⟩, ⟨by exact bl_g HB.out⟩⟩
     ·
      replace c20 := Bool.eq_false_iff.mpr c20
      subst c20
      have H1 : ((leb_ReadUleb.f l0 a1).bind fun bt115 => (ehframe_Get.j0 k a1 a3 a4 bt115.1 bt115.2.1 bt115.2.2 t103 t101 false)) = some (r1, r2, r3) := by rw [if_neg (show ¬ (false = true) by decide)] at H; exact H
      clear H
      have H := H1
      clear H1
      replace H := Option.bind_eq_some_iff.mp H
      obtain ⟨⟨t115, t116, t117⟩, A240, H⟩ := H
      replace H : (ehframe_Get.j0 k a1 a3 a4 t115 t116 t117 t103 t101 false) = some (r1, r2, r3) := H
      have A24 := am A240
      clear A240
      have H' := am H
      clear H
      obtain ⟨hcz25_0, hcz25_1, hfz25_0, hfz25_1⟩ := cells2 BK105.out
      go_wp2_with (first | ((with_reducible refine gate_callee (f := 50) rfl ?_); refine goesL_ (some 32) rfl rfl Try.func50 (by kernel_rfl) rfl #[.slice A0 l0.length c0, .int .i64 a1] rfl (by simp only [List.map_toArray, List.map_cons, List.map_nil]; try rfl) ?_; (with_reducible refine (leb_ReadUleb.calls _ _ l0 a1 t115 t116 t117 _ ?side1 ?side2 A24.out).mono ?_); (case side1 => exact Kd.C_o (Kd.C_below HR0.out HB.out)); (case side2 => exact HC0.out); rintro e w26 ⟨rfl, hb⟩; refine ⟨_, rfl, ?_⟩; have n0_ := am (Kd.R_below (Kd.R_o HO108.out) hb); have n1_ := am (blk_below (blk_o BK105.out) hb); have n2_ := am (below_step (by exact bl_g HB.out) hb); clear HO108; clear BK105; clear HB; have HO108 := n0_; have BK105 := n1_; have HB := n2_; clear n0_ n1_ n2_; (try clear hb); (try clear hb2); (try clear hk); (try clear hi)))
      go_meet
      case rel => exact ⟨_, (t115), (t116), (t117), (by first | rfl | (simp; done) | (simp [*]; done)), (by first | rfl | (simp; done) | (simp [*]; done)), (by first | rfl | (simp; done) | (simp [*]; done)), H', ⟨by first | omega | exact Nat.le_refl _⟩, ⟨by (with_reducible repeat (first | refine blk_drewN ?_ _ | refine blk_drew ?_ | refine blk_alloc ?_ _)); exact BK105.out⟩, ⟨by exact bl_g HB.out⟩⟩
   case rest =>
    clear HC10
    try clear c1
    try clear c2
    try clear p2
    try clear c3
    try clear c4
    try clear c5
    try clear p6
    try clear c7
    try clear c9
    try clear c17
    try clear c17b0
    try clear c18
    try clear c20
    try clear hcz13_0
    try clear hcz13_1
    try clear hcz19_0
    try clear hcz19_1
    try clear hcz22_0
    try clear hcz22_1
    try clear hcz25_0
    try clear hcz25_1
    try clear hfz13_0
    try clear hfz13_1
    try clear hfz19_0
    try clear hfz19_1
    try clear hfz22_0
    try clear hfz22_1
    try clear hfz25_0
    try clear hfz25_1
    obtain ⟨kq, x10_9, x11_9, x12_9, rfl, rfl, rfl, HA, HJ9, BK105, HB⟩ := hcut
    cases kq with
    | zero => exact absurd HA.out (by simp [ehframe_Get.j0])
    | succ kj9 =>
     have H := HA.out
     clear HA
     simp only [ehframe_Get.j0] at H
     by_cases c27 : x12_9 = 0
     ·
      rw [if_pos c27] at H
      have c27b0 : (x12_9 == 0) = true := beq_iff_eq.mpr c27
      have c27b1 : (x12_9 != 0) = false := bne_eq_false_iff_eq.mpr c27
      clear c27
      have HC28 := am H
      clear H
      go_upto_region 14 with (fail)
      go_cut [79] (fun v79 wc => ∃ (kq : Nat) (x79_27 : Bool), v79 = .bool x79_27 ∧ Aside0 (ehframe_Get.j1 kq a1 a3 a4 x10_9 x11_9 t103 x79_27 = some (r1, r2, r3)) ∧ Aside0 (kq ≤ kj9) ∧ Aside0 (wc.heap[gb105]? = some (.cells #[.int .i64 t101, .bool t102] 76 (0, 0))) ∧ Aside0 (Below w.heap.size w wc))
      case first =>
       have H := HC28.out
       clear HC28
       obtain ⟨y118, hy118⟩ : ∃ y_ : List Int, y_ = (([x10_9] : List Int)) := ⟨_, rfl⟩
       replace H : ((ehframe_near.f kj9 y118).bind fun t121 => (if t121 = true then (if t102 = true then (ehframe_Get.j1 kj9 a1 a3 a4 x10_9 x11_9 t103 false) else (ehframe_Get.j1 kj9 a1 a3 a4 x10_9 x11_9 t103 (decide (x10_9 < 0)))) else (ehframe_Get.j1 kj9 a1 a3 a4 x10_9 x11_9 t103 true))) = some (r1, r2, r3) := by first | (rw [hy118]; with_reducible exact H) | (have H2_ := (Option.bind_some _ _).symm.trans H; rw [hy118]; with_reducible exact H2_)
       have Ny118 := am hy118
       clear hy118
       replace H := Option.bind_eq_some_iff.mp H
       obtain ⟨t121, A290, H⟩ := H
       replace H : (if t121 = true then (if t102 = true then (ehframe_Get.j1 kj9 a1 a3 a4 x10_9 x11_9 t103 false) else (ehframe_Get.j1 kj9 a1 a3 a4 x10_9 x11_9 t103 (decide (x10_9 < 0)))) else (ehframe_Get.j1 kj9 a1 a3 a4 x10_9 x11_9 t103 true)) = some (r1, r2, r3) := H
       have A29 := am A290
       clear A290
       by_cases c30 : t121 = true
       ·
        subst c30
        have H1 : (if t102 = true then (ehframe_Get.j1 kj9 a1 a3 a4 x10_9 x11_9 t103 false) else (ehframe_Get.j1 kj9 a1 a3 a4 x10_9 x11_9 t103 (decide (x10_9 < 0)))) = some (r1, r2, r3) := by rw [if_pos rfl] at H; exact H
        clear H
        have H := H1
        clear H1
        by_cases c31 : t102 = true
        ·
         subst c31
         have H1 : (ehframe_Get.j1 kj9 a1 a3 a4 x10_9 x11_9 t103 false) = some (r1, r2, r3) := by rw [if_pos rfl] at H; exact H
         clear H
         have H := H1
         clear H1
         have H' := am H
         clear H
         go_wp2_with (first | ((with_reducible refine gate_dst (N := 68) rfl ?_); refine Kd.R_lit (Kd.int .i64) _ 3 ?hg (N := 68) ?hd (xs := ([x10_9] : List Int)) (inner := [.int .i64 x10_9]) (ok := fun _ => True) (okp := fun _ => True) ?hr ?hp (fun _ hk => hk) trivial (Below.refl _ _) (Nat.le_refl _) (by simp) ?_; (case hd => rfl); (case hg => rfl); (case hr => go_simp; try rfl); (case hp => exact (Reps.one (show Kd.M (Kd.int .i64) _ _ _ x10_9 [.int .i64 x10_9] from rfl) (Reps.none _ _))); intro v119 w32 ho33 hb hg_ hnew_; clear hg_ hnew_; (first | rw [← Ny118.out] at ho33 | (simp only [Int.reduceToNat] at ho33; rw [← Ny118.out] at ho33)); have n0_ := am (Kd.R_lower ho33 (below_size (by exact bl_g HB.out))); have n1_ := am (blk_below (blk_o BK105.out) hb); have n2_ := am (below_step (by exact bl_g HB.out) hb); clear BK105; clear HB; have HO120 := n0_; have BK105 := n1_; have HB := n2_; clear n0_ n1_ n2_; clear hb ho33; obtain ⟨Ao34, co34, eo34⟩ := Kd.R_slice HO120.out; subst eo34) | ((with_reducible refine gate_callee (f := 30) rfl ?_); refine goesL_ (some 69) rfl rfl Try.func30 (by kernel_rfl) rfl #[.slice Ao34 y118.length co34] rfl (by simp only [List.map_toArray, List.map_cons, List.map_nil]; try rfl) ?_; (with_reducible refine (ehframe_near.calls kj9 _ _ y118 true _ ?side1 ?side2 A29.out).mono ?_); (case side1 => exact Kd.C_o ((Kd.R_reads' HO120.out).2.2)); (case side2 => exact (Kd.R_reads' HO120.out).2.1); rintro e w' ⟨rfl, ⟨nd, rfl⟩⟩; refine ⟨_, rfl, ?_⟩; obtain ⟨hcz35_0, hcz35_1, hfz35_0, hfz35_1⟩ := cells2 BK105.out))
         go_meet
         case rel => exact ⟨_, (false), (by first | rfl | (simp; done) | (simp [*]; done)), H', ⟨by have := HJ9.out; first | omega | exact Nat.le_refl _⟩, ⟨by (with_reducible repeat (first | refine blk_drewN ?_ _ | refine blk_drew ?_ | refine blk_alloc ?_ _)); exact BK105.out⟩, ⟨by exact bl_g HB.out⟩⟩
        ·
         replace c31 := Bool.eq_false_iff.mpr c31
         subst c31
         have H1 : (ehframe_Get.j1 kj9 a1 a3 a4 x10_9 x11_9 t103 (decide (x10_9 < 0))) = some (r1, r2, r3) := by rw [if_neg (show ¬ (false = true) by decide)] at H; exact H
         clear H
         have H := H1
         clear H1
         have H' := am H
         clear H
         go_wp2_with (first | ((with_reducible refine gate_dst (N := 68) rfl ?_); refine Kd.R_lit (Kd.int .i64) _ 3 ?hg (N := 68) ?hd (xs := ([x10_9] : List Int)) (inner := [.int .i64 x10_9]) (ok := fun _ => True) (okp := fun _ => True) ?hr ?hp (fun _ hk => hk) trivial (Below.refl _ _) (Nat.le_refl _) (by simp) ?_; (case hd => rfl); (case hg => rfl); (case hr => go_simp; try rfl); (case hp => exact (Reps.one (show Kd.M (Kd.int .i64) _ _ _ x10_9 [.int .i64 x10_9] from rfl) (Reps.none _ _))); intro v119 w36 ho37 hb hg_ hnew_; clear hg_ hnew_; (first | rw [← Ny118.out] at ho37 | (simp only [Int.reduceToNat] at ho37; rw [← Ny118.out] at ho37)); have n0_ := am (Kd.R_lower ho37 (below_size (by exact bl_g HB.out))); have n1_ := am (blk_below (blk_o BK105.out) hb); have n2_ := am (below_step (by exact bl_g HB.out) hb); clear BK105; clear HB; have HO120 := n0_; have BK105 := n1_; have HB := n2_; clear n0_ n1_ n2_; clear hb ho37; obtain ⟨Ao38, co38, eo38⟩ := Kd.R_slice HO120.out; subst eo38) | ((with_reducible refine gate_callee (f := 30) rfl ?_); refine goesL_ (some 69) rfl rfl Try.func30 (by kernel_rfl) rfl #[.slice Ao38 y118.length co38] rfl (by simp only [List.map_toArray, List.map_cons, List.map_nil]; try rfl) ?_; (with_reducible refine (ehframe_near.calls kj9 _ _ y118 true _ ?side1 ?side2 A29.out).mono ?_); (case side1 => exact Kd.C_o ((Kd.R_reads' HO120.out).2.2)); (case side2 => exact (Kd.R_reads' HO120.out).2.1); rintro e w' ⟨rfl, ⟨nd, rfl⟩⟩; refine ⟨_, rfl, ?_⟩; obtain ⟨hcz39_0, hcz39_1, hfz39_0, hfz39_1⟩ := cells2 BK105.out))
         go_meet
         case rel => exact ⟨_, (decide (x10_9 < 0)), (by first | rfl | (simp; done) | (simp [*]; done)), H', ⟨by have := HJ9.out; first | omega | exact Nat.le_refl _⟩, ⟨by (with_reducible repeat (first | refine blk_drewN ?_ _ | refine blk_drew ?_ | refine blk_alloc ?_ _)); exact BK105.out⟩, ⟨by exact bl_g HB.out⟩⟩
       ·
        replace c30 := Bool.eq_false_iff.mpr c30
        subst c30
        have H1 : (ehframe_Get.j1 kj9 a1 a3 a4 x10_9 x11_9 t103 true) = some (r1, r2, r3) := by rw [if_neg (show ¬ (false = true) by decide)] at H; exact H
        clear H
        have H := H1
        clear H1
        have H' := am H
        clear H
        go_wp2_with (first | ((with_reducible refine gate_dst (N := 68) rfl ?_); refine Kd.R_lit (Kd.int .i64) _ 3 ?hg (N := 68) ?hd (xs := ([x10_9] : List Int)) (inner := [.int .i64 x10_9]) (ok := fun _ => True) (okp := fun _ => True) ?hr ?hp (fun _ hk => hk) trivial (Below.refl _ _) (Nat.le_refl _) (by simp) ?_; (case hd => rfl); (case hg => rfl); (case hr => go_simp; try rfl); (case hp => exact (Reps.one (show Kd.M (Kd.int .i64) _ _ _ x10_9 [.int .i64 x10_9] from rfl) (Reps.none _ _))); intro v119 w40 ho41 hb hg_ hnew_; clear hg_ hnew_; (first | rw [← Ny118.out] at ho41 | (simp only [Int.reduceToNat] at ho41; rw [← Ny118.out] at ho41)); have n0_ := am (Kd.R_lower ho41 (below_size (by exact bl_g HB.out))); have n1_ := am (blk_below (blk_o BK105.out) hb); have n2_ := am (below_step (by exact bl_g HB.out) hb); clear BK105; clear HB; have HO120 := n0_; have BK105 := n1_; have HB := n2_; clear n0_ n1_ n2_; clear hb ho41; obtain ⟨Ao42, co42, eo42⟩ := Kd.R_slice HO120.out; subst eo42) | ((with_reducible refine gate_callee (f := 30) rfl ?_); refine goesL_ (some 69) rfl rfl Try.func30 (by kernel_rfl) rfl #[.slice Ao42 y118.length co42] rfl (by simp only [List.map_toArray, List.map_cons, List.map_nil]; try rfl) ?_; (with_reducible refine (ehframe_near.calls kj9 _ _ y118 false _ ?side1 ?side2 A29.out).mono ?_); (case side1 => exact Kd.C_o ((Kd.R_reads' HO120.out).2.2)); (case side2 => exact (Kd.R_reads' HO120.out).2.1); rintro e w' ⟨rfl, ⟨nd, rfl⟩⟩; refine ⟨_, rfl, ?_⟩))
        go_meet
        case rel => exact ⟨_, (true), (by first | rfl | (simp; done) | (simp [*]; done)), H', ⟨by have := HJ9.out; first | omega | exact Nat.le_refl _⟩, ⟨by (with_reducible repeat (first | refine blk_drewN ?_ _ | refine blk_drew ?_ | refine blk_alloc ?_ _)); exact BK105.out⟩, ⟨by exact bl_g HB.out⟩⟩
      case rest =>
       clear HC28
       try clear c1
       try clear c2
       try clear p2
       try clear c3
       try clear c4
       try clear c5
       try clear p6
       try clear c7
       try clear c9
       try clear c17
       try clear c17b0
       try clear c18
       try clear c20
       try clear c27
       try clear c27b0
       try clear c27b1
       try clear c29
       try clear c30
       try clear c31
       try clear hcz13_0
       try clear hcz13_1
       try clear hcz19_0
       try clear hcz19_1
       try clear hcz22_0
       try clear hcz22_1
       try clear hcz25_0
       try clear hcz25_1
       try clear hcz35_0
       try clear hcz35_1
       try clear hcz39_0
       try clear hcz39_1
       try clear hfz13_0
       try clear hfz13_1
       try clear hfz19_0
       try clear hfz19_1
       try clear hfz22_0
       try clear hfz22_1
       try clear hfz25_0
       try clear hfz25_1
       try clear hfz35_0
       try clear hfz35_1
       try clear hfz39_0
       try clear hfz39_1
       try clear p2
       try clear p6
       obtain ⟨kq, x79_27, rfl, HA, HJ27, BK105, HB⟩ := hcut
       cases kq with
       | zero => exact absurd HA.out (by simp [ehframe_Get.j1])
       | succ kj27 =>
        have H := HA.out
        clear HA
        simp only [ehframe_Get.j1] at H
        by_cases c43 : x79_27 = true
        ·
         subst c43
         have H1 : (some (0, 0, 11)) = some (r1, r2, r3) := by rw [if_pos rfl] at H; exact H
         clear H
         have H := H1
         clear H1
         simp only [Option.some.injEq, Prod.mk.injEq] at H
         obtain ⟨rfl, rfl, rfl⟩ := H
         go_wp2
         go_ret3
         exact ⟨rfl, by exact bl_g HB.out⟩
        ·
         replace c43 := Bool.eq_false_iff.mpr c43
         subst c43
         have H1 : (if t103 = 16 then ((ehframe_near.f kj27 (([wrap64 (x10_9 + (wrap64 (a3 + a1)))] : List Int))).bind fun t125 => (if t125 = true then (some (wrap64 (x10_9 + (wrap64 (a3 + a1))), x11_9, 0)) else (some (0, 0, 11)))) else (if t103 = 48 then ((ehframe_near.f kj27 (([wrap64 (x10_9 + a4)] : List Int))).bind fun t129 => (if t129 = true then (some (wrap64 (x10_9 + a4), x11_9, 0)) else (some (0, 0, 11)))) else ((ehframe_near.f kj27 (([x10_9] : List Int))).bind fun t133 => (if t133 = true then (some (x10_9, x11_9, 0)) else (some (0, 0, 11)))))) = some (r1, r2, r3) := by rw [if_neg (show ¬ (false = true) by decide)] at H; exact H
         clear H
         have H := H1
         clear H1
         by_cases c44 : t103 = 16
         ·
          rw [if_pos c44] at H
          have c44b0 : (t103 == 16) = true := beq_iff_eq.mpr c44
          have c44b1 : (t103 != 16) = false := bne_eq_false_iff_eq.mpr c44
          clear c44
          obtain ⟨y122, hy122⟩ : ∃ y_ : List Int, y_ = (([wrap64 (x10_9 + (wrap64 (a3 + a1)))] : List Int)) := ⟨_, rfl⟩
          replace H : ((ehframe_near.f kj27 y122).bind fun t125 => (if t125 = true then (some (wrap64 (x10_9 + (wrap64 (a3 + a1))), x11_9, 0)) else (some (0, 0, 11)))) = some (r1, r2, r3) := by first | (rw [hy122]; with_reducible exact H) | (have H2_ := (Option.bind_some _ _).symm.trans H; rw [hy122]; with_reducible exact H2_)
          have Ny122 := am hy122
          clear hy122
          replace H := Option.bind_eq_some_iff.mp H
          obtain ⟨t125, A450, H⟩ := H
          replace H : (if t125 = true then (some (wrap64 (x10_9 + (wrap64 (a3 + a1))), x11_9, 0)) else (some (0, 0, 11))) = some (r1, r2, r3) := H
          have A45 := am A450
          clear A450
          by_cases c46 : t125 = true
          ·
           subst c46
           have H1 : (some (wrap64 (x10_9 + (wrap64 (a3 + a1))), x11_9, 0)) = some (r1, r2, r3) := by rw [if_pos rfl] at H; exact H
           clear H
           have H := H1
           clear H1
           simp only [Option.some.injEq, Prod.mk.injEq] at H
           obtain ⟨rfl, rfl, rfl⟩ := H
           go_wp2_with (first | ((with_reducible refine gate_dst (N := 94) rfl ?_); refine Kd.R_lit (Kd.int .i64) _ 3 ?hg (N := 94) ?hd (xs := ([wrap64 (x10_9 + (wrap64 (a3 + a1)))] : List Int)) (inner := [.int .i64 (wrap64 (x10_9 + (wrap64 (a3 + a1))))]) (ok := fun _ => True) (okp := fun _ => True) ?hr ?hp (fun _ hk => hk) trivial (Below.refl _ _) (Nat.le_refl _) (by simp) ?_; (case hd => rfl); (case hg => rfl); (case hr => go_simp; try rfl); (case hp => exact (Reps.one (show Kd.M (Kd.int .i64) _ _ _ (wrap64 (x10_9 + (wrap64 (a3 + a1)))) [.int .i64 (wrap64 (x10_9 + (wrap64 (a3 + a1))))] from rfl) (Reps.none _ _))); intro v123 w47 ho48 hb hg_ hnew_; clear hg_ hnew_; (first | rw [← Ny122.out] at ho48 | (simp only [Int.reduceToNat] at ho48; rw [← Ny122.out] at ho48)); have n0_ := am (Kd.R_lower ho48 (below_size (by exact bl_g HB.out))); have n1_ := am (blk_below (blk_o BK105.out) hb); have n2_ := am (below_step (by exact bl_g HB.out) hb); clear BK105; clear HB; have HO124 := n0_; have BK105 := n1_; have HB := n2_; clear n0_ n1_ n2_; clear hb ho48; obtain ⟨Ao49, co49, eo49⟩ := Kd.R_slice HO124.out; subst eo49) | ((with_reducible refine gate_callee (f := 30) rfl ?_); refine goesL_ (some 95) rfl rfl Try.func30 (by kernel_rfl) rfl #[.slice Ao49 y122.length co49] rfl (by simp only [List.map_toArray, List.map_cons, List.map_nil]; try rfl) ?_; (with_reducible refine (ehframe_near.calls kj27 _ _ y122 true _ ?side1 ?side2 A45.out).mono ?_); (case side1 => exact Kd.C_o ((Kd.R_reads' HO124.out).2.2)); (case side2 => exact (Kd.R_reads' HO124.out).2.1); rintro e w' ⟨rfl, ⟨nd, rfl⟩⟩; refine ⟨_, rfl, ?_⟩))
           go_ret3
           exact ⟨rfl, by exact bl_g HB.out⟩
          ·
           replace c46 := Bool.eq_false_iff.mpr c46
           subst c46
           have H1 : (some (0, 0, 11)) = some (r1, r2, r3) := by rw [if_neg (show ¬ (false = true) by decide)] at H; exact H
           clear H
           have H := H1
           clear H1
           simp only [Option.some.injEq, Prod.mk.injEq] at H
           obtain ⟨rfl, rfl, rfl⟩ := H
           go_wp2_with (first | ((with_reducible refine gate_dst (N := 94) rfl ?_); refine Kd.R_lit (Kd.int .i64) _ 3 ?hg (N := 94) ?hd (xs := ([wrap64 (x10_9 + (wrap64 (a3 + a1)))] : List Int)) (inner := [.int .i64 (wrap64 (x10_9 + (wrap64 (a3 + a1))))]) (ok := fun _ => True) (okp := fun _ => True) ?hr ?hp (fun _ hk => hk) trivial (Below.refl _ _) (Nat.le_refl _) (by simp) ?_; (case hd => rfl); (case hg => rfl); (case hr => go_simp; try rfl); (case hp => exact (Reps.one (show Kd.M (Kd.int .i64) _ _ _ (wrap64 (x10_9 + (wrap64 (a3 + a1)))) [.int .i64 (wrap64 (x10_9 + (wrap64 (a3 + a1))))] from rfl) (Reps.none _ _))); intro v123 w50 ho51 hb hg_ hnew_; clear hg_ hnew_; (first | rw [← Ny122.out] at ho51 | (simp only [Int.reduceToNat] at ho51; rw [← Ny122.out] at ho51)); have n0_ := am (Kd.R_lower ho51 (below_size (by exact bl_g HB.out))); have n1_ := am (blk_below (blk_o BK105.out) hb); have n2_ := am (below_step (by exact bl_g HB.out) hb); clear BK105; clear HB; have HO124 := n0_; have BK105 := n1_; have HB := n2_; clear n0_ n1_ n2_; clear hb ho51; obtain ⟨Ao52, co52, eo52⟩ := Kd.R_slice HO124.out; subst eo52) | ((with_reducible refine gate_callee (f := 30) rfl ?_); refine goesL_ (some 95) rfl rfl Try.func30 (by kernel_rfl) rfl #[.slice Ao52 y122.length co52] rfl (by simp only [List.map_toArray, List.map_cons, List.map_nil]; try rfl) ?_; (with_reducible refine (ehframe_near.calls kj27 _ _ y122 false _ ?side1 ?side2 A45.out).mono ?_); (case side1 => exact Kd.C_o ((Kd.R_reads' HO124.out).2.2)); (case side2 => exact (Kd.R_reads' HO124.out).2.1); rintro e w' ⟨rfl, ⟨nd, rfl⟩⟩; refine ⟨_, rfl, ?_⟩))
           go_ret3
           exact ⟨rfl, by exact bl_g HB.out⟩
         ·
          rw [if_neg c44] at H
          have c44b0 : (t103 == 16) = false := beq_eq_false_iff_ne.mpr c44
          have c44b1 : (t103 != 16) = true := bne_iff_ne.mpr c44
          by_cases c53 : t103 = 48
          ·
           rw [if_pos c53] at H
           have c53b0 : (t103 == 48) = true := beq_iff_eq.mpr c53
           have c53b1 : (t103 != 48) = false := bne_eq_false_iff_eq.mpr c53
           clear c53
           obtain ⟨y126, hy126⟩ : ∃ y_ : List Int, y_ = (([wrap64 (x10_9 + a4)] : List Int)) := ⟨_, rfl⟩
           replace H : ((ehframe_near.f kj27 y126).bind fun t129 => (if t129 = true then (some (wrap64 (x10_9 + a4), x11_9, 0)) else (some (0, 0, 11)))) = some (r1, r2, r3) := by first | (rw [hy126]; with_reducible exact H) | (have H2_ := (Option.bind_some _ _).symm.trans H; rw [hy126]; with_reducible exact H2_)
           have Ny126 := am hy126
           clear hy126
           replace H := Option.bind_eq_some_iff.mp H
           obtain ⟨t129, A540, H⟩ := H
           replace H : (if t129 = true then (some (wrap64 (x10_9 + a4), x11_9, 0)) else (some (0, 0, 11))) = some (r1, r2, r3) := H
           have A54 := am A540
           clear A540
           by_cases c55 : t129 = true
           ·
            subst c55
            have H1 : (some (wrap64 (x10_9 + a4), x11_9, 0)) = some (r1, r2, r3) := by rw [if_pos rfl] at H; exact H
            clear H
            have H := H1
            clear H1
            simp only [Option.some.injEq, Prod.mk.injEq] at H
            obtain ⟨rfl, rfl, rfl⟩ := H
            go_wp2_with (first | ((with_reducible refine gate_dst (N := 94) rfl ?_); refine Kd.R_lit (Kd.int .i64) _ 3 ?hg (N := 94) ?hd (xs := ([wrap64 (x10_9 + a4)] : List Int)) (inner := [.int .i64 (wrap64 (x10_9 + a4))]) (ok := fun _ => True) (okp := fun _ => True) ?hr ?hp (fun _ hk => hk) trivial (Below.refl _ _) (Nat.le_refl _) (by simp) ?_; (case hd => rfl); (case hg => rfl); (case hr => go_simp; try rfl); (case hp => exact (Reps.one (show Kd.M (Kd.int .i64) _ _ _ (wrap64 (x10_9 + a4)) [.int .i64 (wrap64 (x10_9 + a4))] from rfl) (Reps.none _ _))); intro v127 w56 ho57 hb hg_ hnew_; clear hg_ hnew_; (first | rw [← Ny126.out] at ho57 | (simp only [Int.reduceToNat] at ho57; rw [← Ny126.out] at ho57)); have n0_ := am (Kd.R_lower ho57 (below_size (by exact bl_g HB.out))); have n1_ := am (blk_below (blk_o BK105.out) hb); have n2_ := am (below_step (by exact bl_g HB.out) hb); clear BK105; clear HB; have HO128 := n0_; have BK105 := n1_; have HB := n2_; clear n0_ n1_ n2_; clear hb ho57; obtain ⟨Ao58, co58, eo58⟩ := Kd.R_slice HO128.out; subst eo58) | ((with_reducible refine gate_callee (f := 30) rfl ?_); refine goesL_ (some 95) rfl rfl Try.func30 (by kernel_rfl) rfl #[.slice Ao58 y126.length co58] rfl (by simp only [List.map_toArray, List.map_cons, List.map_nil]; try rfl) ?_; (with_reducible refine (ehframe_near.calls kj27 _ _ y126 true _ ?side1 ?side2 A54.out).mono ?_); (case side1 => exact Kd.C_o ((Kd.R_reads' HO128.out).2.2)); (case side2 => exact (Kd.R_reads' HO128.out).2.1); rintro e w' ⟨rfl, ⟨nd, rfl⟩⟩; refine ⟨_, rfl, ?_⟩))
            go_ret3
            exact ⟨rfl, by exact bl_g HB.out⟩
           ·
            replace c55 := Bool.eq_false_iff.mpr c55
            subst c55
            have H1 : (some (0, 0, 11)) = some (r1, r2, r3) := by rw [if_neg (show ¬ (false = true) by decide)] at H; exact H
            clear H
            have H := H1
            clear H1
            simp only [Option.some.injEq, Prod.mk.injEq] at H
            obtain ⟨rfl, rfl, rfl⟩ := H
            go_wp2_with (first | ((with_reducible refine gate_dst (N := 94) rfl ?_); refine Kd.R_lit (Kd.int .i64) _ 3 ?hg (N := 94) ?hd (xs := ([wrap64 (x10_9 + a4)] : List Int)) (inner := [.int .i64 (wrap64 (x10_9 + a4))]) (ok := fun _ => True) (okp := fun _ => True) ?hr ?hp (fun _ hk => hk) trivial (Below.refl _ _) (Nat.le_refl _) (by simp) ?_; (case hd => rfl); (case hg => rfl); (case hr => go_simp; try rfl); (case hp => exact (Reps.one (show Kd.M (Kd.int .i64) _ _ _ (wrap64 (x10_9 + a4)) [.int .i64 (wrap64 (x10_9 + a4))] from rfl) (Reps.none _ _))); intro v127 w59 ho60 hb hg_ hnew_; clear hg_ hnew_; (first | rw [← Ny126.out] at ho60 | (simp only [Int.reduceToNat] at ho60; rw [← Ny126.out] at ho60)); have n0_ := am (Kd.R_lower ho60 (below_size (by exact bl_g HB.out))); have n1_ := am (blk_below (blk_o BK105.out) hb); have n2_ := am (below_step (by exact bl_g HB.out) hb); clear BK105; clear HB; have HO128 := n0_; have BK105 := n1_; have HB := n2_; clear n0_ n1_ n2_; clear hb ho60; obtain ⟨Ao61, co61, eo61⟩ := Kd.R_slice HO128.out; subst eo61) | ((with_reducible refine gate_callee (f := 30) rfl ?_); refine goesL_ (some 95) rfl rfl Try.func30 (by kernel_rfl) rfl #[.slice Ao61 y126.length co61] rfl (by simp only [List.map_toArray, List.map_cons, List.map_nil]; try rfl) ?_; (with_reducible refine (ehframe_near.calls kj27 _ _ y126 false _ ?side1 ?side2 A54.out).mono ?_); (case side1 => exact Kd.C_o ((Kd.R_reads' HO128.out).2.2)); (case side2 => exact (Kd.R_reads' HO128.out).2.1); rintro e w' ⟨rfl, ⟨nd, rfl⟩⟩; refine ⟨_, rfl, ?_⟩))
            go_ret3
            exact ⟨rfl, by exact bl_g HB.out⟩
          ·
           rw [if_neg c53] at H
           have c53b0 : (t103 == 48) = false := beq_eq_false_iff_ne.mpr c53
           have c53b1 : (t103 != 48) = true := bne_iff_ne.mpr c53
           obtain ⟨y130, hy130⟩ : ∃ y_ : List Int, y_ = (([x10_9] : List Int)) := ⟨_, rfl⟩
           replace H : ((ehframe_near.f kj27 y130).bind fun t133 => (if t133 = true then (some (x10_9, x11_9, 0)) else (some (0, 0, 11)))) = some (r1, r2, r3) := by first | (rw [hy130]; with_reducible exact H) | (have H2_ := (Option.bind_some _ _).symm.trans H; rw [hy130]; with_reducible exact H2_)
           have Ny130 := am hy130
           clear hy130
           replace H := Option.bind_eq_some_iff.mp H
           obtain ⟨t133, A620, H⟩ := H
           replace H : (if t133 = true then (some (x10_9, x11_9, 0)) else (some (0, 0, 11))) = some (r1, r2, r3) := H
           have A62 := am A620
           clear A620
           by_cases c63 : t133 = true
           ·
            subst c63
            have H1 : (some (x10_9, x11_9, 0)) = some (r1, r2, r3) := by rw [if_pos rfl] at H; exact H
            clear H
            have H := H1
            clear H1
            simp only [Option.some.injEq, Prod.mk.injEq] at H
            obtain ⟨rfl, rfl, rfl⟩ := H
            go_wp2_with (first | ((with_reducible refine gate_dst (N := 94) rfl ?_); refine Kd.R_lit (Kd.int .i64) _ 3 ?hg (N := 94) ?hd (xs := ([x10_9] : List Int)) (inner := [.int .i64 x10_9]) (ok := fun _ => True) (okp := fun _ => True) ?hr ?hp (fun _ hk => hk) trivial (Below.refl _ _) (Nat.le_refl _) (by simp) ?_; (case hd => rfl); (case hg => rfl); (case hr => go_simp; try rfl); (case hp => exact (Reps.one (show Kd.M (Kd.int .i64) _ _ _ x10_9 [.int .i64 x10_9] from rfl) (Reps.none _ _))); intro v131 w64 ho65 hb hg_ hnew_; clear hg_ hnew_; (first | rw [← Ny130.out] at ho65 | (simp only [Int.reduceToNat] at ho65; rw [← Ny130.out] at ho65)); have n0_ := am (Kd.R_lower ho65 (below_size (by exact bl_g HB.out))); have n1_ := am (blk_below (blk_o BK105.out) hb); have n2_ := am (below_step (by exact bl_g HB.out) hb); clear BK105; clear HB; have HO132 := n0_; have BK105 := n1_; have HB := n2_; clear n0_ n1_ n2_; clear hb ho65; obtain ⟨Ao66, co66, eo66⟩ := Kd.R_slice HO132.out; subst eo66) | ((with_reducible refine gate_callee (f := 30) rfl ?_); refine goesL_ (some 95) rfl rfl Try.func30 (by kernel_rfl) rfl #[.slice Ao66 y130.length co66] rfl (by simp only [List.map_toArray, List.map_cons, List.map_nil]; try rfl) ?_; (with_reducible refine (ehframe_near.calls kj27 _ _ y130 true _ ?side1 ?side2 A62.out).mono ?_); (case side1 => exact Kd.C_o ((Kd.R_reads' HO132.out).2.2)); (case side2 => exact (Kd.R_reads' HO132.out).2.1); rintro e w' ⟨rfl, ⟨nd, rfl⟩⟩; refine ⟨_, rfl, ?_⟩))
            go_ret3
            exact ⟨rfl, by exact bl_g HB.out⟩
           ·
            replace c63 := Bool.eq_false_iff.mpr c63
            subst c63
            have H1 : (some (0, 0, 11)) = some (r1, r2, r3) := by rw [if_neg (show ¬ (false = true) by decide)] at H; exact H
            clear H
            have H := H1
            clear H1
            simp only [Option.some.injEq, Prod.mk.injEq] at H
            obtain ⟨rfl, rfl, rfl⟩ := H
            go_wp2_with (first | ((with_reducible refine gate_dst (N := 94) rfl ?_); refine Kd.R_lit (Kd.int .i64) _ 3 ?hg (N := 94) ?hd (xs := ([x10_9] : List Int)) (inner := [.int .i64 x10_9]) (ok := fun _ => True) (okp := fun _ => True) ?hr ?hp (fun _ hk => hk) trivial (Below.refl _ _) (Nat.le_refl _) (by simp) ?_; (case hd => rfl); (case hg => rfl); (case hr => go_simp; try rfl); (case hp => exact (Reps.one (show Kd.M (Kd.int .i64) _ _ _ x10_9 [.int .i64 x10_9] from rfl) (Reps.none _ _))); intro v131 w67 ho68 hb hg_ hnew_; clear hg_ hnew_; (first | rw [← Ny130.out] at ho68 | (simp only [Int.reduceToNat] at ho68; rw [← Ny130.out] at ho68)); have n0_ := am (Kd.R_lower ho68 (below_size (by exact bl_g HB.out))); have n1_ := am (blk_below (blk_o BK105.out) hb); have n2_ := am (below_step (by exact bl_g HB.out) hb); clear BK105; clear HB; have HO132 := n0_; have BK105 := n1_; have HB := n2_; clear n0_ n1_ n2_; clear hb ho68; obtain ⟨Ao69, co69, eo69⟩ := Kd.R_slice HO132.out; subst eo69) | ((with_reducible refine gate_callee (f := 30) rfl ?_); refine goesL_ (some 95) rfl rfl Try.func30 (by kernel_rfl) rfl #[.slice Ao69 y130.length co69] rfl (by simp only [List.map_toArray, List.map_cons, List.map_nil]; try rfl) ?_; (with_reducible refine (ehframe_near.calls kj27 _ _ y130 false _ ?side1 ?side2 A62.out).mono ?_); (case side1 => exact Kd.C_o ((Kd.R_reads' HO132.out).2.2)); (case side2 => exact (Kd.R_reads' HO132.out).2.1); rintro e w' ⟨rfl, ⟨nd, rfl⟩⟩; refine ⟨_, rfl, ?_⟩))
            go_ret3
            exact ⟨rfl, by exact bl_g HB.out⟩
     ·
      rw [if_neg c27] at H
      have c27b0 : (x12_9 == 0) = false := beq_eq_false_iff_ne.mpr c27
      have c27b1 : (x12_9 != 0) = true := bne_iff_ne.mpr c27
      simp only [Option.some.injEq, Prod.mk.injEq] at H
      obtain ⟨rfl, rfl, rfl⟩ := H
      go_wp2
      go_ret3
      exact ⟨rfl, by exact bl_g HB.out⟩
  ·
   replace c9 := Bool.eq_false_iff.mpr c9
   subst c9
   have H1 : (some (0, 0, 11)) = some (r1, r2, r3) := by rw [if_neg (show ¬ (false = true) by decide)] at H; exact H
   clear H
   have H := H1
   clear H1
   simp only [Option.some.injEq, Prod.mk.injEq] at H
   obtain ⟨rfl, rfl, rfl⟩ := H
   go_enter Try.func18, Try.ntmps18
   go_wp2_with (first | ((with_reducible refine gate_callee (f := 29) rfl ?_); refine goesL_ (some 18) rfl rfl Try.func29 (by kernel_rfl) rfl #[.int .i64 a2] rfl (by simp only [List.map_toArray, List.map_cons, List.map_nil]; try rfl) ?_; (with_reducible refine (ehframe_of.calls a2 t101 t102 t103 true _ A6.out).mono ?_); rintro e w70 ⟨rfl, hb⟩; refine ⟨_, rfl, ?_⟩; have n0_ := am (below_step (by exact bl_o HB.out) hb); clear HB; have HB := n0_; clear n0_; (try clear hb); (try clear hb2); (try clear hk); (try clear hi)) | ((with_reducible refine gate_dst (N := 13) rfl ?_); refine box_event ?hg (N := 13) ?hd (cs := #[.int .i64 0, .bool false]) (t := 76) ?hr ?_; (case hd => rfl); (case hg => rfl); (case hr => go_simp; try rfl); intro gb105 hg w71 hbox hb; have n0_ := am (below_step (by exact bl_o HB.out) hb); have n1_ := am (hbox); have n2_ := lei (by rw [hg]; exact (below_size (by exact bl_o HB.out)) : w.heap.size ≤ gb105); have n3_ := n2_; clear HB; have HB := n0_; have BK105 := n1_; have GW105 := n2_; have GE105 := n3_; clear n0_ n1_ n2_ n3_; clear hb hbox hg; obtain ⟨hcz72_0, hcz72_1, hfz72_0, hfz72_1⟩ := cells2 BK105.out) | ((with_reducible refine gate_dst (N := 26) rfl ?_); refine Kd.R_lit (Kd.int .i64) _ 3 ?hg (N := 26) ?hd (xs := ([a3, a4] : List Int)) (inner := [.int .i64 a3, .int .i64 a4]) (ok := fun _ => True) (okp := fun _ => True) ?hr ?hp (fun _ hk => hk) trivial (Below.refl _ _) (Nat.le_refl _) (by simp) ?_; (case hd => rfl); (case hg => rfl); (case hr => go_simp; try rfl); (case hp => exact (Reps.one (show Kd.M (Kd.int .i64) _ _ _ a3 [.int .i64 a3] from rfl) (Reps.one (show Kd.M (Kd.int .i64) _ _ _ a4 [.int .i64 a4] from rfl) (Reps.none _ _)))); intro v107 w73 ho74 hb hg_ hnew_; clear hg_ hnew_; (first | rw [← Ny106.out] at ho74 | (simp only [Int.reduceToNat] at ho74; rw [← Ny106.out] at ho74)); have n0_ := am (Kd.R_lower ho74 (below_size (by exact bl_g HB.out))); have n1_ := am (blk_below (g := gb105) (o := .cells #[.int .i64 t101, .bool t102] 76 (0, 0)) (by (with_reducible repeat (first | refine blk_drewN ?_ _ | refine blk_drew ?_ | refine blk_alloc ?_ _)); refine blk_put (cs := #[.int .i64 t101, .bool false]) ?_ 1 _ rfl; (with_reducible repeat (first | refine blk_drewN ?_ _ | refine blk_drew ?_ | refine blk_alloc ?_ _)); refine blk_put (cs := #[.int .i64 0, .bool false]) ?_ 0 _ rfl; (with_reducible repeat (first | refine blk_drewN ?_ _ | refine blk_drew ?_ | refine blk_alloc ?_ _)); exact BK105.out) hb); have n2_ := am (below_step (by exact bl_g HB.out) hb); clear BK105; clear HB; have HO108 := n0_; have BK105 := n1_; have HB := n2_; clear n0_ n1_ n2_; clear hb ho74; obtain ⟨Ao75, co75, eo75⟩ := Kd.R_slice HO108.out; subst eo75) | ((with_reducible refine gate_callee (f := 30) rfl ?_); refine goesL_ (some 27) rfl rfl Try.func30 (by kernel_rfl) rfl #[.slice Ao75 y106.length co75] rfl (by simp only [List.map_toArray, List.map_cons, List.map_nil]; try rfl) ?_; (with_reducible refine (ehframe_near.calls k _ _ y106 false _ ?side1 ?side2 A8.out).mono ?_); (case side1 => exact Kd.C_o ((Kd.R_reads' HO108.out).2.2)); (case side2 => exact (Kd.R_reads' HO108.out).2.1); rintro e w' ⟨rfl, ⟨nd, rfl⟩⟩; refine ⟨_, rfl, ?_⟩))
   go_ret3
   exact ⟨rfl, by exact bl_g HB.out⟩
 ·
  replace c7 := Bool.eq_false_iff.mpr c7
  subst c7
  have H1 : (some (0, 0, 140)) = some (r1, r2, r3) := by rw [if_neg (show ¬ (false = true) by decide)] at H; exact H
  clear H
  have H := H1
  clear H1
  simp only [Option.some.injEq, Prod.mk.injEq] at H
  obtain ⟨rfl, rfl, rfl⟩ := H
  go_enter Try.func18, Try.ntmps18
  go_wp2_with (first | ((with_reducible refine gate_callee (f := 29) rfl ?_); refine goesL_ (some 18) rfl rfl Try.func29 (by kernel_rfl) rfl #[.int .i64 a2] rfl (by simp only [List.map_toArray, List.map_cons, List.map_nil]; try rfl) ?_; (with_reducible refine (ehframe_of.calls a2 t101 t102 t103 false _ A6.out).mono ?_); rintro e w76 ⟨rfl, hb⟩; refine ⟨_, rfl, ?_⟩; have n0_ := am (below_step (by exact bl_o HB.out) hb); clear HB; have HB := n0_; clear n0_; (try clear hb); (try clear hb2); (try clear hk); (try clear hi)) | ((with_reducible refine gate_dst (N := 13) rfl ?_); refine box_event ?hg (N := 13) ?hd (cs := #[.int .i64 0, .bool false]) (t := 76) ?hr ?_; (case hd => rfl); (case hg => rfl); (case hr => go_simp; try rfl); intro gb105 hg w77 hbox hb; have n0_ := am (below_step (by exact bl_o HB.out) hb); have n1_ := am (hbox); have n2_ := lei (by rw [hg]; exact (below_size (by exact bl_o HB.out)) : w.heap.size ≤ gb105); have n3_ := n2_; clear HB; have HB := n0_; have BK105 := n1_; have GW105 := n2_; have GE105 := n3_; clear n0_ n1_ n2_ n3_; clear hb hbox hg; obtain ⟨hcz78_0, hcz78_1, hfz78_0, hfz78_1⟩ := cells2 BK105.out))
  go_ret3
  exact ⟨rfl, by exact bl_g HB.out⟩
end Go.Proofs.Ytfgfnflhdabmcaa.G
end
section
namespace Go.Proofs.Ytfgfnflhdabmcaa.G
open Go.RowKit Go.Proofs.YtfgfnflhdabmcaaW.PrintWords Go.Proofs.YtfgfnflhdabmcaaW.PrintLast Go.Proofs.YtfgfnflhdabmcaaW.PrintMore
attribute [local go_sem] max2_int min2_int max_two min_two max_three min_three max_four min_four   -- for this text's walks alone
set_option linter.unusedVariables false
set_option linter.unusedSimpArgs false
mutual
def gangwayref01_groups.j0 : Nat → List Int → Int → Bool → Option (Int)
 | 0, _, _, _ => none
 | k + 1, x0, x1, x13 => if x13 = true then (some 0) else (gangwayref01_groups.l0 k x0 x1 x1)
def gangwayref01_groups.l0 : Nat → List Int → Int → Int → Option (Int)
 | 0, _, _, _ => none
 | k + 1, x0, x1, x5 => if x5 < (x0.length : Int) then (gangwayref01_groups.j2 k x0 x1 x5 (decide ((wrap64 (x5 - x1)) < 11))) else (gangwayref01_groups.j2 k x0 x1 x5 false)
def gangwayref01_groups.j2 : Nat → List Int → Int → Int → Bool → Option (Int)
 | 0, _, _, _, _ => none
 | k + 1, x0, x1, x5, x24 => if x24 = true then (if 0 ≤ x5 then (if x5 < (x0.length : Int) then (if (rd x0 x5) < 128 then (some (wrap64 ((wrap64 (x5 - x1)) + 1))) else (if (wrap64 (x5 - x1)) = 10 then (some (wrap64 ((wrap64 (x5 - x1)) + 1))) else (gangwayref01_groups.l0 k x0 x1 (wrap64 (x5 + 1))))) else (none)) else (none)) else (some 0)
end
def gangwayref01_groups.f (k : Nat) (l0 : List Int) (a1 : Int) : Option (Int) := if a1 < 0 then (gangwayref01_groups.j0 k l0 a1 true) else (gangwayref01_groups.j0 k l0 a1 (decide (a1 > (l0.length : Int))))
theorem gangwayref01_groups.mono_l : ∀ k, (∀ y0 y1 y2, LeO (gangwayref01_groups.j0 k y0 y1 y2) (gangwayref01_groups.j0 (k + 1) y0 y1 y2)) ∧ (∀ y0 y1 y2, LeO (gangwayref01_groups.l0 k y0 y1 y2) (gangwayref01_groups.l0 (k + 1) y0 y1 y2)) ∧ (∀ y0 y1 y2 y3, LeO (gangwayref01_groups.j2 k y0 y1 y2 y3) (gangwayref01_groups.j2 (k + 1) y0 y1 y2 y3))
 | 0 => ⟨fun _ _ _ r h => by simp [gangwayref01_groups.j0] at h, fun _ _ _ r h => by simp [gangwayref01_groups.l0] at h, fun _ _ _ _ r h => by simp [gangwayref01_groups.j2] at h⟩
 | k + 1 => by
  obtain ⟨ih0, ih1, ih2⟩ := gangwayref01_groups.mono_l k
  refine ⟨?_, ?_, ?_⟩
  ·
   intro y0 y1 y2
   unfold gangwayref01_groups.j0
   repeat' first
   | (with_reducible exact ih0 _ _ _)
   | (with_reducible exact ih1 _ _ _)
   | (with_reducible exact ih2 _ _ _ _)
   | (with_reducible exact LeO.refl _)
   | (with_reducible exact LeO.none _)
   | (with_reducible refine LeO.ite ?_ ?_)
   | (with_reducible refine LeO.bind ?_ (fun _ => ?_))
   | exact ih0 _ _ _
   | exact ih1 _ _ _
   | exact ih2 _ _ _ _
   | exact LeO.none _
   | refine LeO.ite ?_ ?_
   | refine LeO.bind ?_ (fun _ => ?_)
  ·
   intro y0 y1 y2
   unfold gangwayref01_groups.l0
   repeat' first
   | (with_reducible exact ih0 _ _ _)
   | (with_reducible exact ih1 _ _ _)
   | (with_reducible exact ih2 _ _ _ _)
   | (with_reducible exact LeO.refl _)
   | (with_reducible exact LeO.none _)
   | (with_reducible refine LeO.ite ?_ ?_)
   | (with_reducible refine LeO.bind ?_ (fun _ => ?_))
   | exact ih0 _ _ _
   | exact ih1 _ _ _
   | exact ih2 _ _ _ _
   | exact LeO.none _
   | refine LeO.ite ?_ ?_
   | refine LeO.bind ?_ (fun _ => ?_)
  ·
   intro y0 y1 y2 y3
   unfold gangwayref01_groups.j2
   repeat' first
   | (with_reducible exact ih0 _ _ _)
   | (with_reducible exact ih1 _ _ _)
   | (with_reducible exact ih2 _ _ _ _)
   | (with_reducible exact LeO.refl _)
   | (with_reducible exact LeO.none _)
   | (with_reducible refine LeO.ite ?_ ?_)
   | (with_reducible refine LeO.bind ?_ (fun _ => ?_))
   | exact ih0 _ _ _
   | exact ih1 _ _ _
   | exact ih2 _ _ _ _
   | exact LeO.none _
   | refine LeO.ite ?_ ?_
   | refine LeO.bind ?_ (fun _ => ?_)
theorem gangwayref01_groups.mono : ∀ a0 a1 k, LeO (gangwayref01_groups.f k a0 a1) (gangwayref01_groups.f (k + 1) a0 a1) := by
 intro a0 a1 k
 obtain ⟨ih0, ih1, ih2⟩ := gangwayref01_groups.mono_l k
 unfold gangwayref01_groups.f
 repeat' first
   | (with_reducible exact ih0 _ _ _)
   | (with_reducible exact ih1 _ _ _)
   | (with_reducible exact ih2 _ _ _ _)
   | (with_reducible exact LeO.refl _)
   | (with_reducible exact LeO.none _)
   | (with_reducible refine LeO.ite ?_ ?_)
   | (with_reducible refine LeO.bind ?_ (fun _ => ?_))
   | exact ih0 _ _ _
   | exact ih1 _ _ _
   | exact ih2 _ _ _ _
   | exact LeO.none _
   | refine LeO.ite ?_ ?_
   | refine LeO.bind ?_ (fun _ => ?_)
set_option maxHeartbeats 8000000 in
set_option maxRecDepth 100000 in
theorem gangwayref01_groups.calls (k : Nat) (A0 : Option Addr) (c0 : Nat) (l0 : List Int) (a1 : Int) (r : Int) (w : World) (hr0 : Kd.C (Kd.int .u8) w A0 l0.length l0) (hc0 : l0.length ≤ c0) (h : gangwayref01_groups.f k l0 a1 = some r) :
  Calls Try.prog 74 #[.slice A0 l0.length c0, .int .i64 a1] w fun e w' => e = .returned (.int .i64 r) ∧ Drawn0 w w' := by
 have HR0 := am hr0
 have HC0 := am hc0
 clear hr0 hc0
 have H : (if a1 < 0 then (gangwayref01_groups.j0 k l0 a1 true) else (gangwayref01_groups.j0 k l0 a1 (decide (a1 > (l0.length : Int))))) = some r := h
 clear h
 have HC3 := am H
 clear H
 go_enter Try.func74, Try.ntmps74
 go_upto_region 1 with (fail)
 go_cut [13] (fun v13 wc => ∃ (kq : Nat) (x13_2 : Bool), v13 = .bool x13_2 ∧ Aside0 (gangwayref01_groups.j0 kq l0 a1 x13_2 = some r) ∧ Aside0 (kq ≤ k) ∧ Drawn0 w wc)
 case first =>
  have H := HC3.out
  clear HC3
  by_cases c4 : a1 < 0
  ·
   rw [if_pos c4] at H
   have c4b0 : decide (a1 < 0) = true := decide_eq_true c4
   clear c4
   (first | rw [c4b0] | (simp only [i64_w, i32_w]; rw [c4b0]) | skip)
   have H' := am H
   clear H
   go_wp2
   go_meet
   case rel => exact ⟨_, (true), (by first | rfl | (simp; done) | (simp [*]; done)), H', ⟨by first | omega | exact Nat.le_refl _⟩, by repeat (first | exact Drawn0.refl _ | apply Drawn0.step)⟩
  ·
   rw [if_neg c4] at H
   have c4b0 : decide (a1 < 0) = false := decide_eq_false c4
   clear c4
   (first | rw [c4b0] | (simp only [i64_w, i32_w]; rw [c4b0]) | skip)
   have H' := am H
   clear H
   go_wp2
   go_meet
   case rel => exact ⟨_, (decide (a1 > (l0.length : Int))), (by first | rfl | (simp; done) | (simp [*]; done)), H', ⟨by first | omega | exact Nat.le_refl _⟩, by repeat (first | exact Drawn0.refl _ | apply Drawn0.step)⟩
 case rest =>
  clear HC3
  try clear p2
  try clear c4
  try clear c4b0
  obtain ⟨kq, x13_2, rfl, HA, HJ2, ⟨mc2, rfl⟩⟩ := hcut
  cases kq with
  | zero => exact absurd HA.out (by simp [gangwayref01_groups.j0])
  | succ kj2 =>
   have H := HA.out
   clear HA
   simp only [gangwayref01_groups.j0] at H
   by_cases c5 : x13_2 = true
   ·
    subst c5
    have H1 : (some 0) = some r := by rw [if_pos rfl] at H; exact H
    clear H
    have H := H1
    clear H1
    obtain rfl := Option.some.inj H
    go_wp2
    go_ret
    exact ⟨by first | rfl | (simp; done) | (simp [*]; done), by repeat (first | exact Drawn0.refl _ | apply Drawn0.step)⟩
   ·
    replace c5 := Bool.eq_false_iff.mpr c5
    subst c5
    have H1 : (gangwayref01_groups.l0 kj2 l0 a1 a1) = some r := by rw [if_neg (show ¬ (false = true) by decide)] at H; exact H
    clear H
    have H := H1
    clear H1
    have H' := am H
    clear H
    go_wp2
    go_loopg [5] kj2 (fun kq v5 w' => ∃ (x5_2 : Int), v5 = .int .i64 x5_2 ∧ Aside0 (gangwayref01_groups.l0 kq l0 a1 x5_2 = some r) ∧ Aside0 (kq ≤ kj2) ∧ Drawn0 w w')
    case atStart => exact ⟨(a1), (by first | rfl | (simp; done) | (simp [*]; done)), H', ⟨Nat.le_refl _⟩, by repeat (first | exact Drawn0.refl _ | apply Drawn0.step)⟩
    case round =>
     clear H'
     try clear c2
     try clear p2
     try clear c4
     try clear c4b0
     try clear c5
     try clear p2
     obtain ⟨x5_2, rfl, HA, HK2, ⟨m2, rfl⟩⟩ := hrel
     cases gk with
     | zero => exact absurd HA.out (by simp [gangwayref01_groups.l0])
     | succ k2 =>
      have H := HA.out
      clear HA
      simp only [gangwayref01_groups.l0] at H
      have HC6 := am H
      clear H
      go_upto_region 4 with (fail)
      go_cut [24] (fun v24 wc => ∃ (kq : Nat) (x24_5 : Bool), v24 = .bool x24_5 ∧ Aside0 (gangwayref01_groups.j2 kq l0 a1 x5_2 x24_5 = some r) ∧ Aside0 (kq ≤ k2) ∧ Drawn0 w wc)
      case first =>
       have H := HC6.out
       clear HC6
       by_cases c7 : x5_2 < (l0.length : Int)
       ·
        rw [if_pos c7] at H
        have c7b0 : decide (x5_2 < (l0.length : Int)) = true := decide_eq_true c7
        clear c7
        (first | rw [c7b0] | (simp only [i64_w, i32_w]; rw [c7b0]) | skip)
        have H' := am H
        clear H
        go_wp2
        go_meet
        case rel => exact ⟨_, (decide ((wrap64 (x5_2 - a1)) < 11)), (by first | rfl | (simp; done) | (simp [*]; done)), H', ⟨by have := HJ2.out; have := HK2.out; first | omega | exact Nat.le_refl _⟩, by repeat (first | exact Drawn0.refl _ | apply Drawn0.step)⟩
       ·
        rw [if_neg c7] at H
        have c7b0 : decide (x5_2 < (l0.length : Int)) = false := decide_eq_false c7
        clear c7
        (first | rw [c7b0] | (simp only [i64_w, i32_w]; rw [c7b0]) | skip)
        have H' := am H
        clear H
        go_wp2
        go_meet
        case rel => exact ⟨_, (false), (by first | rfl | (simp; done) | (simp [*]; done)), H', ⟨by have := HJ2.out; have := HK2.out; first | omega | exact Nat.le_refl _⟩, by repeat (first | exact Drawn0.refl _ | apply Drawn0.step)⟩
      case rest =>
       clear HC6
       try clear c2
       try clear p2
       try clear c4
       try clear c4b0
       try clear c5
       try clear p6
       try clear c7
       try clear c7b0
       try clear p2
       obtain ⟨kq, x24_5, rfl, HA, HJ5, ⟨mc5, rfl⟩⟩ := hcut
       cases kq with
       | zero => exact absurd HA.out (by simp [gangwayref01_groups.j2])
       | succ kj5 =>
        have H := HA.out
        clear HA
        simp only [gangwayref01_groups.j2] at H
        by_cases c8 : x24_5 = true
        ·
         subst c8
         have H1 : (if 0 ≤ x5_2 then (if x5_2 < (l0.length : Int) then (if (rd l0 x5_2) < 128 then (some (wrap64 ((wrap64 (x5_2 - a1)) + 1))) else (if (wrap64 (x5_2 - a1)) = 10 then (some (wrap64 ((wrap64 (x5_2 - a1)) + 1))) else (gangwayref01_groups.l0 kj5 l0 a1 (wrap64 (x5_2 + 1))))) else (none)) else (none)) = some r := by rw [if_pos rfl] at H; exact H
         clear H
         have H := H1
         clear H1
         by_cases c9 : 0 ≤ x5_2
         ·
          rw [if_pos c9] at H
          have c9b0 : decide (0 ≤ x5_2) = true := decide_eq_true c9
          clear c9
          by_cases c10 : x5_2 < (l0.length : Int)
          ·
           rw [if_pos c10] at H
           have c10b0 : decide (x5_2 < (l0.length : Int)) = true := decide_eq_true c10
           clear c10
           by_cases c11 : (rd l0 x5_2) < 128
           ·
            rw [if_pos c11] at H
            have c11b0 : decide ((rd l0 x5_2) < 128) = true := decide_eq_true c11
            clear c11
            obtain rfl := Option.some.inj H
            have p101 : 0 ≤ (x5_2 : Int) := of_decide_eq_true (by first | (with_reducible assumption) | assumption)
            have q101 : x5_2 < (l0.length : Int) := of_decide_eq_true (by first | (with_reducible assumption) | assumption)
            obtain ⟨ad101, e101, hx101_0⟩ := Kd.at_int HR0.out x5_2 p101 q101
            cases e101
            replace p101 := eq_true p101
            replace q101 := eq_true q101
            go_wp2
            go_ret
            exact ⟨by first | rfl | (simp; done) | (simp [*]; done), by repeat (first | exact Drawn0.refl _ | apply Drawn0.step)⟩
           ·
            rw [if_neg c11] at H
            have c11b0 : decide ((rd l0 x5_2) < 128) = false := decide_eq_false c11
            clear c11
            by_cases c12 : (wrap64 (x5_2 - a1)) = 10
            ·
             rw [if_pos c12] at H
             have c12b0 : ((wrap64 (x5_2 - a1)) == 10) = true := beq_iff_eq.mpr c12
             have c12b1 : ((wrap64 (x5_2 - a1)) != 10) = false := bne_eq_false_iff_eq.mpr c12
             clear c12
             obtain rfl := Option.some.inj H
             have p101 : 0 ≤ (x5_2 : Int) := of_decide_eq_true (by first | (with_reducible assumption) | assumption)
             have q101 : x5_2 < (l0.length : Int) := of_decide_eq_true (by first | (with_reducible assumption) | assumption)
             obtain ⟨ad101, e101, hx101_0⟩ := Kd.at_int HR0.out x5_2 p101 q101
             cases e101
             replace p101 := eq_true p101
             replace q101 := eq_true q101
             go_wp2
             go_ret
             exact ⟨by first | rfl | (simp; done) | (simp [*]; done), by repeat (first | exact Drawn0.refl _ | apply Drawn0.step)⟩
            ·
             rw [if_neg c12] at H
             have c12b0 : ((wrap64 (x5_2 - a1)) == 10) = false := beq_eq_false_iff_ne.mpr c12
             have c12b1 : ((wrap64 (x5_2 - a1)) != 10) = true := bne_iff_ne.mpr c12
             have H' := am H
             clear H
             have p101 : 0 ≤ (x5_2 : Int) := of_decide_eq_true (by first | (with_reducible assumption) | assumption)
             have q101 : x5_2 < (l0.length : Int) := of_decide_eq_true (by first | (with_reducible assumption) | assumption)
             obtain ⟨ad101, e101, hx101_0⟩ := Kd.at_int HR0.out x5_2 p101 q101
             cases e101
             replace p101 := eq_true p101
             replace q101 := eq_true q101
             go_wp2
             go_roundg kj5
             case measure => have := HJ2.out; have := HK2.out; have := HJ5.out; omega
             case rel => exact ⟨(wrap64 (x5_2 + 1)), (by first | rfl | (simp; done) | (simp [*]; done)), H', ⟨by have := HJ2.out; have := HK2.out; have := HJ5.out; omega⟩, by repeat (first | exact Drawn0.refl _ | apply Drawn0.step)⟩
          ·
           rw [if_neg c10] at H
           exact absurd H (by simp)
         ·
          rw [if_neg c9] at H
          exact absurd H (by simp)
        ·
         replace c8 := Bool.eq_false_iff.mpr c8
         subst c8
         have H1 : (some 0) = some r := by rw [if_neg (show ¬ (false = true) by decide)] at H; exact H
         clear H
         have H := H1
         clear H1
         obtain rfl := Option.some.inj H
         go_wp2
         go_ret
         exact ⟨by first | rfl | (simp; done) | (simp [*]; done), by repeat (first | exact Drawn0.refl _ | apply Drawn0.step)⟩
end Go.Proofs.Ytfgfnflhdabmcaa.G
end
section
namespace Go.Proofs.Ytfgfnflhdabmcaa.G
open Go.RowKit Go.Proofs.YtfgfnflhdabmcaaW.PrintWords Go.Proofs.YtfgfnflhdabmcaaW.PrintLast Go.Proofs.YtfgfnflhdabmcaaW.PrintMore
attribute [local go_sem] max2_int min2_int max_two min_two max_three min_three max_four min_four   -- for this text's walks alone
set_option linter.unusedVariables false
set_option linter.unusedSimpArgs false
def gangwayref01_raw.l0 : Nat → List Int → Int → Int → Int → Int → Option (Int)
 | 0, _, _, _, _, _ => none
 | k + 1, x0, x1, x2, x7, x8 => if x8 < x2 then (if 0 ≤ (wrap64 (x1 + x8)) then (if (wrap64 (x1 + x8)) < (x0.length : Int) then (if 0 ≤ (IntKind.u64.wrap (wrap64 (7 * x8))) then (gangwayref01_raw.l0 k x0 x1 x2 (Go.bits .or .u64 x7 (shl .u64 (IntKind.u64.wrap (Go.bits .and .u8 (rd x0 (wrap64 (x1 + x8))) 127)) (IntKind.u64.wrap (wrap64 (7 * x8))))) (wrap64 (x8 + 1))) else (none)) else (none)) else (none)) else (some x7)
def gangwayref01_raw.f (k : Nat) (l0 : List Int) (a1 : Int) (a2 : Int) : Option (Int) := gangwayref01_raw.l0 k l0 a1 a2 0 0
theorem gangwayref01_raw.mono_l : ∀ k, (∀ y0 y1 y2 y3 y4, LeO (gangwayref01_raw.l0 k y0 y1 y2 y3 y4) (gangwayref01_raw.l0 (k + 1) y0 y1 y2 y3 y4))
 | 0 => fun _ _ _ _ _ r h => by simp [gangwayref01_raw.l0] at h
 | k + 1 => by
  have ih0 := gangwayref01_raw.mono_l k
  ·
   intro y0 y1 y2 y3 y4
   unfold gangwayref01_raw.l0
   repeat' first
   | (with_reducible exact ih0 _ _ _ _ _)
   | (with_reducible exact LeO.refl _)
   | (with_reducible exact LeO.none _)
   | (with_reducible refine LeO.ite ?_ ?_)
   | (with_reducible refine LeO.bind ?_ (fun _ => ?_))
   | exact ih0 _ _ _ _ _
   | exact LeO.none _
   | refine LeO.ite ?_ ?_
   | refine LeO.bind ?_ (fun _ => ?_)
theorem gangwayref01_raw.mono : ∀ a0 a1 a2 k, LeO (gangwayref01_raw.f k a0 a1 a2) (gangwayref01_raw.f (k + 1) a0 a1 a2) := by
 intro a0 a1 a2 k
 have ih0 := gangwayref01_raw.mono_l k
 unfold gangwayref01_raw.f
 repeat' first
   | (with_reducible exact ih0 _ _ _ _ _)
   | (with_reducible exact LeO.refl _)
   | (with_reducible exact LeO.none _)
   | (with_reducible refine LeO.ite ?_ ?_)
   | (with_reducible refine LeO.bind ?_ (fun _ => ?_))
   | exact ih0 _ _ _ _ _
   | exact LeO.none _
   | refine LeO.ite ?_ ?_
   | refine LeO.bind ?_ (fun _ => ?_)
set_option maxHeartbeats 8000000 in
set_option maxRecDepth 100000 in
theorem gangwayref01_raw.calls (k : Nat) (A0 : Option Addr) (c0 : Nat) (l0 : List Int) (a1 : Int) (a2 : Int) (r : Int) (w : World) (hr0 : Kd.C (Kd.int .u8) w A0 l0.length l0) (hc0 : l0.length ≤ c0) (h : gangwayref01_raw.f k l0 a1 a2 = some r) :
  Calls Try.prog 75 #[.slice A0 l0.length c0, .int .i64 a1, .int .i64 a2] w fun e w' => e = .returned (.int .u64 r) ∧ Drawn0 w w' := by
 have HR0 := am hr0
 have HC0 := am hc0
 clear hr0 hc0
 have H : (gangwayref01_raw.l0 k l0 a1 a2 0 0) = some r := h
 clear h
 have H' := am H
 clear H
 go_enter Try.func75, Try.ntmps75
 go_wp2
 go_loopg [7, 8] k (fun kq v7 v8 w' => ∃ (x7_1 : Int) (x8_1 : Int), v7 = .int .u64 x7_1 ∧ v8 = .int .i64 x8_1 ∧ Aside0 (gangwayref01_raw.l0 kq l0 a1 a2 x7_1 x8_1 = some r) ∧ Aside0 (kq ≤ k) ∧ Drawn0 w w')
 case atStart => exact ⟨(0), (0), (by first | rfl | (simp; done) | (simp [*]; done)), (by first | rfl | (simp; done) | (simp [*]; done)), H', ⟨Nat.le_refl _⟩, by repeat (first | exact Drawn0.refl _ | apply Drawn0.step)⟩
 case round =>
  clear H'
  try clear p2
  obtain ⟨x7_1, x8_1, rfl, rfl, HA, HK1, ⟨m1, rfl⟩⟩ := hrel
  cases gk with
  | zero => exact absurd HA.out (by simp [gangwayref01_raw.l0])
  | succ k1 =>
   have H := HA.out
   clear HA
   simp only [gangwayref01_raw.l0] at H
   by_cases c4 : x8_1 < a2
   ·
    rw [if_pos c4] at H
    have c4b0 : decide (x8_1 < a2) = true := decide_eq_true c4
    clear c4
    obtain ⟨ji5, hji5⟩ : ∃ j_ : Int, (wrap64 (a1 + x8_1)) = j_ := ⟨_, rfl⟩
    replace H : (if 0 ≤ (ji5) then (if (ji5) < (l0.length : Int) then (if 0 ≤ (IntKind.u64.wrap (wrap64 (7 * x8_1))) then (gangwayref01_raw.l0 k1 l0 a1 a2 (Go.bits .or .u64 x7_1 (shl .u64 (IntKind.u64.wrap (Go.bits .and .u8 (rd l0 (ji5)) 127)) (IntKind.u64.wrap (wrap64 (7 * x8_1))))) (wrap64 (x8_1 + 1))) else (none)) else (none)) else (none)) = some r := by first | (rw [hji5] at H; exact H) | (simp only [hji5] at H ⊢; exact H)
    have hji5w : (IntKind.i64.wrap (a1 + x8_1)) = ji5 := (i64_w _).trans hji5
    by_cases c6 : 0 ≤ (ji5)
    ·
     rw [if_pos c6] at H
     have c6b0 : decide (0 ≤ (ji5)) = true := decide_eq_true c6
     clear c6
     by_cases c7 : (ji5) < (l0.length : Int)
     ·
      rw [if_pos c7] at H
      have c7b0 : decide ((ji5) < (l0.length : Int)) = true := decide_eq_true c7
      clear c7
      obtain ⟨ji8, hji8⟩ : ∃ j_ : Int, (IntKind.u64.wrap (wrap64 (7 * x8_1))) = j_ := ⟨_, rfl⟩
      replace H : (if 0 ≤ (ji8) then (gangwayref01_raw.l0 k1 l0 a1 a2 (Go.bits .or .u64 x7_1 (shl .u64 (IntKind.u64.wrap (Go.bits .and .u8 (rd l0 (ji5)) 127)) (ji8))) (wrap64 (x8_1 + 1))) else (none)) = some r := by first | (rw [hji8] at H; exact H) | (simp only [hji8] at H ⊢; exact H)
      by_cases c9 : 0 ≤ (ji8)
      ·
       rw [if_pos c9] at H
       have c9b0 := eq_true c9
       have c9b1 : decide (0 ≤ (ji8)) = true := decide_eq_true c9
       clear c9
       obtain ⟨ji10, hji10⟩ : ∃ j_ : Int, (shl .u64 (IntKind.u64.wrap (Go.bits .and .u8 (rd l0 (ji5)) 127)) (ji8)) = j_ := ⟨_, rfl⟩
       replace H : (gangwayref01_raw.l0 k1 l0 a1 a2 (Go.bits .or .u64 x7_1 (ji10)) (wrap64 (x8_1 + 1))) = some r := by first | (rw [hji10] at H; exact H) | (simp only [hji10] at H ⊢; exact H)
       have hji10_ : (IntKind.u64.wrap ((IntKind.u64.wrap (Go.bits .and .u8 (rd l0 (ji5)) 127)) * 2 ^ min (ji8).toNat 64)) = ji10 := hji10
       have hji10z : (ji8) ≤ 64 → (IntKind.u64.wrap ((IntKind.u64.wrap (Go.bits .and .u8 (rd l0 (ji5)) 127)) * 2 ^ (ji8).toNat)) = ji10 := shl_small hji10
       have H' := am H
       clear H
       have p101 : 0 ≤ ((ji5) : Int) := of_decide_eq_true (by first | (with_reducible assumption) | assumption)
       have q101 : (ji5) < (l0.length : Int) := of_decide_eq_true (by first | (with_reducible assumption) | assumption)
       obtain ⟨ad101, e101, hx101_0⟩ := Kd.at_int HR0.out (ji5) p101 q101
       cases e101
       replace p101 := eq_true p101
       replace q101 := eq_true q101
       go_wp2
       go_roundg k1
       case measure => have := HK1.out; omega
       case rel => exact ⟨(Go.bits .or .u64 x7_1 (ji10)), (wrap64 (x8_1 + 1)), (by first | rfl | (simp; done) | (simp only [← hji10] <;> (first | rfl | simp)) | (simp [*]; done)), (by first | rfl | (simp; done) | (simp [*]; done)), H', ⟨by have := HK1.out; omega⟩, by repeat (first | exact Drawn0.refl _ | apply Drawn0.step)⟩
      ·
       rw [if_neg c9] at H
       exact absurd H (by simp)
     ·
      rw [if_neg c7] at H
      exact absurd H (by simp)
    ·
     rw [if_neg c6] at H
     exact absurd H (by simp)
   ·
    rw [if_neg c4] at H
    have c4b0 : decide (x8_1 < a2) = false := decide_eq_false c4
    clear c4
    obtain rfl := Option.some.inj H
    go_wp2
    go_ret
    exact ⟨by first | rfl | (simp; done) | (simp [*]; done), by repeat (first | exact Drawn0.refl _ | apply Drawn0.step)⟩
end Go.Proofs.Ytfgfnflhdabmcaa.G
end
section
namespace Go.Proofs.Ytfgfnflhdabmcaa.G
open Go.RowKit Go.Proofs.YtfgfnflhdabmcaaW.PrintWords Go.Proofs.YtfgfnflhdabmcaaW.PrintLast Go.Proofs.YtfgfnflhdabmcaaW.PrintMore
attribute [local go_sem] max2_int min2_int max_two min_two max_three min_three max_four min_four   -- for this text's walks alone
set_option linter.unusedVariables false
set_option linter.unusedSimpArgs false
def gangwayref01_ReadUleb.f (k : Nat) (l0 : List Int) (a1 : Int) : Option (Int × Int × Int) := (gangwayref01_groups.f k l0 a1).bind fun t101 => (if t101 = 0 then (some (0, 0, 20)) else (if t101 > 10 then (some (0, 0, 21)) else (if t101 = 10 then (if 0 ≤ (wrap64 (a1 + 9)) then (if (wrap64 (a1 + 9)) < (l0.length : Int) then (if (rd l0 (wrap64 (a1 + 9))) > 1 then (some (0, 0, 21)) else ((gangwayref01_raw.f k l0 a1 t101).bind fun t103 => (some (wrap64 (t103), wrap64 (a1 + t101), 0)))) else (none)) else (none)) else ((gangwayref01_raw.f k l0 a1 t101).bind fun t104 => (some (wrap64 (t104), wrap64 (a1 + t101), 0))))))
theorem gangwayref01_ReadUleb.mono : ∀ a0 a1 k, LeO (gangwayref01_ReadUleb.f k a0 a1) (gangwayref01_ReadUleb.f (k + 1) a0 a1) := by
 intro a0 a1 k
 unfold gangwayref01_ReadUleb.f
 repeat' first
   | (with_reducible exact gangwayref01_groups.mono _ _ _)
   | (with_reducible exact gangwayref01_raw.mono _ _ _ _)
   | (with_reducible exact LeO.refl _)
   | (with_reducible exact LeO.none _)
   | (with_reducible refine LeO.ite ?_ ?_)
   | (with_reducible refine LeO.bind ?_ (fun _ => ?_))
   | exact gangwayref01_groups.mono _ _ _
   | exact gangwayref01_raw.mono _ _ _ _
   | exact LeO.none _
   | refine LeO.ite ?_ ?_
   | refine LeO.bind ?_ (fun _ => ?_)
set_option maxHeartbeats 8000000 in
set_option maxRecDepth 100000 in
theorem gangwayref01_ReadUleb.calls (k : Nat) (A0 : Option Addr) (c0 : Nat) (l0 : List Int) (a1 : Int) (r1 : Int) (r2 : Int) (r3 : Int) (w : World) (hr0 : Kd.C (Kd.int .u8) w A0 l0.length l0) (hc0 : l0.length ≤ c0) (h : gangwayref01_ReadUleb.f k l0 a1 = some (r1, r2, r3)) :
  Calls Try.prog 51 #[.slice A0 l0.length c0, .int .i64 a1] w fun e w' => e = .returned (.tuple #[.int .i64 r1, .int .i64 r2, .int .i64 r3]) ∧ Drawn0 w w' := by
 have HR0 := am hr0
 have HC0 := am hc0
 clear hr0 hc0
 have H : ((gangwayref01_groups.f k l0 a1).bind fun t101 => (if t101 = 0 then (some (0, 0, 20)) else (if t101 > 10 then (some (0, 0, 21)) else (if t101 = 10 then (if 0 ≤ (wrap64 (a1 + 9)) then (if (wrap64 (a1 + 9)) < (l0.length : Int) then (if (rd l0 (wrap64 (a1 + 9))) > 1 then (some (0, 0, 21)) else ((gangwayref01_raw.f k l0 a1 t101).bind fun t103 => (some (wrap64 (t103), wrap64 (a1 + t101), 0)))) else (none)) else (none)) else ((gangwayref01_raw.f k l0 a1 t101).bind fun t104 => (some (wrap64 (t104), wrap64 (a1 + t101), 0))))))) = some (r1, r2, r3) := h
 clear h
 replace H := Option.bind_eq_some_iff.mp H
 obtain ⟨t101, A30, H⟩ := H
 replace H : (if t101 = 0 then (some (0, 0, 20)) else (if t101 > 10 then (some (0, 0, 21)) else (if t101 = 10 then (if 0 ≤ (wrap64 (a1 + 9)) then (if (wrap64 (a1 + 9)) < (l0.length : Int) then (if (rd l0 (wrap64 (a1 + 9))) > 1 then (some (0, 0, 21)) else ((gangwayref01_raw.f k l0 a1 t101).bind fun t103 => (some (wrap64 (t103), wrap64 (a1 + t101), 0)))) else (none)) else (none)) else ((gangwayref01_raw.f k l0 a1 t101).bind fun t104 => (some (wrap64 (t104), wrap64 (a1 + t101), 0)))))) = some (r1, r2, r3) := H
 have A3 := am A30
 clear A30
 by_cases c4 : t101 = 0
 ·
  rw [if_pos c4] at H
  have c4b0 : (t101 == 0) = true := beq_iff_eq.mpr c4
  have c4b1 : (t101 != 0) = false := bne_eq_false_iff_eq.mpr c4
  clear c4
  simp only [Option.some.injEq, Prod.mk.injEq] at H
  obtain ⟨rfl, rfl, rfl⟩ := H
  go_enter Try.func51, Try.ntmps51
  go_wp2_with (first | ((with_reducible refine gate_callee (f := 74) rfl ?_); refine goesL_ (some 10) rfl rfl Try.func74 (by kernel_rfl) rfl #[.slice A0 l0.length c0, .int .i64 a1] rfl (by simp only [List.map_toArray, List.map_cons, List.map_nil]; try rfl) ?_; (with_reducible refine (gangwayref01_groups.calls k _ _ l0 a1 t101 _ ?side1 ?side2 A3.out).mono ?_); (case side1 => exact Kd.C_o HR0.out); (case side2 => exact HC0.out); rintro e w' ⟨rfl, ⟨nd, rfl⟩⟩; refine ⟨_, rfl, ?_⟩))
  go_ret3
  exact ⟨by first | rfl | (simp; done) | (simp [*]; done), by repeat (first | exact Drawn0.refl _ | apply Drawn0.step)⟩
 ·
  rw [if_neg c4] at H
  have c4b0 : (t101 == 0) = false := beq_eq_false_iff_ne.mpr c4
  have c4b1 : (t101 != 0) = true := bne_iff_ne.mpr c4
  by_cases c5 : t101 > 10
  ·
   rw [if_pos c5] at H
   have c5b0 : decide (10 < t101) = true := decide_eq_true c5
   clear c5
   simp only [Option.some.injEq, Prod.mk.injEq] at H
   obtain ⟨rfl, rfl, rfl⟩ := H
   go_enter Try.func51, Try.ntmps51
   go_wp2_with (first | ((with_reducible refine gate_callee (f := 74) rfl ?_); refine goesL_ (some 10) rfl rfl Try.func74 (by kernel_rfl) rfl #[.slice A0 l0.length c0, .int .i64 a1] rfl (by simp only [List.map_toArray, List.map_cons, List.map_nil]; try rfl) ?_; (with_reducible refine (gangwayref01_groups.calls k _ _ l0 a1 t101 _ ?side1 ?side2 A3.out).mono ?_); (case side1 => exact Kd.C_o HR0.out); (case side2 => exact HC0.out); rintro e w' ⟨rfl, ⟨nd, rfl⟩⟩; refine ⟨_, rfl, ?_⟩))
   go_ret3
   exact ⟨by first | rfl | (simp; done) | (simp [*]; done), by repeat (first | exact Drawn0.refl _ | apply Drawn0.step)⟩
  ·
   rw [if_neg c5] at H
   have c5b0 : decide (10 < t101) = false := decide_eq_false c5
   clear c5
   by_cases c6 : t101 = 10
   ·
    rw [if_pos c6] at H
    have c6b0 : (t101 == 10) = true := beq_iff_eq.mpr c6
    have c6b1 : (t101 != 10) = false := bne_eq_false_iff_eq.mpr c6
    clear c6
    obtain ⟨ji7, hji7⟩ : ∃ j_ : Int, (wrap64 (a1 + 9)) = j_ := ⟨_, rfl⟩
    replace H : (if 0 ≤ (ji7) then (if (ji7) < (l0.length : Int) then (if (rd l0 (ji7)) > 1 then (some (0, 0, 21)) else ((gangwayref01_raw.f k l0 a1 t101).bind fun t103 => (some (wrap64 (t103), wrap64 (a1 + t101), 0)))) else (none)) else (none)) = some (r1, r2, r3) := by first | (rw [hji7] at H; exact H) | (simp only [hji7] at H ⊢; exact H)
    (try rw [hji7] at A3)
    have hji7w : (IntKind.i64.wrap (a1 + 9)) = ji7 := (i64_w _).trans hji7
    by_cases c8 : 0 ≤ (ji7)
    ·
     rw [if_pos c8] at H
     have c8b0 : decide (0 ≤ (ji7)) = true := decide_eq_true c8
     clear c8
     by_cases c9 : (ji7) < (l0.length : Int)
     ·
      rw [if_pos c9] at H
      have c9b0 : decide ((ji7) < (l0.length : Int)) = true := decide_eq_true c9
      clear c9
      by_cases c10 : (rd l0 (ji7)) > 1
      ·
       rw [if_pos c10] at H
       have c10b0 : decide (1 < (rd l0 (ji7))) = true := decide_eq_true c10
       clear c10
       simp only [Option.some.injEq, Prod.mk.injEq] at H
       obtain ⟨rfl, rfl, rfl⟩ := H
       go_enter Try.func51, Try.ntmps51
       go_wp2_with (first | ((with_reducible refine gate_callee (f := 74) rfl ?_); refine goesL_ (some 10) rfl rfl Try.func74 (by kernel_rfl) rfl #[.slice A0 l0.length c0, .int .i64 a1] rfl (by simp only [List.map_toArray, List.map_cons, List.map_nil]; try rfl) ?_; (with_reducible refine (gangwayref01_groups.calls k _ _ l0 a1 t101 _ ?side1 ?side2 A3.out).mono ?_); (case side1 => exact Kd.C_o HR0.out); (case side2 => exact HC0.out); rintro e w' ⟨rfl, ⟨nd, rfl⟩⟩; refine ⟨_, rfl, ?_⟩; have p102 : 0 ≤ ((ji7) : Int) := of_decide_eq_true (by first | (with_reducible assumption) | assumption); have q102 : (ji7) < (l0.length : Int) := of_decide_eq_true (by first | (with_reducible assumption) | assumption); obtain ⟨ad102, e102, hx102_0⟩ := Kd.at_int HR0.out (ji7) p102 q102; cases e102; replace p102 := eq_true p102; replace q102 := eq_true q102))
       go_ret3
       exact ⟨by first | rfl | (simp; done) | (simp only [← hji7] <;> (first | rfl | simp)) | (simp [*]; done), by repeat (first | exact Drawn0.refl _ | apply Drawn0.step)⟩
      ·
       rw [if_neg c10] at H
       have c10b0 : decide (1 < (rd l0 (ji7))) = false := decide_eq_false c10
       clear c10
       replace H := Option.bind_eq_some_iff.mp H
       obtain ⟨t103, A110, H⟩ := H
       replace H : (some (wrap64 (t103), wrap64 (a1 + t101), 0)) = some (r1, r2, r3) := H
       have A11 := am A110
       clear A110
       simp only [Option.some.injEq, Prod.mk.injEq] at H
       obtain ⟨rfl, rfl, rfl⟩ := H
       go_enter Try.func51, Try.ntmps51
       go_wp2_with (first | ((with_reducible refine gate_callee (f := 74) rfl ?_); refine goesL_ (some 10) rfl rfl Try.func74 (by kernel_rfl) rfl #[.slice A0 l0.length c0, .int .i64 a1] rfl (by simp only [List.map_toArray, List.map_cons, List.map_nil]; try rfl) ?_; (with_reducible refine (gangwayref01_groups.calls k _ _ l0 a1 t101 _ ?side1 ?side2 A3.out).mono ?_); (case side1 => exact Kd.C_o HR0.out); (case side2 => exact HC0.out); rintro e w' ⟨rfl, ⟨nd, rfl⟩⟩; refine ⟨_, rfl, ?_⟩; have p102 : 0 ≤ ((ji7) : Int) := of_decide_eq_true (by first | (with_reducible assumption) | assumption); have q102 : (ji7) < (l0.length : Int) := of_decide_eq_true (by first | (with_reducible assumption) | assumption); obtain ⟨ad102, e102, hx102_0⟩ := Kd.at_int HR0.out (ji7) p102 q102; cases e102; replace p102 := eq_true p102; replace q102 := eq_true q102) | ((with_reducible refine gate_callee (f := 75) rfl ?_); refine goesL_ (some 32) rfl rfl Try.func75 (by kernel_rfl) rfl #[.slice (some ad102) l0.length c0, .int .i64 a1, .int .i64 t101] rfl (by simp only [List.map_toArray, List.map_cons, List.map_nil]; try rfl) ?_; (with_reducible refine (gangwayref01_raw.calls k _ _ l0 a1 t101 t103 _ ?side1 ?side2 A11.out).mono ?_); (case side1 => exact Kd.C_o HR0.out); (case side2 => exact HC0.out); rintro e w' ⟨rfl, ⟨nd, rfl⟩⟩; refine ⟨_, rfl, ?_⟩))
       go_ret3
       exact ⟨by first | rfl | (simp; done) | (simp only [← hji7] <;> (first | rfl | simp)) | (simp [*]; done), by repeat (first | exact Drawn0.refl _ | apply Drawn0.step)⟩
     ·
      rw [if_neg c9] at H
      exact absurd H (by simp)
    ·
     rw [if_neg c8] at H
     exact absurd H (by simp)
   ·
    rw [if_neg c6] at H
    have c6b0 : (t101 == 10) = false := beq_eq_false_iff_ne.mpr c6
    have c6b1 : (t101 != 10) = true := bne_iff_ne.mpr c6
    replace H := Option.bind_eq_some_iff.mp H
    obtain ⟨t104, A120, H⟩ := H
    replace H : (some (wrap64 (t104), wrap64 (a1 + t101), 0)) = some (r1, r2, r3) := H
    have A12 := am A120
    clear A120
    simp only [Option.some.injEq, Prod.mk.injEq] at H
    obtain ⟨rfl, rfl, rfl⟩ := H
    go_enter Try.func51, Try.ntmps51
    go_wp2_with (first | ((with_reducible refine gate_callee (f := 74) rfl ?_); refine goesL_ (some 10) rfl rfl Try.func74 (by kernel_rfl) rfl #[.slice A0 l0.length c0, .int .i64 a1] rfl (by simp only [List.map_toArray, List.map_cons, List.map_nil]; try rfl) ?_; (with_reducible refine (gangwayref01_groups.calls k _ _ l0 a1 t101 _ ?side1 ?side2 A3.out).mono ?_); (case side1 => exact Kd.C_o HR0.out); (case side2 => exact HC0.out); rintro e w' ⟨rfl, ⟨nd, rfl⟩⟩; refine ⟨_, rfl, ?_⟩) | ((with_reducible refine gate_callee (f := 75) rfl ?_); refine goesL_ (some 32) rfl rfl Try.func75 (by kernel_rfl) rfl #[.slice A0 l0.length c0, .int .i64 a1, .int .i64 t101] rfl (by simp only [List.map_toArray, List.map_cons, List.map_nil]; try rfl) ?_; (with_reducible refine (gangwayref01_raw.calls k _ _ l0 a1 t101 t104 _ ?side1 ?side2 A12.out).mono ?_); (case side1 => exact Kd.C_o HR0.out); (case side2 => exact HC0.out); rintro e w' ⟨rfl, ⟨nd, rfl⟩⟩; refine ⟨_, rfl, ?_⟩))
    go_ret3
    exact ⟨by first | rfl | (simp; done) | (simp [*]; done), by repeat (first | exact Drawn0.refl _ | apply Drawn0.step)⟩
end Go.Proofs.Ytfgfnflhdabmcaa.G
end
section
namespace Go.Proofs.Ytfgfnflhdabmcaa.G
open Go.RowKit Go.Proofs.YtfgfnflhdabmcaaW.PrintWords Go.Proofs.YtfgfnflhdabmcaaW.PrintLast Go.Proofs.YtfgfnflhdabmcaaW.PrintMore
attribute [local go_sem] max2_int min2_int max_two min_two max_three min_three max_four min_four   -- for this text's walks alone
set_option linter.unusedVariables false
set_option linter.unusedSimpArgs false
def gangwayref01_ReadSleb.j0 : Nat → List Int → Int → Int → Bool → Option (Int × Int × Int)
 | 0, _, _, _, _ => none
 | k + 1, x0, x1, x7, x15 => if x15 = true then (some (0, 0, 21)) else ((gangwayref01_raw.f k x0 x1 x7).bind fun t104 => (if x7 < 10 then (if 0 ≤ (wrap64 ((wrap64 (x1 + x7)) - 1)) then (if (wrap64 ((wrap64 (x1 + x7)) - 1)) < (x0.length : Int) then (if (Go.bits .and .u8 (rd x0 (wrap64 ((wrap64 (x1 + x7)) - 1))) 64) = 0 then (some (wrap64 (t104), wrap64 (x1 + x7), 0)) else (if 0 ≤ (IntKind.u64.wrap (wrap64 (7 * x7))) then (some (wrap64 (Go.bits .or .u64 t104 (shl .u64 18446744073709551615 (IntKind.u64.wrap (wrap64 (7 * x7))))), wrap64 (x1 + x7), 0)) else (none))) else (none)) else (none)) else (some (wrap64 (t104), wrap64 (x1 + x7), 0))))
def gangwayref01_ReadSleb.f (k : Nat) (l0 : List Int) (a1 : Int) : Option (Int × Int × Int) := (gangwayref01_groups.f k l0 a1).bind fun t101 => (if t101 = 0 then (some (0, 0, 20)) else (if t101 > 10 then (gangwayref01_ReadSleb.j0 k l0 a1 t101 true) else (if t101 = 10 then (if 0 ≤ (wrap64 (a1 + 9)) then (if (wrap64 (a1 + 9)) < (l0.length : Int) then (if (rd l0 (wrap64 (a1 + 9))) = 0 then (gangwayref01_ReadSleb.j0 k l0 a1 t101 false) else (gangwayref01_ReadSleb.j0 k l0 a1 t101 ((rd l0 (wrap64 (a1 + 9))) != 127))) else (none)) else (none)) else (gangwayref01_ReadSleb.j0 k l0 a1 t101 false))))
theorem gangwayref01_ReadSleb.mono_l : ∀ k, (∀ y0 y1 y2 y3, LeO (gangwayref01_ReadSleb.j0 k y0 y1 y2 y3) (gangwayref01_ReadSleb.j0 (k + 1) y0 y1 y2 y3))
 | 0 => fun _ _ _ _ r h => by simp [gangwayref01_ReadSleb.j0] at h
 | k + 1 => by
  have ih0 := gangwayref01_ReadSleb.mono_l k
  ·
   intro y0 y1 y2 y3
   unfold gangwayref01_ReadSleb.j0
   repeat' first
   | (with_reducible exact ih0 _ _ _ _)
   | (with_reducible exact gangwayref01_groups.mono _ _ _)
   | (with_reducible exact gangwayref01_raw.mono _ _ _ _)
   | (with_reducible exact LeO.refl _)
   | (with_reducible exact LeO.none _)
   | (with_reducible refine LeO.ite ?_ ?_)
   | (with_reducible refine LeO.bind ?_ (fun _ => ?_))
   | exact ih0 _ _ _ _
   | exact gangwayref01_groups.mono _ _ _
   | exact gangwayref01_raw.mono _ _ _ _
   | exact LeO.none _
   | refine LeO.ite ?_ ?_
   | refine LeO.bind ?_ (fun _ => ?_)
theorem gangwayref01_ReadSleb.mono : ∀ a0 a1 k, LeO (gangwayref01_ReadSleb.f k a0 a1) (gangwayref01_ReadSleb.f (k + 1) a0 a1) := by
 intro a0 a1 k
 have ih0 := gangwayref01_ReadSleb.mono_l k
 unfold gangwayref01_ReadSleb.f
 repeat' first
   | (with_reducible exact ih0 _ _ _ _)
   | (with_reducible exact gangwayref01_groups.mono _ _ _)
   | (with_reducible exact gangwayref01_raw.mono _ _ _ _)
   | (with_reducible exact LeO.refl _)
   | (with_reducible exact LeO.none _)
   | (with_reducible refine LeO.ite ?_ ?_)
   | (with_reducible refine LeO.bind ?_ (fun _ => ?_))
   | exact ih0 _ _ _ _
   | exact gangwayref01_groups.mono _ _ _
   | exact gangwayref01_raw.mono _ _ _ _
   | exact LeO.none _
   | refine LeO.ite ?_ ?_
   | refine LeO.bind ?_ (fun _ => ?_)
set_option maxHeartbeats 8000000 in
set_option maxRecDepth 100000 in
theorem gangwayref01_ReadSleb.calls (k : Nat) (A0 : Option Addr) (c0 : Nat) (l0 : List Int) (a1 : Int) (r1 : Int) (r2 : Int) (r3 : Int) (w : World) (hr0 : Kd.C (Kd.int .u8) w A0 l0.length l0) (hc0 : l0.length ≤ c0) (h : gangwayref01_ReadSleb.f k l0 a1 = some (r1, r2, r3)) :
  Calls Try.prog 52 #[.slice A0 l0.length c0, .int .i64 a1] w fun e w' => e = .returned (.tuple #[.int .i64 r1, .int .i64 r2, .int .i64 r3]) ∧ Drawn0 w w' := by
 have HR0 := am hr0
 have HC0 := am hc0
 clear hr0 hc0
 have H : ((gangwayref01_groups.f k l0 a1).bind fun t101 => (if t101 = 0 then (some (0, 0, 20)) else (if t101 > 10 then (gangwayref01_ReadSleb.j0 k l0 a1 t101 true) else (if t101 = 10 then (if 0 ≤ (wrap64 (a1 + 9)) then (if (wrap64 (a1 + 9)) < (l0.length : Int) then (if (rd l0 (wrap64 (a1 + 9))) = 0 then (gangwayref01_ReadSleb.j0 k l0 a1 t101 false) else (gangwayref01_ReadSleb.j0 k l0 a1 t101 ((rd l0 (wrap64 (a1 + 9))) != 127))) else (none)) else (none)) else (gangwayref01_ReadSleb.j0 k l0 a1 t101 false))))) = some (r1, r2, r3) := h
 clear h
 replace H := Option.bind_eq_some_iff.mp H
 obtain ⟨t101, A30, H⟩ := H
 replace H : (if t101 = 0 then (some (0, 0, 20)) else (if t101 > 10 then (gangwayref01_ReadSleb.j0 k l0 a1 t101 true) else (if t101 = 10 then (if 0 ≤ (wrap64 (a1 + 9)) then (if (wrap64 (a1 + 9)) < (l0.length : Int) then (if (rd l0 (wrap64 (a1 + 9))) = 0 then (gangwayref01_ReadSleb.j0 k l0 a1 t101 false) else (gangwayref01_ReadSleb.j0 k l0 a1 t101 ((rd l0 (wrap64 (a1 + 9))) != 127))) else (none)) else (none)) else (gangwayref01_ReadSleb.j0 k l0 a1 t101 false)))) = some (r1, r2, r3) := H
 have A3 := am A30
 clear A30
 by_cases c4 : t101 = 0
 ·
  rw [if_pos c4] at H
  have c4b0 : (t101 == 0) = true := beq_iff_eq.mpr c4
  have c4b1 : (t101 != 0) = false := bne_eq_false_iff_eq.mpr c4
  clear c4
  simp only [Option.some.injEq, Prod.mk.injEq] at H
  obtain ⟨rfl, rfl, rfl⟩ := H
  go_enter Try.func52, Try.ntmps52
  go_wp2_with (first | ((with_reducible refine gate_callee (f := 74) rfl ?_); refine goesL_ (some 11) rfl rfl Try.func74 (by kernel_rfl) rfl #[.slice A0 l0.length c0, .int .i64 a1] rfl (by simp only [List.map_toArray, List.map_cons, List.map_nil]; try rfl) ?_; (with_reducible refine (gangwayref01_groups.calls k _ _ l0 a1 t101 _ ?side1 ?side2 A3.out).mono ?_); (case side1 => exact Kd.C_o HR0.out); (case side2 => exact HC0.out); rintro e w' ⟨rfl, ⟨nd, rfl⟩⟩; refine ⟨_, rfl, ?_⟩))
  go_ret3
  exact ⟨by first | rfl | (simp; done) | (simp [*]; done), by repeat (first | exact Drawn0.refl _ | apply Drawn0.step)⟩
 ·
  rw [if_neg c4] at H
  have c4b0 : (t101 == 0) = false := beq_eq_false_iff_ne.mpr c4
  have c4b1 : (t101 != 0) = true := bne_iff_ne.mpr c4
  have HC5 := am H
  clear H
  go_enter Try.func52, Try.ntmps52
  go_upto_region 4 with (first | ((with_reducible refine gate_callee (f := 74) rfl ?_); refine goesL_ (some 11) rfl rfl Try.func74 (by kernel_rfl) rfl #[.slice A0 l0.length c0, .int .i64 a1] rfl (by simp only [List.map_toArray, List.map_cons, List.map_nil]; try rfl) ?_; (with_reducible refine (gangwayref01_groups.calls k _ _ l0 a1 t101 _ ?side1 ?side2 A3.out).mono ?_); (case side1 => exact Kd.C_o HR0.out); (case side2 => exact HC0.out); rintro e w' ⟨rfl, ⟨nd, rfl⟩⟩; refine ⟨_, rfl, ?_⟩))
  (try simp only [Act.put, List.setIfInBounds_toArray, List.set_cons_zero, List.set_cons_succ])
  go_cut [15] (fun v15 wc => ∃ (kq : Nat) (x15_4 : Bool), v15 = .bool x15_4 ∧ Aside0 (gangwayref01_ReadSleb.j0 kq l0 a1 t101 x15_4 = some (r1, r2, r3)) ∧ Aside0 (kq ≤ k) ∧ Drawn0 w wc)
  case first =>
   have H := HC5.out
   clear HC5
   by_cases c6 : t101 > 10
   ·
    rw [if_pos c6] at H
    have c6b0 : decide (10 < t101) = true := decide_eq_true c6
    clear c6
    (first | rw [c6b0] | (simp only [i64_w, i32_w]; rw [c6b0]) | skip)
    have H' := am H
    clear H
    go_wp2
    go_meet
    case rel => exact ⟨_, (true), (by first | rfl | (simp; done) | (simp [*]; done)), H', ⟨by first | omega | exact Nat.le_refl _⟩, by repeat (first | exact Drawn0.refl _ | apply Drawn0.step)⟩
   ·
    rw [if_neg c6] at H
    have c6b0 : decide (10 < t101) = false := decide_eq_false c6
    clear c6
    (first | rw [c6b0] | (simp only [i64_w, i32_w]; rw [c6b0]) | skip)
    by_cases c7 : t101 = 10
    ·
     rw [if_pos c7] at H
     have c7b0 : (t101 == 10) = true := beq_iff_eq.mpr c7
     have c7b1 : (t101 != 10) = false := bne_eq_false_iff_eq.mpr c7
     clear c7
     obtain ⟨ji8, hji8⟩ : ∃ j_ : Int, (wrap64 (a1 + 9)) = j_ := ⟨_, rfl⟩
     replace H : (if 0 ≤ (ji8) then (if (ji8) < (l0.length : Int) then (if (rd l0 (ji8)) = 0 then (gangwayref01_ReadSleb.j0 k l0 a1 t101 false) else (gangwayref01_ReadSleb.j0 k l0 a1 t101 ((rd l0 (ji8)) != 127))) else (none)) else (none)) = some (r1, r2, r3) := by first | (rw [hji8] at H; exact H) | (simp only [hji8] at H ⊢; exact H)
     have hji8w : (IntKind.i64.wrap (a1 + 9)) = ji8 := (i64_w _).trans hji8
     by_cases c9 : 0 ≤ (ji8)
     ·
      rw [if_pos c9] at H
      have c9b0 : decide (0 ≤ (ji8)) = true := decide_eq_true c9
      clear c9
      by_cases c10 : (ji8) < (l0.length : Int)
      ·
       rw [if_pos c10] at H
       have c10b0 : decide ((ji8) < (l0.length : Int)) = true := decide_eq_true c10
       clear c10
       by_cases c11 : (rd l0 (ji8)) = 0
       ·
        rw [if_pos c11] at H
        have c11b0 : ((rd l0 (ji8)) == 0) = true := beq_iff_eq.mpr c11
        have c11b1 : ((rd l0 (ji8)) != 0) = false := bne_eq_false_iff_eq.mpr c11
        clear c11
        have H' := am H
        clear H
        have p102 : 0 ≤ ((ji8) : Int) := of_decide_eq_true (by first | (with_reducible assumption) | assumption)
        have q102 : (ji8) < (l0.length : Int) := of_decide_eq_true (by first | (with_reducible assumption) | assumption)
        obtain ⟨ad102, e102, hx102_0⟩ := Kd.at_int HR0.out (ji8) p102 q102
        cases e102
        replace p102 := eq_true p102
        replace q102 := eq_true q102
        go_wp2
        go_meet
        case rel => exact ⟨_, (false), (by first | rfl | (simp; done) | (simp [*]; done)), H', ⟨by first | omega | exact Nat.le_refl _⟩, by repeat (first | exact Drawn0.refl _ | apply Drawn0.step)⟩
       ·
        rw [if_neg c11] at H
        have c11b0 : ((rd l0 (ji8)) == 0) = false := beq_eq_false_iff_ne.mpr c11
        have c11b1 : ((rd l0 (ji8)) != 0) = true := bne_iff_ne.mpr c11
        have H' := am H
        clear H
        have p102 : 0 ≤ ((ji8) : Int) := of_decide_eq_true (by first | (with_reducible assumption) | assumption)
        have q102 : (ji8) < (l0.length : Int) := of_decide_eq_true (by first | (with_reducible assumption) | assumption)
        obtain ⟨ad102, e102, hx102_0⟩ := Kd.at_int HR0.out (ji8) p102 q102
        cases e102
        replace p102 := eq_true p102
        replace q102 := eq_true q102
        have p103 : 0 ≤ ((ji8) : Int) := of_decide_eq_true (by first | (with_reducible assumption) | assumption)
        have q103 : (ji8) < (l0.length : Int) := of_decide_eq_true (by first | (with_reducible assumption) | assumption)
        obtain ⟨ad103, e103, hx103_0⟩ := Kd.at_int HR0.out (ji8) p103 q103
        obtain rfl : ad102 = ad103 := (by injection e103)
        replace p103 := eq_true p103
        replace q103 := eq_true q103
        go_wp2
        go_meet
        case rel => exact ⟨_, (((rd l0 (ji8)) != 127)), (by first | rfl | (simp; done) | (simp only [← hji8] <;> (first | rfl | simp)) | (simp [*]; done)), H', ⟨by first | omega | exact Nat.le_refl _⟩, by repeat (first | exact Drawn0.refl _ | apply Drawn0.step)⟩
      ·
       rw [if_neg c10] at H
       exact absurd H (by simp)
     ·
      rw [if_neg c9] at H
      exact absurd H (by simp)
    ·
     rw [if_neg c7] at H
     have c7b0 : (t101 == 10) = false := beq_eq_false_iff_ne.mpr c7
     have c7b1 : (t101 != 10) = true := bne_iff_ne.mpr c7
     have H' := am H
     clear H
     go_wp2
     go_meet
     case rel => exact ⟨_, (false), (by first | rfl | (simp; done) | (simp [*]; done)), H', ⟨by first | omega | exact Nat.le_refl _⟩, by repeat (first | exact Drawn0.refl _ | apply Drawn0.step)⟩
  case rest =>
   clear HC5
   try clear c1
   try clear p1
   try clear q1
   try clear hx1
   try clear p2
   try clear c4
   try clear c4b0
   try clear c4b1
   try clear c5
   try clear c6
   try clear c6b0
   try clear p6
   try clear c7
   try clear c7b0
   try clear c7b1
   try clear c9
   try clear c9b0
   try clear c10
   try clear c10b0
   try clear p10
   try clear q10
   try clear hx10
   try clear c11
   try clear c11b0
   try clear c11b1
   try clear hx102_0
   try clear hx103_0
   try clear p102
   try clear p103
   try clear q102
   try clear q103
   obtain ⟨kq, x15_4, rfl, HA, HJ4, ⟨mc4, rfl⟩⟩ := hcut
   cases kq with
   | zero => exact absurd HA.out (by simp [gangwayref01_ReadSleb.j0])
   | succ kj4 =>
    have H := HA.out
    clear HA
    simp only [gangwayref01_ReadSleb.j0] at H
    by_cases c12 : x15_4 = true
    ·
     subst c12
     have H1 : (some (0, 0, 21)) = some (r1, r2, r3) := by rw [if_pos rfl] at H; exact H
     clear H
     have H := H1
     clear H1
     simp only [Option.some.injEq, Prod.mk.injEq] at H
     obtain ⟨rfl, rfl, rfl⟩ := H
     go_wp2
     go_ret3
     exact ⟨by first | rfl | (simp; done) | (simp [*]; done), by repeat (first | exact Drawn0.refl _ | apply Drawn0.step)⟩
    ·
     replace c12 := Bool.eq_false_iff.mpr c12
     subst c12
     have H1 : ((gangwayref01_raw.f kj4 l0 a1 t101).bind fun t104 => (if t101 < 10 then (if 0 ≤ (wrap64 ((wrap64 (a1 + t101)) - 1)) then (if (wrap64 ((wrap64 (a1 + t101)) - 1)) < (l0.length : Int) then (if (Go.bits .and .u8 (rd l0 (wrap64 ((wrap64 (a1 + t101)) - 1))) 64) = 0 then (some (wrap64 (t104), wrap64 (a1 + t101), 0)) else (if 0 ≤ (IntKind.u64.wrap (wrap64 (7 * t101))) then (some (wrap64 (Go.bits .or .u64 t104 (shl .u64 18446744073709551615 (IntKind.u64.wrap (wrap64 (7 * t101))))), wrap64 (a1 + t101), 0)) else (none))) else (none)) else (none)) else (some (wrap64 (t104), wrap64 (a1 + t101), 0)))) = some (r1, r2, r3) := by rw [if_neg (show ¬ (false = true) by decide)] at H; exact H
     clear H
     have H := H1
     clear H1
     replace H := Option.bind_eq_some_iff.mp H
     obtain ⟨t104, A130, H⟩ := H
     replace H : (if t101 < 10 then (if 0 ≤ (wrap64 ((wrap64 (a1 + t101)) - 1)) then (if (wrap64 ((wrap64 (a1 + t101)) - 1)) < (l0.length : Int) then (if (Go.bits .and .u8 (rd l0 (wrap64 ((wrap64 (a1 + t101)) - 1))) 64) = 0 then (some (wrap64 (t104), wrap64 (a1 + t101), 0)) else (if 0 ≤ (IntKind.u64.wrap (wrap64 (7 * t101))) then (some (wrap64 (Go.bits .or .u64 t104 (shl .u64 18446744073709551615 (IntKind.u64.wrap (wrap64 (7 * t101))))), wrap64 (a1 + t101), 0)) else (none))) else (none)) else (none)) else (some (wrap64 (t104), wrap64 (a1 + t101), 0))) = some (r1, r2, r3) := H
     have A13 := am A130
     clear A130
     by_cases c14 : t101 < 10
     ·
      rw [if_pos c14] at H
      have c14b0 : decide (t101 < 10) = true := decide_eq_true c14
      clear c14
      obtain ⟨ji15, hji15⟩ : ∃ j_ : Int, (wrap64 ((wrap64 (a1 + t101)) - 1)) = j_ := ⟨_, rfl⟩
      replace H : (if 0 ≤ (ji15) then (if (ji15) < (l0.length : Int) then (if (Go.bits .and .u8 (rd l0 (ji15)) 64) = 0 then (some (wrap64 (t104), wrap64 (a1 + t101), 0)) else (if 0 ≤ (IntKind.u64.wrap (wrap64 (7 * t101))) then (some (wrap64 (Go.bits .or .u64 t104 (shl .u64 18446744073709551615 (IntKind.u64.wrap (wrap64 (7 * t101))))), wrap64 (a1 + t101), 0)) else (none))) else (none)) else (none)) = some (r1, r2, r3) := by first | (rw [hji15] at H; exact H) | (simp only [hji15] at H ⊢; exact H)
      (try rw [hji15] at A13)
      have hji15w : (IntKind.i64.wrap ((wrap64 (a1 + t101)) - 1)) = ji15 := (i64_w _).trans hji15
      by_cases c16 : 0 ≤ (ji15)
      ·
       rw [if_pos c16] at H
       have c16b0 : decide (0 ≤ (ji15)) = true := decide_eq_true c16
       clear c16
       by_cases c17 : (ji15) < (l0.length : Int)
       ·
        rw [if_pos c17] at H
        have c17b0 : decide ((ji15) < (l0.length : Int)) = true := decide_eq_true c17
        clear c17
        by_cases c18 : (Go.bits .and .u8 (rd l0 (ji15)) 64) = 0
        ·
         rw [if_pos c18] at H
         have c18b0 : ((Go.bits .and .u8 (rd l0 (ji15)) 64) == 0) = true := beq_iff_eq.mpr c18
         have c18b1 : ((Go.bits .and .u8 (rd l0 (ji15)) 64) != 0) = false := bne_eq_false_iff_eq.mpr c18
         clear c18
         simp only [Option.some.injEq, Prod.mk.injEq] at H
         obtain ⟨rfl, rfl, rfl⟩ := H
         go_wp2_with (first | ((with_reducible refine gate_callee (f := 75) rfl ?_); refine goesL_ (some 41) rfl rfl Try.func75 (by kernel_rfl) rfl #[.slice A0 l0.length c0, .int .i64 a1, .int .i64 t101] rfl (by simp only [List.map_toArray, List.map_cons, List.map_nil]; try rfl) ?_; (with_reducible refine (gangwayref01_raw.calls kj4 _ _ l0 a1 t101 t104 _ ?side1 ?side2 A13.out).mono ?_); (case side1 => exact Kd.C_o HR0.out); (case side2 => exact HC0.out); rintro e w' ⟨rfl, ⟨nd, rfl⟩⟩; refine ⟨_, rfl, ?_⟩; have p105 : 0 ≤ ((ji15) : Int) := of_decide_eq_true (by first | (with_reducible assumption) | assumption); have q105 : (ji15) < (l0.length : Int) := of_decide_eq_true (by first | (with_reducible assumption) | assumption); obtain ⟨ad105, e105, hx105_0⟩ := Kd.at_int HR0.out (ji15) p105 q105; cases e105; replace p105 := eq_true p105; replace q105 := eq_true q105))
         go_ret3
         exact ⟨by first | rfl | (simp; done) | (simp only [← hji15] <;> (first | rfl | simp)) | (simp [*]; done), by repeat (first | exact Drawn0.refl _ | apply Drawn0.step)⟩
        ·
         rw [if_neg c18] at H
         have c18b0 : ((Go.bits .and .u8 (rd l0 (ji15)) 64) == 0) = false := beq_eq_false_iff_ne.mpr c18
         have c18b1 : ((Go.bits .and .u8 (rd l0 (ji15)) 64) != 0) = true := bne_iff_ne.mpr c18
         obtain ⟨ji19, hji19⟩ : ∃ j_ : Int, (IntKind.u64.wrap (wrap64 (7 * t101))) = j_ := ⟨_, rfl⟩
         replace H : (if 0 ≤ (ji19) then (some (wrap64 (Go.bits .or .u64 t104 (shl .u64 18446744073709551615 (ji19))), wrap64 (a1 + t101), 0)) else (none)) = some (r1, r2, r3) := by first | (rw [hji19] at H; exact H) | (simp only [hji19] at H ⊢; exact H)
         (try rw [hji19] at A13)
         by_cases c20 : 0 ≤ (ji19)
         ·
          rw [if_pos c20] at H
          have c20b0 := eq_true c20
          have c20b1 : decide (0 ≤ (ji19)) = true := decide_eq_true c20
          clear c20
          obtain ⟨ji21, hji21⟩ : ∃ j_ : Int, (shl .u64 18446744073709551615 (ji19)) = j_ := ⟨_, rfl⟩
          replace H : (some (wrap64 (Go.bits .or .u64 t104 (ji21)), wrap64 (a1 + t101), 0)) = some (r1, r2, r3) := by first | (rw [hji21] at H; exact H) | (simp only [hji21] at H ⊢; exact H)
          (try rw [hji21] at A13)
          have hji21_ : (IntKind.u64.wrap (18446744073709551615 * 2 ^ min (ji19).toNat 64)) = ji21 := hji21
          have hji21z : (ji19) ≤ 64 → (IntKind.u64.wrap (18446744073709551615 * 2 ^ (ji19).toNat)) = ji21 := shl_small hji21
          simp only [Option.some.injEq, Prod.mk.injEq] at H
          obtain ⟨rfl, rfl, rfl⟩ := H
          go_wp2_with (first | ((with_reducible refine gate_callee (f := 75) rfl ?_); refine goesL_ (some 41) rfl rfl Try.func75 (by kernel_rfl) rfl #[.slice A0 l0.length c0, .int .i64 a1, .int .i64 t101] rfl (by simp only [List.map_toArray, List.map_cons, List.map_nil]; try rfl) ?_; (with_reducible refine (gangwayref01_raw.calls kj4 _ _ l0 a1 t101 t104 _ ?side1 ?side2 A13.out).mono ?_); (case side1 => exact Kd.C_o HR0.out); (case side2 => exact HC0.out); rintro e w' ⟨rfl, ⟨nd, rfl⟩⟩; refine ⟨_, rfl, ?_⟩; have p105 : 0 ≤ ((ji15) : Int) := of_decide_eq_true (by first | (with_reducible assumption) | assumption); have q105 : (ji15) < (l0.length : Int) := of_decide_eq_true (by first | (with_reducible assumption) | assumption); obtain ⟨ad105, e105, hx105_0⟩ := Kd.at_int HR0.out (ji15) p105 q105; cases e105; replace p105 := eq_true p105; replace q105 := eq_true q105))
          go_ret3
          exact ⟨by first | rfl | (simp; done) | (simp only [← hji15, ← hji19, ← hji21] <;> (first | rfl | simp)) | (simp [*]; done), by repeat (first | exact Drawn0.refl _ | apply Drawn0.step)⟩
         ·
          rw [if_neg c20] at H
          exact absurd H (by simp)
       ·
        rw [if_neg c17] at H
        exact absurd H (by simp)
      ·
       rw [if_neg c16] at H
       exact absurd H (by simp)
     ·
      rw [if_neg c14] at H
      have c14b0 : decide (t101 < 10) = false := decide_eq_false c14
      clear c14
      simp only [Option.some.injEq, Prod.mk.injEq] at H
      obtain ⟨rfl, rfl, rfl⟩ := H
      go_wp2_with (first | ((with_reducible refine gate_callee (f := 75) rfl ?_); refine goesL_ (some 41) rfl rfl Try.func75 (by kernel_rfl) rfl #[.slice A0 l0.length c0, .int .i64 a1, .int .i64 t101] rfl (by simp only [List.map_toArray, List.map_cons, List.map_nil]; try rfl) ?_; (with_reducible refine (gangwayref01_raw.calls kj4 _ _ l0 a1 t101 t104 _ ?side1 ?side2 A13.out).mono ?_); (case side1 => exact Kd.C_o HR0.out); (case side2 => exact HC0.out); rintro e w' ⟨rfl, ⟨nd, rfl⟩⟩; refine ⟨_, rfl, ?_⟩))
      go_ret3
      exact ⟨by first | rfl | (simp; done) | (simp [*]; done), by repeat (first | exact Drawn0.refl _ | apply Drawn0.step)⟩
end Go.Proofs.Ytfgfnflhdabmcaa.G
end
section
namespace Go.Proofs.Ytfgfnflhdabmcaa.G
open Go.RowKit Go.Proofs.YtfgfnflhdabmcaaW.PrintWords Go.Proofs.YtfgfnflhdabmcaaW.PrintLast Go.Proofs.YtfgfnflhdabmcaaW.PrintMore
attribute [local go_sem] max2_int min2_int max_two min_two max_three min_three max_four min_four   -- for this text's walks alone
set_option linter.unusedVariables false
set_option linter.unusedSimpArgs false
mutual
def gangwayref01_Get.j0 : Nat → List Int → Int → Int → Bool → Bool → Option (Int × Int)
 | 0, _, _, _, _, _ => none
 | k + 1, x0, x1, x2, x3, x31 => if x31 = true then (some (0, 20)) else (gangwayref01_Get.l0 k x0 x1 x2 x3 0 (wrap64 (x2 - 1)))
def gangwayref01_Get.l0 : Nat → List Int → Int → Int → Bool → Int → Int → Option (Int × Int)
 | 0, _, _, _, _, _, _ => none
 | k + 1, x0, x1, x2, x3, x10, x11 => if x11 ≥ 0 then (if 0 ≤ (wrap64 (x1 + x11)) then (if (wrap64 (x1 + x11)) < (x0.length : Int) then (gangwayref01_Get.l0 k x0 x1 x2 x3 (Go.bits .or .u64 (IntKind.u64.wrap (x10 * 256)) (IntKind.u64.wrap (rd x0 (wrap64 (x1 + x11))))) (wrap64 (x11 - 1))) else (none)) else (none)) else (if x3 = true then (if x2 < 8 then (if 0 ≤ (IntKind.u64.wrap (wrap64 ((wrap64 (8 * x2)) - 1))) then (if (wrap64 (x10)) ≥ (shl .i64 1 (IntKind.u64.wrap (wrap64 ((wrap64 (8 * x2)) - 1)))) then (if 0 ≤ (IntKind.u64.wrap (wrap64 (8 * x2))) then (some (wrap64 ((wrap64 (x10)) - (shl .i64 1 (IntKind.u64.wrap (wrap64 (8 * x2))))), 0)) else (none)) else (some (wrap64 (x10), 0))) else (none)) else (some (wrap64 (x10), 0))) else (some (wrap64 (x10), 0)))
end
def gangwayref01_Get.f (k : Nat) (l0 : List Int) (a1 : Int) (a2 : Int) (a3 : Bool) : Option (Int × Int) := (gangwayref01_sized.f a2).bind fun t101 => (if t101 = true then (if a1 < 0 then (gangwayref01_Get.j0 k l0 a1 a2 a3 true) else (if a1 > (l0.length : Int) then (gangwayref01_Get.j0 k l0 a1 a2 a3 true) else (gangwayref01_Get.j0 k l0 a1 a2 a3 (decide (a2 > (wrap64 ((l0.length : Int) - a1))))))) else (some (0, 1)))
theorem gangwayref01_Get.mono_l : ∀ k, (∀ y0 y1 y2 y3 y4, LeO (gangwayref01_Get.j0 k y0 y1 y2 y3 y4) (gangwayref01_Get.j0 (k + 1) y0 y1 y2 y3 y4)) ∧ (∀ y0 y1 y2 y3 y4 y5, LeO (gangwayref01_Get.l0 k y0 y1 y2 y3 y4 y5) (gangwayref01_Get.l0 (k + 1) y0 y1 y2 y3 y4 y5))
 | 0 => ⟨fun _ _ _ _ _ r h => by simp [gangwayref01_Get.j0] at h, fun _ _ _ _ _ _ r h => by simp [gangwayref01_Get.l0] at h⟩
 | k + 1 => by
  obtain ⟨ih0, ih1⟩ := gangwayref01_Get.mono_l k
  refine ⟨?_, ?_⟩
  ·
   intro y0 y1 y2 y3 y4
   unfold gangwayref01_Get.j0
   repeat' first
   | (with_reducible exact ih0 _ _ _ _ _)
   | (with_reducible exact ih1 _ _ _ _ _ _)
   | (with_reducible exact LeO.refl _)
   | (with_reducible exact LeO.none _)
   | (with_reducible refine LeO.ite ?_ ?_)
   | (with_reducible refine LeO.bind ?_ (fun _ => ?_))
   | exact ih0 _ _ _ _ _
   | exact ih1 _ _ _ _ _ _
   | exact LeO.none _
   | refine LeO.ite ?_ ?_
   | refine LeO.bind ?_ (fun _ => ?_)
  ·
   intro y0 y1 y2 y3 y4 y5
   unfold gangwayref01_Get.l0
   repeat' first
   | (with_reducible exact ih0 _ _ _ _ _)
   | (with_reducible exact ih1 _ _ _ _ _ _)
   | (with_reducible exact LeO.refl _)
   | (with_reducible exact LeO.none _)
   | (with_reducible refine LeO.ite ?_ ?_)
   | (with_reducible refine LeO.bind ?_ (fun _ => ?_))
   | exact ih0 _ _ _ _ _
   | exact ih1 _ _ _ _ _ _
   | exact LeO.none _
   | refine LeO.ite ?_ ?_
   | refine LeO.bind ?_ (fun _ => ?_)
theorem gangwayref01_Get.mono : ∀ a0 a1 a2 a3 k, LeO (gangwayref01_Get.f k a0 a1 a2 a3) (gangwayref01_Get.f (k + 1) a0 a1 a2 a3) := by
 intro a0 a1 a2 a3 k
 obtain ⟨ih0, ih1⟩ := gangwayref01_Get.mono_l k
 unfold gangwayref01_Get.f
 repeat' first
   | (with_reducible exact ih0 _ _ _ _ _)
   | (with_reducible exact ih1 _ _ _ _ _ _)
   | (with_reducible exact LeO.refl _)
   | (with_reducible exact LeO.none _)
   | (with_reducible refine LeO.ite ?_ ?_)
   | (with_reducible refine LeO.bind ?_ (fun _ => ?_))
   | exact ih0 _ _ _ _ _
   | exact ih1 _ _ _ _ _ _
   | exact LeO.none _
   | refine LeO.ite ?_ ?_
   | refine LeO.bind ?_ (fun _ => ?_)
set_option maxHeartbeats 8000000 in
set_option maxRecDepth 100000 in
theorem gangwayref01_Get.calls (k : Nat) (A0 : Option Addr) (c0 : Nat) (l0 : List Int) (a1 : Int) (a2 : Int) (a3 : Bool) (r1 : Int) (r2 : Int) (w : World) (hr0 : Kd.C (Kd.int .u8) w A0 l0.length l0) (hc0 : l0.length ≤ c0) (h : gangwayref01_Get.f k l0 a1 a2 a3 = some (r1, r2)) :
  Calls Try.prog 53 #[.slice A0 l0.length c0, .int .i64 a1, .int .i64 a2, .bool a3] w fun e w' => e = .returned (.tuple #[.int .i64 r1, .int .i64 r2]) ∧ Drawn0 w w' := by
 have HR0 := am hr0
 have HC0 := am hc0
 clear hr0 hc0
 have H : ((gangwayref01_sized.f a2).bind fun t101 => (if t101 = true then (if a1 < 0 then (gangwayref01_Get.j0 k l0 a1 a2 a3 true) else (if a1 > (l0.length : Int) then (gangwayref01_Get.j0 k l0 a1 a2 a3 true) else (gangwayref01_Get.j0 k l0 a1 a2 a3 (decide (a2 > (wrap64 ((l0.length : Int) - a1))))))) else (some (0, 1)))) = some (r1, r2) := h
 clear h
 replace H := Option.bind_eq_some_iff.mp H
 obtain ⟨t101, A50, H⟩ := H
 replace H : (if t101 = true then (if a1 < 0 then (gangwayref01_Get.j0 k l0 a1 a2 a3 true) else (if a1 > (l0.length : Int) then (gangwayref01_Get.j0 k l0 a1 a2 a3 true) else (gangwayref01_Get.j0 k l0 a1 a2 a3 (decide (a2 > (wrap64 ((l0.length : Int) - a1))))))) else (some (0, 1))) = some (r1, r2) := H
 have A5 := am A50
 clear A50
 by_cases c6 : t101 = true
 ·
  subst c6
  have H1 : (if a1 < 0 then (gangwayref01_Get.j0 k l0 a1 a2 a3 true) else (if a1 > (l0.length : Int) then (gangwayref01_Get.j0 k l0 a1 a2 a3 true) else (gangwayref01_Get.j0 k l0 a1 a2 a3 (decide (a2 > (wrap64 ((l0.length : Int) - a1))))))) = some (r1, r2) := by rw [if_pos rfl] at H; exact H
  clear H
  have H := H1
  clear H1
  have HC7 := am H
  clear H
  go_enter Try.func53, Try.ntmps53
  go_upto_region 3 with (first | ((with_reducible refine gate_callee (f := 68) rfl ?_); refine goesL_ (some 14) rfl rfl Try.func68 (by kernel_rfl) rfl #[.int .i64 a2] rfl (by simp only [List.map_toArray, List.map_cons, List.map_nil]; try rfl) ?_; (with_reducible refine (gangwayref01_sized.calls a2 true _ A5.out).mono ?_); rintro e w' ⟨rfl, ⟨nd, rfl⟩⟩; refine ⟨_, rfl, ?_⟩))
  (try simp only [Act.put, List.setIfInBounds_toArray, List.set_cons_zero, List.set_cons_succ])
  go_cut [31] (fun v31 wc => ∃ (kq : Nat) (x31_6 : Bool), v31 = .bool x31_6 ∧ Aside0 (gangwayref01_Get.j0 kq l0 a1 a2 a3 x31_6 = some (r1, r2)) ∧ Aside0 (kq ≤ k) ∧ Drawn0 w wc)
  case first =>
   have H := HC7.out
   clear HC7
   by_cases c8 : a1 < 0
   ·
    rw [if_pos c8] at H
    have c8b0 : decide (a1 < 0) = true := decide_eq_true c8
    clear c8
    (first | rw [c8b0] | (simp only [i64_w, i32_w]; rw [c8b0]) | skip)
    have H' := am H
    clear H
    go_wp2
    go_meet
    case rel => exact ⟨_, (true), (by first | rfl | (simp; done) | (simp [*]; done)), H', ⟨by first | omega | exact Nat.le_refl _⟩, by repeat (first | exact Drawn0.refl _ | apply Drawn0.step)⟩
   ·
    rw [if_neg c8] at H
    have c8b0 : decide (a1 < 0) = false := decide_eq_false c8
    clear c8
    (first | rw [c8b0] | (simp only [i64_w, i32_w]; rw [c8b0]) | skip)
    by_cases c9 : a1 > (l0.length : Int)
    ·
     rw [if_pos c9] at H
     have c9b0 : decide ((l0.length : Int) < a1) = true := decide_eq_true c9
     clear c9
     have H' := am H
     clear H
     go_wp2
     go_meet
     case rel => exact ⟨_, (true), (by first | rfl | (simp; done) | (simp [*]; done)), H', ⟨by first | omega | exact Nat.le_refl _⟩, by repeat (first | exact Drawn0.refl _ | apply Drawn0.step)⟩
    ·
     rw [if_neg c9] at H
     have c9b0 : decide ((l0.length : Int) < a1) = false := decide_eq_false c9
     clear c9
     have H' := am H
     clear H
     go_wp2
     go_meet
     case rel => exact ⟨_, (decide (a2 > (wrap64 ((l0.length : Int) - a1)))), (by first | rfl | (simp; done) | (simp [*]; done)), H', ⟨by first | omega | exact Nat.le_refl _⟩, by repeat (first | exact Drawn0.refl _ | apply Drawn0.step)⟩
  case rest =>
   clear HC7
   try clear p2
   try clear c5
   try clear c6
   try clear p6
   try clear c8
   try clear c8b0
   try clear c9
   try clear c9b0
   obtain ⟨kq, x31_6, rfl, HA, HJ6, ⟨mc6, rfl⟩⟩ := hcut
   cases kq with
   | zero => exact absurd HA.out (by simp [gangwayref01_Get.j0])
   | succ kj6 =>
    have H := HA.out
    clear HA
    simp only [gangwayref01_Get.j0] at H
    by_cases c10 : x31_6 = true
    ·
     subst c10
     have H1 : (some (0, 20)) = some (r1, r2) := by rw [if_pos rfl] at H; exact H
     clear H
     have H := H1
     clear H1
     simp only [Option.some.injEq, Prod.mk.injEq] at H
     obtain ⟨rfl, rfl⟩ := H
     go_wp2
     go_ret2
     exact ⟨by first | rfl | (simp; done) | (simp [*]; done), by repeat (first | exact Drawn0.refl _ | apply Drawn0.step)⟩
    ·
     replace c10 := Bool.eq_false_iff.mpr c10
     subst c10
     have H1 : (gangwayref01_Get.l0 kj6 l0 a1 a2 a3 0 (wrap64 (a2 - 1))) = some (r1, r2) := by rw [if_neg (show ¬ (false = true) by decide)] at H; exact H
     clear H
     have H := H1
     clear H1
     have H' := am H
     clear H
     go_wp2
     go_loopg [10, 11] kj6 (fun kq v10 v11 w' => ∃ (x10_2 : Int) (x11_2 : Int), v10 = .int .u64 x10_2 ∧ v11 = .int .i64 x11_2 ∧ Aside0 (gangwayref01_Get.l0 kq l0 a1 a2 a3 x10_2 x11_2 = some (r1, r2)) ∧ Aside0 (kq ≤ kj6) ∧ Drawn0 w w')
     case atStart => exact ⟨(0), (wrap64 (a2 - 1)), (by first | rfl | (simp; done) | (simp [*]; done)), (by first | rfl | (simp; done) | (simp [*]; done)), H', ⟨Nat.le_refl _⟩, by repeat (first | exact Drawn0.refl _ | apply Drawn0.step)⟩
     case round =>
      clear H'
      try clear c1
      try clear p2
      try clear c5
      try clear c6
      try clear p6
      try clear c8
      try clear c8b0
      try clear c9
      try clear c9b0
      try clear c10
      try clear p2
      try clear p6
      obtain ⟨x10_2, x11_2, rfl, rfl, HA, HK2, ⟨m2, rfl⟩⟩ := hrel
      cases gk with
      | zero => exact absurd HA.out (by simp [gangwayref01_Get.l0])
      | succ k2 =>
       have H := HA.out
       clear HA
       simp only [gangwayref01_Get.l0] at H
       by_cases c11 : x11_2 ≥ 0
       ·
        rw [if_pos c11] at H
        have c11b0 : decide (0 ≤ x11_2) = true := decide_eq_true c11
        clear c11
        obtain ⟨ji12, hji12⟩ : ∃ j_ : Int, (wrap64 (a1 + x11_2)) = j_ := ⟨_, rfl⟩
        replace H : (if 0 ≤ (ji12) then (if (ji12) < (l0.length : Int) then (gangwayref01_Get.l0 k2 l0 a1 a2 a3 (Go.bits .or .u64 (IntKind.u64.wrap (x10_2 * 256)) (IntKind.u64.wrap (rd l0 (ji12)))) (wrap64 (x11_2 - 1))) else (none)) else (none)) = some (r1, r2) := by first | (rw [hji12] at H; exact H) | (simp only [hji12] at H ⊢; exact H)
        have hji12w : (IntKind.i64.wrap (a1 + x11_2)) = ji12 := (i64_w _).trans hji12
        by_cases c13 : 0 ≤ (ji12)
        ·
         rw [if_pos c13] at H
         have c13b0 : decide (0 ≤ (ji12)) = true := decide_eq_true c13
         clear c13
         by_cases c14 : (ji12) < (l0.length : Int)
         ·
          rw [if_pos c14] at H
          have c14b0 : decide ((ji12) < (l0.length : Int)) = true := decide_eq_true c14
          clear c14
          have H' := am H
          clear H
          have p102 : 0 ≤ ((ji12) : Int) := of_decide_eq_true (by first | (with_reducible assumption) | assumption)
          have q102 : (ji12) < (l0.length : Int) := of_decide_eq_true (by first | (with_reducible assumption) | assumption)
          obtain ⟨ad102, e102, hx102_0⟩ := Kd.at_int HR0.out (ji12) p102 q102
          cases e102
          replace p102 := eq_true p102
          replace q102 := eq_true q102
          go_wp2
          go_roundg k2
          case measure => have := HJ6.out; have := HK2.out; omega
          case rel => exact ⟨(Go.bits .or .u64 (IntKind.u64.wrap (x10_2 * 256)) (IntKind.u64.wrap (rd l0 (ji12)))), (wrap64 (x11_2 - 1)), (by first | rfl | (simp; done) | (simp only [← hji12] <;> (first | rfl | simp)) | (simp [*]; done)), (by first | rfl | (simp; done) | (simp [*]; done)), H', ⟨by have := HJ6.out; have := HK2.out; omega⟩, by repeat (first | exact Drawn0.refl _ | apply Drawn0.step)⟩
         ·
          rw [if_neg c14] at H
          exact absurd H (by simp)
        ·
         rw [if_neg c13] at H
         exact absurd H (by simp)
       ·
        rw [if_neg c11] at H
        have c11b0 : decide (0 ≤ x11_2) = false := decide_eq_false c11
        clear c11
        by_cases c15 : a3 = true
        ·
         subst c15
         have H1 : (if a2 < 8 then (if 0 ≤ (IntKind.u64.wrap (wrap64 ((wrap64 (8 * a2)) - 1))) then (if (wrap64 (x10_2)) ≥ (shl .i64 1 (IntKind.u64.wrap (wrap64 ((wrap64 (8 * a2)) - 1)))) then (if 0 ≤ (IntKind.u64.wrap (wrap64 (8 * a2))) then (some (wrap64 ((wrap64 (x10_2)) - (shl .i64 1 (IntKind.u64.wrap (wrap64 (8 * a2))))), 0)) else (none)) else (some (wrap64 (x10_2), 0))) else (none)) else (some (wrap64 (x10_2), 0))) = some (r1, r2) := by rw [if_pos rfl] at H; exact H
         clear H
         have H := H1
         clear H1
         by_cases c16 : a2 < 8
         ·
          rw [if_pos c16] at H
          have c16b0 : decide (a2 < 8) = true := decide_eq_true c16
          clear c16
          obtain ⟨ji17, hji17⟩ : ∃ j_ : Int, (IntKind.u64.wrap (wrap64 ((wrap64 (8 * a2)) - 1))) = j_ := ⟨_, rfl⟩
          replace H : (if 0 ≤ (ji17) then (if (wrap64 (x10_2)) ≥ (shl .i64 1 (ji17)) then (if 0 ≤ (IntKind.u64.wrap (wrap64 (8 * a2))) then (some (wrap64 ((wrap64 (x10_2)) - (shl .i64 1 (IntKind.u64.wrap (wrap64 (8 * a2))))), 0)) else (none)) else (some (wrap64 (x10_2), 0))) else (none)) = some (r1, r2) := by first | (rw [hji17] at H; exact H) | (simp only [hji17] at H ⊢; exact H)
          by_cases c18 : 0 ≤ (ji17)
          ·
           rw [if_pos c18] at H
           have c18b0 := eq_true c18
           have c18b1 : decide (0 ≤ (ji17)) = true := decide_eq_true c18
           clear c18
           obtain ⟨ji19, hji19⟩ : ∃ j_ : Int, (shl .i64 1 (ji17)) = j_ := ⟨_, rfl⟩
           replace H : (if (wrap64 (x10_2)) ≥ (ji19) then (if 0 ≤ (IntKind.u64.wrap (wrap64 (8 * a2))) then (some (wrap64 ((wrap64 (x10_2)) - (shl .i64 1 (IntKind.u64.wrap (wrap64 (8 * a2))))), 0)) else (none)) else (some (wrap64 (x10_2), 0))) = some (r1, r2) := by first | (rw [hji19] at H; exact H) | (simp only [hji19] at H ⊢; exact H)
           have hji19_ : (IntKind.i64.wrap (1 * 2 ^ min (ji17).toNat 64)) = ji19 := hji19
           have hji19z : (ji17) ≤ 64 → (IntKind.i64.wrap (1 * 2 ^ (ji17).toNat)) = ji19 := shl_small hji19
           have hji19u : (IntKind.i64.wrap (2 ^ min (ji17).toNat 64)) = ji19 := by have h_ := hji19_; rw [Int.one_mul] at h_; exact h_
           have hji19v : (ji17) ≤ 64 → (IntKind.i64.wrap (2 ^ (ji17).toNat)) = ji19 := fun hle_ => by have h_ := hji19z hle_; rw [Int.one_mul] at h_; exact h_
           have hji19y : (wrap64 (1 * 2 ^ min (ji17).toNat 64)) = ji19 := (i64_w _).symm.trans hji19_
           have hji19x : (ji17) ≤ 64 → (wrap64 (1 * 2 ^ (ji17).toNat)) = ji19 := fun h_ => (i64_w _).symm.trans (hji19z h_)
           by_cases c20 : (wrap64 (x10_2)) ≥ (ji19)
           ·
            rw [if_pos c20] at H
            have c20b0 : decide ((ji19) ≤ (wrap64 (x10_2))) = true := decide_eq_true c20
            clear c20
            obtain ⟨ji21, hji21⟩ : ∃ j_ : Int, (IntKind.u64.wrap (wrap64 (8 * a2))) = j_ := ⟨_, rfl⟩
            replace H : (if 0 ≤ (ji21) then (some (wrap64 ((wrap64 (x10_2)) - (shl .i64 1 (ji21))), 0)) else (none)) = some (r1, r2) := by first | (rw [hji21] at H; exact H) | (simp only [hji21] at H ⊢; exact H)
            by_cases c22 : 0 ≤ (ji21)
            ·
             rw [if_pos c22] at H
             have c22b0 := eq_true c22
             have c22b1 : decide (0 ≤ (ji21)) = true := decide_eq_true c22
             clear c22
             obtain ⟨ji23, hji23⟩ : ∃ j_ : Int, (shl .i64 1 (ji21)) = j_ := ⟨_, rfl⟩
             replace H : (some (wrap64 ((wrap64 (x10_2)) - (ji23)), 0)) = some (r1, r2) := by first | (rw [hji23] at H; exact H) | (simp only [hji23] at H ⊢; exact H)
             have hji23_ : (IntKind.i64.wrap (1 * 2 ^ min (ji21).toNat 64)) = ji23 := hji23
             have hji23z : (ji21) ≤ 64 → (IntKind.i64.wrap (1 * 2 ^ (ji21).toNat)) = ji23 := shl_small hji23
             have hji23u : (IntKind.i64.wrap (2 ^ min (ji21).toNat 64)) = ji23 := by have h_ := hji23_; rw [Int.one_mul] at h_; exact h_
             have hji23v : (ji21) ≤ 64 → (IntKind.i64.wrap (2 ^ (ji21).toNat)) = ji23 := fun hle_ => by have h_ := hji23z hle_; rw [Int.one_mul] at h_; exact h_
             have hji23y : (wrap64 (1 * 2 ^ min (ji21).toNat 64)) = ji23 := (i64_w _).symm.trans hji23_
             have hji23x : (ji21) ≤ 64 → (wrap64 (1 * 2 ^ (ji21).toNat)) = ji23 := fun h_ => (i64_w _).symm.trans (hji23z h_)
             simp only [Option.some.injEq, Prod.mk.injEq] at H
             obtain ⟨rfl, rfl⟩ := H
             go_wp2
             go_ret2
             exact ⟨by first | rfl | (simp; done) | (simp only [← hji17, ← hji19, ← hji21, ← hji23] <;> (first | rfl | simp)) | (simp [*]; done), by repeat (first | exact Drawn0.refl _ | apply Drawn0.step)⟩
            ·
             rw [if_neg c22] at H
             exact absurd H (by simp)
           ·
            rw [if_neg c20] at H
            have c20b0 : decide ((ji19) ≤ (wrap64 (x10_2))) = false := decide_eq_false c20
            clear c20
            simp only [Option.some.injEq, Prod.mk.injEq] at H
            obtain ⟨rfl, rfl⟩ := H
            go_wp2
            go_ret2
            exact ⟨by first | rfl | (simp; done) | (simp only [← hji17, ← hji19] <;> (first | rfl | simp)) | (simp [*]; done), by repeat (first | exact Drawn0.refl _ | apply Drawn0.step)⟩
          ·
           rw [if_neg c18] at H
           exact absurd H (by simp)
         ·
          rw [if_neg c16] at H
          have c16b0 : decide (a2 < 8) = false := decide_eq_false c16
          clear c16
          simp only [Option.some.injEq, Prod.mk.injEq] at H
          obtain ⟨rfl, rfl⟩ := H
          go_wp2
          go_ret2
          exact ⟨by first | rfl | (simp; done) | (simp [*]; done), by repeat (first | exact Drawn0.refl _ | apply Drawn0.step)⟩
        ·
         replace c15 := Bool.eq_false_iff.mpr c15
         subst c15
         have H1 : (some (wrap64 (x10_2), 0)) = some (r1, r2) := by rw [if_neg (show ¬ (false = true) by decide)] at H; exact H
         clear H
         have H := H1
         clear H1
         simp only [Option.some.injEq, Prod.mk.injEq] at H
         obtain ⟨rfl, rfl⟩ := H
         go_wp2
         go_ret2
         exact ⟨by first | rfl | (simp; done) | (simp [*]; done), by repeat (first | exact Drawn0.refl _ | apply Drawn0.step)⟩
 ·
  replace c6 := Bool.eq_false_iff.mpr c6
  subst c6
  have H1 : (some (0, 1)) = some (r1, r2) := by rw [if_neg (show ¬ (false = true) by decide)] at H; exact H
  clear H
  have H := H1
  clear H1
  simp only [Option.some.injEq, Prod.mk.injEq] at H
  obtain ⟨rfl, rfl⟩ := H
  go_enter Try.func53, Try.ntmps53
  go_wp2_with (first | ((with_reducible refine gate_callee (f := 68) rfl ?_); refine goesL_ (some 14) rfl rfl Try.func68 (by kernel_rfl) rfl #[.int .i64 a2] rfl (by simp only [List.map_toArray, List.map_cons, List.map_nil]; try rfl) ?_; (with_reducible refine (gangwayref01_sized.calls a2 false _ A5.out).mono ?_); rintro e w' ⟨rfl, ⟨nd, rfl⟩⟩; refine ⟨_, rfl, ?_⟩))
  go_ret2
  exact ⟨by first | rfl | (simp; done) | (simp [*]; done), by repeat (first | exact Drawn0.refl _ | apply Drawn0.step)⟩
end Go.Proofs.Ytfgfnflhdabmcaa.G
end
section
namespace Go.Proofs.Ytfgfnflhdabmcaa.G
open Go.RowKit Go.Proofs.YtfgfnflhdabmcaaW.PrintWords Go.Proofs.YtfgfnflhdabmcaaW.PrintLast Go.Proofs.YtfgfnflhdabmcaaW.PrintMore
attribute [local go_sem] max2_int min2_int max_two min_two max_three min_three max_four min_four   -- for this text's walks alone
set_option linter.unusedVariables false
set_option linter.unusedSimpArgs false
mutual
def gangwayref14_Get.j0 : Nat → List Int → Int → Int → Int → Int → Bool → Option (Int × Int × Int)
 | 0, _, _, _, _, _, _ => none
 | k + 1, x0, x1, x2, x3, x4, x25 => if x25 = true then (some (0, 0, 11)) else (if (Int.tmod x2 16) = 1 then ((gangwayref01_ReadUleb.f k x0 x1).bind fun bt104 => (gangwayref14_Get.j1 k x1 x2 x3 x4 (Int.tmod x2 16) bt104.1 bt104.2.1 bt104.2.2)) else (if (Int.tmod x2 16) = 9 then ((gangwayref01_ReadSleb.f k x0 x1).bind fun bt107 => (gangwayref14_Get.j1 k x1 x2 x3 x4 (Int.tmod x2 16) bt107.1 bt107.2.1 bt107.2.2)) else ((gangwayref14_bytes.f k (Int.tmod x2 16)).bind fun t110 => ((gangwayref14_plain.f (Int.tmod x2 16)).bind fun t111 => ((gangwayref01_Get.f k x0 x1 t110 (!t111)).bind fun bt112 => ((gangwayref14_bytes.f k (Int.tmod x2 16)).bind fun t114 => (gangwayref14_Get.j1 k x1 x2 x3 x4 (Int.tmod x2 16) bt112.1 (wrap64 (x1 + t114)) bt112.2)))))))
def gangwayref14_Get.j1 : Nat → Int → Int → Int → Int → Int → Int → Int → Int → Option (Int × Int × Int)
 | 0, _, _, _, _, _, _, _, _ => none
 | k + 1, x1, x2, x3, x4, x13, x14, x15, x16 => if x16 = 0 then ((gangwayref14_plain.f x13).bind fun t115 => (if t115 = true then (if x14 < 0 then (some (0, 0, 11)) else ((gangwayref14_far.f x14).bind fun t116 => (if t116 = true then (some (0, 0, 11)) else ((gangwayref14_off.f x2 (wrap64 (x3 + x1)) x4).bind fun t117 => ((gangwayref14_far.f (wrap64 (x14 + t117))).bind fun t118 => (if t118 = true then (some (0, 0, 11)) else ((gangwayref14_off.f x2 (wrap64 (x3 + x1)) x4).bind fun t119 => (some (wrap64 (x14 + t119), x15, 0))))))))) else ((gangwayref14_far.f x14).bind fun t120 => (if t120 = true then (some (0, 0, 11)) else ((gangwayref14_off.f x2 (wrap64 (x3 + x1)) x4).bind fun t121 => ((gangwayref14_far.f (wrap64 (x14 + t121))).bind fun t122 => (if t122 = true then (some (0, 0, 11)) else ((gangwayref14_off.f x2 (wrap64 (x3 + x1)) x4).bind fun t123 => (some (wrap64 (x14 + t123), x15, 0)))))))))) else (some (0, 0, x16))
end
def gangwayref14_Get.f (k : Nat) (l0 : List Int) (a1 : Int) (a2 : Int) (a3 : Int) (a4 : Int) : Option (Int × Int × Int) := (gangwayref14_Encoding.f k a2).bind fun t101 => (if t101 = true then ((gangwayref14_far.f a3).bind fun t102 => (if t102 = true then (gangwayref14_Get.j0 k l0 a1 a2 a3 a4 true) else ((gangwayref14_far.f a4).bind fun t103 => (gangwayref14_Get.j0 k l0 a1 a2 a3 a4 t103)))) else (some (0, 0, 140)))
set_option maxHeartbeats 8000000 in
set_option maxRecDepth 100000 in
theorem gangwayref14_Get.calls (k : Nat) (A0 : Option Addr) (c0 : Nat) (l0 : List Int) (a1 : Int) (a2 : Int) (a3 : Int) (a4 : Int) (r1 : Int) (r2 : Int) (r3 : Int) (w : World) (hr0 : Kd.C (Kd.int .u8) w A0 l0.length l0) (hc0 : l0.length ≤ c0) (h : gangwayref14_Get.f k l0 a1 a2 a3 a4 = some (r1, r2, r3)) :
  Calls Try.prog 19 #[.slice A0 l0.length c0, .int .i64 a1, .int .i64 a2, .int .i64 a3, .int .i64 a4] w fun e w' => e = .returned (.tuple #[.int .i64 r1, .int .i64 r2, .int .i64 r3]) ∧ Drawn0 w w' := by
 have HR0 := am hr0
 have HC0 := am hc0
 clear hr0 hc0
 have H : ((gangwayref14_Encoding.f k a2).bind fun t101 => (if t101 = true then ((gangwayref14_far.f a3).bind fun t102 => (if t102 = true then (gangwayref14_Get.j0 k l0 a1 a2 a3 a4 true) else ((gangwayref14_far.f a4).bind fun t103 => (gangwayref14_Get.j0 k l0 a1 a2 a3 a4 t103)))) else (some (0, 0, 140)))) = some (r1, r2, r3) := h
 clear h
 replace H := Option.bind_eq_some_iff.mp H
 obtain ⟨t101, A60, H⟩ := H
 replace H : (if t101 = true then ((gangwayref14_far.f a3).bind fun t102 => (if t102 = true then (gangwayref14_Get.j0 k l0 a1 a2 a3 a4 true) else ((gangwayref14_far.f a4).bind fun t103 => (gangwayref14_Get.j0 k l0 a1 a2 a3 a4 t103)))) else (some (0, 0, 140))) = some (r1, r2, r3) := H
 have A6 := am A60
 clear A60
 by_cases c7 : t101 = true
 ·
  subst c7
  have H1 : ((gangwayref14_far.f a3).bind fun t102 => (if t102 = true then (gangwayref14_Get.j0 k l0 a1 a2 a3 a4 true) else ((gangwayref14_far.f a4).bind fun t103 => (gangwayref14_Get.j0 k l0 a1 a2 a3 a4 t103)))) = some (r1, r2, r3) := by rw [if_pos rfl] at H; exact H
  clear H
  have H := H1
  clear H1
  have HC8 := am H
  clear H
  go_enter Try.func19, Try.ntmps19
  go_upto_region 3 with (first | ((with_reducible refine gate_callee (f := 32) rfl ?_); refine goesL_ (some 18) rfl rfl Try.func32 (by kernel_rfl) rfl #[.int .i64 a2] rfl (by simp only [List.map_toArray, List.map_cons, List.map_nil]; try rfl) ?_; (with_reducible refine (gangwayref14_Encoding.calls k a2 true _ A6.out).mono ?_); rintro e w' ⟨rfl, ⟨nd, rfl⟩⟩; refine ⟨_, rfl, ?_⟩))
  (try simp only [Act.put, List.setIfInBounds_toArray, List.set_cons_zero, List.set_cons_succ])
  go_cut [25] (fun v25 wc => ∃ (kq : Nat) (x25_7 : Bool), v25 = .bool x25_7 ∧ Aside0 (gangwayref14_Get.j0 kq l0 a1 a2 a3 a4 x25_7 = some (r1, r2, r3)) ∧ Aside0 (kq ≤ k) ∧ Drawn0 w wc)
  case first =>
   have H := HC8.out
   clear HC8
   replace H := Option.bind_eq_some_iff.mp H
   obtain ⟨t102, A90, H⟩ := H
   replace H : (if t102 = true then (gangwayref14_Get.j0 k l0 a1 a2 a3 a4 true) else ((gangwayref14_far.f a4).bind fun t103 => (gangwayref14_Get.j0 k l0 a1 a2 a3 a4 t103))) = some (r1, r2, r3) := H
   have A9 := am A90
   clear A90
   by_cases c10 : t102 = true
   ·
    subst c10
    have H1 : (gangwayref14_Get.j0 k l0 a1 a2 a3 a4 true) = some (r1, r2, r3) := by rw [if_pos rfl] at H; exact H
    clear H
    have H := H1
    clear H1
    have H' := am H
    clear H
    go_wp2_with (first | ((with_reducible refine gate_callee (f := 33) rfl ?_); refine goesL_ (some 21) rfl rfl Try.func33 (by kernel_rfl) rfl #[.int .i64 a3] rfl (by simp only [List.map_toArray, List.map_cons, List.map_nil]; try rfl) ?_; (with_reducible refine (gangwayref14_far.calls a3 true _ A9.out).mono ?_); rintro e w' ⟨rfl, ⟨nd, rfl⟩⟩; refine ⟨_, rfl, ?_⟩))
    go_meet
    case rel => exact ⟨_, (true), (by first | rfl | (simp; done) | (simp [*]; done)), H', ⟨by first | omega | exact Nat.le_refl _⟩, by repeat (first | exact Drawn0.refl _ | apply Drawn0.step)⟩
   ·
    replace c10 := Bool.eq_false_iff.mpr c10
    subst c10
    have H1 : ((gangwayref14_far.f a4).bind fun t103 => (gangwayref14_Get.j0 k l0 a1 a2 a3 a4 t103)) = some (r1, r2, r3) := by rw [if_neg (show ¬ (false = true) by decide)] at H; exact H
    clear H
    have H := H1
    clear H1
    replace H := Option.bind_eq_some_iff.mp H
    obtain ⟨t103, A110, H⟩ := H
    replace H : (gangwayref14_Get.j0 k l0 a1 a2 a3 a4 t103) = some (r1, r2, r3) := H
    have A11 := am A110
    clear A110
    have H' := am H
    clear H
    go_wp2_with (first | ((with_reducible refine gate_callee (f := 33) rfl ?_); refine goesL_ (some 21) rfl rfl Try.func33 (by kernel_rfl) rfl #[.int .i64 a3] rfl (by simp only [List.map_toArray, List.map_cons, List.map_nil]; try rfl) ?_; (with_reducible refine (gangwayref14_far.calls a3 false _ A9.out).mono ?_); rintro e w' ⟨rfl, ⟨nd, rfl⟩⟩; refine ⟨_, rfl, ?_⟩) | (go_at_call 33; (with_reducible refine (gangwayref14_far.calls a4 t103 _ A11.out).mono ?_); rintro e w' ⟨rfl, ⟨nd, rfl⟩⟩))
    go_meet
    case rel => exact ⟨_, (t103), (by first | rfl | (simp; done) | (simp [*]; done)), H', ⟨by first | omega | exact Nat.le_refl _⟩, by repeat (first | exact Drawn0.refl _ | apply Drawn0.step)⟩
  case rest =>
   clear HC8
   try clear c1
   try clear p2
   try clear c3
   try clear c7
   try clear c10
   obtain ⟨kq, x25_7, rfl, HA, HJ7, ⟨mc7, rfl⟩⟩ := hcut
   cases kq with
   | zero => exact absurd HA.out (by simp [gangwayref14_Get.j0])
   | succ kj7 =>
    have H := HA.out
    clear HA
    simp only [gangwayref14_Get.j0] at H
    by_cases c12 : x25_7 = true
    ·
     subst c12
     have H1 : (some (0, 0, 11)) = some (r1, r2, r3) := by rw [if_pos rfl] at H; exact H
     clear H
     have H := H1
     clear H1
     simp only [Option.some.injEq, Prod.mk.injEq] at H
     obtain ⟨rfl, rfl, rfl⟩ := H
     go_wp2
     go_ret3
     exact ⟨by first | rfl | (simp; done) | (simp [*]; done), by repeat (first | exact Drawn0.refl _ | apply Drawn0.step)⟩
    ·
     replace c12 := Bool.eq_false_iff.mpr c12
     subst c12
     have H1 : (if (Int.tmod a2 16) = 1 then ((gangwayref01_ReadUleb.f kj7 l0 a1).bind fun bt104 => (gangwayref14_Get.j1 kj7 a1 a2 a3 a4 (Int.tmod a2 16) bt104.1 bt104.2.1 bt104.2.2)) else (if (Int.tmod a2 16) = 9 then ((gangwayref01_ReadSleb.f kj7 l0 a1).bind fun bt107 => (gangwayref14_Get.j1 kj7 a1 a2 a3 a4 (Int.tmod a2 16) bt107.1 bt107.2.1 bt107.2.2)) else ((gangwayref14_bytes.f kj7 (Int.tmod a2 16)).bind fun t110 => ((gangwayref14_plain.f (Int.tmod a2 16)).bind fun t111 => ((gangwayref01_Get.f kj7 l0 a1 t110 (!t111)).bind fun bt112 => ((gangwayref14_bytes.f kj7 (Int.tmod a2 16)).bind fun t114 => (gangwayref14_Get.j1 kj7 a1 a2 a3 a4 (Int.tmod a2 16) bt112.1 (wrap64 (a1 + t114)) bt112.2))))))) = some (r1, r2, r3) := by rw [if_neg (show ¬ (false = true) by decide)] at H; exact H
     clear H
     have H := H1
     clear H1
     have HC13 := am H
     clear H
     go_upto_block 0 with (fail)
     go_cut [14, 15, 16] (fun v14 v15 v16 wc => ∃ (kq : Nat) (x14_12 : Int) (x15_12 : Int) (x16_12 : Int), v14 = .int .i64 x14_12 ∧ v15 = .int .i64 x15_12 ∧ v16 = .int .i64 x16_12 ∧ Aside0 (gangwayref14_Get.j1 kq a1 a2 a3 a4 (Int.tmod a2 16) x14_12 x15_12 x16_12 = some (r1, r2, r3)) ∧ Aside0 (kq ≤ kj7) ∧ Drawn0 w wc)
     case first =>
      have H := HC13.out
      clear HC13
      by_cases c14 : (Int.tmod a2 16) = 1
      ·
       rw [if_pos c14] at H
       have c14b0 : ((Int.tmod a2 16) == 1) = true := beq_iff_eq.mpr c14
       have c14b1 : ((Int.tmod a2 16) != 1) = false := bne_eq_false_iff_eq.mpr c14
       clear c14
       (first | rw [c14b0] | (simp only [i64_w, i32_w]; rw [c14b0]) | skip)
       replace H := Option.bind_eq_some_iff.mp H
       obtain ⟨⟨t104, t105, t106⟩, A150, H⟩ := H
       replace H : (gangwayref14_Get.j1 kj7 a1 a2 a3 a4 (Int.tmod a2 16) t104 t105 t106) = some (r1, r2, r3) := H
       have A15 := am A150
       clear A150
       have H' := am H
       clear H
       go_wp2_with (first | ((with_reducible refine gate_callee (f := 51) rfl ?_); refine goesL_ (some 49) rfl rfl Try.func51 (by kernel_rfl) rfl #[.slice A0 l0.length c0, .int .i64 a1] rfl (by simp only [List.map_toArray, List.map_cons, List.map_nil]; try rfl) ?_; (with_reducible refine (gangwayref01_ReadUleb.calls kj7 _ _ l0 a1 t104 t105 t106 _ ?side1 ?side2 A15.out).mono ?_); (case side1 => exact Kd.C_o HR0.out); (case side2 => exact HC0.out); rintro e w' ⟨rfl, ⟨nd, rfl⟩⟩; refine ⟨_, rfl, ?_⟩))
       go_meet
       case rel => exact ⟨_, (t104), (t105), (t106), (by first | rfl | (simp; done) | (simp [*]; done)), (by first | rfl | (simp; done) | (simp [*]; done)), (by first | rfl | (simp; done) | (simp [*]; done)), H', ⟨by have := HJ7.out; first | omega | exact Nat.le_refl _⟩, by repeat (first | exact Drawn0.refl _ | apply Drawn0.step)⟩
      ·
       rw [if_neg c14] at H
       have c14b0 : ((Int.tmod a2 16) == 1) = false := beq_eq_false_iff_ne.mpr c14
       have c14b1 : ((Int.tmod a2 16) != 1) = true := bne_iff_ne.mpr c14
       (first | rw [c14b0] | (simp only [i64_w, i32_w]; rw [c14b0]) | skip)
       by_cases c16 : (Int.tmod a2 16) = 9
       ·
        rw [if_pos c16] at H
        have c16b0 : ((Int.tmod a2 16) == 9) = true := beq_iff_eq.mpr c16
        have c16b1 : ((Int.tmod a2 16) != 9) = false := bne_eq_false_iff_eq.mpr c16
        clear c16
        replace H := Option.bind_eq_some_iff.mp H
        obtain ⟨⟨t107, t108, t109⟩, A170, H⟩ := H
        replace H : (gangwayref14_Get.j1 kj7 a1 a2 a3 a4 (Int.tmod a2 16) t107 t108 t109) = some (r1, r2, r3) := H
        have A17 := am A170
        clear A170
        have H' := am H
        clear H
        go_wp2_with (first | ((with_reducible refine gate_callee (f := 52) rfl ?_); refine goesL_ (some 58) rfl rfl Try.func52 (by kernel_rfl) rfl #[.slice A0 l0.length c0, .int .i64 a1] rfl (by simp only [List.map_toArray, List.map_cons, List.map_nil]; try rfl) ?_; (with_reducible refine (gangwayref01_ReadSleb.calls kj7 _ _ l0 a1 t107 t108 t109 _ ?side1 ?side2 A17.out).mono ?_); (case side1 => exact Kd.C_o HR0.out); (case side2 => exact HC0.out); rintro e w' ⟨rfl, ⟨nd, rfl⟩⟩; refine ⟨_, rfl, ?_⟩))
        go_meet
        case rel => exact ⟨_, (t107), (t108), (t109), (by first | rfl | (simp; done) | (simp [*]; done)), (by first | rfl | (simp; done) | (simp [*]; done)), (by first | rfl | (simp; done) | (simp [*]; done)), H', ⟨by have := HJ7.out; first | omega | exact Nat.le_refl _⟩, by repeat (first | exact Drawn0.refl _ | apply Drawn0.step)⟩
       ·
        rw [if_neg c16] at H
        have c16b0 : ((Int.tmod a2 16) == 9) = false := beq_eq_false_iff_ne.mpr c16
        have c16b1 : ((Int.tmod a2 16) != 9) = true := bne_iff_ne.mpr c16
        replace H := Option.bind_eq_some_iff.mp H
        obtain ⟨t110, A180, H⟩ := H
        replace H : ((gangwayref14_plain.f (Int.tmod a2 16)).bind fun t111 => ((gangwayref01_Get.f kj7 l0 a1 t110 (!t111)).bind fun bt112 => ((gangwayref14_bytes.f kj7 (Int.tmod a2 16)).bind fun t114 => (gangwayref14_Get.j1 kj7 a1 a2 a3 a4 (Int.tmod a2 16) bt112.1 (wrap64 (a1 + t114)) bt112.2)))) = some (r1, r2, r3) := H
        have A18 := am A180
        clear A180
        replace H := Option.bind_eq_some_iff.mp H
        obtain ⟨t111, A190, H⟩ := H
        replace H : ((gangwayref01_Get.f kj7 l0 a1 t110 (!t111)).bind fun bt112 => ((gangwayref14_bytes.f kj7 (Int.tmod a2 16)).bind fun t114 => (gangwayref14_Get.j1 kj7 a1 a2 a3 a4 (Int.tmod a2 16) bt112.1 (wrap64 (a1 + t114)) bt112.2))) = some (r1, r2, r3) := H
        have A19 := am A190
        clear A190
        replace H := Option.bind_eq_some_iff.mp H
        obtain ⟨⟨t112, t113⟩, A200, H⟩ := H
        replace H : ((gangwayref14_bytes.f kj7 (Int.tmod a2 16)).bind fun t114 => (gangwayref14_Get.j1 kj7 a1 a2 a3 a4 (Int.tmod a2 16) t112 (wrap64 (a1 + t114)) t113)) = some (r1, r2, r3) := H
        have A20 := am A200
        clear A200
        replace H := Option.bind_eq_some_iff.mp H
        obtain ⟨t114, A210, H⟩ := H
        replace H : (gangwayref14_Get.j1 kj7 a1 a2 a3 a4 (Int.tmod a2 16) t112 (wrap64 (a1 + t114)) t113) = some (r1, r2, r3) := H
        have A21 := am A210
        clear A210
        have H' := am H
        clear H
        go_wp2_with (first | ((with_reducible refine gate_callee (f := 42) rfl ?_); refine goesL_ (some 33) rfl rfl Try.func42 (by kernel_rfl) rfl #[.int .i64 (Int.tmod a2 16)] rfl (by simp only [List.map_toArray, List.map_cons, List.map_nil]; try rfl) ?_; (with_reducible refine (gangwayref14_bytes.calls kj7 (Int.tmod a2 16) t110 _ A18.out).mono ?_); rintro e w' ⟨rfl, ⟨nd, rfl⟩⟩; refine ⟨_, rfl, ?_⟩) | ((with_reducible refine gate_callee (f := 43) rfl ?_); refine goesL_ (some 35) rfl rfl Try.func43 (by kernel_rfl) rfl #[.int .i64 (Int.tmod a2 16)] rfl (by simp only [List.map_toArray, List.map_cons, List.map_nil]; try rfl) ?_; (with_reducible refine (gangwayref14_plain.calls (Int.tmod a2 16) t111 _ A19.out).mono ?_); rintro e w' ⟨rfl, ⟨nd, rfl⟩⟩; refine ⟨_, rfl, ?_⟩) | ((with_reducible refine gate_callee (f := 53) rfl ?_); refine goesL_ (some 37) rfl rfl Try.func53 (by kernel_rfl) rfl #[.slice A0 l0.length c0, .int .i64 a1, .int .i64 t110, .bool (!t111)] rfl (by simp only [List.map_toArray, List.map_cons, List.map_nil]; try rfl) ?_; (with_reducible refine (gangwayref01_Get.calls kj7 _ _ l0 a1 t110 (!t111) t112 t113 _ ?side1 ?side2 A20.out).mono ?_); (case side1 => exact Kd.C_o HR0.out); (case side2 => exact HC0.out); rintro e w' ⟨rfl, ⟨nd, rfl⟩⟩; refine ⟨_, rfl, ?_⟩) | ((with_reducible refine gate_callee (f := 42) rfl ?_); refine goesL_ (some 42) rfl rfl Try.func42 (by kernel_rfl) rfl #[.int .i64 (Int.tmod a2 16)] rfl (by simp only [List.map_toArray, List.map_cons, List.map_nil]; try rfl) ?_; (with_reducible refine (gangwayref14_bytes.calls kj7 (Int.tmod a2 16) t114 _ A21.out).mono ?_); rintro e w' ⟨rfl, ⟨nd, rfl⟩⟩; refine ⟨_, rfl, ?_⟩))
        go_meet
        case rel => exact ⟨_, (t112), (wrap64 (a1 + t114)), (t113), (by first | rfl | (simp; done) | (simp [*]; done)), (by first | rfl | (simp; done) | (simp [*]; done)), (by first | rfl | (simp; done) | (simp [*]; done)), H', ⟨by have := HJ7.out; first | omega | exact Nat.le_refl _⟩, by repeat (first | exact Drawn0.refl _ | apply Drawn0.step)⟩
     case rest =>
      clear HC13
      try clear c1
      try clear p2
      try clear c3
      try clear c4
      try clear c5
      try clear p6
      try clear c7
      try clear c10
      try clear c12
      try clear c14
      try clear c14b0
      try clear c14b1
      try clear c16
      try clear c16b0
      try clear c16b1
      try clear c19
      try clear p2
      obtain ⟨kq, x14_12, x15_12, x16_12, rfl, rfl, rfl, HA, HJ12, ⟨mc12, rfl⟩⟩ := hcut
      cases kq with
      | zero => exact absurd HA.out (by simp [gangwayref14_Get.j1])
      | succ kj12 =>
       have H := HA.out
       clear HA
       simp only [gangwayref14_Get.j1] at H
       by_cases c22 : x16_12 = 0
       ·
        rw [if_pos c22] at H
        have c22b0 : (x16_12 == 0) = true := beq_iff_eq.mpr c22
        have c22b1 : (x16_12 != 0) = false := bne_eq_false_iff_eq.mpr c22
        clear c22
        replace H := Option.bind_eq_some_iff.mp H
        obtain ⟨t115, A230, H⟩ := H
        replace H : (if t115 = true then (if x14_12 < 0 then (some (0, 0, 11)) else ((gangwayref14_far.f x14_12).bind fun t116 => (if t116 = true then (some (0, 0, 11)) else ((gangwayref14_off.f a2 (wrap64 (a3 + a1)) a4).bind fun t117 => ((gangwayref14_far.f (wrap64 (x14_12 + t117))).bind fun t118 => (if t118 = true then (some (0, 0, 11)) else ((gangwayref14_off.f a2 (wrap64 (a3 + a1)) a4).bind fun t119 => (some (wrap64 (x14_12 + t119), x15_12, 0))))))))) else ((gangwayref14_far.f x14_12).bind fun t120 => (if t120 = true then (some (0, 0, 11)) else ((gangwayref14_off.f a2 (wrap64 (a3 + a1)) a4).bind fun t121 => ((gangwayref14_far.f (wrap64 (x14_12 + t121))).bind fun t122 => (if t122 = true then (some (0, 0, 11)) else ((gangwayref14_off.f a2 (wrap64 (a3 + a1)) a4).bind fun t123 => (some (wrap64 (x14_12 + t123), x15_12, 0))))))))) = some (r1, r2, r3) := H
        have A23 := am A230
        clear A230
        by_cases c24 : t115 = true
        ·
         subst c24
         have H1 : (if x14_12 < 0 then (some (0, 0, 11)) else ((gangwayref14_far.f x14_12).bind fun t116 => (if t116 = true then (some (0, 0, 11)) else ((gangwayref14_off.f a2 (wrap64 (a3 + a1)) a4).bind fun t117 => ((gangwayref14_far.f (wrap64 (x14_12 + t117))).bind fun t118 => (if t118 = true then (some (0, 0, 11)) else ((gangwayref14_off.f a2 (wrap64 (a3 + a1)) a4).bind fun t119 => (some (wrap64 (x14_12 + t119), x15_12, 0))))))))) = some (r1, r2, r3) := by rw [if_pos rfl] at H; exact H
         clear H
         have H := H1
         clear H1
         by_cases c25 : x14_12 < 0
         ·
          rw [if_pos c25] at H
          have c25b0 : decide (x14_12 < 0) = true := decide_eq_true c25
          clear c25
          simp only [Option.some.injEq, Prod.mk.injEq] at H
          obtain ⟨rfl, rfl, rfl⟩ := H
          go_wp2_with (first | ((with_reducible refine gate_callee (f := 43) rfl ?_); refine goesL_ (some 66) rfl rfl Try.func43 (by kernel_rfl) rfl #[.int .i64 (Int.tmod a2 16)] rfl (by simp only [List.map_toArray, List.map_cons, List.map_nil]; try rfl) ?_; (with_reducible refine (gangwayref14_plain.calls (Int.tmod a2 16) true _ A23.out).mono ?_); rintro e w' ⟨rfl, ⟨nd, rfl⟩⟩; refine ⟨_, rfl, ?_⟩))
          go_ret3
          exact ⟨by first | rfl | (simp; done) | (simp [*]; done), by repeat (first | exact Drawn0.refl _ | apply Drawn0.step)⟩
         ·
          rw [if_neg c25] at H
          have c25b0 : decide (x14_12 < 0) = false := decide_eq_false c25
          clear c25
          replace H := Option.bind_eq_some_iff.mp H
          obtain ⟨t116, A260, H⟩ := H
          replace H : (if t116 = true then (some (0, 0, 11)) else ((gangwayref14_off.f a2 (wrap64 (a3 + a1)) a4).bind fun t117 => ((gangwayref14_far.f (wrap64 (x14_12 + t117))).bind fun t118 => (if t118 = true then (some (0, 0, 11)) else ((gangwayref14_off.f a2 (wrap64 (a3 + a1)) a4).bind fun t119 => (some (wrap64 (x14_12 + t119), x15_12, 0))))))) = some (r1, r2, r3) := H
          have A26 := am A260
          clear A260
          by_cases c27 : t116 = true
          ·
           subst c27
           have H1 : (some (0, 0, 11)) = some (r1, r2, r3) := by rw [if_pos rfl] at H; exact H
           clear H
           have H := H1
           clear H1
           simp only [Option.some.injEq, Prod.mk.injEq] at H
           obtain ⟨rfl, rfl, rfl⟩ := H
           go_wp2_with (first | ((with_reducible refine gate_callee (f := 43) rfl ?_); refine goesL_ (some 66) rfl rfl Try.func43 (by kernel_rfl) rfl #[.int .i64 (Int.tmod a2 16)] rfl (by simp only [List.map_toArray, List.map_cons, List.map_nil]; try rfl) ?_; (with_reducible refine (gangwayref14_plain.calls (Int.tmod a2 16) true _ A23.out).mono ?_); rintro e w' ⟨rfl, ⟨nd, rfl⟩⟩; refine ⟨_, rfl, ?_⟩) | (go_at_call 33; (with_reducible refine (gangwayref14_far.calls x14_12 true _ A26.out).mono ?_); rintro e w' ⟨rfl, ⟨nd, rfl⟩⟩))
           go_ret3
           exact ⟨by first | rfl | (simp; done) | (simp [*]; done), by repeat (first | exact Drawn0.refl _ | apply Drawn0.step)⟩
          ·
           replace c27 := Bool.eq_false_iff.mpr c27
           subst c27
           have H1 : ((gangwayref14_off.f a2 (wrap64 (a3 + a1)) a4).bind fun t117 => ((gangwayref14_far.f (wrap64 (x14_12 + t117))).bind fun t118 => (if t118 = true then (some (0, 0, 11)) else ((gangwayref14_off.f a2 (wrap64 (a3 + a1)) a4).bind fun t119 => (some (wrap64 (x14_12 + t119), x15_12, 0)))))) = some (r1, r2, r3) := by rw [if_neg (show ¬ (false = true) by decide)] at H; exact H
           clear H
           have H := H1
           clear H1
           replace H := Option.bind_eq_some_iff.mp H
           obtain ⟨t117, A280, H⟩ := H
           replace H : ((gangwayref14_far.f (wrap64 (x14_12 + t117))).bind fun t118 => (if t118 = true then (some (0, 0, 11)) else ((gangwayref14_off.f a2 (wrap64 (a3 + a1)) a4).bind fun t119 => (some (wrap64 (x14_12 + t119), x15_12, 0))))) = some (r1, r2, r3) := H
           have A28 := am A280
           clear A280
           replace H := Option.bind_eq_some_iff.mp H
           obtain ⟨t118, A290, H⟩ := H
           replace H : (if t118 = true then (some (0, 0, 11)) else ((gangwayref14_off.f a2 (wrap64 (a3 + a1)) a4).bind fun t119 => (some (wrap64 (x14_12 + t119), x15_12, 0)))) = some (r1, r2, r3) := H
           have A29 := am A290
           clear A290
           by_cases c30 : t118 = true
           ·
            subst c30
            have H1 : (some (0, 0, 11)) = some (r1, r2, r3) := by rw [if_pos rfl] at H; exact H
            clear H
            have H := H1
            clear H1
            simp only [Option.some.injEq, Prod.mk.injEq] at H
            obtain ⟨rfl, rfl, rfl⟩ := H
            go_wp2_with (first | ((with_reducible refine gate_callee (f := 43) rfl ?_); refine goesL_ (some 66) rfl rfl Try.func43 (by kernel_rfl) rfl #[.int .i64 (Int.tmod a2 16)] rfl (by simp only [List.map_toArray, List.map_cons, List.map_nil]; try rfl) ?_; (with_reducible refine (gangwayref14_plain.calls (Int.tmod a2 16) true _ A23.out).mono ?_); rintro e w' ⟨rfl, ⟨nd, rfl⟩⟩; refine ⟨_, rfl, ?_⟩) | (go_at_call 33; (with_reducible refine (gangwayref14_far.calls x14_12 false _ A26.out).mono ?_); rintro e w' ⟨rfl, ⟨nd, rfl⟩⟩) | (go_at_call 41; (with_reducible refine (gangwayref14_off.calls a2 (wrap64 (a3 + a1)) a4 t117 _ A28.out).mono ?_); rintro e w' ⟨rfl, ⟨nd, rfl⟩⟩) | (go_at_call 33; (with_reducible refine (gangwayref14_far.calls (wrap64 (x14_12 + t117)) true _ A29.out).mono ?_); rintro e w' ⟨rfl, ⟨nd, rfl⟩⟩))
            go_ret3
            exact ⟨by first | rfl | (simp; done) | (simp [*]; done), by repeat (first | exact Drawn0.refl _ | apply Drawn0.step)⟩
           ·
            replace c30 := Bool.eq_false_iff.mpr c30
            subst c30
            have H1 : ((gangwayref14_off.f a2 (wrap64 (a3 + a1)) a4).bind fun t119 => (some (wrap64 (x14_12 + t119), x15_12, 0))) = some (r1, r2, r3) := by rw [if_neg (show ¬ (false = true) by decide)] at H; exact H
            clear H
            have H := H1
            clear H1
            replace H := Option.bind_eq_some_iff.mp H
            obtain ⟨t119, A310, H⟩ := H
            replace H : (some (wrap64 (x14_12 + t119), x15_12, 0)) = some (r1, r2, r3) := H
            have A31 := am A310
            clear A310
            simp only [Option.some.injEq, Prod.mk.injEq] at H
            obtain ⟨rfl, rfl, rfl⟩ := H
            go_wp2_with (first | ((with_reducible refine gate_callee (f := 43) rfl ?_); refine goesL_ (some 66) rfl rfl Try.func43 (by kernel_rfl) rfl #[.int .i64 (Int.tmod a2 16)] rfl (by simp only [List.map_toArray, List.map_cons, List.map_nil]; try rfl) ?_; (with_reducible refine (gangwayref14_plain.calls (Int.tmod a2 16) true _ A23.out).mono ?_); rintro e w' ⟨rfl, ⟨nd, rfl⟩⟩; refine ⟨_, rfl, ?_⟩) | (go_at_call 33; (with_reducible refine (gangwayref14_far.calls x14_12 false _ A26.out).mono ?_); rintro e w' ⟨rfl, ⟨nd, rfl⟩⟩) | (go_at_call 41; (with_reducible refine (gangwayref14_off.calls a2 (wrap64 (a3 + a1)) a4 t117 _ A28.out).mono ?_); rintro e w' ⟨rfl, ⟨nd, rfl⟩⟩) | (go_at_call 33; (with_reducible refine (gangwayref14_far.calls (wrap64 (x14_12 + t117)) false _ A29.out).mono ?_); rintro e w' ⟨rfl, ⟨nd, rfl⟩⟩) | ((with_reducible refine gate_callee (f := 41) rfl ?_); refine goesL_ (some 92) rfl rfl Try.func41 (by kernel_rfl) rfl #[.int .i64 a2, .int .i64 (wrap64 (a3 + a1)), .int .i64 a4] rfl (by simp only [List.map_toArray, List.map_cons, List.map_nil]; try rfl) ?_; (with_reducible refine (gangwayref14_off.calls a2 (wrap64 (a3 + a1)) a4 t119 _ A31.out).mono ?_); rintro e w' ⟨rfl, ⟨nd, rfl⟩⟩; refine ⟨_, rfl, ?_⟩))
            go_ret3
            exact ⟨by first | rfl | (simp; done) | (simp [*]; done), by repeat (first | exact Drawn0.refl _ | apply Drawn0.step)⟩
        ·
         replace c24 := Bool.eq_false_iff.mpr c24
         subst c24
         have H1 : ((gangwayref14_far.f x14_12).bind fun t120 => (if t120 = true then (some (0, 0, 11)) else ((gangwayref14_off.f a2 (wrap64 (a3 + a1)) a4).bind fun t121 => ((gangwayref14_far.f (wrap64 (x14_12 + t121))).bind fun t122 => (if t122 = true then (some (0, 0, 11)) else ((gangwayref14_off.f a2 (wrap64 (a3 + a1)) a4).bind fun t123 => (some (wrap64 (x14_12 + t123), x15_12, 0)))))))) = some (r1, r2, r3) := by rw [if_neg (show ¬ (false = true) by decide)] at H; exact H
         clear H
         have H := H1
         clear H1
         replace H := Option.bind_eq_some_iff.mp H
         obtain ⟨t120, A320, H⟩ := H
         replace H : (if t120 = true then (some (0, 0, 11)) else ((gangwayref14_off.f a2 (wrap64 (a3 + a1)) a4).bind fun t121 => ((gangwayref14_far.f (wrap64 (x14_12 + t121))).bind fun t122 => (if t122 = true then (some (0, 0, 11)) else ((gangwayref14_off.f a2 (wrap64 (a3 + a1)) a4).bind fun t123 => (some (wrap64 (x14_12 + t123), x15_12, 0))))))) = some (r1, r2, r3) := H
         have A32 := am A320
         clear A320
         by_cases c33 : t120 = true
         ·
          subst c33
          have H1 : (some (0, 0, 11)) = some (r1, r2, r3) := by rw [if_pos rfl] at H; exact H
          clear H
          have H := H1
          clear H1
          simp only [Option.some.injEq, Prod.mk.injEq] at H
          obtain ⟨rfl, rfl, rfl⟩ := H
          go_wp2_with (first | ((with_reducible refine gate_callee (f := 43) rfl ?_); refine goesL_ (some 66) rfl rfl Try.func43 (by kernel_rfl) rfl #[.int .i64 (Int.tmod a2 16)] rfl (by simp only [List.map_toArray, List.map_cons, List.map_nil]; try rfl) ?_; (with_reducible refine (gangwayref14_plain.calls (Int.tmod a2 16) false _ A23.out).mono ?_); rintro e w' ⟨rfl, ⟨nd, rfl⟩⟩; refine ⟨_, rfl, ?_⟩) | (go_at_call 33; (with_reducible refine (gangwayref14_far.calls x14_12 true _ A32.out).mono ?_); rintro e w' ⟨rfl, ⟨nd, rfl⟩⟩))
          go_ret3
          exact ⟨by first | rfl | (simp; done) | (simp [*]; done), by repeat (first | exact Drawn0.refl _ | apply Drawn0.step)⟩
         ·
          replace c33 := Bool.eq_false_iff.mpr c33
          subst c33
          have H1 : ((gangwayref14_off.f a2 (wrap64 (a3 + a1)) a4).bind fun t121 => ((gangwayref14_far.f (wrap64 (x14_12 + t121))).bind fun t122 => (if t122 = true then (some (0, 0, 11)) else ((gangwayref14_off.f a2 (wrap64 (a3 + a1)) a4).bind fun t123 => (some (wrap64 (x14_12 + t123), x15_12, 0)))))) = some (r1, r2, r3) := by rw [if_neg (show ¬ (false = true) by decide)] at H; exact H
          clear H
          have H := H1
          clear H1
          replace H := Option.bind_eq_some_iff.mp H
          obtain ⟨t121, A340, H⟩ := H
          replace H : ((gangwayref14_far.f (wrap64 (x14_12 + t121))).bind fun t122 => (if t122 = true then (some (0, 0, 11)) else ((gangwayref14_off.f a2 (wrap64 (a3 + a1)) a4).bind fun t123 => (some (wrap64 (x14_12 + t123), x15_12, 0))))) = some (r1, r2, r3) := H
          have A34 := am A340
          clear A340
          replace H := Option.bind_eq_some_iff.mp H
          obtain ⟨t122, A350, H⟩ := H
          replace H : (if t122 = true then (some (0, 0, 11)) else ((gangwayref14_off.f a2 (wrap64 (a3 + a1)) a4).bind fun t123 => (some (wrap64 (x14_12 + t123), x15_12, 0)))) = some (r1, r2, r3) := H
          have A35 := am A350
          clear A350
          by_cases c36 : t122 = true
          ·
           subst c36
           have H1 : (some (0, 0, 11)) = some (r1, r2, r3) := by rw [if_pos rfl] at H; exact H
           clear H
           have H := H1
           clear H1
           simp only [Option.some.injEq, Prod.mk.injEq] at H
           obtain ⟨rfl, rfl, rfl⟩ := H
           go_wp2_with (first | ((with_reducible refine gate_callee (f := 43) rfl ?_); refine goesL_ (some 66) rfl rfl Try.func43 (by kernel_rfl) rfl #[.int .i64 (Int.tmod a2 16)] rfl (by simp only [List.map_toArray, List.map_cons, List.map_nil]; try rfl) ?_; (with_reducible refine (gangwayref14_plain.calls (Int.tmod a2 16) false _ A23.out).mono ?_); rintro e w' ⟨rfl, ⟨nd, rfl⟩⟩; refine ⟨_, rfl, ?_⟩) | (go_at_call 33; (with_reducible refine (gangwayref14_far.calls x14_12 false _ A32.out).mono ?_); rintro e w' ⟨rfl, ⟨nd, rfl⟩⟩) | (go_at_call 41; (with_reducible refine (gangwayref14_off.calls a2 (wrap64 (a3 + a1)) a4 t121 _ A34.out).mono ?_); rintro e w' ⟨rfl, ⟨nd, rfl⟩⟩) | (go_at_call 33; (with_reducible refine (gangwayref14_far.calls (wrap64 (x14_12 + t121)) true _ A35.out).mono ?_); rintro e w' ⟨rfl, ⟨nd, rfl⟩⟩))
           go_ret3
           exact ⟨by first | rfl | (simp; done) | (simp [*]; done), by repeat (first | exact Drawn0.refl _ | apply Drawn0.step)⟩
          ·
           replace c36 := Bool.eq_false_iff.mpr c36
           subst c36
           have H1 : ((gangwayref14_off.f a2 (wrap64 (a3 + a1)) a4).bind fun t123 => (some (wrap64 (x14_12 + t123), x15_12, 0))) = some (r1, r2, r3) := by rw [if_neg (show ¬ (false = true) by decide)] at H; exact H
           clear H
           have H := H1
           clear H1
           replace H := Option.bind_eq_some_iff.mp H
           obtain ⟨t123, A370, H⟩ := H
           replace H : (some (wrap64 (x14_12 + t123), x15_12, 0)) = some (r1, r2, r3) := H
           have A37 := am A370
           clear A370
           simp only [Option.some.injEq, Prod.mk.injEq] at H
           obtain ⟨rfl, rfl, rfl⟩ := H
           go_wp2_with (first | ((with_reducible refine gate_callee (f := 43) rfl ?_); refine goesL_ (some 66) rfl rfl Try.func43 (by kernel_rfl) rfl #[.int .i64 (Int.tmod a2 16)] rfl (by simp only [List.map_toArray, List.map_cons, List.map_nil]; try rfl) ?_; (with_reducible refine (gangwayref14_plain.calls (Int.tmod a2 16) false _ A23.out).mono ?_); rintro e w' ⟨rfl, ⟨nd, rfl⟩⟩; refine ⟨_, rfl, ?_⟩) | (go_at_call 33; (with_reducible refine (gangwayref14_far.calls x14_12 false _ A32.out).mono ?_); rintro e w' ⟨rfl, ⟨nd, rfl⟩⟩) | (go_at_call 41; (with_reducible refine (gangwayref14_off.calls a2 (wrap64 (a3 + a1)) a4 t121 _ A34.out).mono ?_); rintro e w' ⟨rfl, ⟨nd, rfl⟩⟩) | (go_at_call 33; (with_reducible refine (gangwayref14_far.calls (wrap64 (x14_12 + t121)) false _ A35.out).mono ?_); rintro e w' ⟨rfl, ⟨nd, rfl⟩⟩) | ((with_reducible refine gate_callee (f := 41) rfl ?_); refine goesL_ (some 92) rfl rfl Try.func41 (by kernel_rfl) rfl #[.int .i64 a2, .int .i64 (wrap64 (a3 + a1)), .int .i64 a4] rfl (by simp only [List.map_toArray, List.map_cons, List.map_nil]; try rfl) ?_; (with_reducible refine (gangwayref14_off.calls a2 (wrap64 (a3 + a1)) a4 t123 _ A37.out).mono ?_); rintro e w' ⟨rfl, ⟨nd, rfl⟩⟩; refine ⟨_, rfl, ?_⟩))
           go_ret3
           exact ⟨by first | rfl | (simp; done) | (simp [*]; done), by repeat (first | exact Drawn0.refl _ | apply Drawn0.step)⟩
       ·
        rw [if_neg c22] at H
        have c22b0 : (x16_12 == 0) = false := beq_eq_false_iff_ne.mpr c22
        have c22b1 : (x16_12 != 0) = true := bne_iff_ne.mpr c22
        simp only [Option.some.injEq, Prod.mk.injEq] at H
        obtain ⟨rfl, rfl, rfl⟩ := H
        go_wp2
        go_ret3
        exact ⟨by first | rfl | (simp; done) | (simp [*]; done), by repeat (first | exact Drawn0.refl _ | apply Drawn0.step)⟩
 ·
  replace c7 := Bool.eq_false_iff.mpr c7
  subst c7
  have H1 : (some (0, 0, 140)) = some (r1, r2, r3) := by rw [if_neg (show ¬ (false = true) by decide)] at H; exact H
  clear H
  have H := H1
  clear H1
  simp only [Option.some.injEq, Prod.mk.injEq] at H
  obtain ⟨rfl, rfl, rfl⟩ := H
  go_enter Try.func19, Try.ntmps19
  go_wp2_with (first | ((with_reducible refine gate_callee (f := 32) rfl ?_); refine goesL_ (some 18) rfl rfl Try.func32 (by kernel_rfl) rfl #[.int .i64 a2] rfl (by simp only [List.map_toArray, List.map_cons, List.map_nil]; try rfl) ?_; (with_reducible refine (gangwayref14_Encoding.calls k a2 false _ A6.out).mono ?_); rintro e w' ⟨rfl, ⟨nd, rfl⟩⟩; refine ⟨_, rfl, ?_⟩))
  go_ret3
  exact ⟨by first | rfl | (simp; done) | (simp [*]; done), by repeat (first | exact Drawn0.refl _ | apply Drawn0.step)⟩
end Go.Proofs.Ytfgfnflhdabmcaa.G
end
section
namespace Go.Proofs.Ytfgfnflhdabmcaa.G
open Go.RowKit Go.Proofs.YtfgfnflhdabmcaaW.PrintWords Go.Proofs.YtfgfnflhdabmcaaW.PrintLast Go.Proofs.YtfgfnflhdabmcaaW.PrintMore
attribute [local go_sem] max2_int min2_int max_two min_two max_three min_three max_four min_four   -- for this text's walks alone
set_option linter.unusedVariables false
set_option linter.unusedSimpArgs false
def gangwaylaw14_EhframePointers.f (k : Nat) (a0_0 : Int) (a0_1 : Int) (a0_2 : Int) (a0_3 : Int) (l1 : List Int) (a2 : Int) : Option (Bool) := (ehframe_Put.f k a0_0 a0_1 a0_2 a0_3).bind fun bt102 => ((gangwayref14_Put.f k a0_0 a0_1 a0_2 a0_3).bind fun bt106 => ((some (([] : List Int) : List Int)).bind fun y110 => (if y110.length + l1.length < 140737488355328 then ((some (y110 ++ l1 : List Int)).bind fun y113 => ((ehframe_Get.f k y113 a2 a0_0 a0_2 a0_3).bind fun bt116 => ((gangwayref14_Get.f k l1 a2 a0_0 a0_2 a0_3).bind fun bt119 => (if (strOfNums bt102.1).toList = (strOfNums bt106.1).toList then ((gangwaylaw14_num.f bt102.2).bind fun t122 => (if t122 = bt106.2 then (if bt116.1 = bt119.1 then (if bt116.2.1 = bt119.2.1 then ((gangwaylaw14_num.f bt116.2.2).bind fun t123 => (if t123 = bt119.2.2 then (if (strOfNums y113).toList = (strOfNums l1).toList then ((gangwaylaw14_live.f k).bind fun t124 => (some t124)) else (none)) else (none))) else (none)) else (none)) else (none))) else (none))))) else (none))))
set_option maxHeartbeats 8000000 in
set_option maxRecDepth 100000 in
theorem gangwaylaw14_EhframePointers.calls (k : Nat) (a0_0 : Int) (a0_1 : Int) (a0_2 : Int) (a0_3 : Int) (A1 : Option Addr) (c1 : Nat) (l1 : List Int) (a2 : Int) (r : Bool) (w : World) (hr1 : Kd.C (Kd.int .u8) w A1 l1.length l1) (hc1 : l1.length ≤ c1) (h : gangwaylaw14_EhframePointers.f k a0_0 a0_1 a0_2 a0_3 l1 a2 = some r) :
  Calls Try.prog 5 #[.agg #[.int .i64 a0_0, .int .i64 a0_1, .int .i64 a0_2, .int .i64 a0_3], .slice A1 l1.length c1, .int .i64 a2] w fun e w' => e = .returned (.bool r) ∧ Below w.heap.size w w' := by
 have hu49 := Try.underlying49
 have HR1 := am hr1
 have HC1 := am hc1
 clear hr1 hc1
 have HB := am (Below.refl w.heap.size w)
 have H : ((ehframe_Put.f k a0_0 a0_1 a0_2 a0_3).bind fun bt102 => ((gangwayref14_Put.f k a0_0 a0_1 a0_2 a0_3).bind fun bt106 => ((some (([] : List Int) : List Int)).bind fun y110 => (if y110.length + l1.length < 140737488355328 then ((some (y110 ++ l1 : List Int)).bind fun y113 => ((ehframe_Get.f k y113 a2 a0_0 a0_2 a0_3).bind fun bt116 => ((gangwayref14_Get.f k l1 a2 a0_0 a0_2 a0_3).bind fun bt119 => (if (strOfNums bt102.1).toList = (strOfNums bt106.1).toList then ((gangwaylaw14_num.f bt102.2).bind fun t122 => (if t122 = bt106.2 then (if bt116.1 = bt119.1 then (if bt116.2.1 = bt119.2.1 then ((gangwaylaw14_num.f bt116.2.2).bind fun t123 => (if t123 = bt119.2.2 then (if (strOfNums y113).toList = (strOfNums l1).toList then ((gangwaylaw14_live.f k).bind fun t124 => (some t124)) else (none)) else (none))) else (none)) else (none)) else (none))) else (none))))) else (none))))) = some r := h
 clear h
 replace H := Option.bind_eq_some_iff.mp H
 obtain ⟨⟨t102, t103⟩, A40, H⟩ := H
 replace H : ((gangwayref14_Put.f k a0_0 a0_1 a0_2 a0_3).bind fun bt106 => ((some (([] : List Int) : List Int)).bind fun y110 => (if y110.length + l1.length < 140737488355328 then ((some (y110 ++ l1 : List Int)).bind fun y113 => ((ehframe_Get.f k y113 a2 a0_0 a0_2 a0_3).bind fun bt116 => ((gangwayref14_Get.f k l1 a2 a0_0 a0_2 a0_3).bind fun bt119 => (if (strOfNums t102).toList = (strOfNums bt106.1).toList then ((gangwaylaw14_num.f t103).bind fun t122 => (if t122 = bt106.2 then (if bt116.1 = bt119.1 then (if bt116.2.1 = bt119.2.1 then ((gangwaylaw14_num.f bt116.2.2).bind fun t123 => (if t123 = bt119.2.2 then (if (strOfNums y113).toList = (strOfNums l1).toList then ((gangwaylaw14_live.f k).bind fun t124 => (some t124)) else (none)) else (none))) else (none)) else (none)) else (none))) else (none))))) else (none)))) = some r := H
 have A4 := am A40
 clear A40
 replace H := Option.bind_eq_some_iff.mp H
 obtain ⟨⟨t106, t107⟩, A50, H⟩ := H
 replace H : ((some (([] : List Int) : List Int)).bind fun y110 => (if y110.length + l1.length < 140737488355328 then ((some (y110 ++ l1 : List Int)).bind fun y113 => ((ehframe_Get.f k y113 a2 a0_0 a0_2 a0_3).bind fun bt116 => ((gangwayref14_Get.f k l1 a2 a0_0 a0_2 a0_3).bind fun bt119 => (if (strOfNums t102).toList = (strOfNums t106).toList then ((gangwaylaw14_num.f t103).bind fun t122 => (if t122 = t107 then (if bt116.1 = bt119.1 then (if bt116.2.1 = bt119.2.1 then ((gangwaylaw14_num.f bt116.2.2).bind fun t123 => (if t123 = bt119.2.2 then (if (strOfNums y113).toList = (strOfNums l1).toList then ((gangwaylaw14_live.f k).bind fun t124 => (some t124)) else (none)) else (none))) else (none)) else (none)) else (none))) else (none))))) else (none))) = some r := H
 have A5 := am A50
 clear A50
 obtain ⟨y110, hy110⟩ : ∃ y_ : List Int, y_ = (([] : List Int)) := ⟨_, rfl⟩
 replace H : (if y110.length + l1.length < 140737488355328 then ((some (y110 ++ l1 : List Int)).bind fun y113 => ((ehframe_Get.f k y113 a2 a0_0 a0_2 a0_3).bind fun bt116 => ((gangwayref14_Get.f k l1 a2 a0_0 a0_2 a0_3).bind fun bt119 => (if (strOfNums t102).toList = (strOfNums t106).toList then ((gangwaylaw14_num.f t103).bind fun t122 => (if t122 = t107 then (if bt116.1 = bt119.1 then (if bt116.2.1 = bt119.2.1 then ((gangwaylaw14_num.f bt116.2.2).bind fun t123 => (if t123 = bt119.2.2 then (if (strOfNums y113).toList = (strOfNums l1).toList then ((gangwaylaw14_live.f k).bind fun t124 => (some t124)) else (none)) else (none))) else (none)) else (none)) else (none))) else (none))))) else (none)) = some r := by first | (rw [hy110]; with_reducible exact H) | (have H2_ := (Option.bind_some _ _).symm.trans H; rw [hy110]; with_reducible exact H2_)
 have Ny110 := am hy110
 clear hy110
 by_cases c6 : y110.length + l1.length < 140737488355328
 ·
  rw [if_pos c6] at H
  have LMc6 := am c6
  clear c6
  obtain ⟨y113, hy113⟩ : ∃ y_ : List Int, y_ = (y110 ++ l1) := ⟨_, rfl⟩
  replace H : ((ehframe_Get.f k y113 a2 a0_0 a0_2 a0_3).bind fun bt116 => ((gangwayref14_Get.f k l1 a2 a0_0 a0_2 a0_3).bind fun bt119 => (if (strOfNums t102).toList = (strOfNums t106).toList then ((gangwaylaw14_num.f t103).bind fun t122 => (if t122 = t107 then (if bt116.1 = bt119.1 then (if bt116.2.1 = bt119.2.1 then ((gangwaylaw14_num.f bt116.2.2).bind fun t123 => (if t123 = bt119.2.2 then (if (strOfNums y113).toList = (strOfNums l1).toList then ((gangwaylaw14_live.f k).bind fun t124 => (some t124)) else (none)) else (none))) else (none)) else (none)) else (none))) else (none)))) = some r := by first | (rw [hy113]; with_reducible exact H) | (have H2_ := (Option.bind_some _ _).symm.trans H; rw [hy113]; with_reducible exact H2_)
  have Ny113 := am hy113
  clear hy113
  replace H := Option.bind_eq_some_iff.mp H
  obtain ⟨⟨t116, t117, t118⟩, A70, H⟩ := H
  replace H : ((gangwayref14_Get.f k l1 a2 a0_0 a0_2 a0_3).bind fun bt119 => (if (strOfNums t102).toList = (strOfNums t106).toList then ((gangwaylaw14_num.f t103).bind fun t122 => (if t122 = t107 then (if t116 = bt119.1 then (if t117 = bt119.2.1 then ((gangwaylaw14_num.f t118).bind fun t123 => (if t123 = bt119.2.2 then (if (strOfNums y113).toList = (strOfNums l1).toList then ((gangwaylaw14_live.f k).bind fun t124 => (some t124)) else (none)) else (none))) else (none)) else (none)) else (none))) else (none))) = some r := H
  have A7 := am A70
  clear A70
  replace H := Option.bind_eq_some_iff.mp H
  obtain ⟨⟨t119, t120, t121⟩, A80, H⟩ := H
  replace H : (if (strOfNums t102).toList = (strOfNums t106).toList then ((gangwaylaw14_num.f t103).bind fun t122 => (if t122 = t107 then (if t116 = t119 then (if t117 = t120 then ((gangwaylaw14_num.f t118).bind fun t123 => (if t123 = t121 then (if (strOfNums y113).toList = (strOfNums l1).toList then ((gangwaylaw14_live.f k).bind fun t124 => (some t124)) else (none)) else (none))) else (none)) else (none)) else (none))) else (none)) = some r := H
  have A8 := am A80
  clear A80
  by_cases c9 : (strOfNums t102).toList = (strOfNums t106).toList
  ·
   rw [if_pos c9] at H
   have c9b0 : ((strOfNums t102).toList == (strOfNums t106).toList) = true := beq_iff_eq.mpr c9
   have c9b1 : ((strOfNums t102).toList != (strOfNums t106).toList) = false := bne_eq_false_iff_eq.mpr c9
   clear c9
   replace H := Option.bind_eq_some_iff.mp H
   obtain ⟨t122, A100, H⟩ := H
   replace H : (if t122 = t107 then (if t116 = t119 then (if t117 = t120 then ((gangwaylaw14_num.f t118).bind fun t123 => (if t123 = t121 then (if (strOfNums y113).toList = (strOfNums l1).toList then ((gangwaylaw14_live.f k).bind fun t124 => (some t124)) else (none)) else (none))) else (none)) else (none)) else (none)) = some r := H
   have A10 := am A100
   clear A100
   by_cases c11 : t122 = t107
   ·
    rw [if_pos c11] at H
    have c11b0 : (t122 == t107) = true := beq_iff_eq.mpr c11
    have c11b1 : (t122 != t107) = false := bne_eq_false_iff_eq.mpr c11
    clear c11
    by_cases c12 : t116 = t119
    ·
     rw [if_pos c12] at H
     have c12b0 : (t116 == t119) = true := beq_iff_eq.mpr c12
     have c12b1 : (t116 != t119) = false := bne_eq_false_iff_eq.mpr c12
     clear c12
     by_cases c13 : t117 = t120
     ·
      rw [if_pos c13] at H
      have c13b0 : (t117 == t120) = true := beq_iff_eq.mpr c13
      have c13b1 : (t117 != t120) = false := bne_eq_false_iff_eq.mpr c13
      clear c13
      replace H := Option.bind_eq_some_iff.mp H
      obtain ⟨t123, A140, H⟩ := H
      replace H : (if t123 = t121 then (if (strOfNums y113).toList = (strOfNums l1).toList then ((gangwaylaw14_live.f k).bind fun t124 => (some t124)) else (none)) else (none)) = some r := H
      have A14 := am A140
      clear A140
      by_cases c15 : t123 = t121
      ·
       rw [if_pos c15] at H
       have c15b0 : (t123 == t121) = true := beq_iff_eq.mpr c15
       have c15b1 : (t123 != t121) = false := bne_eq_false_iff_eq.mpr c15
       clear c15
       by_cases c16 : (strOfNums y113).toList = (strOfNums l1).toList
       ·
        rw [if_pos c16] at H
        have c16b0 : ((strOfNums y113).toList == (strOfNums l1).toList) = true := beq_iff_eq.mpr c16
        have c16b1 : ((strOfNums y113).toList != (strOfNums l1).toList) = false := bne_eq_false_iff_eq.mpr c16
        clear c16
        replace H := Option.bind_eq_some_iff.mp H
        obtain ⟨t124, A170, H⟩ := H
        replace H : (some t124) = some r := H
        have A17 := am A170
        clear A170
        obtain rfl := Option.some.inj H
        go_enter Try.func5, Try.ntmps5
        go_wp2_with (first | ((with_reducible refine gate_dst (N := 3) rfl ?_); refine box_event ?hg (N := 3) ?hd (cs := #[.int .i64 a0_0, .int .i64 a0_1, .int .i64 a0_2, .int .i64 a0_3]) (t := 49) ?hr ?_; (case hd => rfl); (case hg => rfl); (case hr => go_simp; try rfl); intro gb101 hg w18 hbox hb; have n0_ := am (below_step (by exact bl_o HB.out) hb); have n1_ := am (hbox); have n2_ := lei (by rw [hg]; exact (below_size (by exact bl_o HB.out)) : w.heap.size ≤ gb101); have n3_ := n2_; clear HB; have HB := n0_; have BK101 := n1_; have GW101 := n2_; have GE101 := n3_; clear n0_ n1_ n2_ n3_; clear hb hbox hg; obtain ⟨hcz19_0, hcz19_1, hcz19_2, hcz19_3, hfz19_0, hfz19_1, hfz19_2, hfz19_3⟩ := cells4 BK101.out) | ((with_reducible refine gate_callee (f := 16) rfl ?_); refine goesL_ (some 27) rfl rfl Try.func16 (by kernel_rfl) rfl #[.int .i64 a0_0, .int .i64 a0_1, .int .i64 a0_2, .int .i64 a0_3] rfl (by simp only [List.map_toArray, List.map_cons, List.map_nil]; try rfl) ?_; (with_reducible refine (ehframe_Put.calls k a0_0 a0_1 a0_2 a0_3 t102 t103 _ A4.out).mono ?_); rintro e w20 ⟨v104, rfl, ho0, hb⟩; refine ⟨_, rfl, ?_⟩; have n0_ := am (Kd.R_lower ho0 (below_size (by exact bl_g HB.out))); have n1_ := am (blk_below (blk_o BK101.out) hb); have n2_ := am (below_step (by exact bl_g HB.out) hb); clear BK101; clear HB; have HO105 := n0_; have BK101 := n1_; have HB := n2_; clear n0_ n1_ n2_; (try clear hb); (try clear hb2); (try clear hk); (try clear hi); (try clear ho0); obtain ⟨hcz21_0, hcz21_1, hcz21_2, hcz21_3, hfz21_0, hfz21_1, hfz21_2, hfz21_3⟩ := cells4 BK101.out) | ((with_reducible refine gate_callee (f := 17) rfl ?_); refine goesL_ (some 39) rfl rfl Try.func17 (by kernel_rfl) rfl #[.int .i64 a0_0, .int .i64 a0_1, .int .i64 a0_2, .int .i64 a0_3] rfl (by simp only [List.map_toArray, List.map_cons, List.map_nil]; try rfl) ?_; (with_reducible refine (gangwayref14_Put.calls k a0_0 a0_1 a0_2 a0_3 t106 t107 _ A5.out).mono ?_); rintro e w22 ⟨v108, rfl, ho0, hb⟩; refine ⟨_, rfl, ?_⟩; have n0_ := am (Kd.R_elder' (Kd.R_o HO105.out) (Kd.R_base ho0) hb); have n1_ := am (Kd.R_lower (Kd.R_new' ho0 (Kd.R_lt (Kd.R_o HO105.out))) (below_size (by exact bl_g HB.out))); have n2_ := am (blk_below (blk_o BK101.out) hb); have n3_ := am (below_step (by exact bl_g HB.out) hb); clear HO105; clear BK101; clear HB; have HO105 := n0_; have HO109 := n1_; have BK101 := n2_; have HB := n3_; clear n0_ n1_ n2_ n3_; (try clear hb); (try clear hb2); (try clear hk); (try clear hi); (try clear ho0)) | ((with_reducible refine gate_dst (N := 42) rfl ?_); refine Kd.R_lit (Kd.int .u8) _ 5 ?hg (N := 42) ?hd (xs := ([] : List Int)) (inner := []) (ok := fun _ => True) (okp := fun _ => True) ?hr ?hp (fun _ hk => hk) trivial (Below.refl _ _) (Nat.le_refl _) (by simp) ?_; (case hd => rfl); (case hg => rfl); (case hr => go_simp; try rfl); (case hp => exact (Reps.none _ _)); intro v111 w23 ho24 hb hg_ hnew_; clear hg_ hnew_; (first | rw [← Ny110.out] at ho24 | (simp only [Int.reduceToNat] at ho24; rw [← Ny110.out] at ho24)); have n0_ := am (Kd.R_elder' (Kd.R_o HO105.out) (Kd.R_base ho24) hb); have n1_ := am (Kd.R_elder' (Kd.R_o HO109.out) (Kd.R_base ho24) hb); have n2_ := am (Kd.R_lower (Kd.R_new' (Kd.R_new' ho24 (Kd.R_lt (Kd.R_o HO105.out))) (Kd.R_lt (Kd.R_o HO109.out))) (below_size (by exact bl_g HB.out))); have n3_ := am (blk_below (blk_o BK101.out) hb); have n4_ := am (below_step (by exact bl_g HB.out) hb); clear HO105; clear HO109; clear BK101; clear HB; have HO105 := n0_; have HO109 := n1_; have HO112 := n2_; have BK101 := n3_; have HB := n4_; clear n0_ n1_ n2_ n3_ n4_; clear hb ho24) | ((with_reducible refine gate_builtin (b := .append) (xs := #[.tmp 42, .tmp 43]) rfl ?_); at_builtin; refine Kd.R_append_rows (Kd.int .u8) (w0 := w) w.heap.size rfl (.tmp 42) (.tmp 43) 28 5 (.int .u8 0) 1 rfl Try.underlying28 info5 rfl (by decide) (by omega) v111 y110 l1 _ _ _ (fun k_ => some k_ ≠ (v104 : Value).ownBlock ∧ some k_ ≠ (v108 : Value).ownBlock) (fun _ => False) rfl rfl ?aO ?aR (fun _ _ h => h) (fun _ h => h.elim) ?aF ?aB ?aS ?aL ?_; (case aR => exact Kd.C_o (Kd.C_below HR1.out HB.out)); (case aB => exact (by exact bl_g HB.out)); (case aF => exact (fun k_ hk => ⟨Kd.fresh' (Kd.R_lt (Kd.R_o HO105.out)) k_ hk, Kd.fresh' (Kd.R_lt (Kd.R_o HO109.out)) k_ hk⟩)); (case aO => exact (Kd.R_o (Kd.R_mono HO112.out (fun _ hk => ⟨hk.1.2, hk.2⟩)))); (case aS => exact (below_size (by exact bl_g HB.out))); (case aL => have := LMc6.out; omega); intro v114 w25 ho hb hg hat; rw [← Ny113.out] at ho; have n0_ := am (blk_grown (g := gb101) (o := .cells #[.int .i64 a0_0, .int .i64 a0_1, .int .i64 a0_2, .int .i64 a0_3] 49 (0, 0)) (blk_o BK101.out) hg (Kd.R_ne HO112.out BK101.out (by decide))); have n1_ := am (Kd.R_after (ok := (fun k_ => some k_ ≠ (v108 : Value).ownBlock)) (Kd.R_o (Kd.R_mono HO105.out (fun _ hk => ⟨hk.1.2, hk.2⟩))) hg hat); have n2_ := am (Kd.R_after (ok := (fun k_ => some k_ ≠ (v104 : Value).ownBlock)) (Kd.R_o (Kd.R_mono HO109.out (fun _ hk => ⟨hk.1.2, hk.2⟩))) hg hat); have n3_ := am (hb); have n4_ := am (ho); clear BK101; clear HO105; clear HO109; clear HB; clear HO112; have BK101 := n0_; have HO105 := n1_; have HO109 := n2_; have HB := n3_; have HO115 := n4_; clear n0_ n1_ n2_ n3_ n4_; clear ho hb hg hat; obtain ⟨hcz26_0, hcz26_1, hcz26_2, hcz26_3, hfz26_0, hfz26_1, hfz26_2, hfz26_3⟩ := cells4 BK101.out; obtain ⟨Ao27, co27, eo27⟩ := Kd.R_slice HO115.out; subst eo27) | ((with_reducible refine gate_callee (f := 18) rfl ?_); refine goesL_ (some 54) rfl rfl Try.func18 (by kernel_rfl) rfl #[.slice Ao27 y113.length co27, .int .i64 a2, .int .i64 a0_0, .int .i64 a0_2, .int .i64 a0_3] rfl (by simp only [List.map_toArray, List.map_cons, List.map_nil]; try rfl) ?_; (with_reducible refine (ehframe_Get.calls k _ _ y113 a2 a0_0 a0_2 a0_3 t116 t117 t118 _ ?side1 ?side2 A7.out).mono ?_); (case side1 => exact Kd.C_o ((Kd.R_reads' HO115.out).2.2)); (case side2 => exact (Kd.R_reads' HO115.out).2.1); rintro e w28 ⟨rfl, hb⟩; refine ⟨_, rfl, ?_⟩; have n0_ := am (Kd.R_below (Kd.R_o HO105.out) hb); have n1_ := am (Kd.R_below (Kd.R_o HO109.out) hb); have n2_ := am (Kd.R_below (Kd.R_o HO115.out) hb); have n3_ := am (blk_below (blk_o BK101.out) hb); have n4_ := am (below_step (by exact bl_g HB.out) hb); clear HO105; clear HO109; clear HO115; clear BK101; clear HB; have HO105 := n0_; have HO109 := n1_; have HO115 := n2_; have BK101 := n3_; have HB := n4_; clear n0_ n1_ n2_ n3_ n4_; (try clear hb); (try clear hb2); (try clear hk); (try clear hi); obtain ⟨hcz29_0, hcz29_1, hcz29_2, hcz29_3, hfz29_0, hfz29_1, hfz29_2, hfz29_3⟩ := cells4 BK101.out) | ((with_reducible refine gate_callee (f := 19) rfl ?_); refine goesL_ (some 67) rfl rfl Try.func19 (by kernel_rfl) rfl #[.slice A1 l1.length c1, .int .i64 a2, .int .i64 a0_0, .int .i64 a0_2, .int .i64 a0_3] rfl (by simp only [List.map_toArray, List.map_cons, List.map_nil]; try rfl) ?_; (with_reducible refine (gangwayref14_Get.calls k _ _ l1 a2 a0_0 a0_2 a0_3 t119 t120 t121 _ ?side1 ?side2 A8.out).mono ?_); (case side1 => exact Kd.C_o (Kd.C_below HR1.out HB.out)); (case side2 => exact HC1.out); rintro e w' ⟨rfl, ⟨nd, rfl⟩⟩; refine ⟨_, rfl, ?_⟩; have hcv30 := own_string (P := Try.prog) Try.underlying28 Try.underlying5 Try.underlying9 (Kd.own_of_R HO105.out); have hcv31 := fun (m_ : Nat) => own_string (P := Try.prog) Try.underlying28 Try.underlying5 Try.underlying9 (Kd.own_of_R (Kd.R_drewN HO105.out m_)); have hcv32 := own_string (P := Try.prog) Try.underlying28 Try.underlying5 Try.underlying9 (Kd.own_of_R HO109.out); have hcv33 := fun (m_ : Nat) => own_string (P := Try.prog) Try.underlying28 Try.underlying5 Try.underlying9 (Kd.own_of_R (Kd.R_drewN HO109.out m_))) | (go_at_call 11; (with_reducible refine (gangwaylaw14_num.calls t103 t122 _ A10.out).mono ?_); rintro e w' ⟨rfl, ⟨nd, rfl⟩⟩) | (go_at_call 11; (with_reducible refine (gangwaylaw14_num.calls t118 t123 _ A14.out).mono ?_); rintro e w' ⟨rfl, ⟨nd, rfl⟩⟩; have hcv34 := own_string (P := Try.prog) Try.underlying28 Try.underlying5 Try.underlying9 (Kd.own_of_R HO115.out); have hcv35 := fun (m_ : Nat) => own_string (P := Try.prog) Try.underlying28 Try.underlying5 Try.underlying9 (Kd.own_of_R (Kd.R_drewN HO115.out m_)); have hcv36 := Kd.C_string (P := Try.prog) (A := A1) (c := c1) Try.underlying28 Try.underlying5 Try.underlying9 (Kd.C_below HR1.out HB.out); have hcv37 := fun (m_ : Nat) => Kd.C_string (P := Try.prog) (A := A1) (c := c1) Try.underlying28 Try.underlying5 Try.underlying9 (Kd.C_drewN (Kd.C_below HR1.out HB.out) m_); have hcv38 := hcv36; have hcv39 := hcv37; (try simp only [List.length_drop, List.length_take] at hcv38); (try simp only [List.length_drop, List.length_take] at hcv39)) | (go_at_call 15; (with_reducible refine (gangwaylaw14_live.calls k  t124 _ A17.out).mono ?_); rintro e w41 ⟨rfl, hb⟩; have n0_ := am (Kd.R_below (Kd.R_o HO105.out) hb); have n1_ := am (Kd.R_below (Kd.R_o HO109.out) hb); have n2_ := am (Kd.R_below (Kd.R_o HO115.out) hb); have n3_ := am (blk_below (blk_o BK101.out) hb); have n4_ := am (below_step (by exact bl_g HB.out) hb); clear HO105; clear HO109; clear HO115; clear BK101; clear HB; have HO105 := n0_; have HO109 := n1_; have HO115 := n2_; have BK101 := n3_; have HB := n4_; clear n0_ n1_ n2_ n3_ n4_; (try clear hb); (try clear hb2); (try clear hk); (try clear hi)))
        go_ret
        exact ⟨rfl, by exact bl_g HB.out⟩
       ·
        rw [if_neg c16] at H
        exact absurd H (by simp)
      ·
       rw [if_neg c15] at H
       exact absurd H (by simp)
     ·
      rw [if_neg c13] at H
      exact absurd H (by simp)
    ·
     rw [if_neg c12] at H
     exact absurd H (by simp)
   ·
    rw [if_neg c11] at H
    exact absurd H (by simp)
  ·
   rw [if_neg c9] at H
   exact absurd H (by simp)
 ·
  rw [if_neg c6] at H
  exact absurd H (by simp)
end Go.Proofs.Ytfgfnflhdabmcaa.G
end
section
namespace Go.Proofs.Ytfgfnflhdabmcaa.Stmt
open Go.RowKit Go.Proofs.Ytfgfnflhdabmcaa.G Go.Proofs.YtfgfnflhdabmcaaW.PrintWords
set_option linter.unusedVariables false
def wf49 (x : S49) : Prop := ((Lit.int .i64 x.f0).wf = true) ∧ ((Lit.int .i64 x.f1).wf = true) ∧ ((Lit.int .i64 x.f2).wf = true) ∧ ((Lit.int .i64 x.f3).wf = true)
def wt49 (x : S49) : Nat := (1 + (1 + (1 + (1)))) + 1
def EhframePointers : Prop := ∀ (a0 : S49) (l1 : List Int) (a2 : Int), (wf49 a0) → (l1.length * 1 ≤ 140737488351232 ∧ l1.length ≤ 9223372036854775807 ∧ ∀ y1 ∈ l1, (Lit.int .u8 y1).wf = true) → ((Lit.int .i64 a2).wf = true) → ∃ k, G.gangwaylaw14_EhframePointers.f k a0.f0 a0.f1 a0.f2 a0.f3 l1 a2 = some true
end Go.Proofs.Ytfgfnflhdabmcaa.Stmt
end
