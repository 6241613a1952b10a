/- Lemmas and contracts, one text behind the other: what the row of this claim needs; no conditions beyond those that each theorem names. -/
import Derived.Laws.EntriesVeiled
import Derived.Lib.Hide
import Derived.Maps.OwnSet
import Derived.Test.YtfgfnflhdabmcaaVB3
set_option linter.unusedVariables false
set_option linter.unusedSimpArgs false
set_option maxRecDepth 100000
section
namespace Go.Proofs.Ytfgfnflhdabmcaa.G
open Go.RowKit Go.Proofs.YtfgfnflhdabmcaaW.PrintWords Go.Proofs.YtfgfnflhdabmcaaW.PrintLast Go.Proofs.YtfgfnflhdabmcaaW.PrintMore
attribute [local go_sem] max2_int min2_int max_two min_two max_three min_three max_four min_four
def gangwaylaw14_live.f (k : Nat)  : Option (Bool) := (ehframe_Put.f k 27 4096 4100 0).bind fun bt101 => ((cfa_Usual.f).bind fun t105 => ((ehframe_Write.f k (([(⟨27, t105⟩ : S69)] : List (S69))) ([] : List (S46)) 0 false).bind fun bt111 => ((gangwaylaw14_num.f bt101.2).bind fun t118 => ((gangwaylaw14_num.f bt111.2.2).bind fun t119 => (if (wrap64 (t118 + t119)) = 0 then (if (strOfNums bt101.1).toList = ([252, 255, 255, 255] : List UInt8) then (if (bt111.1.length : Int) = 24 then (if 16 < (bt111.1.length : Int) then (some ((rd bt111.1 16) == 27)) else (none)) else (none)) else (none)) else (none))))))
theorem gangwaylaw14_live.mono : ∀ k, LeO (gangwaylaw14_live.f k ) (gangwaylaw14_live.f (k + 1) ) := by
 intro  k
 unfold gangwaylaw14_live.f
 repeat' first
     | (with_reducible exact ehframe_Put.mono _ _ _ _ _)
     | (with_reducible exact ehframe_Write.mono _ _ _ _ _)
     | (with_reducible exact LeO.refl _)
     | (with_reducible exact LeO.none _)
     | (with_reducible refine LeO.ite ?_ ?_)
     | (with_reducible refine LeO.bind ?_ (fun _ => ?_))
     | exact ehframe_Put.mono _ _ _ _ _
     | exact ehframe_Write.mono _ _ _ _ _
     | exact LeO.none _
     | refine LeO.ite ?_ ?_
     | refine LeO.bind ?_ (fun _ => ?_)
set_option maxHeartbeats 8000000 in
theorem gangwaylaw14_live.calls (k : Nat)  (r : Bool) (w : World) (h : gangwaylaw14_live.f k  = some r) :
    Calls Try.prog 15 #[] w fun e w' => e = .returned (.bool r) ∧ Below w.heap.size w w' := by
 have hu69 := Try.underlying69
 have HB := am (Below.refl w.heap.size w)
 have H : ((ehframe_Put.f k 27 4096 4100 0).bind fun bt101 => ((cfa_Usual.f).bind fun t105 => ((ehframe_Write.f k (([(⟨27, t105⟩ : S69)] : List (S69))) ([] : List (S46)) 0 false).bind fun bt111 => ((gangwaylaw14_num.f bt101.2).bind fun t118 => ((gangwaylaw14_num.f bt111.2.2).bind fun t119 => (if (wrap64 (t118 + t119)) = 0 then (if (strOfNums bt101.1).toList = ([252, 255, 255, 255] : List UInt8) then (if (bt111.1.length : Int) = 24 then (if 16 < (bt111.1.length : Int) then (some ((rd bt111.1 16) == 27)) else (none)) else (none)) else (none)) else (none))))))) = some r := h
 clear h
 replace H := Option.bind_eq_some_iff.mp H
 obtain ⟨⟨t101, t102⟩, A10, H⟩ := H
 replace H : ((cfa_Usual.f).bind fun t105 => ((ehframe_Write.f k (([(⟨27, t105⟩ : S69)] : List (S69))) ([] : List (S46)) 0 false).bind fun bt111 => ((gangwaylaw14_num.f t102).bind fun t118 => ((gangwaylaw14_num.f bt111.2.2).bind fun t119 => (if (wrap64 (t118 + t119)) = 0 then (if (strOfNums t101).toList = ([252, 255, 255, 255] : List UInt8) then (if (bt111.1.length : Int) = 24 then (if 16 < (bt111.1.length : Int) then (some ((rd bt111.1 16) == 27)) else (none)) else (none)) else (none)) else (none)))))) = some r := H
 have A1 := am A10
 clear A10
 replace H := Option.bind_eq_some_iff.mp H
 obtain ⟨t105, A20, H⟩ := H
 replace H : ((ehframe_Write.f k (([(⟨27, t105⟩ : S69)] : List (S69))) ([] : List (S46)) 0 false).bind fun bt111 => ((gangwaylaw14_num.f t102).bind fun t118 => ((gangwaylaw14_num.f bt111.2.2).bind fun t119 => (if (wrap64 (t118 + t119)) = 0 then (if (strOfNums t101).toList = ([252, 255, 255, 255] : List UInt8) then (if (bt111.1.length : Int) = 24 then (if 16 < (bt111.1.length : Int) then (some ((rd bt111.1 16) == 27)) else (none)) else (none)) else (none)) else (none))))) = some r := H
 have A2 := am A20
 clear A20
 obtain ⟨y108, hy108⟩ : ∃ y_ : List (S69), y_ = (([(⟨27, t105⟩ : S69)] : List (S69))) := ⟨_, rfl⟩
 replace H : ((ehframe_Write.f k y108 ([] : List (S46)) 0 false).bind fun bt111 => ((gangwaylaw14_num.f t102).bind fun t118 => ((gangwaylaw14_num.f bt111.2.2).bind fun t119 => (if (wrap64 (t118 + t119)) = 0 then (if (strOfNums t101).toList = ([252, 255, 255, 255] : List UInt8) then (if (bt111.1.length : Int) = 24 then (if 16 < (bt111.1.length : Int) then (some ((rd bt111.1 16) == 27)) else (none)) else (none)) else (none)) else (none))))) = some r := by first | (rw [hy108]; with_reducible exact H) | (have H2_ := (Option.bind_some _ _).symm.trans H; rw [hy108]; with_reducible exact H2_)
 have Ny108 := am hy108
 clear hy108
 replace H := Option.bind_eq_some_iff.mp H
 obtain ⟨⟨t111, t112, t113⟩, A30, H⟩ := H
 replace H : ((gangwaylaw14_num.f t102).bind fun t118 => ((gangwaylaw14_num.f t113).bind fun t119 => (if (wrap64 (t118 + t119)) = 0 then (if (strOfNums t101).toList = ([252, 255, 255, 255] : List UInt8) then (if (t111.length : Int) = 24 then (if 16 < (t111.length : Int) then (some ((rd t111 16) == 27)) else (none)) else (none)) else (none)) else (none)))) = some r := H
 have A3 := am A30
 clear A30
 replace H := Option.bind_eq_some_iff.mp H
 obtain ⟨t118, A40, H⟩ := H
 replace H : ((gangwaylaw14_num.f t113).bind fun t119 => (if (wrap64 (t118 + t119)) = 0 then (if (strOfNums t101).toList = ([252, 255, 255, 255] : List UInt8) then (if (t111.length : Int) = 24 then (if 16 < (t111.length : Int) then (some ((rd t111 16) == 27)) else (none)) else (none)) else (none)) else (none))) = some r := H
 have A4 := am A40
 clear A40
 replace H := Option.bind_eq_some_iff.mp H
 obtain ⟨t119, A50, H⟩ := H
 replace H : (if (wrap64 (t118 + t119)) = 0 then (if (strOfNums t101).toList = ([252, 255, 255, 255] : List UInt8) then (if (t111.length : Int) = 24 then (if 16 < (t111.length : Int) then (some ((rd t111 16) == 27)) else (none)) else (none)) else (none)) else (none)) = some r := H
 have A5 := am A50
 clear A50
 by_cases c6 : (wrap64 (t118 + t119)) = 0
 rotate_left
 ·
  rw [if_neg c6] at H
  exact absurd H (by simp)
 rw [if_pos c6] at H
 have c6b0 : ((wrap64 (t118 + t119)) == 0) = true := beq_iff_eq.mpr c6
 have c6b1 : ((wrap64 (t118 + t119)) != 0) = false := bne_eq_false_iff_eq.mpr c6
 clear c6
 by_cases c7 : (strOfNums t101).toList = ([252, 255, 255, 255] : List UInt8)
 rotate_left
 ·
  rw [if_neg c7] at H
  exact absurd H (by simp)
 rw [if_pos c7] at H
 have c7b0 : ((strOfNums t101).toList == ([252, 255, 255, 255] : List UInt8)) = true := beq_iff_eq.mpr c7
 have c7b1 : ((strOfNums t101).toList != ([252, 255, 255, 255] : List UInt8)) = false := bne_eq_false_iff_eq.mpr c7
 clear c7
 by_cases c8 : (t111.length : Int) = 24
 rotate_left
 ·
  rw [if_neg c8] at H
  exact absurd H (by simp)
 rw [if_pos c8] at H
 have c8b0 : ((t111.length : Int) == 24) = true := beq_iff_eq.mpr c8
 have c8b1 : ((t111.length : Int) != 24) = false := bne_eq_false_iff_eq.mpr c8
 clear c8
 by_cases c9 : 16 < (t111.length : Int)
 rotate_left
 ·
  rw [if_neg c9] at H
  exact absurd H (by simp)
 rw [if_pos c9] at H
 have c9b0 : decide (16 < (t111.length : Int)) = true := decide_eq_true c9
 have c9b1 : decide (16 < t111.length) = true := decide_eq_true (by omega)
 clear c9
 obtain rfl := Option.some.inj H
 go_enter Try.func15, Try.ntmps15
 go_wp2_with (first | ((with_reducible refine gate_callee (f := 16) rfl ?_); refine goesL_ (some 7) rfl rfl Try.func16 (by kernel_rfl) rfl #[.int .i64 27, .int .i64 4096, .int .i64 4100, .int .i64 0] rfl (by simp only [ml]; try rfl) ?_; (with_reducible refine (ehframe_Put.calls k 27 4096 4100 0 t101 t102 _ A1.out).mono ?_); rintro e w10 ⟨v103, rfl, ho0, hb⟩; refine ⟨_, rfl, ?_⟩; refine mv2 (am (Kd.R_lower ho0 (below_size (by exact bl_o HB.out)))) (am (below_step (by exact bl_o HB.out) hb)) ?_; clear HB; intro HO104 HB) | ((with_reducible refine gate_callee (f := 36) rfl ?_); refine goesL_ (some 11) rfl rfl Try.func36 (by kernel_rfl) rfl #[] rfl (by simp only [ml]; try rfl) ?_; (with_reducible refine (cfa_Usual.calls  t105 _ A2.out).mono ?_); rintro e w11 ⟨v106, rfl, ho0, hb⟩; refine ⟨_, rfl, ?_⟩; refine mv3 (am (Kd.R_below (Kd.R_o HO104.out) hb)) (am (Kd.R_lower ho0 (below_size (by exact bl_o HB.out)))) (am (below_step (by exact bl_o HB.out) hb)) ?_; clear HO104 HB; intro HO104 HO107 HB; obtain ⟨Ao12, co12, eo12⟩ := Kd.R_slice HO107.out; subst eo12) | ((with_reducible refine gate_dst (N := 13) rfl ?_); (try (refine gate_guard (by rfl) ?_; dsimp only)); refine Kd.N_lit k69 _ 69 ?hg (N' := 13) ?hd (xs := ([(⟨27, t105⟩ : S69)] : List (S69))) (inner := [.int .i64 27, .slice Ao12 t105.length co12]) (ok := (fun k_ => some k_ ≠ (v103 : Value).ownBlock)) (okp := (fun k_ => some k_ ≠ (v103 : Value).ownBlock)) ?hr ?hp (fun _ hk => hk) ((show ∀ k_, w11.heap.size ≤ k_ → (fun k_ => some k_ ≠ (v103 : Value).ownBlock) k_ from fun k_ hk => Kd.fresh' (Kd.R_lt (Kd.R_o HO104.out)) k_ hk) _ (Nat.le_refl _)) (Below.refl _ _) (Nat.le_refl _) (by simp) ?_; (case hd => rfl); (case hg => rfl); (case hr => go_simp; try rfl); (case hp => exact (Reps.c2 (show Kd.FK k69 _ _ (⟨27, t105⟩ : S69) [.int .i64 27, .slice Ao12 t105.length co12] from (k69_mkF _ _ (⟨27, t105⟩ : S69) (Kd.R_reads' (Kd.R_mono (ok' := (fun k_ => some k_ ≠ (v103 : Value).ownBlock)) (Kd.R_apart' (HO107.out) (Kd.R_typed HO104.out) (by decide)) (fun k_ hk => hk.2))).2.1 (Kd.R_F (Kd.R_mono (ok' := (fun k_ => some k_ ≠ (v103 : Value).ownBlock)) (Kd.R_apart' (HO107.out) (Kd.R_typed HO104.out) (by decide)) (fun k_ hk => hk.2))))) (Reps.none _ _))); intro v109 w13 ho14 hb hg_ hnew_; clear hg_ hnew_; (first | rw [← Ny108.out] at ho14 | (simp only [Int.reduceToNat] at ho14; rw [← Ny108.out] at ho14)); refine mv3 (am (Kd.R_below (Kd.R_o HO104.out) hb)) (am (Kd.N_lower ho14 (below_size (by exact bl_o HB.out)))) (am (below_step (by exact bl_o HB.out) hb)) ?_; clear HO104 HB HO107; intro HO104 HO110 HB; clear hb ho14; obtain ⟨Ao15, co15, eo15⟩ := Kd.N_slice HO110.out; subst eo15) | ((with_reducible refine gate_callee (f := 9) rfl ?_); refine goesL_ (some 14) rfl rfl Try.func9 (by kernel_rfl) rfl #[.slice Ao15 y108.length co15, .slice none 0 0, .int .i64 0, .bool false] rfl (by simp only [ml]; try rfl) ?_; (refine (ehframe_Write.calls k _ _ y108 _ _ ([] : List (S46)) 0 false t111 t112 t113 _ ?side1 ?side2 ?side3 ?side4 A3.out).mono ?_); (case side1 => exact Kd.C_o ((Kd.N_reads' HO110.out).2.2)); (case side2 => exact (Kd.N_reads' HO110.out).2.1); (case side3 => exact Kd.C_nil _ _); (case side4 => exact Nat.le_refl _); rintro e w16 ⟨v114, v116, rfl, ho0, ho1, hb⟩; refine ⟨_, rfl, ?_⟩; refine mv5 (am (Kd.R_elder' (Kd.R_o HO104.out) (Kd.R_base ho0) hb)) (am (Kd.N_mono (Kd.N_told (Kd.N_told (Kd.N_old (by (with_reducible repeat (first | apply Kd.N_alloc | apply Kd.N_drewN | apply Kd.N_drew)); exact HO110.out) hb) (Kd.R_base ho0)) (Kd.R_base ho1)) (fun _ h_ => h_.1))) (am (Kd.R_lower (Kd.R_new' ho0 (Kd.R_lt (Kd.R_o HO104.out))) (below_size (by exact bl_o HB.out)))) (am (Kd.R_lower ho1 (below_size (by exact bl_o HB.out)))) (am (below_step (by exact bl_o HB.out) hb)) ?_; clear HO104 HO110 HB; intro HO104 HO110 HO115 HO117 HB; (try clear ho1)) | ((with_reducible refine gate_callee (f := 11) rfl ?_); refine goesL_ (some 19) rfl rfl Try.func11 (by kernel_rfl) rfl #[.int .i64 t102] rfl (by simp only [ml]; try rfl) ?_; (with_reducible refine (gangwaylaw14_num.calls t102 t118 _ A4.out).mono ?_); rintro e w' ⟨rfl, ⟨nd, rfl⟩⟩; refine ⟨_, rfl, ?_⟩) | ((with_reducible refine gate_callee (f := 11) rfl ?_); refine goesL_ (some 21) rfl rfl Try.func11 (by kernel_rfl) rfl #[.int .i64 t113] rfl (by simp only [ml]; try rfl) ?_; (with_reducible refine (gangwaylaw14_num.calls t113 t119 _ A5.out).mono ?_); rintro e w' ⟨rfl, ⟨nd, rfl⟩⟩; refine ⟨_, rfl, ?_⟩; have hcv17 := own_string (P := Try.prog) Try.underlying28 Try.underlying5 Try.underlying9 (Kd.own_of_R HO104.out); have hcv18 := fun (m_ : Nat) => own_string (P := Try.prog) Try.underlying28 Try.underlying5 Try.underlying9 (Kd.own_of_R (Kd.R_drewN HO104.out m_)); obtain ⟨Ao19, co19, eo19⟩ := Kd.R_slice HO115.out; subst eo19; have p120 : 0 ≤ (16 : Int) := (by omega); have q120 : 16 < (t111.length : Int) := od; obtain ⟨ad120, e120, hx120_0⟩ := Kd.at_int (Kd.R_reads' HO115.out).2.2 16 p120 q120; cases e120; (try simp only [show (16 : Int).toNat = 16 from rfl, Nat.reduceMul, Nat.reduceEqDiff, Go.Addr.add, ↓reduceIte] at hx120_0); have qi120 : (16 < t111.length) = True := eq_true (by omega); (try rw [show ((16 : Int)).toNat = 16 from rfl] at hx120_0); replace p120 := eq_true p120; replace q120 := eq_true q120))
 go_ret
 exact ⟨rfl, by exact bl_g HB.out⟩
def leb_Get.l0 : Nat → List Int → Int → Int → Bool → Int → Int → Int → Option (Int × Int)
  | 0, _, _, _, _, _, _, _ => none
  | k + 1, x0, x1, x2, x3, x10, x28, x29 => if x29 < x28 then (if 0 ≤ (wrap64 (x1 + x29)) then (if (wrap64 (x1 + x29)) < (x0.length : Int) then (if 0 ≤ (wrap64 (8 * x29)) then (leb_Get.l0 k x0 x1 x2 x3 (Go.bits .or .u64 x10 (shl .u64 (IntKind.u64.wrap (rd x0 (wrap64 (x1 + x29)))) (wrap64 (8 * x29)))) x28 (wrap64 (x29 + 1))) else (none)) else (none)) else (none)) else (if x3 = true then (if 0 ≤ (wrap64 (64 - (wrap64 (8 * x2)))) then (some (shr .i64 (wrap64 (shl .u64 x10 (wrap64 (64 - (wrap64 (8 * x2)))))) (wrap64 (64 - (wrap64 (8 * x2)))), 0)) else (none)) else (some (wrap64 (x10), 0)))
def leb_Get.f (k : Nat) (l0 : List Int) (a1 : Int) (a2 : Int) (a3 : Bool) : Option (Int × Int) := (leb_sized.f a2).bind fun t101 => (if t101 = true then (if a1 < 0 then (some (0, 20)) else (if a1 > (wrap64 ((l0.length : Int) - a2)) then (some (0, 20)) else (leb_Get.l0 k l0 a1 a2 a3 0 a2 0))) else (some (0, 1)))
set_option maxHeartbeats 8000000 in
theorem leb_Get.calls (k : Nat) (A0 : Option Addr) (c0 : Nat) (l0 : List Int) (a1 : Int) (a2 : Int) (a3 : Bool) (r1 : Int) (r2 : Int) (w : World) (hr0 : Kd.C (Kd.int .u8) w A0 l0.length l0) (hc0 : l0.length ≤ c0) (h : leb_Get.f k l0 a1 a2 a3 = some (r1, r2)) :
    Calls Try.prog 48 #[.slice A0 l0.length c0, .int .i64 a1, .int .i64 a2, .bool a3] w fun e w' => e = .returned (.tuple #[.int .i64 r1, .int .i64 r2]) ∧ Drawn0 w w' := by
 have HR0 := am hr0
 have HC0 := am hc0
 clear hr0 hc0
 have H : ((leb_sized.f a2).bind fun t101 => (if t101 = true then (if a1 < 0 then (some (0, 20)) else (if a1 > (wrap64 ((l0.length : Int) - a2)) then (some (0, 20)) else (leb_Get.l0 k l0 a1 a2 a3 0 a2 0))) else (some (0, 1)))) = some (r1, r2) := h
 clear h
 replace H := Option.bind_eq_some_iff.mp H
 obtain ⟨t101, A50, H⟩ := H
 replace H : (if t101 = true then (if a1 < 0 then (some (0, 20)) else (if a1 > (wrap64 ((l0.length : Int) - a2)) then (some (0, 20)) else (leb_Get.l0 k l0 a1 a2 a3 0 a2 0))) else (some (0, 1))) = some (r1, r2) := H
 have A5 := am A50
 clear A50
 by_cases c6 : t101 = true
 rotate_left
 ·
  replace c6 := Bool.eq_false_iff.mpr c6
  subst c6
  replace H : (some (0, 1)) = some (r1, r2) := by rw [if_neg (show ¬ (false = true) by decide)] at H; exact H
  simp only [Option.some.injEq, Prod.mk.injEq] at H
  obtain ⟨rfl, rfl⟩ := H
  go_enter Try.func48, Try.ntmps48
  go_wp2_with (first | ((with_reducible refine gate_callee (f := 66) rfl ?_); refine goesL_ (some 15) rfl rfl Try.func66 (by kernel_rfl) rfl #[.int .i64 a2] rfl (by simp only [ml]; try rfl) ?_; (with_reducible refine (leb_sized.calls a2 false _ A5.out).mono ?_); rintro e w' ⟨rfl, ⟨nd, rfl⟩⟩; refine ⟨_, rfl, ?_⟩))
  go_ret2
  exact ⟨by first | rfl | (simp; done) | (simp [*]; done), by repeat (first | exact Drawn0.refl _ | apply Drawn0.step)⟩
 subst c6
 replace H : (if a1 < 0 then (some (0, 20)) else (if a1 > (wrap64 ((l0.length : Int) - a2)) then (some (0, 20)) else (leb_Get.l0 k l0 a1 a2 a3 0 a2 0))) = some (r1, r2) := by rw [if_pos rfl] at H; exact H
 by_cases c7 : a1 < 0
 ·
  rw [if_pos c7] at H
  have c7b0 : decide (a1 < 0) = true := decide_eq_true c7
  clear c7
  simp only [Option.some.injEq, Prod.mk.injEq] at H
  obtain ⟨rfl, rfl⟩ := H
  go_enter Try.func48, Try.ntmps48
  go_wp2_with (first | ((with_reducible refine gate_callee (f := 66) rfl ?_); refine goesL_ (some 15) rfl rfl Try.func66 (by kernel_rfl) rfl #[.int .i64 a2] rfl (by simp only [ml]; try rfl) ?_; (with_reducible refine (leb_sized.calls a2 true _ A5.out).mono ?_); rintro e w' ⟨rfl, ⟨nd, rfl⟩⟩; refine ⟨_, rfl, ?_⟩))
  go_ret2
  exact ⟨by first | rfl | (simp; done) | (simp [*]; done), by repeat (first | exact Drawn0.refl _ | apply Drawn0.step)⟩
 rw [if_neg c7] at H
 have c7b0 : decide (a1 < 0) = false := decide_eq_false c7
 clear c7
 by_cases c8 : a1 > (wrap64 ((l0.length : Int) - a2))
 ·
  rw [if_pos c8] at H
  have c8b0 : decide ((wrap64 ((l0.length : Int) - a2)) < a1) = true := decide_eq_true c8
  clear c8
  simp only [Option.some.injEq, Prod.mk.injEq] at H
  obtain ⟨rfl, rfl⟩ := H
  go_enter Try.func48, Try.ntmps48
  go_wp2_with (first | ((with_reducible refine gate_callee (f := 66) rfl ?_); refine goesL_ (some 15) rfl rfl Try.func66 (by kernel_rfl) rfl #[.int .i64 a2] rfl (by simp only [ml]; try rfl) ?_; (with_reducible refine (leb_sized.calls a2 true _ A5.out).mono ?_); rintro e w' ⟨rfl, ⟨nd, rfl⟩⟩; refine ⟨_, rfl, ?_⟩))
  go_ret2
  exact ⟨by first | rfl | (simp; done) | (simp [*]; done), by repeat (first | exact Drawn0.refl _ | apply Drawn0.step)⟩
 rw [if_neg c8] at H
 have c8b0 : decide ((wrap64 ((l0.length : Int) - a2)) < a1) = false := decide_eq_false c8
 clear c8
 have H' := am H
 clear H
 go_enter Try.func48, Try.ntmps48
 go_wp2_with (first | ((with_reducible refine gate_callee (f := 66) rfl ?_); refine goesL_ (some 15) rfl rfl Try.func66 (by kernel_rfl) rfl #[.int .i64 a2] rfl (by simp only [ml]; try rfl) ?_; (with_reducible refine (leb_sized.calls a2 true _ A5.out).mono ?_); rintro e w' ⟨rfl, ⟨nd, rfl⟩⟩; refine ⟨_, rfl, ?_⟩))
 go_loopg [10, 29] k (fun kq v10 v29 w' => ∃ (x10_1 : Int) (x29_1 : Int), v10 = .int .u64 x10_1 ∧ v29 = .int .i64 x29_1 ∧ Aside0 (leb_Get.l0 kq l0 a1 a2 a3 x10_1 a2 x29_1 = some (r1, r2)) ∧ Aside0 (kq ≤ k) ∧ Drawn0 w w')
 case atStart => exact ⟨(0), (0), (by first | rfl | (simp; done) | (simp [*]; done)), (by first | rfl | (simp; done) | (simp [*]; done)), H', ⟨Nat.le_refl _⟩, by repeat (first | exact Drawn0.refl _ | apply Drawn0.step)⟩
 case round =>
  clear H'
  try clear p2
  try clear c4
  try clear c6
  try clear p6
  try clear c7
  try clear c7b0
  try clear c8
  try clear c8b0
  obtain ⟨x10_1, x29_1, rfl, rfl, HA, HK1, ⟨m1, rfl⟩⟩ := hrel
  cases gk with
  | zero => exact absurd HA.out (by simp [leb_Get.l0])
  | succ k1 =>
   have H := HA.out
   clear HA
   simp only [leb_Get.l0] at H
   by_cases c9 : x29_1 < a2
   rotate_left
   ·
    rw [if_neg c9] at H
    have c9b0 : decide (x29_1 < a2) = false := decide_eq_false c9
    clear c9
    by_cases c16 : a3 = true
    rotate_left
    ·
     replace c16 := Bool.eq_false_iff.mpr c16
     subst c16
     replace H : (some (wrap64 (x10_1), 0)) = some (r1, r2) := by rw [if_neg (show ¬ (false = true) by decide)] at H; exact H
     simp only [Option.some.injEq, Prod.mk.injEq] at H
     obtain ⟨rfl, rfl⟩ := H
     go_wp2
     go_ret2
     exact ⟨by first | rfl | (simp; done) | (simp [*]; done), by repeat (first | exact Drawn0.refl _ | apply Drawn0.step)⟩
    subst c16
    replace H : (if 0 ≤ (wrap64 (64 - (wrap64 (8 * a2)))) then (some (shr .i64 (wrap64 (shl .u64 x10_1 (wrap64 (64 - (wrap64 (8 * a2)))))) (wrap64 (64 - (wrap64 (8 * a2)))), 0)) else (none)) = some (r1, r2) := by rw [if_pos rfl] at H; exact H
    obtain ⟨ji17, hji17⟩ : ∃ j_ : Int, (wrap64 (64 - (wrap64 (8 * a2)))) = j_ := ⟨_, rfl⟩
    replace H : (if 0 ≤ (ji17) then (some (shr .i64 (wrap64 (shl .u64 x10_1 (ji17))) (ji17), 0)) else (none)) = some (r1, r2) := by first | (rw [hji17] at H; exact H) | (simp only [hji17] at H ⊢; exact H)
    have hji17w : (IntKind.i64.wrap (64 - (wrap64 (8 * a2)))) = ji17 := (i64_w _).trans hji17
    by_cases c18 : 0 ≤ (ji17)
    rotate_left
    ·
     rw [if_neg c18] at H
     exact absurd H (by simp)
    rw [if_pos c18] at H
    have c18b0 := eq_true c18
    have c18b1 : decide (0 ≤ (ji17)) = true := decide_eq_true c18
    clear c18
    obtain ⟨ji19, hji19⟩ : ∃ j_ : Int, (shl .u64 x10_1 (ji17)) = j_ := ⟨_, rfl⟩
    replace H : (some (shr .i64 (wrap64 (ji19)) (ji17), 0)) = some (r1, r2) := by first | (rw [hji19] at H; exact H) | (simp only [hji19] at H ⊢; exact H)
    have hji19_ : (IntKind.u64.wrap (x10_1 * 2 ^ min (ji17).toNat 64)) = ji19 := hji19
    have hji19z : (ji17) ≤ 64 → (IntKind.u64.wrap (x10_1 * 2 ^ (ji17).toNat)) = ji19 := shl_small hji19
    have c20b0 := eq_true (od : 0 ≤ (ji17))
    obtain ⟨ji21, hji21⟩ : ∃ j_ : Int, (shr .i64 (wrap64 (ji19)) (ji17)) = j_ := ⟨_, rfl⟩
    replace H : (some (ji21, 0)) = some (r1, r2) := by first | (rw [hji21] at H; exact H) | (simp only [hji21] at H ⊢; exact H)
    have hji21_ : ((wrap64 (ji19)) / 2 ^ min (ji17).toNat 64) = ji21 := hji21
    have hji21z : (ji17) ≤ 64 → ((wrap64 (ji19)) / 2 ^ (ji17).toNat) = ji21 := shr_small hji21
    simp only [Option.some.injEq, Prod.mk.injEq] at H
    obtain ⟨rfl, rfl⟩ := H
    go_wp2
    go_ret2
    exact ⟨by first | rfl | (simp; done) | (simp only [← hji17, ← hji19, ← hji21] <;> (first | rfl | simp)) | (simp [*]; done), by repeat (first | exact Drawn0.refl _ | apply Drawn0.step)⟩
   rw [if_pos c9] at H
   have c9b0 : decide (x29_1 < a2) = true := decide_eq_true c9
   clear c9
   obtain ⟨ji10, hji10⟩ : ∃ j_ : Int, (wrap64 (a1 + x29_1)) = j_ := ⟨_, rfl⟩
   replace H : (if 0 ≤ (ji10) then (if (ji10) < (l0.length : Int) then (if 0 ≤ (wrap64 (8 * x29_1)) then (leb_Get.l0 k1 l0 a1 a2 a3 (Go.bits .or .u64 x10_1 (shl .u64 (IntKind.u64.wrap (rd l0 (ji10))) (wrap64 (8 * x29_1)))) a2 (wrap64 (x29_1 + 1))) else (none)) else (none)) else (none)) = some (r1, r2) := by first | (rw [hji10] at H; exact H) | (simp only [hji10] at H ⊢; exact H)
   have hji10w : (IntKind.i64.wrap (a1 + x29_1)) = ji10 := (i64_w _).trans hji10
   by_cases c11 : 0 ≤ (ji10)
   rotate_left
   ·
    rw [if_neg c11] at H
    exact absurd H (by simp)
   rw [if_pos c11] at H
   have c11b0 : decide (0 ≤ (ji10)) = true := decide_eq_true c11
   clear c11
   by_cases c12 : (ji10) < (l0.length : Int)
   rotate_left
   ·
    rw [if_neg c12] at H
    exact absurd H (by simp)
   rw [if_pos c12] at H
   have c12b0 : decide ((ji10) < (l0.length : Int)) = true := decide_eq_true c12
   clear c12
   obtain ⟨ji13, hji13⟩ : ∃ j_ : Int, (wrap64 (8 * x29_1)) = j_ := ⟨_, rfl⟩
   replace H : (if 0 ≤ (ji13) then (leb_Get.l0 k1 l0 a1 a2 a3 (Go.bits .or .u64 x10_1 (shl .u64 (IntKind.u64.wrap (rd l0 (ji10))) (ji13))) a2 (wrap64 (x29_1 + 1))) else (none)) = some (r1, r2) := by first | (rw [hji13] at H; exact H) | (simp only [hji13] at H ⊢; exact H)
   have hji13w : (IntKind.i64.wrap (8 * x29_1)) = ji13 := (i64_w _).trans hji13
   by_cases c14 : 0 ≤ (ji13)
   rotate_left
   ·
    rw [if_neg c14] at H
    exact absurd H (by simp)
   rw [if_pos c14] at H
   have c14b0 := eq_true c14
   have c14b1 : decide (0 ≤ (ji13)) = true := decide_eq_true c14
   clear c14
   obtain ⟨ji15, hji15⟩ : ∃ j_ : Int, (shl .u64 (IntKind.u64.wrap (rd l0 (ji10))) (ji13)) = j_ := ⟨_, rfl⟩
   replace H : (leb_Get.l0 k1 l0 a1 a2 a3 (Go.bits .or .u64 x10_1 (ji15)) a2 (wrap64 (x29_1 + 1))) = some (r1, r2) := by first | (rw [hji15] at H; exact H) | (simp only [hji15] at H ⊢; exact H)
   have hji15_ : (IntKind.u64.wrap ((IntKind.u64.wrap (rd l0 (ji10))) * 2 ^ min (ji13).toNat 64)) = ji15 := hji15
   have hji15z : (ji13) ≤ 64 → (IntKind.u64.wrap ((IntKind.u64.wrap (rd l0 (ji10))) * 2 ^ (ji13).toNat)) = ji15 := shl_small hji15
   have H' := am H
   clear H
   have p102 : 0 ≤ ((ji10) : Int) := od
   have q102 : (ji10) < (l0.length : Int) := od
   obtain ⟨ad102, e102, hx102_0⟩ := Kd.at_int HR0.out (ji10) p102 q102
   cases e102
   replace p102 := eq_true p102
   replace q102 := eq_true q102
   go_wp2
   go_roundg k1
   case measure => have := HK1.out; omega
   case rel => exact ⟨(Go.bits .or .u64 x10_1 (ji15)), (wrap64 (x29_1 + 1)), (by first | rfl | (simp; done) | (simp only [← hji15] <;> (first | rfl | simp)) | (simp [*]; done)), (by first | rfl | (simp; done) | (simp [*]; done)), H', ⟨by have := HK1.out; omega⟩, by repeat (first | exact Drawn0.refl _ | apply Drawn0.step)⟩
def leb_joined.l0 : Nat → Int → List Int → Int → Int → Option (Int)
  | 0, _, _, _, _ => none
  | k + 1, x3, x6, x7, x8 => if x8 < x7 then (if 0 ≤ x8 then (if x8 < (x6.length : Int) then (if 0 ≤ (wrap64 (7 * x8)) then (leb_joined.l0 k (Go.bits .or .u64 x3 (shl .u64 (IntKind.u64.wrap (Go.bits .and .u8 (rd x6 x8) 127)) (wrap64 (7 * x8)))) x6 x7 (wrap64 (x8 + 1))) else (none)) else (none)) else (none)) else (some x3)
def leb_joined.f (k : Nat) (l0 : List Int) : Option (Int) := leb_joined.l0 k 0 l0 (l0.length : Int) 0
set_option maxHeartbeats 8000000 in
theorem leb_joined.calls (k : Nat) (A0 : Option Addr) (c0 : Nat) (l0 : List Int) (r : Int) (w : World) (hr0 : Kd.C (Kd.int .u8) w A0 l0.length l0) (hc0 : l0.length ≤ c0) (h : leb_joined.f k l0 = some r) :
    Calls Try.prog 70 #[.slice A0 l0.length c0] w fun e w' => e = .returned (.int .u64 r) ∧ Drawn0 w w' := by
 have HR0 := am hr0
 have HC0 := am hc0
 clear hr0 hc0
 have H : (leb_joined.l0 k 0 l0 (l0.length : Int) 0) = some r := h
 clear h
 have H' := am H
 clear H
 go_enter Try.func70, Try.ntmps70
 go_wp2
 go_loopg [3, 8] k (fun kq v3 v8 w' => ∃ (x3_1 : Int) (x8_1 : Int), v3 = .int .u64 x3_1 ∧ v8 = .int .i64 x8_1 ∧ Aside0 (leb_joined.l0 kq x3_1 l0 (l0.length : Int) x8_1 = some r) ∧ Aside0 (kq ≤ k) ∧ Drawn0 w w')
 case atStart => exact ⟨(0), (0), (by first | rfl | (simp; done) | (simp [*]; done)), (by first | rfl | (simp; done) | (simp [*]; done)), H', ⟨Nat.le_refl _⟩, by repeat (first | exact Drawn0.refl _ | apply Drawn0.step)⟩
 case round =>
  clear H'
  obtain ⟨x3_1, x8_1, rfl, rfl, HA, HK1, ⟨m1, rfl⟩⟩ := hrel
  cases gk with
  | zero => exact absurd HA.out (by simp [leb_joined.l0])
  | succ k1 =>
   have H := HA.out
   clear HA
   simp only [leb_joined.l0] at H
   by_cases c2 : x8_1 < (l0.length : Int)
   rotate_left
   ·
    rw [if_neg c2] at H
    have c2b0 : decide (x8_1 < (l0.length : Int)) = false := decide_eq_false c2
    clear c2
    obtain rfl := Option.some.inj H
    go_wp2
    go_ret
    exact ⟨by first | rfl | (simp; done) | (simp [*]; done), by repeat (first | exact Drawn0.refl _ | apply Drawn0.step)⟩
   rw [if_pos c2] at H
   have c2b0 : decide (x8_1 < (l0.length : Int)) = true := decide_eq_true c2
   clear c2
   by_cases c3 : 0 ≤ x8_1
   rotate_left
   ·
    rw [if_neg c3] at H
    exact absurd H (by simp)
   rw [if_pos c3] at H
   have c3b0 : decide (0 ≤ x8_1) = true := decide_eq_true c3
   clear c3
   by_cases c4 : x8_1 < (l0.length : Int)
   rotate_left
   ·
    rw [if_neg c4] at H
    exact absurd H (by simp)
   rw [if_pos c4] at H
   have c4b0 : decide (x8_1 < (l0.length : Int)) = true := decide_eq_true c4
   clear c4
   obtain ⟨ji5, hji5⟩ : ∃ j_ : Int, (wrap64 (7 * x8_1)) = j_ := ⟨_, rfl⟩
   replace H : (if 0 ≤ (ji5) then (leb_joined.l0 k1 (Go.bits .or .u64 x3_1 (shl .u64 (IntKind.u64.wrap (Go.bits .and .u8 (rd l0 x8_1) 127)) (ji5))) l0 (l0.length : Int) (wrap64 (x8_1 + 1))) else (none)) = some r := by first | (rw [hji5] at H; exact H) | (simp only [hji5] at H ⊢; exact H)
   have hji5w : (IntKind.i64.wrap (7 * x8_1)) = ji5 := (i64_w _).trans hji5
   by_cases c6 : 0 ≤ (ji5)
   rotate_left
   ·
    rw [if_neg c6] at H
    exact absurd H (by simp)
   rw [if_pos c6] at H
   have c6b0 := eq_true c6
   have c6b1 : decide (0 ≤ (ji5)) = true := decide_eq_true c6
   clear c6
   obtain ⟨ji7, hji7⟩ : ∃ j_ : Int, (shl .u64 (IntKind.u64.wrap (Go.bits .and .u8 (rd l0 x8_1) 127)) (ji5)) = j_ := ⟨_, rfl⟩
   replace H : (leb_joined.l0 k1 (Go.bits .or .u64 x3_1 (ji7)) l0 (l0.length : Int) (wrap64 (x8_1 + 1))) = some r := by first | (rw [hji7] at H; exact H) | (simp only [hji7] at H ⊢; exact H)
   have hji7_ : (IntKind.u64.wrap ((IntKind.u64.wrap (Go.bits .and .u8 (rd l0 x8_1) 127)) * 2 ^ min (ji5).toNat 64)) = ji7 := hji7
   have hji7z : (ji5) ≤ 64 → (IntKind.u64.wrap ((IntKind.u64.wrap (Go.bits .and .u8 (rd l0 x8_1) 127)) * 2 ^ (ji5).toNat)) = ji7 := shl_small hji7
   have H' := am H
   clear H
   have p101 : 0 ≤ (x8_1 : Int) := od
   have q101 : x8_1 < (l0.length : Int) := od
   obtain ⟨ad101, e101, hx101_0⟩ := Kd.at_int HR0.out x8_1 p101 q101
   cases e101
   replace p101 := eq_true p101
   replace q101 := eq_true q101
   go_wp2
   go_roundg k1
   case measure => have := HK1.out; omega
   case rel => exact ⟨(Go.bits .or .u64 x3_1 (ji7)), (wrap64 (x8_1 + 1)), (by first | rfl | (simp; done) | (simp only [← hji7] <;> (first | rfl | simp)) | (simp [*]; done)), (by first | rfl | (simp; done) | (simp [*]; done)), H', ⟨by have := HK1.out; omega⟩, by repeat (first | exact Drawn0.refl _ | apply Drawn0.step)⟩
def leb_ReadUleb_1.f (k : Nat) (l0 : List Int) : Option (Int × Bool) := (leb_joined.f k l0).bind fun t101 => (if (l0.length : Int) < 10 then (some (t101, true)) else (if 9 < (l0.length : Int) then (some (t101, decide ((rd l0 9) ≤ 1))) else (none)))
set_option maxHeartbeats 8000000 in
theorem leb_ReadUleb_1.calls (k : Nat) (A0 : Option Addr) (c0 : Nat) (l0 : List Int) (r1 : Int) (r2 : Bool) (w : World) (hr0 : Kd.C (Kd.int .u8) w A0 l0.length l0) (hc0 : l0.length ≤ c0) (h : leb_ReadUleb_1.f k l0 = some (r1, r2)) :
    Calls Try.prog 72 #[.slice A0 l0.length c0] w fun e w' => e = .returned (.tuple #[.int .u64 r1, .bool r2]) ∧ Drawn0 w w' := by
 have HR0 := am hr0
 have HC0 := am hc0
 clear hr0 hc0
 have H : ((leb_joined.f k l0).bind fun t101 => (if (l0.length : Int) < 10 then (some (t101, true)) else (if 9 < (l0.length : Int) then (some (t101, decide ((rd l0 9) ≤ 1))) else (none)))) = some (r1, r2) := h
 clear h
 replace H := Option.bind_eq_some_iff.mp H
 obtain ⟨t101, A20, H⟩ := H
 replace H : (if (l0.length : Int) < 10 then (some (t101, true)) else (if 9 < (l0.length : Int) then (some (t101, decide ((rd l0 9) ≤ 1))) else (none))) = some (r1, r2) := H
 have A2 := am A20
 clear A20
 by_cases c3 : (l0.length : Int) < 10
 ·
  rw [if_pos c3] at H
  have c3b0 : decide ((l0.length : Int) < 10) = true := decide_eq_true c3
  have c3b1 : decide (l0.length < 10) = true := decide_eq_true (by omega)
  clear c3
  simp only [Option.some.injEq, Prod.mk.injEq] at H
  obtain ⟨rfl, rfl⟩ := H
  go_enter Try.func72, Try.ntmps72
  go_wp2_with (first | (go_at_call 70; (with_reducible refine (leb_joined.calls k _ _ l0 t101 _ ?side1 ?side2 A2.out).mono ?_); (case side1 => exact Kd.C_o HR0.out); (case side2 => exact HC0.out); rintro e w' ⟨rfl, ⟨nd, rfl⟩⟩; (try first | exact ⟨rfl, _, World.drewN_drewN _ _ _⟩ | exact ⟨rfl, _, Eq.trans (World.drewN_drewN _ _ _) (congrArg (World.drewN _) (Nat.add_assoc _ _ _))⟩)))
  repeat (go_quiet (first | (go_at_call 70; (with_reducible refine (leb_joined.calls k _ _ l0 t101 _ ?side1 ?side2 A2.out).mono ?_); (case side1 => exact Kd.C_o HR0.out); (case side2 => exact HC0.out); rintro e w' ⟨rfl, ⟨nd, rfl⟩⟩; (try first | exact ⟨rfl, _, World.drewN_drewN _ _ _⟩ | exact ⟨rfl, _, Eq.trans (World.drewN_drewN _ _ _) (congrArg (World.drewN _) (Nat.add_assoc _ _ _))⟩))); try go_wp2_with (first | (go_at_call 70; (with_reducible refine (leb_joined.calls k _ _ l0 t101 _ ?side1 ?side2 A2.out).mono ?_); (case side1 => exact Kd.C_o HR0.out); (case side2 => exact HC0.out); rintro e w' ⟨rfl, ⟨nd, rfl⟩⟩; (try first | exact ⟨rfl, _, World.drewN_drewN _ _ _⟩ | exact ⟨rfl, _, Eq.trans (World.drewN_drewN _ _ _) (congrArg (World.drewN _) (Nat.add_assoc _ _ _))⟩))))
  go_ret2
  exact ⟨by first | rfl | (simp; done) | (simp [*]; done), by repeat (first | exact Drawn0.refl _ | apply Drawn0.step)⟩
 rw [if_neg c3] at H
 have c3b0 : decide ((l0.length : Int) < 10) = false := decide_eq_false c3
 have c3b1 : decide (l0.length < 10) = false := decide_eq_false (by omega)
 clear c3
 by_cases c4 : 9 < (l0.length : Int)
 rotate_left
 ·
  rw [if_neg c4] at H
  exact absurd H (by simp)
 rw [if_pos c4] at H
 have c4b0 : decide (9 < (l0.length : Int)) = true := decide_eq_true c4
 have c4b1 : decide (9 < l0.length) = true := decide_eq_true (by omega)
 clear c4
 simp only [Option.some.injEq, Prod.mk.injEq] at H
 obtain ⟨rfl, rfl⟩ := H
 go_enter Try.func72, Try.ntmps72
 go_wp2_with (first | (go_at_call 70; (with_reducible refine (leb_joined.calls k _ _ l0 t101 _ ?side1 ?side2 A2.out).mono ?_); (case side1 => exact Kd.C_o HR0.out); (case side2 => exact HC0.out); rintro e w' ⟨rfl, ⟨nd, rfl⟩⟩; (try first | exact ⟨rfl, _, World.drewN_drewN _ _ _⟩ | exact ⟨rfl, _, Eq.trans (World.drewN_drewN _ _ _) (congrArg (World.drewN _) (Nat.add_assoc _ _ _))⟩); have p102 : 0 ≤ (9 : Int) := (by omega); have q102 : 9 < (l0.length : Int) := od; obtain ⟨ad102, e102, hx102_0⟩ := Kd.at_int HR0.out 9 p102 q102; cases e102; (try simp only [show (9 : Int).toNat = 9 from rfl, Nat.reduceMul, Nat.reduceEqDiff, Go.Addr.add, ↓reduceIte] at hx102_0); have qi102 : (9 < l0.length) = True := eq_true (by omega); (try rw [show ((9 : Int)).toNat = 9 from rfl] at hx102_0); replace p102 := eq_true p102; replace q102 := eq_true q102))
 repeat (go_quiet (first | (go_at_call 70; (with_reducible refine (leb_joined.calls k _ _ l0 t101 _ ?side1 ?side2 A2.out).mono ?_); (case side1 => exact Kd.C_o HR0.out); (case side2 => exact HC0.out); rintro e w' ⟨rfl, ⟨nd, rfl⟩⟩; (try first | exact ⟨rfl, _, World.drewN_drewN _ _ _⟩ | exact ⟨rfl, _, Eq.trans (World.drewN_drewN _ _ _) (congrArg (World.drewN _) (Nat.add_assoc _ _ _))⟩); have p102 : 0 ≤ (9 : Int) := (by omega); have q102 : 9 < (l0.length : Int) := od; obtain ⟨ad102, e102, hx102_0⟩ := Kd.at_int HR0.out 9 p102 q102; cases e102; (try simp only [show (9 : Int).toNat = 9 from rfl, Nat.reduceMul, Nat.reduceEqDiff, Go.Addr.add, ↓reduceIte] at hx102_0); have qi102 : (9 < l0.length) = True := eq_true (by omega); (try rw [show ((9 : Int)).toNat = 9 from rfl] at hx102_0); replace p102 := eq_true p102; replace q102 := eq_true q102)); try go_wp2_with (first | (go_at_call 70; (with_reducible refine (leb_joined.calls k _ _ l0 t101 _ ?side1 ?side2 A2.out).mono ?_); (case side1 => exact Kd.C_o HR0.out); (case side2 => exact HC0.out); rintro e w' ⟨rfl, ⟨nd, rfl⟩⟩; (try first | exact ⟨rfl, _, World.drewN_drewN _ _ _⟩ | exact ⟨rfl, _, Eq.trans (World.drewN_drewN _ _ _) (congrArg (World.drewN _) (Nat.add_assoc _ _ _))⟩); have p102 : 0 ≤ (9 : Int) := (by omega); have q102 : 9 < (l0.length : Int) := od; obtain ⟨ad102, e102, hx102_0⟩ := Kd.at_int HR0.out 9 p102 q102; cases e102; (try simp only [show (9 : Int).toNat = 9 from rfl, Nat.reduceMul, Nat.reduceEqDiff, Go.Addr.add, ↓reduceIte] at hx102_0); have qi102 : (9 < l0.length) = True := eq_true (by omega); (try rw [show ((9 : Int)).toNat = 9 from rfl] at hx102_0); replace p102 := eq_true p102; replace q102 := eq_true q102)))
 go_ret2
 exact ⟨by first | rfl | (simp; done) | (simp [*]; done), by repeat (first | exact Drawn0.refl _ | apply Drawn0.step)⟩
def lebGrp : List Int → Nat → Nat ⊕ Int
  | [], _ => .inr 20
  | x :: xs, n => if n = 10 then .inr 21 else if x < 128 then .inl (n + 1) else lebGrp xs (n + 1)
theorem lebGrp_drop (l : List Int) (i : Nat) (hi : i < l.length) (n : Nat) : lebGrp (l.drop i) n = if n = 10 then .inr 21 else if rd l i < 128 then .inl (n + 1) else lebGrp (l.drop (i + 1)) (n + 1) := by
 rw [List.drop_eq_getElem_cons hi]
 simp only [lebGrp]
 have : rd l i = l[i] := by simp [rd, List.getD, hi]
 rw [this]
def lebAt (l0 : List Int) (a1 : Int) : Nat ⊕ Int := if a1 < 0 ∨ (l0.length : Int) ≤ a1 then .inr 20 else lebGrp (l0.drop a1.toNat) 0
def lebGrpOut (A0 : Option Addr) (c0 : Nat) (l0 : List Int) (a1 : Int) (e : Ending) : Prop :=
  match lebAt l0 a1 with
  | .inr er => e = .returned (.tuple #[.slice none 0 0, .int .i64 0, .int .i64 er])
  | .inl n => ∃ ad, A0 = some ad ∧ e = .returned (.tuple #[.slice (some (ad.add a1.toNat)) n (c0 - a1.toNat), .int .i64 (a1 + n), .int .i64 0])
theorem lebGroups_calls (A0 : Option Addr) (c0 : Nat) (l0 : List Int) (a1 : Int) (w : World) (hr0 : Kd.C (Kd.int .u8) w A0 l0.length l0) (hc0 : l0.length ≤ c0) :
    Calls Try.prog 89 #[.slice A0 l0.length c0, .int .i64 a1] w fun e w' => lebGrpOut A0 c0 l0 a1 e ∧ w = w' := by
 have hll : l0.length ≤ 9223372036854775807 := hr0.2.1
 have HR0 := am hr0
 clear hr0
 by_cases h0 : a1 < 0
 ·
  have h0b : decide (a1 < 0) = true := by simpa using h0
  go_enter Try.func89, Try.ntmps89
  go_wp2
  go_ret3
  refine ⟨?_, rfl⟩
  simp [lebGrpOut, lebAt, h0]
 have h0b : decide (a1 < 0) = false := by simpa using h0
 by_cases h1 : (l0.length : Int) ≤ a1
 ·
  have h1b : decide ((l0.length : Int) ≤ a1) = true := by simpa using h1
  go_enter Try.func89, Try.ntmps89
  go_wp2
  go_ret3
  refine ⟨?_, rfl⟩
  simp [lebGrpOut, lebAt, h1]
 clear h0b
 obtain ⟨m, rfl⟩ := Int.eq_ofNat_of_zero_le (show 0 ≤ a1 by omega)
 have hm : m < l0.length := by omega
 have h0b : decide ((m : Int) < 0) = false := by simp
 have h1b : decide ((l0.length : Int) ≤ (m : Int)) = false := by simp; omega
 have h1c : decide (l0.length ≤ m) = false := by simp; omega
 go_enter Try.func89, Try.ntmps89
 go_wp2
 go_loop [7] (fun v => ∃ n : Nat, n ≤ 10 ∧ m + n ≤ l0.length ∧ v = .int .i64 ((m : Int) + n) ∧ Aside0 (lebGrp (l0.drop m) 0 = lebGrp (l0.drop (m + n)) n)) (fun v => l0.length - (intOf v).toNat)
 case atStart => exact ⟨0, by omega, by omega, by simp, ⟨rfl⟩⟩
 case round =>
  obtain ⟨n, hn, hmn, rfl, HA⟩ := hrel
  by_cases hlt : m + n < l0.length
  rotate_left
  ·
   have hltb : decide ((m : Int) + n < (l0.length : Int)) = false := by simp; omega
   have hlen : m + n = l0.length := by omega
   have h : Aside0 (lebGrp (l0.drop m) 0 = .inr 20) := ⟨by rw [HA.out, hlen]; simp [lebGrp]⟩
   clear hlen
   go_wp2
   go_ret3
   refine ⟨?_, rfl⟩
   simp only [lebGrpOut, lebAt]
   rw [if_neg (by omega), Int.toNat_natCast, h.out]
   rfl
  have hltb : decide ((m : Int) + n < (l0.length : Int)) = true := by simp; omega
  by_cases h10 : n = 10
  ·
   subst h10
   go_wp2
   go_ret3
   refine ⟨?_, rfl⟩
   have h := HA.out
   rw [lebGrp_drop _ _ hlt, if_pos rfl] at h
   simp only [lebGrpOut, lebAt]
   rw [if_neg (by omega), Int.toNat_natCast, h]
   rfl
  have h10b : ((m : Int) + n - m == 10) = false := by simp; omega
  obtain ⟨ad, rfl, hx⟩ := Kd.at_int HR0.out ((m : Int) + n) (by omega) (by omega)
  have hxn : rd l0 ((m : Int) + n) = rd l0 ((m + n : Nat) : Int) := by simp
  rw [show ((m : Int) + n).toNat = m + n from by omega, hxn] at hx
  clear hxn
  have h := HA.out
  rw [lebGrp_drop _ _ hlt, if_neg h10] at h
  generalize rd l0 ((m + n : Nat) : Int) = b at hx h
  by_cases h128 : b < 128
  ·
   have hb : decide (b < 128) = true := by simpa using h128
   rw [if_pos h128] at h
   replace h := am h
   go_wp2
   go_ret3
   refine ⟨?_, rfl⟩
   simp only [lebGrpOut, lebAt]
   rw [if_neg (by omega), Int.toNat_natCast, h.out]
   refine ⟨ad, rfl, ?_⟩
   simp
   omega
  have hb : decide (b < 128) = false := by simpa using h128
  rw [if_neg h128] at h
  replace h := am h
  go_wp2
  go_round
  case rel => exact ⟨n + 1, by omega, by omega, by go_num, ⟨by rw [h.out]; rfl⟩⟩
  case measure => simp [intOf]; omega
def lebJn : List Int → Nat → Int → Int
  | [], _, u => u
  | x :: xs, i, u => lebJn xs (i + 1) (Go.bits .or .u64 u (shl .u64 (IntKind.u64.wrap (Go.bits .and .u8 x 127)) (7 * (i : Int))))
theorem lebJoined_ev (g : List Int) (hg : g.length ≤ 1000) (d : Nat) : ∀ (k i : Nat) (u : Int), i ≤ g.length → g.length - i = d → d < k →
    leb_joined.l0 k u g (g.length : Int) (i : Int) = some (lebJn (g.drop i) i u) := by
 induction d with
 | zero =>
  intro k i u hi hd hk
  obtain ⟨k, rfl⟩ : ∃ m, k = m + 1 := ⟨k - 1, by omega⟩
  have : i = g.length := by omega
  subst this
  simp only [leb_joined.l0]
  rw [if_neg (by omega), List.drop_length]
  rfl
 | succ d ih =>
  intro k i u hi hd hk
  obtain ⟨k, rfl⟩ : ∃ m, k = m + 1 := ⟨k - 1, by omega⟩
  have hlt : i < g.length := by omega
  have w7 : wrap64 (7 * (i : Int)) = 7 * (i : Int) := by unfold wrap64; omega
  have w1 : wrap64 ((i : Int) + 1) = ((i + 1 : Nat) : Int) := by unfold wrap64; omega
  simp only [leb_joined.l0]
  rw [if_pos (by omega), if_pos (by omega), if_pos (by omega), w7, if_pos (by omega), w1, ih k (i + 1) _ (by omega) (by omega) (by omega)]
  rw [List.drop_eq_getElem_cons hlt]
  have : rd g (i : Int) = g[i] := by simp [rd, List.getD, hlt]
  rw [this]
  rfl
theorem lebJoined_some (g : List Int) (hg : g.length ≤ 1000) : leb_joined.f 1001 g = some (lebJn g 0 0) := by
 unfold leb_joined.f
 have := lebJoined_ev g hg g.length 1001 0 0 (by omega) (by omega) (by omega)
 simpa using this
theorem lebGrp_le (l : List Int) : ∀ n m, lebGrp l n = .inl m → n < m ∧ m ≤ n + l.length := by
 induction l with
 | nil => intro n m h; simp [lebGrp] at h
 | cons x xs ih =>
  intro n m h
  simp only [lebGrp] at h
  split at h
  ·
   cases h
  split at h
  ·
   cases h
   simp
  have := ih _ _ h
  simp
  omega
theorem lebGrp_10 (l : List Int) : ∀ n m, n ≤ 10 → lebGrp l n = .inl m → m ≤ 10 := by
 induction l with
 | nil => intro n m _ h; simp [lebGrp] at h
 | cons x xs ih =>
  intro n m hn h
  simp only [lebGrp] at h
  split at h
  ·
   cases h
  split at h
  ·
   cases h
   omega
  exact ih _ _ (by omega) h
theorem lebGrp_err (l : List Int) : ∀ n er, lebGrp l n = .inr er → er = 20 ∨ er = 21 := by
 induction l with
 | nil => intro n er h; simp [lebGrp] at h; exact .inl h.symm
 | cons x xs ih =>
  intro n er h
  simp only [lebGrp] at h
  split at h
  ·
   cases h; exact .inr rfl
  split at h
  ·
   cases h
  exact ih _ _ h
theorem lebAt_err {l : List Int} {a1 er : Int} (h : lebAt l a1 = .inr er) : er = 20 ∨ er = 21 := by
 unfold lebAt at h
 split at h
 ·
  cases h; exact .inl rfl
 exact lebGrp_err _ _ _ h
theorem lebAt_ok {l : List Int} {a1 : Int} {n : Nat} (h : lebAt l a1 = .inl n) : 0 ≤ a1 ∧ 0 < n ∧ n ≤ 10 ∧ a1.toNat + n ≤ l.length := by
 unfold lebAt at h
 split at h
 ·
  cases h
 have h1 := lebGrp_le _ _ _ h
 have h2 := lebGrp_10 _ _ _ (by omega) h
 rw [List.length_drop] at h1
 omega
theorem lebGrpOut_err {A0 : Option Addr} {c0 : Nat} {l0 : List Int} {a1 er : Int} {e : Ending} (hL : lebAt l0 a1 = .inr er) (h : lebGrpOut A0 c0 l0 a1 e) : e = .returned (.tuple #[.slice none 0 0, .int .i64 0, .int .i64 er]) := by
 unfold lebGrpOut at h
 rw [hL] at h
 exact h
theorem lebGrpOut_ok {A0 : Option Addr} {c0 : Nat} {l0 : List Int} {a1 : Int} {n : Nat} {e : Ending} (hL : lebAt l0 a1 = .inl n) (h : lebGrpOut A0 c0 l0 a1 e) : ∃ ad, A0 = some ad ∧ e = .returned (.tuple #[.slice (some (ad.add a1.toNat)) n (c0 - a1.toNat), .int .i64 (a1 + n), .int .i64 0]) := by
 unfold lebGrpOut at h
 rw [hL] at h
 exact h
def lebCut (l0 : List Int) (a1 : Int) (n : Nat) : List Int := (l0.take (a1.toNat + n)).drop a1.toNat
theorem lebCut_length {l0 : List Int} {a1 : Int} {n : Nat} (h : a1.toNat + n ≤ l0.length) : (lebCut l0 a1 n).length = n := by
 unfold lebCut
 rw [List.length_drop, List.length_take]
 omega
theorem lebCut_reads {w : World} {ad : Addr} {c0 : Nat} {l0 : List Int} {a1 : Int} {n : Nat} (hr0 : Kd.C (Kd.int .u8) w (some ad) l0.length l0) (hc0 : l0.length ≤ c0) (hn : 0 < n) (h : a1.toNat + n ≤ l0.length) :
    Kd.C (Kd.int .u8) w (some (ad.add a1.toNat)) (lebCut l0 a1 n).length (lebCut l0 a1 n) := by
 have := Kd.C_mid (lo := a1.toNat) (hi := a1.toNat + n) (c := c0) hr0 (by omega) h hc0
 rw [if_neg (by omega)] at this
 unfold lebCut
 simpa [Kd.int, Kd.scalar] using this
def lebReadU (l0 : List Int) (a1 : Int) : Int × Int × Int :=
  match lebAt l0 a1 with
  | .inr er => (0, 0, er)
  | .inl n => if n < 10 ∨ rd (lebCut l0 a1 n) 9 ≤ 1 then (lebJn (lebCut l0 a1 n) 0 0, a1 + n, 0) else (0, 0, 21)
theorem lebReadU_calls (A0 : Option Addr) (c0 : Nat) (l0 : List Int) (a1 : Int) (w : World) (hr0 : Kd.C (Kd.int .u8) w A0 l0.length l0) (hc0 : l0.length ≤ c0) :
    Calls Try.prog 73 #[.agg #[.func (.func 72) #[] #[]], .slice A0 l0.length c0, .int .i64 a1] w fun e w' =>
      e = .returned (.tuple #[.int .u64 (lebReadU l0 a1).1, .int .i64 (lebReadU l0 a1).2.1, .int .i64 (lebReadU l0 a1).2.2]) ∧ Below w.heap.size w w' := by
 have HR0 := am hr0
 have hb0 := Below.refl w.heap.size w
 cases hL : lebAt l0 a1 with
 | inr er =>
  have hf : lebReadU l0 a1 = (0, 0, er) := by unfold lebReadU; rw [hL]
  rw [hf]
  have her := lebAt_err hL
  have HL := Lib.hid hL
  clear hL hf hr0
  have hu := Try.underlying125
  rcases her with rfl | rfl
  all_goals
    go_enter Try.func73, Try.ntmps73
    go_wp2_with fail
    refine (lebGroups_calls A0 c0 l0 a1 _ (Kd.C_alloc HR0.out _) hc0).mono ?_
    rintro e w' ⟨hg, rfl⟩
    obtain rfl := lebGrpOut_err HL.out hg
    clear hg
    go_wp2
    go_ret3
    exact ⟨rfl, below_alloc hb0 _⟩
 | inl n =>
  obtain ⟨h0, hn, hn10, hln⟩ := lebAt_ok hL
  have hf : lebReadU l0 a1 = if n < 10 ∨ rd (lebCut l0 a1 n) 9 ≤ 1 then (lebJn (lebCut l0 a1 n) 0 0, a1 + n, 0) else (0, 0, 21) := by unfold lebReadU; rw [hL]
  rw [hf]
  have hlen := lebCut_length (l0 := l0) (a1 := a1) hln
  have HLN := Lib.hid hlen
  have hone : leb_ReadUleb_1.f 1001 (lebCut l0 a1 n) = some (lebJn (lebCut l0 a1 n) 0 0, decide (n < 10 ∨ rd (lebCut l0 a1 n) 9 ≤ 1)) := by
   unfold leb_ReadUleb_1.f
   rw [lebJoined_some _ (by rw [hlen]; omega), Option.bind_some, hlen]
   by_cases h10 : n < 10
   ·
    rw [if_pos (by omega)]
    simp [h10]
   rw [if_neg (by omega), if_pos (by omega)]
   simp [h10]
  have HL := Lib.hid hL
  have HF := Lib.hid hf
  have HONE := Lib.hid hone
  clear hL hf hr0 hone hlen
  have hu := Try.underlying125
  by_cases hok : n < 10 ∨ rd (lebCut l0 a1 n) 9 ≤ 1
  ·
   have HOK := Lib.hid hok
   clear hok
   go_enter Try.func73, Try.ntmps73
   go_wp2_with fail
   refine (lebGroups_calls A0 c0 l0 a1 _ (Kd.C_alloc HR0.out _) hc0).mono ?_
   rintro e w' ⟨hg, rfl⟩
   obtain ⟨ad, rfl, rfl⟩ := lebGrpOut_ok HL.out hg
   clear hg
   have hr1 := lebCut_reads (n := n) HR0.out hc0 hn hln
   go_wp2_with fail
   have hc := leb_ReadUleb_1.calls 1001 (some (ad.add a1.toNat)) (c0 - a1.toNat) (lebCut l0 a1 n) _ _ _ (Kd.C_alloc hr1 (Obj.cells #[Value.func (Fn.func 72) #[] #[]] 125)) (by rw [HLN.out]; omega) HONE.out
   rw [HLN.out] at hc
   refine hc.mono ?_
   clear hc hr1
   rintro e w' ⟨rfl, ⟨nd, rfl⟩⟩
   have hd : decide (n < 10 ∨ rd (lebCut l0 a1 n) 9 ≤ 1) = true := by simp [HOK.out]
   rw [hd]
   clear hd
   go_wp2
   go_ret3
   refine ⟨?_, by repeat (first | exact hb0 | apply below_alloc | apply pw_below_drewN | apply below_drew1)⟩
   have hok := HOK.out
   simp [hok]
  have HOK := Lib.hid hok
  clear hok
  go_enter Try.func73, Try.ntmps73
  go_wp2_with fail
  refine (lebGroups_calls A0 c0 l0 a1 _ (Kd.C_alloc HR0.out _) hc0).mono ?_
  rintro e w' ⟨hg, rfl⟩
  obtain ⟨ad, rfl, rfl⟩ := lebGrpOut_ok HL.out hg
  clear hg
  have hr1 := lebCut_reads (n := n) HR0.out hc0 hn hln
  go_wp2_with fail
  have hc := leb_ReadUleb_1.calls 1001 (some (ad.add a1.toNat)) (c0 - a1.toNat) (lebCut l0 a1 n) _ _ _ (Kd.C_alloc hr1 (Obj.cells #[Value.func (Fn.func 72) #[] #[]] 125)) (by rw [HLN.out]; omega) HONE.out
  rw [HLN.out] at hc
  refine hc.mono ?_
  clear hc hr1
  rintro e w' ⟨rfl, ⟨nd, rfl⟩⟩
  have hd : decide (n < 10 ∨ rd (lebCut l0 a1 n) 9 ≤ 1) = false := by simp [HOK.out]
  rw [hd]
  clear hd
  go_wp2
  go_ret3
  refine ⟨?_, by repeat (first | exact hb0 | apply below_alloc | apply pw_below_drewN | apply below_drew1)⟩
  have hok := HOK.out
  simp [hok]
def leb_ReadUleb.f (l0 : List Int) (a1 : Int) : Option (Int × Int × Int) := some (wrap64 (lebReadU l0 a1).1, (lebReadU l0 a1).2.1, (lebReadU l0 a1).2.2)
set_option maxHeartbeats 1000000 in
theorem leb_ReadUleb.calls (A0 : Option Addr) (c0 : Nat) (l0 : List Int) (a1 : Int) (r1 : Int) (r2 : Int) (r3 : Int) (w : World) (hr0 : Kd.C (Kd.int .u8) w A0 l0.length l0) (hc0 : l0.length ≤ c0) (h : leb_ReadUleb.f l0 a1 = some (r1, r2, r3)) :
    Calls Try.prog 50 #[.slice A0 l0.length c0, .int .i64 a1] w fun e w' => e = .returned (.tuple #[.int .i64 r1, .int .i64 r2, .int .i64 r3]) ∧ Below w.heap.size w w' := by
 have HR0 := am hr0
 have hb0 := Below.refl w.heap.size w
 unfold leb_ReadUleb.f at h
 simp only [Option.some.injEq, Prod.mk.injEq] at h
 obtain ⟨rfl, rfl, rfl⟩ := h
 have hu := Try.underlying125
 clear hr0
 obtain ⟨⟨x1, x2, x3⟩, hx⟩ : ∃ x, lebReadU l0 a1 = x := ⟨_, rfl⟩
 rw [hx]
 have HX := Lib.hid hx
 clear hx
 go_enter Try.func50, Try.ntmps50
 go_wp2_with fail
 have hc := lebReadU_calls A0 c0 l0 a1 _ (Kd.C_alloc HR0.out (Obj.cells #[Value.func (Fn.func 72) #[] #[]] 125)) hc0
 rw [HX.out] at hc
 refine hc.mono ?_
 clear hc
 rintro e w' ⟨rfl, hb1⟩
 have hb2 : Below w.heap.size w w' := below_then (below_alloc hb0 _) (by simp) hb1
 clear hb1
 replace hb2 := am hb2
 go_wp2
 go_ret3
 exact ⟨rfl, hb2.out⟩
def leb_ReadSleb_1.f (k : Nat) (l0 : List Int) : Option (Int × Bool) := (leb_joined.f k l0).bind fun t101 => (if (wrap64 (7 * (l0.length : Int))) < 64 then (if 0 ≤ (wrap64 ((wrap64 (7 * (l0.length : Int))) - 1)) then (if (Go.bits .and .u64 (shr .u64 t101 (wrap64 ((wrap64 (7 * (l0.length : Int))) - 1))) 1) = 1 then (if 0 ≤ (wrap64 (7 * (l0.length : Int))) then (if (l0.length : Int) < 10 then (some (wrap64 (Go.bits .or .u64 t101 (shl .u64 18446744073709551615 (wrap64 (7 * (l0.length : Int))))), true)) else (if 9 < (l0.length : Int) then (if (rd l0 9) = 0 then (some (wrap64 (Go.bits .or .u64 t101 (shl .u64 18446744073709551615 (wrap64 (7 * (l0.length : Int))))), true)) else (some (wrap64 (Go.bits .or .u64 t101 (shl .u64 18446744073709551615 (wrap64 (7 * (l0.length : Int))))), ((rd l0 9) == 127)))) else (none))) else (none)) else (if (l0.length : Int) < 10 then (some (wrap64 (t101), true)) else (if 9 < (l0.length : Int) then (if (rd l0 9) = 0 then (some (wrap64 (t101), true)) else (some (wrap64 (t101), ((rd l0 9) == 127)))) else (none)))) else (none)) else (if (l0.length : Int) < 10 then (some (wrap64 (t101), true)) else (if 9 < (l0.length : Int) then (if (rd l0 9) = 0 then (some (wrap64 (t101), true)) else (some (wrap64 (t101), ((rd l0 9) == 127)))) else (none))))
set_option maxHeartbeats 8000000 in
theorem leb_ReadSleb_1.calls (k : Nat) (A0 : Option Addr) (c0 : Nat) (l0 : List Int) (r1 : Int) (r2 : Bool) (w : World) (hr0 : Kd.C (Kd.int .u8) w A0 l0.length l0) (hc0 : l0.length ≤ c0) (h : leb_ReadSleb_1.f k l0 = some (r1, r2)) :
    Calls Try.prog 69 #[.slice A0 l0.length c0] w fun e w' => e = .returned (.tuple #[.int .i64 r1, .bool r2]) ∧ Drawn0 w w' := by
 have HR0 := am hr0
 have HC0 := am hc0
 clear hr0 hc0
 have H : ((leb_joined.f k l0).bind fun t101 => (if (wrap64 (7 * (l0.length : Int))) < 64 then (if 0 ≤ (wrap64 ((wrap64 (7 * (l0.length : Int))) - 1)) then (if (Go.bits .and .u64 (shr .u64 t101 (wrap64 ((wrap64 (7 * (l0.length : Int))) - 1))) 1) = 1 then (if 0 ≤ (wrap64 (7 * (l0.length : Int))) then (if (l0.length : Int) < 10 then (some (wrap64 (Go.bits .or .u64 t101 (shl .u64 18446744073709551615 (wrap64 (7 * (l0.length : Int))))), true)) else (if 9 < (l0.length : Int) then (if (rd l0 9) = 0 then (some (wrap64 (Go.bits .or .u64 t101 (shl .u64 18446744073709551615 (wrap64 (7 * (l0.length : Int))))), true)) else (some (wrap64 (Go.bits .or .u64 t101 (shl .u64 18446744073709551615 (wrap64 (7 * (l0.length : Int))))), ((rd l0 9) == 127)))) else (none))) else (none)) else (if (l0.length : Int) < 10 then (some (wrap64 (t101), true)) else (if 9 < (l0.length : Int) then (if (rd l0 9) = 0 then (some (wrap64 (t101), true)) else (some (wrap64 (t101), ((rd l0 9) == 127)))) else (none)))) else (none)) else (if (l0.length : Int) < 10 then (some (wrap64 (t101), true)) else (if 9 < (l0.length : Int) then (if (rd l0 9) = 0 then (some (wrap64 (t101), true)) else (some (wrap64 (t101), ((rd l0 9) == 127)))) else (none))))) = some (r1, r2) := h
 clear h
 replace H := Option.bind_eq_some_iff.mp H
 obtain ⟨t101, A20, H⟩ := H
 replace H : (if (wrap64 (7 * (l0.length : Int))) < 64 then (if 0 ≤ (wrap64 ((wrap64 (7 * (l0.length : Int))) - 1)) then (if (Go.bits .and .u64 (shr .u64 t101 (wrap64 ((wrap64 (7 * (l0.length : Int))) - 1))) 1) = 1 then (if 0 ≤ (wrap64 (7 * (l0.length : Int))) then (if (l0.length : Int) < 10 then (some (wrap64 (Go.bits .or .u64 t101 (shl .u64 18446744073709551615 (wrap64 (7 * (l0.length : Int))))), true)) else (if 9 < (l0.length : Int) then (if (rd l0 9) = 0 then (some (wrap64 (Go.bits .or .u64 t101 (shl .u64 18446744073709551615 (wrap64 (7 * (l0.length : Int))))), true)) else (some (wrap64 (Go.bits .or .u64 t101 (shl .u64 18446744073709551615 (wrap64 (7 * (l0.length : Int))))), ((rd l0 9) == 127)))) else (none))) else (none)) else (if (l0.length : Int) < 10 then (some (wrap64 (t101), true)) else (if 9 < (l0.length : Int) then (if (rd l0 9) = 0 then (some (wrap64 (t101), true)) else (some (wrap64 (t101), ((rd l0 9) == 127)))) else (none)))) else (none)) else (if (l0.length : Int) < 10 then (some (wrap64 (t101), true)) else (if 9 < (l0.length : Int) then (if (rd l0 9) = 0 then (some (wrap64 (t101), true)) else (some (wrap64 (t101), ((rd l0 9) == 127)))) else (none)))) = some (r1, r2) := H
 have A2 := am A20
 clear A20
 by_cases c3 : (wrap64 (7 * (l0.length : Int))) < 64
 rotate_left
 ·
  rw [if_neg c3] at H
  have c3b0 : decide ((wrap64 (7 * (l0.length : Int))) < 64) = false := decide_eq_false c3
  clear c3
  by_cases c17 : (l0.length : Int) < 10
  ·
   rw [if_pos c17] at H
   have c17b0 : decide ((l0.length : Int) < 10) = true := decide_eq_true c17
   have c17b1 : decide (l0.length < 10) = true := decide_eq_true (by omega)
   clear c17
   simp only [Option.some.injEq, Prod.mk.injEq] at H
   obtain ⟨rfl, rfl⟩ := H
   go_enter Try.func69, Try.ntmps69
   go_wp2_with (first | (go_at_call 70; (with_reducible refine (leb_joined.calls k _ _ l0 t101 _ ?side1 ?side2 A2.out).mono ?_); (case side1 => exact Kd.C_o HR0.out); (case side2 => exact HC0.out); rintro e w' ⟨rfl, ⟨nd, rfl⟩⟩; (try first | exact ⟨rfl, _, World.drewN_drewN _ _ _⟩ | exact ⟨rfl, _, Eq.trans (World.drewN_drewN _ _ _) (congrArg (World.drewN _) (Nat.add_assoc _ _ _))⟩)))
   repeat (go_quiet (first | (go_at_call 70; (with_reducible refine (leb_joined.calls k _ _ l0 t101 _ ?side1 ?side2 A2.out).mono ?_); (case side1 => exact Kd.C_o HR0.out); (case side2 => exact HC0.out); rintro e w' ⟨rfl, ⟨nd, rfl⟩⟩; (try first | exact ⟨rfl, _, World.drewN_drewN _ _ _⟩ | exact ⟨rfl, _, Eq.trans (World.drewN_drewN _ _ _) (congrArg (World.drewN _) (Nat.add_assoc _ _ _))⟩))); try go_wp2_with (first | (go_at_call 70; (with_reducible refine (leb_joined.calls k _ _ l0 t101 _ ?side1 ?side2 A2.out).mono ?_); (case side1 => exact Kd.C_o HR0.out); (case side2 => exact HC0.out); rintro e w' ⟨rfl, ⟨nd, rfl⟩⟩; (try first | exact ⟨rfl, _, World.drewN_drewN _ _ _⟩ | exact ⟨rfl, _, Eq.trans (World.drewN_drewN _ _ _) (congrArg (World.drewN _) (Nat.add_assoc _ _ _))⟩))))
   go_ret2
   exact ⟨by first | rfl | (simp; done) | (simp [*]; done), by repeat (first | exact Drawn0.refl _ | apply Drawn0.step)⟩
  rw [if_neg c17] at H
  have c17b0 : decide ((l0.length : Int) < 10) = false := decide_eq_false c17
  have c17b1 : decide (l0.length < 10) = false := decide_eq_false (by omega)
  clear c17
  by_cases c18 : 9 < (l0.length : Int)
  rotate_left
  ·
   rw [if_neg c18] at H
   exact absurd H (by simp)
  rw [if_pos c18] at H
  have c18b0 : decide (9 < (l0.length : Int)) = true := decide_eq_true c18
  have c18b1 : decide (9 < l0.length) = true := decide_eq_true (by omega)
  clear c18
  by_cases c19 : (rd l0 9) = 0
  ·
   rw [if_pos c19] at H
   have c19b0 : ((rd l0 9) == 0) = true := beq_iff_eq.mpr c19
   have c19b1 : ((rd l0 9) != 0) = false := bne_eq_false_iff_eq.mpr c19
   clear c19
   simp only [Option.some.injEq, Prod.mk.injEq] at H
   obtain ⟨rfl, rfl⟩ := H
   go_enter Try.func69, Try.ntmps69
   go_wp2_with (first | (go_at_call 70; (with_reducible refine (leb_joined.calls k _ _ l0 t101 _ ?side1 ?side2 A2.out).mono ?_); (case side1 => exact Kd.C_o HR0.out); (case side2 => exact HC0.out); rintro e w' ⟨rfl, ⟨nd, rfl⟩⟩; (try first | exact ⟨rfl, _, World.drewN_drewN _ _ _⟩ | exact ⟨rfl, _, Eq.trans (World.drewN_drewN _ _ _) (congrArg (World.drewN _) (Nat.add_assoc _ _ _))⟩); have p106 : 0 ≤ (9 : Int) := (by omega); have q106 : 9 < (l0.length : Int) := od; obtain ⟨ad106, e106, hx106_0⟩ := Kd.at_int HR0.out 9 p106 q106; cases e106; (try simp only [show (9 : Int).toNat = 9 from rfl, Nat.reduceMul, Nat.reduceEqDiff, Go.Addr.add, ↓reduceIte] at hx106_0); have qi106 : (9 < l0.length) = True := eq_true (by omega); (try rw [show ((9 : Int)).toNat = 9 from rfl] at hx106_0); replace p106 := eq_true p106; replace q106 := eq_true q106))
   repeat (go_quiet (first | (go_at_call 70; (with_reducible refine (leb_joined.calls k _ _ l0 t101 _ ?side1 ?side2 A2.out).mono ?_); (case side1 => exact Kd.C_o HR0.out); (case side2 => exact HC0.out); rintro e w' ⟨rfl, ⟨nd, rfl⟩⟩; (try first | exact ⟨rfl, _, World.drewN_drewN _ _ _⟩ | exact ⟨rfl, _, Eq.trans (World.drewN_drewN _ _ _) (congrArg (World.drewN _) (Nat.add_assoc _ _ _))⟩); have p106 : 0 ≤ (9 : Int) := (by omega); have q106 : 9 < (l0.length : Int) := od; obtain ⟨ad106, e106, hx106_0⟩ := Kd.at_int HR0.out 9 p106 q106; cases e106; (try simp only [show (9 : Int).toNat = 9 from rfl, Nat.reduceMul, Nat.reduceEqDiff, Go.Addr.add, ↓reduceIte] at hx106_0); have qi106 : (9 < l0.length) = True := eq_true (by omega); (try rw [show ((9 : Int)).toNat = 9 from rfl] at hx106_0); replace p106 := eq_true p106; replace q106 := eq_true q106)); try go_wp2_with (first | (go_at_call 70; (with_reducible refine (leb_joined.calls k _ _ l0 t101 _ ?side1 ?side2 A2.out).mono ?_); (case side1 => exact Kd.C_o HR0.out); (case side2 => exact HC0.out); rintro e w' ⟨rfl, ⟨nd, rfl⟩⟩; (try first | exact ⟨rfl, _, World.drewN_drewN _ _ _⟩ | exact ⟨rfl, _, Eq.trans (World.drewN_drewN _ _ _) (congrArg (World.drewN _) (Nat.add_assoc _ _ _))⟩); have p106 : 0 ≤ (9 : Int) := (by omega); have q106 : 9 < (l0.length : Int) := od; obtain ⟨ad106, e106, hx106_0⟩ := Kd.at_int HR0.out 9 p106 q106; cases e106; (try simp only [show (9 : Int).toNat = 9 from rfl, Nat.reduceMul, Nat.reduceEqDiff, Go.Addr.add, ↓reduceIte] at hx106_0); have qi106 : (9 < l0.length) = True := eq_true (by omega); (try rw [show ((9 : Int)).toNat = 9 from rfl] at hx106_0); replace p106 := eq_true p106; replace q106 := eq_true q106)))
   go_ret2
   exact ⟨by first | rfl | (simp; done) | (simp [*]; done), by repeat (first | exact Drawn0.refl _ | apply Drawn0.step)⟩
  rw [if_neg c19] at H
  have c19b0 : ((rd l0 9) == 0) = false := beq_eq_false_iff_ne.mpr c19
  have c19b1 : ((rd l0 9) != 0) = true := bne_iff_ne.mpr c19
  simp only [Option.some.injEq, Prod.mk.injEq] at H
  obtain ⟨rfl, rfl⟩ := H
  go_enter Try.func69, Try.ntmps69
  go_wp2_with (first | (go_at_call 70; (with_reducible refine (leb_joined.calls k _ _ l0 t101 _ ?side1 ?side2 A2.out).mono ?_); (case side1 => exact Kd.C_o HR0.out); (case side2 => exact HC0.out); rintro e w' ⟨rfl, ⟨nd, rfl⟩⟩; (try first | exact ⟨rfl, _, World.drewN_drewN _ _ _⟩ | exact ⟨rfl, _, Eq.trans (World.drewN_drewN _ _ _) (congrArg (World.drewN _) (Nat.add_assoc _ _ _))⟩); have p106 : 0 ≤ (9 : Int) := (by omega); have q106 : 9 < (l0.length : Int) := od; obtain ⟨ad106, e106, hx106_0⟩ := Kd.at_int HR0.out 9 p106 q106; cases e106; (try simp only [show (9 : Int).toNat = 9 from rfl, Nat.reduceMul, Nat.reduceEqDiff, Go.Addr.add, ↓reduceIte] at hx106_0); have qi106 : (9 < l0.length) = True := eq_true (by omega); (try rw [show ((9 : Int)).toNat = 9 from rfl] at hx106_0); replace p106 := eq_true p106; replace q106 := eq_true q106; have p107 : 0 ≤ (9 : Int) := (by omega); have q107 : 9 < (l0.length : Int) := od; obtain ⟨ad107, e107, hx107_0⟩ := Kd.at_int HR0.out 9 p107 q107; obtain rfl : ad106 = ad107 := (by injection e107); (try simp only [show (9 : Int).toNat = 9 from rfl, Nat.reduceMul, Nat.reduceEqDiff, Go.Addr.add, ↓reduceIte] at hx107_0); have qi107 : (9 < l0.length) = True := eq_true (by omega); (try rw [show ((9 : Int)).toNat = 9 from rfl] at hx107_0); replace p107 := eq_true p107; replace q107 := eq_true q107))
  repeat (go_quiet (first | (go_at_call 70; (with_reducible refine (leb_joined.calls k _ _ l0 t101 _ ?side1 ?side2 A2.out).mono ?_); (case side1 => exact Kd.C_o HR0.out); (case side2 => exact HC0.out); rintro e w' ⟨rfl, ⟨nd, rfl⟩⟩; (try first | exact ⟨rfl, _, World.drewN_drewN _ _ _⟩ | exact ⟨rfl, _, Eq.trans (World.drewN_drewN _ _ _) (congrArg (World.drewN _) (Nat.add_assoc _ _ _))⟩); have p106 : 0 ≤ (9 : Int) := (by omega); have q106 : 9 < (l0.length : Int) := od; obtain ⟨ad106, e106, hx106_0⟩ := Kd.at_int HR0.out 9 p106 q106; cases e106; (try simp only [show (9 : Int).toNat = 9 from rfl, Nat.reduceMul, Nat.reduceEqDiff, Go.Addr.add, ↓reduceIte] at hx106_0); have qi106 : (9 < l0.length) = True := eq_true (by omega); (try rw [show ((9 : Int)).toNat = 9 from rfl] at hx106_0); replace p106 := eq_true p106; replace q106 := eq_true q106; have p107 : 0 ≤ (9 : Int) := (by omega); have q107 : 9 < (l0.length : Int) := od; obtain ⟨ad107, e107, hx107_0⟩ := Kd.at_int HR0.out 9 p107 q107; obtain rfl : ad106 = ad107 := (by injection e107); (try simp only [show (9 : Int).toNat = 9 from rfl, Nat.reduceMul, Nat.reduceEqDiff, Go.Addr.add, ↓reduceIte] at hx107_0); have qi107 : (9 < l0.length) = True := eq_true (by omega); (try rw [show ((9 : Int)).toNat = 9 from rfl] at hx107_0); replace p107 := eq_true p107; replace q107 := eq_true q107)); try go_wp2_with (first | (go_at_call 70; (with_reducible refine (leb_joined.calls k _ _ l0 t101 _ ?side1 ?side2 A2.out).mono ?_); (case side1 => exact Kd.C_o HR0.out); (case side2 => exact HC0.out); rintro e w' ⟨rfl, ⟨nd, rfl⟩⟩; (try first | exact ⟨rfl, _, World.drewN_drewN _ _ _⟩ | exact ⟨rfl, _, Eq.trans (World.drewN_drewN _ _ _) (congrArg (World.drewN _) (Nat.add_assoc _ _ _))⟩); have p106 : 0 ≤ (9 : Int) := (by omega); have q106 : 9 < (l0.length : Int) := od; obtain ⟨ad106, e106, hx106_0⟩ := Kd.at_int HR0.out 9 p106 q106; cases e106; (try simp only [show (9 : Int).toNat = 9 from rfl, Nat.reduceMul, Nat.reduceEqDiff, Go.Addr.add, ↓reduceIte] at hx106_0); have qi106 : (9 < l0.length) = True := eq_true (by omega); (try rw [show ((9 : Int)).toNat = 9 from rfl] at hx106_0); replace p106 := eq_true p106; replace q106 := eq_true q106; have p107 : 0 ≤ (9 : Int) := (by omega); have q107 : 9 < (l0.length : Int) := od; obtain ⟨ad107, e107, hx107_0⟩ := Kd.at_int HR0.out 9 p107 q107; obtain rfl : ad106 = ad107 := (by injection e107); (try simp only [show (9 : Int).toNat = 9 from rfl, Nat.reduceMul, Nat.reduceEqDiff, Go.Addr.add, ↓reduceIte] at hx107_0); have qi107 : (9 < l0.length) = True := eq_true (by omega); (try rw [show ((9 : Int)).toNat = 9 from rfl] at hx107_0); replace p107 := eq_true p107; replace q107 := eq_true q107)))
  go_ret2
  exact ⟨by first | rfl | (simp; done) | (simp [*]; done), by repeat (first | exact Drawn0.refl _ | apply Drawn0.step)⟩
 rw [if_pos c3] at H
 have c3b0 : decide ((wrap64 (7 * (l0.length : Int))) < 64) = true := decide_eq_true c3
 clear c3
 obtain ⟨ji4, hji4⟩ : ∃ j_ : Int, (wrap64 ((wrap64 (7 * (l0.length : Int))) - 1)) = j_ := ⟨_, rfl⟩
 replace H : (if 0 ≤ (ji4) then (if (Go.bits .and .u64 (shr .u64 t101 (ji4)) 1) = 1 then (if 0 ≤ (wrap64 (7 * (l0.length : Int))) then (if (l0.length : Int) < 10 then (some (wrap64 (Go.bits .or .u64 t101 (shl .u64 18446744073709551615 (wrap64 (7 * (l0.length : Int))))), true)) else (if 9 < (l0.length : Int) then (if (rd l0 9) = 0 then (some (wrap64 (Go.bits .or .u64 t101 (shl .u64 18446744073709551615 (wrap64 (7 * (l0.length : Int))))), true)) else (some (wrap64 (Go.bits .or .u64 t101 (shl .u64 18446744073709551615 (wrap64 (7 * (l0.length : Int))))), ((rd l0 9) == 127)))) else (none))) else (none)) else (if (l0.length : Int) < 10 then (some (wrap64 (t101), true)) else (if 9 < (l0.length : Int) then (if (rd l0 9) = 0 then (some (wrap64 (t101), true)) else (some (wrap64 (t101), ((rd l0 9) == 127)))) else (none)))) else (none)) = some (r1, r2) := by first | (rw [hji4] at H; exact H) | (simp only [hji4] at H ⊢; exact H)
 (try rw [hji4] at A2)
 have hji4w : (IntKind.i64.wrap ((wrap64 (7 * (l0.length : Int))) - 1)) = ji4 := (i64_w _).trans hji4
 by_cases c5 : 0 ≤ (ji4)
 rotate_left
 ·
  rw [if_neg c5] at H
  exact absurd H (by simp)
 rw [if_pos c5] at H
 have c5b0 := eq_true c5
 have c5b1 : decide (0 ≤ (ji4)) = true := decide_eq_true c5
 clear c5
 obtain ⟨ji6, hji6⟩ : ∃ j_ : Int, (shr .u64 t101 (ji4)) = j_ := ⟨_, rfl⟩
 replace H : (if (Go.bits .and .u64 (ji6) 1) = 1 then (if 0 ≤ (wrap64 (7 * (l0.length : Int))) then (if (l0.length : Int) < 10 then (some (wrap64 (Go.bits .or .u64 t101 (shl .u64 18446744073709551615 (wrap64 (7 * (l0.length : Int))))), true)) else (if 9 < (l0.length : Int) then (if (rd l0 9) = 0 then (some (wrap64 (Go.bits .or .u64 t101 (shl .u64 18446744073709551615 (wrap64 (7 * (l0.length : Int))))), true)) else (some (wrap64 (Go.bits .or .u64 t101 (shl .u64 18446744073709551615 (wrap64 (7 * (l0.length : Int))))), ((rd l0 9) == 127)))) else (none))) else (none)) else (if (l0.length : Int) < 10 then (some (wrap64 (t101), true)) else (if 9 < (l0.length : Int) then (if (rd l0 9) = 0 then (some (wrap64 (t101), true)) else (some (wrap64 (t101), ((rd l0 9) == 127)))) else (none)))) = some (r1, r2) := by first | (rw [hji6] at H; exact H) | (simp only [hji6] at H ⊢; exact H)
 (try rw [hji6] at A2)
 have hji6_ : (t101 / 2 ^ min (ji4).toNat 64) = ji6 := hji6
 have hji6z : (ji4) ≤ 64 → (t101 / 2 ^ (ji4).toNat) = ji6 := shr_small hji6
 by_cases c7 : (Go.bits .and .u64 (ji6) 1) = 1
 rotate_left
 ·
  rw [if_neg c7] at H
  have c7b0 : ((Go.bits .and .u64 (ji6) 1) == 1) = false := beq_eq_false_iff_ne.mpr c7
  have c7b1 : ((Go.bits .and .u64 (ji6) 1) != 1) = true := bne_iff_ne.mpr c7
  by_cases c14 : (l0.length : Int) < 10
  ·
   rw [if_pos c14] at H
   have c14b0 : decide ((l0.length : Int) < 10) = true := decide_eq_true c14
   have c14b1 : decide (l0.length < 10) = true := decide_eq_true (by omega)
   clear c14
   simp only [Option.some.injEq, Prod.mk.injEq] at H
   obtain ⟨rfl, rfl⟩ := H
   go_enter Try.func69, Try.ntmps69
   go_wp2_with (first | (go_at_call 70; (with_reducible refine (leb_joined.calls k _ _ l0 t101 _ ?side1 ?side2 A2.out).mono ?_); (case side1 => exact Kd.C_o HR0.out); (case side2 => exact HC0.out); rintro e w' ⟨rfl, ⟨nd, rfl⟩⟩; (try first | exact ⟨rfl, _, World.drewN_drewN _ _ _⟩ | exact ⟨rfl, _, Eq.trans (World.drewN_drewN _ _ _) (congrArg (World.drewN _) (Nat.add_assoc _ _ _))⟩)))
   repeat (go_quiet (first | (go_at_call 70; (with_reducible refine (leb_joined.calls k _ _ l0 t101 _ ?side1 ?side2 A2.out).mono ?_); (case side1 => exact Kd.C_o HR0.out); (case side2 => exact HC0.out); rintro e w' ⟨rfl, ⟨nd, rfl⟩⟩; (try first | exact ⟨rfl, _, World.drewN_drewN _ _ _⟩ | exact ⟨rfl, _, Eq.trans (World.drewN_drewN _ _ _) (congrArg (World.drewN _) (Nat.add_assoc _ _ _))⟩))); try go_wp2_with (first | (go_at_call 70; (with_reducible refine (leb_joined.calls k _ _ l0 t101 _ ?side1 ?side2 A2.out).mono ?_); (case side1 => exact Kd.C_o HR0.out); (case side2 => exact HC0.out); rintro e w' ⟨rfl, ⟨nd, rfl⟩⟩; (try first | exact ⟨rfl, _, World.drewN_drewN _ _ _⟩ | exact ⟨rfl, _, Eq.trans (World.drewN_drewN _ _ _) (congrArg (World.drewN _) (Nat.add_assoc _ _ _))⟩))))
   go_ret2
   exact ⟨by first | rfl | (simp; done) | (simp only [← hji4, ← hji6] <;> (first | rfl | simp)) | (simp [*]; done), by repeat (first | exact Drawn0.refl _ | apply Drawn0.step)⟩
  rw [if_neg c14] at H
  have c14b0 : decide ((l0.length : Int) < 10) = false := decide_eq_false c14
  have c14b1 : decide (l0.length < 10) = false := decide_eq_false (by omega)
  clear c14
  by_cases c15 : 9 < (l0.length : Int)
  rotate_left
  ·
   rw [if_neg c15] at H
   exact absurd H (by simp)
  rw [if_pos c15] at H
  have c15b0 : decide (9 < (l0.length : Int)) = true := decide_eq_true c15
  have c15b1 : decide (9 < l0.length) = true := decide_eq_true (by omega)
  clear c15
  by_cases c16 : (rd l0 9) = 0
  ·
   rw [if_pos c16] at H
   have c16b0 : ((rd l0 9) == 0) = true := beq_iff_eq.mpr c16
   have c16b1 : ((rd l0 9) != 0) = false := bne_eq_false_iff_eq.mpr c16
   clear c16
   simp only [Option.some.injEq, Prod.mk.injEq] at H
   obtain ⟨rfl, rfl⟩ := H
   go_enter Try.func69, Try.ntmps69
   go_wp2_with (first | (go_at_call 70; (with_reducible refine (leb_joined.calls k _ _ l0 t101 _ ?side1 ?side2 A2.out).mono ?_); (case side1 => exact Kd.C_o HR0.out); (case side2 => exact HC0.out); rintro e w' ⟨rfl, ⟨nd, rfl⟩⟩; (try first | exact ⟨rfl, _, World.drewN_drewN _ _ _⟩ | exact ⟨rfl, _, Eq.trans (World.drewN_drewN _ _ _) (congrArg (World.drewN _) (Nat.add_assoc _ _ _))⟩); have p104 : 0 ≤ (9 : Int) := (by omega); have q104 : 9 < (l0.length : Int) := od; obtain ⟨ad104, e104, hx104_0⟩ := Kd.at_int HR0.out 9 p104 q104; cases e104; (try simp only [show (9 : Int).toNat = 9 from rfl, Nat.reduceMul, Nat.reduceEqDiff, Go.Addr.add, ↓reduceIte] at hx104_0); have qi104 : (9 < l0.length) = True := eq_true (by omega); (try rw [show ((9 : Int)).toNat = 9 from rfl] at hx104_0); replace p104 := eq_true p104; replace q104 := eq_true q104))
   repeat (go_quiet (first | (go_at_call 70; (with_reducible refine (leb_joined.calls k _ _ l0 t101 _ ?side1 ?side2 A2.out).mono ?_); (case side1 => exact Kd.C_o HR0.out); (case side2 => exact HC0.out); rintro e w' ⟨rfl, ⟨nd, rfl⟩⟩; (try first | exact ⟨rfl, _, World.drewN_drewN _ _ _⟩ | exact ⟨rfl, _, Eq.trans (World.drewN_drewN _ _ _) (congrArg (World.drewN _) (Nat.add_assoc _ _ _))⟩); have p104 : 0 ≤ (9 : Int) := (by omega); have q104 : 9 < (l0.length : Int) := od; obtain ⟨ad104, e104, hx104_0⟩ := Kd.at_int HR0.out 9 p104 q104; cases e104; (try simp only [show (9 : Int).toNat = 9 from rfl, Nat.reduceMul, Nat.reduceEqDiff, Go.Addr.add, ↓reduceIte] at hx104_0); have qi104 : (9 < l0.length) = True := eq_true (by omega); (try rw [show ((9 : Int)).toNat = 9 from rfl] at hx104_0); replace p104 := eq_true p104; replace q104 := eq_true q104)); try go_wp2_with (first | (go_at_call 70; (with_reducible refine (leb_joined.calls k _ _ l0 t101 _ ?side1 ?side2 A2.out).mono ?_); (case side1 => exact Kd.C_o HR0.out); (case side2 => exact HC0.out); rintro e w' ⟨rfl, ⟨nd, rfl⟩⟩; (try first | exact ⟨rfl, _, World.drewN_drewN _ _ _⟩ | exact ⟨rfl, _, Eq.trans (World.drewN_drewN _ _ _) (congrArg (World.drewN _) (Nat.add_assoc _ _ _))⟩); have p104 : 0 ≤ (9 : Int) := (by omega); have q104 : 9 < (l0.length : Int) := od; obtain ⟨ad104, e104, hx104_0⟩ := Kd.at_int HR0.out 9 p104 q104; cases e104; (try simp only [show (9 : Int).toNat = 9 from rfl, Nat.reduceMul, Nat.reduceEqDiff, Go.Addr.add, ↓reduceIte] at hx104_0); have qi104 : (9 < l0.length) = True := eq_true (by omega); (try rw [show ((9 : Int)).toNat = 9 from rfl] at hx104_0); replace p104 := eq_true p104; replace q104 := eq_true q104)))
   go_ret2
   exact ⟨by first | rfl | (simp; done) | (simp only [← hji4, ← hji6] <;> (first | rfl | simp)) | (simp [*]; done), by repeat (first | exact Drawn0.refl _ | apply Drawn0.step)⟩
  rw [if_neg c16] at H
  have c16b0 : ((rd l0 9) == 0) = false := beq_eq_false_iff_ne.mpr c16
  have c16b1 : ((rd l0 9) != 0) = true := bne_iff_ne.mpr c16
  simp only [Option.some.injEq, Prod.mk.injEq] at H
  obtain ⟨rfl, rfl⟩ := H
  go_enter Try.func69, Try.ntmps69
  go_wp2_with (first | (go_at_call 70; (with_reducible refine (leb_joined.calls k _ _ l0 t101 _ ?side1 ?side2 A2.out).mono ?_); (case side1 => exact Kd.C_o HR0.out); (case side2 => exact HC0.out); rintro e w' ⟨rfl, ⟨nd, rfl⟩⟩; (try first | exact ⟨rfl, _, World.drewN_drewN _ _ _⟩ | exact ⟨rfl, _, Eq.trans (World.drewN_drewN _ _ _) (congrArg (World.drewN _) (Nat.add_assoc _ _ _))⟩); have p104 : 0 ≤ (9 : Int) := (by omega); have q104 : 9 < (l0.length : Int) := od; obtain ⟨ad104, e104, hx104_0⟩ := Kd.at_int HR0.out 9 p104 q104; cases e104; (try simp only [show (9 : Int).toNat = 9 from rfl, Nat.reduceMul, Nat.reduceEqDiff, Go.Addr.add, ↓reduceIte] at hx104_0); have qi104 : (9 < l0.length) = True := eq_true (by omega); (try rw [show ((9 : Int)).toNat = 9 from rfl] at hx104_0); replace p104 := eq_true p104; replace q104 := eq_true q104; have p105 : 0 ≤ (9 : Int) := (by omega); have q105 : 9 < (l0.length : Int) := od; obtain ⟨ad105, e105, hx105_0⟩ := Kd.at_int HR0.out 9 p105 q105; obtain rfl : ad104 = ad105 := (by injection e105); (try simp only [show (9 : Int).toNat = 9 from rfl, Nat.reduceMul, Nat.reduceEqDiff, Go.Addr.add, ↓reduceIte] at hx105_0); have qi105 : (9 < l0.length) = True := eq_true (by omega); (try rw [show ((9 : Int)).toNat = 9 from rfl] at hx105_0); replace p105 := eq_true p105; replace q105 := eq_true q105))
  repeat (go_quiet (first | (go_at_call 70; (with_reducible refine (leb_joined.calls k _ _ l0 t101 _ ?side1 ?side2 A2.out).mono ?_); (case side1 => exact Kd.C_o HR0.out); (case side2 => exact HC0.out); rintro e w' ⟨rfl, ⟨nd, rfl⟩⟩; (try first | exact ⟨rfl, _, World.drewN_drewN _ _ _⟩ | exact ⟨rfl, _, Eq.trans (World.drewN_drewN _ _ _) (congrArg (World.drewN _) (Nat.add_assoc _ _ _))⟩); have p104 : 0 ≤ (9 : Int) := (by omega); have q104 : 9 < (l0.length : Int) := od; obtain ⟨ad104, e104, hx104_0⟩ := Kd.at_int HR0.out 9 p104 q104; cases e104; (try simp only [show (9 : Int).toNat = 9 from rfl, Nat.reduceMul, Nat.reduceEqDiff, Go.Addr.add, ↓reduceIte] at hx104_0); have qi104 : (9 < l0.length) = True := eq_true (by omega); (try rw [show ((9 : Int)).toNat = 9 from rfl] at hx104_0); replace p104 := eq_true p104; replace q104 := eq_true q104; have p105 : 0 ≤ (9 : Int) := (by omega); have q105 : 9 < (l0.length : Int) := od; obtain ⟨ad105, e105, hx105_0⟩ := Kd.at_int HR0.out 9 p105 q105; obtain rfl : ad104 = ad105 := (by injection e105); (try simp only [show (9 : Int).toNat = 9 from rfl, Nat.reduceMul, Nat.reduceEqDiff, Go.Addr.add, ↓reduceIte] at hx105_0); have qi105 : (9 < l0.length) = True := eq_true (by omega); (try rw [show ((9 : Int)).toNat = 9 from rfl] at hx105_0); replace p105 := eq_true p105; replace q105 := eq_true q105)); try go_wp2_with (first | (go_at_call 70; (with_reducible refine (leb_joined.calls k _ _ l0 t101 _ ?side1 ?side2 A2.out).mono ?_); (case side1 => exact Kd.C_o HR0.out); (case side2 => exact HC0.out); rintro e w' ⟨rfl, ⟨nd, rfl⟩⟩; (try first | exact ⟨rfl, _, World.drewN_drewN _ _ _⟩ | exact ⟨rfl, _, Eq.trans (World.drewN_drewN _ _ _) (congrArg (World.drewN _) (Nat.add_assoc _ _ _))⟩); have p104 : 0 ≤ (9 : Int) := (by omega); have q104 : 9 < (l0.length : Int) := od; obtain ⟨ad104, e104, hx104_0⟩ := Kd.at_int HR0.out 9 p104 q104; cases e104; (try simp only [show (9 : Int).toNat = 9 from rfl, Nat.reduceMul, Nat.reduceEqDiff, Go.Addr.add, ↓reduceIte] at hx104_0); have qi104 : (9 < l0.length) = True := eq_true (by omega); (try rw [show ((9 : Int)).toNat = 9 from rfl] at hx104_0); replace p104 := eq_true p104; replace q104 := eq_true q104; have p105 : 0 ≤ (9 : Int) := (by omega); have q105 : 9 < (l0.length : Int) := od; obtain ⟨ad105, e105, hx105_0⟩ := Kd.at_int HR0.out 9 p105 q105; obtain rfl : ad104 = ad105 := (by injection e105); (try simp only [show (9 : Int).toNat = 9 from rfl, Nat.reduceMul, Nat.reduceEqDiff, Go.Addr.add, ↓reduceIte] at hx105_0); have qi105 : (9 < l0.length) = True := eq_true (by omega); (try rw [show ((9 : Int)).toNat = 9 from rfl] at hx105_0); replace p105 := eq_true p105; replace q105 := eq_true q105)))
  go_ret2
  exact ⟨by first | rfl | (simp; done) | (simp only [← hji4, ← hji6] <;> (first | rfl | simp)) | (simp [*]; done), by repeat (first | exact Drawn0.refl _ | apply Drawn0.step)⟩
 rw [if_pos c7] at H
 have c7b0 : ((Go.bits .and .u64 (ji6) 1) == 1) = true := beq_iff_eq.mpr c7
 have c7b1 : ((Go.bits .and .u64 (ji6) 1) != 1) = false := bne_eq_false_iff_eq.mpr c7
 clear c7
 obtain ⟨ji8, hji8⟩ : ∃ j_ : Int, (wrap64 (7 * (l0.length : Int))) = j_ := ⟨_, rfl⟩
 replace H : (if 0 ≤ (ji8) then (if (l0.length : Int) < 10 then (some (wrap64 (Go.bits .or .u64 t101 (shl .u64 18446744073709551615 (ji8))), true)) else (if 9 < (l0.length : Int) then (if (rd l0 9) = 0 then (some (wrap64 (Go.bits .or .u64 t101 (shl .u64 18446744073709551615 (ji8))), true)) else (some (wrap64 (Go.bits .or .u64 t101 (shl .u64 18446744073709551615 (ji8))), ((rd l0 9) == 127)))) else (none))) else (none)) = some (r1, r2) := by first | (rw [hji8] at H; exact H) | (simp only [hji8] at H ⊢; exact H)
 (try rw [hji8] at c3b0)
 (try rw [hji8] at A2)
 have hji8w : (IntKind.i64.wrap (7 * (l0.length : Int))) = ji8 := (i64_w _).trans hji8
 (try (have hji8ji4 : (wrap64 (ji8 - 1)) = ji4 := by (rw [← hji8]; exact hji4)))
 (try (have hji8ji4w : (IntKind.i64.wrap (ji8 - 1)) = ji4 := (i64_w _).trans hji8ji4))
 by_cases c9 : 0 ≤ (ji8)
 rotate_left
 ·
  rw [if_neg c9] at H
  exact absurd H (by simp)
 rw [if_pos c9] at H
 have c9b0 := eq_true c9
 have c9b1 : decide (0 ≤ (ji8)) = true := decide_eq_true c9
 clear c9
 obtain ⟨ji10, hji10⟩ : ∃ j_ : Int, (shl .u64 18446744073709551615 (ji8)) = j_ := ⟨_, rfl⟩
 replace H : (if (l0.length : Int) < 10 then (some (wrap64 (Go.bits .or .u64 t101 (ji10)), true)) else (if 9 < (l0.length : Int) then (if (rd l0 9) = 0 then (some (wrap64 (Go.bits .or .u64 t101 (ji10)), true)) else (some (wrap64 (Go.bits .or .u64 t101 (ji10)), ((rd l0 9) == 127)))) else (none))) = some (r1, r2) := by first | (rw [hji10] at H; exact H) | (simp only [hji10] at H ⊢; exact H)
 (try rw [hji10] at A2)
 have hji10_ : (IntKind.u64.wrap (18446744073709551615 * 2 ^ min (ji8).toNat 64)) = ji10 := hji10
 have hji10z : (ji8) ≤ 64 → (IntKind.u64.wrap (18446744073709551615 * 2 ^ (ji8).toNat)) = ji10 := shl_small hji10
 by_cases c11 : (l0.length : Int) < 10
 ·
  rw [if_pos c11] at H
  have c11b0 : decide ((l0.length : Int) < 10) = true := decide_eq_true c11
  have c11b1 : decide (l0.length < 10) = true := decide_eq_true (by omega)
  clear c11
  simp only [Option.some.injEq, Prod.mk.injEq] at H
  obtain ⟨rfl, rfl⟩ := H
  go_enter Try.func69, Try.ntmps69
  go_wp2_with (first | (go_at_call 70; (with_reducible refine (leb_joined.calls k _ _ l0 t101 _ ?side1 ?side2 A2.out).mono ?_); (case side1 => exact Kd.C_o HR0.out); (case side2 => exact HC0.out); rintro e w' ⟨rfl, ⟨nd, rfl⟩⟩; (try first | exact ⟨rfl, _, World.drewN_drewN _ _ _⟩ | exact ⟨rfl, _, Eq.trans (World.drewN_drewN _ _ _) (congrArg (World.drewN _) (Nat.add_assoc _ _ _))⟩)))
  repeat (go_quiet (first | (go_at_call 70; (with_reducible refine (leb_joined.calls k _ _ l0 t101 _ ?side1 ?side2 A2.out).mono ?_); (case side1 => exact Kd.C_o HR0.out); (case side2 => exact HC0.out); rintro e w' ⟨rfl, ⟨nd, rfl⟩⟩; (try first | exact ⟨rfl, _, World.drewN_drewN _ _ _⟩ | exact ⟨rfl, _, Eq.trans (World.drewN_drewN _ _ _) (congrArg (World.drewN _) (Nat.add_assoc _ _ _))⟩))); try go_wp2_with (first | (go_at_call 70; (with_reducible refine (leb_joined.calls k _ _ l0 t101 _ ?side1 ?side2 A2.out).mono ?_); (case side1 => exact Kd.C_o HR0.out); (case side2 => exact HC0.out); rintro e w' ⟨rfl, ⟨nd, rfl⟩⟩; (try first | exact ⟨rfl, _, World.drewN_drewN _ _ _⟩ | exact ⟨rfl, _, Eq.trans (World.drewN_drewN _ _ _) (congrArg (World.drewN _) (Nat.add_assoc _ _ _))⟩))))
  go_ret2
  exact ⟨by first | rfl | (simp; done) | (simp only [← hji4, ← hji6, ← hji8, ← hji10] <;> (first | rfl | simp)) | (simp [*]; done), by repeat (first | exact Drawn0.refl _ | apply Drawn0.step)⟩
 rw [if_neg c11] at H
 have c11b0 : decide ((l0.length : Int) < 10) = false := decide_eq_false c11
 have c11b1 : decide (l0.length < 10) = false := decide_eq_false (by omega)
 clear c11
 by_cases c12 : 9 < (l0.length : Int)
 rotate_left
 ·
  rw [if_neg c12] at H
  exact absurd H (by simp)
 rw [if_pos c12] at H
 have c12b0 : decide (9 < (l0.length : Int)) = true := decide_eq_true c12
 have c12b1 : decide (9 < l0.length) = true := decide_eq_true (by omega)
 clear c12
 by_cases c13 : (rd l0 9) = 0
 ·
  rw [if_pos c13] at H
  have c13b0 : ((rd l0 9) == 0) = true := beq_iff_eq.mpr c13
  have c13b1 : ((rd l0 9) != 0) = false := bne_eq_false_iff_eq.mpr c13
  clear c13
  simp only [Option.some.injEq, Prod.mk.injEq] at H
  obtain ⟨rfl, rfl⟩ := H
  go_enter Try.func69, Try.ntmps69
  go_wp2_with (first | (go_at_call 70; (with_reducible refine (leb_joined.calls k _ _ l0 t101 _ ?side1 ?side2 A2.out).mono ?_); (case side1 => exact Kd.C_o HR0.out); (case side2 => exact HC0.out); rintro e w' ⟨rfl, ⟨nd, rfl⟩⟩; (try first | exact ⟨rfl, _, World.drewN_drewN _ _ _⟩ | exact ⟨rfl, _, Eq.trans (World.drewN_drewN _ _ _) (congrArg (World.drewN _) (Nat.add_assoc _ _ _))⟩); have p102 : 0 ≤ (9 : Int) := (by omega); have q102 : 9 < (l0.length : Int) := od; obtain ⟨ad102, e102, hx102_0⟩ := Kd.at_int HR0.out 9 p102 q102; cases e102; (try simp only [show (9 : Int).toNat = 9 from rfl, Nat.reduceMul, Nat.reduceEqDiff, Go.Addr.add, ↓reduceIte] at hx102_0); have qi102 : (9 < l0.length) = True := eq_true (by omega); (try rw [show ((9 : Int)).toNat = 9 from rfl] at hx102_0); replace p102 := eq_true p102; replace q102 := eq_true q102))
  repeat (go_quiet (first | (go_at_call 70; (with_reducible refine (leb_joined.calls k _ _ l0 t101 _ ?side1 ?side2 A2.out).mono ?_); (case side1 => exact Kd.C_o HR0.out); (case side2 => exact HC0.out); rintro e w' ⟨rfl, ⟨nd, rfl⟩⟩; (try first | exact ⟨rfl, _, World.drewN_drewN _ _ _⟩ | exact ⟨rfl, _, Eq.trans (World.drewN_drewN _ _ _) (congrArg (World.drewN _) (Nat.add_assoc _ _ _))⟩); have p102 : 0 ≤ (9 : Int) := (by omega); have q102 : 9 < (l0.length : Int) := od; obtain ⟨ad102, e102, hx102_0⟩ := Kd.at_int HR0.out 9 p102 q102; cases e102; (try simp only [show (9 : Int).toNat = 9 from rfl, Nat.reduceMul, Nat.reduceEqDiff, Go.Addr.add, ↓reduceIte] at hx102_0); have qi102 : (9 < l0.length) = True := eq_true (by omega); (try rw [show ((9 : Int)).toNat = 9 from rfl] at hx102_0); replace p102 := eq_true p102; replace q102 := eq_true q102)); try go_wp2_with (first | (go_at_call 70; (with_reducible refine (leb_joined.calls k _ _ l0 t101 _ ?side1 ?side2 A2.out).mono ?_); (case side1 => exact Kd.C_o HR0.out); (case side2 => exact HC0.out); rintro e w' ⟨rfl, ⟨nd, rfl⟩⟩; (try first | exact ⟨rfl, _, World.drewN_drewN _ _ _⟩ | exact ⟨rfl, _, Eq.trans (World.drewN_drewN _ _ _) (congrArg (World.drewN _) (Nat.add_assoc _ _ _))⟩); have p102 : 0 ≤ (9 : Int) := (by omega); have q102 : 9 < (l0.length : Int) := od; obtain ⟨ad102, e102, hx102_0⟩ := Kd.at_int HR0.out 9 p102 q102; cases e102; (try simp only [show (9 : Int).toNat = 9 from rfl, Nat.reduceMul, Nat.reduceEqDiff, Go.Addr.add, ↓reduceIte] at hx102_0); have qi102 : (9 < l0.length) = True := eq_true (by omega); (try rw [show ((9 : Int)).toNat = 9 from rfl] at hx102_0); replace p102 := eq_true p102; replace q102 := eq_true q102)))
  go_ret2
  exact ⟨by first | rfl | (simp; done) | (simp only [← hji4, ← hji6, ← hji8, ← hji10] <;> (first | rfl | simp)) | (simp [*]; done), by repeat (first | exact Drawn0.refl _ | apply Drawn0.step)⟩
 rw [if_neg c13] at H
 have c13b0 : ((rd l0 9) == 0) = false := beq_eq_false_iff_ne.mpr c13
 have c13b1 : ((rd l0 9) != 0) = true := bne_iff_ne.mpr c13
 simp only [Option.some.injEq, Prod.mk.injEq] at H
 obtain ⟨rfl, rfl⟩ := H
 go_enter Try.func69, Try.ntmps69
 go_wp2_with (first | (go_at_call 70; (with_reducible refine (leb_joined.calls k _ _ l0 t101 _ ?side1 ?side2 A2.out).mono ?_); (case side1 => exact Kd.C_o HR0.out); (case side2 => exact HC0.out); rintro e w' ⟨rfl, ⟨nd, rfl⟩⟩; (try first | exact ⟨rfl, _, World.drewN_drewN _ _ _⟩ | exact ⟨rfl, _, Eq.trans (World.drewN_drewN _ _ _) (congrArg (World.drewN _) (Nat.add_assoc _ _ _))⟩); have p102 : 0 ≤ (9 : Int) := (by omega); have q102 : 9 < (l0.length : Int) := od; obtain ⟨ad102, e102, hx102_0⟩ := Kd.at_int HR0.out 9 p102 q102; cases e102; (try simp only [show (9 : Int).toNat = 9 from rfl, Nat.reduceMul, Nat.reduceEqDiff, Go.Addr.add, ↓reduceIte] at hx102_0); have qi102 : (9 < l0.length) = True := eq_true (by omega); (try rw [show ((9 : Int)).toNat = 9 from rfl] at hx102_0); replace p102 := eq_true p102; replace q102 := eq_true q102; have p103 : 0 ≤ (9 : Int) := (by omega); have q103 : 9 < (l0.length : Int) := od; obtain ⟨ad103, e103, hx103_0⟩ := Kd.at_int HR0.out 9 p103 q103; obtain rfl : ad102 = ad103 := (by injection e103); (try simp only [show (9 : Int).toNat = 9 from rfl, Nat.reduceMul, Nat.reduceEqDiff, Go.Addr.add, ↓reduceIte] at hx103_0); have qi103 : (9 < l0.length) = True := eq_true (by omega); (try rw [show ((9 : Int)).toNat = 9 from rfl] at hx103_0); replace p103 := eq_true p103; replace q103 := eq_true q103))
 repeat (go_quiet (first | (go_at_call 70; (with_reducible refine (leb_joined.calls k _ _ l0 t101 _ ?side1 ?side2 A2.out).mono ?_); (case side1 => exact Kd.C_o HR0.out); (case side2 => exact HC0.out); rintro e w' ⟨rfl, ⟨nd, rfl⟩⟩; (try first | exact ⟨rfl, _, World.drewN_drewN _ _ _⟩ | exact ⟨rfl, _, Eq.trans (World.drewN_drewN _ _ _) (congrArg (World.drewN _) (Nat.add_assoc _ _ _))⟩); have p102 : 0 ≤ (9 : Int) := (by omega); have q102 : 9 < (l0.length : Int) := od; obtain ⟨ad102, e102, hx102_0⟩ := Kd.at_int HR0.out 9 p102 q102; cases e102; (try simp only [show (9 : Int).toNat = 9 from rfl, Nat.reduceMul, Nat.reduceEqDiff, Go.Addr.add, ↓reduceIte] at hx102_0); have qi102 : (9 < l0.length) = True := eq_true (by omega); (try rw [show ((9 : Int)).toNat = 9 from rfl] at hx102_0); replace p102 := eq_true p102; replace q102 := eq_true q102; have p103 : 0 ≤ (9 : Int) := (by omega); have q103 : 9 < (l0.length : Int) := od; obtain ⟨ad103, e103, hx103_0⟩ := Kd.at_int HR0.out 9 p103 q103; obtain rfl : ad102 = ad103 := (by injection e103); (try simp only [show (9 : Int).toNat = 9 from rfl, Nat.reduceMul, Nat.reduceEqDiff, Go.Addr.add, ↓reduceIte] at hx103_0); have qi103 : (9 < l0.length) = True := eq_true (by omega); (try rw [show ((9 : Int)).toNat = 9 from rfl] at hx103_0); replace p103 := eq_true p103; replace q103 := eq_true q103)); try go_wp2_with (first | (go_at_call 70; (with_reducible refine (leb_joined.calls k _ _ l0 t101 _ ?side1 ?side2 A2.out).mono ?_); (case side1 => exact Kd.C_o HR0.out); (case side2 => exact HC0.out); rintro e w' ⟨rfl, ⟨nd, rfl⟩⟩; (try first | exact ⟨rfl, _, World.drewN_drewN _ _ _⟩ | exact ⟨rfl, _, Eq.trans (World.drewN_drewN _ _ _) (congrArg (World.drewN _) (Nat.add_assoc _ _ _))⟩); have p102 : 0 ≤ (9 : Int) := (by omega); have q102 : 9 < (l0.length : Int) := od; obtain ⟨ad102, e102, hx102_0⟩ := Kd.at_int HR0.out 9 p102 q102; cases e102; (try simp only [show (9 : Int).toNat = 9 from rfl, Nat.reduceMul, Nat.reduceEqDiff, Go.Addr.add, ↓reduceIte] at hx102_0); have qi102 : (9 < l0.length) = True := eq_true (by omega); (try rw [show ((9 : Int)).toNat = 9 from rfl] at hx102_0); replace p102 := eq_true p102; replace q102 := eq_true q102; have p103 : 0 ≤ (9 : Int) := (by omega); have q103 : 9 < (l0.length : Int) := od; obtain ⟨ad103, e103, hx103_0⟩ := Kd.at_int HR0.out 9 p103 q103; obtain rfl : ad102 = ad103 := (by injection e103); (try simp only [show (9 : Int).toNat = 9 from rfl, Nat.reduceMul, Nat.reduceEqDiff, Go.Addr.add, ↓reduceIte] at hx103_0); have qi103 : (9 < l0.length) = True := eq_true (by omega); (try rw [show ((9 : Int)).toNat = 9 from rfl] at hx103_0); replace p103 := eq_true p103; replace q103 := eq_true q103)))
 go_ret2
 exact ⟨by first | rfl | (simp; done) | (simp only [← hji4, ← hji6, ← hji8, ← hji10] <;> (first | rfl | simp)) | (simp [*]; done), by repeat (first | exact Drawn0.refl _ | apply Drawn0.step)⟩
def lebSx (u : Int) (n : Nat) : Int :=
  if 7 * n < 64 ∧ Go.bits .and .u64 (shr .u64 u (7 * (n : Int) - 1)) 1 = 1 then wrap64 (Go.bits .or .u64 u (shl .u64 18446744073709551615 (7 * (n : Int)))) else wrap64 u
def lebReadS (l0 : List Int) (a1 : Int) : Int × Int × Int :=
  match lebAt l0 a1 with
  | .inr er => (0, 0, er)
  | .inl n => if n < 10 ∨ rd (lebCut l0 a1 n) 9 = 0 ∨ rd (lebCut l0 a1 n) 9 = 127 then (lebSx (lebJn (lebCut l0 a1 n) 0 0) n, a1 + n, 0) else (0, 0, 21)
theorem lebS1_some (g : List Int) (n : Nat) (hn : 0 < n) (hn10 : n ≤ 10) (hlen : g.length = n) :
    leb_ReadSleb_1.f 1001 g = some (lebSx (lebJn g 0 0) n, decide (n < 10 ∨ rd g 9 = 0 ∨ rd g 9 = 127)) := by
 unfold leb_ReadSleb_1.f
 rw [lebJoined_some _ (by rw [hlen]; omega), Option.bind_some, hlen]
 have w7 : wrap64 (7 * (n : Int)) = 7 * (n : Int) := by unfold wrap64; omega
 have w71 : wrap64 (7 * (n : Int) - 1) = 7 * (n : Int) - 1 := by unfold wrap64; omega
 rw [w7, w71, if_pos (show 0 ≤ 7 * (n : Int) - 1 by omega), if_pos (show 0 ≤ 7 * (n : Int) by omega)]
 generalize lebJn g 0 0 = u
 by_cases c1 : 7 * n < 64
 ·
  rw [if_pos (show 7 * (n : Int) < 64 by omega)]
  by_cases c2 : Go.bits .and .u64 (shr .u64 u (7 * (n : Int) - 1)) 1 = 1
  ·
   have e : lebSx u n = wrap64 (Go.bits .or .u64 u (shl .u64 18446744073709551615 (7 * (n : Int)))) := if_pos ⟨c1, c2⟩
   rw [if_pos c2, if_pos (show (n : Int) < 10 by omega), e]
   simp [show n < 10 by omega]
  have e : lebSx u n = wrap64 u := if_neg (fun h => c2 h.2)
  rw [if_neg c2, if_pos (show (n : Int) < 10 by omega), e]
  simp [show n < 10 by omega]
 have e : lebSx u n = wrap64 u := if_neg (fun h => c1 h.1)
 rw [if_neg (show ¬ 7 * (n : Int) < 64 by omega), if_neg (show ¬ (n : Int) < 10 by omega), if_pos (show 9 < (n : Int) by omega), e]
 by_cases c3 : rd g 9 = 0
 ·
  rw [if_pos c3]
  simp [c3]
 rw [if_neg c3]
 simp [c3, show ¬ n < 10 by omega]
 rfl
set_option maxHeartbeats 1000000 in
theorem lebReadS_calls (A0 : Option Addr) (c0 : Nat) (l0 : List Int) (a1 : Int) (w : World) (hr0 : Kd.C (Kd.int .u8) w A0 l0.length l0) (hc0 : l0.length ≤ c0) :
    Calls Try.prog 71 #[.agg #[.func (.func 69) #[] #[]], .slice A0 l0.length c0, .int .i64 a1] w fun e w' =>
      e = .returned (.tuple #[.int .i64 (lebReadS l0 a1).1, .int .i64 (lebReadS l0 a1).2.1, .int .i64 (lebReadS l0 a1).2.2]) ∧ Below w.heap.size w w' := by
 have HR0 := am hr0
 have hb0 := Below.refl w.heap.size w
 cases hL : lebAt l0 a1 with
 | inr er =>
  have hf : lebReadS l0 a1 = (0, 0, er) := by unfold lebReadS; rw [hL]
  rw [hf]
  have her := lebAt_err hL
  have HL := Lib.hid hL
  clear hL hf hr0
  have hu := Try.underlying122
  rcases her with rfl | rfl
  all_goals
    go_enter Try.func71, Try.ntmps71
    go_wp2_with fail
    refine (lebGroups_calls A0 c0 l0 a1 _ (Kd.C_alloc HR0.out _) hc0).mono ?_
    rintro e w' ⟨hg, rfl⟩
    obtain rfl := lebGrpOut_err HL.out hg
    clear hg
    go_wp2
    go_ret3
    exact ⟨rfl, below_alloc hb0 _⟩
 | inl n =>
  obtain ⟨h0, hn, hn10, hln⟩ := lebAt_ok hL
  have hf : lebReadS l0 a1 = if n < 10 ∨ rd (lebCut l0 a1 n) 9 = 0 ∨ rd (lebCut l0 a1 n) 9 = 127 then (lebSx (lebJn (lebCut l0 a1 n) 0 0) n, a1 + n, 0) else (0, 0, 21) := by unfold lebReadS; rw [hL]
  rw [hf]
  have hlen := lebCut_length (l0 := l0) (a1 := a1) hln
  have HLN := Lib.hid hlen
  have hone := lebS1_some _ n hn hn10 hlen
  have HL := Lib.hid hL
  have HF := Lib.hid hf
  have HONE := Lib.hid hone
  clear hL hf hr0 hone hlen
  have hu := Try.underlying122
  generalize lebSx (lebJn (lebCut l0 a1 n) 0 0) n = sx at HONE ⊢
  by_cases hok : n < 10 ∨ rd (lebCut l0 a1 n) 9 = 0 ∨ rd (lebCut l0 a1 n) 9 = 127
  ·
   have HOK := Lib.hid hok
   clear hok
   go_enter Try.func71, Try.ntmps71
   go_wp2_with fail
   refine (lebGroups_calls A0 c0 l0 a1 _ (Kd.C_alloc HR0.out _) hc0).mono ?_
   rintro e w' ⟨hg, rfl⟩
   obtain ⟨ad, rfl, rfl⟩ := lebGrpOut_ok HL.out hg
   clear hg
   have hr1 := lebCut_reads (n := n) HR0.out hc0 hn hln
   go_wp2_with fail
   have hc := leb_ReadSleb_1.calls 1001 (some (ad.add a1.toNat)) (c0 - a1.toNat) (lebCut l0 a1 n) _ _ _ (Kd.C_alloc hr1 (Obj.cells #[Value.func (Fn.func 69) #[] #[]] 122)) (by rw [HLN.out]; omega) HONE.out
   rw [HLN.out] at hc
   refine hc.mono ?_
   clear hc hr1
   rintro e w' ⟨rfl, ⟨nd, rfl⟩⟩
   have hd : decide (n < 10 ∨ rd (lebCut l0 a1 n) 9 = 0 ∨ rd (lebCut l0 a1 n) 9 = 127) = true := decide_eq_true HOK.out
   rw [hd]
   clear hd
   go_wp2
   go_ret3
   refine ⟨?_, by repeat (first | exact hb0 | apply below_alloc | apply pw_below_drewN | apply below_drew1)⟩
   rfl
  have HOK := Lib.hid hok
  clear hok
  go_enter Try.func71, Try.ntmps71
  go_wp2_with fail
  refine (lebGroups_calls A0 c0 l0 a1 _ (Kd.C_alloc HR0.out _) hc0).mono ?_
  rintro e w' ⟨hg, rfl⟩
  obtain ⟨ad, rfl, rfl⟩ := lebGrpOut_ok HL.out hg
  clear hg
  have hr1 := lebCut_reads (n := n) HR0.out hc0 hn hln
  go_wp2_with fail
  have hc := leb_ReadSleb_1.calls 1001 (some (ad.add a1.toNat)) (c0 - a1.toNat) (lebCut l0 a1 n) _ _ _ (Kd.C_alloc hr1 (Obj.cells #[Value.func (Fn.func 69) #[] #[]] 122)) (by rw [HLN.out]; omega) HONE.out
  rw [HLN.out] at hc
  refine hc.mono ?_
  clear hc hr1
  rintro e w' ⟨rfl, ⟨nd, rfl⟩⟩
  have hd : decide (n < 10 ∨ rd (lebCut l0 a1 n) 9 = 0 ∨ rd (lebCut l0 a1 n) 9 = 127) = false := decide_eq_false HOK.out
  rw [hd]
  clear hd
  go_wp2
  go_ret3
  refine ⟨?_, by repeat (first | exact hb0 | apply below_alloc | apply pw_below_drewN | apply below_drew1)⟩
  rfl
def leb_ReadSleb.f (l0 : List Int) (a1 : Int) : Option (Int × Int × Int) := some (lebReadS l0 a1)
set_option maxHeartbeats 1000000 in
theorem leb_ReadSleb.calls (A0 : Option Addr) (c0 : Nat) (l0 : List Int) (a1 : Int) (r1 : Int) (r2 : Int) (r3 : Int) (w : World) (hr0 : Kd.C (Kd.int .u8) w A0 l0.length l0) (hc0 : l0.length ≤ c0) (h : leb_ReadSleb.f l0 a1 = some (r1, r2, r3)) :
    Calls Try.prog 49 #[.slice A0 l0.length c0, .int .i64 a1] w fun e w' => e = .returned (.tuple #[.int .i64 r1, .int .i64 r2, .int .i64 r3]) ∧ Below w.heap.size w w' := by
 have HR0 := am hr0
 have hb0 := Below.refl w.heap.size w
 have HX : Hid (lebReadS l0 a1 = (r1, r2, r3)) := Lib.hid (Option.some.inj h)
 have hu := Try.underlying122
 clear hr0 h
 go_enter Try.func49, Try.ntmps49
 go_wp2_with fail
 have hc := lebReadS_calls A0 c0 l0 a1 _ (Kd.C_alloc HR0.out (Obj.cells #[Value.func (Fn.func 69) #[] #[]] 122)) hc0
 rw [HX.out] at hc
 refine hc.mono ?_
 clear hc
 rintro e w' ⟨rfl, hb1⟩
 have hb2 : Below w.heap.size w w' := below_then (below_alloc hb0 _) (by simp) hb1
 clear hb1
 replace hb2 := am hb2
 go_wp2
 go_ret3
 exact ⟨rfl, hb2.out⟩
mutual
def ehframe_Get.j0 : Nat → Int → Int → Int → Int → Int → Int → Int → Int → Bool → Option (Int × Int × Int)
  | 0, _, _, _, _, _, _, _, _, _ => none
  | k + 1, x1, x3, x4, x10, x11, x12, x14, x106000, x106001 => if x12 = 0 then ((ehframe_near.f k (([x10] : List Int))).bind fun t121 => (if t121 = true then (if x106001 = true then (ehframe_Get.j1 k x1 x3 x4 x10 x11 x14 false) else (ehframe_Get.j1 k x1 x3 x4 x10 x11 x14 (decide (x10 < 0)))) else (ehframe_Get.j1 k x1 x3 x4 x10 x11 x14 true))) else (some (0, 0, x12))
def ehframe_Get.j1 : Nat → Int → Int → Int → Int → Int → Int → Bool → Option (Int × Int × Int)
  | 0, _, _, _, _, _, _, _ => none
  | k + 1, x1, x3, x4, x10, x11, x14, x79 => if x79 = true then (some (0, 0, 11)) else (if x14 = 16 then ((ehframe_near.f k (([wrap64 (x10 + (wrap64 (x3 + x1)))] : List Int))).bind fun t125 => (if t125 = true then (some (wrap64 (x10 + (wrap64 (x3 + x1))), x11, 0)) else (some (0, 0, 11)))) else (if x14 = 48 then ((ehframe_near.f k (([wrap64 (x10 + x4)] : List Int))).bind fun t129 => (if t129 = true then (some (wrap64 (x10 + x4), x11, 0)) else (some (0, 0, 11)))) else ((ehframe_near.f k (([x10] : List Int))).bind fun t133 => (if t133 = true then (some (x10, x11, 0)) else (some (0, 0, 11))))))
end
def ehframe_Get.f (k : Nat) (l0 : List Int) (a1 : Int) (a2 : Int) (a3 : Int) (a4 : Int) : Option (Int × Int × Int) := (ehframe_of.f a2).bind fun bt101 => (if bt101.2.2.2 = true then ((ehframe_near.f k (([a3, a4] : List Int))).bind fun t109 => (if t109 = true then (if bt101.1 > 0 then ((leb_Get.f k l0 a1 bt101.1 bt101.2.1).bind fun bt110 => (ehframe_Get.j0 k a1 a3 a4 bt110.1 (wrap64 (a1 + bt101.1)) bt110.2 bt101.2.2.1 bt101.1 bt101.2.1)) else (if bt101.2.1 = true then ((leb_ReadSleb.f l0 a1).bind fun bt112 => (ehframe_Get.j0 k a1 a3 a4 bt112.1 bt112.2.1 bt112.2.2 bt101.2.2.1 bt101.1 bt101.2.1)) else ((leb_ReadUleb.f l0 a1).bind fun bt115 => (ehframe_Get.j0 k a1 a3 a4 bt115.1 bt115.2.1 bt115.2.2 bt101.2.2.1 bt101.1 bt101.2.1)))) else (some (0, 0, 11)))) else (some (0, 0, 140)))
set_option maxHeartbeats 8000000 in
theorem ehframe_Get.calls (k : Nat) (A0 : Option Addr) (c0 : Nat) (l0 : List Int) (a1 : Int) (a2 : Int) (a3 : Int) (a4 : Int) (r1 : Int) (r2 : Int) (r3 : Int) (w : World) (hr0 : Kd.C (Kd.int .u8) w A0 l0.length l0) (hc0 : l0.length ≤ c0) (h : ehframe_Get.f k l0 a1 a2 a3 a4 = some (r1, r2, r3)) :
    Calls Try.prog 18 #[.slice A0 l0.length c0, .int .i64 a1, .int .i64 a2, .int .i64 a3, .int .i64 a4] w fun e w' => e = .returned (.tuple #[.int .i64 r1, .int .i64 r2, .int .i64 r3]) ∧ Below w.heap.size w w' := by
 have hu76 := Try.underlying76
 have HR0 := am hr0
 have HC0 := am hc0
 clear hr0 hc0
 have HB := am (Below.refl w.heap.size w)
 have H : ((ehframe_of.f a2).bind fun bt101 => (if bt101.2.2.2 = true then ((ehframe_near.f k (([a3, a4] : List Int))).bind fun t109 => (if t109 = true then (if bt101.1 > 0 then ((leb_Get.f k l0 a1 bt101.1 bt101.2.1).bind fun bt110 => (ehframe_Get.j0 k a1 a3 a4 bt110.1 (wrap64 (a1 + bt101.1)) bt110.2 bt101.2.2.1 bt101.1 bt101.2.1)) else (if bt101.2.1 = true then ((leb_ReadSleb.f l0 a1).bind fun bt112 => (ehframe_Get.j0 k a1 a3 a4 bt112.1 bt112.2.1 bt112.2.2 bt101.2.2.1 bt101.1 bt101.2.1)) else ((leb_ReadUleb.f l0 a1).bind fun bt115 => (ehframe_Get.j0 k a1 a3 a4 bt115.1 bt115.2.1 bt115.2.2 bt101.2.2.1 bt101.1 bt101.2.1)))) else (some (0, 0, 11)))) else (some (0, 0, 140)))) = some (r1, r2, r3) := h
 clear h
 replace H := Option.bind_eq_some_iff.mp H
 obtain ⟨⟨t101, t102, t103, t104⟩, A60, H⟩ := H
 replace H : (if t104 = true then ((ehframe_near.f k (([a3, a4] : List Int))).bind fun t109 => (if t109 = true then (if t101 > 0 then ((leb_Get.f k l0 a1 t101 t102).bind fun bt110 => (ehframe_Get.j0 k a1 a3 a4 bt110.1 (wrap64 (a1 + t101)) bt110.2 t103 t101 t102)) else (if t102 = true then ((leb_ReadSleb.f l0 a1).bind fun bt112 => (ehframe_Get.j0 k a1 a3 a4 bt112.1 bt112.2.1 bt112.2.2 t103 t101 t102)) else ((leb_ReadUleb.f l0 a1).bind fun bt115 => (ehframe_Get.j0 k a1 a3 a4 bt115.1 bt115.2.1 bt115.2.2 t103 t101 t102)))) else (some (0, 0, 11)))) else (some (0, 0, 140))) = some (r1, r2, r3) := H
 have A6 := am A60
 clear A60
 by_cases c7 : t104 = true
 rotate_left
 ·
  replace c7 := Bool.eq_false_iff.mpr c7
  subst c7
  replace H : (some (0, 0, 140)) = some (r1, r2, r3) := by rw [if_neg (show ¬ (false = true) by decide)] at H; exact H
  simp only [Option.some.injEq, Prod.mk.injEq] at H
  obtain ⟨rfl, rfl, rfl⟩ := H
  go_enter Try.func18, Try.ntmps18
  go_wp2_with (first | ((with_reducible refine gate_callee (f := 29) rfl ?_); refine goesL_ (some 18) rfl rfl Try.func29 (by kernel_rfl) rfl #[.int .i64 a2] rfl (by simp only [ml]; try rfl) ?_; (with_reducible refine (ehframe_of.calls a2 t101 t102 t103 false _ A6.out).mono ?_); rintro e w76 ⟨rfl, hb⟩; refine ⟨_, rfl, ?_⟩; have n0_ := am (below_step (by exact bl_o HB.out) hb); clear HB; have HB := n0_; clear n0_) | ((with_reducible refine gate_dst (N := 13) rfl ?_); refine box_event ?hg (N := 13) ?hd (cs := #[.int .i64 0, .bool false]) (t := 76) ?hr ?_; (case hd => rfl); (case hg => rfl); (case hr => go_simp; try rfl); intro gb105 hg w77 hbox hb; refine mv3 (am (below_step (by exact bl_o HB.out) hb)) (am (hbox)) (lei (by rw [hg]; exact (below_size (by exact bl_o HB.out)) : w.heap.size ≤ gb105)) ?_; clear HB; intro HB BK105 GW105; have GE105 := GW105; clear hb hbox hg; obtain ⟨hcz78_0, hcz78_1, hfz78_0, hfz78_1⟩ := cells2 BK105.out))
  go_ret3
  exact ⟨rfl, by exact bl_g HB.out⟩
 subst c7
 replace H : ((ehframe_near.f k (([a3, a4] : List Int))).bind fun t109 => (if t109 = true then (if t101 > 0 then ((leb_Get.f k l0 a1 t101 t102).bind fun bt110 => (ehframe_Get.j0 k a1 a3 a4 bt110.1 (wrap64 (a1 + t101)) bt110.2 t103 t101 t102)) else (if t102 = true then ((leb_ReadSleb.f l0 a1).bind fun bt112 => (ehframe_Get.j0 k a1 a3 a4 bt112.1 bt112.2.1 bt112.2.2 t103 t101 t102)) else ((leb_ReadUleb.f l0 a1).bind fun bt115 => (ehframe_Get.j0 k a1 a3 a4 bt115.1 bt115.2.1 bt115.2.2 t103 t101 t102)))) else (some (0, 0, 11)))) = some (r1, r2, r3) := by rw [if_pos rfl] at H; exact H
 obtain ⟨y106, hy106⟩ : ∃ y_ : List Int, y_ = (([a3, a4] : List Int)) := ⟨_, rfl⟩
 replace H : ((ehframe_near.f k y106).bind fun t109 => (if t109 = true then (if t101 > 0 then ((leb_Get.f k l0 a1 t101 t102).bind fun bt110 => (ehframe_Get.j0 k a1 a3 a4 bt110.1 (wrap64 (a1 + t101)) bt110.2 t103 t101 t102)) else (if t102 = true then ((leb_ReadSleb.f l0 a1).bind fun bt112 => (ehframe_Get.j0 k a1 a3 a4 bt112.1 bt112.2.1 bt112.2.2 t103 t101 t102)) else ((leb_ReadUleb.f l0 a1).bind fun bt115 => (ehframe_Get.j0 k a1 a3 a4 bt115.1 bt115.2.1 bt115.2.2 t103 t101 t102)))) else (some (0, 0, 11)))) = some (r1, r2, r3) := by first | (rw [hy106]; with_reducible exact H) | (have H2_ := (Option.bind_some _ _).symm.trans H; rw [hy106]; with_reducible exact H2_)
 have Ny106 := am hy106
 clear hy106
 replace H := Option.bind_eq_some_iff.mp H
 obtain ⟨t109, A80, H⟩ := H
 replace H : (if t109 = true then (if t101 > 0 then ((leb_Get.f k l0 a1 t101 t102).bind fun bt110 => (ehframe_Get.j0 k a1 a3 a4 bt110.1 (wrap64 (a1 + t101)) bt110.2 t103 t101 t102)) else (if t102 = true then ((leb_ReadSleb.f l0 a1).bind fun bt112 => (ehframe_Get.j0 k a1 a3 a4 bt112.1 bt112.2.1 bt112.2.2 t103 t101 t102)) else ((leb_ReadUleb.f l0 a1).bind fun bt115 => (ehframe_Get.j0 k a1 a3 a4 bt115.1 bt115.2.1 bt115.2.2 t103 t101 t102)))) else (some (0, 0, 11))) = some (r1, r2, r3) := H
 have A8 := am A80
 clear A80
 by_cases c9 : t109 = true
 rotate_left
 ·
  replace c9 := Bool.eq_false_iff.mpr c9
  subst c9
  replace H : (some (0, 0, 11)) = some (r1, r2, r3) := by rw [if_neg (show ¬ (false = true) by decide)] at H; exact H
  simp only [Option.some.injEq, Prod.mk.injEq] at H
  obtain ⟨rfl, rfl, rfl⟩ := H
  go_enter Try.func18, Try.ntmps18
  go_wp2_with (first | ((with_reducible refine gate_callee (f := 29) rfl ?_); refine goesL_ (some 18) rfl rfl Try.func29 (by kernel_rfl) rfl #[.int .i64 a2] rfl (by simp only [ml]; try rfl) ?_; (with_reducible refine (ehframe_of.calls a2 t101 t102 t103 true _ A6.out).mono ?_); rintro e w70 ⟨rfl, hb⟩; refine ⟨_, rfl, ?_⟩; have n0_ := am (below_step (by exact bl_o HB.out) hb); clear HB; have HB := n0_; clear n0_) | ((with_reducible refine gate_dst (N := 13) rfl ?_); refine box_event ?hg (N := 13) ?hd (cs := #[.int .i64 0, .bool false]) (t := 76) ?hr ?_; (case hd => rfl); (case hg => rfl); (case hr => go_simp; try rfl); intro gb105 hg w71 hbox hb; refine mv3 (am (below_step (by exact bl_o HB.out) hb)) (am (hbox)) (lei (by rw [hg]; exact (below_size (by exact bl_o HB.out)) : w.heap.size ≤ gb105)) ?_; clear HB; intro HB BK105 GW105; have GE105 := GW105; clear hb hbox hg; obtain ⟨hcz72_0, hcz72_1, hfz72_0, hfz72_1⟩ := cells2 BK105.out) | ((with_reducible refine gate_dst (N := 26) rfl ?_); refine Kd.R_lit (Kd.int .i64) _ 3 ?hg (N := 26) ?hd (xs := ([a3, a4] : List Int)) (inner := [.int .i64 a3, .int .i64 a4]) (ok := fun _ => True) (okp := fun _ => True) ?hr ?hp (fun _ hk => hk) trivial (Below.refl _ _) (Nat.le_refl _) (by simp) ?_; (case hd => rfl); (case hg => rfl); (case hr => go_simp; try rfl); (case hp => exact (Reps.one (show Kd.M (Kd.int .i64) _ _ _ a3 [.int .i64 a3] from rfl) (Reps.one (show Kd.M (Kd.int .i64) _ _ _ a4 [.int .i64 a4] from rfl) (Reps.none _ _)))); intro v107 w73 ho74 hb hg_ hnew_; clear hg_ hnew_; (first | rw [← Ny106.out] at ho74 | (simp only [Int.reduceToNat] at ho74; rw [← Ny106.out] at ho74)); refine mv3 (am (Kd.R_lower ho74 (below_size (by exact bl_g HB.out)))) (am (blk_below (g := gb105) (o := .cells #[.int .i64 t101, .bool t102] 76 (0, 0)) (bps BK105.out rfl) hb)) (am (below_step (by exact bl_g HB.out) hb)) ?_; clear BK105 HB; intro HO108 BK105 HB; clear hb ho74; obtain ⟨Ao75, co75, eo75⟩ := Kd.R_slice HO108.out; subst eo75) | ((with_reducible refine gate_callee (f := 30) rfl ?_); refine goesL_ (some 27) rfl rfl Try.func30 (by kernel_rfl) rfl #[.slice Ao75 y106.length co75] rfl (by simp only [ml]; try rfl) ?_; (with_reducible refine (ehframe_near.calls k _ _ y106 false _ ?side1 ?side2 A8.out).mono ?_); (case side1 => exact Kd.C_o ((Kd.R_reads' HO108.out).2.2)); (case side2 => exact (Kd.R_reads' HO108.out).2.1); rintro e w' ⟨rfl, ⟨nd, rfl⟩⟩; refine ⟨_, rfl, ?_⟩))
  go_ret3
  exact ⟨rfl, by exact bl_g HB.out⟩
 subst c9
 replace H : (if t101 > 0 then ((leb_Get.f k l0 a1 t101 t102).bind fun bt110 => (ehframe_Get.j0 k a1 a3 a4 bt110.1 (wrap64 (a1 + t101)) bt110.2 t103 t101 t102)) else (if t102 = true then ((leb_ReadSleb.f l0 a1).bind fun bt112 => (ehframe_Get.j0 k a1 a3 a4 bt112.1 bt112.2.1 bt112.2.2 t103 t101 t102)) else ((leb_ReadUleb.f l0 a1).bind fun bt115 => (ehframe_Get.j0 k a1 a3 a4 bt115.1 bt115.2.1 bt115.2.2 t103 t101 t102)))) = some (r1, r2, r3) := by rw [if_pos rfl] at H; exact H
 have HC10 := am H
 clear H
 go_enter Try.func18, Try.ntmps18
 go_upto_block 0 with (first | ((with_reducible refine gate_callee (f := 29) rfl ?_); refine goesL_ (some 18) rfl rfl Try.func29 (by kernel_rfl) rfl #[.int .i64 a2] rfl (by simp only [ml]; try rfl) ?_; (with_reducible refine (ehframe_of.calls a2 t101 t102 t103 true _ A6.out).mono ?_); rintro e w11 ⟨rfl, hb⟩; refine ⟨_, rfl, ?_⟩; have n0_ := am (below_step (by exact bl_o HB.out) hb); clear HB; have HB := n0_; clear n0_) | ((with_reducible refine gate_dst (N := 13) rfl ?_); refine box_event ?hg (N := 13) ?hd (cs := #[.int .i64 0, .bool false]) (t := 76) ?hr ?_; (case hd => rfl); (case hg => rfl); (case hr => go_simp; try rfl); intro gb105 hg w12 hbox hb; refine mv3 (am (below_step (by exact bl_o HB.out) hb)) (am (hbox)) (lei (by rw [hg]; exact (below_size (by exact bl_o HB.out)) : w.heap.size ≤ gb105)) ?_; clear HB; intro HB BK105 GW105; have GE105 := GW105; clear hb hbox hg; obtain ⟨hcz13_0, hcz13_1, hfz13_0, hfz13_1⟩ := cells2 BK105.out) | ((with_reducible refine gate_dst (N := 26) rfl ?_); refine Kd.R_lit (Kd.int .i64) _ 3 ?hg (N := 26) ?hd (xs := ([a3, a4] : List Int)) (inner := [.int .i64 a3, .int .i64 a4]) (ok := fun _ => True) (okp := fun _ => True) ?hr ?hp (fun _ hk => hk) trivial (Below.refl _ _) (Nat.le_refl _) (by simp) ?_; (case hd => rfl); (case hg => rfl); (case hr => go_simp; try rfl); (case hp => exact (Reps.one (show Kd.M (Kd.int .i64) _ _ _ a3 [.int .i64 a3] from rfl) (Reps.one (show Kd.M (Kd.int .i64) _ _ _ a4 [.int .i64 a4] from rfl) (Reps.none _ _)))); intro v107 w14 ho15 hb hg_ hnew_; clear hg_ hnew_; (first | rw [← Ny106.out] at ho15 | (simp only [Int.reduceToNat] at ho15; rw [← Ny106.out] at ho15)); refine mv3 (am (Kd.R_lower ho15 (below_size (by exact bl_g HB.out)))) (am (blk_below (g := gb105) (o := .cells #[.int .i64 t101, .bool t102] 76 (0, 0)) (bps BK105.out rfl) hb)) (am (below_step (by exact bl_g HB.out) hb)) ?_; clear BK105 HB; intro HO108 BK105 HB; clear hb ho15; obtain ⟨Ao16, co16, eo16⟩ := Kd.R_slice HO108.out; subst eo16) | ((with_reducible refine gate_callee (f := 30) rfl ?_); refine goesL_ (some 27) rfl rfl Try.func30 (by kernel_rfl) rfl #[.slice Ao16 y106.length co16] rfl (by simp only [ml]; try rfl) ?_; (with_reducible refine (ehframe_near.calls k _ _ y106 true _ ?side1 ?side2 A8.out).mono ?_); (case side1 => exact Kd.C_o ((Kd.R_reads' HO108.out).2.2)); (case side2 => exact (Kd.R_reads' HO108.out).2.1); rintro e w' ⟨rfl, ⟨nd, rfl⟩⟩; refine ⟨_, rfl, ?_⟩))
 (try simp only [Act.put, List.setIfInBounds_toArray, List.set_cons_zero, List.set_cons_succ])
 go_cut [10, 11, 12] (fun v10 v11 v12 wc => ∃ (kq : Nat) (x10_9 : Int) (x11_9 : Int) (x12_9 : Int), v10 = .int .i64 x10_9 ∧ v11 = .int .i64 x11_9 ∧ v12 = .int .i64 x12_9 ∧ Aside0 (ehframe_Get.j0 kq a1 a3 a4 x10_9 x11_9 x12_9 t103 t101 t102 = some (r1, r2, r3)) ∧ Aside0 (kq ≤ k) ∧ Aside0 (wc.heap[gb105]? = some (.cells #[.int .i64 t101, .bool t102] 76 (0, 0))) ∧ Aside0 (Below w.heap.size w wc))
 case first =>
  have H := HC10.out
  clear HC10
  by_cases c17 : t101 > 0
  ·
   rw [if_pos c17] at H
   have c17b0 : decide (0 < t101) = true := decide_eq_true c17
   clear c17
   (first | rw [c17b0] | (simp only [i64_w, i32_w]; rw [c17b0]) | skip)
   replace H := Option.bind_eq_some_iff.mp H
   obtain ⟨⟨t110, t111⟩, A180, H⟩ := H
   replace H : (ehframe_Get.j0 k a1 a3 a4 t110 (wrap64 (a1 + t101)) t111 t103 t101 t102) = some (r1, r2, r3) := H
   have A18 := am A180
   clear A180
   have H' := am H
   clear H
   obtain ⟨hcz19_0, hcz19_1, hfz19_0, hfz19_1⟩ := cells2 BK105.out
   go_wp2_with (first | ((with_reducible refine gate_callee (f := 48) rfl ?_); refine goesL_ (some 47) rfl rfl Try.func48 (by kernel_rfl) rfl #[.slice A0 l0.length c0, .int .i64 a1, .int .i64 t101, .bool t102] rfl (by simp only [ml]; try rfl) ?_; (with_reducible refine (leb_Get.calls k _ _ l0 a1 t101 t102 t110 t111 _ ?side1 ?side2 A18.out).mono ?_); (case side1 => exact Kd.C_o (Kd.C_below HR0.out HB.out)); (case side2 => exact HC0.out); rintro e w' ⟨rfl, ⟨nd, rfl⟩⟩; refine ⟨_, rfl, ?_⟩))
   go_meet
   case rel => exact ⟨_, (t110), (wrap64 (a1 + t101)), (t111), (by first | rfl | (simp; done) | (simp [*]; done)), (by first | rfl | (simp; done) | (simp [*]; done)), (by first | rfl | (simp; done) | (simp [*]; done)), H', ⟨by first | omega | exact Nat.le_refl _⟩, ⟨by (with_reducible repeat (first | refine blk_drewN ?_ _ | refine blk_drew ?_ | refine blk_alloc ?_ _)); exact BK105.out⟩, ⟨by exact bl_g HB.out⟩⟩
  rw [if_neg c17] at H
  have c17b0 : decide (0 < t101) = false := decide_eq_false c17
  clear c17
  (first | rw [c17b0] | (simp only [i64_w, i32_w]; rw [c17b0]) | skip)
  by_cases c20 : t102 = true
  ·
   subst c20
   replace H : ((leb_ReadSleb.f l0 a1).bind fun bt112 => (ehframe_Get.j0 k a1 a3 a4 bt112.1 bt112.2.1 bt112.2.2 t103 t101 true)) = some (r1, r2, r3) := by rw [if_pos rfl] at H; exact H
   replace H := Option.bind_eq_some_iff.mp H
   obtain ⟨⟨t112, t113, t114⟩, A210, H⟩ := H
   replace H : (ehframe_Get.j0 k a1 a3 a4 t112 t113 t114 t103 t101 true) = some (r1, r2, r3) := H
   have A21 := am A210
   clear A210
   have H' := am H
   clear H
   obtain ⟨hcz22_0, hcz22_1, hfz22_0, hfz22_1⟩ := cells2 BK105.out
   go_wp2_with (first | ((with_reducible refine gate_callee (f := 49) rfl ?_); refine goesL_ (some 60) rfl rfl Try.func49 (by kernel_rfl) rfl #[.slice A0 l0.length c0, .int .i64 a1] rfl (by simp only [ml]; try rfl) ?_; (with_reducible refine (leb_ReadSleb.calls _ _ l0 a1 t112 t113 t114 _ ?side1 ?side2 A21.out).mono ?_); (case side1 => exact Kd.C_o (Kd.C_below HR0.out HB.out)); (case side2 => exact HC0.out); rintro e w23 ⟨rfl, hb⟩; refine ⟨_, rfl, ?_⟩; refine mv3 (am (Kd.R_below (Kd.R_o HO108.out) hb)) (am (blk_below (blk_o BK105.out) hb)) (am (below_step (by exact bl_g HB.out) hb)) ?_; clear HO108 BK105 HB; intro HO108 BK105 HB))
   go_meet
   case rel => exact ⟨_, (t112), (t113), (t114), (by first | rfl | (simp; done) | (simp [*]; done)), (by first | rfl | (simp; done) | (simp [*]; done)), (by first | rfl | (simp; done) | (simp [*]; done)), H', ⟨by first | omega | exact Nat.le_refl _⟩, ⟨by (with_reducible repeat (first | refine blk_drewN ?_ _ | refine blk_drew ?_ | refine blk_alloc ?_ _)); exact BK105.out⟩, ⟨by exact bl_g HB.out⟩⟩
  replace c20 := Bool.eq_false_iff.mpr c20
  subst c20
  replace H : ((leb_ReadUleb.f l0 a1).bind fun bt115 => (ehframe_Get.j0 k a1 a3 a4 bt115.1 bt115.2.1 bt115.2.2 t103 t101 false)) = some (r1, r2, r3) := by rw [if_neg (show ¬ (false = true) by decide)] at H; exact H
  replace H := Option.bind_eq_some_iff.mp H
  obtain ⟨⟨t115, t116, t117⟩, A240, H⟩ := H
  replace H : (ehframe_Get.j0 k a1 a3 a4 t115 t116 t117 t103 t101 false) = some (r1, r2, r3) := H
  have A24 := am A240
  clear A240
  have H' := am H
  clear H
  obtain ⟨hcz25_0, hcz25_1, hfz25_0, hfz25_1⟩ := cells2 BK105.out
  go_wp2_with (first | ((with_reducible refine gate_callee (f := 50) rfl ?_); refine goesL_ (some 32) rfl rfl Try.func50 (by kernel_rfl) rfl #[.slice A0 l0.length c0, .int .i64 a1] rfl (by simp only [ml]; try rfl) ?_; (with_reducible refine (leb_ReadUleb.calls _ _ l0 a1 t115 t116 t117 _ ?side1 ?side2 A24.out).mono ?_); (case side1 => exact Kd.C_o (Kd.C_below HR0.out HB.out)); (case side2 => exact HC0.out); rintro e w26 ⟨rfl, hb⟩; refine ⟨_, rfl, ?_⟩; refine mv3 (am (Kd.R_below (Kd.R_o HO108.out) hb)) (am (blk_below (blk_o BK105.out) hb)) (am (below_step (by exact bl_g HB.out) hb)) ?_; clear HO108 BK105 HB; intro HO108 BK105 HB))
  go_meet
  case rel => exact ⟨_, (t115), (t116), (t117), (by first | rfl | (simp; done) | (simp [*]; done)), (by first | rfl | (simp; done) | (simp [*]; done)), (by first | rfl | (simp; done) | (simp [*]; done)), H', ⟨by first | omega | exact Nat.le_refl _⟩, ⟨by (with_reducible repeat (first | refine blk_drewN ?_ _ | refine blk_drew ?_ | refine blk_alloc ?_ _)); exact BK105.out⟩, ⟨by exact bl_g HB.out⟩⟩
 case rest =>
  clear HC10
  try clear c1
  try clear c2
  try clear p2
  try clear c3
  try clear c4
  try clear c5
  try clear p6
  try clear c7
  try clear c9
  try clear c17
  try clear c17b0
  try clear c18
  try clear c20
  try clear hcz13_0
  try clear hcz13_1
  try clear hcz19_0
  try clear hcz19_1
  try clear hcz22_0
  try clear hcz22_1
  try clear hcz25_0
  try clear hcz25_1
  try clear hfz13_0
  try clear hfz13_1
  try clear hfz19_0
  try clear hfz19_1
  try clear hfz22_0
  try clear hfz22_1
  try clear hfz25_0
  try clear hfz25_1
  obtain ⟨kq, x10_9, x11_9, x12_9, rfl, rfl, rfl, HA, HJ9, BK105, HB⟩ := hcut
  cases kq with
  | zero => exact absurd HA.out (by simp [ehframe_Get.j0])
  | succ kj9 =>
   have H := HA.out
   clear HA
   simp only [ehframe_Get.j0] at H
   by_cases c27 : x12_9 = 0
   rotate_left
   ·
    rw [if_neg c27] at H
    have c27b0 : (x12_9 == 0) = false := beq_eq_false_iff_ne.mpr c27
    have c27b1 : (x12_9 != 0) = true := bne_iff_ne.mpr c27
    simp only [Option.some.injEq, Prod.mk.injEq] at H
    obtain ⟨rfl, rfl, rfl⟩ := H
    go_wp2
    go_ret3
    exact ⟨rfl, by exact bl_g HB.out⟩
   rw [if_pos c27] at H
   have c27b0 : (x12_9 == 0) = true := beq_iff_eq.mpr c27
   have c27b1 : (x12_9 != 0) = false := bne_eq_false_iff_eq.mpr c27
   clear c27
   have HC28 := am H
   clear H
   go_upto_region 14 with (fail)
   go_cut [79] (fun v79 wc => ∃ (kq : Nat) (x79_27 : Bool), v79 = .bool x79_27 ∧ Aside0 (ehframe_Get.j1 kq a1 a3 a4 x10_9 x11_9 t103 x79_27 = some (r1, r2, r3)) ∧ Aside0 (kq ≤ kj9) ∧ Aside0 (wc.heap[gb105]? = some (.cells #[.int .i64 t101, .bool t102] 76 (0, 0))) ∧ Aside0 (Below w.heap.size w wc))
   case first =>
    have H := HC28.out
    clear HC28
    obtain ⟨y118, hy118⟩ : ∃ y_ : List Int, y_ = (([x10_9] : List Int)) := ⟨_, rfl⟩
    replace H : ((ehframe_near.f kj9 y118).bind fun t121 => (if t121 = true then (if t102 = true then (ehframe_Get.j1 kj9 a1 a3 a4 x10_9 x11_9 t103 false) else (ehframe_Get.j1 kj9 a1 a3 a4 x10_9 x11_9 t103 (decide (x10_9 < 0)))) else (ehframe_Get.j1 kj9 a1 a3 a4 x10_9 x11_9 t103 true))) = some (r1, r2, r3) := by first | (rw [hy118]; with_reducible exact H) | (have H2_ := (Option.bind_some _ _).symm.trans H; rw [hy118]; with_reducible exact H2_)
    have Ny118 := am hy118
    clear hy118
    replace H := Option.bind_eq_some_iff.mp H
    obtain ⟨t121, A290, H⟩ := H
    replace H : (if t121 = true then (if t102 = true then (ehframe_Get.j1 kj9 a1 a3 a4 x10_9 x11_9 t103 false) else (ehframe_Get.j1 kj9 a1 a3 a4 x10_9 x11_9 t103 (decide (x10_9 < 0)))) else (ehframe_Get.j1 kj9 a1 a3 a4 x10_9 x11_9 t103 true)) = some (r1, r2, r3) := H
    have A29 := am A290
    clear A290
    by_cases c30 : t121 = true
    rotate_left
    ·
     replace c30 := Bool.eq_false_iff.mpr c30
     subst c30
     replace H : (ehframe_Get.j1 kj9 a1 a3 a4 x10_9 x11_9 t103 true) = some (r1, r2, r3) := by rw [if_neg (show ¬ (false = true) by decide)] at H; exact H
     have H' := am H
     clear H
     go_wp2_with (first | ((with_reducible refine gate_dst (N := 68) rfl ?_); refine Kd.R_lit (Kd.int .i64) _ 3 ?hg (N := 68) ?hd (xs := ([x10_9] : List Int)) (inner := [.int .i64 x10_9]) (ok := fun _ => True) (okp := fun _ => True) ?hr ?hp (fun _ hk => hk) trivial (Below.refl _ _) (Nat.le_refl _) (by simp) ?_; (case hd => rfl); (case hg => rfl); (case hr => go_simp; try rfl); (case hp => exact (Reps.one (show Kd.M (Kd.int .i64) _ _ _ x10_9 [.int .i64 x10_9] from rfl) (Reps.none _ _))); intro v119 w40 ho41 hb hg_ hnew_; clear hg_ hnew_; (first | rw [← Ny118.out] at ho41 | (simp only [Int.reduceToNat] at ho41; rw [← Ny118.out] at ho41)); refine mv3 (am (Kd.R_lower ho41 (below_size (by exact bl_g HB.out)))) (am (blk_below (blk_o BK105.out) hb)) (am (below_step (by exact bl_g HB.out) hb)) ?_; clear BK105 HB; intro HO120 BK105 HB; clear hb ho41; obtain ⟨Ao42, co42, eo42⟩ := Kd.R_slice HO120.out; subst eo42) | ((with_reducible refine gate_callee (f := 30) rfl ?_); refine goesL_ (some 69) rfl rfl Try.func30 (by kernel_rfl) rfl #[.slice Ao42 y118.length co42] rfl (by simp only [ml]; try rfl) ?_; (with_reducible refine (ehframe_near.calls kj9 _ _ y118 false _ ?side1 ?side2 A29.out).mono ?_); (case side1 => exact Kd.C_o ((Kd.R_reads' HO120.out).2.2)); (case side2 => exact (Kd.R_reads' HO120.out).2.1); rintro e w' ⟨rfl, ⟨nd, rfl⟩⟩; refine ⟨_, rfl, ?_⟩))
     go_meet
     case rel => exact ⟨_, (true), (by first | rfl | (simp; done) | (simp [*]; done)), H', ⟨by have := HJ9.out; first | omega | exact Nat.le_refl _⟩, ⟨by (with_reducible repeat (first | refine blk_drewN ?_ _ | refine blk_drew ?_ | refine blk_alloc ?_ _)); exact BK105.out⟩, ⟨by exact bl_g HB.out⟩⟩
    subst c30
    replace H : (if t102 = true then (ehframe_Get.j1 kj9 a1 a3 a4 x10_9 x11_9 t103 false) else (ehframe_Get.j1 kj9 a1 a3 a4 x10_9 x11_9 t103 (decide (x10_9 < 0)))) = some (r1, r2, r3) := by rw [if_pos rfl] at H; exact H
    by_cases c31 : t102 = true
    ·
     subst c31
     replace H : (ehframe_Get.j1 kj9 a1 a3 a4 x10_9 x11_9 t103 false) = some (r1, r2, r3) := by rw [if_pos rfl] at H; exact H
     have H' := am H
     clear H
     go_wp2_with (first | ((with_reducible refine gate_dst (N := 68) rfl ?_); refine Kd.R_lit (Kd.int .i64) _ 3 ?hg (N := 68) ?hd (xs := ([x10_9] : List Int)) (inner := [.int .i64 x10_9]) (ok := fun _ => True) (okp := fun _ => True) ?hr ?hp (fun _ hk => hk) trivial (Below.refl _ _) (Nat.le_refl _) (by simp) ?_; (case hd => rfl); (case hg => rfl); (case hr => go_simp; try rfl); (case hp => exact (Reps.one (show Kd.M (Kd.int .i64) _ _ _ x10_9 [.int .i64 x10_9] from rfl) (Reps.none _ _))); intro v119 w32 ho33 hb hg_ hnew_; clear hg_ hnew_; (first | rw [← Ny118.out] at ho33 | (simp only [Int.reduceToNat] at ho33; rw [← Ny118.out] at ho33)); refine mv3 (am (Kd.R_lower ho33 (below_size (by exact bl_g HB.out)))) (am (blk_below (blk_o BK105.out) hb)) (am (below_step (by exact bl_g HB.out) hb)) ?_; clear BK105 HB; intro HO120 BK105 HB; clear hb ho33; obtain ⟨Ao34, co34, eo34⟩ := Kd.R_slice HO120.out; subst eo34) | ((with_reducible refine gate_callee (f := 30) rfl ?_); refine goesL_ (some 69) rfl rfl Try.func30 (by kernel_rfl) rfl #[.slice Ao34 y118.length co34] rfl (by simp only [ml]; try rfl) ?_; (with_reducible refine (ehframe_near.calls kj9 _ _ y118 true _ ?side1 ?side2 A29.out).mono ?_); (case side1 => exact Kd.C_o ((Kd.R_reads' HO120.out).2.2)); (case side2 => exact (Kd.R_reads' HO120.out).2.1); rintro e w' ⟨rfl, ⟨nd, rfl⟩⟩; refine ⟨_, rfl, ?_⟩; obtain ⟨hcz35_0, hcz35_1, hfz35_0, hfz35_1⟩ := cells2 BK105.out))
     go_meet
     case rel => exact ⟨_, (false), (by first | rfl | (simp; done) | (simp [*]; done)), H', ⟨by have := HJ9.out; first | omega | exact Nat.le_refl _⟩, ⟨by (with_reducible repeat (first | refine blk_drewN ?_ _ | refine blk_drew ?_ | refine blk_alloc ?_ _)); exact BK105.out⟩, ⟨by exact bl_g HB.out⟩⟩
    replace c31 := Bool.eq_false_iff.mpr c31
    subst c31
    replace H : (ehframe_Get.j1 kj9 a1 a3 a4 x10_9 x11_9 t103 (decide (x10_9 < 0))) = some (r1, r2, r3) := by rw [if_neg (show ¬ (false = true) by decide)] at H; exact H
    have H' := am H
    clear H
    go_wp2_with (first | ((with_reducible refine gate_dst (N := 68) rfl ?_); refine Kd.R_lit (Kd.int .i64) _ 3 ?hg (N := 68) ?hd (xs := ([x10_9] : List Int)) (inner := [.int .i64 x10_9]) (ok := fun _ => True) (okp := fun _ => True) ?hr ?hp (fun _ hk => hk) trivial (Below.refl _ _) (Nat.le_refl _) (by simp) ?_; (case hd => rfl); (case hg => rfl); (case hr => go_simp; try rfl); (case hp => exact (Reps.one (show Kd.M (Kd.int .i64) _ _ _ x10_9 [.int .i64 x10_9] from rfl) (Reps.none _ _))); intro v119 w36 ho37 hb hg_ hnew_; clear hg_ hnew_; (first | rw [← Ny118.out] at ho37 | (simp only [Int.reduceToNat] at ho37; rw [← Ny118.out] at ho37)); refine mv3 (am (Kd.R_lower ho37 (below_size (by exact bl_g HB.out)))) (am (blk_below (blk_o BK105.out) hb)) (am (below_step (by exact bl_g HB.out) hb)) ?_; clear BK105 HB; intro HO120 BK105 HB; clear hb ho37; obtain ⟨Ao38, co38, eo38⟩ := Kd.R_slice HO120.out; subst eo38) | ((with_reducible refine gate_callee (f := 30) rfl ?_); refine goesL_ (some 69) rfl rfl Try.func30 (by kernel_rfl) rfl #[.slice Ao38 y118.length co38] rfl (by simp only [ml]; try rfl) ?_; (with_reducible refine (ehframe_near.calls kj9 _ _ y118 true _ ?side1 ?side2 A29.out).mono ?_); (case side1 => exact Kd.C_o ((Kd.R_reads' HO120.out).2.2)); (case side2 => exact (Kd.R_reads' HO120.out).2.1); rintro e w' ⟨rfl, ⟨nd, rfl⟩⟩; refine ⟨_, rfl, ?_⟩; obtain ⟨hcz39_0, hcz39_1, hfz39_0, hfz39_1⟩ := cells2 BK105.out))
    go_meet
    case rel => exact ⟨_, (decide (x10_9 < 0)), (by first | rfl | (simp; done) | (simp [*]; done)), H', ⟨by have := HJ9.out; first | omega | exact Nat.le_refl _⟩, ⟨by (with_reducible repeat (first | refine blk_drewN ?_ _ | refine blk_drew ?_ | refine blk_alloc ?_ _)); exact BK105.out⟩, ⟨by exact bl_g HB.out⟩⟩
   case rest =>
    clear HC28
    try clear c1
    try clear c2
    try clear p2
    try clear c3
    try clear c4
    try clear c5
    try clear p6
    try clear c7
    try clear c9
    try clear c17
    try clear c17b0
    try clear c18
    try clear c20
    try clear c27
    try clear c27b0
    try clear c27b1
    try clear c29
    try clear c30
    try clear c31
    try clear hcz13_0
    try clear hcz13_1
    try clear hcz19_0
    try clear hcz19_1
    try clear hcz22_0
    try clear hcz22_1
    try clear hcz25_0
    try clear hcz25_1
    try clear hcz35_0
    try clear hcz35_1
    try clear hcz39_0
    try clear hcz39_1
    try clear hfz13_0
    try clear hfz13_1
    try clear hfz19_0
    try clear hfz19_1
    try clear hfz22_0
    try clear hfz22_1
    try clear hfz25_0
    try clear hfz25_1
    try clear hfz35_0
    try clear hfz35_1
    try clear hfz39_0
    try clear hfz39_1
    try clear p2
    try clear p6
    obtain ⟨kq, x79_27, rfl, HA, HJ27, BK105, HB⟩ := hcut
    cases kq with
    | zero => exact absurd HA.out (by simp [ehframe_Get.j1])
    | succ kj27 =>
     have H := HA.out
     clear HA
     simp only [ehframe_Get.j1] at H
     by_cases c43 : x79_27 = true
     ·
      subst c43
      replace H : (some (0, 0, 11)) = some (r1, r2, r3) := by rw [if_pos rfl] at H; exact H
      simp only [Option.some.injEq, Prod.mk.injEq] at H
      obtain ⟨rfl, rfl, rfl⟩ := H
      go_wp2
      go_ret3
      exact ⟨rfl, by exact bl_g HB.out⟩
     replace c43 := Bool.eq_false_iff.mpr c43
     subst c43
     replace H : (if t103 = 16 then ((ehframe_near.f kj27 (([wrap64 (x10_9 + (wrap64 (a3 + a1)))] : List Int))).bind fun t125 => (if t125 = true then (some (wrap64 (x10_9 + (wrap64 (a3 + a1))), x11_9, 0)) else (some (0, 0, 11)))) else (if t103 = 48 then ((ehframe_near.f kj27 (([wrap64 (x10_9 + a4)] : List Int))).bind fun t129 => (if t129 = true then (some (wrap64 (x10_9 + a4), x11_9, 0)) else (some (0, 0, 11)))) else ((ehframe_near.f kj27 (([x10_9] : List Int))).bind fun t133 => (if t133 = true then (some (x10_9, x11_9, 0)) else (some (0, 0, 11)))))) = some (r1, r2, r3) := by rw [if_neg (show ¬ (false = true) by decide)] at H; exact H
     by_cases c44 : t103 = 16
     ·
      rw [if_pos c44] at H
      have c44b0 : (t103 == 16) = true := beq_iff_eq.mpr c44
      have c44b1 : (t103 != 16) = false := bne_eq_false_iff_eq.mpr c44
      clear c44
      obtain ⟨y122, hy122⟩ : ∃ y_ : List Int, y_ = (([wrap64 (x10_9 + (wrap64 (a3 + a1)))] : List Int)) := ⟨_, rfl⟩
      replace H : ((ehframe_near.f kj27 y122).bind fun t125 => (if t125 = true then (some (wrap64 (x10_9 + (wrap64 (a3 + a1))), x11_9, 0)) else (some (0, 0, 11)))) = some (r1, r2, r3) := by first | (rw [hy122]; with_reducible exact H) | (have H2_ := (Option.bind_some _ _).symm.trans H; rw [hy122]; with_reducible exact H2_)
      have Ny122 := am hy122
      clear hy122
      replace H := Option.bind_eq_some_iff.mp H
      obtain ⟨t125, A450, H⟩ := H
      replace H : (if t125 = true then (some (wrap64 (x10_9 + (wrap64 (a3 + a1))), x11_9, 0)) else (some (0, 0, 11))) = some (r1, r2, r3) := H
      have A45 := am A450
      clear A450
      by_cases c46 : t125 = true
      ·
       subst c46
       replace H : (some (wrap64 (x10_9 + (wrap64 (a3 + a1))), x11_9, 0)) = some (r1, r2, r3) := by rw [if_pos rfl] at H; exact H
       simp only [Option.some.injEq, Prod.mk.injEq] at H
       obtain ⟨rfl, rfl, rfl⟩ := H
       go_wp2_with (first | ((with_reducible refine gate_dst (N := 94) rfl ?_); refine Kd.R_lit (Kd.int .i64) _ 3 ?hg (N := 94) ?hd (xs := ([wrap64 (x10_9 + (wrap64 (a3 + a1)))] : List Int)) (inner := [.int .i64 (wrap64 (x10_9 + (wrap64 (a3 + a1))))]) (ok := fun _ => True) (okp := fun _ => True) ?hr ?hp (fun _ hk => hk) trivial (Below.refl _ _) (Nat.le_refl _) (by simp) ?_; (case hd => rfl); (case hg => rfl); (case hr => go_simp; try rfl); (case hp => exact (Reps.one (show Kd.M (Kd.int .i64) _ _ _ (wrap64 (x10_9 + (wrap64 (a3 + a1)))) [.int .i64 (wrap64 (x10_9 + (wrap64 (a3 + a1))))] from rfl) (Reps.none _ _))); intro v123 w47 ho48 hb hg_ hnew_; clear hg_ hnew_; (first | rw [← Ny122.out] at ho48 | (simp only [Int.reduceToNat] at ho48; rw [← Ny122.out] at ho48)); refine mv3 (am (Kd.R_lower ho48 (below_size (by exact bl_g HB.out)))) (am (blk_below (blk_o BK105.out) hb)) (am (below_step (by exact bl_g HB.out) hb)) ?_; clear BK105 HB; intro HO124 BK105 HB; clear hb ho48; obtain ⟨Ao49, co49, eo49⟩ := Kd.R_slice HO124.out; subst eo49) | ((with_reducible refine gate_callee (f := 30) rfl ?_); refine goesL_ (some 95) rfl rfl Try.func30 (by kernel_rfl) rfl #[.slice Ao49 y122.length co49] rfl (by simp only [ml]; try rfl) ?_; (with_reducible refine (ehframe_near.calls kj27 _ _ y122 true _ ?side1 ?side2 A45.out).mono ?_); (case side1 => exact Kd.C_o ((Kd.R_reads' HO124.out).2.2)); (case side2 => exact (Kd.R_reads' HO124.out).2.1); rintro e w' ⟨rfl, ⟨nd, rfl⟩⟩; refine ⟨_, rfl, ?_⟩))
       go_ret3
       exact ⟨rfl, by exact bl_g HB.out⟩
      replace c46 := Bool.eq_false_iff.mpr c46
      subst c46
      replace H : (some (0, 0, 11)) = some (r1, r2, r3) := by rw [if_neg (show ¬ (false = true) by decide)] at H; exact H
      simp only [Option.some.injEq, Prod.mk.injEq] at H
      obtain ⟨rfl, rfl, rfl⟩ := H
      go_wp2_with (first | ((with_reducible refine gate_dst (N := 94) rfl ?_); refine Kd.R_lit (Kd.int .i64) _ 3 ?hg (N := 94) ?hd (xs := ([wrap64 (x10_9 + (wrap64 (a3 + a1)))] : List Int)) (inner := [.int .i64 (wrap64 (x10_9 + (wrap64 (a3 + a1))))]) (ok := fun _ => True) (okp := fun _ => True) ?hr ?hp (fun _ hk => hk) trivial (Below.refl _ _) (Nat.le_refl _) (by simp) ?_; (case hd => rfl); (case hg => rfl); (case hr => go_simp; try rfl); (case hp => exact (Reps.one (show Kd.M (Kd.int .i64) _ _ _ (wrap64 (x10_9 + (wrap64 (a3 + a1)))) [.int .i64 (wrap64 (x10_9 + (wrap64 (a3 + a1))))] from rfl) (Reps.none _ _))); intro v123 w50 ho51 hb hg_ hnew_; clear hg_ hnew_; (first | rw [← Ny122.out] at ho51 | (simp only [Int.reduceToNat] at ho51; rw [← Ny122.out] at ho51)); refine mv3 (am (Kd.R_lower ho51 (below_size (by exact bl_g HB.out)))) (am (blk_below (blk_o BK105.out) hb)) (am (below_step (by exact bl_g HB.out) hb)) ?_; clear BK105 HB; intro HO124 BK105 HB; clear hb ho51; obtain ⟨Ao52, co52, eo52⟩ := Kd.R_slice HO124.out; subst eo52) | ((with_reducible refine gate_callee (f := 30) rfl ?_); refine goesL_ (some 95) rfl rfl Try.func30 (by kernel_rfl) rfl #[.slice Ao52 y122.length co52] rfl (by simp only [ml]; try rfl) ?_; (with_reducible refine (ehframe_near.calls kj27 _ _ y122 false _ ?side1 ?side2 A45.out).mono ?_); (case side1 => exact Kd.C_o ((Kd.R_reads' HO124.out).2.2)); (case side2 => exact (Kd.R_reads' HO124.out).2.1); rintro e w' ⟨rfl, ⟨nd, rfl⟩⟩; refine ⟨_, rfl, ?_⟩))
      go_ret3
      exact ⟨rfl, by exact bl_g HB.out⟩
     rw [if_neg c44] at H
     have c44b0 : (t103 == 16) = false := beq_eq_false_iff_ne.mpr c44
     have c44b1 : (t103 != 16) = true := bne_iff_ne.mpr c44
     by_cases c53 : t103 = 48
     ·
      rw [if_pos c53] at H
      have c53b0 : (t103 == 48) = true := beq_iff_eq.mpr c53
      have c53b1 : (t103 != 48) = false := bne_eq_false_iff_eq.mpr c53
      clear c53
      obtain ⟨y126, hy126⟩ : ∃ y_ : List Int, y_ = (([wrap64 (x10_9 + a4)] : List Int)) := ⟨_, rfl⟩
      replace H : ((ehframe_near.f kj27 y126).bind fun t129 => (if t129 = true then (some (wrap64 (x10_9 + a4), x11_9, 0)) else (some (0, 0, 11)))) = some (r1, r2, r3) := by first | (rw [hy126]; with_reducible exact H) | (have H2_ := (Option.bind_some _ _).symm.trans H; rw [hy126]; with_reducible exact H2_)
      have Ny126 := am hy126
      clear hy126
      replace H := Option.bind_eq_some_iff.mp H
      obtain ⟨t129, A540, H⟩ := H
      replace H : (if t129 = true then (some (wrap64 (x10_9 + a4), x11_9, 0)) else (some (0, 0, 11))) = some (r1, r2, r3) := H
      have A54 := am A540
      clear A540
      by_cases c55 : t129 = true
      ·
       subst c55
       replace H : (some (wrap64 (x10_9 + a4), x11_9, 0)) = some (r1, r2, r3) := by rw [if_pos rfl] at H; exact H
       simp only [Option.some.injEq, Prod.mk.injEq] at H
       obtain ⟨rfl, rfl, rfl⟩ := H
       go_wp2_with (first | ((with_reducible refine gate_dst (N := 94) rfl ?_); refine Kd.R_lit (Kd.int .i64) _ 3 ?hg (N := 94) ?hd (xs := ([wrap64 (x10_9 + a4)] : List Int)) (inner := [.int .i64 (wrap64 (x10_9 + a4))]) (ok := fun _ => True) (okp := fun _ => True) ?hr ?hp (fun _ hk => hk) trivial (Below.refl _ _) (Nat.le_refl _) (by simp) ?_; (case hd => rfl); (case hg => rfl); (case hr => go_simp; try rfl); (case hp => exact (Reps.one (show Kd.M (Kd.int .i64) _ _ _ (wrap64 (x10_9 + a4)) [.int .i64 (wrap64 (x10_9 + a4))] from rfl) (Reps.none _ _))); intro v127 w56 ho57 hb hg_ hnew_; clear hg_ hnew_; (first | rw [← Ny126.out] at ho57 | (simp only [Int.reduceToNat] at ho57; rw [← Ny126.out] at ho57)); refine mv3 (am (Kd.R_lower ho57 (below_size (by exact bl_g HB.out)))) (am (blk_below (blk_o BK105.out) hb)) (am (below_step (by exact bl_g HB.out) hb)) ?_; clear BK105 HB; intro HO128 BK105 HB; clear hb ho57; obtain ⟨Ao58, co58, eo58⟩ := Kd.R_slice HO128.out; subst eo58) | ((with_reducible refine gate_callee (f := 30) rfl ?_); refine goesL_ (some 95) rfl rfl Try.func30 (by kernel_rfl) rfl #[.slice Ao58 y126.length co58] rfl (by simp only [ml]; try rfl) ?_; (with_reducible refine (ehframe_near.calls kj27 _ _ y126 true _ ?side1 ?side2 A54.out).mono ?_); (case side1 => exact Kd.C_o ((Kd.R_reads' HO128.out).2.2)); (case side2 => exact (Kd.R_reads' HO128.out).2.1); rintro e w' ⟨rfl, ⟨nd, rfl⟩⟩; refine ⟨_, rfl, ?_⟩))
       go_ret3
       exact ⟨rfl, by exact bl_g HB.out⟩
      replace c55 := Bool.eq_false_iff.mpr c55
      subst c55
      replace H : (some (0, 0, 11)) = some (r1, r2, r3) := by rw [if_neg (show ¬ (false = true) by decide)] at H; exact H
      simp only [Option.some.injEq, Prod.mk.injEq] at H
      obtain ⟨rfl, rfl, rfl⟩ := H
      go_wp2_with (first | ((with_reducible refine gate_dst (N := 94) rfl ?_); refine Kd.R_lit (Kd.int .i64) _ 3 ?hg (N := 94) ?hd (xs := ([wrap64 (x10_9 + a4)] : List Int)) (inner := [.int .i64 (wrap64 (x10_9 + a4))]) (ok := fun _ => True) (okp := fun _ => True) ?hr ?hp (fun _ hk => hk) trivial (Below.refl _ _) (Nat.le_refl _) (by simp) ?_; (case hd => rfl); (case hg => rfl); (case hr => go_simp; try rfl); (case hp => exact (Reps.one (show Kd.M (Kd.int .i64) _ _ _ (wrap64 (x10_9 + a4)) [.int .i64 (wrap64 (x10_9 + a4))] from rfl) (Reps.none _ _))); intro v127 w59 ho60 hb hg_ hnew_; clear hg_ hnew_; (first | rw [← Ny126.out] at ho60 | (simp only [Int.reduceToNat] at ho60; rw [← Ny126.out] at ho60)); refine mv3 (am (Kd.R_lower ho60 (below_size (by exact bl_g HB.out)))) (am (blk_below (blk_o BK105.out) hb)) (am (below_step (by exact bl_g HB.out) hb)) ?_; clear BK105 HB; intro HO128 BK105 HB; clear hb ho60; obtain ⟨Ao61, co61, eo61⟩ := Kd.R_slice HO128.out; subst eo61) | ((with_reducible refine gate_callee (f := 30) rfl ?_); refine goesL_ (some 95) rfl rfl Try.func30 (by kernel_rfl) rfl #[.slice Ao61 y126.length co61] rfl (by simp only [ml]; try rfl) ?_; (with_reducible refine (ehframe_near.calls kj27 _ _ y126 false _ ?side1 ?side2 A54.out).mono ?_); (case side1 => exact Kd.C_o ((Kd.R_reads' HO128.out).2.2)); (case side2 => exact (Kd.R_reads' HO128.out).2.1); rintro e w' ⟨rfl, ⟨nd, rfl⟩⟩; refine ⟨_, rfl, ?_⟩))
      go_ret3
      exact ⟨rfl, by exact bl_g HB.out⟩
     rw [if_neg c53] at H
     have c53b0 : (t103 == 48) = false := beq_eq_false_iff_ne.mpr c53
     have c53b1 : (t103 != 48) = true := bne_iff_ne.mpr c53
     obtain ⟨y130, hy130⟩ : ∃ y_ : List Int, y_ = (([x10_9] : List Int)) := ⟨_, rfl⟩
     replace H : ((ehframe_near.f kj27 y130).bind fun t133 => (if t133 = true then (some (x10_9, x11_9, 0)) else (some (0, 0, 11)))) = some (r1, r2, r3) := by first | (rw [hy130]; with_reducible exact H) | (have H2_ := (Option.bind_some _ _).symm.trans H; rw [hy130]; with_reducible exact H2_)
     have Ny130 := am hy130
     clear hy130
     replace H := Option.bind_eq_some_iff.mp H
     obtain ⟨t133, A620, H⟩ := H
     replace H : (if t133 = true then (some (x10_9, x11_9, 0)) else (some (0, 0, 11))) = some (r1, r2, r3) := H
     have A62 := am A620
     clear A620
     by_cases c63 : t133 = true
     ·
      subst c63
      replace H : (some (x10_9, x11_9, 0)) = some (r1, r2, r3) := by rw [if_pos rfl] at H; exact H
      simp only [Option.some.injEq, Prod.mk.injEq] at H
      obtain ⟨rfl, rfl, rfl⟩ := H
      go_wp2_with (first | ((with_reducible refine gate_dst (N := 94) rfl ?_); refine Kd.R_lit (Kd.int .i64) _ 3 ?hg (N := 94) ?hd (xs := ([x10_9] : List Int)) (inner := [.int .i64 x10_9]) (ok := fun _ => True) (okp := fun _ => True) ?hr ?hp (fun _ hk => hk) trivial (Below.refl _ _) (Nat.le_refl _) (by simp) ?_; (case hd => rfl); (case hg => rfl); (case hr => go_simp; try rfl); (case hp => exact (Reps.one (show Kd.M (Kd.int .i64) _ _ _ x10_9 [.int .i64 x10_9] from rfl) (Reps.none _ _))); intro v131 w64 ho65 hb hg_ hnew_; clear hg_ hnew_; (first | rw [← Ny130.out] at ho65 | (simp only [Int.reduceToNat] at ho65; rw [← Ny130.out] at ho65)); refine mv3 (am (Kd.R_lower ho65 (below_size (by exact bl_g HB.out)))) (am (blk_below (blk_o BK105.out) hb)) (am (below_step (by exact bl_g HB.out) hb)) ?_; clear BK105 HB; intro HO132 BK105 HB; clear hb ho65; obtain ⟨Ao66, co66, eo66⟩ := Kd.R_slice HO132.out; subst eo66) | ((with_reducible refine gate_callee (f := 30) rfl ?_); refine goesL_ (some 95) rfl rfl Try.func30 (by kernel_rfl) rfl #[.slice Ao66 y130.length co66] rfl (by simp only [ml]; try rfl) ?_; (with_reducible refine (ehframe_near.calls kj27 _ _ y130 true _ ?side1 ?side2 A62.out).mono ?_); (case side1 => exact Kd.C_o ((Kd.R_reads' HO132.out).2.2)); (case side2 => exact (Kd.R_reads' HO132.out).2.1); rintro e w' ⟨rfl, ⟨nd, rfl⟩⟩; refine ⟨_, rfl, ?_⟩))
      go_ret3
      exact ⟨rfl, by exact bl_g HB.out⟩
     replace c63 := Bool.eq_false_iff.mpr c63
     subst c63
     replace H : (some (0, 0, 11)) = some (r1, r2, r3) := by rw [if_neg (show ¬ (false = true) by decide)] at H; exact H
     simp only [Option.some.injEq, Prod.mk.injEq] at H
     obtain ⟨rfl, rfl, rfl⟩ := H
     go_wp2_with (first | ((with_reducible refine gate_dst (N := 94) rfl ?_); refine Kd.R_lit (Kd.int .i64) _ 3 ?hg (N := 94) ?hd (xs := ([x10_9] : List Int)) (inner := [.int .i64 x10_9]) (ok := fun _ => True) (okp := fun _ => True) ?hr ?hp (fun _ hk => hk) trivial (Below.refl _ _) (Nat.le_refl _) (by simp) ?_; (case hd => rfl); (case hg => rfl); (case hr => go_simp; try rfl); (case hp => exact (Reps.one (show Kd.M (Kd.int .i64) _ _ _ x10_9 [.int .i64 x10_9] from rfl) (Reps.none _ _))); intro v131 w67 ho68 hb hg_ hnew_; clear hg_ hnew_; (first | rw [← Ny130.out] at ho68 | (simp only [Int.reduceToNat] at ho68; rw [← Ny130.out] at ho68)); refine mv3 (am (Kd.R_lower ho68 (below_size (by exact bl_g HB.out)))) (am (blk_below (blk_o BK105.out) hb)) (am (below_step (by exact bl_g HB.out) hb)) ?_; clear BK105 HB; intro HO132 BK105 HB; clear hb ho68; obtain ⟨Ao69, co69, eo69⟩ := Kd.R_slice HO132.out; subst eo69) | ((with_reducible refine gate_callee (f := 30) rfl ?_); refine goesL_ (some 95) rfl rfl Try.func30 (by kernel_rfl) rfl #[.slice Ao69 y130.length co69] rfl (by simp only [ml]; try rfl) ?_; (with_reducible refine (ehframe_near.calls kj27 _ _ y130 false _ ?side1 ?side2 A62.out).mono ?_); (case side1 => exact Kd.C_o ((Kd.R_reads' HO132.out).2.2)); (case side2 => exact (Kd.R_reads' HO132.out).2.1); rintro e w' ⟨rfl, ⟨nd, rfl⟩⟩; refine ⟨_, rfl, ?_⟩))
     go_ret3
     exact ⟨rfl, by exact bl_g HB.out⟩
def gangwaylaw14_trimmed.l0 : Nat → List (S97) → Option ((List (S97)))
  | 0, _ => none
  | k + 1, x0 => if (x0.length : Int) > 0 then (if 0 ≤ (wrap64 ((x0.length : Int) - 1)) then (if (wrap64 ((x0.length : Int) - 1)) < (x0.length : Int) then (if ((rd_T97 x0 (wrap64 ((x0.length : Int) - 1))).f0) = 0 then (if (wrap64 ((x0.length : Int) - 1)) ≤ (x0.length : Int) then (gangwaylaw14_trimmed.l0 k (x0.take ((wrap64 ((x0.length : Int) - 1)) : Int).toNat)) else (none)) else (some x0)) else (none)) else (none)) else (some x0)
def gangwaylaw14_trimmed.f (k : Nat) (l0 : List (S97)) : Option ((List (S97))) := gangwaylaw14_trimmed.l0 k l0
set_option maxHeartbeats 8000000 in
theorem gangwaylaw14_trimmed.calls (k : Nat) (P0_ : Nat → Prop) (A0 : Option Addr) (c0 : Nat) (l0 : List (S97)) (r : List (S97)) (w : World) (hs0 : Kd.V k97 97 w w.heap.size (fun k_ => P0_ k_) (.slice A0 l0.length c0) l0) (h : gangwaylaw14_trimmed.f k l0 = some r) :
    Calls Try.prog 20 #[.slice A0 l0.length c0] w fun e w' => ∃ v0_ : Value, e = .returned (v0_) ∧ Kd.V k97 97 w' w.heap.size (fun k_ => (P0_ k_ ∨ w.heap.size ≤ k_)) v0_ r ∧ Below w.heap.size w w' := by
 have HO0 := am (show Kd.V k97 97 w w.heap.size (fun k_ => (P0_ k_ ∨ w.heap.size ≤ k_)) (.slice A0 l0.length c0) l0 from Kd.V_mono hs0 (fun k_ hk => .inl hk))
 have HB := am (Below.refl w.heap.size w)
 have H : (gangwaylaw14_trimmed.l0 k l0) = some r := h
 clear h
 have H' := am H
 clear H
 go_enter Try.func20, Try.ntmps20
 go_wp2
 go_loopg [0] k (fun kq v0 w' => ∃ (x0_1 : List (S97)), Aside0 (gangwaylaw14_trimmed.l0 kq x0_1 = some r) ∧ Aside0 (kq ≤ k) ∧ Aside0 (Kd.V k97 97 w' w.heap.size (fun k_ => (P0_ k_ ∨ w.heap.size ≤ k_)) v0 x0_1) ∧ Aside0 (Below w.heap.size w w'))
 case atStart => exact ⟨(l0), H', ⟨Nat.le_refl _⟩, ⟨by (with_reducible repeat (first | apply Kd.V_alloc | apply Kd.V_drewN | apply Kd.V_drew)); exact HO0.out⟩, ⟨by exact bl_g HB.out⟩⟩
 case round =>
  clear H'
  obtain ⟨x0_1, HA, HK1, HO_0, HB⟩ := hrel
  cases gk with
  | zero => exact absurd HA.out (by simp [gangwaylaw14_trimmed.l0])
  | succ k1 =>
   have H := HA.out
   clear HA
   simp only [gangwaylaw14_trimmed.l0] at H
   by_cases c2 : (x0_1.length : Int) > 0
   rotate_left
   ·
    rw [if_neg c2] at H
    have c2b0 : decide (0 < (x0_1.length : Int)) = false := decide_eq_false c2
    have c2b1 : decide (0 < x0_1.length) = false := decide_eq_false (by omega)
    clear c2
    obtain rfl := Option.some.inj H
    obtain ⟨Ao12, co12, eo12⟩ := Kd.V_slice HO_0.out
    subst eo12
    go_wp2
    go_ret
    exact ⟨_, rfl, by (with_reducible repeat (first | apply Kd.V_alloc | apply Kd.V_drewN | apply Kd.V_drew)); exact HO_0.out, by exact bl_g HB.out⟩
   rw [if_pos c2] at H
   have c2b0 : decide (0 < (x0_1.length : Int)) = true := decide_eq_true c2
   have c2b1 : decide (0 < x0_1.length) = true := decide_eq_true (by omega)
   clear c2
   obtain ⟨ji3, hji3⟩ : ∃ j_ : Int, (wrap64 ((x0_1.length : Int) - 1)) = j_ := ⟨_, rfl⟩
   replace H : (if 0 ≤ (ji3) then (if (ji3) < (x0_1.length : Int) then (if ((rd_T97 x0_1 (ji3)).f0) = 0 then (if (ji3) ≤ (x0_1.length : Int) then (gangwaylaw14_trimmed.l0 k1 (x0_1.take ((ji3) : Int).toNat)) else (none)) else (some x0_1)) else (none)) else (none)) = some r := by first | (rw [hji3] at H; exact H) | (simp only [hji3] at H ⊢; exact H)
   have hji3w : (IntKind.i64.wrap ((x0_1.length : Int) - 1)) = ji3 := (i64_w _).trans hji3
   by_cases c4 : 0 ≤ (ji3)
   rotate_left
   ·
    rw [if_neg c4] at H
    exact absurd H (by simp)
   rw [if_pos c4] at H
   have c4b0 : decide (0 ≤ (ji3)) = true := decide_eq_true c4
   clear c4
   by_cases c5 : (ji3) < (x0_1.length : Int)
   rotate_left
   ·
    rw [if_neg c5] at H
    exact absurd H (by simp)
   rw [if_pos c5] at H
   have c5b0 : decide ((ji3) < (x0_1.length : Int)) = true := decide_eq_true c5
   clear c5
   by_cases c6 : ((rd_T97 x0_1 (ji3)).f0) = 0
   rotate_left
   ·
    rw [if_neg c6] at H
    have c6b0 : (((rd_T97 x0_1 (ji3)).f0) == 0) = false := beq_eq_false_iff_ne.mpr c6
    have c6b1 : (((rd_T97 x0_1 (ji3)).f0) != 0) = true := bne_iff_ne.mpr c6
    obtain rfl := Option.some.inj H
    obtain ⟨Ao11, co11, eo11⟩ := Kd.V_slice HO_0.out
    subst eo11
    have p101 : 0 ≤ ((ji3) : Int) := od
    have q101 : (ji3) < (x0_1.length : Int) := od
    obtain ⟨ad101, e101, hx101_0, hx101_1, hx101_2⟩ := at_T97 (Kd.V_reads' HO_0.out).2.2 (ji3) p101 q101
    cases e101
    replace p101 := eq_true p101
    replace q101 := eq_true q101
    go_wp2
    go_ret
    exact ⟨_, by first | rfl | (simp [errW_none, errW_some] <;> rfl) | (simp only [← hji3]; first | rfl | (simp [errW_none, errW_some] <;> rfl)) | (simp [*, errW_none, errW_some] <;> rfl), by (with_reducible repeat (first | apply Kd.V_alloc | apply Kd.V_drewN | apply Kd.V_drew)); exact HO_0.out, by exact bl_g HB.out⟩
   rw [if_pos c6] at H
   have c6b0 : (((rd_T97 x0_1 (ji3)).f0) == 0) = true := beq_iff_eq.mpr c6
   have c6b1 : (((rd_T97 x0_1 (ji3)).f0) != 0) = false := bne_eq_false_iff_eq.mpr c6
   clear c6
   have c7b0 := eq_true (od : 0 ≤ (ji3))
   by_cases c8 : (ji3) ≤ (x0_1.length : Int)
   rotate_left
   ·
    rw [if_neg c8] at H
    exact absurd H (by simp)
   rw [if_pos c8] at H
   have c8b0 := eq_true c8
   have c8b1 : decide ((ji3) ≤ (x0_1.length : Int)) = true := decide_eq_true c8
   clear c8
   obtain ⟨y102, hy102⟩ : ∃ y_ : List (S97), y_ = (x0_1.take ((ji3) : Int).toNat) := ⟨_, rfl⟩
   replace H : (gangwaylaw14_trimmed.l0 k1 y102) = some r := by first | (rw [hy102]; with_reducible exact H) | (have H2_ := (Option.bind_some _ _).symm.trans H; rw [hy102]; with_reducible exact H2_)
   have Ny102 := am hy102
   clear hy102
   have H' := am H
   clear H
   obtain ⟨Ao9, co9, eo9⟩ := Kd.V_slice HO_0.out
   subst eo9
   have p101 : 0 ≤ ((ji3) : Int) := od
   have q101 : (ji3) < (x0_1.length : Int) := od
   obtain ⟨ad101, e101, hx101_0, hx101_1, hx101_2⟩ := at_T97 (Kd.V_reads' HO_0.out).2.2 (ji3) p101 q101
   cases e101
   replace p101 := eq_true p101
   replace q101 := eq_true q101
   have q10 : ((ji3) : Int) ≤ ((x0_1.length : Int) : Int) := od
   obtain ⟨i010, hi010, _, hsz10, _⟩ := info_parts info97
   have hroom10 : x0_1.length ≤ co9 := (Kd.V_reads' HO_0.out).2.1
   have hC10 : Kd.F k97 _ _ (some ad101) x0_1.length x0_1 := (Kd.V_at (base := w.heap.size) HO_0.out).2.2
   have hcut10 := cut_to (P := Try.prog) 41 97 .i64 Try.underlying41 hi010 (some ad101) x0_1.length co9 (ji3) (od) q10 hroom10
   have hr10 := Kd.F_take (m := ((ji3) : Int).toNat) hC10 (by omega)
   have hy10 : y102.length = ((ji3) : Int).toNat := (by rw [Ny102.out, List.length_take]; omega)
   rw [← Ny102.out] at hr10
   rw [← hy10] at hcut10
   have HO106 := am (show Kd.V k97 97 _ w.heap.size _ (.slice (some ad101) y102.length co9) y102 from Kd.V_mk (by omega) hr10)
   have HC106 := am (show y102.length ≤ co9 from by omega)
   clear hr10 hC10 hroom10 hi010 hsz10
   have KY10 := am hy10
   clear hy10
   replace q10 := eq_true q10
   go_wp2
   go_roundg k1
   case measure => have := HK1.out; omega
   case rel => exact ⟨(y102), H', ⟨by have := HK1.out; omega⟩, ⟨by (with_reducible repeat (first | apply Kd.V_alloc | apply Kd.V_drewN | apply Kd.V_drew)); exact HO106.out⟩, ⟨by exact bl_g HB.out⟩⟩
end Go.Proofs.Ytfgfnflhdabmcaa.G
end
section
namespace Go.Proofs.Ytfgfnflhdabmcaa.Own
open Go.ChangeMaps Go.MapKept Go.WideShapes
open Go.Maps (Keyed IsMap)
theorem wf64 {a : Int} (h0 : 0 ≤ a) (h1 : a ≤ 9223372036854775807) : (Lit.int .i64 a).wf = true := by
  simp [Lit.wf, IntKind.min, IntKind.max, IntKind.signed, IntKind.bits]
  omega
def MapF (P : Program) (k e : TypeId) (w : World) (b n : Nat) (f : Lit → Option Int) : Prop :=
  ∃ D : DataW Unit, w.ownsMap P k (plainElem P e) b n D ∧ (∀ kl, Maps.has D kl = (f kl).isSome) ∧ ∀ kl c, f kl = some c → ∀ z, D.atKey kl z = .lit (.int .i64 c)
open Classical in
noncomputable def putF (f : Lit → Option Int) (k : Lit) (c : Int) : Lit → Option Int := fun k' => if k' = k then some c else f k'
theorem MapF.made (P : Program) (k e : TypeId) (w : World) : MapF P k e (w.alloc (.map #[] 0)) w.heap.size 0 (fun _ => none) :=
  ⟨.map [], World.ownsMap_made w P k _, fun _ => rfl, fun _ _ h => by cases h⟩
theorem MapF.mono {P : Program} {k e : TypeId} {w : World} {b n n' : Nat} {f : Lit → Option Int} (h : MapF P k e w b n f) (hn : n ≤ n') : MapF P k e w b n' f := by
  obtain ⟨D, h1, h2⟩ := h
  exact ⟨D, h1.mono hn, h2⟩
theorem MapF.kept {P : Program} {k e : TypeId} {w w' : World} {b n : Nat} {f : Lit → Option Int} {row : Option Nat} (h : MapF P k e w b n f) (hg : w.grownBy w' row) (hne : some b ≠ row) : MapF P k e w' b n f := by
  obtain ⟨D, h1, h2⟩ := h
  exact ⟨D, h1.kept hg hne, h2⟩
theorem MapF.drewN {P : Program} {k e : TypeId} {w : World} {b n : Nat} {f : Lit → Option Int} (h : MapF P k e w b n f) (m : Nat) : MapF P k e (w.drewN m) b n f := by
  obtain ⟨D, h1, h2⟩ := h
  exact ⟨D, h1, h2⟩
theorem MapF.look_ok {P : Program} {t k e : TypeId} {w : World} {b n : Nat} {f : Lit → Option Int} (h : MapF P k e w b n f) (K : Keyed P k) (ht : P.underlying t = some (.map k e)) (he : P.underlying e = some (.int .i64))
    (hz : (zeroValue e).run P w = .ok (.int .i64 0) w) {key : Value} {kl : Lit} (hkey : keyOf P k key = some kl) :
    (Instr.lookup t (.map (some b)) key true).run P w = .ok (.tuple #[.int .i64 ((f kl).getD 0), .bool (f kl).isSome]) w := by
  obtain ⟨D, h1, h2, h3⟩ := h
  obtain ⟨v, ps, hrun, hv⟩ := h1.look_ok K ht hz (plainElem_int he (by decide)) hkey
  obtain ⟨c, rfl, hc, hwc⟩ := plainElem_int_inv he hv
  rw [hrun, h2 kl]
  have hc1 := congrArg Prod.fst hc
  simp only at hc1
  cases hf : f kl with
  | none =>
    have hh : Maps.has D kl = false := by rw [h2, hf]; rfl
    rw [Maps.atKey_of_not_has hh] at hc1
    cases hc1
    rfl
  | some c' =>
    rw [h3 kl c' hf] at hc1
    cases hc1
    rfl
theorem MapF.put {P : Program} {t k e : TypeId} {w : World} {b n : Nat} {f : Lit → Option Int} (h : MapF P k e w b n f) (K : Keyed P k) (ht : P.underlying t = some (.map k e)) (he : P.underlying e = some (.int .i64)) (hn : n < maxLen)
    {key : Value} {kl : Lit} (hkey : keyOf P k key = some kl) {c : Int} (hc : (Lit.int .i64 c).wf = true) :
    ∃ w', (Instr.mapUpdate t (.map (some b)) key (.int .i64 c)).run P w = .ok () w' ∧ MapF P k e w' b (n + 1) (putF f kl c) ∧ w.grownBy w' (some b) := by
  obtain ⟨D, h1, h2, h3⟩ := h
  obtain ⟨w', hrun, hown, hg⟩ := h1.update K ht hn hkey (plainElem_int he hc)
  refine ⟨w', hrun, ⟨_, hown, fun kl' => ?_, fun kl' c' hf z => ?_⟩, hg⟩
  · unfold putF
    by_cases e1 : kl' = kl
    · subst e1
      rw [if_pos rfl, Maps.has_put_same h1.isMap (K.key hkey)]
      rfl
    · rw [if_neg e1, Maps.has_put_other e1, h2]
  · unfold putF at hf
    by_cases e1 : kl' = kl
    · subst e1
      rw [if_pos rfl] at hf
      cases hf
      exact Maps.atKey_put_same h1.isMap (K.key hkey) _ _
    · rw [if_neg e1] at hf
      rw [Maps.atKey_put_other e1, h3 _ _ hf]
theorem MapF.over {P : Program} {k e : TypeId} {w w1 : World} {b n : Nat} {f : Lit → Option Int} {v : Value} {e' : TypeId} (h : MapF P k e w b n f) (hty : ∀ j, v.ownBlock = some j → ∃ cells, w.heap[j]? = some (.cells cells e' (0, 0))) (hg : w.grownBy w1 v.ownBlock) : MapF P k e w1 b n f := by
  refine h.kept hg fun he => ?_
  obtain ⟨D, ⟨es, clock, hb, _⟩, _⟩ := h
  obtain ⟨cells, hc⟩ := hty b he.symm
  rw [hb] at hc
  cases hc
theorem R_overMap {P : Program} {k e : TypeId} {W w1 : World} {b n : Nat} {f : Lit → Option Int} {α : Type} {d : Go.Proofs.YtfgfnflhdabmcaaW.PrintWords.Kd α} {t base : Nat} {ok : Nat → Prop} {u : Value} {xs : List α} (hR : d.R t W base ok u xs) (h : MapF P k e W b n f) (hg : W.grownBy w1 (some b)) : d.R t w1 base ok u xs := by
  refine Go.Proofs.YtfgfnflhdabmcaaW.PrintWords.Kd.R_mono (Go.Proofs.YtfgfnflhdabmcaaW.PrintWords.Kd.R_move (Go.Proofs.YtfgfnflhdabmcaaW.PrintWords.Kd.R_bound hR) (fun j hj => hg.block j hj.2.2.1 (fun he => ?_))) (fun _ hj => hj.1)
  obtain ⟨_, _, _, q, hq, cells, hc⟩ := hj
  obtain ⟨D, ⟨es, clock, hb, _⟩, _⟩ := h
  cases he
  rw [hb] at hc
  cases hc
theorem wp_put {P : Program} (w : World) {ops : Array Oper} {rest : List Oper} {o : Oper} {a : Act} {Q : Exit → Act → World → Prop}
    (hg : o.guard = none) (m x v : Operand) (t : TypeId) (hop : o.op = Op.mapUpdate t m x v ∨ o.op = Op.insert t m x v)
    (k e : TypeId) (K : Keyed P k) (ht : P.underlying t = some (.map k e)) (he : P.underlying e = some (.int .i64)) (b n : Nat) (f : Lit → Option Int)
    (hm : a.eval m = .map (some b)) (hown : MapF P k e w b n f) (hn : n < maxLen) (key : Value) (kl : Lit) (c : Int) (hx : a.eval x = key) (hv : a.eval v = .int .i64 c) (hkey : keyOf P k key = some kl) (hc : (Lit.int .i64 c).wf = true)
    (hK : ∀ w', MapF P k e w' b (n + 1) (putF f kl c) → w.grownBy w' (some b) → wpList P ops Q rest (a.put o.dst undef) w') :
    wpList P ops Q (o :: rest) a w := by
  refine wpList_plain hg fun K' hK' => ?_
  obtain ⟨w', hrun, r1, r2⟩ := hown.put K ht he hn hkey hc
  unfold Oper.wp
  rcases hop with hop | hop <;>
  · simp [execOp, hop, hm, hx, hv, hrun, Result.andThen]
    exact hK' _ _ (hK w' r1 r2)
end Go.Proofs.Ytfgfnflhdabmcaa.Own
end
section
namespace Go.Proofs.Ytfgfnflhdabmcaa.CfaRd
open Go.RowKit Go.Proofs.Ytfgfnflhdabmcaa.G Go.Proofs.YtfgfnflhdabmcaaW.PrintWords Go.Proofs.YtfgfnflhdabmcaaW.PrintLast Go.Proofs.YtfgfnflhdabmcaaW.PrintMore Go.Proofs.Ytfgfnflhdabmcaa.Cfa
def Rd (w : World) (g : Nat) (A : Option Addr) (n c : Nat) (at_ : Int) (bad : Bool) : Prop := w.heap[g]? = some (.cells #[.slice A n c, .int .i64 at_, .bool bad] 170 (0, 0))
theorem rd_put {w : World} {g : Nat} {A : Option Addr} {n c : Nat} {at_ : Int} {bad : Bool} (h : Rd w g A n c at_ bad) (v : Bool) (en : Int) : Rd ((w.setCell ⟨g, 2, none⟩ (.bool v)).setCell ⟨g, 1, none⟩ (.int .i64 en)) g A n c en v := by
 have h1 : (w.setCell ⟨g, 2, none⟩ (.bool v)).heap[g]? = some (.cells #[.slice A n c, .int .i64 at_, .bool v] 170 (0, 0)) := blk_put h 2 _ (by rfl)
 exact blk_put h1 1 _ (by rfl)
theorem uleb_calls (w0 w : World) (g : Nat) (A : Option Addr) (c : Nat) (l : List Int) (hC : Kd.C (Kd.int .u8) w0 A l.length l) (hc : l.length ≤ c) (hB : Below w0.heap.size w0 w) (hg : w0.heap.size ≤ g) (at_ : Int) (bad : Bool) (h : Rd w g A l.length c at_ bad) (n en er : Int) (hr : leb_ReadUleb.f l at_ = some (n, en, er)) :
    Calls Try.prog 107 #[.pointer (some ⟨g, 0, none⟩)] w fun e w' => e = .returned (.int .i64 n) ∧ Below w0.heap.size w0 w' ∧ Rd w' g A l.length c en (bad || er != 0) ∧ w.grownBy w' (some g) := by
 have HC := am hC
 have HB := am hB
 have HG := am hg
 have HR := am hr
 have H := am h
 have HCC := am hc
 have f0 : w.cell? ⟨g, 0, none⟩ = some (.slice A l.length c) := (blk_cell h 0).trans rfl
 have f1 : w.cell? ⟨g, 1, none⟩ = some (.int .i64 at_) := (blk_cell h 1).trans rfl
 clear hC hc hB hg h hr
 go_enter Try.func107, Try.ntmps107
 go_wp2
 refine start_ (n := 16) (S := fun u => u.cell? ⟨g, 0, none⟩ = some (.slice A l.length c) ∧ u.cell? ⟨g, 1, none⟩ = some (.int .i64 at_)) (ds := [8]) (bm 16 0) (by kernel_rfl) rfl rfl ?_ (fun hHeld => ?_)
 case refine_1 => exact ⟨by go_simp, by go_simp⟩
 refine pure_ (i := 0) (N := some 7) (v := ?_) (a' := ?_) (bm 16 1) rfl rfl (by kernel_rfl) (fun _ _ _ h => h) (Or.inl ⟨by rfl, ?_⟩) ?_ ?_
 rotate_left
 ·
  intro u
  go_simp
  with_reducible rfl
 rotate_left
 ·
  simp only [pz]
  rfl
 refine pure_ (i := 1) (N := some 8) (v := ?_) (a' := ?_) (bm 16 3) rfl rfl (by kernel_rfl) (fun _ _ _ h => h) (Or.inl ⟨by rfl, ?_⟩) ?_ ?_
 rotate_left
 ·
  intro u
  go_simp
  with_reducible rfl
 rotate_left
 ·
  simp only [pz]
  rfl
 refine pure_ (i := 2) (N := some 9) (v := ?_) (a' := ?_) (bm 16 7) rfl rfl (by kernel_rfl) (fun _ _ _ h => h) (Or.inl ⟨by rfl, ?_⟩) ?_ ?_
 rotate_left
 ·
  intro u
  go_simp
  with_reducible rfl
 rotate_left
 ·
  simp only [pz]
  rfl
 refine take_ (i := 3) (N := some 10) (v := ?_) (a' := ?_) (bm 16 15) rfl rfl (by kernel_rfl) (fun _ _ _ h => h) (Or.inl ⟨by rfl, ?_⟩) hHeld ?_ ?_
 rotate_left
 ·
  rintro u ⟨s0, s1⟩
  go_simp
  with_reducible rfl
 rotate_left
 ·
  simp only [pz]
  rfl
 refine pure_ (i := 4) (N := some 11) (v := ?_) (a' := ?_) (bm 16 31) rfl rfl (by kernel_rfl) (fun _ _ _ h => h) (Or.inl ⟨by rfl, ?_⟩) ?_ ?_
 rotate_left
 ·
  intro u
  go_simp
  with_reducible rfl
 rotate_left
 ·
  simp only [pz]
  rfl
 refine pure_ (i := 5) (N := some 12) (v := ?_) (a' := ?_) (bm 16 63) rfl rfl (by kernel_rfl) (fun _ _ _ h => h) (Or.inl ⟨by rfl, ?_⟩) ?_ ?_
 rotate_left
 ·
  intro u
  go_simp
  with_reducible rfl
 rotate_left
 ·
  simp only [pz]
  rfl
 refine pure_ (i := 6) (N := some 13) (v := ?_) (a' := ?_) (bm 16 127) rfl rfl (by kernel_rfl) (fun _ _ _ h => h) (Or.inl ⟨by rfl, ?_⟩) ?_ ?_
 rotate_left
 ·
  intro u
  go_simp
  with_reducible rfl
 rotate_left
 ·
  simp only [pz]
  rfl
 refine take_ (i := 7) (N := some 14) (v := ?_) (a' := ?_) (bm 16 255) rfl rfl (by kernel_rfl) (fun _ _ _ h => h) (Or.inl ⟨by rfl, ?_⟩) hHeld ?_ ?_
 rotate_left
 ·
  rintro u ⟨s0, s1⟩
  go_simp
  with_reducible rfl
 rotate_left
 ·
  simp only [pz]
  rfl
 refine last_ (i := 8) (N := some 15) (bm 16 511) rfl rfl (by kernel_rfl) (by decide) (fun K hK => ?_)
 refine goes_ Try.func50 (by kernel_rfl) rfl #[.slice A l.length c, .int .i64 at_] (by rfl) rfl rfl (by (try simp only [ml]); first | done | rfl) ?_
 refine (leb_ReadUleb.calls A c l at_ n en er _ (Kd.C_below HC.out (below_drew HB.out)) HCC.out HR.out).mono ?_
 rintro e w1 ⟨rfl, hw1⟩
 refine ⟨_, rfl, ?_⟩
 have HB1 := am (below_step (below_drew HB.out) hw1)
 have HGR := am (grown_below' (grown_drew (World.grownBy.refl w (some g))) hw1)
 have H1 := am (blk_below (blk_drew H.out) hw1)
 have q0 : w1.cell? ⟨g, 1, none⟩ = some (.int .i64 at_) := (blk_cell H1.out 1).trans rfl
 have q1 : w1.cell? ⟨g, 2, none⟩ = some (.bool bad) := (blk_cell H1.out 2).trans rfl
 have q2 := blk_frozen H1.out 1
 have q3 := blk_frozen H1.out 2
 clear hw1 hHeld
 refine hK.out _ _ ?_
 clear hK K
 refine norm_ (a' := ?_) ?_ ?_
 rotate_left
 ·
  show Act.put _ (some 15) _ = _
  simp only [pz]
  rfl
 refine pure_ (i := 9) (N := some 6) (v := ?_) (a' := ?_) (bm 16 1023) rfl rfl (by kernel_rfl) (fun _ _ _ h => h) (Or.inl ⟨by rfl, ?_⟩) ?_ ?_
 rotate_left
 ·
  intro u
  go_simp
  with_reducible rfl
 rotate_left
 ·
  simp only [pz]
  rfl
 refine pure_ (i := 10) (N := some 16) (v := ?_) (a' := ?_) (bm 16 2047) rfl rfl (by kernel_rfl) (fun _ _ _ h => h) (Or.inl ⟨by rfl, ?_⟩) ?_ ?_
 rotate_left
 ·
  intro u
  go_simp
  with_reducible rfl
 rotate_left
 ·
  simp only [pz]
  rfl
 refine pure_ (i := 11) (N := some 17) (v := ?_) (a' := ?_) (bm 16 4095) rfl rfl (by kernel_rfl) (fun _ _ _ h => h) (Or.inl ⟨by rfl, ?_⟩) ?_ ?_
 rotate_left
 ·
  intro u
  go_simp
  with_reducible rfl
 rotate_left
 ·
  simp only [pz]
  rfl
 refine pure_ (i := 12) (N := some 18) (v := ?_) (a' := ?_) (bm 16 8191) rfl rfl (by kernel_rfl) (fun _ _ _ h => h) (Or.inl ⟨by rfl, ?_⟩) ?_ ?_
 rotate_left
 ·
  intro u
  go_simp
  with_reducible rfl
 rotate_left
 ·
  simp only [pz]
  rfl
 refine pure_ (i := 13) (N := some 3) (v := ?_) (a' := ?_) (bm 16 16383) rfl rfl (by kernel_rfl) (fun _ _ _ h => h) (Or.inl ⟨by rfl, ?_⟩) ?_ ?_
 rotate_left
 ·
  intro u
  go_simp
  with_reducible rfl
 rotate_left
 ·
  simp only [pz]
  rfl
 refine pure_ (i := 14) (N := some 4) (v := ?_) (a' := ?_) (bm 16 32767) rfl rfl (by kernel_rfl) (fun _ _ _ h => h) (Or.inl ⟨by rfl, ?_⟩) ?_ ?_
 rotate_left
 ·
  intro u
  go_simp
  with_reducible rfl
 rotate_left
 ·
  simp only [pz]
  rfl
 refine pure_ (i := 15) (N := some 5) (v := ?_) (a' := ?_) (bm 16 65535) rfl rfl (by kernel_rfl) (fun _ _ _ h => h) (Or.inl ⟨by rfl, ?_⟩) ?_ ?_
 rotate_left
 ·
  intro u
  go_simp
  with_reducible rfl
 rotate_left
 ·
  simp only [pz]
  rfl
 refine done_ (by kernel_rfl) ?_
 have hfin : ∀ v : Bool, Rd ((w1.setCell ⟨g, 2, none⟩ (.bool v)).setCell ⟨g, 1, none⟩ (.int .i64 en)) g A l.length c en v := fun v => rd_put H1.out v en
 have HFIN := am hfin
 have hb2 : ∀ v : Bool, Below w0.heap.size w0 ((w1.setCell ⟨g, 2, none⟩ (.bool v)).setCell ⟨g, 1, none⟩ (.int .i64 en)) := fun v => (HB1.out.setCell HG.out _).setCell HG.out _
 have HB2 := am hb2
 have hg2 : ∀ v : Bool, w.grownBy ((w1.setCell ⟨g, 2, none⟩ (.bool v)).setCell ⟨g, 1, none⟩ (.int .i64 en)) (some g) := fun v => grown_set' (grown_set' HGR.out _ _) _ _
 have HG2 := am hg2
 clear hfin hb2 hg2
 by_cases ce : er = 0
 ·
  subst ce
  cases bad <;>
  ·
   go_wp2
   go_ret
   exact ⟨rfl, HB2.out _, HFIN.out _, HG2.out _⟩
 obtain ⟨d1, d2⟩ := may_ne ce
 clear ce
 cases bad <;>
 ·
  go_wp2
  go_ret
  exact ⟨rfl, HB2.out _, by rw [d2]; exact HFIN.out _, HG2.out _⟩
theorem number_calls (w0 w : World) (g : Nat) (A : Option Addr) (c : Nat) (l : List Int) (hC : Kd.C (Kd.int .u8) w0 A l.length l) (hc : l.length ≤ c) (hB : Below w0.heap.size w0 w) (hg : w0.heap.size ≤ g) (at_ : Int) (bad : Bool) (size : Int) (hs : 0 ≤ at_ + size ∧ at_ + size ≤ 9223372036854775807) (h : Rd w g A l.length c at_ bad) (k : Nat) (n er : Int) (hr : leb_Get.f k l at_ size false = some (n, er)) :
    Calls Try.prog 108 #[.pointer (some ⟨g, 0, none⟩), .int .i64 size] w fun e w' => e = .returned (.int .i64 n) ∧ Below w0.heap.size w0 w' ∧ Rd w' g A l.length c (at_ + size) (bad || er != 0) ∧ w.grownBy w' (some g) := by
 have HC := am hC
 have HB := am hB
 have HG := am hg
 have HR := am hr
 have H := am h
 have HCC := am hc
 have f0 : w.cell? ⟨g, 0, none⟩ = some (.slice A l.length c) := (blk_cell h 0).trans rfl
 have f1 : w.cell? ⟨g, 1, none⟩ = some (.int .i64 at_) := (blk_cell h 1).trans rfl
 have hwr : wrap64 (at_ + size) = at_ + size := by unfold wrap64; omega
 have hwi : IntKind.i64.wrap (at_ + size) = at_ + size := by rw [IntKind.wrap_i64]; omega
 clear hC hc hB hg h hr hs
 go_enter Try.func108, Try.ntmps108
 go_wp2
 refine start_ (n := 15) (S := fun u => u.cell? ⟨g, 0, none⟩ = some (.slice A l.length c) ∧ u.cell? ⟨g, 1, none⟩ = some (.int .i64 at_)) (ds := [9]) (bm 15 0) (by kernel_rfl) rfl rfl ?_ (fun hHeld => ?_)
 case refine_1 => exact ⟨by go_simp, by go_simp⟩
 refine pure_ (i := 0) (N := some 8) (v := ?_) (a' := ?_) (bm 15 1) rfl rfl (by kernel_rfl) (fun _ _ _ h => h) (Or.inl ⟨by rfl, ?_⟩) ?_ ?_
 rotate_left
 ·
  intro u
  go_simp
  with_reducible rfl
 rotate_left
 ·
  simp only [pz]
  rfl
 refine pure_ (i := 1) (N := some 9) (v := ?_) (a' := ?_) (bm 15 3) rfl rfl (by kernel_rfl) (fun _ _ _ h => h) (Or.inl ⟨by rfl, ?_⟩) ?_ ?_
 rotate_left
 ·
  intro u
  go_simp
  with_reducible rfl
 rotate_left
 ·
  simp only [pz]
  rfl
 refine pure_ (i := 2) (N := some 10) (v := ?_) (a' := ?_) (bm 15 7) rfl rfl (by kernel_rfl) (fun _ _ _ h => h) (Or.inl ⟨by rfl, ?_⟩) ?_ ?_
 rotate_left
 ·
  intro u
  go_simp
  with_reducible rfl
 rotate_left
 ·
  simp only [pz]
  rfl
 refine take_ (i := 3) (N := some 11) (v := ?_) (a' := ?_) (bm 15 15) rfl rfl (by kernel_rfl) (fun _ _ _ h => h) (Or.inl ⟨by rfl, ?_⟩) hHeld ?_ ?_
 rotate_left
 ·
  rintro u ⟨s0, s1⟩
  go_simp
  with_reducible rfl
 rotate_left
 ·
  simp only [pz]
  rfl
 refine pure_ (i := 4) (N := some 12) (v := ?_) (a' := ?_) (bm 15 31) rfl rfl (by kernel_rfl) (fun _ _ _ h => h) (Or.inl ⟨by rfl, ?_⟩) ?_ ?_
 rotate_left
 ·
  intro u
  go_simp
  with_reducible rfl
 rotate_left
 ·
  simp only [pz]
  rfl
 refine pure_ (i := 5) (N := some 13) (v := ?_) (a' := ?_) (bm 15 63) rfl rfl (by kernel_rfl) (fun _ _ _ h => h) (Or.inl ⟨by rfl, ?_⟩) ?_ ?_
 rotate_left
 ·
  intro u
  go_simp
  with_reducible rfl
 rotate_left
 ·
  simp only [pz]
  rfl
 refine pure_ (i := 6) (N := some 14) (v := ?_) (a' := ?_) (bm 15 127) rfl rfl (by kernel_rfl) (fun _ _ _ h => h) (Or.inl ⟨by rfl, ?_⟩) ?_ ?_
 rotate_left
 ·
  intro u
  go_simp
  with_reducible rfl
 rotate_left
 ·
  simp only [pz]
  rfl
 refine take_ (i := 7) (N := some 15) (v := ?_) (a' := ?_) (bm 15 255) rfl rfl (by kernel_rfl) (fun _ _ _ h => h) (Or.inl ⟨by rfl, ?_⟩) hHeld ?_ ?_
 rotate_left
 ·
  rintro u ⟨s0, s1⟩
  go_simp
  with_reducible rfl
 rotate_left
 ·
  simp only [pz]
  rfl
 refine pure_ (i := 8) (N := some 16) (v := ?_) (a' := ?_) (bm 15 511) rfl rfl (by kernel_rfl) (fun _ _ _ h => h) (Or.inl ⟨by rfl, ?_⟩) ?_ ?_
 rotate_left
 ·
  intro u
  go_simp
  with_reducible rfl
 rotate_left
 ·
  simp only [pz]
  rfl
 refine last_ (i := 9) (N := some 17) (bm 15 1023) rfl rfl (by kernel_rfl) (by decide) (fun K hK => ?_)
 refine goes_ Try.func48 (by kernel_rfl) rfl #[.slice A l.length c, .int .i64 at_, .int .i64 size, .bool false] (by rfl) rfl rfl (by (try simp only [ml]); first | done | rfl) ?_
 refine (leb_Get.calls k A c l at_ size false n er _ (Kd.C_below HC.out (below_drew HB.out)) HCC.out HR.out).mono ?_
 rintro e w1 ⟨rfl, hw1⟩
 have hw1 := hw1.below
 refine ⟨_, rfl, ?_⟩
 have HB1 := am (below_step (below_drew HB.out) hw1)
 have HGR := am (grown_below' (grown_drew (World.grownBy.refl w (some g))) hw1)
 have H1 := am (blk_below (blk_drew H.out) hw1)
 have q0 : w1.cell? ⟨g, 1, none⟩ = some (.int .i64 at_) := (blk_cell H1.out 1).trans rfl
 have q1 : w1.cell? ⟨g, 2, none⟩ = some (.bool bad) := (blk_cell H1.out 2).trans rfl
 have q2 := blk_frozen H1.out 1
 have q3 := blk_frozen H1.out 2
 clear hw1 hHeld
 refine hK.out _ _ ?_
 clear hK K
 refine norm_ (a' := ?_) ?_ ?_
 rotate_left
 ·
  show Act.put _ (some 17) _ = _
  simp only [pz]
  rfl
 refine pure_ (i := 10) (N := some 7) (v := ?_) (a' := ?_) (bm 15 2047) rfl rfl (by kernel_rfl) (fun _ _ _ h => h) (Or.inl ⟨by rfl, ?_⟩) ?_ ?_
 rotate_left
 ·
  intro u
  go_simp
  with_reducible rfl
 rotate_left
 ·
  simp only [pz]
  rfl
 refine pure_ (i := 11) (N := some 18) (v := ?_) (a' := ?_) (bm 15 4095) rfl rfl (by kernel_rfl) (fun _ _ _ h => h) (Or.inl ⟨by rfl, ?_⟩) ?_ ?_
 rotate_left
 ·
  intro u
  go_simp
  with_reducible rfl
 rotate_left
 ·
  simp only [pz]
  rfl
 refine pure_ (i := 12) (N := some 19) (v := ?_) (a' := ?_) (bm 15 8191) rfl rfl (by kernel_rfl) (fun _ _ _ h => h) (Or.inl ⟨by rfl, ?_⟩) ?_ ?_
 rotate_left
 ·
  intro u
  go_simp
  with_reducible rfl
 rotate_left
 ·
  simp only [pz]
  rfl
 refine pure_ (i := 13) (N := some 5) (v := ?_) (a' := ?_) (bm 15 16383) rfl rfl (by kernel_rfl) (fun _ _ _ h => h) (Or.inl ⟨by rfl, ?_⟩) ?_ ?_
 rotate_left
 ·
  intro u
  go_simp
  with_reducible rfl
 rotate_left
 ·
  simp only [pz]
  rfl
 refine pure_ (i := 14) (N := some 6) (v := ?_) (a' := ?_) (bm 15 32767) rfl rfl (by kernel_rfl) (fun _ _ _ h => h) (Or.inl ⟨by rfl, ?_⟩) ?_ ?_
 rotate_left
 ·
  intro u
  go_simp
  with_reducible rfl
 rotate_left
 ·
  simp only [pz]
  rfl
 refine done_ (by kernel_rfl) ?_
 have hfin : ∀ v : Bool, Rd ((w1.setCell ⟨g, 2, none⟩ (.bool v)).setCell ⟨g, 1, none⟩ (.int .i64 (at_ + size))) g A l.length c (at_ + size) v := fun v => rd_put H1.out v (at_ + size)
 have HFIN := am hfin
 have hb2 : ∀ v : Bool, Below w0.heap.size w0 ((w1.setCell ⟨g, 2, none⟩ (.bool v)).setCell ⟨g, 1, none⟩ (.int .i64 (at_ + size))) := fun v => (HB1.out.setCell HG.out _).setCell HG.out _
 have HB2 := am hb2
 have hg2 : ∀ v : Bool, w.grownBy ((w1.setCell ⟨g, 2, none⟩ (.bool v)).setCell ⟨g, 1, none⟩ (.int .i64 (at_ + size))) (some g) := fun v => grown_set' (grown_set' HGR.out _ _) _ _
 have HG2 := am hg2
 clear hfin hb2 hg2
 by_cases ce : er = 0
 ·
  subst ce
  cases bad <;>
  ·
   go_wp2
   go_ret
   exact ⟨rfl, HB2.out _, HFIN.out _, HG2.out _⟩
 obtain ⟨d1, d2⟩ := may_ne ce
 clear ce
 cases bad <;>
 ·
  go_wp2
  go_ret
  exact ⟨rfl, HB2.out _, by rw [d2]; exact HFIN.out _, HG2.out _⟩
def facV (n : Int) (bad : Bool) : Int × Bool := if n < -1099511627776 then (0, true) else if n > 1099511627776 then (0, true) else (-8 * n, bad)
theorem factored_calls (w0 w : World) (g : Nat) (A : Option Addr) (len c : Nat) (hB : Below w0.heap.size w0 w) (hg : w0.heap.size ≤ g) (at_ : Int) (bad : Bool) (h : Rd w g A len c at_ bad) (n : Int) :
    Calls Try.prog 106 #[.pointer (some ⟨g, 0, none⟩), .int .i64 n] w fun e w' => e = .returned (.int .i64 (facV n bad).1) ∧ Below w0.heap.size w0 w' ∧ Rd w' g A len c at_ (facV n bad).2 ∧ w.grownBy w' (some g) := by
 have HB := am hB
 have HG := am hg
 have H := am h
 have q1 : w.cell? ⟨g, 2, none⟩ = some (.bool bad) := (blk_cell h 2).trans rfl
 have q3 := blk_frozen h 2
 have HP : Aside0 (Rd (w.setCell ⟨g, 2, none⟩ (.bool true)) g A len c at_ true) := ⟨blk_put h 2 _ (by rfl)⟩
 unfold facV
 clear hB hg h
 by_cases c1 : n < -1099511627776
 ·
  rw [if_pos c1]
  have d1 : decide (n < -1099511627776) = true := decide_eq_true c1
  clear c1
  go_enter Try.func106, Try.ntmps106
  go_wp2
  go_ret
  exact ⟨rfl, HB.out.setCell HG.out _, HP.out, grown_set _ _ _ _⟩
 rw [if_neg c1]
 have d1 : decide (n < -1099511627776) = false := decide_eq_false c1
 by_cases c2 : n > 1099511627776
 ·
  rw [if_pos c2]
  have d2 : decide (n > 1099511627776) = true := decide_eq_true c2
  clear c1 c2
  go_enter Try.func106, Try.ntmps106
  go_wp2
  go_ret
  exact ⟨rfl, HB.out.setCell HG.out _, HP.out, grown_set _ _ _ _⟩
 rw [if_neg c2]
 have d2 : decide (n > 1099511627776) = false := decide_eq_false c2
 have hw : wrap64 (-8 * n) = -8 * n := by unfold wrap64; omega
 have hwi : IntKind.i64.wrap (-8 * n) = -8 * n := by rw [IntKind.wrap_i64]; omega
 clear c1 c2
 go_enter Try.func106, Try.ntmps106
 go_wp2
 go_ret
 exact ⟨rfl, HB.out, H.out, World.grownBy.refl _ _⟩
def OpPost (w0 w : World) (g : Nat) (A : Option Addr) (len c : Nat) (o : Int × Int × Int) (at_ : Int) (e : Ending) (w' : World) : Prop :=
  e = .returned (.agg #[.int .i64 o.1, .int .i64 o.2.1, .int .i64 o.2.2]) ∧ Below w0.heap.size w0 w' ∧ Rd w' g A len c at_ false ∧ w.grownBy w' (some g)
theorem op_size : (Try.prog.info? 105).map (·.size) = some 3 := by kernel_rfl
theorem op_recall (w0 w : World) (g : Nat) (A : Option Addr) (len c : Nat) (hB : Below w0.heap.size w0 w) (hg : w0.heap.size ≤ g) (at_ : Int) (h : Rd w g A len c at_ false) :
    Calls Try.prog 94 #[.pointer (some ⟨g, 0, none⟩), .int .i64 11] w (OpPost w0 w g A len c (10, 0, 0) at_) := by
 have HB := am hB
 have HG := am hg
 have H := am h
 have hgl := blk_lt h
 clear hB hg h
 go_enter Try.func94, Try.ntmps94
 go_wp2
 exact bodyPost_ret (v := .agg #[.int .i64 10, .int .i64 0, .int .i64 0]) (results_single (r := .cell 4 105) rfl (.cell w.heap.size 105 _ (0, 0) _ rfl (blk_new w _) Try.underlying105 rfl op_size .nil)) rfl ⟨rfl, (HB.out.trans ((below_alloc (Below.refl w.heap.size w) _).mono HB.out.size)), blk_alloc H.out _, grown_alloc (World.grownBy.refl _ _) _⟩
theorem op_remember (w0 w : World) (g : Nat) (A : Option Addr) (len c : Nat) (hB : Below w0.heap.size w0 w) (hg : w0.heap.size ≤ g) (at_ : Int) (h : Rd w g A len c at_ false) :
    Calls Try.prog 94 #[.pointer (some ⟨g, 0, none⟩), .int .i64 10] w (OpPost w0 w g A len c (9, 0, 0) at_) := by
 have HB := am hB
 have HG := am hg
 have H := am h
 have hgl := blk_lt h
 clear hB hg h
 go_enter Try.func94, Try.ntmps94
 go_wp2
 exact bodyPost_ret (v := .agg #[.int .i64 9, .int .i64 0, .int .i64 0]) (results_single (r := .cell 4 105) rfl (.cell w.heap.size 105 _ (0, 0) _ rfl (blk_new w _) Try.underlying105 rfl op_size .nil)) rfl ⟨rfl, (HB.out.trans ((below_alloc (Below.refl w.heap.size w) _).mono HB.out.size)), blk_alloc H.out _, grown_alloc (World.grownBy.refl _ _) _⟩
theorem op_nop (w0 w : World) (g : Nat) (A : Option Addr) (len c : Nat) (hB : Below w0.heap.size w0 w) (hg : w0.heap.size ≤ g) (at_ : Int) (h : Rd w g A len c at_ false) :
    Calls Try.prog 94 #[.pointer (some ⟨g, 0, none⟩), .int .i64 0] w (OpPost w0 w g A len c (0, 0, 0) at_) := by
 have HB := am hB
 have HG := am hg
 have H := am h
 have hgl := blk_lt h
 clear hB hg h
 go_enter Try.func94, Try.ntmps94
 go_wp2
 exact bodyPost_ret (v := .agg #[.int .i64 0, .int .i64 0, .int .i64 0]) (results_single (r := .cell 4 105) rfl (.cell w.heap.size 105 _ (0, 0) _ rfl (blk_new w _) Try.underlying105 rfl op_size .nil)) rfl ⟨rfl, (HB.out.trans ((below_alloc (Below.refl w.heap.size w) _).mono HB.out.size)), blk_alloc H.out _, grown_alloc (World.grownBy.refl _ _) _⟩
theorem grown_far {w w' : World} {row : Option Nat} (h : w.grownBy w' row) {b : Nat} (hb : w.heap.size ≤ b) (j : Nat) (v : Value) : w.grownBy (w'.setCell ⟨b, j, none⟩ v) row :=
  ⟨h.os, h.tape, h.output, by simpa [World.setCell] using h.size, fun k hk hr => (Below.heap_setCell w' ⟨b, j, none⟩ v k (fun e => absurd (show k = b from e) (Nat.ne_of_lt (Nat.lt_of_lt_of_le hk hb)))).trans (h.block k hk hr)⟩
theorem op_defRegister (w0 w : World) (g : Nat) (A : Option Addr) (c : Nat) (l : List Int) (hC : Kd.C (Kd.int .u8) w0 A l.length l) (hc : l.length ≤ c) (hB : Below w0.heap.size w0 w) (hg : w0.heap.size ≤ g) (at_ : Int) (h : Rd w g A l.length c at_ false) (x en : Int) (hr : leb_ReadUleb.f l at_ = some (x, en, 0)) :
    Calls Try.prog 94 #[.pointer (some ⟨g, 0, none⟩), .int .i64 13] w (OpPost w0 w g A l.length c (4, x, 0) en) := by
 have HC := am hC
 have HCC := am hc
 have HR := am hr
 have HB := am hB
 have HG := am hg
 have H := am h
 have hgl : g < w.heap.size := blk_lt h
 have hne : w.heap.size ≠ g := Nat.ne_of_gt hgl
 clear hB hg h hC hc hr
 go_enter Try.func94, Try.ntmps94
 go_wp2_with fail
 refine (uleb_calls w0 _ g A c l HC.out HCC.out (HB.out.trans ((below_alloc (Below.refl w.heap.size w) _).mono HB.out.size)) HG.out at_ false (blk_alloc H.out _) x en 0 HR.out).mono ?_
 rintro e w1 ⟨rfl, hb1, hr1, hg1⟩
 have HB1 := am hb1
 have H1 := am (show Rd w1 g A l.length c en false from hr1)
 have HG1 := am (World.grownBy.trans (grown_alloc (World.grownBy.refl w (some g)) (.cells #[.int .i64 0, .int .i64 0, .int .i64 0] 105)) hg1)
 have hbk := blk_grown (blk_new w (.cells #[.int .i64 0, .int .i64 0, .int .i64 0] 105)) hg1 (fun e => hne (Option.some.inj e))
 have HBK := am hbk
 have c0 : w1.cell? ⟨w.heap.size, 0, none⟩ = some (.int .i64 0) := (blk_cell hbk 0).trans rfl
 have c1 : w1.cell? ⟨w.heap.size, 1, none⟩ = some (.int .i64 0) := (blk_cell hbk 1).trans rfl
 have c2 : w1.cell? ⟨w.heap.size, 2, none⟩ = some (.int .i64 0) := (blk_cell hbk 2).trans rfl
 have d0 := blk_frozen hbk 0
 have d1 := blk_frozen hbk 1
 have d2 := blk_frozen hbk 2
 clear hb1 hr1 hg1 hbk
 go_wp2
 have hlo : w0.heap.size ≤ w.heap.size := HB.out.size
 exact bodyPost_ret (v := .agg #[.int .i64 4, .int .i64 x, .int .i64 0]) (results_single (r := .cell 4 105) rfl (.cell w.heap.size 105 _ (0, 0) _ rfl (blk_put (blk_put (blk_put HBK.out 0 _ rfl) 1 _ rfl) 2 _ rfl) Try.underlying105 rfl op_size .nil)) rfl ⟨rfl, ((HB1.out.setCell hlo _).setCell hlo _).setCell hlo _, blk_far (blk_far (blk_far H1.out hne.symm _) hne.symm _) hne.symm _, grown_far (grown_far (grown_far HG1.out (Nat.le_refl _) _ _) (Nat.le_refl _) _ _) (Nat.le_refl _) _ _⟩
theorem op_defOffset (w0 w : World) (g : Nat) (A : Option Addr) (c : Nat) (l : List Int) (hC : Kd.C (Kd.int .u8) w0 A l.length l) (hc : l.length ≤ c) (hB : Below w0.heap.size w0 w) (hg : w0.heap.size ≤ g) (at_ : Int) (h : Rd w g A l.length c at_ false) (x en : Int) (hr : leb_ReadUleb.f l at_ = some (x, en, 0)) :
    Calls Try.prog 94 #[.pointer (some ⟨g, 0, none⟩), .int .i64 14] w (OpPost w0 w g A l.length c (3, 0, x) en) := by
 have HC := am hC
 have HCC := am hc
 have HR := am hr
 have HB := am hB
 have HG := am hg
 have H := am h
 have hgl : g < w.heap.size := blk_lt h
 have hne : w.heap.size ≠ g := Nat.ne_of_gt hgl
 clear hB hg h hC hc hr
 go_enter Try.func94, Try.ntmps94
 go_wp2_with fail
 refine (uleb_calls w0 _ g A c l HC.out HCC.out (HB.out.trans ((below_alloc (Below.refl w.heap.size w) _).mono HB.out.size)) HG.out at_ false (blk_alloc H.out _) x en 0 HR.out).mono ?_
 rintro e w1 ⟨rfl, hb1, hr1, hg1⟩
 have HB1 := am hb1
 have H1 := am (show Rd w1 g A l.length c en false from hr1)
 have HG1 := am (World.grownBy.trans (grown_alloc (World.grownBy.refl w (some g)) (.cells #[.int .i64 0, .int .i64 0, .int .i64 0] 105)) hg1)
 have hbk := blk_grown (blk_new w (.cells #[.int .i64 0, .int .i64 0, .int .i64 0] 105)) hg1 (fun e => hne (Option.some.inj e))
 have HBK := am hbk
 have c0 : w1.cell? ⟨w.heap.size, 0, none⟩ = some (.int .i64 0) := (blk_cell hbk 0).trans rfl
 have c1 : w1.cell? ⟨w.heap.size, 1, none⟩ = some (.int .i64 0) := (blk_cell hbk 1).trans rfl
 have c2 : w1.cell? ⟨w.heap.size, 2, none⟩ = some (.int .i64 0) := (blk_cell hbk 2).trans rfl
 have d0 := blk_frozen hbk 0
 have d1 := blk_frozen hbk 1
 have d2 := blk_frozen hbk 2
 clear hb1 hr1 hg1 hbk
 go_wp2
 have hlo : w0.heap.size ≤ w.heap.size := HB.out.size
 exact bodyPost_ret (v := .agg #[.int .i64 3, .int .i64 0, .int .i64 x]) (results_single (r := .cell 4 105) rfl (.cell w.heap.size 105 _ (0, 0) _ rfl (blk_put (blk_put (blk_put HBK.out 0 _ rfl) 1 _ rfl) 2 _ rfl) Try.underlying105 rfl op_size .nil)) rfl ⟨rfl, ((HB1.out.setCell hlo _).setCell hlo _).setCell hlo _, blk_far (blk_far (blk_far H1.out hne.symm _) hne.symm _) hne.symm _, grown_far (grown_far (grown_far HG1.out (Nat.le_refl _) _ _) (Nat.le_refl _) _ _) (Nat.le_refl _) _ _⟩
theorem op_undefined (w0 w : World) (g : Nat) (A : Option Addr) (c : Nat) (l : List Int) (hC : Kd.C (Kd.int .u8) w0 A l.length l) (hc : l.length ≤ c) (hB : Below w0.heap.size w0 w) (hg : w0.heap.size ≤ g) (at_ : Int) (h : Rd w g A l.length c at_ false) (x en : Int) (hr : leb_ReadUleb.f l at_ = some (x, en, 0)) :
    Calls Try.prog 94 #[.pointer (some ⟨g, 0, none⟩), .int .i64 7] w (OpPost w0 w g A l.length c (7, x, 0) en) := by
 have HC := am hC
 have HCC := am hc
 have HR := am hr
 have HB := am hB
 have HG := am hg
 have H := am h
 have hgl : g < w.heap.size := blk_lt h
 have hne : w.heap.size ≠ g := Nat.ne_of_gt hgl
 clear hB hg h hC hc hr
 go_enter Try.func94, Try.ntmps94
 go_wp2_with fail
 refine (uleb_calls w0 _ g A c l HC.out HCC.out (HB.out.trans ((below_alloc (Below.refl w.heap.size w) _).mono HB.out.size)) HG.out at_ false (blk_alloc H.out _) x en 0 HR.out).mono ?_
 rintro e w1 ⟨rfl, hb1, hr1, hg1⟩
 have HB1 := am hb1
 have H1 := am (show Rd w1 g A l.length c en false from hr1)
 have HG1 := am (World.grownBy.trans (grown_alloc (World.grownBy.refl w (some g)) (.cells #[.int .i64 0, .int .i64 0, .int .i64 0] 105)) hg1)
 have hbk := blk_grown (blk_new w (.cells #[.int .i64 0, .int .i64 0, .int .i64 0] 105)) hg1 (fun e => hne (Option.some.inj e))
 have HBK := am hbk
 have c0 : w1.cell? ⟨w.heap.size, 0, none⟩ = some (.int .i64 0) := (blk_cell hbk 0).trans rfl
 have c1 : w1.cell? ⟨w.heap.size, 1, none⟩ = some (.int .i64 0) := (blk_cell hbk 1).trans rfl
 have c2 : w1.cell? ⟨w.heap.size, 2, none⟩ = some (.int .i64 0) := (blk_cell hbk 2).trans rfl
 have d0 := blk_frozen hbk 0
 have d1 := blk_frozen hbk 1
 have d2 := blk_frozen hbk 2
 clear hb1 hr1 hg1 hbk
 go_wp2
 have hlo : w0.heap.size ≤ w.heap.size := HB.out.size
 exact bodyPost_ret (v := .agg #[.int .i64 7, .int .i64 x, .int .i64 0]) (results_single (r := .cell 4 105) rfl (.cell w.heap.size 105 _ (0, 0) _ rfl (blk_put (blk_put (blk_put HBK.out 0 _ rfl) 1 _ rfl) 2 _ rfl) Try.underlying105 rfl op_size .nil)) rfl ⟨rfl, ((HB1.out.setCell hlo _).setCell hlo _).setCell hlo _, blk_far (blk_far (blk_far H1.out hne.symm _) hne.symm _) hne.symm _, grown_far (grown_far (grown_far HG1.out (Nat.le_refl _) _ _) (Nat.le_refl _) _ _) (Nat.le_refl _) _ _⟩
theorem op_sameValue (w0 w : World) (g : Nat) (A : Option Addr) (c : Nat) (l : List Int) (hC : Kd.C (Kd.int .u8) w0 A l.length l) (hc : l.length ≤ c) (hB : Below w0.heap.size w0 w) (hg : w0.heap.size ≤ g) (at_ : Int) (h : Rd w g A l.length c at_ false) (x en : Int) (hr : leb_ReadUleb.f l at_ = some (x, en, 0)) :
    Calls Try.prog 94 #[.pointer (some ⟨g, 0, none⟩), .int .i64 8] w (OpPost w0 w g A l.length c (8, x, 0) en) := by
 have HC := am hC
 have HCC := am hc
 have HR := am hr
 have HB := am hB
 have HG := am hg
 have H := am h
 have hgl : g < w.heap.size := blk_lt h
 have hne : w.heap.size ≠ g := Nat.ne_of_gt hgl
 clear hB hg h hC hc hr
 go_enter Try.func94, Try.ntmps94
 go_wp2_with fail
 refine (uleb_calls w0 _ g A c l HC.out HCC.out (HB.out.trans ((below_alloc (Below.refl w.heap.size w) _).mono HB.out.size)) HG.out at_ false (blk_alloc H.out _) x en 0 HR.out).mono ?_
 rintro e w1 ⟨rfl, hb1, hr1, hg1⟩
 have HB1 := am hb1
 have H1 := am (show Rd w1 g A l.length c en false from hr1)
 have HG1 := am (World.grownBy.trans (grown_alloc (World.grownBy.refl w (some g)) (.cells #[.int .i64 0, .int .i64 0, .int .i64 0] 105)) hg1)
 have hbk := blk_grown (blk_new w (.cells #[.int .i64 0, .int .i64 0, .int .i64 0] 105)) hg1 (fun e => hne (Option.some.inj e))
 have HBK := am hbk
 have c0 : w1.cell? ⟨w.heap.size, 0, none⟩ = some (.int .i64 0) := (blk_cell hbk 0).trans rfl
 have c1 : w1.cell? ⟨w.heap.size, 1, none⟩ = some (.int .i64 0) := (blk_cell hbk 1).trans rfl
 have c2 : w1.cell? ⟨w.heap.size, 2, none⟩ = some (.int .i64 0) := (blk_cell hbk 2).trans rfl
 have d0 := blk_frozen hbk 0
 have d1 := blk_frozen hbk 1
 have d2 := blk_frozen hbk 2
 clear hb1 hr1 hg1 hbk
 go_wp2
 have hlo : w0.heap.size ≤ w.heap.size := HB.out.size
 exact bodyPost_ret (v := .agg #[.int .i64 8, .int .i64 x, .int .i64 0]) (results_single (r := .cell 4 105) rfl (.cell w.heap.size 105 _ (0, 0) _ rfl (blk_put (blk_put (blk_put HBK.out 0 _ rfl) 1 _ rfl) 2 _ rfl) Try.underlying105 rfl op_size .nil)) rfl ⟨rfl, ((HB1.out.setCell hlo _).setCell hlo _).setCell hlo _, blk_far (blk_far (blk_far H1.out hne.symm _) hne.symm _) hne.symm _, grown_far (grown_far (grown_far HG1.out (Nat.le_refl _) _ _) (Nat.le_refl _) _ _) (Nat.le_refl _) _ _⟩
end Go.Proofs.Ytfgfnflhdabmcaa.CfaRd
end
section
namespace Go.Proofs.Ytfgfnflhdabmcaa.CfaRd
open Go.Proofs.Ytfgfnflhdabmcaa.Bit Go.RowKit Go.Proofs.Ytfgfnflhdabmcaa.G Go.Proofs.YtfgfnflhdabmcaaW.PrintWords Go.Proofs.YtfgfnflhdabmcaaW.PrintLast Go.Proofs.YtfgfnflhdabmcaaW.PrintMore Go.Proofs.Ytfgfnflhdabmcaa.Cfa
theorem b63 (b : Int) : Go.bits .and .i64 b 63 = b % 64 := i64_mask b 6 (by decide)
theorem op_advance (w0 w : World) (g : Nat) (A : Option Addr) (len c : Nat) (hB : Below w0.heap.size w0 w) (hg : w0.heap.size ≤ g) (at_ : Int) (h : Rd w g A len c at_ false) (b n : Int) (hb : b = 64 + n) (hn : 0 ≤ n ∧ n < 64) :
    Calls Try.prog 94 #[.pointer (some ⟨g, 0, none⟩), .int .i64 b] w (OpPost w0 w g A len c (1, 0, n) at_) := by
 have HB := am hB
 have HG := am hg
 have H := am h
 have hgl := blk_lt h
 have fq : b / 64 = 1 := by omega
 have fb : Go.bits .and .i64 b 63 = n := by rw [b63]; omega
 clear hB hg h hb hn
 go_enter Try.func94, Try.ntmps94
 go_wp2
 exact bodyPost_ret (v := .agg #[.int .i64 1, .int .i64 0, .int .i64 n]) (results_single (r := .cell 4 105) rfl (.cell w.heap.size 105 _ (0, 0) _ rfl (blk_new w _) Try.underlying105 rfl op_size .nil)) rfl ⟨rfl, (HB.out.trans ((below_alloc (Below.refl w.heap.size w) _).mono HB.out.size)), blk_alloc H.out _, grown_alloc (World.grownBy.refl _ _) _⟩
theorem op_restore (w0 w : World) (g : Nat) (A : Option Addr) (len c : Nat) (hB : Below w0.heap.size w0 w) (hg : w0.heap.size ≤ g) (at_ : Int) (h : Rd w g A len c at_ false) (b n : Int) (hb : b = 192 + n) (hn : 0 ≤ n ∧ n < 64) :
    Calls Try.prog 94 #[.pointer (some ⟨g, 0, none⟩), .int .i64 b] w (OpPost w0 w g A len c (6, n, 0) at_) := by
 have HB := am hB
 have HG := am hg
 have H := am h
 have hgl := blk_lt h
 have fq : b / 64 = 3 := by omega
 have fb : Go.bits .and .i64 b 63 = n := by rw [b63]; omega
 clear hB hg h hb hn
 go_enter Try.func94, Try.ntmps94
 go_wp2
 exact bodyPost_ret (v := .agg #[.int .i64 6, .int .i64 n, .int .i64 0]) (results_single (r := .cell 4 105) rfl (.cell w.heap.size 105 _ (0, 0) _ rfl (blk_new w _) Try.underlying105 rfl op_size .nil)) rfl ⟨rfl, (HB.out.trans ((below_alloc (Below.refl w.heap.size w) _).mono HB.out.size)), blk_alloc H.out _, grown_alloc (World.grownBy.refl _ _) _⟩
theorem op_number1 (w0 w : World) (g : Nat) (A : Option Addr) (c : Nat) (l : List Int) (hC : Kd.C (Kd.int .u8) w0 A l.length l) (hc : l.length ≤ c) (hB : Below w0.heap.size w0 w) (hg : w0.heap.size ≤ g) (at_ : Int) (h : Rd w g A l.length c at_ false) (hs : 0 ≤ at_ + 1 ∧ at_ + 1 ≤ 9223372036854775807) (k : Nat) (x : Int) (hr : leb_Get.f k l at_ 1 false = some (x, 0)) :
    Calls Try.prog 94 #[.pointer (some ⟨g, 0, none⟩), .int .i64 2] w (OpPost w0 w g A l.length c (1, 0, x) (at_ + 1)) := by
 have HC := am hC
 have HCC := am hc
 have HR := am hr
 have HS := am hs
 have HB := am hB
 have HG := am hg
 have H := am h
 have hgl : g < w.heap.size := blk_lt h
 have hne : w.heap.size ≠ g := Nat.ne_of_gt hgl
 clear hB hg h hC hc hr hs
 go_enter Try.func94, Try.ntmps94
 go_wp2_with fail
 refine (number_calls w0 _ g A c l HC.out HCC.out (HB.out.trans ((below_alloc (Below.refl w.heap.size w) _).mono HB.out.size)) HG.out at_ false 1 HS.out (blk_alloc H.out _) k x 0 HR.out).mono ?_
 rintro e w1 ⟨rfl, hb1, hr1, hg1⟩
 have HB1 := am hb1
 have H1 := am (show Rd w1 g A l.length c (at_ + 1) false from hr1)
 have HG1 := am (World.grownBy.trans (grown_alloc (World.grownBy.refl w (some g)) (.cells #[.int .i64 0, .int .i64 0, .int .i64 0] 105)) hg1)
 have hbk := blk_grown (blk_new w (.cells #[.int .i64 0, .int .i64 0, .int .i64 0] 105)) hg1 (fun e => hne (Option.some.inj e))
 have HBK := am hbk
 have c0 : w1.cell? ⟨w.heap.size, 0, none⟩ = some (.int .i64 0) := (blk_cell hbk 0).trans rfl
 have c1 : w1.cell? ⟨w.heap.size, 1, none⟩ = some (.int .i64 0) := (blk_cell hbk 1).trans rfl
 have c2 : w1.cell? ⟨w.heap.size, 2, none⟩ = some (.int .i64 0) := (blk_cell hbk 2).trans rfl
 have d0 := blk_frozen hbk 0
 have d1 := blk_frozen hbk 1
 have d2 := blk_frozen hbk 2
 clear hb1 hr1 hg1 hbk
 go_wp2
 have hlo : w0.heap.size ≤ w.heap.size := HB.out.size
 exact bodyPost_ret (v := .agg #[.int .i64 1, .int .i64 0, .int .i64 x]) (results_single (r := .cell 4 105) rfl (.cell w.heap.size 105 _ (0, 0) _ rfl (blk_put (blk_put (blk_put HBK.out 0 _ rfl) 1 _ rfl) 2 _ rfl) Try.underlying105 rfl op_size .nil)) rfl ⟨rfl, ((HB1.out.setCell hlo _).setCell hlo _).setCell hlo _, blk_far (blk_far (blk_far H1.out hne.symm _) hne.symm _) hne.symm _, grown_far (grown_far (grown_far HG1.out (Nat.le_refl _) _ _) (Nat.le_refl _) _ _) (Nat.le_refl _) _ _⟩
theorem op_number2 (w0 w : World) (g : Nat) (A : Option Addr) (c : Nat) (l : List Int) (hC : Kd.C (Kd.int .u8) w0 A l.length l) (hc : l.length ≤ c) (hB : Below w0.heap.size w0 w) (hg : w0.heap.size ≤ g) (at_ : Int) (h : Rd w g A l.length c at_ false) (hs : 0 ≤ at_ + 2 ∧ at_ + 2 ≤ 9223372036854775807) (k : Nat) (x : Int) (hr : leb_Get.f k l at_ 2 false = some (x, 0)) :
    Calls Try.prog 94 #[.pointer (some ⟨g, 0, none⟩), .int .i64 3] w (OpPost w0 w g A l.length c (1, 0, x) (at_ + 2)) := by
 have HC := am hC
 have HCC := am hc
 have HR := am hr
 have HS := am hs
 have HB := am hB
 have HG := am hg
 have H := am h
 have hgl : g < w.heap.size := blk_lt h
 have hne : w.heap.size ≠ g := Nat.ne_of_gt hgl
 clear hB hg h hC hc hr hs
 go_enter Try.func94, Try.ntmps94
 go_wp2_with fail
 refine (number_calls w0 _ g A c l HC.out HCC.out (HB.out.trans ((below_alloc (Below.refl w.heap.size w) _).mono HB.out.size)) HG.out at_ false 2 HS.out (blk_alloc H.out _) k x 0 HR.out).mono ?_
 rintro e w1 ⟨rfl, hb1, hr1, hg1⟩
 have HB1 := am hb1
 have H1 := am (show Rd w1 g A l.length c (at_ + 2) false from hr1)
 have HG1 := am (World.grownBy.trans (grown_alloc (World.grownBy.refl w (some g)) (.cells #[.int .i64 0, .int .i64 0, .int .i64 0] 105)) hg1)
 have hbk := blk_grown (blk_new w (.cells #[.int .i64 0, .int .i64 0, .int .i64 0] 105)) hg1 (fun e => hne (Option.some.inj e))
 have HBK := am hbk
 have c0 : w1.cell? ⟨w.heap.size, 0, none⟩ = some (.int .i64 0) := (blk_cell hbk 0).trans rfl
 have c1 : w1.cell? ⟨w.heap.size, 1, none⟩ = some (.int .i64 0) := (blk_cell hbk 1).trans rfl
 have c2 : w1.cell? ⟨w.heap.size, 2, none⟩ = some (.int .i64 0) := (blk_cell hbk 2).trans rfl
 have d0 := blk_frozen hbk 0
 have d1 := blk_frozen hbk 1
 have d2 := blk_frozen hbk 2
 clear hb1 hr1 hg1 hbk
 go_wp2
 have hlo : w0.heap.size ≤ w.heap.size := HB.out.size
 exact bodyPost_ret (v := .agg #[.int .i64 1, .int .i64 0, .int .i64 x]) (results_single (r := .cell 4 105) rfl (.cell w.heap.size 105 _ (0, 0) _ rfl (blk_put (blk_put (blk_put HBK.out 0 _ rfl) 1 _ rfl) 2 _ rfl) Try.underlying105 rfl op_size .nil)) rfl ⟨rfl, ((HB1.out.setCell hlo _).setCell hlo _).setCell hlo _, blk_far (blk_far (blk_far H1.out hne.symm _) hne.symm _) hne.symm _, grown_far (grown_far (grown_far HG1.out (Nat.le_refl _) _ _) (Nat.le_refl _) _ _) (Nat.le_refl _) _ _⟩
theorem op_number4 (w0 w : World) (g : Nat) (A : Option Addr) (c : Nat) (l : List Int) (hC : Kd.C (Kd.int .u8) w0 A l.length l) (hc : l.length ≤ c) (hB : Below w0.heap.size w0 w) (hg : w0.heap.size ≤ g) (at_ : Int) (h : Rd w g A l.length c at_ false) (hs : 0 ≤ at_ + 4 ∧ at_ + 4 ≤ 9223372036854775807) (k : Nat) (x : Int) (hr : leb_Get.f k l at_ 4 false = some (x, 0)) :
    Calls Try.prog 94 #[.pointer (some ⟨g, 0, none⟩), .int .i64 4] w (OpPost w0 w g A l.length c (1, 0, x) (at_ + 4)) := by
 have HC := am hC
 have HCC := am hc
 have HR := am hr
 have HS := am hs
 have HB := am hB
 have HG := am hg
 have H := am h
 have hgl : g < w.heap.size := blk_lt h
 have hne : w.heap.size ≠ g := Nat.ne_of_gt hgl
 clear hB hg h hC hc hr hs
 go_enter Try.func94, Try.ntmps94
 go_wp2_with fail
 refine (number_calls w0 _ g A c l HC.out HCC.out (HB.out.trans ((below_alloc (Below.refl w.heap.size w) _).mono HB.out.size)) HG.out at_ false 4 HS.out (blk_alloc H.out _) k x 0 HR.out).mono ?_
 rintro e w1 ⟨rfl, hb1, hr1, hg1⟩
 have HB1 := am hb1
 have H1 := am (show Rd w1 g A l.length c (at_ + 4) false from hr1)
 have HG1 := am (World.grownBy.trans (grown_alloc (World.grownBy.refl w (some g)) (.cells #[.int .i64 0, .int .i64 0, .int .i64 0] 105)) hg1)
 have hbk := blk_grown (blk_new w (.cells #[.int .i64 0, .int .i64 0, .int .i64 0] 105)) hg1 (fun e => hne (Option.some.inj e))
 have HBK := am hbk
 have c0 : w1.cell? ⟨w.heap.size, 0, none⟩ = some (.int .i64 0) := (blk_cell hbk 0).trans rfl
 have c1 : w1.cell? ⟨w.heap.size, 1, none⟩ = some (.int .i64 0) := (blk_cell hbk 1).trans rfl
 have c2 : w1.cell? ⟨w.heap.size, 2, none⟩ = some (.int .i64 0) := (blk_cell hbk 2).trans rfl
 have d0 := blk_frozen hbk 0
 have d1 := blk_frozen hbk 1
 have d2 := blk_frozen hbk 2
 clear hb1 hr1 hg1 hbk
 go_wp2
 have hlo : w0.heap.size ≤ w.heap.size := HB.out.size
 exact bodyPost_ret (v := .agg #[.int .i64 1, .int .i64 0, .int .i64 x]) (results_single (r := .cell 4 105) rfl (.cell w.heap.size 105 _ (0, 0) _ rfl (blk_put (blk_put (blk_put HBK.out 0 _ rfl) 1 _ rfl) 2 _ rfl) Try.underlying105 rfl op_size .nil)) rfl ⟨rfl, ((HB1.out.setCell hlo _).setCell hlo _).setCell hlo _, blk_far (blk_far (blk_far H1.out hne.symm _) hne.symm _) hne.symm _, grown_far (grown_far (grown_far HG1.out (Nat.le_refl _) _ _) (Nat.le_refl _) _ _) (Nat.le_refl _) _ _⟩
theorem op_defCfa (w0 w : World) (g : Nat) (A : Option Addr) (c : Nat) (l : List Int) (hC : Kd.C (Kd.int .u8) w0 A l.length l) (hc : l.length ≤ c) (hB : Below w0.heap.size w0 w) (hg : w0.heap.size ≤ g) (at_ : Int) (h : Rd w g A l.length c at_ false) (x en y en2 : Int) (hr : leb_ReadUleb.f l at_ = some (x, en, 0)) (hr2 : leb_ReadUleb.f l en = some (y, en2, 0)) :
    Calls Try.prog 94 #[.pointer (some ⟨g, 0, none⟩), .int .i64 12] w (OpPost w0 w g A l.length c (2, x, y) en2) := by
 have HC := am hC
 have HCC := am hc
 have HR := am hr
 have HR2 := am hr2
 have HB := am hB
 have HG := am hg
 have H := am h
 have hgl : g < w.heap.size := blk_lt h
 have hne : w.heap.size ≠ g := Nat.ne_of_gt hgl
 clear hB hg h hC hc hr hr2
 go_enter Try.func94, Try.ntmps94
 go_wp2_with fail
 refine (uleb_calls w0 _ g A c l HC.out HCC.out (HB.out.trans ((below_alloc (Below.refl w.heap.size w) _).mono HB.out.size)) HG.out at_ false (blk_alloc H.out _) x en 0 HR.out).mono ?_
 rintro e w1 ⟨rfl, hb1, hr1, hg1⟩
 have HB1 := am hb1
 have H1 := am (show Rd w1 g A l.length c en false from hr1)
 have HG1 := am (World.grownBy.trans (grown_alloc (World.grownBy.refl w (some g)) (.cells #[.int .i64 0, .int .i64 0, .int .i64 0] 105)) hg1)
 have hbk := blk_grown (blk_new w (.cells #[.int .i64 0, .int .i64 0, .int .i64 0] 105)) hg1 (fun e => hne (Option.some.inj e))
 have HBK1 := am hbk
 clear hb1 hr1 hg1 hbk
 go_wp2_with fail
 refine (uleb_calls w0 _ g A c l HC.out HCC.out HB1.out HG.out en false H1.out y en2 0 HR2.out).mono ?_
 rintro e w2 ⟨rfl, hb2, hr2, hg2⟩
 have HB2 := am hb2
 have H2 := am (show Rd w2 g A l.length c en2 false from hr2)
 have HG2 := am (World.grownBy.trans HG1.out hg2)
 have hbk := blk_grown HBK1.out hg2 (fun e => hne (Option.some.inj e))
 have HBK := am hbk
 have c0 : w2.cell? ⟨w.heap.size, 0, none⟩ = some (.int .i64 0) := (blk_cell hbk 0).trans rfl
 have c1 : w2.cell? ⟨w.heap.size, 1, none⟩ = some (.int .i64 0) := (blk_cell hbk 1).trans rfl
 have c2 : w2.cell? ⟨w.heap.size, 2, none⟩ = some (.int .i64 0) := (blk_cell hbk 2).trans rfl
 have d0 := blk_frozen hbk 0
 have d1 := blk_frozen hbk 1
 have d2 := blk_frozen hbk 2
 clear hb2 hr2 hg2 hbk
 go_wp2
 have hlo : w0.heap.size ≤ w.heap.size := HB.out.size
 exact bodyPost_ret (v := .agg #[.int .i64 2, .int .i64 x, .int .i64 y]) (results_single (r := .cell 4 105) rfl (.cell w.heap.size 105 _ (0, 0) _ rfl (blk_put (blk_put (blk_put HBK.out 0 _ rfl) 1 _ rfl) 2 _ rfl) Try.underlying105 rfl op_size .nil)) rfl ⟨rfl, ((HB2.out.setCell hlo _).setCell hlo _).setCell hlo _, blk_far (blk_far (blk_far H2.out hne.symm _) hne.symm _) hne.symm _, grown_far (grown_far (grown_far HG2.out (Nat.le_refl _) _ _) (Nat.le_refl _) _ _) (Nat.le_refl _) _ _⟩
theorem facV_ok {n : Int} (h0 : -1099511627776 ≤ n) (h1 : n ≤ 1099511627776) : facV n false = (-8 * n, false) := by
 unfold facV
 rw [if_neg (by omega), if_neg (by omega)]
theorem op_offset (w0 w : World) (g : Nat) (A : Option Addr) (c : Nat) (l : List Int) (hC : Kd.C (Kd.int .u8) w0 A l.length l) (hc : l.length ≤ c) (hB : Below w0.heap.size w0 w) (hg : w0.heap.size ≤ g) (at_ : Int) (h : Rd w g A l.length c at_ false) (b r : Int) (hb : b = 128 + r) (hn : 0 ≤ r ∧ r < 64) (x en : Int) (hr : leb_ReadUleb.f l at_ = some (x, en, 0)) (hx : -1099511627776 ≤ x ∧ x ≤ 1099511627776) :
    Calls Try.prog 94 #[.pointer (some ⟨g, 0, none⟩), .int .i64 b] w (OpPost w0 w g A l.length c (5, r, -8 * x) en) := by
 have HC := am hC
 have HCC := am hc
 have HR := am hr
 have HF := am (facV_ok hx.1 hx.2)
 have fq : b / 64 = 2 := by omega
 have fb : Go.bits .and .i64 b 63 = r := by rw [b63]; omega
 have HB := am hB
 have HG := am hg
 have H := am h
 have hgl : g < w.heap.size := blk_lt h
 have hne : w.heap.size ≠ g := Nat.ne_of_gt hgl
 clear hB hg h hC hc hr hb hn hx
 go_enter Try.func94, Try.ntmps94
 go_wp2_with fail
 refine (uleb_calls w0 _ g A c l HC.out HCC.out (HB.out.trans ((below_alloc (Below.refl w.heap.size w) _).mono HB.out.size)) HG.out at_ false (blk_alloc H.out _) x en 0 HR.out).mono ?_
 rintro e w1 ⟨rfl, hb1, hr1, hg1⟩
 have HB1 := am hb1
 have H1 := am (show Rd w1 g A l.length c en false from hr1)
 have HG1 := am (World.grownBy.trans (grown_alloc (World.grownBy.refl w (some g)) (.cells #[.int .i64 0, .int .i64 0, .int .i64 0] 105)) hg1)
 have hbk := blk_grown (blk_new w (.cells #[.int .i64 0, .int .i64 0, .int .i64 0] 105)) hg1 (fun e => hne (Option.some.inj e))
 have HBK1 := am hbk
 clear hb1 hr1 hg1 hbk
 go_wp2_with fail
 refine (factored_calls w0 _ g A l.length c HB1.out HG.out en false H1.out x).mono ?_
 rw [HF.out]
 rintro e w2 ⟨rfl, hb2, hr2, hg2⟩
 have HB2 := am hb2
 have H2 := am (show Rd w2 g A l.length c en false from hr2)
 have HG2 := am (World.grownBy.trans HG1.out hg2)
 have hbk := blk_grown HBK1.out hg2 (fun e => hne (Option.some.inj e))
 have HBK := am hbk
 have c0 : w2.cell? ⟨w.heap.size, 0, none⟩ = some (.int .i64 0) := (blk_cell hbk 0).trans rfl
 have c1 : w2.cell? ⟨w.heap.size, 1, none⟩ = some (.int .i64 0) := (blk_cell hbk 1).trans rfl
 have c2 : w2.cell? ⟨w.heap.size, 2, none⟩ = some (.int .i64 0) := (blk_cell hbk 2).trans rfl
 have d0 := blk_frozen hbk 0
 have d1 := blk_frozen hbk 1
 have d2 := blk_frozen hbk 2
 clear hb2 hr2 hg2 hbk
 go_wp2
 have hlo : w0.heap.size ≤ w.heap.size := HB.out.size
 exact bodyPost_ret (v := .agg #[.int .i64 5, .int .i64 r, .int .i64 (-8 * x)]) (results_single (r := .cell 4 105) rfl (.cell w.heap.size 105 _ (0, 0) _ rfl (blk_put (blk_put (blk_put HBK.out 0 _ rfl) 1 _ rfl) 2 _ rfl) Try.underlying105 rfl op_size .nil)) rfl ⟨rfl, ((HB2.out.setCell hlo _).setCell hlo _).setCell hlo _, blk_far (blk_far (blk_far H2.out hne.symm _) hne.symm _) hne.symm _, grown_far (grown_far (grown_far HG2.out (Nat.le_refl _) _ _) (Nat.le_refl _) _ _) (Nat.le_refl _) _ _⟩
theorem op_offset17 (w0 w : World) (g : Nat) (A : Option Addr) (c : Nat) (l : List Int) (hC : Kd.C (Kd.int .u8) w0 A l.length l) (hc : l.length ≤ c) (hB : Below w0.heap.size w0 w) (hg : w0.heap.size ≤ g) (at_ : Int) (h : Rd w g A l.length c at_ false) (r en x en2 : Int) (hr : leb_ReadUleb.f l at_ = some (r, en, 0)) (hr2 : leb_ReadSleb.f l en = some (x, en2, 0)) (hx : -1099511627776 ≤ x ∧ x ≤ 1099511627776) :
    Calls Try.prog 94 #[.pointer (some ⟨g, 0, none⟩), .int .i64 17] w (OpPost w0 w g A l.length c (5, r, -8 * x) en2) := by
 have HC := am hC
 have HCC := am hc
 have HR := am hr
 have HR2 := am hr2
 have HF := am (facV_ok hx.1 hx.2)
 have HB := am hB
 have HG := am hg
 have H := am h
 have hgl : g < w.heap.size := blk_lt h
 have hne : w.heap.size ≠ g := Nat.ne_of_gt hgl
 clear hB hg h hC hc hr hr2 hx
 go_enter Try.func94, Try.ntmps94
 go_wp2_with fail
 refine (uleb_calls w0 _ g A c l HC.out HCC.out (HB.out.trans ((below_alloc (Below.refl w.heap.size w) _).mono HB.out.size)) HG.out at_ false (blk_alloc H.out _) r en 0 HR.out).mono ?_
 rintro e w1 ⟨rfl, hb1, hr1, hg1⟩
 have HB1 := am hb1
 have H1 := am (show Rd w1 g A l.length c en false from hr1)
 have HG1 := am (World.grownBy.trans (grown_alloc (World.grownBy.refl w (some g)) (.cells #[.int .i64 0, .int .i64 0, .int .i64 0] 105)) hg1)
 have hbk := blk_grown (blk_new w (.cells #[.int .i64 0, .int .i64 0, .int .i64 0] 105)) hg1 (fun e => hne (Option.some.inj e))
 have HBK1 := am hbk
 have f0 : w1.cell? ⟨g, 0, none⟩ = some (.slice A l.length c) := (blk_cell H1.out 0).trans rfl
 have f1 : w1.cell? ⟨g, 1, none⟩ = some (.int .i64 en) := (blk_cell H1.out 1).trans rfl
 clear hb1 hr1 hg1 hbk
 go_wp2_with fail
 refine start_ (n := 16) (S := fun u => u.cell? ⟨g, 0, none⟩ = some (.slice A l.length c) ∧ u.cell? ⟨g, 1, none⟩ = some (.int .i64 en)) (ds := [8]) (bm 16 0) (by kernel_rfl) rfl rfl ?_ (fun hHeld => ?_)
 case refine_1 => exact ⟨by go_simp, by go_simp⟩
 refine pure_ (i := 0) (N := some 105) (v := ?_) (a' := ?_) (bm 16 1) rfl rfl (by kernel_rfl) (fun _ _ _ h => h) (Or.inl ⟨by rfl, ?_⟩) ?_ ?_
 rotate_left
 ·
  intro u
  go_simp
  with_reducible rfl
 rotate_left
 ·
  simp only [pz]
  rfl
 refine pure_ (i := 1) (N := some 106) (v := ?_) (a' := ?_) (bm 16 3) rfl rfl (by kernel_rfl) (fun _ _ _ h => h) (Or.inl ⟨by rfl, ?_⟩) ?_ ?_
 rotate_left
 ·
  intro u
  go_simp
  with_reducible rfl
 rotate_left
 ·
  simp only [pz]
  rfl
 refine pure_ (i := 2) (N := some 107) (v := ?_) (a' := ?_) (bm 16 7) rfl rfl (by kernel_rfl) (fun _ _ _ h => h) (Or.inl ⟨by rfl, ?_⟩) ?_ ?_
 rotate_left
 ·
  intro u
  go_simp
  with_reducible rfl
 rotate_left
 ·
  simp only [pz]
  rfl
 refine take_ (i := 3) (N := some 108) (v := ?_) (a' := ?_) (bm 16 15) rfl rfl (by kernel_rfl) (fun _ _ _ h => h) (Or.inl ⟨by rfl, ?_⟩) hHeld ?_ ?_
 rotate_left
 ·
  rintro u ⟨s0, s1⟩
  go_simp
  with_reducible rfl
 rotate_left
 ·
  simp only [pz]
  rfl
 refine pure_ (i := 4) (N := some 109) (v := ?_) (a' := ?_) (bm 16 31) rfl rfl (by kernel_rfl) (fun _ _ _ h => h) (Or.inl ⟨by rfl, ?_⟩) ?_ ?_
 rotate_left
 ·
  intro u
  go_simp
  with_reducible rfl
 rotate_left
 ·
  simp only [pz]
  rfl
 refine pure_ (i := 5) (N := some 110) (v := ?_) (a' := ?_) (bm 16 63) rfl rfl (by kernel_rfl) (fun _ _ _ h => h) (Or.inl ⟨by rfl, ?_⟩) ?_ ?_
 rotate_left
 ·
  intro u
  go_simp
  with_reducible rfl
 rotate_left
 ·
  simp only [pz]
  rfl
 refine pure_ (i := 6) (N := some 111) (v := ?_) (a' := ?_) (bm 16 127) rfl rfl (by kernel_rfl) (fun _ _ _ h => h) (Or.inl ⟨by rfl, ?_⟩) ?_ ?_
 rotate_left
 ·
  intro u
  go_simp
  with_reducible rfl
 rotate_left
 ·
  simp only [pz]
  rfl
 refine take_ (i := 7) (N := some 112) (v := ?_) (a' := ?_) (bm 16 255) rfl rfl (by kernel_rfl) (fun _ _ _ h => h) (Or.inl ⟨by rfl, ?_⟩) hHeld ?_ ?_
 rotate_left
 ·
  rintro u ⟨s0, s1⟩
  go_simp
  with_reducible rfl
 rotate_left
 ·
  simp only [pz]
  rfl
 refine last_ (i := 8) (N := some 113) (bm 16 511) rfl rfl (by kernel_rfl) (by decide) (fun K hK => ?_)
 refine goes_ Try.func49 (by kernel_rfl) rfl #[.slice A l.length c, .int .i64 en] (by rfl) rfl rfl (by (try simp only [ml]); first | done | rfl) ?_
 refine (leb_ReadSleb.calls A c l en x en2 0 _ (Kd.C_below HC.out (below_drew HB1.out)) HCC.out HR2.out).mono ?_
 rintro e w2 ⟨rfl, hw2⟩
 refine ⟨_, rfl, ?_⟩
 have HB2 := am (below_step (below_drew HB1.out) hw2)
 have HG2 := am (grown_below' (grown_drew HG1.out) hw2)
 have H2 := am (blk_below (blk_drew H1.out) hw2)
 have HBK2 := am (blk_below (blk_drew HBK1.out) hw2)
 have q0 : w2.cell? ⟨g, 1, none⟩ = some (.int .i64 en) := (blk_cell H2.out 1).trans rfl
 have q1 : w2.cell? ⟨g, 2, none⟩ = some (.bool false) := (blk_cell H2.out 2).trans rfl
 have q2 := blk_frozen H2.out 1
 have q3 := blk_frozen H2.out 2
 clear hw2 hHeld
 refine hK.out _ _ ?_
 clear hK K
 refine norm_ (a' := ?_) ?_ ?_
 rotate_left
 ·
  show Act.put _ (some 113) _ = _
  simp only [pz]
  rfl
 refine pure_ (i := 9) (N := some 104) (v := ?_) (a' := ?_) (bm 16 1023) rfl rfl (by kernel_rfl) (fun _ _ _ h => h) (Or.inl ⟨by rfl, ?_⟩) ?_ ?_
 rotate_left
 ·
  intro u
  go_simp
  with_reducible rfl
 rotate_left
 ·
  simp only [pz]
  rfl
 refine pure_ (i := 10) (N := some 114) (v := ?_) (a' := ?_) (bm 16 2047) rfl rfl (by kernel_rfl) (fun _ _ _ h => h) (Or.inl ⟨by rfl, ?_⟩) ?_ ?_
 rotate_left
 ·
  intro u
  go_simp
  with_reducible rfl
 rotate_left
 ·
  simp only [pz]
  rfl
 refine pure_ (i := 11) (N := some 115) (v := ?_) (a' := ?_) (bm 16 4095) rfl rfl (by kernel_rfl) (fun _ _ _ h => h) (Or.inl ⟨by rfl, ?_⟩) ?_ ?_
 rotate_left
 ·
  intro u
  go_simp
  with_reducible rfl
 rotate_left
 ·
  simp only [pz]
  rfl
 refine pure_ (i := 12) (N := some 116) (v := ?_) (a' := ?_) (bm 16 8191) rfl rfl (by kernel_rfl) (fun _ _ _ h => h) (Or.inl ⟨by rfl, ?_⟩) ?_ ?_
 rotate_left
 ·
  intro u
  go_simp
  with_reducible rfl
 rotate_left
 ·
  simp only [pz]
  rfl
 refine pure_ (i := 13) (N := some 8) (v := ?_) (a' := ?_) (bm 16 16383) rfl rfl (by kernel_rfl) (fun _ _ _ h => h) (Or.inl ⟨by rfl, ?_⟩) ?_ ?_
 rotate_left
 ·
  intro u
  go_simp
  with_reducible rfl
 rotate_left
 ·
  simp only [pz]
  rfl
 refine pure_ (i := 14) (N := some 9) (v := ?_) (a' := ?_) (bm 16 32767) rfl rfl (by kernel_rfl) (fun _ _ _ h => h) (Or.inl ⟨by rfl, ?_⟩) ?_ ?_
 rotate_left
 ·
  intro u
  go_simp
  with_reducible rfl
 rotate_left
 ·
  simp only [pz]
  rfl
 refine pure_ (i := 15) (N := some 10) (v := ?_) (a' := ?_) (bm 16 65535) rfl rfl (by kernel_rfl) (fun _ _ _ h => h) (Or.inl ⟨by rfl, ?_⟩) ?_ ?_
 rotate_left
 ·
  intro u
  go_simp
  with_reducible rfl
 rotate_left
 ·
  simp only [pz]
  rfl
 refine done_ (by kernel_rfl) ?_
 go_wp2_with fail
 refine (factored_calls w0 _ g A l.length c ((HB2.out.setCell HG.out _).setCell HG.out _) HG.out en2 false (rd_put H2.out false en2) x).mono ?_
 rw [HF.out]
 rintro e w3 ⟨rfl, hb3, hr3, hg3⟩
 have HB3 := am hb3
 have H3 := am (show Rd w3 g A l.length c en2 false from hr3)
 have HG3 := am (World.grownBy.trans (grown_set' (grown_set' HG2.out _ _) _ _) hg3)
 have hbk := blk_grown (blk_far (blk_far HBK2.out hne _) hne _) hg3 (fun e => hne (Option.some.inj e))
 have HBK := am hbk
 have c0 : w3.cell? ⟨w.heap.size, 0, none⟩ = some (.int .i64 0) := (blk_cell hbk 0).trans rfl
 have c1 : w3.cell? ⟨w.heap.size, 1, none⟩ = some (.int .i64 0) := (blk_cell hbk 1).trans rfl
 have c2 : w3.cell? ⟨w.heap.size, 2, none⟩ = some (.int .i64 0) := (blk_cell hbk 2).trans rfl
 have d0 := blk_frozen hbk 0
 have d1 := blk_frozen hbk 1
 have d2 := blk_frozen hbk 2
 clear hb3 hr3 hg3 hbk
 go_wp2
 have hlo : w0.heap.size ≤ w.heap.size := HB.out.size
 exact bodyPost_ret (v := .agg #[.int .i64 5, .int .i64 r, .int .i64 (-8 * x)]) (results_single (r := .cell 4 105) rfl (.cell w.heap.size 105 _ (0, 0) _ rfl (blk_put (blk_put (blk_put HBK.out 0 _ rfl) 1 _ rfl) 2 _ rfl) Try.underlying105 rfl op_size .nil)) rfl ⟨rfl, ((HB3.out.setCell hlo _).setCell hlo _).setCell hlo _, blk_far (blk_far (blk_far H3.out hne.symm _) hne.symm _) hne.symm _, grown_far (grown_far (grown_far HG3.out (Nat.le_refl _) _ _) (Nat.le_refl _) _ _) (Nat.le_refl _) _ _⟩
end Go.Proofs.Ytfgfnflhdabmcaa.CfaRd
end
section
namespace Go.Proofs.Ytfgfnflhdabmcaa.CfaRd
open Go.RowKit Go.Proofs.Ytfgfnflhdabmcaa.G Go.Proofs.YtfgfnflhdabmcaaW.PrintWords Go.Proofs.YtfgfnflhdabmcaaW.PrintLast Go.Proofs.YtfgfnflhdabmcaaW.PrintMore
open Go.Proofs.Ytfgfnflhdabmcaa.Cfa
def uR (l : List Int) (at_ : Int) : Option (Int × Int) := match leb_ReadUleb.f l at_ with
  | some (x, en, er) => if er = 0 then some (x, en) else none
  | none => none
def sR (l : List Int) (at_ : Int) : Option (Int × Int) := match leb_ReadSleb.f l at_ with
  | some (x, en, er) => if er = 0 then some (x, en) else none
  | none => none
def nR (l : List Int) (at_ s : Int) : Option Int := if 0 ≤ at_ + s ∧ at_ + s ≤ 2097152 then (match leb_Get.f 12 l at_ s false with
  | some (x, er) => if er = 0 then some x else none
  | none => none) else none
theorem uR_eq {l : List Int} {at_ x en : Int} (h : uR l at_ = some (x, en)) : leb_ReadUleb.f l at_ = some (x, en, 0) := by
 unfold uR at h
 split at h
 rotate_left
 ·
  cases h
 split at h
 ·
  rename_i x' en' er' he e0
  simp only [Option.some.injEq, Prod.mk.injEq] at h
  obtain ⟨rfl, rfl⟩ := h
  rw [he, e0]
 cases h
theorem sR_eq {l : List Int} {at_ x en : Int} (h : sR l at_ = some (x, en)) : leb_ReadSleb.f l at_ = some (x, en, 0) := by
 unfold sR at h
 split at h
 rotate_left
 ·
  cases h
 split at h
 ·
  rename_i x' en' er' he e0
  simp only [Option.some.injEq, Prod.mk.injEq] at h
  obtain ⟨rfl, rfl⟩ := h
  rw [he, e0]
 cases h
theorem nR_eq {l : List Int} {at_ s x : Int} (h : nR l at_ s = some x) : leb_Get.f 12 l at_ s false = some (x, 0) ∧ 0 ≤ at_ + s ∧ at_ + s ≤ 9223372036854775807 := by
 unfold nR at h
 split at h
 rotate_left
 ·
  cases h
 rename_i hs
 refine ⟨?_, hs.1, by omega⟩
 split at h
 rotate_left
 ·
  cases h
 split at h
 ·
  rename_i x' er' he e0
  simp only [Option.some.injEq] at h
  obtain rfl := h
  rw [he, e0]
 cases h
def opR (l : List Int) (b at_ : Int) : Option ((Int × Int × Int) × Int) :=
  if 64 ≤ b ∧ b < 128 then some ((1, 0, b - 64), at_)
  else if 128 ≤ b ∧ b < 192 then (uR l at_).bind fun p => if -1099511627776 ≤ p.1 ∧ p.1 ≤ 1099511627776 then some ((5, b - 128, -8 * p.1), p.2) else none
  else if 192 ≤ b ∧ b < 256 then some ((6, b - 192, 0), at_)
  else if b = 0 then some ((0, 0, 0), at_)
  else if b = 2 then (nR l at_ 1).bind fun x => some ((1, 0, x), at_ + 1)
  else if b = 3 then (nR l at_ 2).bind fun x => some ((1, 0, x), at_ + 2)
  else if b = 4 then (nR l at_ 4).bind fun x => some ((1, 0, x), at_ + 4)
  else if b = 7 then (uR l at_).bind fun p => some ((7, p.1, 0), p.2)
  else if b = 8 then (uR l at_).bind fun p => some ((8, p.1, 0), p.2)
  else if b = 10 then some ((9, 0, 0), at_)
  else if b = 11 then some ((10, 0, 0), at_)
  else if b = 12 then (uR l at_).bind fun p => (uR l p.2).bind fun q => some ((2, p.1, q.1), q.2)
  else if b = 13 then (uR l at_).bind fun p => some ((4, p.1, 0), p.2)
  else if b = 14 then (uR l at_).bind fun p => some ((3, 0, p.1), p.2)
  else if b = 17 then (uR l at_).bind fun p => (sR l p.2).bind fun q => if -1099511627776 ≤ q.1 ∧ q.1 ≤ 1099511627776 then some ((5, p.1, -8 * q.1), q.2) else none
  else none
theorem op_calls (w0 w : World) (g : Nat) (A : Option Addr) (c : Nat) (l : List Int) (hC : Kd.C (Kd.int .u8) w0 A l.length l) (hc : l.length ≤ c) (hB : Below w0.heap.size w0 w) (hg : w0.heap.size ≤ g) (b at_ : Int) (h : Rd w g A l.length c at_ false) (o : Int × Int × Int) (at2 : Int) (hr : opR l b at_ = some (o, at2)) :
    Calls Try.prog 94 #[.pointer (some ⟨g, 0, none⟩), .int .i64 b] w (OpPost w0 w g A l.length c o at2) := by
 unfold opR at hr
 by_cases hb : 64 ≤ b ∧ b < 128
 ·
  rw [if_pos hb] at hr
  obtain ⟨rfl, rfl⟩ := Prod.mk.inj (Option.some.inj hr)
  exact op_advance w0 w g A l.length c hB hg _ h b (b - 64) (by omega) (by omega)
 rw [if_neg hb] at hr
 by_cases hb : 128 ≤ b ∧ b < 192
 ·
  rw [if_pos hb] at hr
  obtain ⟨⟨x, en⟩, hu, hr⟩ := Option.bind_eq_some_iff.1 hr
  split at hr
  ·
   rename_i hx
   obtain ⟨rfl, rfl⟩ := Prod.mk.inj (Option.some.inj hr)
   exact op_offset w0 w g A c l hC hc hB hg at_ h b (b - 128) (by omega) (by omega) x en (uR_eq hu) hx
  cases hr
 rw [if_neg hb] at hr
 by_cases hb : 192 ≤ b ∧ b < 256
 ·
  rw [if_pos hb] at hr
  obtain ⟨rfl, rfl⟩ := Prod.mk.inj (Option.some.inj hr)
  exact op_restore w0 w g A l.length c hB hg _ h b (b - 192) (by omega) (by omega)
 rw [if_neg hb] at hr
 by_cases hb : b = 0
 ·
  rw [if_pos hb] at hr
  obtain ⟨rfl, rfl⟩ := Prod.mk.inj (Option.some.inj hr)
  subst hb
  exact op_nop w0 w g A l.length c hB hg _ h
 rw [if_neg hb] at hr
 by_cases hb : b = 2
 ·
  rw [if_pos hb] at hr
  obtain ⟨x, hu, hr⟩ := Option.bind_eq_some_iff.1 hr
  obtain ⟨rfl, rfl⟩ := Prod.mk.inj (Option.some.inj hr)
  subst hb
  exact op_number1 w0 w g A c l hC hc hB hg at_ h (nR_eq hu).2 12 x (nR_eq hu).1
 rw [if_neg hb] at hr
 by_cases hb : b = 3
 ·
  rw [if_pos hb] at hr
  obtain ⟨x, hu, hr⟩ := Option.bind_eq_some_iff.1 hr
  obtain ⟨rfl, rfl⟩ := Prod.mk.inj (Option.some.inj hr)
  subst hb
  exact op_number2 w0 w g A c l hC hc hB hg at_ h (nR_eq hu).2 12 x (nR_eq hu).1
 rw [if_neg hb] at hr
 by_cases hb : b = 4
 ·
  rw [if_pos hb] at hr
  obtain ⟨x, hu, hr⟩ := Option.bind_eq_some_iff.1 hr
  obtain ⟨rfl, rfl⟩ := Prod.mk.inj (Option.some.inj hr)
  subst hb
  exact op_number4 w0 w g A c l hC hc hB hg at_ h (nR_eq hu).2 12 x (nR_eq hu).1
 rw [if_neg hb] at hr
 by_cases hb : b = 7
 ·
  rw [if_pos hb] at hr
  obtain ⟨⟨x, en⟩, hu, hr⟩ := Option.bind_eq_some_iff.1 hr
  obtain ⟨rfl, rfl⟩ := Prod.mk.inj (Option.some.inj hr)
  subst hb
  exact op_undefined w0 w g A c l hC hc hB hg at_ h x en (uR_eq hu)
 rw [if_neg hb] at hr
 by_cases hb : b = 8
 ·
  rw [if_pos hb] at hr
  obtain ⟨⟨x, en⟩, hu, hr⟩ := Option.bind_eq_some_iff.1 hr
  obtain ⟨rfl, rfl⟩ := Prod.mk.inj (Option.some.inj hr)
  subst hb
  exact op_sameValue w0 w g A c l hC hc hB hg at_ h x en (uR_eq hu)
 rw [if_neg hb] at hr
 by_cases hb : b = 10
 ·
  rw [if_pos hb] at hr
  obtain ⟨rfl, rfl⟩ := Prod.mk.inj (Option.some.inj hr)
  subst hb
  exact op_remember w0 w g A l.length c hB hg _ h
 rw [if_neg hb] at hr
 by_cases hb : b = 11
 ·
  rw [if_pos hb] at hr
  obtain ⟨rfl, rfl⟩ := Prod.mk.inj (Option.some.inj hr)
  subst hb
  exact op_recall w0 w g A l.length c hB hg _ h
 rw [if_neg hb] at hr
 by_cases hb : b = 12
 ·
  rw [if_pos hb] at hr
  obtain ⟨⟨x, en⟩, hu, hr⟩ := Option.bind_eq_some_iff.1 hr
  obtain ⟨⟨y, en2⟩, hu2, hr⟩ := Option.bind_eq_some_iff.1 hr
  obtain ⟨rfl, rfl⟩ := Prod.mk.inj (Option.some.inj hr)
  subst hb
  exact op_defCfa w0 w g A c l hC hc hB hg at_ h x en y en2 (uR_eq hu) (uR_eq hu2)
 rw [if_neg hb] at hr
 by_cases hb : b = 13
 ·
  rw [if_pos hb] at hr
  obtain ⟨⟨x, en⟩, hu, hr⟩ := Option.bind_eq_some_iff.1 hr
  obtain ⟨rfl, rfl⟩ := Prod.mk.inj (Option.some.inj hr)
  subst hb
  exact op_defRegister w0 w g A c l hC hc hB hg at_ h x en (uR_eq hu)
 rw [if_neg hb] at hr
 by_cases hb : b = 14
 ·
  rw [if_pos hb] at hr
  obtain ⟨⟨x, en⟩, hu, hr⟩ := Option.bind_eq_some_iff.1 hr
  obtain ⟨rfl, rfl⟩ := Prod.mk.inj (Option.some.inj hr)
  subst hb
  exact op_defOffset w0 w g A c l hC hc hB hg at_ h x en (uR_eq hu)
 rw [if_neg hb] at hr
 by_cases hb : b = 17
 ·
  rw [if_pos hb] at hr
  obtain ⟨⟨x, en⟩, hu, hr⟩ := Option.bind_eq_some_iff.1 hr
  obtain ⟨⟨y, en2⟩, hu2, hr⟩ := Option.bind_eq_some_iff.1 hr
  split at hr
  ·
   rename_i hx
   obtain ⟨rfl, rfl⟩ := Prod.mk.inj (Option.some.inj hr)
   subst hb
   exact op_offset17 w0 w g A c l hC hc hB hg at_ h x en y en2 (uR_eq hu) (sR_eq hu2) hx
  cases hr
 rw [if_neg hb] at hr
 cases hr
theorem opR_range {l : List Int} {b at_ : Int} {p : (Int × Int × Int) × Int} (h : opR l b at_ = some p) : wrap64 b = b := by
 have : 0 ≤ b ∧ b < 256 := by
  unfold opR at h
  by_cases hb : 64 ≤ b ∧ b < 128
  ·
   omega
  rw [if_neg hb] at h
  clear hb
  by_cases hb : 128 ≤ b ∧ b < 192
  ·
   omega
  rw [if_neg hb] at h
  clear hb
  by_cases hb : 192 ≤ b ∧ b < 256
  ·
   omega
  rw [if_neg hb] at h
  clear hb
  by_cases hb : b = 0
  ·
   omega
  rw [if_neg hb] at h
  clear hb
  by_cases hb : b = 2
  ·
   omega
  rw [if_neg hb] at h
  clear hb
  by_cases hb : b = 3
  ·
   omega
  rw [if_neg hb] at h
  clear hb
  by_cases hb : b = 4
  ·
   omega
  rw [if_neg hb] at h
  clear hb
  by_cases hb : b = 7
  ·
   omega
  rw [if_neg hb] at h
  clear hb
  by_cases hb : b = 8
  ·
   omega
  rw [if_neg hb] at h
  clear hb
  by_cases hb : b = 10
  ·
   omega
  rw [if_neg hb] at h
  clear hb
  by_cases hb : b = 11
  ·
   omega
  rw [if_neg hb] at h
  clear hb
  by_cases hb : b = 12
  ·
   omega
  rw [if_neg hb] at h
  clear hb
  by_cases hb : b = 13
  ·
   omega
  rw [if_neg hb] at h
  clear hb
  by_cases hb : b = 14
  ·
   omega
  rw [if_neg hb] at h
  clear hb
  by_cases hb : b = 17
  ·
   omega
  rw [if_neg hb] at h
  clear hb
  cases h
 unfold wrap64; omega
def readR (l : List Int) : Nat → Int → List S105 → Option (List S105)
  | 0, _, _ => none
  | k + 1, at_, acc => if at_ < (l.length : Int) then (if 0 ≤ at_ then (opR l (rd l at_) (at_ + 1)).bind fun p => if mayF p.1.1 p.1.2.1 p.1.2.2 = true ∧ acc.length < 4000 then readR l k p.2 (acc ++ [⟨p.1.1, p.1.2.1, p.1.2.2⟩]) else none else none) else some acc
def readF (l : List Int) : Option (List S105 × Int) := if l.length ≤ 1048576 then (readR l (l.length + 1) 0 []).map fun r => (r, 0) else none
theorem read_calls (A0 : Option Addr) (c0 : Nat) (l0 : List Int) (r1 : List S105) (r2 : Int) (w : World) (hr0 : Kd.C (Kd.int .u8) w A0 l0.length l0) (hc0 : l0.length ≤ c0) (h : readF l0 = some (r1, r2)) :
    Calls Try.prog 90 #[.slice A0 l0.length c0] w fun e w' => ∃ v0_ : Value, e = .returned (.tuple #[v0_, .int .i64 r2]) ∧ Kd.R k105 105 w' w.heap.size (fun _ => True) v0_ r1 ∧ Below w.heap.size w w' := by
 unfold readF at h
 split at h
 case isFalse => cases h
 rename_i hlen
 obtain ⟨r, h1, h2⟩ := Option.map_eq_some_iff.1 h
 clear h
 have h := h1
 clear h1
 obtain ⟨rfl, rfl⟩ := Prod.mk.inj h2
 clear h2
 have hu := Try.underlying105
 have HR0 := am hr0
 have HC0 := am hc0
 have HH := am h
 have HL := am hlen
 have f0 : decide ((l0.length : Int) > 1048576) = false := decide_eq_false (by omega)
 have f0b : decide (1048576 < l0.length) = false := decide_eq_false (by omega)
 obtain ⟨K, hK⟩ : ∃ K, K = l0.length + 1 := ⟨_, rfl⟩
 rw [← hK] at HH
 clear hr0 hc0 h hlen
 go_enter Try.func90, Try.ntmps90
 go_wp2
 go_step3
 go_wp2
 go_step3
 go_wp2
 have hg0 : Rd (w.alloc (.cells #[.slice A0 l0.length c0, .int .i64 0, .bool false] 170)) w.heap.size A0 l0.length c0 0 false := blk_new w _
 have HG0 := am hg0
 have HB := am (below_alloc (Below.refl w.heap.size w) (.cells #[.slice A0 l0.length c0, .int .i64 0, .bool false] 170))
 clear hg0
 go_loopg [5, 6] K (fun kq v5 v6 w' => ∃ (at_ : Int) (acc : List S105), v6 = .bool false ∧ Aside0 (readR l0 kq at_ acc = some r) ∧ Aside0 (Kd.R k105 105 w' w.heap.size (fun k => k ≠ w.heap.size) v5 acc) ∧ Aside0 (Rd w' w.heap.size A0 l0.length c0 at_ false) ∧ Aside0 (Below w.heap.size w w'))
 case atStart => exact ⟨0, [], rfl, HH, ⟨Kd.R_nil _ _ _ _ _⟩, HG0, HB⟩
 case round =>
  clear HB HG0 HH
  obtain ⟨at_, acc, rfl, HH, HO, HD, HB⟩ := hrel
  cases gk with
  | zero => exact absurd HH.out (by simp [readR])
  | succ k1 =>
   have H := HH.out
   clear HH
   rw [readR] at H
   have q1 : wr.cell? ⟨w.heap.size, 1, none⟩ = some (.int .i64 at_) := (blk_cell HD.out 1).trans rfl
   have q3 := blk_frozen HD.out 1
   by_cases c1 : at_ < (l0.length : Int)
   rotate_left
   ·
    rw [if_neg c1] at H
    obtain rfl := Option.some.inj H
    have f1 : decide (at_ < (l0.length : Int)) = false := decide_eq_false c1
    have q2 : wr.cell? ⟨w.heap.size, 2, none⟩ = some (.bool false) := (blk_cell HD.out 2).trans rfl
    clear H c1
    go_wp2
    rw [Exit.noGoto_ret]
    go_ret2
    exact ⟨_, rfl, Kd.R_mono HO.out (fun _ _ => trivial), HB.out⟩
   rw [if_pos c1] at H
   by_cases c2 : 0 ≤ at_
   rotate_left
   ·
    rw [if_neg c2] at H
    cases H
   rw [if_pos c2] at H
   obtain ⟨⟨o, at2⟩, hop, H⟩ := Option.bind_eq_some_iff.1 H
   have H2 : (if mayF o.1 o.2.1 o.2.2 = true ∧ acc.length < 4000 then readR l0 k1 at2 (acc ++ [⟨o.1, o.2.1, o.2.2⟩]) else none) = some r := H
   clear H
   by_cases c3 : mayF o.1 o.2.1 o.2.2 = true ∧ acc.length < 4000
   rotate_left
   ·
    rw [if_neg c3] at H2
    cases H2
   rw [if_pos c3] at H2
   have HOP := am hop
   have HN := am H2
   have HM := am c3.1
   have HAL := am c3.2
   have hll := HL.out
   have hw : wrap64 (at_ + 1) = at_ + 1 := by unfold wrap64; omega
   have hwi : IntKind.i64.wrap (at_ + 1) = at_ + 1 := by rw [IntKind.wrap_i64]; omega
   obtain ⟨ad, rfl, hx⟩ := Kd.at_int (Kd.C_below HR0.out HB.out) at_ c2 c1
   have f1 : decide (at_ < (l0.length : Int)) = true := decide_eq_true c1
   have f2 : decide (0 ≤ at_) = true := decide_eq_true c2
   clear H2 c3 hop hll
   replace c1 := eq_true c1
   replace c2 := eq_true c2
   generalize rd l0 at_ = b at *
   obtain ⟨o0, o1, o2⟩ := o
   have hwb := opR_range HOP.out
   clear H
   go_wp2_with fail
   refine (op_calls w _ w.heap.size (some ad) c0 l0 HR0.out HC0.out (HB.out.setCell (Nat.le_refl _) _) (Nat.le_refl _) b (at_ + 1) (blk_put HD.out 1 _ rfl) (o0, o1, o2) at2 HOP.out).mono ?_
   rintro e w2 ⟨rfl, hb2, hr2, hg2⟩
   have HB2 := am hb2
   have HD2 := am hr2
   have HO2 := am (Kd.R_grown (Kd.R_far HO.out (p := ⟨w.heap.size, 1, none⟩) (fun k hk => hk) (.int .i64 (at_ + 1))) hg2 (fun k hk e => hk (Option.some.inj e)))
   have hgl : w.heap.size < w2.heap.size := blk_lt hr2
   have hne : w2.heap.size ≠ w.heap.size := Nat.ne_of_gt hgl
   have q2 : w2.cell? ⟨w.heap.size, 2, none⟩ = some (.bool false) := (blk_cell hr2 2).trans rfl
   clear hb2 hr2 hg2 HB HO HD q1 q3 hx HOP hw hwi hwb
   go_wp2_with fail
   refine (cfa_Op_may.calls o0 o1 o2 true _ (by rw [cfa_Op_may.f, HM.out])).mono ?_
   rintro e w3 ⟨rfl, hb3⟩
   have HB3 := am (below_step (below_alloc HB2.out _) hb3)
   have HD3 := am (show Rd w3 w.heap.size (some ad) l0.length c0 at2 false from blk_below (blk_alloc HD2.out _) hb3)
   have HO3 := am (Kd.R_below (Kd.R_alloc HO2.out _) hb3)
   have hbk : w3.heap[w2.heap.size]? = some (.cells #[.int .i64 o0, .int .i64 o1, .int .i64 o2] 105 (0, 0)) := blk_below (blk_new w2 _) hb3
   have e0 : w3.cell? ⟨w2.heap.size, 0, none⟩ = some (.int .i64 o0) := (blk_cell hbk 0).trans rfl
   have e1 : w3.cell? ⟨w2.heap.size, 1, none⟩ = some (.int .i64 o1) := (blk_cell hbk 1).trans rfl
   have e2 : w3.cell? ⟨w2.heap.size, 2, none⟩ = some (.int .i64 o2) := (blk_cell hbk 2).trans rfl
   clear hb3 hbk HB2 HD2 HO2 hgl hne q2
   have hgl : w.heap.size < w3.heap.size := blk_lt HD3.out
   have HGL := am hgl
   have hle : w.heap.size ≤ w3.heap.size := Nat.le_of_lt hgl
   have HLE := am hle
   have hal : (acc.length + 1) * 24 ≤ 140737488355328 := by have := HAL.out; omega
   have HAL2 := am hal
   have hlen : (acc ++ [(⟨o0, o1, o2⟩ : S105)]).length = acc.length + 1 := by simp
   have h4 : ((acc.length : Int) + 1 ≤ 4000) = True := eq_true (by have := HAL.out; omega)
   have h4b : decide ((acc.length : Int) + 1 > 4000) = false := decide_eq_false (by have := HAL.out; omega)
   have h4c : decide (4000 < (acc.length : Int) + 1) = false := h4b
   clear hgl hle hal
   go_wp2_with ((with_reducible refine gate_dst (N := 55) rfl ?_); refine Kd.R_append k105 (w0 := w) w.heap.size (by rfl) (.tmp 52) (.tmp 54) 44 105 (.agg #[(.int .i64 0), (.int .i64 0), (.int .i64 0)]) 24 rfl Try.underlying44 info105 rfl (by decide) (by decide) u5 acc (⟨o0, o1, o2⟩ : S105) [.int .i64 o0, .int .i64 o1, .int .i64 o2] (fun k => k ≠ w.heap.size) (fun _ => False) rfl rfl (k105_mkM _ _ _ (⟨o0, o1, o2⟩ : S105)) (fun _ hk => hk.elim) (fun k hk e => absurd HGL.out (by rw [e] at hk; exact Nat.not_lt.2 hk)) HO3.out HB3.out HLE.out HAL2.out ?_; intro v1 w4 ho hb hg hat; have HB4 := am hb; have HD4 := am (show Rd w4 w.heap.size (some ad) l0.length c0 at2 false from blk_grown HD3.out hg (fun e => (HO3.out.1 _ e.symm) rfl)); obtain ⟨A1, cp1, rfl⟩ := Kd.R_slice ho; rw [hlen] at ho; have HO4 := am ho; rw [hlen]; clear ho hb hg hat HO3 HB3 HD3)
   go_roundg k1
   case measure => omega
   case rel => exact ⟨at2, acc ++ [⟨o0, o1, o2⟩], rfl, HN, HO4, HD4, HB4⟩
end Go.Proofs.Ytfgfnflhdabmcaa.CfaRd
end
section
namespace Go.Proofs.Ytfgfnflhdabmcaa.G
open Go.RowKit Go.Proofs.YtfgfnflhdabmcaaW.PrintWords Go.Proofs.YtfgfnflhdabmcaaW.PrintLast Go.Proofs.YtfgfnflhdabmcaaW.PrintMore
attribute [local go_sem] max2_int min2_int max_two min_two max_three min_three max_four min_four
def cfa_Read.f (l0 : List Int) : Option (List S105 × Int) := CfaRd.readF l0
theorem cfa_Read.calls (A0 : Option Addr) (c0 : Nat) (l0 : List Int) (r1 : List S105) (r2 : Int) (w : World) (hr0 : Kd.C (Kd.int .u8) w A0 l0.length l0) (hc0 : l0.length ≤ c0) (h : cfa_Read.f l0 = some (r1, r2)) :
  Calls Try.prog 90 #[.slice A0 l0.length c0] w fun e w' => ∃ v0_ : Value, e = .returned (.tuple #[v0_, .int .i64 r2]) ∧ Kd.R k105 105 w' w.heap.size (fun _ => True) v0_ r1 ∧ Below w.heap.size w w' := CfaRd.read_calls A0 c0 l0 r1 r2 w hr0 hc0 h
end Go.Proofs.Ytfgfnflhdabmcaa.G
end
