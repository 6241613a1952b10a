/- Lemmas and contracts, one text behind the other: what the row of this claim needs; no conditions beyond those that each theorem names. -/
import Derived.Deep.MidRow
import Derived.StillTailTactics
import Derived.Great.BuildSlice
import Derived.Test.YtfgfnflhdabmcaaVP0
section
namespace Go.Proofs.Ytfgfnflhdabmcaa.G
open Go.RowKit Go.Proofs.YtfgfnflhdabmcaaW.PrintWords Go.Proofs.YtfgfnflhdabmcaaW.PrintLast Go.Proofs.YtfgfnflhdabmcaaW.PrintMore
attribute [local go_sem] max2_int min2_int max_two min_two max_three min_three max_four min_four   -- for this text's walks alone
set_option linter.unusedVariables false
set_option linter.unusedSimpArgs false
def leb_sized.f (a0 : Int) : Option (Bool) := if a0 = 1 then (some true) else (if a0 = 2 then (some true) else (if a0 = 4 then (some true) else (some (a0 == 8))))
set_option maxHeartbeats 8000000 in
set_option maxRecDepth 100000 in
theorem leb_sized.calls (a0 : Int) (r : Bool) (w : World) (h : leb_sized.f a0 = some r) :
  Calls Try.prog 66 #[.int .i64 a0] w fun e w' => e = .returned (.bool r) ∧ Drawn0 w w' := by
 have H : (if a0 = 1 then (some true) else (if a0 = 2 then (some true) else (if a0 = 4 then (some true) else (some (a0 == 8))))) = some r := h
 clear h
 by_cases c2 : a0 = 1
 ·
  rw [if_pos c2] at H
  have c2b0 : (a0 == 1) = true := beq_iff_eq.mpr c2
  have c2b1 : (a0 != 1) = false := bne_eq_false_iff_eq.mpr c2
  clear c2
  obtain rfl := Option.some.inj H
  go_enter Try.func66, Try.ntmps66
  go_wp2
  go_ret
  exact ⟨by first | rfl | (simp; done) | (simp [*]; done), by repeat (first | exact Drawn0.refl _ | apply Drawn0.step)⟩
 ·
  rw [if_neg c2] at H
  have c2b0 : (a0 == 1) = false := beq_eq_false_iff_ne.mpr c2
  have c2b1 : (a0 != 1) = true := bne_iff_ne.mpr c2
  by_cases c3 : a0 = 2
  ·
   rw [if_pos c3] at H
   have c3b0 : (a0 == 2) = true := beq_iff_eq.mpr c3
   have c3b1 : (a0 != 2) = false := bne_eq_false_iff_eq.mpr c3
   clear c3
   obtain rfl := Option.some.inj H
   go_enter Try.func66, Try.ntmps66
   go_wp2
   go_ret
   exact ⟨by first | rfl | (simp; done) | (simp [*]; done), by repeat (first | exact Drawn0.refl _ | apply Drawn0.step)⟩
  ·
   rw [if_neg c3] at H
   have c3b0 : (a0 == 2) = false := beq_eq_false_iff_ne.mpr c3
   have c3b1 : (a0 != 2) = true := bne_iff_ne.mpr c3
   by_cases c4 : a0 = 4
   ·
    rw [if_pos c4] at H
    have c4b0 : (a0 == 4) = true := beq_iff_eq.mpr c4
    have c4b1 : (a0 != 4) = false := bne_eq_false_iff_eq.mpr c4
    clear c4
    obtain rfl := Option.some.inj H
    go_enter Try.func66, Try.ntmps66
    go_wp2
    go_ret
    exact ⟨by first | rfl | (simp; done) | (simp [*]; done), by repeat (first | exact Drawn0.refl _ | apply Drawn0.step)⟩
   ·
    rw [if_neg c4] at H
    have c4b0 : (a0 == 4) = false := beq_eq_false_iff_ne.mpr c4
    have c4b1 : (a0 != 4) = true := bne_iff_ne.mpr c4
    obtain rfl := Option.some.inj H
    go_enter Try.func66, Try.ntmps66
    go_wp2
    go_ret
    exact ⟨by first | rfl | (simp; done) | (simp [*]; done), by repeat (first | exact Drawn0.refl _ | apply Drawn0.step)⟩
end Go.Proofs.Ytfgfnflhdabmcaa.G
end
section
namespace Go.Proofs.Ytfgfnflhdabmcaa.G
open Go.RowKit Go.Proofs.YtfgfnflhdabmcaaW.PrintWords Go.Proofs.YtfgfnflhdabmcaaW.PrintLast Go.Proofs.YtfgfnflhdabmcaaW.PrintMore
attribute [local go_sem] max2_int min2_int max_two min_two max_three min_three max_four min_four   -- for this text's walks alone
set_option linter.unusedVariables false
set_option linter.unusedSimpArgs false
def leb_low_uint64.l0 : Nat → Int → List Int → Int → Int → Option (List Int)
 | 0, _, _, _, _ => none
 | k + 1, x0, x5, x7, x8 => if x8 < x7 then (if 0 ≤ (wrap64 (8 * x8)) then (if x5.length < 140737488355328 then (leb_low_uint64.l0 k x0 (x5 ++ [(shr .u64 x0 (wrap64 (8 * x8))) % 256]) x7 (wrap64 (x8 + 1))) else (none)) else (none)) else (some x5)
def leb_low_uint64.f (k : Nat) (a0 : Int) (a1 : Int) : Option (List Int) := leb_low_uint64.l0 k a0 ([] : List Int) a1 0
theorem leb_low_uint64.mono_l : ∀ k, (∀ y0 y1 y2 y3, LeO (leb_low_uint64.l0 k y0 y1 y2 y3) (leb_low_uint64.l0 (k + 1) y0 y1 y2 y3))
 | 0 => fun _ _ _ _ r h => by simp [leb_low_uint64.l0] at h
 | k + 1 => by
  have ih0 := leb_low_uint64.mono_l k
  ·
   intro y0 y1 y2 y3
   unfold leb_low_uint64.l0
   repeat' first
   | (with_reducible exact ih0 _ _ _ _)
   | (with_reducible exact LeO.refl _)
   | (with_reducible exact LeO.none _)
   | (with_reducible refine LeO.ite ?_ ?_)
   | (with_reducible refine LeO.bind ?_ (fun _ => ?_))
   | exact ih0 _ _ _ _
   | exact LeO.none _
   | refine LeO.ite ?_ ?_
   | refine LeO.bind ?_ (fun _ => ?_)
theorem leb_low_uint64.mono : ∀ a0 a1 k, LeO (leb_low_uint64.f k a0 a1) (leb_low_uint64.f (k + 1) a0 a1) := by
 intro a0 a1 k
 have ih0 := leb_low_uint64.mono_l k
 unfold leb_low_uint64.f
 repeat' first
   | (with_reducible exact ih0 _ _ _ _)
   | (with_reducible exact LeO.refl _)
   | (with_reducible exact LeO.none _)
   | (with_reducible refine LeO.ite ?_ ?_)
   | (with_reducible refine LeO.bind ?_ (fun _ => ?_))
   | exact ih0 _ _ _ _
   | exact LeO.none _
   | refine LeO.ite ?_ ?_
   | refine LeO.bind ?_ (fun _ => ?_)
set_option maxHeartbeats 8000000 in
set_option maxRecDepth 100000 in
theorem leb_low_uint64.calls (k : Nat) (a0 : Int) (a1 : Int) (r : List Int) (w : World) (h : leb_low_uint64.f k a0 a1 = some r) :
  Calls Try.prog 67 #[.int .u64 a0, .int .i64 a1] w fun e w' => ∃ v0_ : Value, e = .returned (v0_) ∧ Kd.R (Kd.int .u8) 5 w' w.heap.size (fun _ => True) v0_ r ∧ Below w.heap.size w w' := by
 have HB := am (Below.refl w.heap.size w)
 have H : (leb_low_uint64.l0 k a0 ([] : List Int) a1 0) = some r := h
 clear h
 have H' := am H
 clear H
 go_enter Try.func67, Try.ntmps67
 go_wp2
 go_loopg [5, 8] k (fun kq v5 v8 w' => ∃ (x5_1 : List Int) (x8_1 : Int), v8 = .int .i64 x8_1 ∧ Aside0 (leb_low_uint64.l0 kq a0 x5_1 a1 x8_1 = some r) ∧ Aside0 (kq ≤ k) ∧ Aside0 (Kd.R (Kd.int .u8) 5 w' w.heap.size (fun _ => True) v5 x5_1) ∧ Aside0 (Below w.heap.size w w'))
 case atStart => exact ⟨(([] : List Int)), (0), (by first | rfl | (simp; done) | (simp [*]; done)), H', ⟨Nat.le_refl _⟩, ⟨by first | exact Kd.R_nil _ _ _ _ _ | exact Kd.N_nil _ _ _ _ _ | exact Kd.V_nil _ _ _ _ _ | exact Kd.Q_nil _ _ _ _ _ | exact Kd.S_nil _ _ _ _ _⟩, ⟨by exact bl_g HB.out⟩⟩
 case round =>
  clear H'
  try clear p2
  obtain ⟨x5_1, x8_1, rfl, HA, HK1, HO_5, HB⟩ := hrel
  cases gk with
  | zero => exact absurd HA.out (by simp [leb_low_uint64.l0])
  | succ k1 =>
   have H := HA.out
   clear HA
   simp only [leb_low_uint64.l0] at H
   by_cases c3 : x8_1 < a1
   ·
    rw [if_pos c3] at H
    have c3b0 : decide (x8_1 < a1) = true := decide_eq_true c3
    clear c3
    obtain ⟨ji4, hji4⟩ : ∃ j_ : Int, (wrap64 (8 * x8_1)) = j_ := ⟨_, rfl⟩
    replace H : (if 0 ≤ (ji4) then (if x5_1.length < 140737488355328 then (leb_low_uint64.l0 k1 a0 (x5_1 ++ [(shr .u64 a0 (ji4)) % 256]) a1 (wrap64 (x8_1 + 1))) else (none)) else (none)) = some r := by first | (rw [hji4] at H; exact H) | (simp only [hji4] at H ⊢; exact H)
    have hji4w : (IntKind.i64.wrap (8 * x8_1)) = ji4 := (i64_w _).trans hji4
    by_cases c5 : 0 ≤ (ji4)
    ·
     rw [if_pos c5] at H
     have c5b0 := eq_true c5
     have c5b1 : decide (0 ≤ (ji4)) = true := decide_eq_true c5
     clear c5
     obtain ⟨ji6, hji6⟩ : ∃ j_ : Int, (shr .u64 a0 (ji4)) = j_ := ⟨_, rfl⟩
     replace H : (if x5_1.length < 140737488355328 then (leb_low_uint64.l0 k1 a0 (x5_1 ++ [(ji6) % 256]) a1 (wrap64 (x8_1 + 1))) else (none)) = some r := by first | (rw [hji6] at H; exact H) | (simp only [hji6] at H ⊢; exact H)
     have hji6_ : (a0 / 2 ^ min (ji4).toNat 64) = ji6 := hji6
     have hji6z : (ji4) ≤ 64 → (a0 / 2 ^ (ji4).toNat) = ji6 := shr_small hji6
     by_cases c7 : x5_1.length < 140737488355328
     ·
      rw [if_pos c7] at H
      have LMc7 := am c7
      clear c7
      obtain ⟨y101, hy101⟩ : ∃ y_ : List Int, y_ = (x5_1 ++ [(ji6) % 256]) := ⟨_, rfl⟩
      replace H : (leb_low_uint64.l0 k1 a0 y101 a1 (wrap64 (x8_1 + 1))) = some r := by first | (rw [hy101]; with_reducible exact H) | (have H2_ := (Option.bind_some _ _).symm.trans H; rw [hy101]; with_reducible exact H2_)
      have Ny101 := am hy101
      clear hy101
      have H' := am H
      clear H
      go_wp2_with (first | ((with_reducible refine gate_builtin (b := .append) (xs := #[.tmp 11, .tmp 17]) rfl ?_); at_builtin; refine Kd.R_append (Kd.int .u8) (w0 := w) w.heap.size rfl (.tmp 11) (.tmp 17) 28 5 (.int .u8 0) 1 rfl Try.underlying28 info5 rfl (by decide) (by omega) u5 x5_1 ((ji6) % 256) [.int .u8 ((ji6) % 256)] (fun _ => True) (fun _ => False) rfl rfl ?aP (fun _ hk => hk.elim) ?aF ?aO ?aB ?aS ?aL ?_; (case aP => exact rfl); (case aB => exact (by exact bl_o HB.out)); (case aF => exact (fun _ _ => trivial)); (case aO => exact (Kd.R_o HO_5.out)); (case aS => exact (below_size (by exact bl_o HB.out))); (case aL => have := LMc7.out; omega); intro v102 w8 ho hb hg hat; rw [← Ny101.out] at ho; have n0_ := am (hb); have n1_ := am (ho); clear HB; clear HO_5; have HB := n0_; have HO103 := n1_; clear n0_ n1_; clear ho hb hg hat))
      go_roundg k1
      case measure => have := HK1.out; omega
      case rel => exact ⟨(y101), (wrap64 (x8_1 + 1)), (by first | rfl | (simp; done) | (simp [*]; done)), H', ⟨by have := HK1.out; omega⟩, ⟨by (with_reducible repeat (first | apply Kd.R_alloc | apply Kd.R_drewN | apply Kd.R_drew)); exact HO103.out⟩, ⟨by exact bl_g HB.out⟩⟩
     ·
      rw [if_neg c7] at H
      exact absurd H (by simp)
    ·
     rw [if_neg c5] at H
     exact absurd H (by simp)
   ·
    rw [if_neg c3] at H
    have c3b0 : decide (x8_1 < a1) = false := decide_eq_false c3
    clear c3
    obtain rfl := Option.some.inj H
    go_wp2
    go_ret
    exact ⟨_, rfl, by (with_reducible repeat (first | apply Kd.R_alloc | apply Kd.R_drewN | apply Kd.R_drew)); exact HO_5.out, by exact bl_g HB.out⟩
end Go.Proofs.Ytfgfnflhdabmcaa.G
end
section
namespace Go.Proofs.Ytfgfnflhdabmcaa.G
open Go.RowKit Go.Proofs.YtfgfnflhdabmcaaW.PrintWords Go.Proofs.YtfgfnflhdabmcaaW.PrintLast Go.Proofs.YtfgfnflhdabmcaaW.PrintMore
attribute [local go_sem] max2_int min2_int max_two min_two max_three min_three max_four min_four   -- for this text's walks alone
set_option linter.unusedVariables false
set_option linter.unusedSimpArgs false
def leb_Put.f (k : Nat) (a0 : Int) (a1 : Int) : Option (List Int × Int) := (leb_sized.f a1).bind fun t101 => (if t101 = true then (if a1 < 8 then (if 0 ≤ (wrap64 ((wrap64 (8 * a1)) - 1)) then (if a0 < (shl .i64 (-1) (wrap64 ((wrap64 (8 * a1)) - 1))) then (some (([] : List Int), 11)) else (if 0 ≤ (wrap64 (8 * a1)) then (if a0 ≥ (shl .i64 1 (wrap64 (8 * a1))) then (some (([] : List Int), 11)) else ((leb_low_uint64.f k (IntKind.u64.wrap (a0)) a1).bind fun t102 => (some (t102, 0)))) else (none))) else (none)) else ((leb_low_uint64.f k (IntKind.u64.wrap (a0)) a1).bind fun t105 => (some (t105, 0)))) else (some (([] : List Int), 1)))
theorem leb_Put.mono : ∀ a0 a1 k, LeO (leb_Put.f k a0 a1) (leb_Put.f (k + 1) a0 a1) := by
 intro a0 a1 k
 unfold leb_Put.f
 repeat' first
   | (with_reducible exact leb_low_uint64.mono _ _ _)
   | (with_reducible exact LeO.refl _)
   | (with_reducible exact LeO.none _)
   | (with_reducible refine LeO.ite ?_ ?_)
   | (with_reducible refine LeO.bind ?_ (fun _ => ?_))
   | exact leb_low_uint64.mono _ _ _
   | exact LeO.none _
   | refine LeO.ite ?_ ?_
   | refine LeO.bind ?_ (fun _ => ?_)
set_option maxHeartbeats 8000000 in
set_option maxRecDepth 100000 in
theorem leb_Put.calls (k : Nat) (a0 : Int) (a1 : Int) (r1 : List Int) (r2 : Int) (w : World) (h : leb_Put.f k a0 a1 = some (r1, r2)) :
  Calls Try.prog 40 #[.int .i64 a0, .int .i64 a1] w fun e w' => ∃ v0_ : Value, e = .returned (.tuple #[v0_, .int .i64 r2]) ∧ Kd.R (Kd.int .u8) 5 w' w.heap.size (fun _ => True) v0_ r1 ∧ Below w.heap.size w w' := by
 have HB := am (Below.refl w.heap.size w)
 have H : ((leb_sized.f a1).bind fun t101 => (if t101 = true then (if a1 < 8 then (if 0 ≤ (wrap64 ((wrap64 (8 * a1)) - 1)) then (if a0 < (shl .i64 (-1) (wrap64 ((wrap64 (8 * a1)) - 1))) then (some (([] : List Int), 11)) else (if 0 ≤ (wrap64 (8 * a1)) then (if a0 ≥ (shl .i64 1 (wrap64 (8 * a1))) then (some (([] : List Int), 11)) else ((leb_low_uint64.f k (IntKind.u64.wrap (a0)) a1).bind fun t102 => (some (t102, 0)))) else (none))) else (none)) else ((leb_low_uint64.f k (IntKind.u64.wrap (a0)) a1).bind fun t105 => (some (t105, 0)))) else (some (([] : List Int), 1)))) = some (r1, r2) := h
 clear h
 replace H := Option.bind_eq_some_iff.mp H
 obtain ⟨t101, A30, H⟩ := H
 replace H : (if t101 = true then (if a1 < 8 then (if 0 ≤ (wrap64 ((wrap64 (8 * a1)) - 1)) then (if a0 < (shl .i64 (-1) (wrap64 ((wrap64 (8 * a1)) - 1))) then (some (([] : List Int), 11)) else (if 0 ≤ (wrap64 (8 * a1)) then (if a0 ≥ (shl .i64 1 (wrap64 (8 * a1))) then (some (([] : List Int), 11)) else ((leb_low_uint64.f k (IntKind.u64.wrap (a0)) a1).bind fun t102 => (some (t102, 0)))) else (none))) else (none)) else ((leb_low_uint64.f k (IntKind.u64.wrap (a0)) a1).bind fun t105 => (some (t105, 0)))) else (some (([] : List Int), 1))) = some (r1, r2) := H
 have A3 := am A30
 clear A30
 by_cases c4 : t101 = true
 ·
  subst c4
  have H1 : (if a1 < 8 then (if 0 ≤ (wrap64 ((wrap64 (8 * a1)) - 1)) then (if a0 < (shl .i64 (-1) (wrap64 ((wrap64 (8 * a1)) - 1))) then (some (([] : List Int), 11)) else (if 0 ≤ (wrap64 (8 * a1)) then (if a0 ≥ (shl .i64 1 (wrap64 (8 * a1))) then (some (([] : List Int), 11)) else ((leb_low_uint64.f k (IntKind.u64.wrap (a0)) a1).bind fun t102 => (some (t102, 0)))) else (none))) else (none)) else ((leb_low_uint64.f k (IntKind.u64.wrap (a0)) a1).bind fun t105 => (some (t105, 0)))) = some (r1, r2) := by rw [if_pos rfl] at H; exact H
  clear H
  have H := H1
  clear H1
  by_cases c5 : a1 < 8
  ·
   rw [if_pos c5] at H
   have c5b0 : decide (a1 < 8) = true := decide_eq_true c5
   clear c5
   obtain ⟨ji6, hji6⟩ : ∃ j_ : Int, (wrap64 ((wrap64 (8 * a1)) - 1)) = j_ := ⟨_, rfl⟩
   replace H : (if 0 ≤ (ji6) then (if a0 < (shl .i64 (-1) (ji6)) then (some (([] : List Int), 11)) else (if 0 ≤ (wrap64 (8 * a1)) then (if a0 ≥ (shl .i64 1 (wrap64 (8 * a1))) then (some (([] : List Int), 11)) else ((leb_low_uint64.f k (IntKind.u64.wrap (a0)) a1).bind fun t102 => (some (t102, 0)))) else (none))) else (none)) = some (r1, r2) := by first | (rw [hji6] at H; exact H) | (simp only [hji6] at H ⊢; exact H)
   (try rw [hji6] at A3)
   have hji6w : (IntKind.i64.wrap ((wrap64 (8 * a1)) - 1)) = ji6 := (i64_w _).trans hji6
   by_cases c7 : 0 ≤ (ji6)
   ·
    rw [if_pos c7] at H
    have c7b0 := eq_true c7
    have c7b1 : decide (0 ≤ (ji6)) = true := decide_eq_true c7
    clear c7
    obtain ⟨ji8, hji8⟩ : ∃ j_ : Int, (shl .i64 (-1) (ji6)) = j_ := ⟨_, rfl⟩
    replace H : (if a0 < (ji8) then (some (([] : List Int), 11)) else (if 0 ≤ (wrap64 (8 * a1)) then (if a0 ≥ (shl .i64 1 (wrap64 (8 * a1))) then (some (([] : List Int), 11)) else ((leb_low_uint64.f k (IntKind.u64.wrap (a0)) a1).bind fun t102 => (some (t102, 0)))) else (none))) = some (r1, r2) := by first | (rw [hji8] at H; exact H) | (simp only [hji8] at H ⊢; exact H)
    (try rw [hji8] at A3)
    have hji8_ : (IntKind.i64.wrap ((-1) * 2 ^ min (ji6).toNat 64)) = ji8 := hji8
    have hji8z : (ji6) ≤ 64 → (IntKind.i64.wrap ((-1) * 2 ^ (ji6).toNat)) = ji8 := shl_small hji8
    (try (have hji8n : (IntKind.i64.wrap (-2 ^ min (ji6).toNat 64)) = ji8 := (congrArg IntKind.i64.wrap (Int.neg_one_mul _).symm).trans hji8_))
    (try (have hji8m : (ji6) ≤ 64 → (IntKind.i64.wrap (-2 ^ (ji6).toNat)) = ji8 := fun hle_ => (congrArg IntKind.i64.wrap (Int.neg_one_mul _).symm).trans (hji8z hle_)))
    (try (have hji8ny : (wrap64 (-2 ^ min (ji6).toNat 64)) = ji8 := (i64_w _).symm.trans hji8n))
    (try (have hji8my : (ji6) ≤ 64 → (wrap64 (-2 ^ (ji6).toNat)) = ji8 := fun h_ => (i64_w _).symm.trans (hji8m h_)))
    have hji8y : (wrap64 ((-1) * 2 ^ min (ji6).toNat 64)) = ji8 := (i64_w _).symm.trans hji8_
    have hji8x : (ji6) ≤ 64 → (wrap64 ((-1) * 2 ^ (ji6).toNat)) = ji8 := fun h_ => (i64_w _).symm.trans (hji8z h_)
    by_cases c9 : a0 < (ji8)
    ·
     rw [if_pos c9] at H
     have c9b0 : decide (a0 < (ji8)) = true := decide_eq_true c9
     clear c9
     simp only [Option.some.injEq, Prod.mk.injEq] at H
     obtain ⟨rfl, rfl⟩ := H
     go_enter Try.func40, Try.ntmps40
     go_wp2_with (first | ((with_reducible refine gate_callee (f := 66) rfl ?_); refine goesL_ (some 8) rfl rfl Try.func66 (by kernel_rfl) rfl #[.int .i64 a1] rfl (by simp only [List.map_toArray, List.map_cons, List.map_nil]; try rfl) ?_; (with_reducible refine (leb_sized.calls a1 true _ A3.out).mono ?_); rintro e w' ⟨rfl, ⟨nd, rfl⟩⟩; refine ⟨_, rfl, ?_⟩))
     go_ret2
     exact ⟨_, by first | rfl | (simp [errW_none, errW_some] <;> rfl) | (simp only [← hji6, ← hji8]; first | rfl | (simp [errW_none, errW_some] <;> rfl)) | (simp [*, errW_none, errW_some] <;> rfl), by first | exact Kd.R_nil _ _ _ _ _ | exact Kd.N_nil _ _ _ _ _ | exact Kd.V_nil _ _ _ _ _ | exact Kd.Q_nil _ _ _ _ _ | exact Kd.S_nil _ _ _ _ _, by exact bl_g HB.out⟩
    ·
     rw [if_neg c9] at H
     have c9b0 : decide (a0 < (ji8)) = false := decide_eq_false c9
     clear c9
     obtain ⟨ji10, hji10⟩ : ∃ j_ : Int, (wrap64 (8 * a1)) = j_ := ⟨_, rfl⟩
     replace H : (if 0 ≤ (ji10) then (if a0 ≥ (shl .i64 1 (ji10)) then (some (([] : List Int), 11)) else ((leb_low_uint64.f k (IntKind.u64.wrap (a0)) a1).bind fun t102 => (some (t102, 0)))) else (none)) = some (r1, r2) := by first | (rw [hji10] at H; exact H) | (simp only [hji10] at H ⊢; exact H)
     (try rw [hji10] at A3)
     have hji10w : (IntKind.i64.wrap (8 * a1)) = ji10 := (i64_w _).trans hji10
     (try (have hji10ji6 : (wrap64 (ji10 - 1)) = ji6 := by (rw [← hji10]; exact hji6)))
     (try (have hji10ji6w : (IntKind.i64.wrap (ji10 - 1)) = ji6 := (i64_w _).trans hji10ji6))
     by_cases c11 : 0 ≤ (ji10)
     ·
      rw [if_pos c11] at H
      have c11b0 := eq_true c11
      have c11b1 : decide (0 ≤ (ji10)) = true := decide_eq_true c11
      clear c11
      obtain ⟨ji12, hji12⟩ : ∃ j_ : Int, (shl .i64 1 (ji10)) = j_ := ⟨_, rfl⟩
      replace H : (if a0 ≥ (ji12) then (some (([] : List Int), 11)) else ((leb_low_uint64.f k (IntKind.u64.wrap (a0)) a1).bind fun t102 => (some (t102, 0)))) = some (r1, r2) := by first | (rw [hji12] at H; exact H) | (simp only [hji12] at H ⊢; exact H)
      (try rw [hji12] at A3)
      have hji12_ : (IntKind.i64.wrap (1 * 2 ^ min (ji10).toNat 64)) = ji12 := hji12
      have hji12z : (ji10) ≤ 64 → (IntKind.i64.wrap (1 * 2 ^ (ji10).toNat)) = ji12 := shl_small hji12
      have hji12u : (IntKind.i64.wrap (2 ^ min (ji10).toNat 64)) = ji12 := by have h_ := hji12_; rw [Int.one_mul] at h_; exact h_
      have hji12v : (ji10) ≤ 64 → (IntKind.i64.wrap (2 ^ (ji10).toNat)) = ji12 := fun hle_ => by have h_ := hji12z hle_; rw [Int.one_mul] at h_; exact h_
      have hji12y : (wrap64 (1 * 2 ^ min (ji10).toNat 64)) = ji12 := (i64_w _).symm.trans hji12_
      have hji12x : (ji10) ≤ 64 → (wrap64 (1 * 2 ^ (ji10).toNat)) = ji12 := fun h_ => (i64_w _).symm.trans (hji12z h_)
      by_cases c13 : a0 ≥ (ji12)
      ·
       rw [if_pos c13] at H
       have c13b0 : decide ((ji12) ≤ a0) = true := decide_eq_true c13
       clear c13
       simp only [Option.some.injEq, Prod.mk.injEq] at H
       obtain ⟨rfl, rfl⟩ := H
       go_enter Try.func40, Try.ntmps40
       go_wp2_with (first | ((with_reducible refine gate_callee (f := 66) rfl ?_); refine goesL_ (some 8) rfl rfl Try.func66 (by kernel_rfl) rfl #[.int .i64 a1] rfl (by simp only [List.map_toArray, List.map_cons, List.map_nil]; try rfl) ?_; (with_reducible refine (leb_sized.calls a1 true _ A3.out).mono ?_); rintro e w' ⟨rfl, ⟨nd, rfl⟩⟩; refine ⟨_, rfl, ?_⟩))
       go_ret2
       exact ⟨_, by first | rfl | (simp [errW_none, errW_some] <;> rfl) | (simp only [← hji6, ← hji8, ← hji10, ← hji12]; first | rfl | (simp [errW_none, errW_some] <;> rfl)) | (simp [*, errW_none, errW_some] <;> rfl), by first | exact Kd.R_nil _ _ _ _ _ | exact Kd.N_nil _ _ _ _ _ | exact Kd.V_nil _ _ _ _ _ | exact Kd.Q_nil _ _ _ _ _ | exact Kd.S_nil _ _ _ _ _, by exact bl_g HB.out⟩
      ·
       rw [if_neg c13] at H
       have c13b0 : decide ((ji12) ≤ a0) = false := decide_eq_false c13
       clear c13
       replace H := Option.bind_eq_some_iff.mp H
       obtain ⟨t102, A140, H⟩ := H
       replace H : (some (t102, 0)) = some (r1, r2) := H
       have A14 := am A140
       clear A140
       simp only [Option.some.injEq, Prod.mk.injEq] at H
       obtain ⟨rfl, rfl⟩ := H
       go_enter Try.func40, Try.ntmps40
       go_wp2_with (first | ((with_reducible refine gate_callee (f := 66) rfl ?_); refine goesL_ (some 8) rfl rfl Try.func66 (by kernel_rfl) rfl #[.int .i64 a1] rfl (by simp only [List.map_toArray, List.map_cons, List.map_nil]; try rfl) ?_; (with_reducible refine (leb_sized.calls a1 true _ A3.out).mono ?_); rintro e w' ⟨rfl, ⟨nd, rfl⟩⟩; refine ⟨_, rfl, ?_⟩) | ((with_reducible refine gate_callee (f := 67) rfl ?_); refine goesL_ (some 31) rfl rfl Try.func67 (by kernel_rfl) rfl #[.int .u64 (IntKind.u64.wrap (a0)), .int .i64 a1] rfl (by simp only [List.map_toArray, List.map_cons, List.map_nil]; try rfl) ?_; (with_reducible refine (leb_low_uint64.calls k (IntKind.u64.wrap (a0)) a1 t102 _ A14.out).mono ?_); rintro e w15 ⟨v103, rfl, ho0, hb⟩; refine ⟨_, rfl, ?_⟩; have n0_ := am (Kd.R_lower ho0 (below_size (by exact bl_o HB.out))); have n1_ := am (below_step (by exact bl_o HB.out) hb); clear HB; have HO104 := n0_; have HB := n1_; clear n0_ n1_; (try clear hb); (try clear hb2); (try clear hk); (try clear hi); (try clear ho0)))
       go_ret2
       exact ⟨_, by first | rfl | (simp [errW_none, errW_some] <;> rfl) | (simp only [← hji6, ← hji8, ← hji10, ← hji12]; first | rfl | (simp [errW_none, errW_some] <;> rfl)) | (simp [*, errW_none, errW_some] <;> rfl), by (with_reducible repeat (first | apply Kd.R_alloc | apply Kd.R_drewN | apply Kd.R_drew)); exact HO104.out, by exact bl_g HB.out⟩
     ·
      rw [if_neg c11] at H
      exact absurd H (by simp)
   ·
    rw [if_neg c7] at H
    exact absurd H (by simp)
  ·
   rw [if_neg c5] at H
   have c5b0 : decide (a1 < 8) = false := decide_eq_false c5
   clear c5
   replace H := Option.bind_eq_some_iff.mp H
   obtain ⟨t105, A160, H⟩ := H
   replace H : (some (t105, 0)) = some (r1, r2) := H
   have A16 := am A160
   clear A160
   simp only [Option.some.injEq, Prod.mk.injEq] at H
   obtain ⟨rfl, rfl⟩ := H
   go_enter Try.func40, Try.ntmps40
   go_wp2_with (first | ((with_reducible refine gate_callee (f := 66) rfl ?_); refine goesL_ (some 8) rfl rfl Try.func66 (by kernel_rfl) rfl #[.int .i64 a1] rfl (by simp only [List.map_toArray, List.map_cons, List.map_nil]; try rfl) ?_; (with_reducible refine (leb_sized.calls a1 true _ A3.out).mono ?_); rintro e w' ⟨rfl, ⟨nd, rfl⟩⟩; refine ⟨_, rfl, ?_⟩) | ((with_reducible refine gate_callee (f := 67) rfl ?_); refine goesL_ (some 31) rfl rfl Try.func67 (by kernel_rfl) rfl #[.int .u64 (IntKind.u64.wrap (a0)), .int .i64 a1] rfl (by simp only [List.map_toArray, List.map_cons, List.map_nil]; try rfl) ?_; (with_reducible refine (leb_low_uint64.calls k (IntKind.u64.wrap (a0)) a1 t105 _ A16.out).mono ?_); rintro e w17 ⟨v106, rfl, ho0, hb⟩; refine ⟨_, rfl, ?_⟩; have n0_ := am (Kd.R_lower ho0 (below_size (by exact bl_o HB.out))); have n1_ := am (below_step (by exact bl_o HB.out) hb); clear HB; have HO107 := n0_; have HB := n1_; clear n0_ n1_; (try clear hb); (try clear hb2); (try clear hk); (try clear hi); (try clear ho0)))
   go_ret2
   exact ⟨_, rfl, by (with_reducible repeat (first | apply Kd.R_alloc | apply Kd.R_drewN | apply Kd.R_drew)); exact HO107.out, by exact bl_g HB.out⟩
 ·
  replace c4 := Bool.eq_false_iff.mpr c4
  subst c4
  have H1 : (some (([] : List Int), 1)) = some (r1, r2) := by rw [if_neg (show ¬ (false = true) by decide)] at H; exact H
  clear H
  have H := H1
  clear H1
  simp only [Option.some.injEq, Prod.mk.injEq] at H
  obtain ⟨rfl, rfl⟩ := H
  go_enter Try.func40, Try.ntmps40
  go_wp2_with (first | ((with_reducible refine gate_callee (f := 66) rfl ?_); refine goesL_ (some 8) rfl rfl Try.func66 (by kernel_rfl) rfl #[.int .i64 a1] rfl (by simp only [List.map_toArray, List.map_cons, List.map_nil]; try rfl) ?_; (with_reducible refine (leb_sized.calls a1 false _ A3.out).mono ?_); rintro e w' ⟨rfl, ⟨nd, rfl⟩⟩; refine ⟨_, rfl, ?_⟩))
  go_ret2
  exact ⟨_, rfl, by first | exact Kd.R_nil _ _ _ _ _ | exact Kd.N_nil _ _ _ _ _ | exact Kd.V_nil _ _ _ _ _ | exact Kd.Q_nil _ _ _ _ _ | exact Kd.S_nil _ _ _ _ _, by exact bl_g HB.out⟩
end Go.Proofs.Ytfgfnflhdabmcaa.G
end
section
namespace Go.Proofs.Ytfgfnflhdabmcaa.G
open Go.RowKit Go.Proofs.YtfgfnflhdabmcaaW.PrintWords Go.Proofs.YtfgfnflhdabmcaaW.PrintLast Go.Proofs.YtfgfnflhdabmcaaW.PrintMore
attribute [local go_sem] max2_int min2_int max_two min_two max_three min_three max_four min_four   -- for this text's walks alone
set_option linter.unusedVariables false
set_option linter.unusedSimpArgs false
mutual
def ehframe_Put.j0 : Nat → Int → Int → Bool → Option (List Int × Int)
 | 0, _, _, _ => none
 | k + 1, x1, x106000, x106001 => (ehframe_near.f k (([x1] : List Int))).bind fun t113 => (if t113 = true then (if x106001 = true then (ehframe_Put.j1 k x1 false x106000 x106001) else (ehframe_Put.j1 k x1 (decide (x1 < 0)) x106000 x106001)) else (ehframe_Put.j1 k x1 true x106000 x106001))
def ehframe_Put.j1 : Nat → Int → Bool → Int → Bool → Option (List Int × Int)
 | 0, _, _, _, _ => none
 | k + 1, x1, x52, x106000, x106001 => if x52 = true then (some (([] : List Int), 11)) else (if x106000 = 0 then (ehframe_Put.j2 k x1 x106001 x106000 x106001) else (ehframe_Put.j2 k x1 false x106000 x106001))
def ehframe_Put.j2 : Nat → Int → Bool → Int → Bool → Option (List Int × Int)
 | 0, _, _, _, _ => none
 | k + 1, x1, x53, x106000, x106001 => if x53 = true then ((leb_Sleb.f k x1).bind fun t114 => (some (t114, 0))) else (if x106000 = 0 then ((leb_Uleb.f k x1).bind fun t117 => (some (t117, 0))) else ((leb_Fits.f k x1 (wrap64 (8 * x106000)) x106001).bind fun t120 => (if t120 = true then ((leb_Put.f k x1 8).bind fun bt121 => (if 0 ≤ x106000 then (if x106000 ≤ (bt121.1.length : Int) then (some ((bt121.1.take (x106000 : Int).toNat), 0)) else (none)) else (none))) else (some (([] : List Int), 11)))))
end
def ehframe_Put.f (k : Nat) (a0 : Int) (a1 : Int) (a2 : Int) (a3 : Int) : Option (List Int × Int) := (ehframe_of.f a0).bind fun bt101 => (if bt101.2.2.2 = true then ((ehframe_near.f k (([a1, a2, a3] : List Int))).bind fun t109 => (if t109 = true then (if bt101.2.2.1 = 16 then (ehframe_Put.j0 k (wrap64 (a1 - a2)) bt101.1 bt101.2.1) else (if bt101.2.2.1 = 48 then (ehframe_Put.j0 k (wrap64 (a1 - a3)) bt101.1 bt101.2.1) else (ehframe_Put.j0 k a1 bt101.1 bt101.2.1))) else (some (([] : List Int), 11)))) else (some (([] : List Int), 140)))
theorem ehframe_Put.mono_l : ∀ k, (∀ y0 y1 y2, LeO (ehframe_Put.j0 k y0 y1 y2) (ehframe_Put.j0 (k + 1) y0 y1 y2)) ∧ (∀ y0 y1 y2 y3, LeO (ehframe_Put.j1 k y0 y1 y2 y3) (ehframe_Put.j1 (k + 1) y0 y1 y2 y3)) ∧ (∀ y0 y1 y2 y3, LeO (ehframe_Put.j2 k y0 y1 y2 y3) (ehframe_Put.j2 (k + 1) y0 y1 y2 y3))
 | 0 => ⟨fun _ _ _ r h => by simp [ehframe_Put.j0] at h, fun _ _ _ _ r h => by simp [ehframe_Put.j1] at h, fun _ _ _ _ r h => by simp [ehframe_Put.j2] at h⟩
 | k + 1 => by
  obtain ⟨ih0, ih1, ih2⟩ := ehframe_Put.mono_l k
  refine ⟨?_, ?_, ?_⟩
  ·
   intro y0 y1 y2
   unfold ehframe_Put.j0
   repeat' first
   | (with_reducible exact ih0 _ _ _)
   | (with_reducible exact ih1 _ _ _ _)
   | (with_reducible exact ih2 _ _ _ _)
   | (with_reducible exact ehframe_near.mono _ _)
   | (with_reducible exact leb_Fits.mono _ _ _ _)
   | (with_reducible exact leb_Put.mono _ _ _)
   | (with_reducible exact leb_Sleb.mono _ _)
   | (with_reducible exact leb_Uleb.mono _ _)
   | (with_reducible exact LeO.refl _)
   | (with_reducible exact LeO.none _)
   | (with_reducible refine LeO.ite ?_ ?_)
   | (with_reducible refine LeO.bind ?_ (fun _ => ?_))
   | exact ih0 _ _ _
   | exact ih1 _ _ _ _
   | exact ih2 _ _ _ _
   | exact ehframe_near.mono _ _
   | exact leb_Fits.mono _ _ _ _
   | exact leb_Put.mono _ _ _
   | exact leb_Sleb.mono _ _
   | exact leb_Uleb.mono _ _
   | exact LeO.none _
   | refine LeO.ite ?_ ?_
   | refine LeO.bind ?_ (fun _ => ?_)
  ·
   intro y0 y1 y2 y3
   unfold ehframe_Put.j1
   repeat' first
   | (with_reducible exact ih0 _ _ _)
   | (with_reducible exact ih1 _ _ _ _)
   | (with_reducible exact ih2 _ _ _ _)
   | (with_reducible exact ehframe_near.mono _ _)
   | (with_reducible exact leb_Fits.mono _ _ _ _)
   | (with_reducible exact leb_Put.mono _ _ _)
   | (with_reducible exact leb_Sleb.mono _ _)
   | (with_reducible exact leb_Uleb.mono _ _)
   | (with_reducible exact LeO.refl _)
   | (with_reducible exact LeO.none _)
   | (with_reducible refine LeO.ite ?_ ?_)
   | (with_reducible refine LeO.bind ?_ (fun _ => ?_))
   | exact ih0 _ _ _
   | exact ih1 _ _ _ _
   | exact ih2 _ _ _ _
   | exact ehframe_near.mono _ _
   | exact leb_Fits.mono _ _ _ _
   | exact leb_Put.mono _ _ _
   | exact leb_Sleb.mono _ _
   | exact leb_Uleb.mono _ _
   | exact LeO.none _
   | refine LeO.ite ?_ ?_
   | refine LeO.bind ?_ (fun _ => ?_)
  ·
   intro y0 y1 y2 y3
   unfold ehframe_Put.j2
   repeat' first
   | (with_reducible exact ih0 _ _ _)
   | (with_reducible exact ih1 _ _ _ _)
   | (with_reducible exact ih2 _ _ _ _)
   | (with_reducible exact ehframe_near.mono _ _)
   | (with_reducible exact leb_Fits.mono _ _ _ _)
   | (with_reducible exact leb_Put.mono _ _ _)
   | (with_reducible exact leb_Sleb.mono _ _)
   | (with_reducible exact leb_Uleb.mono _ _)
   | (with_reducible exact LeO.refl _)
   | (with_reducible exact LeO.none _)
   | (with_reducible refine LeO.ite ?_ ?_)
   | (with_reducible refine LeO.bind ?_ (fun _ => ?_))
   | exact ih0 _ _ _
   | exact ih1 _ _ _ _
   | exact ih2 _ _ _ _
   | exact ehframe_near.mono _ _
   | exact leb_Fits.mono _ _ _ _
   | exact leb_Put.mono _ _ _
   | exact leb_Sleb.mono _ _
   | exact leb_Uleb.mono _ _
   | exact LeO.none _
   | refine LeO.ite ?_ ?_
   | refine LeO.bind ?_ (fun _ => ?_)
theorem ehframe_Put.mono : ∀ a0 a1 a2 a3 k, LeO (ehframe_Put.f k a0 a1 a2 a3) (ehframe_Put.f (k + 1) a0 a1 a2 a3) := by
 intro a0 a1 a2 a3 k
 obtain ⟨ih0, ih1, ih2⟩ := ehframe_Put.mono_l k
 unfold ehframe_Put.f
 repeat' first
   | (with_reducible exact ih0 _ _ _)
   | (with_reducible exact ih1 _ _ _ _)
   | (with_reducible exact ih2 _ _ _ _)
   | (with_reducible exact ehframe_near.mono _ _)
   | (with_reducible exact leb_Fits.mono _ _ _ _)
   | (with_reducible exact leb_Put.mono _ _ _)
   | (with_reducible exact leb_Sleb.mono _ _)
   | (with_reducible exact leb_Uleb.mono _ _)
   | (with_reducible exact LeO.refl _)
   | (with_reducible exact LeO.none _)
   | (with_reducible refine LeO.ite ?_ ?_)
   | (with_reducible refine LeO.bind ?_ (fun _ => ?_))
   | exact ih0 _ _ _
   | exact ih1 _ _ _ _
   | exact ih2 _ _ _ _
   | exact ehframe_near.mono _ _
   | exact leb_Fits.mono _ _ _ _
   | exact leb_Put.mono _ _ _
   | exact leb_Sleb.mono _ _
   | exact leb_Uleb.mono _ _
   | exact LeO.none _
   | refine LeO.ite ?_ ?_
   | refine LeO.bind ?_ (fun _ => ?_)
set_option maxHeartbeats 8000000 in
set_option maxRecDepth 100000 in
theorem ehframe_Put.calls (k : Nat) (a0 : Int) (a1 : Int) (a2 : Int) (a3 : Int) (r1 : List Int) (r2 : Int) (w : World) (h : ehframe_Put.f k a0 a1 a2 a3 = some (r1, r2)) :
  Calls Try.prog 16 #[.int .i64 a0, .int .i64 a1, .int .i64 a2, .int .i64 a3] w fun e w' => ∃ v0_ : Value, e = .returned (.tuple #[v0_, .int .i64 r2]) ∧ Kd.R (Kd.int .u8) 5 w' w.heap.size (fun _ => True) v0_ r1 ∧ Below w.heap.size w w' := by
 have hu76 := Try.underlying76
 have HB := am (Below.refl w.heap.size w)
 have H : ((ehframe_of.f a0).bind fun bt101 => (if bt101.2.2.2 = true then ((ehframe_near.f k (([a1, a2, a3] : List Int))).bind fun t109 => (if t109 = true then (if bt101.2.2.1 = 16 then (ehframe_Put.j0 k (wrap64 (a1 - a2)) bt101.1 bt101.2.1) else (if bt101.2.2.1 = 48 then (ehframe_Put.j0 k (wrap64 (a1 - a3)) bt101.1 bt101.2.1) else (ehframe_Put.j0 k a1 bt101.1 bt101.2.1))) else (some (([] : List Int), 11)))) else (some (([] : List Int), 140)))) = some (r1, r2) := h
 clear h
 replace H := Option.bind_eq_some_iff.mp H
 obtain ⟨⟨t101, t102, t103, t104⟩, A50, H⟩ := H
 replace H : (if t104 = true then ((ehframe_near.f k (([a1, a2, a3] : List Int))).bind fun t109 => (if t109 = true then (if t103 = 16 then (ehframe_Put.j0 k (wrap64 (a1 - a2)) t101 t102) else (if t103 = 48 then (ehframe_Put.j0 k (wrap64 (a1 - a3)) t101 t102) else (ehframe_Put.j0 k a1 t101 t102))) else (some (([] : List Int), 11)))) else (some (([] : List Int), 140))) = some (r1, r2) := H
 have A5 := am A50
 clear A50
 by_cases c6 : t104 = true
 ·
  subst c6
  have H1 : ((ehframe_near.f k (([a1, a2, a3] : List Int))).bind fun t109 => (if t109 = true then (if t103 = 16 then (ehframe_Put.j0 k (wrap64 (a1 - a2)) t101 t102) else (if t103 = 48 then (ehframe_Put.j0 k (wrap64 (a1 - a3)) t101 t102) else (ehframe_Put.j0 k a1 t101 t102))) else (some (([] : List Int), 11)))) = some (r1, r2) := by rw [if_pos rfl] at H; exact H
  clear H
  have H := H1
  clear H1
  obtain ⟨y106, hy106⟩ : ∃ y_ : List Int, y_ = (([a1, a2, a3] : List Int)) := ⟨_, rfl⟩
  replace H : ((ehframe_near.f k y106).bind fun t109 => (if t109 = true then (if t103 = 16 then (ehframe_Put.j0 k (wrap64 (a1 - a2)) t101 t102) else (if t103 = 48 then (ehframe_Put.j0 k (wrap64 (a1 - a3)) t101 t102) else (ehframe_Put.j0 k a1 t101 t102))) else (some (([] : List Int), 11)))) = some (r1, r2) := by first | (rw [hy106]; with_reducible exact H) | (have H2_ := (Option.bind_some _ _).symm.trans H; rw [hy106]; with_reducible exact H2_)
  have Ny106 := am hy106
  clear hy106
  replace H := Option.bind_eq_some_iff.mp H
  obtain ⟨t109, A70, H⟩ := H
  replace H : (if t109 = true then (if t103 = 16 then (ehframe_Put.j0 k (wrap64 (a1 - a2)) t101 t102) else (if t103 = 48 then (ehframe_Put.j0 k (wrap64 (a1 - a3)) t101 t102) else (ehframe_Put.j0 k a1 t101 t102))) else (some (([] : List Int), 11))) = some (r1, r2) := H
  have A7 := am A70
  clear A70
  by_cases c8 : t109 = true
  ·
   subst c8
   have H1 : (if t103 = 16 then (ehframe_Put.j0 k (wrap64 (a1 - a2)) t101 t102) else (if t103 = 48 then (ehframe_Put.j0 k (wrap64 (a1 - a3)) t101 t102) else (ehframe_Put.j0 k a1 t101 t102))) = some (r1, r2) := by rw [if_pos rfl] at H; exact H
   clear H
   have H := H1
   clear H1
   have HC9 := am H
   clear H
   go_enter Try.func16, Try.ntmps16
   go_upto_block 0 with (first | ((with_reducible refine gate_callee (f := 29) rfl ?_); refine goesL_ (some 17) rfl rfl Try.func29 (by kernel_rfl) rfl #[.int .i64 a0] rfl (by simp only [List.map_toArray, List.map_cons, List.map_nil]; try rfl) ?_; (with_reducible refine (ehframe_of.calls a0 t101 t102 t103 true _ A5.out).mono ?_); rintro e w10 ⟨rfl, hb⟩; refine ⟨_, rfl, ?_⟩; have n0_ := am (below_step (by exact bl_o HB.out) hb); clear HB; have HB := n0_; clear n0_; (try clear hb); (try clear hb2); (try clear hk); (try clear hi)) | ((with_reducible refine gate_dst (N := 10) rfl ?_); refine box_event ?hg (N := 10) ?hd (cs := #[.int .i64 0, .bool false]) (t := 76) ?hr ?_; (case hd => rfl); (case hg => rfl); (case hr => go_simp; try rfl); intro gb105 hg w11 hbox hb; have n0_ := am (below_step (by exact bl_o HB.out) hb); have n1_ := am (hbox); have n2_ := lei (by rw [hg]; exact (below_size (by exact bl_o HB.out)) : w.heap.size ≤ gb105); have n3_ := n2_; clear HB; have HB := n0_; have BK105 := n1_; have GW105 := n2_; have GE105 := n3_; clear n0_ n1_ n2_ n3_; clear hb hbox hg; obtain ⟨hcz12_0, hcz12_1, hfz12_0, hfz12_1⟩ := cells2 BK105.out) | ((with_reducible refine gate_dst (N := 26) rfl ?_); refine Kd.R_lit (Kd.int .i64) _ 3 ?hg (N := 26) ?hd (xs := ([a1, a2, a3] : List Int)) (inner := [.int .i64 a1, .int .i64 a2, .int .i64 a3]) (ok := fun _ => True) (okp := fun _ => True) ?hr ?hp (fun _ hk => hk) trivial (Below.refl _ _) (Nat.le_refl _) (by simp) ?_; (case hd => rfl); (case hg => rfl); (case hr => go_simp; try rfl); (case hp => exact (Reps.one (show Kd.M (Kd.int .i64) _ _ _ a1 [.int .i64 a1] from rfl) (Reps.one (show Kd.M (Kd.int .i64) _ _ _ a2 [.int .i64 a2] from rfl) (Reps.one (show Kd.M (Kd.int .i64) _ _ _ a3 [.int .i64 a3] from rfl) (Reps.none _ _))))); intro v107 w13 ho14 hb hg_ hnew_; clear hg_ hnew_; (first | rw [← Ny106.out] at ho14 | (simp only [Int.reduceToNat] at ho14; rw [← Ny106.out] at ho14)); have n0_ := am (Kd.R_lower ho14 (below_size (by exact bl_g HB.out))); have n1_ := am (blk_below (g := gb105) (o := .cells #[.int .i64 t101, .bool t102] 76 (0, 0)) (by (with_reducible repeat (first | refine blk_drewN ?_ _ | refine blk_drew ?_ | refine blk_alloc ?_ _)); refine blk_put (cs := #[.int .i64 t101, .bool false]) ?_ 1 _ rfl; (with_reducible repeat (first | refine blk_drewN ?_ _ | refine blk_drew ?_ | refine blk_alloc ?_ _)); refine blk_put (cs := #[.int .i64 0, .bool false]) ?_ 0 _ rfl; (with_reducible repeat (first | refine blk_drewN ?_ _ | refine blk_drew ?_ | refine blk_alloc ?_ _)); exact BK105.out) hb); have n2_ := am (below_step (by exact bl_g HB.out) hb); clear BK105; clear HB; have HO108 := n0_; have BK105 := n1_; have HB := n2_; clear n0_ n1_ n2_; clear hb ho14; obtain ⟨Ao15, co15, eo15⟩ := Kd.R_slice HO108.out; subst eo15) | ((with_reducible refine gate_callee (f := 30) rfl ?_); refine goesL_ (some 27) rfl rfl Try.func30 (by kernel_rfl) rfl #[.slice Ao15 y106.length co15] rfl (by simp only [List.map_toArray, List.map_cons, List.map_nil]; try rfl) ?_; (with_reducible refine (ehframe_near.calls k _ _ y106 true _ ?side1 ?side2 A7.out).mono ?_); (case side1 => exact Kd.C_o ((Kd.R_reads' HO108.out).2.2)); (case side2 => exact (Kd.R_reads' HO108.out).2.1); rintro e w' ⟨rfl, ⟨nd, rfl⟩⟩; refine ⟨_, rfl, ?_⟩))
   (try simp only [Act.put, List.setIfInBounds_toArray, List.set_cons_zero, List.set_cons_succ])
   go_cut [1] (fun v1 wc => ∃ (kq : Nat) (x1_8 : Int), v1 = .int .i64 x1_8 ∧ Aside0 (ehframe_Put.j0 kq x1_8 t101 t102 = some (r1, r2)) ∧ Aside0 (kq ≤ k) ∧ Aside0 (wc.heap[gb105]? = some (.cells #[.int .i64 t101, .bool t102] 76 (0, 0))) ∧ Aside0 (Below w.heap.size w wc))
   case first =>
    have H := HC9.out
    clear HC9
    by_cases c16 : t103 = 16
    ·
     rw [if_pos c16] at H
     have c16b0 : (t103 == 16) = true := beq_iff_eq.mpr c16
     have c16b1 : (t103 != 16) = false := bne_eq_false_iff_eq.mpr c16
     clear c16
     (first | rw [c16b0] | (simp only [i64_w, i32_w]; rw [c16b0]) | skip)
     have H' := am H
     clear H
     go_wp2
     go_meet
     case rel => exact ⟨_, (wrap64 (a1 - a2)), (by first | rfl | (simp; done) | (simp [*]; done)), H', ⟨by first | omega | exact Nat.le_refl _⟩, ⟨by (with_reducible repeat (first | refine blk_drewN ?_ _ | refine blk_drew ?_ | refine blk_alloc ?_ _)); exact BK105.out⟩, ⟨by exact bl_g HB.out⟩⟩
    ·
     rw [if_neg c16] at H
     have c16b0 : (t103 == 16) = false := beq_eq_false_iff_ne.mpr c16
     have c16b1 : (t103 != 16) = true := bne_iff_ne.mpr c16
     (first | rw [c16b0] | (simp only [i64_w, i32_w]; rw [c16b0]) | skip)
     by_cases c17 : t103 = 48
     ·
      rw [if_pos c17] at H
      have c17b0 : (t103 == 48) = true := beq_iff_eq.mpr c17
      have c17b1 : (t103 != 48) = false := bne_eq_false_iff_eq.mpr c17
      clear c17
      have H' := am H
      clear H
      go_wp2
      go_meet
      case rel => exact ⟨_, (wrap64 (a1 - a3)), (by first | rfl | (simp; done) | (simp [*]; done)), H', ⟨by first | omega | exact Nat.le_refl _⟩, ⟨by (with_reducible repeat (first | refine blk_drewN ?_ _ | refine blk_drew ?_ | refine blk_alloc ?_ _)); exact BK105.out⟩, ⟨by exact bl_g HB.out⟩⟩
     ·
      rw [if_neg c17] at H
      have c17b0 : (t103 == 48) = false := beq_eq_false_iff_ne.mpr c17
      have c17b1 : (t103 != 48) = true := bne_iff_ne.mpr c17
      have H' := am H
      clear H
      go_wp2
      go_meet
      case rel => exact ⟨_, (a1), (by first | rfl | (simp; done) | (simp [*]; done)), H', ⟨by first | omega | exact Nat.le_refl _⟩, ⟨by (with_reducible repeat (first | refine blk_drewN ?_ _ | refine blk_drew ?_ | refine blk_alloc ?_ _)); exact BK105.out⟩, ⟨by exact bl_g HB.out⟩⟩
   case rest =>
    clear HC9
    try clear c1
    try clear c2
    try clear p2
    try clear c3
    try clear c6
    try clear p6
    try clear c8
    try clear c16
    try clear c16b0
    try clear c16b1
    try clear c17
    try clear c17b0
    try clear c17b1
    try clear hcz12_0
    try clear hcz12_1
    try clear hfz12_0
    try clear hfz12_1
    obtain ⟨kq, x1_8, rfl, HA, HJ8, BK105, HB⟩ := hcut
    cases kq with
    | zero => exact absurd HA.out (by simp [ehframe_Put.j0])
    | succ kj8 =>
     have H := HA.out
     clear HA
     simp only [ehframe_Put.j0] at H
     have HC18 := am H
     clear H
     go_upto_region 11 with (fail)
     go_cut [52] (fun v52 wc => ∃ (kq : Nat) (x52_17 : Bool), v52 = .bool x52_17 ∧ Aside0 (ehframe_Put.j1 kq x1_8 x52_17 t101 t102 = some (r1, r2)) ∧ Aside0 (kq ≤ kj8) ∧ Aside0 (wc.heap[gb105]? = some (.cells #[.int .i64 t101, .bool t102] 76 (0, 0))) ∧ Aside0 (Below w.heap.size w wc))
     case first =>
      have H := HC18.out
      clear HC18
      obtain ⟨y110, hy110⟩ : ∃ y_ : List Int, y_ = (([x1_8] : List Int)) := ⟨_, rfl⟩
      replace H : ((ehframe_near.f kj8 y110).bind fun t113 => (if t113 = true then (if t102 = true then (ehframe_Put.j1 kj8 x1_8 false t101 t102) else (ehframe_Put.j1 kj8 x1_8 (decide (x1_8 < 0)) t101 t102)) else (ehframe_Put.j1 kj8 x1_8 true t101 t102))) = some (r1, r2) := by first | (rw [hy110]; with_reducible exact H) | (have H2_ := (Option.bind_some _ _).symm.trans H; rw [hy110]; with_reducible exact H2_)
      have Ny110 := am hy110
      clear hy110
      replace H := Option.bind_eq_some_iff.mp H
      obtain ⟨t113, A190, H⟩ := H
      replace H : (if t113 = true then (if t102 = true then (ehframe_Put.j1 kj8 x1_8 false t101 t102) else (ehframe_Put.j1 kj8 x1_8 (decide (x1_8 < 0)) t101 t102)) else (ehframe_Put.j1 kj8 x1_8 true t101 t102)) = some (r1, r2) := H
      have A19 := am A190
      clear A190
      by_cases c20 : t113 = true
      ·
       subst c20
       have H1 : (if t102 = true then (ehframe_Put.j1 kj8 x1_8 false t101 t102) else (ehframe_Put.j1 kj8 x1_8 (decide (x1_8 < 0)) t101 t102)) = some (r1, r2) := by rw [if_pos rfl] at H; exact H
       clear H
       have H := H1
       clear H1
       by_cases c21 : t102 = true
       ·
        subst c21
        have H1 : (ehframe_Put.j1 kj8 x1_8 false t101 true) = some (r1, r2) := by rw [if_pos rfl] at H; exact H
        clear H
        have H := H1
        clear H1
        have H' := am H
        clear H
        go_wp2_with (first | ((with_reducible refine gate_dst (N := 41) rfl ?_); refine Kd.R_lit (Kd.int .i64) _ 3 ?hg (N := 41) ?hd (xs := ([x1_8] : List Int)) (inner := [.int .i64 x1_8]) (ok := fun _ => True) (okp := fun _ => True) ?hr ?hp (fun _ hk => hk) trivial (Below.refl _ _) (Nat.le_refl _) (by simp) ?_; (case hd => rfl); (case hg => rfl); (case hr => go_simp; try rfl); (case hp => exact (Reps.one (show Kd.M (Kd.int .i64) _ _ _ x1_8 [.int .i64 x1_8] from rfl) (Reps.none _ _))); intro v111 w22 ho23 hb hg_ hnew_; clear hg_ hnew_; (first | rw [← Ny110.out] at ho23 | (simp only [Int.reduceToNat] at ho23; rw [← Ny110.out] at ho23)); have n0_ := am (Kd.R_lower ho23 (below_size (by exact bl_g HB.out))); have n1_ := am (blk_below (blk_o BK105.out) hb); have n2_ := am (below_step (by exact bl_g HB.out) hb); clear BK105; clear HB; have HO112 := n0_; have BK105 := n1_; have HB := n2_; clear n0_ n1_ n2_; clear hb ho23; obtain ⟨Ao24, co24, eo24⟩ := Kd.R_slice HO112.out; subst eo24) | ((with_reducible refine gate_callee (f := 30) rfl ?_); refine goesL_ (some 42) rfl rfl Try.func30 (by kernel_rfl) rfl #[.slice Ao24 y110.length co24] rfl (by simp only [List.map_toArray, List.map_cons, List.map_nil]; try rfl) ?_; (with_reducible refine (ehframe_near.calls kj8 _ _ y110 true _ ?side1 ?side2 A19.out).mono ?_); (case side1 => exact Kd.C_o ((Kd.R_reads' HO112.out).2.2)); (case side2 => exact (Kd.R_reads' HO112.out).2.1); rintro e w' ⟨rfl, ⟨nd, rfl⟩⟩; refine ⟨_, rfl, ?_⟩; obtain ⟨hcz25_0, hcz25_1, hfz25_0, hfz25_1⟩ := cells2 BK105.out))
        go_meet
        case rel => exact ⟨_, (false), (by first | rfl | (simp; done) | (simp [*]; done)), H', ⟨by have := HJ8.out; first | omega | exact Nat.le_refl _⟩, ⟨by (with_reducible repeat (first | refine blk_drewN ?_ _ | refine blk_drew ?_ | refine blk_alloc ?_ _)); exact BK105.out⟩, ⟨by exact bl_g HB.out⟩⟩
       ·
        replace c21 := Bool.eq_false_iff.mpr c21
        subst c21
        have H1 : (ehframe_Put.j1 kj8 x1_8 (decide (x1_8 < 0)) t101 false) = some (r1, r2) := by rw [if_neg (show ¬ (false = true) by decide)] at H; exact H
        clear H
        have H := H1
        clear H1
        have H' := am H
        clear H
        go_wp2_with (first | ((with_reducible refine gate_dst (N := 41) rfl ?_); refine Kd.R_lit (Kd.int .i64) _ 3 ?hg (N := 41) ?hd (xs := ([x1_8] : List Int)) (inner := [.int .i64 x1_8]) (ok := fun _ => True) (okp := fun _ => True) ?hr ?hp (fun _ hk => hk) trivial (Below.refl _ _) (Nat.le_refl _) (by simp) ?_; (case hd => rfl); (case hg => rfl); (case hr => go_simp; try rfl); (case hp => exact (Reps.one (show Kd.M (Kd.int .i64) _ _ _ x1_8 [.int .i64 x1_8] from rfl) (Reps.none _ _))); intro v111 w26 ho27 hb hg_ hnew_; clear hg_ hnew_; (first | rw [← Ny110.out] at ho27 | (simp only [Int.reduceToNat] at ho27; rw [← Ny110.out] at ho27)); have n0_ := am (Kd.R_lower ho27 (below_size (by exact bl_g HB.out))); have n1_ := am (blk_below (blk_o BK105.out) hb); have n2_ := am (below_step (by exact bl_g HB.out) hb); clear BK105; clear HB; have HO112 := n0_; have BK105 := n1_; have HB := n2_; clear n0_ n1_ n2_; clear hb ho27; obtain ⟨Ao28, co28, eo28⟩ := Kd.R_slice HO112.out; subst eo28) | ((with_reducible refine gate_callee (f := 30) rfl ?_); refine goesL_ (some 42) rfl rfl Try.func30 (by kernel_rfl) rfl #[.slice Ao28 y110.length co28] rfl (by simp only [List.map_toArray, List.map_cons, List.map_nil]; try rfl) ?_; (with_reducible refine (ehframe_near.calls kj8 _ _ y110 true _ ?side1 ?side2 A19.out).mono ?_); (case side1 => exact Kd.C_o ((Kd.R_reads' HO112.out).2.2)); (case side2 => exact (Kd.R_reads' HO112.out).2.1); rintro e w' ⟨rfl, ⟨nd, rfl⟩⟩; refine ⟨_, rfl, ?_⟩; obtain ⟨hcz29_0, hcz29_1, hfz29_0, hfz29_1⟩ := cells2 BK105.out))
        go_meet
        case rel => exact ⟨_, (decide (x1_8 < 0)), (by first | rfl | (simp; done) | (simp [*]; done)), H', ⟨by have := HJ8.out; first | omega | exact Nat.le_refl _⟩, ⟨by (with_reducible repeat (first | refine blk_drewN ?_ _ | refine blk_drew ?_ | refine blk_alloc ?_ _)); exact BK105.out⟩, ⟨by exact bl_g HB.out⟩⟩
      ·
       replace c20 := Bool.eq_false_iff.mpr c20
       subst c20
       have H1 : (ehframe_Put.j1 kj8 x1_8 true t101 t102) = some (r1, r2) := by rw [if_neg (show ¬ (false = true) by decide)] at H; exact H
       clear H
       have H := H1
       clear H1
       have H' := am H
       clear H
       go_wp2_with (first | ((with_reducible refine gate_dst (N := 41) rfl ?_); refine Kd.R_lit (Kd.int .i64) _ 3 ?hg (N := 41) ?hd (xs := ([x1_8] : List Int)) (inner := [.int .i64 x1_8]) (ok := fun _ => True) (okp := fun _ => True) ?hr ?hp (fun _ hk => hk) trivial (Below.refl _ _) (Nat.le_refl _) (by simp) ?_; (case hd => rfl); (case hg => rfl); (case hr => go_simp; try rfl); (case hp => exact (Reps.one (show Kd.M (Kd.int .i64) _ _ _ x1_8 [.int .i64 x1_8] from rfl) (Reps.none _ _))); intro v111 w30 ho31 hb hg_ hnew_; clear hg_ hnew_; (first | rw [← Ny110.out] at ho31 | (simp only [Int.reduceToNat] at ho31; rw [← Ny110.out] at ho31)); have n0_ := am (Kd.R_lower ho31 (below_size (by exact bl_g HB.out))); have n1_ := am (blk_below (blk_o BK105.out) hb); have n2_ := am (below_step (by exact bl_g HB.out) hb); clear BK105; clear HB; have HO112 := n0_; have BK105 := n1_; have HB := n2_; clear n0_ n1_ n2_; clear hb ho31; obtain ⟨Ao32, co32, eo32⟩ := Kd.R_slice HO112.out; subst eo32) | ((with_reducible refine gate_callee (f := 30) rfl ?_); refine goesL_ (some 42) rfl rfl Try.func30 (by kernel_rfl) rfl #[.slice Ao32 y110.length co32] rfl (by simp only [List.map_toArray, List.map_cons, List.map_nil]; try rfl) ?_; (with_reducible refine (ehframe_near.calls kj8 _ _ y110 false _ ?side1 ?side2 A19.out).mono ?_); (case side1 => exact Kd.C_o ((Kd.R_reads' HO112.out).2.2)); (case side2 => exact (Kd.R_reads' HO112.out).2.1); rintro e w' ⟨rfl, ⟨nd, rfl⟩⟩; refine ⟨_, rfl, ?_⟩))
       go_meet
       case rel => exact ⟨_, (true), (by first | rfl | (simp; done) | (simp [*]; done)), H', ⟨by have := HJ8.out; first | omega | exact Nat.le_refl _⟩, ⟨by (with_reducible repeat (first | refine blk_drewN ?_ _ | refine blk_drew ?_ | refine blk_alloc ?_ _)); exact BK105.out⟩, ⟨by exact bl_g HB.out⟩⟩
     case rest =>
      clear HC18
      try clear c1
      try clear c2
      try clear p2
      try clear c3
      try clear c6
      try clear p6
      try clear c8
      try clear c16
      try clear c16b0
      try clear c16b1
      try clear c17
      try clear c17b0
      try clear c17b1
      try clear c20
      try clear c21
      try clear c29
      try clear c30
      try clear hcz12_0
      try clear hcz12_1
      try clear hcz25_0
      try clear hcz25_1
      try clear hcz29_0
      try clear hcz29_1
      try clear hfz12_0
      try clear hfz12_1
      try clear hfz25_0
      try clear hfz25_1
      try clear hfz29_0
      try clear hfz29_1
      try clear p2
      try clear p6
      obtain ⟨kq, x52_17, rfl, HA, HJ17, BK105, HB⟩ := hcut
      cases kq with
      | zero => exact absurd HA.out (by simp [ehframe_Put.j1])
      | succ kj17 =>
       have H := HA.out
       clear HA
       simp only [ehframe_Put.j1] at H
       by_cases c33 : x52_17 = true
       ·
        subst c33
        have H1 : (some (([] : List Int), 11)) = some (r1, r2) := by rw [if_pos rfl] at H; exact H
        clear H
        have H := H1
        clear H1
        simp only [Option.some.injEq, Prod.mk.injEq] at H
        obtain ⟨rfl, rfl⟩ := H
        go_wp2
        go_ret2
        exact ⟨_, rfl, by first | exact Kd.R_nil _ _ _ _ _ | exact Kd.N_nil _ _ _ _ _ | exact Kd.V_nil _ _ _ _ _ | exact Kd.Q_nil _ _ _ _ _ | exact Kd.S_nil _ _ _ _ _, by exact bl_g HB.out⟩
       ·
        replace c33 := Bool.eq_false_iff.mpr c33
        subst c33
        have H1 : (if t101 = 0 then (ehframe_Put.j2 kj17 x1_8 t102 t101 t102) else (ehframe_Put.j2 kj17 x1_8 false t101 t102)) = some (r1, r2) := by rw [if_neg (show ¬ (false = true) by decide)] at H; exact H
        clear H
        have H := H1
        clear H1
        have HC34 := am H
        clear H
        go_upto_region 13 with (fail)
        go_cut [53] (fun v53 wc => ∃ (kq : Nat) (x53_33 : Bool), v53 = .bool x53_33 ∧ Aside0 (ehframe_Put.j2 kq x1_8 x53_33 t101 t102 = some (r1, r2)) ∧ Aside0 (kq ≤ kj17) ∧ Aside0 (wc.heap[gb105]? = some (.cells #[.int .i64 t101, .bool t102] 76 (0, 0))) ∧ Aside0 (Below w.heap.size w wc))
        case first =>
         have H := HC34.out
         clear HC34
         by_cases c35 : t101 = 0
         ·
          rw [if_pos c35] at H
          have c35b0 : (t101 == 0) = true := beq_iff_eq.mpr c35
          have c35b1 : (t101 != 0) = false := bne_eq_false_iff_eq.mpr c35
          clear c35
          (first | rw [c35b0] | (simp only [i64_w, i32_w]; rw [c35b0]) | skip)
          have H' := am H
          clear H
          obtain ⟨hcz36_0, hcz36_1, hfz36_0, hfz36_1⟩ := cells2 BK105.out
          go_wp2
          go_meet
          case rel => exact ⟨_, (t102), (by first | rfl | (simp; done) | (simp [*]; done)), H', ⟨by have := HJ8.out; have := HJ17.out; first | omega | exact Nat.le_refl _⟩, ⟨by (with_reducible repeat (first | refine blk_drewN ?_ _ | refine blk_drew ?_ | refine blk_alloc ?_ _)); exact BK105.out⟩, ⟨by exact bl_g HB.out⟩⟩
         ·
          rw [if_neg c35] at H
          have c35b0 : (t101 == 0) = false := beq_eq_false_iff_ne.mpr c35
          have c35b1 : (t101 != 0) = true := bne_iff_ne.mpr c35
          (first | rw [c35b0] | (simp only [i64_w, i32_w]; rw [c35b0]) | skip)
          have H' := am H
          clear H
          obtain ⟨hcz37_0, hcz37_1, hfz37_0, hfz37_1⟩ := cells2 BK105.out
          go_wp2
          go_meet
          case rel => exact ⟨_, (false), (by first | rfl | (simp; done) | (simp [*]; done)), H', ⟨by have := HJ8.out; have := HJ17.out; first | omega | exact Nat.le_refl _⟩, ⟨by (with_reducible repeat (first | refine blk_drewN ?_ _ | refine blk_drew ?_ | refine blk_alloc ?_ _)); exact BK105.out⟩, ⟨by exact bl_g HB.out⟩⟩
        case rest =>
         clear HC34
         try clear c1
         try clear c2
         try clear p2
         try clear c3
         try clear c6
         try clear p6
         try clear c8
         try clear c16
         try clear c16b0
         try clear c16b1
         try clear c17
         try clear c17b0
         try clear c17b1
         try clear c20
         try clear c21
         try clear c29
         try clear c30
         try clear c33
         try clear c35
         try clear c35b0
         try clear c35b1
         try clear hcz12_0
         try clear hcz12_1
         try clear hcz25_0
         try clear hcz25_1
         try clear hcz29_0
         try clear hcz29_1
         try clear hcz36_0
         try clear hcz36_1
         try clear hcz37_0
         try clear hcz37_1
         try clear hfz12_0
         try clear hfz12_1
         try clear hfz25_0
         try clear hfz25_1
         try clear hfz29_0
         try clear hfz29_1
         try clear hfz36_0
         try clear hfz36_1
         try clear hfz37_0
         try clear hfz37_1
         try clear p2
         try clear p6
         obtain ⟨kq, x53_33, rfl, HA, HJ33, BK105, HB⟩ := hcut
         cases kq with
         | zero => exact absurd HA.out (by simp [ehframe_Put.j2])
         | succ kj33 =>
          have H := HA.out
          clear HA
          simp only [ehframe_Put.j2] at H
          by_cases c38 : x53_33 = true
          ·
           subst c38
           have H1 : ((leb_Sleb.f kj33 x1_8).bind fun t114 => (some (t114, 0))) = some (r1, r2) := by rw [if_pos rfl] at H; exact H
           clear H
           have H := H1
           clear H1
           replace H := Option.bind_eq_some_iff.mp H
           obtain ⟨t114, A390, H⟩ := H
           replace H : (some (t114, 0)) = some (r1, r2) := H
           have A39 := am A390
           clear A390
           simp only [Option.some.injEq, Prod.mk.injEq] at H
           obtain ⟨rfl, rfl⟩ := H
           go_wp2_with (first | ((with_reducible refine gate_callee (f := 37) rfl ?_); refine goesL_ (some 62) rfl rfl Try.func37 (by kernel_rfl) rfl #[.int .i64 x1_8] rfl (by simp only [List.map_toArray, List.map_cons, List.map_nil]; try rfl) ?_; (with_reducible refine (leb_Sleb.calls kj33 x1_8 t114 _ A39.out).mono ?_); rintro e w40 ⟨v115, rfl, ho0, hb⟩; refine ⟨_, rfl, ?_⟩; have n0_ := am (Kd.R_lower ho0 (below_size (by exact bl_g HB.out))); have n1_ := am (blk_below (blk_o BK105.out) hb); have n2_ := am (below_step (by exact bl_g HB.out) hb); clear BK105; clear HB; have HO116 := n0_; have BK105 := n1_; have HB := n2_; clear n0_ n1_ n2_; (try clear hb); (try clear hb2); (try clear hk); (try clear hi); (try clear ho0)))
           go_ret2
           exact ⟨_, rfl, by (with_reducible repeat (first | apply Kd.R_alloc | apply Kd.R_drewN | apply Kd.R_drew)); exact HO116.out, by exact bl_g HB.out⟩
          ·
           replace c38 := Bool.eq_false_iff.mpr c38
           subst c38
           have H1 : (if t101 = 0 then ((leb_Uleb.f kj33 x1_8).bind fun t117 => (some (t117, 0))) else ((leb_Fits.f kj33 x1_8 (wrap64 (8 * t101)) t102).bind fun t120 => (if t120 = true then ((leb_Put.f kj33 x1_8 8).bind fun bt121 => (if 0 ≤ t101 then (if t101 ≤ (bt121.1.length : Int) then (some ((bt121.1.take (t101 : Int).toNat), 0)) else (none)) else (none))) else (some (([] : List Int), 11))))) = some (r1, r2) := by rw [if_neg (show ¬ (false = true) by decide)] at H; exact H
           clear H
           have H := H1
           clear H1
           by_cases c41 : t101 = 0
           ·
            rw [if_pos c41] at H
            have c41b0 : (t101 == 0) = true := beq_iff_eq.mpr c41
            have c41b1 : (t101 != 0) = false := bne_eq_false_iff_eq.mpr c41
            clear c41
            replace H := Option.bind_eq_some_iff.mp H
            obtain ⟨t117, A420, H⟩ := H
            replace H : (some (t117, 0)) = some (r1, r2) := H
            have A42 := am A420
            clear A420
            simp only [Option.some.injEq, Prod.mk.injEq] at H
            obtain ⟨rfl, rfl⟩ := H
            obtain ⟨hcz43_0, hcz43_1, hfz43_0, hfz43_1⟩ := cells2 BK105.out
            go_wp2_with (first | ((with_reducible refine gate_callee (f := 38) rfl ?_); refine goesL_ (some 68) rfl rfl Try.func38 (by kernel_rfl) rfl #[.int .i64 x1_8] rfl (by simp only [List.map_toArray, List.map_cons, List.map_nil]; try rfl) ?_; (with_reducible refine (leb_Uleb.calls kj33 x1_8 t117 _ A42.out).mono ?_); rintro e w44 ⟨v118, rfl, ho0, hb⟩; refine ⟨_, rfl, ?_⟩; have n0_ := am (Kd.R_lower ho0 (below_size (by exact bl_g HB.out))); have n1_ := am (blk_below (blk_o BK105.out) hb); have n2_ := am (below_step (by exact bl_g HB.out) hb); clear BK105; clear HB; have HO119 := n0_; have BK105 := n1_; have HB := n2_; clear n0_ n1_ n2_; (try clear hb); (try clear hb2); (try clear hk); (try clear hi); (try clear ho0)))
            go_ret2
            exact ⟨_, rfl, by (with_reducible repeat (first | apply Kd.R_alloc | apply Kd.R_drewN | apply Kd.R_drew)); exact HO119.out, by exact bl_g HB.out⟩
           ·
            rw [if_neg c41] at H
            have c41b0 : (t101 == 0) = false := beq_eq_false_iff_ne.mpr c41
            have c41b1 : (t101 != 0) = true := bne_iff_ne.mpr c41
            replace H := Option.bind_eq_some_iff.mp H
            obtain ⟨t120, A450, H⟩ := H
            replace H : (if t120 = true then ((leb_Put.f kj33 x1_8 8).bind fun bt121 => (if 0 ≤ t101 then (if t101 ≤ (bt121.1.length : Int) then (some ((bt121.1.take (t101 : Int).toNat), 0)) else (none)) else (none))) else (some (([] : List Int), 11))) = some (r1, r2) := H
            have A45 := am A450
            clear A450
            by_cases c46 : t120 = true
            ·
             subst c46
             have H1 : ((leb_Put.f kj33 x1_8 8).bind fun bt121 => (if 0 ≤ t101 then (if t101 ≤ (bt121.1.length : Int) then (some ((bt121.1.take (t101 : Int).toNat), 0)) else (none)) else (none))) = some (r1, r2) := by rw [if_pos rfl] at H; exact H
             clear H
             have H := H1
             clear H1
             replace H := Option.bind_eq_some_iff.mp H
             obtain ⟨⟨t121, t122⟩, A470, H⟩ := H
             replace H : (if 0 ≤ t101 then (if t101 ≤ (t121.length : Int) then (some ((t121.take (t101 : Int).toNat), 0)) else (none)) else (none)) = some (r1, r2) := H
             have A47 := am A470
             clear A470
             by_cases c48 : 0 ≤ t101
             ·
              rw [if_pos c48] at H
              have c48b0 := eq_true c48
              have c48b1 : decide (0 ≤ t101) = true := decide_eq_true c48
              clear c48
              by_cases c49 : t101 ≤ (t121.length : Int)
              ·
               rw [if_pos c49] at H
               have c49b0 := eq_true c49
               have c49b1 : decide (t101 ≤ (t121.length : Int)) = true := decide_eq_true c49
               clear c49
               obtain ⟨y125, hy125⟩ : ∃ y_ : List Int, y_ = (t121.take (t101 : Int).toNat) := ⟨_, rfl⟩
               replace H : (some (y125, 0)) = some (r1, r2) := by first | (rw [hy125]; with_reducible exact H) | (have H2_ := (Option.bind_some _ _).symm.trans H; rw [hy125]; with_reducible exact H2_)
               have Ny125 := am hy125
               clear hy125
               simp only [Option.some.injEq, Prod.mk.injEq] at H
               obtain ⟨rfl, rfl⟩ := H
               obtain ⟨hcz50_0, hcz50_1, hfz50_0, hfz50_1⟩ := cells2 BK105.out
               go_wp2_with (first | ((with_reducible refine gate_callee (f := 39) rfl ?_); refine goesL_ (some 76) rfl rfl Try.func39 (by kernel_rfl) rfl #[.int .i64 x1_8, .int .i64 (wrap64 (8 * t101)), .bool t102] rfl (by simp only [List.map_toArray, List.map_cons, List.map_nil]; try rfl) ?_; (with_reducible refine (leb_Fits.calls kj33 x1_8 (wrap64 (8 * t101)) t102 true _ A45.out).mono ?_); rintro e w' ⟨rfl, ⟨nd, rfl⟩⟩; refine ⟨_, rfl, ?_⟩) | ((with_reducible refine gate_callee (f := 40) rfl ?_); refine goesL_ (some 80) rfl rfl Try.func40 (by kernel_rfl) rfl #[.int .i64 x1_8, .int .i64 8] rfl (by simp only [List.map_toArray, List.map_cons, List.map_nil]; try rfl) ?_; (with_reducible refine (leb_Put.calls kj33 x1_8 8 t121 t122 _ A47.out).mono ?_); rintro e w51 ⟨v123, rfl, ho0, hb⟩; refine ⟨_, rfl, ?_⟩; have n0_ := am (Kd.R_lower ho0 (below_size (by exact bl_g HB.out))); have n1_ := am (blk_below (blk_o BK105.out) hb); have n2_ := am (below_step (by exact bl_g HB.out) hb); clear BK105; clear HB; have HO124 := n0_; have BK105 := n1_; have HB := n2_; clear n0_ n1_ n2_; (try clear hb); (try clear hb2); (try clear hk); (try clear hi); (try clear ho0); obtain ⟨hcz52_0, hcz52_1, hfz52_0, hfz52_1⟩ := cells2 BK105.out; obtain ⟨Ao53, co53, eo53⟩ := Kd.R_slice HO124.out; subst eo53; have q54 : (t101 : Int) ≤ ((t121.length : Int) : Int) := of_decide_eq_true (by first | (with_reducible assumption) | assumption); obtain ⟨i054, hi054, _, hsz54, _⟩ := info_parts info5; have hcut54 := cut_to (P := Try.prog) 28 5 .i64 Try.underlying28 hi054 Ao53 t121.length co53 t101 (of_decide_eq_true (by first | (with_reducible assumption) | assumption)) q54 (Kd.R_reads' HO124.out).2.1; have hr54 := Kd.R_take (m := (t101 : Int).toNat) HO124.out (by omega); have hy54 : y125.length = (t101 : Int).toNat := (by rw [Ny125.out, List.length_take]; omega); rw [← Ny125.out] at hr54; rw [← hy54] at hr54 hcut54; clear hy54 hi054 hsz54 HO124; have HO127 := am hr54; clear hr54; replace q54 := eq_true q54))
               go_ret2
               exact ⟨_, rfl, by (with_reducible repeat (first | apply Kd.R_alloc | apply Kd.R_drewN | apply Kd.R_drew)); exact HO127.out, by exact bl_g HB.out⟩
              ·
               rw [if_neg c49] at H
               exact absurd H (by simp)
             ·
              rw [if_neg c48] at H
              exact absurd H (by simp)
            ·
             replace c46 := Bool.eq_false_iff.mpr c46
             subst c46
             have H1 : (some (([] : List Int), 11)) = some (r1, r2) := by rw [if_neg (show ¬ (false = true) by decide)] at H; exact H
             clear H
             have H := H1
             clear H1
             simp only [Option.some.injEq, Prod.mk.injEq] at H
             obtain ⟨rfl, rfl⟩ := H
             obtain ⟨hcz55_0, hcz55_1, hfz55_0, hfz55_1⟩ := cells2 BK105.out
             go_wp2_with (first | ((with_reducible refine gate_callee (f := 39) rfl ?_); refine goesL_ (some 76) rfl rfl Try.func39 (by kernel_rfl) rfl #[.int .i64 x1_8, .int .i64 (wrap64 (8 * t101)), .bool t102] rfl (by simp only [List.map_toArray, List.map_cons, List.map_nil]; try rfl) ?_; (with_reducible refine (leb_Fits.calls kj33 x1_8 (wrap64 (8 * t101)) t102 false _ A45.out).mono ?_); rintro e w' ⟨rfl, ⟨nd, rfl⟩⟩; refine ⟨_, rfl, ?_⟩))
             go_ret2
             exact ⟨_, rfl, by first | exact Kd.R_nil _ _ _ _ _ | exact Kd.N_nil _ _ _ _ _ | exact Kd.V_nil _ _ _ _ _ | exact Kd.Q_nil _ _ _ _ _ | exact Kd.S_nil _ _ _ _ _, by exact bl_g HB.out⟩
  ·
   replace c8 := Bool.eq_false_iff.mpr c8
   subst c8
   have H1 : (some (([] : List Int), 11)) = some (r1, r2) := by rw [if_neg (show ¬ (false = true) by decide)] at H; exact H
   clear H
   have H := H1
   clear H1
   simp only [Option.some.injEq, Prod.mk.injEq] at H
   obtain ⟨rfl, rfl⟩ := H
   go_enter Try.func16, Try.ntmps16
   go_wp2_with (first | ((with_reducible refine gate_callee (f := 29) rfl ?_); refine goesL_ (some 17) rfl rfl Try.func29 (by kernel_rfl) rfl #[.int .i64 a0] rfl (by simp only [List.map_toArray, List.map_cons, List.map_nil]; try rfl) ?_; (with_reducible refine (ehframe_of.calls a0 t101 t102 t103 true _ A5.out).mono ?_); rintro e w56 ⟨rfl, hb⟩; refine ⟨_, rfl, ?_⟩; have n0_ := am (below_step (by exact bl_o HB.out) hb); clear HB; have HB := n0_; clear n0_; (try clear hb); (try clear hb2); (try clear hk); (try clear hi)) | ((with_reducible refine gate_dst (N := 10) rfl ?_); refine box_event ?hg (N := 10) ?hd (cs := #[.int .i64 0, .bool false]) (t := 76) ?hr ?_; (case hd => rfl); (case hg => rfl); (case hr => go_simp; try rfl); intro gb105 hg w57 hbox hb; have n0_ := am (below_step (by exact bl_o HB.out) hb); have n1_ := am (hbox); have n2_ := lei (by rw [hg]; exact (below_size (by exact bl_o HB.out)) : w.heap.size ≤ gb105); have n3_ := n2_; clear HB; have HB := n0_; have BK105 := n1_; have GW105 := n2_; have GE105 := n3_; clear n0_ n1_ n2_ n3_; clear hb hbox hg; obtain ⟨hcz58_0, hcz58_1, hfz58_0, hfz58_1⟩ := cells2 BK105.out) | ((with_reducible refine gate_dst (N := 26) rfl ?_); refine Kd.R_lit (Kd.int .i64) _ 3 ?hg (N := 26) ?hd (xs := ([a1, a2, a3] : List Int)) (inner := [.int .i64 a1, .int .i64 a2, .int .i64 a3]) (ok := fun _ => True) (okp := fun _ => True) ?hr ?hp (fun _ hk => hk) trivial (Below.refl _ _) (Nat.le_refl _) (by simp) ?_; (case hd => rfl); (case hg => rfl); (case hr => go_simp; try rfl); (case hp => exact (Reps.one (show Kd.M (Kd.int .i64) _ _ _ a1 [.int .i64 a1] from rfl) (Reps.one (show Kd.M (Kd.int .i64) _ _ _ a2 [.int .i64 a2] from rfl) (Reps.one (show Kd.M (Kd.int .i64) _ _ _ a3 [.int .i64 a3] from rfl) (Reps.none _ _))))); intro v107 w59 ho60 hb hg_ hnew_; clear hg_ hnew_; (first | rw [← Ny106.out] at ho60 | (simp only [Int.reduceToNat] at ho60; rw [← Ny106.out] at ho60)); have n0_ := am (Kd.R_lower ho60 (below_size (by exact bl_g HB.out))); have n1_ := am (blk_below (g := gb105) (o := .cells #[.int .i64 t101, .bool t102] 76 (0, 0)) (by (with_reducible repeat (first | refine blk_drewN ?_ _ | refine blk_drew ?_ | refine blk_alloc ?_ _)); refine blk_put (cs := #[.int .i64 t101, .bool false]) ?_ 1 _ rfl; (with_reducible repeat (first | refine blk_drewN ?_ _ | refine blk_drew ?_ | refine blk_alloc ?_ _)); refine blk_put (cs := #[.int .i64 0, .bool false]) ?_ 0 _ rfl; (with_reducible repeat (first | refine blk_drewN ?_ _ | refine blk_drew ?_ | refine blk_alloc ?_ _)); exact BK105.out) hb); have n2_ := am (below_step (by exact bl_g HB.out) hb); clear BK105; clear HB; have HO108 := n0_; have BK105 := n1_; have HB := n2_; clear n0_ n1_ n2_; clear hb ho60; obtain ⟨Ao61, co61, eo61⟩ := Kd.R_slice HO108.out; subst eo61) | ((with_reducible refine gate_callee (f := 30) rfl ?_); refine goesL_ (some 27) rfl rfl Try.func30 (by kernel_rfl) rfl #[.slice Ao61 y106.length co61] rfl (by simp only [List.map_toArray, List.map_cons, List.map_nil]; try rfl) ?_; (with_reducible refine (ehframe_near.calls k _ _ y106 false _ ?side1 ?side2 A7.out).mono ?_); (case side1 => exact Kd.C_o ((Kd.R_reads' HO108.out).2.2)); (case side2 => exact (Kd.R_reads' HO108.out).2.1); rintro e w' ⟨rfl, ⟨nd, rfl⟩⟩; refine ⟨_, rfl, ?_⟩))
   go_ret2
   exact ⟨_, rfl, by first | exact Kd.R_nil _ _ _ _ _ | exact Kd.N_nil _ _ _ _ _ | exact Kd.V_nil _ _ _ _ _ | exact Kd.Q_nil _ _ _ _ _ | exact Kd.S_nil _ _ _ _ _, by exact bl_g HB.out⟩
 ·
  replace c6 := Bool.eq_false_iff.mpr c6
  subst c6
  have H1 : (some (([] : List Int), 140)) = some (r1, r2) := by rw [if_neg (show ¬ (false = true) by decide)] at H; exact H
  clear H
  have H := H1
  clear H1
  simp only [Option.some.injEq, Prod.mk.injEq] at H
  obtain ⟨rfl, rfl⟩ := H
  go_enter Try.func16, Try.ntmps16
  go_wp2_with (first | ((with_reducible refine gate_callee (f := 29) rfl ?_); refine goesL_ (some 17) rfl rfl Try.func29 (by kernel_rfl) rfl #[.int .i64 a0] rfl (by simp only [List.map_toArray, List.map_cons, List.map_nil]; try rfl) ?_; (with_reducible refine (ehframe_of.calls a0 t101 t102 t103 false _ A5.out).mono ?_); rintro e w62 ⟨rfl, hb⟩; refine ⟨_, rfl, ?_⟩; have n0_ := am (below_step (by exact bl_o HB.out) hb); clear HB; have HB := n0_; clear n0_; (try clear hb); (try clear hb2); (try clear hk); (try clear hi)) | ((with_reducible refine gate_dst (N := 10) rfl ?_); refine box_event ?hg (N := 10) ?hd (cs := #[.int .i64 0, .bool false]) (t := 76) ?hr ?_; (case hd => rfl); (case hg => rfl); (case hr => go_simp; try rfl); intro gb105 hg w63 hbox hb; have n0_ := am (below_step (by exact bl_o HB.out) hb); have n1_ := am (hbox); have n2_ := lei (by rw [hg]; exact (below_size (by exact bl_o HB.out)) : w.heap.size ≤ gb105); have n3_ := n2_; clear HB; have HB := n0_; have BK105 := n1_; have GW105 := n2_; have GE105 := n3_; clear n0_ n1_ n2_ n3_; clear hb hbox hg; obtain ⟨hcz64_0, hcz64_1, hfz64_0, hfz64_1⟩ := cells2 BK105.out))
  go_ret2
  exact ⟨_, rfl, by first | exact Kd.R_nil _ _ _ _ _ | exact Kd.N_nil _ _ _ _ _ | exact Kd.V_nil _ _ _ _ _ | exact Kd.Q_nil _ _ _ _ _ | exact Kd.S_nil _ _ _ _ _, by exact bl_g HB.out⟩
end Go.Proofs.Ytfgfnflhdabmcaa.G
end
section
namespace Go.Proofs.Ytfgfnflhdabmcaa.G
open Go.RowKit Go.Proofs.YtfgfnflhdabmcaaW.PrintWords Go.Proofs.YtfgfnflhdabmcaaW.PrintLast Go.Proofs.YtfgfnflhdabmcaaW.PrintMore
attribute [local go_sem] max2_int min2_int max_two min_two max_three min_three max_four min_four   -- for this text's walks alone
set_option linter.unusedVariables false
set_option linter.unusedSimpArgs false
mutual
def gangwayref14_bytes.j0 : Nat → Int → Bool → Option (Int)
 | 0, _, _ => none
 | k + 1, x3, x4 => if x4 = true then (some 8) else (if x3 = 3 then (gangwayref14_bytes.j1 k x3 (x3 == 3)) else (gangwayref14_bytes.j1 k x3 (x3 == 11)))
def gangwayref14_bytes.j1 : Nat → Int → Bool → Option (Int)
 | 0, _, _ => none
 | k + 1, x3, x8 => if x8 = true then (some 4) else (if x3 = 2 then (gangwayref14_bytes.j2 k x3 (x3 == 2)) else (gangwayref14_bytes.j2 k x3 (x3 == 10)))
def gangwayref14_bytes.j2 : Nat → Int → Bool → Option (Int)
 | 0, _, _ => none
 | k + 1, x3, x11 => if x11 = true then (some 2) else (if x3 = 1 then (some 0) else (if x3 = 9 then (some 0) else (some (-1))))
end
def gangwayref14_bytes.f (k : Nat) (a0 : Int) : Option (Int) := if a0 = 0 then (gangwayref14_bytes.j0 k a0 (a0 == 0)) else (if a0 = 4 then (gangwayref14_bytes.j0 k a0 (a0 == 4)) else (gangwayref14_bytes.j0 k a0 (a0 == 12)))
theorem gangwayref14_bytes.mono_l : ∀ k, (∀ y0 y1, LeO (gangwayref14_bytes.j0 k y0 y1) (gangwayref14_bytes.j0 (k + 1) y0 y1)) ∧ (∀ y0 y1, LeO (gangwayref14_bytes.j1 k y0 y1) (gangwayref14_bytes.j1 (k + 1) y0 y1)) ∧ (∀ y0 y1, LeO (gangwayref14_bytes.j2 k y0 y1) (gangwayref14_bytes.j2 (k + 1) y0 y1))
 | 0 => ⟨fun _ _ r h => by simp [gangwayref14_bytes.j0] at h, fun _ _ r h => by simp [gangwayref14_bytes.j1] at h, fun _ _ r h => by simp [gangwayref14_bytes.j2] at h⟩
 | k + 1 => by
  obtain ⟨ih0, ih1, ih2⟩ := gangwayref14_bytes.mono_l k
  refine ⟨?_, ?_, ?_⟩
  ·
   intro y0 y1
   unfold gangwayref14_bytes.j0
   repeat' first
   | (with_reducible exact ih0 _ _)
   | (with_reducible exact ih1 _ _)
   | (with_reducible exact ih2 _ _)
   | (with_reducible exact LeO.refl _)
   | (with_reducible exact LeO.none _)
   | (with_reducible refine LeO.ite ?_ ?_)
   | (with_reducible refine LeO.bind ?_ (fun _ => ?_))
   | exact ih0 _ _
   | exact ih1 _ _
   | exact ih2 _ _
   | exact LeO.none _
   | refine LeO.ite ?_ ?_
   | refine LeO.bind ?_ (fun _ => ?_)
  ·
   intro y0 y1
   unfold gangwayref14_bytes.j1
   repeat' first
   | (with_reducible exact ih0 _ _)
   | (with_reducible exact ih1 _ _)
   | (with_reducible exact ih2 _ _)
   | (with_reducible exact LeO.refl _)
   | (with_reducible exact LeO.none _)
   | (with_reducible refine LeO.ite ?_ ?_)
   | (with_reducible refine LeO.bind ?_ (fun _ => ?_))
   | exact ih0 _ _
   | exact ih1 _ _
   | exact ih2 _ _
   | exact LeO.none _
   | refine LeO.ite ?_ ?_
   | refine LeO.bind ?_ (fun _ => ?_)
  ·
   intro y0 y1
   unfold gangwayref14_bytes.j2
   repeat' first
   | (with_reducible exact ih0 _ _)
   | (with_reducible exact ih1 _ _)
   | (with_reducible exact ih2 _ _)
   | (with_reducible exact LeO.refl _)
   | (with_reducible exact LeO.none _)
   | (with_reducible refine LeO.ite ?_ ?_)
   | (with_reducible refine LeO.bind ?_ (fun _ => ?_))
   | exact ih0 _ _
   | exact ih1 _ _
   | exact ih2 _ _
   | exact LeO.none _
   | refine LeO.ite ?_ ?_
   | refine LeO.bind ?_ (fun _ => ?_)
theorem gangwayref14_bytes.mono : ∀ a0 k, LeO (gangwayref14_bytes.f k a0) (gangwayref14_bytes.f (k + 1) a0) := by
 intro a0 k
 obtain ⟨ih0, ih1, ih2⟩ := gangwayref14_bytes.mono_l k
 unfold gangwayref14_bytes.f
 repeat' first
   | (with_reducible exact ih0 _ _)
   | (with_reducible exact ih1 _ _)
   | (with_reducible exact ih2 _ _)
   | (with_reducible exact LeO.refl _)
   | (with_reducible exact LeO.none _)
   | (with_reducible refine LeO.ite ?_ ?_)
   | (with_reducible refine LeO.bind ?_ (fun _ => ?_))
   | exact ih0 _ _
   | exact ih1 _ _
   | exact ih2 _ _
   | exact LeO.none _
   | refine LeO.ite ?_ ?_
   | refine LeO.bind ?_ (fun _ => ?_)
set_option maxHeartbeats 8000000 in
set_option maxRecDepth 100000 in
theorem gangwayref14_bytes.calls (k : Nat) (a0 : Int) (r : Int) (w : World) (h : gangwayref14_bytes.f k a0 = some r) :
  Calls Try.prog 42 #[.int .i64 a0] w fun e w' => e = .returned (.int .i64 r) ∧ Drawn0 w w' := by
 have H : (if a0 = 0 then (gangwayref14_bytes.j0 k a0 (a0 == 0)) else (if a0 = 4 then (gangwayref14_bytes.j0 k a0 (a0 == 4)) else (gangwayref14_bytes.j0 k a0 (a0 == 12)))) = some r := h
 clear h
 have HC2 := am H
 clear H
 go_enter Try.func42, Try.ntmps42
 go_upto_if 4 with (fail)
 go_cut [4] (fun v4 wc => ∃ (kq : Nat) (x4_1 : Bool), v4 = .bool x4_1 ∧ Aside0 (gangwayref14_bytes.j0 kq a0 x4_1 = some r) ∧ Aside0 (kq ≤ k) ∧ Drawn0 w wc)
 case first =>
  have H := HC2.out
  clear HC2
  by_cases c3 : a0 = 0
  ·
   rw [if_pos c3] at H
   have c3b0 : (a0 == 0) = true := beq_iff_eq.mpr c3
   have c3b1 : (a0 != 0) = false := bne_eq_false_iff_eq.mpr c3
   clear c3
   (first | rw [c3b0] | (simp only [i64_w, i32_w]; rw [c3b0]) | skip)
   have H' := am H
   clear H
   go_wp2
   go_meet
   case rel => exact ⟨_, ((a0 == 0)), (by first | rfl | (simp; done) | (simp [*]; done)), H', ⟨by first | omega | exact Nat.le_refl _⟩, by repeat (first | exact Drawn0.refl _ | apply Drawn0.step)⟩
  ·
   rw [if_neg c3] at H
   have c3b0 : (a0 == 0) = false := beq_eq_false_iff_ne.mpr c3
   have c3b1 : (a0 != 0) = true := bne_iff_ne.mpr c3
   (first | rw [c3b0] | (simp only [i64_w, i32_w]; rw [c3b0]) | skip)
   by_cases c4 : a0 = 4
   ·
    rw [if_pos c4] at H
    have c4b0 : (a0 == 4) = true := beq_iff_eq.mpr c4
    have c4b1 : (a0 != 4) = false := bne_eq_false_iff_eq.mpr c4
    clear c4
    have H' := am H
    clear H
    go_wp2
    go_meet
    case rel => exact ⟨_, ((a0 == 4)), (by first | rfl | (simp; done) | (simp [*]; done)), H', ⟨by first | omega | exact Nat.le_refl _⟩, by repeat (first | exact Drawn0.refl _ | apply Drawn0.step)⟩
   ·
    rw [if_neg c4] at H
    have c4b0 : (a0 == 4) = false := beq_eq_false_iff_ne.mpr c4
    have c4b1 : (a0 != 4) = true := bne_iff_ne.mpr c4
    have H' := am H
    clear H
    go_wp2
    go_meet
    case rel => exact ⟨_, ((a0 == 12)), (by first | rfl | (simp; done) | (simp [*]; done)), H', ⟨by first | omega | exact Nat.le_refl _⟩, by repeat (first | exact Drawn0.refl _ | apply Drawn0.step)⟩
 case rest =>
  clear HC2
  try clear p2
  try clear c3
  try clear c3b0
  try clear c3b1
  try clear c4
  try clear c4b0
  try clear c4b1
  obtain ⟨kq, x4_1, rfl, HA, HJ1, ⟨mc1, rfl⟩⟩ := hcut
  cases kq with
  | zero => exact absurd HA.out (by simp [gangwayref14_bytes.j0])
  | succ kj1 =>
   have H := HA.out
   clear HA
   simp only [gangwayref14_bytes.j0] at H
   by_cases c5 : x4_1 = true
   ·
    subst c5
    have H1 : (some 8) = some r := by rw [if_pos rfl] at H; exact H
    clear H
    have H := H1
    clear H1
    obtain rfl := Option.some.inj H
    go_wp2
    go_ret
    exact ⟨by first | rfl | (simp; done) | (simp [*]; done), by repeat (first | exact Drawn0.refl _ | apply Drawn0.step)⟩
   ·
    replace c5 := Bool.eq_false_iff.mpr c5
    subst c5
    have H1 : (if a0 = 3 then (gangwayref14_bytes.j1 kj1 a0 (a0 == 3)) else (gangwayref14_bytes.j1 kj1 a0 (a0 == 11))) = some r := by rw [if_neg (show ¬ (false = true) by decide)] at H; exact H
    clear H
    have H := H1
    clear H1
    have HC6 := am H
    clear H
    go_upto_if 8 with (fail)
    go_cut [8] (fun v8 wc => ∃ (kq : Nat) (x8_5 : Bool), v8 = .bool x8_5 ∧ Aside0 (gangwayref14_bytes.j1 kq a0 x8_5 = some r) ∧ Aside0 (kq ≤ kj1) ∧ Drawn0 w wc)
    case first =>
     have H := HC6.out
     clear HC6
     by_cases c7 : a0 = 3
     ·
      rw [if_pos c7] at H
      have c7b0 : (a0 == 3) = true := beq_iff_eq.mpr c7
      have c7b1 : (a0 != 3) = false := bne_eq_false_iff_eq.mpr c7
      clear c7
      (first | rw [c7b0] | (simp only [i64_w, i32_w]; rw [c7b0]) | skip)
      have H' := am H
      clear H
      go_wp2
      go_meet
      case rel => exact ⟨_, ((a0 == 3)), (by first | rfl | (simp; done) | (simp [*]; done)), H', ⟨by have := HJ1.out; first | omega | exact Nat.le_refl _⟩, by repeat (first | exact Drawn0.refl _ | apply Drawn0.step)⟩
     ·
      rw [if_neg c7] at H
      have c7b0 : (a0 == 3) = false := beq_eq_false_iff_ne.mpr c7
      have c7b1 : (a0 != 3) = true := bne_iff_ne.mpr c7
      (first | rw [c7b0] | (simp only [i64_w, i32_w]; rw [c7b0]) | skip)
      have H' := am H
      clear H
      go_wp2
      go_meet
      case rel => exact ⟨_, ((a0 == 11)), (by first | rfl | (simp; done) | (simp [*]; done)), H', ⟨by have := HJ1.out; first | omega | exact Nat.le_refl _⟩, by repeat (first | exact Drawn0.refl _ | apply Drawn0.step)⟩
    case rest =>
     clear HC6
     try clear c1
     try clear p2
     try clear c3
     try clear c3b0
     try clear c3b1
     try clear c4
     try clear c4b0
     try clear c4b1
     try clear c5
     try clear c7
     try clear c7b0
     try clear c7b1
     try clear p2
     obtain ⟨kq, x8_5, rfl, HA, HJ5, ⟨mc5, rfl⟩⟩ := hcut
     cases kq with
     | zero => exact absurd HA.out (by simp [gangwayref14_bytes.j1])
     | succ kj5 =>
      have H := HA.out
      clear HA
      simp only [gangwayref14_bytes.j1] at H
      by_cases c8 : x8_5 = true
      ·
       subst c8
       have H1 : (some 4) = some r := by rw [if_pos rfl] at H; exact H
       clear H
       have H := H1
       clear H1
       obtain rfl := Option.some.inj H
       go_wp2
       go_ret
       exact ⟨by first | rfl | (simp; done) | (simp [*]; done), by repeat (first | exact Drawn0.refl _ | apply Drawn0.step)⟩
      ·
       replace c8 := Bool.eq_false_iff.mpr c8
       subst c8
       have H1 : (if a0 = 2 then (gangwayref14_bytes.j2 kj5 a0 (a0 == 2)) else (gangwayref14_bytes.j2 kj5 a0 (a0 == 10))) = some r := by rw [if_neg (show ¬ (false = true) by decide)] at H; exact H
       clear H
       have H := H1
       clear H1
       have HC9 := am H
       clear H
       go_upto_if 11 with (fail)
       go_cut [11] (fun v11 wc => ∃ (kq : Nat) (x11_8 : Bool), v11 = .bool x11_8 ∧ Aside0 (gangwayref14_bytes.j2 kq a0 x11_8 = some r) ∧ Aside0 (kq ≤ kj5) ∧ Drawn0 w wc)
       case first =>
        have H := HC9.out
        clear HC9
        by_cases c10 : a0 = 2
        ·
         rw [if_pos c10] at H
         have c10b0 : (a0 == 2) = true := beq_iff_eq.mpr c10
         have c10b1 : (a0 != 2) = false := bne_eq_false_iff_eq.mpr c10
         clear c10
         (first | rw [c10b0] | (simp only [i64_w, i32_w]; rw [c10b0]) | skip)
         have H' := am H
         clear H
         go_wp2
         go_meet
         case rel => exact ⟨_, ((a0 == 2)), (by first | rfl | (simp; done) | (simp [*]; done)), H', ⟨by have := HJ1.out; have := HJ5.out; first | omega | exact Nat.le_refl _⟩, by repeat (first | exact Drawn0.refl _ | apply Drawn0.step)⟩
        ·
         rw [if_neg c10] at H
         have c10b0 : (a0 == 2) = false := beq_eq_false_iff_ne.mpr c10
         have c10b1 : (a0 != 2) = true := bne_iff_ne.mpr c10
         (first | rw [c10b0] | (simp only [i64_w, i32_w]; rw [c10b0]) | skip)
         have H' := am H
         clear H
         go_wp2
         go_meet
         case rel => exact ⟨_, ((a0 == 10)), (by first | rfl | (simp; done) | (simp [*]; done)), H', ⟨by have := HJ1.out; have := HJ5.out; first | omega | exact Nat.le_refl _⟩, by repeat (first | exact Drawn0.refl _ | apply Drawn0.step)⟩
       case rest =>
        clear HC9
        try clear c1
        try clear p2
        try clear c3
        try clear c3b0
        try clear c3b1
        try clear c4
        try clear c4b0
        try clear c4b1
        try clear c5
        try clear c7
        try clear c7b0
        try clear c7b1
        try clear c8
        try clear c10
        try clear c10b0
        try clear c10b1
        try clear p2
        obtain ⟨kq, x11_8, rfl, HA, HJ8, ⟨mc8, rfl⟩⟩ := hcut
        cases kq with
        | zero => exact absurd HA.out (by simp [gangwayref14_bytes.j2])
        | succ kj8 =>
         have H := HA.out
         clear HA
         simp only [gangwayref14_bytes.j2] at H
         by_cases c11 : x11_8 = true
         ·
          subst c11
          have H1 : (some 2) = some r := by rw [if_pos rfl] at H; exact H
          clear H
          have H := H1
          clear H1
          obtain rfl := Option.some.inj H
          go_wp2
          go_ret
          exact ⟨by first | rfl | (simp; done) | (simp [*]; done), by repeat (first | exact Drawn0.refl _ | apply Drawn0.step)⟩
         ·
          replace c11 := Bool.eq_false_iff.mpr c11
          subst c11
          have H1 : (if a0 = 1 then (some 0) else (if a0 = 9 then (some 0) else (some (-1)))) = some r := by rw [if_neg (show ¬ (false = true) by decide)] at H; exact H
          clear H
          have H := H1
          clear H1
          by_cases c12 : a0 = 1
          ·
           rw [if_pos c12] at H
           have c12b0 : (a0 == 1) = true := beq_iff_eq.mpr c12
           have c12b1 : (a0 != 1) = false := bne_eq_false_iff_eq.mpr c12
           clear c12
           obtain rfl := Option.some.inj H
           go_wp2
           go_ret
           exact ⟨by first | rfl | (simp; done) | (simp [*]; done), by repeat (first | exact Drawn0.refl _ | apply Drawn0.step)⟩
          ·
           rw [if_neg c12] at H
           have c12b0 : (a0 == 1) = false := beq_eq_false_iff_ne.mpr c12
           have c12b1 : (a0 != 1) = true := bne_iff_ne.mpr c12
           by_cases c13 : a0 = 9
           ·
            rw [if_pos c13] at H
            have c13b0 : (a0 == 9) = true := beq_iff_eq.mpr c13
            have c13b1 : (a0 != 9) = false := bne_eq_false_iff_eq.mpr c13
            clear c13
            obtain rfl := Option.some.inj H
            go_wp2
            go_ret
            exact ⟨by first | rfl | (simp; done) | (simp [*]; done), by repeat (first | exact Drawn0.refl _ | apply Drawn0.step)⟩
           ·
            rw [if_neg c13] at H
            have c13b0 : (a0 == 9) = false := beq_eq_false_iff_ne.mpr c13
            have c13b1 : (a0 != 9) = true := bne_iff_ne.mpr c13
            obtain rfl := Option.some.inj H
            go_wp2
            go_ret
            exact ⟨by first | rfl | (simp; done) | (simp [*]; done), by repeat (first | exact Drawn0.refl _ | apply Drawn0.step)⟩
end Go.Proofs.Ytfgfnflhdabmcaa.G
end
section
namespace Go.Proofs.Ytfgfnflhdabmcaa.G
open Go.RowKit Go.Proofs.YtfgfnflhdabmcaaW.PrintWords Go.Proofs.YtfgfnflhdabmcaaW.PrintLast Go.Proofs.YtfgfnflhdabmcaaW.PrintMore
attribute [local go_sem] max2_int min2_int max_two min_two max_three min_three max_four min_four   -- for this text's walks alone
set_option linter.unusedVariables false
set_option linter.unusedSimpArgs false
def gangwayref14_Encoding.f (k : Nat) (a0 : Int) : Option (Bool) := if a0 < 0 then (some false) else ((gangwayref14_bytes.f k (Int.tmod a0 16)).bind fun t101 => (if t101 < 0 then (some false) else (if (wrap64 ((wrap64 (Int.tdiv a0 16)) * 16)) = 0 then (some true) else (if (wrap64 ((wrap64 (Int.tdiv a0 16)) * 16)) = 16 then (some true) else (some ((wrap64 ((wrap64 (Int.tdiv a0 16)) * 16)) == 48))))))
theorem gangwayref14_Encoding.mono : ∀ a0 k, LeO (gangwayref14_Encoding.f k a0) (gangwayref14_Encoding.f (k + 1) a0) := by
 intro a0 k
 unfold gangwayref14_Encoding.f
 repeat' first
   | (with_reducible exact gangwayref14_bytes.mono _ _)
   | (with_reducible exact LeO.refl _)
   | (with_reducible exact LeO.none _)
   | (with_reducible refine LeO.ite ?_ ?_)
   | (with_reducible refine LeO.bind ?_ (fun _ => ?_))
   | exact gangwayref14_bytes.mono _ _
   | exact LeO.none _
   | refine LeO.ite ?_ ?_
   | refine LeO.bind ?_ (fun _ => ?_)
set_option maxHeartbeats 8000000 in
set_option maxRecDepth 100000 in
theorem gangwayref14_Encoding.calls (k : Nat) (a0 : Int) (r : Bool) (w : World) (h : gangwayref14_Encoding.f k a0 = some r) :
  Calls Try.prog 32 #[.int .i64 a0] w fun e w' => e = .returned (.bool r) ∧ Drawn0 w w' := by
 have H : (if a0 < 0 then (some false) else ((gangwayref14_bytes.f k (Int.tmod a0 16)).bind fun t101 => (if t101 < 0 then (some false) else (if (wrap64 ((wrap64 (Int.tdiv a0 16)) * 16)) = 0 then (some true) else (if (wrap64 ((wrap64 (Int.tdiv a0 16)) * 16)) = 16 then (some true) else (some ((wrap64 ((wrap64 (Int.tdiv a0 16)) * 16)) == 48))))))) = some r := h
 clear h
 by_cases c2 : a0 < 0
 ·
  rw [if_pos c2] at H
  have c2b0 : decide (a0 < 0) = true := decide_eq_true c2
  clear c2
  obtain rfl := Option.some.inj H
  go_enter Try.func32, Try.ntmps32
  go_wp2
  go_ret
  exact ⟨by first | rfl | (simp; done) | (simp [*]; done), by repeat (first | exact Drawn0.refl _ | apply Drawn0.step)⟩
 ·
  rw [if_neg c2] at H
  have c2b0 : decide (a0 < 0) = false := decide_eq_false c2
  clear c2
  replace H := Option.bind_eq_some_iff.mp H
  obtain ⟨t101, A30, H⟩ := H
  replace H : (if t101 < 0 then (some false) else (if (wrap64 ((wrap64 (Int.tdiv a0 16)) * 16)) = 0 then (some true) else (if (wrap64 ((wrap64 (Int.tdiv a0 16)) * 16)) = 16 then (some true) else (some ((wrap64 ((wrap64 (Int.tdiv a0 16)) * 16)) == 48))))) = some r := H
  have A3 := am A30
  clear A30
  by_cases c4 : t101 < 0
  ·
   rw [if_pos c4] at H
   have c4b0 : decide (t101 < 0) = true := decide_eq_true c4
   clear c4
   obtain rfl := Option.some.inj H
   go_enter Try.func32, Try.ntmps32
   go_wp2_with (first | (go_at_call 42; (with_reducible refine (gangwayref14_bytes.calls k (Int.tmod a0 16) t101 _ A3.out).mono ?_); rintro e w' ⟨rfl, ⟨nd, rfl⟩⟩))
   go_ret
   exact ⟨by first | rfl | (simp; done) | (simp [*]; done), by repeat (first | exact Drawn0.refl _ | apply Drawn0.step)⟩
  ·
   rw [if_neg c4] at H
   have c4b0 : decide (t101 < 0) = false := decide_eq_false c4
   clear c4
   by_cases c5 : (wrap64 ((wrap64 (Int.tdiv a0 16)) * 16)) = 0
   ·
    rw [if_pos c5] at H
    have c5b0 : ((wrap64 ((wrap64 (Int.tdiv a0 16)) * 16)) == 0) = true := beq_iff_eq.mpr c5
    have c5b1 : ((wrap64 ((wrap64 (Int.tdiv a0 16)) * 16)) != 0) = false := bne_eq_false_iff_eq.mpr c5
    clear c5
    obtain rfl := Option.some.inj H
    go_enter Try.func32, Try.ntmps32
    go_wp2_with (first | (go_at_call 42; (with_reducible refine (gangwayref14_bytes.calls k (Int.tmod a0 16) t101 _ A3.out).mono ?_); rintro e w' ⟨rfl, ⟨nd, rfl⟩⟩))
    go_ret
    exact ⟨by first | rfl | (simp; done) | (simp [*]; done), by repeat (first | exact Drawn0.refl _ | apply Drawn0.step)⟩
   ·
    rw [if_neg c5] at H
    have c5b0 : ((wrap64 ((wrap64 (Int.tdiv a0 16)) * 16)) == 0) = false := beq_eq_false_iff_ne.mpr c5
    have c5b1 : ((wrap64 ((wrap64 (Int.tdiv a0 16)) * 16)) != 0) = true := bne_iff_ne.mpr c5
    by_cases c6 : (wrap64 ((wrap64 (Int.tdiv a0 16)) * 16)) = 16
    ·
     rw [if_pos c6] at H
     have c6b0 : ((wrap64 ((wrap64 (Int.tdiv a0 16)) * 16)) == 16) = true := beq_iff_eq.mpr c6
     have c6b1 : ((wrap64 ((wrap64 (Int.tdiv a0 16)) * 16)) != 16) = false := bne_eq_false_iff_eq.mpr c6
     clear c6
     obtain rfl := Option.some.inj H
     go_enter Try.func32, Try.ntmps32
     go_wp2_with (first | (go_at_call 42; (with_reducible refine (gangwayref14_bytes.calls k (Int.tmod a0 16) t101 _ A3.out).mono ?_); rintro e w' ⟨rfl, ⟨nd, rfl⟩⟩))
     go_ret
     exact ⟨by first | rfl | (simp; done) | (simp [*]; done), by repeat (first | exact Drawn0.refl _ | apply Drawn0.step)⟩
    ·
     rw [if_neg c6] at H
     have c6b0 : ((wrap64 ((wrap64 (Int.tdiv a0 16)) * 16)) == 16) = false := beq_eq_false_iff_ne.mpr c6
     have c6b1 : ((wrap64 ((wrap64 (Int.tdiv a0 16)) * 16)) != 16) = true := bne_iff_ne.mpr c6
     obtain rfl := Option.some.inj H
     go_enter Try.func32, Try.ntmps32
     go_wp2_with (first | (go_at_call 42; (with_reducible refine (gangwayref14_bytes.calls k (Int.tmod a0 16) t101 _ A3.out).mono ?_); rintro e w' ⟨rfl, ⟨nd, rfl⟩⟩))
     go_ret
     exact ⟨by first | rfl | (simp; done) | (simp [*]; done), by repeat (first | exact Drawn0.refl _ | apply Drawn0.step)⟩
end Go.Proofs.Ytfgfnflhdabmcaa.G
end
section
namespace Go.Proofs.Ytfgfnflhdabmcaa.G
open Go.RowKit Go.Proofs.YtfgfnflhdabmcaaW.PrintWords Go.Proofs.YtfgfnflhdabmcaaW.PrintLast Go.Proofs.YtfgfnflhdabmcaaW.PrintMore
attribute [local go_sem] max2_int min2_int max_two min_two max_three min_three max_four min_four   -- for this text's walks alone
set_option linter.unusedVariables false
set_option linter.unusedSimpArgs false
def gangwayref14_far.f (a0 : Int) : Option (Bool) := if a0 < (-1152921504606846976) then (some true) else (some (decide (a0 > 1152921504606846976)))
set_option maxHeartbeats 8000000 in
set_option maxRecDepth 100000 in
theorem gangwayref14_far.calls (a0 : Int) (r : Bool) (w : World) (h : gangwayref14_far.f a0 = some r) :
  Calls Try.prog 33 #[.int .i64 a0] w fun e w' => e = .returned (.bool r) ∧ Drawn0 w w' := by
 have H : (if a0 < (-1152921504606846976) then (some true) else (some (decide (a0 > 1152921504606846976)))) = some r := h
 clear h
 by_cases c2 : a0 < (-1152921504606846976)
 ·
  rw [if_pos c2] at H
  have c2b0 : decide (a0 < (-1152921504606846976)) = true := decide_eq_true c2
  clear c2
  obtain rfl := Option.some.inj H
  go_enter Try.func33, Try.ntmps33
  go_wp2
  go_ret
  exact ⟨by first | rfl | (simp; done) | (simp [*]; done), by repeat (first | exact Drawn0.refl _ | apply Drawn0.step)⟩
 ·
  rw [if_neg c2] at H
  have c2b0 : decide (a0 < (-1152921504606846976)) = false := decide_eq_false c2
  clear c2
  obtain rfl := Option.some.inj H
  go_enter Try.func33, Try.ntmps33
  go_wp2
  go_ret
  exact ⟨by first | rfl | (simp; done) | (simp [*]; done), by repeat (first | exact Drawn0.refl _ | apply Drawn0.step)⟩
end Go.Proofs.Ytfgfnflhdabmcaa.G
end
section
namespace Go.Proofs.Ytfgfnflhdabmcaa.G
open Go.RowKit Go.Proofs.YtfgfnflhdabmcaaW.PrintWords Go.Proofs.YtfgfnflhdabmcaaW.PrintLast Go.Proofs.YtfgfnflhdabmcaaW.PrintMore
attribute [local go_sem] max2_int min2_int max_two min_two max_three min_three max_four min_four   -- for this text's walks alone
set_option linter.unusedVariables false
set_option linter.unusedSimpArgs false
def gangwayref01_Uleb.l0 : Nat → Int → List Int → Option (List Int)
 | 0, _, _ => none
 | k + 1, x3, x4 => if x3 ≥ 128 then (if x4.length < 140737488355328 then (gangwayref01_Uleb.l0 k (IntKind.u64.wrap (Int.tdiv x3 128)) (x4 ++ [((Int.tmod x3 128) + 128) % 256])) else (none)) else (if x4.length < 140737488355328 then (some (x4 ++ [(x3) % 256])) else (none))
def gangwayref01_Uleb.f (k : Nat) (a0 : Int) : Option (List Int) := gangwayref01_Uleb.l0 k (IntKind.u64.wrap (a0)) ([] : List Int)
set_option maxHeartbeats 8000000 in
set_option maxRecDepth 100000 in
theorem gangwayref01_Uleb.calls (k : Nat) (a0 : Int) (r : List Int) (w : World) (h : gangwayref01_Uleb.f k a0 = some r) :
  Calls Try.prog 44 #[.int .i64 a0] w fun e w' => ∃ v0_ : Value, e = .returned (v0_) ∧ Kd.R (Kd.int .u8) 5 w' w.heap.size (fun _ => True) v0_ r ∧ Below w.heap.size w w' := by
 have HB := am (Below.refl w.heap.size w)
 have H : (gangwayref01_Uleb.l0 k (IntKind.u64.wrap (a0)) ([] : List Int)) = some r := h
 clear h
 have H' := am H
 clear H
 go_enter Try.func44, Try.ntmps44
 go_wp2
 go_loopg [3, 4] k (fun kq v3 v4 w' => ∃ (x3_1 : Int) (x4_1 : List Int), v3 = .int .u64 x3_1 ∧ Aside0 (gangwayref01_Uleb.l0 kq x3_1 x4_1 = some r) ∧ Aside0 (kq ≤ k) ∧ Aside0 (Kd.R (Kd.int .u8) 5 w' w.heap.size (fun _ => True) v4 x4_1) ∧ Aside0 (Below w.heap.size w w'))
 case atStart => exact ⟨(IntKind.u64.wrap (a0)), (([] : List Int)), (by first | rfl | (simp; done) | (simp [*]; done)), H', ⟨Nat.le_refl _⟩, ⟨by first | exact Kd.R_nil _ _ _ _ _ | exact Kd.N_nil _ _ _ _ _ | exact Kd.V_nil _ _ _ _ _ | exact Kd.Q_nil _ _ _ _ _ | exact Kd.S_nil _ _ _ _ _⟩, ⟨by exact bl_g HB.out⟩⟩
 case round =>
  clear H'
  obtain ⟨x3_1, x4_1, rfl, HA, HK1, HO_4, HB⟩ := hrel
  cases gk with
  | zero => exact absurd HA.out (by simp [gangwayref01_Uleb.l0])
  | succ k1 =>
   have H := HA.out
   clear HA
   simp only [gangwayref01_Uleb.l0] at H
   by_cases c2 : x3_1 ≥ 128
   ·
    rw [if_pos c2] at H
    have c2b0 : decide (128 ≤ x3_1) = true := decide_eq_true c2
    clear c2
    by_cases c3 : x4_1.length < 140737488355328
    ·
     rw [if_pos c3] at H
     have LMc3 := am c3
     clear c3
     obtain ⟨y101, hy101⟩ : ∃ y_ : List Int, y_ = (x4_1 ++ [((Int.tmod x3_1 128) + 128) % 256]) := ⟨_, rfl⟩
     replace H : (gangwayref01_Uleb.l0 k1 (IntKind.u64.wrap (Int.tdiv x3_1 128)) y101) = some r := by first | (rw [hy101]; with_reducible exact H) | (have H2_ := (Option.bind_some _ _).symm.trans H; rw [hy101]; with_reducible exact H2_)
     have Ny101 := am hy101
     clear hy101
     have H' := am H
     clear H
     go_wp2_with (first | ((with_reducible refine gate_builtin (b := .append) (xs := #[.tmp 9, .tmp 14]) rfl ?_); at_builtin; refine Kd.R_append (Kd.int .u8) (w0 := w) w.heap.size rfl (.tmp 9) (.tmp 14) 28 5 (.int .u8 0) 1 rfl Try.underlying28 info5 rfl (by decide) (by omega) u4 x4_1 (((Int.tmod x3_1 128) + 128) % 256) [.int .u8 (((Int.tmod x3_1 128) + 128) % 256)] (fun _ => True) (fun _ => False) rfl rfl ?aP (fun _ hk => hk.elim) ?aF ?aO ?aB ?aS ?aL ?_; (case aP => exact rfl); (case aB => exact (by exact bl_o HB.out)); (case aF => exact (fun _ _ => trivial)); (case aO => exact (Kd.R_o HO_4.out)); (case aS => exact (below_size (by exact bl_o HB.out))); (case aL => have := LMc3.out; omega); intro v102 w4 ho hb hg hat; rw [← Ny101.out] at ho; have n0_ := am (hb); have n1_ := am (ho); clear HB; clear HO_4; have HB := n0_; have HO103 := n1_; clear n0_ n1_; clear ho hb hg hat))
     go_roundg k1
     case measure => have := HK1.out; omega
     case rel => exact ⟨(IntKind.u64.wrap (Int.tdiv x3_1 128)), (y101), (by first | rfl | (simp; done) | (simp [*]; done)), H', ⟨by have := HK1.out; omega⟩, ⟨by (with_reducible repeat (first | apply Kd.R_alloc | apply Kd.R_drewN | apply Kd.R_drew)); exact HO103.out⟩, ⟨by exact bl_g HB.out⟩⟩
    ·
     rw [if_neg c3] at H
     exact absurd H (by simp)
   ·
    rw [if_neg c2] at H
    have c2b0 : decide (128 ≤ x3_1) = false := decide_eq_false c2
    clear c2
    by_cases c5 : x4_1.length < 140737488355328
    ·
     rw [if_pos c5] at H
     have LMc5 := am c5
     clear c5
     obtain ⟨y104, hy104⟩ : ∃ y_ : List Int, y_ = (x4_1 ++ [(x3_1) % 256]) := ⟨_, rfl⟩
     replace H : (some y104) = some r := by first | (rw [hy104]; with_reducible exact H) | (have H2_ := (Option.bind_some _ _).symm.trans H; rw [hy104]; with_reducible exact H2_)
     have Ny104 := am hy104
     clear hy104
     obtain rfl := Option.some.inj H
     go_wp2_with (first | ((with_reducible refine gate_builtin (b := .append) (xs := #[.tmp 18, .tmp 21]) rfl ?_); at_builtin; refine Kd.R_append (Kd.int .u8) (w0 := w) w.heap.size rfl (.tmp 18) (.tmp 21) 28 5 (.int .u8 0) 1 rfl Try.underlying28 info5 rfl (by decide) (by omega) u4 x4_1 ((x3_1) % 256) [.int .u8 ((x3_1) % 256)] (fun _ => True) (fun _ => False) rfl rfl ?aP (fun _ hk => hk.elim) ?aF ?aO ?aB ?aS ?aL ?_; (case aP => exact rfl); (case aB => exact (by exact bl_o HB.out)); (case aF => exact (fun _ _ => trivial)); (case aO => exact (Kd.R_o HO_4.out)); (case aS => exact (below_size (by exact bl_o HB.out))); (case aL => have := LMc5.out; omega); intro v105 w6 ho hb hg hat; rw [← Ny104.out] at ho; have n0_ := am (hb); have n1_ := am (ho); clear HB; clear HO_4; have HB := n0_; have HO106 := n1_; clear n0_ n1_; clear ho hb hg hat))
     go_ret
     exact ⟨_, rfl, by (with_reducible repeat (first | apply Kd.R_alloc | apply Kd.R_drewN | apply Kd.R_drew)); exact HO106.out, by exact bl_g HB.out⟩
    ·
     rw [if_neg c5] at H
     exact absurd H (by simp)
end Go.Proofs.Ytfgfnflhdabmcaa.G
end
section
namespace Go.Proofs.Ytfgfnflhdabmcaa.G
open Go.RowKit Go.Proofs.YtfgfnflhdabmcaaW.PrintWords Go.Proofs.YtfgfnflhdabmcaaW.PrintLast Go.Proofs.YtfgfnflhdabmcaaW.PrintMore
attribute [local go_sem] max2_int min2_int max_two min_two max_three min_three max_four min_four   -- for this text's walks alone
set_option linter.unusedVariables false
set_option linter.unusedSimpArgs false
def gangwayref01_Sleb.l0 : Nat → Int → List Int → Option (List Int)
 | 0, _, _ => none
 | k + 1, x0, x3 => if x0 < (-64) then (if x3.length < 140737488355328 then (gangwayref01_Sleb.l0 k (x0 / 128) (x3 ++ [((Go.bits .and .i64 x0 127) + 128) % 256])) else (none)) else (if x0 > 63 then (if x3.length < 140737488355328 then (gangwayref01_Sleb.l0 k (x0 / 128) (x3 ++ [((Go.bits .and .i64 x0 127) + 128) % 256])) else (none)) else (if x3.length < 140737488355328 then (some (x3 ++ [(Go.bits .and .i64 x0 127) % 256])) else (none)))
def gangwayref01_Sleb.f (k : Nat) (a0 : Int) : Option (List Int) := gangwayref01_Sleb.l0 k a0 ([] : List Int)
set_option maxHeartbeats 8000000 in
set_option maxRecDepth 100000 in
theorem gangwayref01_Sleb.calls (k : Nat) (a0 : Int) (r : List Int) (w : World) (h : gangwayref01_Sleb.f k a0 = some r) :
  Calls Try.prog 45 #[.int .i64 a0] w fun e w' => ∃ v0_ : Value, e = .returned (v0_) ∧ Kd.R (Kd.int .u8) 5 w' w.heap.size (fun _ => True) v0_ r ∧ Below w.heap.size w w' := by
 have HB := am (Below.refl w.heap.size w)
 have H : (gangwayref01_Sleb.l0 k a0 ([] : List Int)) = some r := h
 clear h
 have H' := am H
 clear H
 go_enter Try.func45, Try.ntmps45
 go_wp2
 go_loopg [0, 3] k (fun kq v0 v3 w' => ∃ (x0_1 : Int) (x3_1 : List Int), v0 = .int .i64 x0_1 ∧ Aside0 (gangwayref01_Sleb.l0 kq x0_1 x3_1 = some r) ∧ Aside0 (kq ≤ k) ∧ Aside0 (Kd.R (Kd.int .u8) 5 w' w.heap.size (fun _ => True) v3 x3_1) ∧ Aside0 (Below w.heap.size w w'))
 case atStart => exact ⟨(a0), (([] : List Int)), (by first | rfl | (simp; done) | (simp [*]; done)), H', ⟨Nat.le_refl _⟩, ⟨by first | exact Kd.R_nil _ _ _ _ _ | exact Kd.N_nil _ _ _ _ _ | exact Kd.V_nil _ _ _ _ _ | exact Kd.Q_nil _ _ _ _ _ | exact Kd.S_nil _ _ _ _ _⟩, ⟨by exact bl_g HB.out⟩⟩
 case round =>
  clear H'
  obtain ⟨x0_1, x3_1, rfl, HA, HK1, HO_3, HB⟩ := hrel
  cases gk with
  | zero => exact absurd HA.out (by simp [gangwayref01_Sleb.l0])
  | succ k1 =>
   have H := HA.out
   clear HA
   simp only [gangwayref01_Sleb.l0] at H
   by_cases c2 : x0_1 < (-64)
   ·
    rw [if_pos c2] at H
    have c2b0 : decide (x0_1 < (-64)) = true := decide_eq_true c2
    clear c2
    by_cases c3 : x3_1.length < 140737488355328
    ·
     rw [if_pos c3] at H
     have LMc3 := am c3
     clear c3
     obtain ⟨y101, hy101⟩ : ∃ y_ : List Int, y_ = (x3_1 ++ [((Go.bits .and .i64 x0_1 127) + 128) % 256]) := ⟨_, rfl⟩
     replace H : (gangwayref01_Sleb.l0 k1 (x0_1 / 128) y101) = some r := by first | (rw [hy101]; with_reducible exact H) | (have H2_ := (Option.bind_some _ _).symm.trans H; rw [hy101]; with_reducible exact H2_)
     have Ny101 := am hy101
     clear hy101
     have H' := am H
     clear H
     go_wp2_with (first | ((with_reducible refine gate_builtin (b := .append) (xs := #[.tmp 10, .tmp 15]) rfl ?_); at_builtin; refine Kd.R_append (Kd.int .u8) (w0 := w) w.heap.size rfl (.tmp 10) (.tmp 15) 28 5 (.int .u8 0) 1 rfl Try.underlying28 info5 rfl (by decide) (by omega) u3 x3_1 (((Go.bits .and .i64 x0_1 127) + 128) % 256) [.int .u8 (((Go.bits .and .i64 x0_1 127) + 128) % 256)] (fun _ => True) (fun _ => False) rfl rfl ?aP (fun _ hk => hk.elim) ?aF ?aO ?aB ?aS ?aL ?_; (case aP => exact rfl); (case aB => exact (by exact bl_o HB.out)); (case aF => exact (fun _ _ => trivial)); (case aO => exact (Kd.R_o HO_3.out)); (case aS => exact (below_size (by exact bl_o HB.out))); (case aL => have := LMc3.out; omega); intro v102 w4 ho hb hg hat; rw [← Ny101.out] at ho; have n0_ := am (hb); have n1_ := am (ho); clear HB; clear HO_3; have HB := n0_; have HO103 := n1_; clear n0_ n1_; clear ho hb hg hat))
     go_roundg k1
     case measure => have := HK1.out; omega
     case rel => exact ⟨(x0_1 / 128), (y101), (by first | rfl | (simp; done) | (simp [*]; done)), H', ⟨by have := HK1.out; omega⟩, ⟨by (with_reducible repeat (first | apply Kd.R_alloc | apply Kd.R_drewN | apply Kd.R_drew)); exact HO103.out⟩, ⟨by exact bl_g HB.out⟩⟩
    ·
     rw [if_neg c3] at H
     exact absurd H (by simp)
   ·
    rw [if_neg c2] at H
    have c2b0 : decide (x0_1 < (-64)) = false := decide_eq_false c2
    clear c2
    by_cases c5 : x0_1 > 63
    ·
     rw [if_pos c5] at H
     have c5b0 : decide (63 < x0_1) = true := decide_eq_true c5
     clear c5
     by_cases c6 : x3_1.length < 140737488355328
     ·
      rw [if_pos c6] at H
      have LMc6 := am c6
      clear c6
      obtain ⟨y104, hy104⟩ : ∃ y_ : List Int, y_ = (x3_1 ++ [((Go.bits .and .i64 x0_1 127) + 128) % 256]) := ⟨_, rfl⟩
      replace H : (gangwayref01_Sleb.l0 k1 (x0_1 / 128) y104) = some r := by first | (rw [hy104]; with_reducible exact H) | (have H2_ := (Option.bind_some _ _).symm.trans H; rw [hy104]; with_reducible exact H2_)
      have Ny104 := am hy104
      clear hy104
      have H' := am H
      clear H
      go_wp2_with (first | ((with_reducible refine gate_builtin (b := .append) (xs := #[.tmp 10, .tmp 15]) rfl ?_); at_builtin; refine Kd.R_append (Kd.int .u8) (w0 := w) w.heap.size rfl (.tmp 10) (.tmp 15) 28 5 (.int .u8 0) 1 rfl Try.underlying28 info5 rfl (by decide) (by omega) u3 x3_1 (((Go.bits .and .i64 x0_1 127) + 128) % 256) [.int .u8 (((Go.bits .and .i64 x0_1 127) + 128) % 256)] (fun _ => True) (fun _ => False) rfl rfl ?aP (fun _ hk => hk.elim) ?aF ?aO ?aB ?aS ?aL ?_; (case aP => exact rfl); (case aB => exact (by exact bl_o HB.out)); (case aF => exact (fun _ _ => trivial)); (case aO => exact (Kd.R_o HO_3.out)); (case aS => exact (below_size (by exact bl_o HB.out))); (case aL => have := LMc6.out; omega); intro v105 w7 ho hb hg hat; rw [← Ny104.out] at ho; have n0_ := am (hb); have n1_ := am (ho); clear HB; clear HO_3; have HB := n0_; have HO106 := n1_; clear n0_ n1_; clear ho hb hg hat))
      go_roundg k1
      case measure => have := HK1.out; omega
      case rel => exact ⟨(x0_1 / 128), (y104), (by first | rfl | (simp; done) | (simp [*]; done)), H', ⟨by have := HK1.out; omega⟩, ⟨by (with_reducible repeat (first | apply Kd.R_alloc | apply Kd.R_drewN | apply Kd.R_drew)); exact HO106.out⟩, ⟨by exact bl_g HB.out⟩⟩
     ·
      rw [if_neg c6] at H
      exact absurd H (by simp)
    ·
     rw [if_neg c5] at H
     have c5b0 : decide (63 < x0_1) = false := decide_eq_false c5
     clear c5
     by_cases c8 : x3_1.length < 140737488355328
     ·
      rw [if_pos c8] at H
      have LMc8 := am c8
      clear c8
      obtain ⟨y107, hy107⟩ : ∃ y_ : List Int, y_ = (x3_1 ++ [(Go.bits .and .i64 x0_1 127) % 256]) := ⟨_, rfl⟩
      replace H : (some y107) = some r := by first | (rw [hy107]; with_reducible exact H) | (have H2_ := (Option.bind_some _ _).symm.trans H; rw [hy107]; with_reducible exact H2_)
      have Ny107 := am hy107
      clear hy107
      obtain rfl := Option.some.inj H
      go_wp2_with (first | ((with_reducible refine gate_builtin (b := .append) (xs := #[.tmp 19, .tmp 23]) rfl ?_); at_builtin; refine Kd.R_append (Kd.int .u8) (w0 := w) w.heap.size rfl (.tmp 19) (.tmp 23) 28 5 (.int .u8 0) 1 rfl Try.underlying28 info5 rfl (by decide) (by omega) u3 x3_1 ((Go.bits .and .i64 x0_1 127) % 256) [.int .u8 ((Go.bits .and .i64 x0_1 127) % 256)] (fun _ => True) (fun _ => False) rfl rfl ?aP (fun _ hk => hk.elim) ?aF ?aO ?aB ?aS ?aL ?_; (case aP => exact rfl); (case aB => exact (by exact bl_o HB.out)); (case aF => exact (fun _ _ => trivial)); (case aO => exact (Kd.R_o HO_3.out)); (case aS => exact (below_size (by exact bl_o HB.out))); (case aL => have := LMc8.out; omega); intro v108 w9 ho hb hg hat; rw [← Ny107.out] at ho; have n0_ := am (hb); have n1_ := am (ho); clear HB; clear HO_3; have HB := n0_; have HO109 := n1_; clear n0_ n1_; clear ho hb hg hat))
      go_ret
      exact ⟨_, rfl, by (with_reducible repeat (first | apply Kd.R_alloc | apply Kd.R_drewN | apply Kd.R_drew)); exact HO109.out, by exact bl_g HB.out⟩
     ·
      rw [if_neg c8] at H
      exact absurd H (by simp)
end Go.Proofs.Ytfgfnflhdabmcaa.G
end
section
namespace Go.Proofs.Ytfgfnflhdabmcaa.G
open Go.RowKit Go.Proofs.YtfgfnflhdabmcaaW.PrintWords Go.Proofs.YtfgfnflhdabmcaaW.PrintLast Go.Proofs.YtfgfnflhdabmcaaW.PrintMore
attribute [local go_sem] max2_int min2_int max_two min_two max_three min_three max_four min_four   -- for this text's walks alone
set_option linter.unusedVariables false
set_option linter.unusedSimpArgs false
def gangwayref01_sized.f (a0 : Int) : Option (Bool) := if a0 = 1 then (some true) else (if a0 = 2 then (some true) else (if a0 = 4 then (some true) else (some (a0 == 8))))
set_option maxHeartbeats 8000000 in
set_option maxRecDepth 100000 in
theorem gangwayref01_sized.calls (a0 : Int) (r : Bool) (w : World) (h : gangwayref01_sized.f a0 = some r) :
  Calls Try.prog 68 #[.int .i64 a0] w fun e w' => e = .returned (.bool r) ∧ Drawn0 w w' := by
 have H : (if a0 = 1 then (some true) else (if a0 = 2 then (some true) else (if a0 = 4 then (some true) else (some (a0 == 8))))) = some r := h
 clear h
 by_cases c2 : a0 = 1
 ·
  rw [if_pos c2] at H
  have c2b0 : (a0 == 1) = true := beq_iff_eq.mpr c2
  have c2b1 : (a0 != 1) = false := bne_eq_false_iff_eq.mpr c2
  clear c2
  obtain rfl := Option.some.inj H
  go_enter Try.func68, Try.ntmps68
  go_wp2
  go_ret
  exact ⟨by first | rfl | (simp; done) | (simp [*]; done), by repeat (first | exact Drawn0.refl _ | apply Drawn0.step)⟩
 ·
  rw [if_neg c2] at H
  have c2b0 : (a0 == 1) = false := beq_eq_false_iff_ne.mpr c2
  have c2b1 : (a0 != 1) = true := bne_iff_ne.mpr c2
  by_cases c3 : a0 = 2
  ·
   rw [if_pos c3] at H
   have c3b0 : (a0 == 2) = true := beq_iff_eq.mpr c3
   have c3b1 : (a0 != 2) = false := bne_eq_false_iff_eq.mpr c3
   clear c3
   obtain rfl := Option.some.inj H
   go_enter Try.func68, Try.ntmps68
   go_wp2
   go_ret
   exact ⟨by first | rfl | (simp; done) | (simp [*]; done), by repeat (first | exact Drawn0.refl _ | apply Drawn0.step)⟩
  ·
   rw [if_neg c3] at H
   have c3b0 : (a0 == 2) = false := beq_eq_false_iff_ne.mpr c3
   have c3b1 : (a0 != 2) = true := bne_iff_ne.mpr c3
   by_cases c4 : a0 = 4
   ·
    rw [if_pos c4] at H
    have c4b0 : (a0 == 4) = true := beq_iff_eq.mpr c4
    have c4b1 : (a0 != 4) = false := bne_eq_false_iff_eq.mpr c4
    clear c4
    obtain rfl := Option.some.inj H
    go_enter Try.func68, Try.ntmps68
    go_wp2
    go_ret
    exact ⟨by first | rfl | (simp; done) | (simp [*]; done), by repeat (first | exact Drawn0.refl _ | apply Drawn0.step)⟩
   ·
    rw [if_neg c4] at H
    have c4b0 : (a0 == 4) = false := beq_eq_false_iff_ne.mpr c4
    have c4b1 : (a0 != 4) = true := bne_iff_ne.mpr c4
    obtain rfl := Option.some.inj H
    go_enter Try.func68, Try.ntmps68
    go_wp2
    go_ret
    exact ⟨by first | rfl | (simp; done) | (simp [*]; done), by repeat (first | exact Drawn0.refl _ | apply Drawn0.step)⟩
end Go.Proofs.Ytfgfnflhdabmcaa.G
end
section
namespace Go.Proofs.Ytfgfnflhdabmcaa.G
open Go.RowKit Go.Proofs.YtfgfnflhdabmcaaW.PrintWords Go.Proofs.YtfgfnflhdabmcaaW.PrintLast Go.Proofs.YtfgfnflhdabmcaaW.PrintMore
attribute [local go_sem] max2_int min2_int max_two min_two max_three min_three max_four min_four   -- for this text's walks alone
set_option linter.unusedVariables false
set_option linter.unusedSimpArgs false
mutual
def gangwayref01_Put.j0 : Nat → Int → Int → Bool → Option (List Int × Int)
 | 0, _, _, _ => none
 | k + 1, x0, x1, x31 => if x31 = true then (some (([] : List Int), 11)) else (gangwayref01_Put.l0 k x1 (IntKind.u64.wrap (x0)) ([] : List Int) 0)
def gangwayref01_Put.l0 : Nat → Int → Int → List Int → Int → Option (List Int × Int)
 | 0, _, _, _, _ => none
 | k + 1, x1, x6, x7, x8 => if x8 < x1 then (if x7.length < 140737488355328 then (gangwayref01_Put.l0 k x1 (x6 / 256) (x7 ++ [(x6) % 256]) (wrap64 (x8 + 1))) else (none)) else (some (x7, 0))
end
def gangwayref01_Put.f (k : Nat) (a0 : Int) (a1 : Int) : Option (List Int × Int) := (gangwayref01_sized.f a1).bind fun t101 => (if t101 = true then (if a1 < 8 then (if 0 ≤ (IntKind.u64.wrap (wrap64 ((wrap64 (8 * a1)) - 1))) then (if a0 < (wrap64 (-(shl .i64 1 (IntKind.u64.wrap (wrap64 ((wrap64 (8 * a1)) - 1)))))) then (gangwayref01_Put.j0 k a0 a1 true) else (if 0 ≤ (IntKind.u64.wrap (wrap64 (8 * a1))) then (gangwayref01_Put.j0 k a0 a1 (decide (a0 ≥ (shl .i64 1 (IntKind.u64.wrap (wrap64 (8 * a1))))))) else (none))) else (none)) else (gangwayref01_Put.j0 k a0 a1 false)) else (some (([] : List Int), 1)))
theorem gangwayref01_Put.mono_l : ∀ k, (∀ y0 y1 y2, LeO (gangwayref01_Put.j0 k y0 y1 y2) (gangwayref01_Put.j0 (k + 1) y0 y1 y2)) ∧ (∀ y0 y1 y2 y3, LeO (gangwayref01_Put.l0 k y0 y1 y2 y3) (gangwayref01_Put.l0 (k + 1) y0 y1 y2 y3))
 | 0 => ⟨fun _ _ _ r h => by simp [gangwayref01_Put.j0] at h, fun _ _ _ _ r h => by simp [gangwayref01_Put.l0] at h⟩
 | k + 1 => by
  obtain ⟨ih0, ih1⟩ := gangwayref01_Put.mono_l k
  refine ⟨?_, ?_⟩
  ·
   intro y0 y1 y2
   unfold gangwayref01_Put.j0
   repeat' first
   | (with_reducible exact ih0 _ _ _)
   | (with_reducible exact ih1 _ _ _ _)
   | (with_reducible exact LeO.refl _)
   | (with_reducible exact LeO.none _)
   | (with_reducible refine LeO.ite ?_ ?_)
   | (with_reducible refine LeO.bind ?_ (fun _ => ?_))
   | exact ih0 _ _ _
   | exact ih1 _ _ _ _
   | exact LeO.none _
   | refine LeO.ite ?_ ?_
   | refine LeO.bind ?_ (fun _ => ?_)
  ·
   intro y0 y1 y2 y3
   unfold gangwayref01_Put.l0
   repeat' first
   | (with_reducible exact ih0 _ _ _)
   | (with_reducible exact ih1 _ _ _ _)
   | (with_reducible exact LeO.refl _)
   | (with_reducible exact LeO.none _)
   | (with_reducible refine LeO.ite ?_ ?_)
   | (with_reducible refine LeO.bind ?_ (fun _ => ?_))
   | exact ih0 _ _ _
   | exact ih1 _ _ _ _
   | exact LeO.none _
   | refine LeO.ite ?_ ?_
   | refine LeO.bind ?_ (fun _ => ?_)
theorem gangwayref01_Put.mono : ∀ a0 a1 k, LeO (gangwayref01_Put.f k a0 a1) (gangwayref01_Put.f (k + 1) a0 a1) := by
 intro a0 a1 k
 obtain ⟨ih0, ih1⟩ := gangwayref01_Put.mono_l k
 unfold gangwayref01_Put.f
 repeat' first
   | (with_reducible exact ih0 _ _ _)
   | (with_reducible exact ih1 _ _ _ _)
   | (with_reducible exact LeO.refl _)
   | (with_reducible exact LeO.none _)
   | (with_reducible refine LeO.ite ?_ ?_)
   | (with_reducible refine LeO.bind ?_ (fun _ => ?_))
   | exact ih0 _ _ _
   | exact ih1 _ _ _ _
   | exact LeO.none _
   | refine LeO.ite ?_ ?_
   | refine LeO.bind ?_ (fun _ => ?_)
set_option maxHeartbeats 8000000 in
set_option maxRecDepth 100000 in
theorem gangwayref01_Put.calls (k : Nat) (a0 : Int) (a1 : Int) (r1 : List Int) (r2 : Int) (w : World) (h : gangwayref01_Put.f k a0 a1 = some (r1, r2)) :
  Calls Try.prog 47 #[.int .i64 a0, .int .i64 a1] w fun e w' => ∃ v0_ : Value, e = .returned (.tuple #[v0_, .int .i64 r2]) ∧ Kd.R (Kd.int .u8) 5 w' w.heap.size (fun _ => True) v0_ r1 ∧ Below w.heap.size w w' := by
 have HB := am (Below.refl w.heap.size w)
 have H : ((gangwayref01_sized.f a1).bind fun t101 => (if t101 = true then (if a1 < 8 then (if 0 ≤ (IntKind.u64.wrap (wrap64 ((wrap64 (8 * a1)) - 1))) then (if a0 < (wrap64 (-(shl .i64 1 (IntKind.u64.wrap (wrap64 ((wrap64 (8 * a1)) - 1)))))) then (gangwayref01_Put.j0 k a0 a1 true) else (if 0 ≤ (IntKind.u64.wrap (wrap64 (8 * a1))) then (gangwayref01_Put.j0 k a0 a1 (decide (a0 ≥ (shl .i64 1 (IntKind.u64.wrap (wrap64 (8 * a1))))))) else (none))) else (none)) else (gangwayref01_Put.j0 k a0 a1 false)) else (some (([] : List Int), 1)))) = some (r1, r2) := h
 clear h
 replace H := Option.bind_eq_some_iff.mp H
 obtain ⟨t101, A30, H⟩ := H
 replace H : (if t101 = true then (if a1 < 8 then (if 0 ≤ (IntKind.u64.wrap (wrap64 ((wrap64 (8 * a1)) - 1))) then (if a0 < (wrap64 (-(shl .i64 1 (IntKind.u64.wrap (wrap64 ((wrap64 (8 * a1)) - 1)))))) then (gangwayref01_Put.j0 k a0 a1 true) else (if 0 ≤ (IntKind.u64.wrap (wrap64 (8 * a1))) then (gangwayref01_Put.j0 k a0 a1 (decide (a0 ≥ (shl .i64 1 (IntKind.u64.wrap (wrap64 (8 * a1))))))) else (none))) else (none)) else (gangwayref01_Put.j0 k a0 a1 false)) else (some (([] : List Int), 1))) = some (r1, r2) := H
 have A3 := am A30
 clear A30
 by_cases c4 : t101 = true
 ·
  subst c4
  have H1 : (if a1 < 8 then (if 0 ≤ (IntKind.u64.wrap (wrap64 ((wrap64 (8 * a1)) - 1))) then (if a0 < (wrap64 (-(shl .i64 1 (IntKind.u64.wrap (wrap64 ((wrap64 (8 * a1)) - 1)))))) then (gangwayref01_Put.j0 k a0 a1 true) else (if 0 ≤ (IntKind.u64.wrap (wrap64 (8 * a1))) then (gangwayref01_Put.j0 k a0 a1 (decide (a0 ≥ (shl .i64 1 (IntKind.u64.wrap (wrap64 (8 * a1))))))) else (none))) else (none)) else (gangwayref01_Put.j0 k a0 a1 false)) = some (r1, r2) := by rw [if_pos rfl] at H; exact H
  clear H
  have H := H1
  clear H1
  have HC5 := am H
  clear H
  go_enter Try.func47, Try.ntmps47
  go_upto_region 3 with (first | ((with_reducible refine gate_callee (f := 68) rfl ?_); refine goesL_ (some 10) rfl rfl Try.func68 (by kernel_rfl) rfl #[.int .i64 a1] rfl (by simp only [List.map_toArray, List.map_cons, List.map_nil]; try rfl) ?_; (with_reducible refine (gangwayref01_sized.calls a1 true _ A3.out).mono ?_); rintro e w' ⟨rfl, ⟨nd, rfl⟩⟩; refine ⟨_, rfl, ?_⟩))
  (try simp only [Act.put, List.setIfInBounds_toArray, List.set_cons_zero, List.set_cons_succ])
  go_cut [31] (fun v31 wc => ∃ (kq : Nat) (x31_4 : Bool), v31 = .bool x31_4 ∧ Aside0 (gangwayref01_Put.j0 kq a0 a1 x31_4 = some (r1, r2)) ∧ Aside0 (kq ≤ k) ∧ Aside0 (Below w.heap.size w wc))
  case first =>
   have H := HC5.out
   clear HC5
   by_cases c6 : a1 < 8
   ·
    rw [if_pos c6] at H
    have c6b0 : decide (a1 < 8) = true := decide_eq_true c6
    clear c6
    (first | rw [c6b0] | (simp only [i64_w, i32_w]; rw [c6b0]) | skip)
    obtain ⟨ji7, hji7⟩ : ∃ j_ : Int, (IntKind.u64.wrap (wrap64 ((wrap64 (8 * a1)) - 1))) = j_ := ⟨_, rfl⟩
    replace H : (if 0 ≤ (ji7) then (if a0 < (wrap64 (-(shl .i64 1 (ji7)))) then (gangwayref01_Put.j0 k a0 a1 true) else (if 0 ≤ (IntKind.u64.wrap (wrap64 (8 * a1))) then (gangwayref01_Put.j0 k a0 a1 (decide (a0 ≥ (shl .i64 1 (IntKind.u64.wrap (wrap64 (8 * a1))))))) else (none))) else (none)) = some (r1, r2) := by first | (rw [hji7] at H; exact H) | (simp only [hji7] at H ⊢; exact H)
    by_cases c8 : 0 ≤ (ji7)
    ·
     rw [if_pos c8] at H
     have c8b0 := eq_true c8
     have c8b1 : decide (0 ≤ (ji7)) = true := decide_eq_true c8
     clear c8
     obtain ⟨ji9, hji9⟩ : ∃ j_ : Int, (shl .i64 1 (ji7)) = j_ := ⟨_, rfl⟩
     replace H : (if a0 < (wrap64 (-(ji9))) then (gangwayref01_Put.j0 k a0 a1 true) else (if 0 ≤ (IntKind.u64.wrap (wrap64 (8 * a1))) then (gangwayref01_Put.j0 k a0 a1 (decide (a0 ≥ (shl .i64 1 (IntKind.u64.wrap (wrap64 (8 * a1))))))) else (none))) = some (r1, r2) := by first | (rw [hji9] at H; exact H) | (simp only [hji9] at H ⊢; exact H)
     have hji9_ : (IntKind.i64.wrap (1 * 2 ^ min (ji7).toNat 64)) = ji9 := hji9
     have hji9z : (ji7) ≤ 64 → (IntKind.i64.wrap (1 * 2 ^ (ji7).toNat)) = ji9 := shl_small hji9
     have hji9u : (IntKind.i64.wrap (2 ^ min (ji7).toNat 64)) = ji9 := by have h_ := hji9_; rw [Int.one_mul] at h_; exact h_
     have hji9v : (ji7) ≤ 64 → (IntKind.i64.wrap (2 ^ (ji7).toNat)) = ji9 := fun hle_ => by have h_ := hji9z hle_; rw [Int.one_mul] at h_; exact h_
     have hji9y : (wrap64 (1 * 2 ^ min (ji7).toNat 64)) = ji9 := (i64_w _).symm.trans hji9_
     have hji9x : (ji7) ≤ 64 → (wrap64 (1 * 2 ^ (ji7).toNat)) = ji9 := fun h_ => (i64_w _).symm.trans (hji9z h_)
     by_cases c10 : a0 < (wrap64 (-(ji9)))
     ·
      rw [if_pos c10] at H
      have c10b0 : decide (a0 < (wrap64 (-(ji9)))) = true := decide_eq_true c10
      clear c10
      have H' := am H
      clear H
      go_wp2
      go_meet
      case rel => exact ⟨_, (true), (by first | rfl | (simp; done) | (simp [*]; done)), H', ⟨by first | omega | exact Nat.le_refl _⟩, ⟨by exact bl_g HB.out⟩⟩
     ·
      rw [if_neg c10] at H
      have c10b0 : decide (a0 < (wrap64 (-(ji9)))) = false := decide_eq_false c10
      clear c10
      obtain ⟨ji11, hji11⟩ : ∃ j_ : Int, (IntKind.u64.wrap (wrap64 (8 * a1))) = j_ := ⟨_, rfl⟩
      replace H : (if 0 ≤ (ji11) then (gangwayref01_Put.j0 k a0 a1 (decide (a0 ≥ (shl .i64 1 (ji11))))) else (none)) = some (r1, r2) := by first | (rw [hji11] at H; exact H) | (simp only [hji11] at H ⊢; exact H)
      by_cases c12 : 0 ≤ (ji11)
      ·
       rw [if_pos c12] at H
       have c12b0 := eq_true c12
       have c12b1 : decide (0 ≤ (ji11)) = true := decide_eq_true c12
       clear c12
       obtain ⟨ji13, hji13⟩ : ∃ j_ : Int, (shl .i64 1 (ji11)) = j_ := ⟨_, rfl⟩
       replace H : (gangwayref01_Put.j0 k a0 a1 (decide (a0 ≥ (ji13)))) = some (r1, r2) := by first | (rw [hji13] at H; exact H) | (simp only [hji13] at H ⊢; exact H)
       have hji13_ : (IntKind.i64.wrap (1 * 2 ^ min (ji11).toNat 64)) = ji13 := hji13
       have hji13z : (ji11) ≤ 64 → (IntKind.i64.wrap (1 * 2 ^ (ji11).toNat)) = ji13 := shl_small hji13
       have hji13u : (IntKind.i64.wrap (2 ^ min (ji11).toNat 64)) = ji13 := by have h_ := hji13_; rw [Int.one_mul] at h_; exact h_
       have hji13v : (ji11) ≤ 64 → (IntKind.i64.wrap (2 ^ (ji11).toNat)) = ji13 := fun hle_ => by have h_ := hji13z hle_; rw [Int.one_mul] at h_; exact h_
       have hji13y : (wrap64 (1 * 2 ^ min (ji11).toNat 64)) = ji13 := (i64_w _).symm.trans hji13_
       have hji13x : (ji11) ≤ 64 → (wrap64 (1 * 2 ^ (ji11).toNat)) = ji13 := fun h_ => (i64_w _).symm.trans (hji13z h_)
       have H' := am H
       clear H
       go_wp2
       go_meet
       case rel => exact ⟨_, (decide (a0 ≥ (ji13))), (by first | rfl | (simp; done) | (simp only [← hji13] <;> (first | rfl | simp)) | (simp [*]; done)), H', ⟨by first | omega | exact Nat.le_refl _⟩, ⟨by exact bl_g HB.out⟩⟩
      ·
       rw [if_neg c12] at H
       exact absurd H (by simp)
    ·
     rw [if_neg c8] at H
     exact absurd H (by simp)
   ·
    rw [if_neg c6] at H
    have c6b0 : decide (a1 < 8) = false := decide_eq_false c6
    clear c6
    (first | rw [c6b0] | (simp only [i64_w, i32_w]; rw [c6b0]) | skip)
    have H' := am H
    clear H
    go_wp2
    go_meet
    case rel => exact ⟨_, (false), (by first | rfl | (simp; done) | (simp [*]; done)), H', ⟨by first | omega | exact Nat.le_refl _⟩, ⟨by exact bl_g HB.out⟩⟩
  case rest =>
   clear HC5
   try clear c1
   try clear p2
   try clear c4
   try clear c6
   try clear c6b0
   try clear p6
   try clear c8
   try clear c8b0
   try clear c8b1
   try clear c10
   try clear c10b0
   try clear c12
   try clear c12b0
   try clear c12b1
   obtain ⟨kq, x31_4, rfl, HA, HJ4, HB⟩ := hcut
   cases kq with
   | zero => exact absurd HA.out (by simp [gangwayref01_Put.j0])
   | succ kj4 =>
    have H := HA.out
    clear HA
    simp only [gangwayref01_Put.j0] at H
    by_cases c14 : x31_4 = true
    ·
     subst c14
     have H1 : (some (([] : List Int), 11)) = some (r1, r2) := by rw [if_pos rfl] at H; exact H
     clear H
     have H := H1
     clear H1
     simp only [Option.some.injEq, Prod.mk.injEq] at H
     obtain ⟨rfl, rfl⟩ := H
     go_wp2
     go_ret2
     exact ⟨_, rfl, by first | exact Kd.R_nil _ _ _ _ _ | exact Kd.N_nil _ _ _ _ _ | exact Kd.V_nil _ _ _ _ _ | exact Kd.Q_nil _ _ _ _ _ | exact Kd.S_nil _ _ _ _ _, by exact bl_g HB.out⟩
    ·
     replace c14 := Bool.eq_false_iff.mpr c14
     subst c14
     have H1 : (gangwayref01_Put.l0 kj4 a1 (IntKind.u64.wrap (a0)) ([] : List Int) 0) = some (r1, r2) := by rw [if_neg (show ¬ (false = true) by decide)] at H; exact H
     clear H
     have H := H1
     clear H1
     have H' := am H
     clear H
     go_wp2
     go_loopg [6, 7, 8] kj4 (fun kq v6 v7 v8 w' => ∃ (x6_2 : Int) (x7_2 : List Int) (x8_2 : Int), v6 = .int .u64 x6_2 ∧ v8 = .int .i64 x8_2 ∧ Aside0 (gangwayref01_Put.l0 kq a1 x6_2 x7_2 x8_2 = some (r1, r2)) ∧ Aside0 (kq ≤ kj4) ∧ Aside0 (Kd.R (Kd.int .u8) 5 w' w.heap.size (fun _ => True) v7 x7_2) ∧ Aside0 (Below w.heap.size w w'))
     case atStart => exact ⟨(IntKind.u64.wrap (a0)), (([] : List Int)), (0), (by first | rfl | (simp; done) | (simp [*]; done)), (by first | rfl | (simp; done) | (simp [*]; done)), H', ⟨Nat.le_refl _⟩, ⟨by first | exact Kd.R_nil _ _ _ _ _ | exact Kd.N_nil _ _ _ _ _ | exact Kd.V_nil _ _ _ _ _ | exact Kd.Q_nil _ _ _ _ _ | exact Kd.S_nil _ _ _ _ _⟩, ⟨by exact bl_g HB.out⟩⟩
     case round =>
      clear H'
      try clear c1
      try clear p2
      try clear c4
      try clear c6
      try clear c6b0
      try clear p6
      try clear c8
      try clear c8b0
      try clear c8b1
      try clear c10
      try clear c10b0
      try clear c12
      try clear c12b0
      try clear c12b1
      try clear c14
      try clear p2
      try clear p6
      obtain ⟨x6_2, x7_2, x8_2, rfl, rfl, HA, HK2, HO_7, HB⟩ := hrel
      cases gk with
      | zero => exact absurd HA.out (by simp [gangwayref01_Put.l0])
      | succ k2 =>
       have H := HA.out
       clear HA
       simp only [gangwayref01_Put.l0] at H
       by_cases c15 : x8_2 < a1
       ·
        rw [if_pos c15] at H
        have c15b0 : decide (x8_2 < a1) = true := decide_eq_true c15
        clear c15
        by_cases c16 : x7_2.length < 140737488355328
        ·
         rw [if_pos c16] at H
         have LMc16 := am c16
         clear c16
         obtain ⟨y102, hy102⟩ : ∃ y_ : List Int, y_ = (x7_2 ++ [(x6_2) % 256]) := ⟨_, rfl⟩
         replace H : (gangwayref01_Put.l0 k2 a1 (x6_2 / 256) y102 (wrap64 (x8_2 + 1))) = some (r1, r2) := by first | (rw [hy102]; with_reducible exact H) | (have H2_ := (Option.bind_some _ _).symm.trans H; rw [hy102]; with_reducible exact H2_)
         have Ny102 := am hy102
         clear hy102
         have H' := am H
         clear H
         go_wp2_with (first | ((with_reducible refine gate_builtin (b := .append) (xs := #[.tmp 39, .tmp 42]) rfl ?_); at_builtin; refine Kd.R_append (Kd.int .u8) (w0 := w) w.heap.size rfl (.tmp 39) (.tmp 42) 28 5 (.int .u8 0) 1 rfl Try.underlying28 info5 rfl (by decide) (by omega) u7 x7_2 ((x6_2) % 256) [.int .u8 ((x6_2) % 256)] (fun _ => True) (fun _ => False) rfl rfl ?aP (fun _ hk => hk.elim) ?aF ?aO ?aB ?aS ?aL ?_; (case aP => exact rfl); (case aB => exact (by exact bl_o HB.out)); (case aF => exact (fun _ _ => trivial)); (case aO => exact (Kd.R_o HO_7.out)); (case aS => exact (below_size (by exact bl_o HB.out))); (case aL => have := LMc16.out; omega); intro v103 w17 ho hb hg hat; rw [← Ny102.out] at ho; have n0_ := am (hb); have n1_ := am (ho); clear HB; clear HO_7; have HB := n0_; have HO104 := n1_; clear n0_ n1_; clear ho hb hg hat))
         go_roundg k2
         case measure => have := HJ4.out; have := HK2.out; omega
         case rel => exact ⟨(x6_2 / 256), (y102), (wrap64 (x8_2 + 1)), (by first | rfl | (simp; done) | (simp [*]; done)), (by first | rfl | (simp; done) | (simp [*]; done)), H', ⟨by have := HJ4.out; have := HK2.out; omega⟩, ⟨by (with_reducible repeat (first | apply Kd.R_alloc | apply Kd.R_drewN | apply Kd.R_drew)); exact HO104.out⟩, ⟨by exact bl_g HB.out⟩⟩
        ·
         rw [if_neg c16] at H
         exact absurd H (by simp)
       ·
        rw [if_neg c15] at H
        have c15b0 : decide (x8_2 < a1) = false := decide_eq_false c15
        clear c15
        simp only [Option.some.injEq, Prod.mk.injEq] at H
        obtain ⟨rfl, rfl⟩ := H
        go_wp2
        go_ret2
        exact ⟨_, rfl, by (with_reducible repeat (first | apply Kd.R_alloc | apply Kd.R_drewN | apply Kd.R_drew)); exact HO_7.out, by exact bl_g HB.out⟩
 ·
  replace c4 := Bool.eq_false_iff.mpr c4
  subst c4
  have H1 : (some (([] : List Int), 1)) = some (r1, r2) := by rw [if_neg (show ¬ (false = true) by decide)] at H; exact H
  clear H
  have H := H1
  clear H1
  simp only [Option.some.injEq, Prod.mk.injEq] at H
  obtain ⟨rfl, rfl⟩ := H
  go_enter Try.func47, Try.ntmps47
  go_wp2_with (first | ((with_reducible refine gate_callee (f := 68) rfl ?_); refine goesL_ (some 10) rfl rfl Try.func68 (by kernel_rfl) rfl #[.int .i64 a1] rfl (by simp only [List.map_toArray, List.map_cons, List.map_nil]; try rfl) ?_; (with_reducible refine (gangwayref01_sized.calls a1 false _ A3.out).mono ?_); rintro e w' ⟨rfl, ⟨nd, rfl⟩⟩; refine ⟨_, rfl, ?_⟩))
  go_ret2
  exact ⟨_, rfl, by first | exact Kd.R_nil _ _ _ _ _ | exact Kd.N_nil _ _ _ _ _ | exact Kd.V_nil _ _ _ _ _ | exact Kd.Q_nil _ _ _ _ _ | exact Kd.S_nil _ _ _ _ _, by exact bl_g HB.out⟩
end Go.Proofs.Ytfgfnflhdabmcaa.G
end
section
namespace Go.Proofs.Ytfgfnflhdabmcaa.G
open Go.RowKit Go.Proofs.YtfgfnflhdabmcaaW.PrintWords Go.Proofs.YtfgfnflhdabmcaaW.PrintLast Go.Proofs.YtfgfnflhdabmcaaW.PrintMore
attribute [local go_sem] max2_int min2_int max_two min_two max_three min_three max_four min_four   -- for this text's walks alone
set_option linter.unusedVariables false
set_option linter.unusedSimpArgs false
def gangwayref14_off.f (a0 : Int) (a1 : Int) (a2 : Int) : Option (Int) := if (wrap64 ((wrap64 (Int.tdiv a0 16)) * 16)) = 16 then (some a1) else (if (wrap64 ((wrap64 (Int.tdiv a0 16)) * 16)) = 48 then (some a2) else (some 0))
set_option maxHeartbeats 8000000 in
set_option maxRecDepth 100000 in
theorem gangwayref14_off.calls (a0 : Int) (a1 : Int) (a2 : Int) (r : Int) (w : World) (h : gangwayref14_off.f a0 a1 a2 = some r) :
  Calls Try.prog 41 #[.int .i64 a0, .int .i64 a1, .int .i64 a2] w fun e w' => e = .returned (.int .i64 r) ∧ Drawn0 w w' := by
 have H : (if (wrap64 ((wrap64 (Int.tdiv a0 16)) * 16)) = 16 then (some a1) else (if (wrap64 ((wrap64 (Int.tdiv a0 16)) * 16)) = 48 then (some a2) else (some 0))) = some r := h
 clear h
 by_cases c4 : (wrap64 ((wrap64 (Int.tdiv a0 16)) * 16)) = 16
 ·
  rw [if_pos c4] at H
  have c4b0 : ((wrap64 ((wrap64 (Int.tdiv a0 16)) * 16)) == 16) = true := beq_iff_eq.mpr c4
  have c4b1 : ((wrap64 ((wrap64 (Int.tdiv a0 16)) * 16)) != 16) = false := bne_eq_false_iff_eq.mpr c4
  clear c4
  obtain rfl := Option.some.inj H
  go_enter Try.func41, Try.ntmps41
  go_wp2
  go_ret
  exact ⟨by first | rfl | (simp; done) | (simp [*]; done), by repeat (first | exact Drawn0.refl _ | apply Drawn0.step)⟩
 ·
  rw [if_neg c4] at H
  have c4b0 : ((wrap64 ((wrap64 (Int.tdiv a0 16)) * 16)) == 16) = false := beq_eq_false_iff_ne.mpr c4
  have c4b1 : ((wrap64 ((wrap64 (Int.tdiv a0 16)) * 16)) != 16) = true := bne_iff_ne.mpr c4
  by_cases c5 : (wrap64 ((wrap64 (Int.tdiv a0 16)) * 16)) = 48
  ·
   rw [if_pos c5] at H
   have c5b0 : ((wrap64 ((wrap64 (Int.tdiv a0 16)) * 16)) == 48) = true := beq_iff_eq.mpr c5
   have c5b1 : ((wrap64 ((wrap64 (Int.tdiv a0 16)) * 16)) != 48) = false := bne_eq_false_iff_eq.mpr c5
   clear c5
   obtain rfl := Option.some.inj H
   go_enter Try.func41, Try.ntmps41
   go_wp2
   go_ret
   exact ⟨by first | rfl | (simp; done) | (simp [*]; done), by repeat (first | exact Drawn0.refl _ | apply Drawn0.step)⟩
  ·
   rw [if_neg c5] at H
   have c5b0 : ((wrap64 ((wrap64 (Int.tdiv a0 16)) * 16)) == 48) = false := beq_eq_false_iff_ne.mpr c5
   have c5b1 : ((wrap64 ((wrap64 (Int.tdiv a0 16)) * 16)) != 48) = true := bne_iff_ne.mpr c5
   obtain rfl := Option.some.inj H
   go_enter Try.func41, Try.ntmps41
   go_wp2
   go_ret
   exact ⟨by first | rfl | (simp; done) | (simp [*]; done), by repeat (first | exact Drawn0.refl _ | apply Drawn0.step)⟩
end Go.Proofs.Ytfgfnflhdabmcaa.G
end
section
namespace Go.Proofs.Ytfgfnflhdabmcaa.G
open Go.RowKit Go.Proofs.YtfgfnflhdabmcaaW.PrintWords Go.Proofs.YtfgfnflhdabmcaaW.PrintLast Go.Proofs.YtfgfnflhdabmcaaW.PrintMore
attribute [local go_sem] max2_int min2_int max_two min_two max_three min_three max_four min_four   -- for this text's walks alone
set_option linter.unusedVariables false
set_option linter.unusedSimpArgs false
def gangwayref14_plain.f (a0 : Int) : Option (Bool) := if a0 = 1 then (some true) else (if a0 = 2 then (some true) else (if a0 = 3 then (some true) else (some (a0 == 4))))
set_option maxHeartbeats 8000000 in
set_option maxRecDepth 100000 in
theorem gangwayref14_plain.calls (a0 : Int) (r : Bool) (w : World) (h : gangwayref14_plain.f a0 = some r) :
  Calls Try.prog 43 #[.int .i64 a0] w fun e w' => e = .returned (.bool r) ∧ Drawn0 w w' := by
 have H : (if a0 = 1 then (some true) else (if a0 = 2 then (some true) else (if a0 = 3 then (some true) else (some (a0 == 4))))) = some r := h
 clear h
 by_cases c2 : a0 = 1
 ·
  rw [if_pos c2] at H
  have c2b0 : (a0 == 1) = true := beq_iff_eq.mpr c2
  have c2b1 : (a0 != 1) = false := bne_eq_false_iff_eq.mpr c2
  clear c2
  obtain rfl := Option.some.inj H
  go_enter Try.func43, Try.ntmps43
  go_wp2
  go_ret
  exact ⟨by first | rfl | (simp; done) | (simp [*]; done), by repeat (first | exact Drawn0.refl _ | apply Drawn0.step)⟩
 ·
  rw [if_neg c2] at H
  have c2b0 : (a0 == 1) = false := beq_eq_false_iff_ne.mpr c2
  have c2b1 : (a0 != 1) = true := bne_iff_ne.mpr c2
  by_cases c3 : a0 = 2
  ·
   rw [if_pos c3] at H
   have c3b0 : (a0 == 2) = true := beq_iff_eq.mpr c3
   have c3b1 : (a0 != 2) = false := bne_eq_false_iff_eq.mpr c3
   clear c3
   obtain rfl := Option.some.inj H
   go_enter Try.func43, Try.ntmps43
   go_wp2
   go_ret
   exact ⟨by first | rfl | (simp; done) | (simp [*]; done), by repeat (first | exact Drawn0.refl _ | apply Drawn0.step)⟩
  ·
   rw [if_neg c3] at H
   have c3b0 : (a0 == 2) = false := beq_eq_false_iff_ne.mpr c3
   have c3b1 : (a0 != 2) = true := bne_iff_ne.mpr c3
   by_cases c4 : a0 = 3
   ·
    rw [if_pos c4] at H
    have c4b0 : (a0 == 3) = true := beq_iff_eq.mpr c4
    have c4b1 : (a0 != 3) = false := bne_eq_false_iff_eq.mpr c4
    clear c4
    obtain rfl := Option.some.inj H
    go_enter Try.func43, Try.ntmps43
    go_wp2
    go_ret
    exact ⟨by first | rfl | (simp; done) | (simp [*]; done), by repeat (first | exact Drawn0.refl _ | apply Drawn0.step)⟩
   ·
    rw [if_neg c4] at H
    have c4b0 : (a0 == 3) = false := beq_eq_false_iff_ne.mpr c4
    have c4b1 : (a0 != 3) = true := bne_iff_ne.mpr c4
    obtain rfl := Option.some.inj H
    go_enter Try.func43, Try.ntmps43
    go_wp2
    go_ret
    exact ⟨by first | rfl | (simp; done) | (simp [*]; done), by repeat (first | exact Drawn0.refl _ | apply Drawn0.step)⟩
end Go.Proofs.Ytfgfnflhdabmcaa.G
end
section
namespace Go.Proofs.Ytfgfnflhdabmcaa.G
open Go.RowKit Go.Proofs.YtfgfnflhdabmcaaW.PrintWords Go.Proofs.YtfgfnflhdabmcaaW.PrintLast Go.Proofs.YtfgfnflhdabmcaaW.PrintMore
attribute [local go_sem] max2_int min2_int max_two min_two max_three min_three max_four min_four   -- for this text's walks alone
set_option linter.unusedVariables false
set_option linter.unusedSimpArgs false
def gangwayref01_Fits.j0 : Nat → Int → Int → Bool → Bool → Option (Bool)
 | 0, _, _, _, _ => none
 | k + 1, x0, x1, x2, x12 => if x12 = true then (some false) else (if x2 = true then (if x1 = 64 then (some true) else (if 0 ≤ (IntKind.u64.wrap (wrap64 (x1 - 1))) then (if x0 ≥ (wrap64 (-(shl .i64 1 (IntKind.u64.wrap (wrap64 (x1 - 1)))))) then (some (decide (x0 < (shl .i64 1 (IntKind.u64.wrap (wrap64 (x1 - 1))))))) else (some false)) else (none))) else (if x0 ≥ 0 then (if x1 ≥ 63 then (some true) else (if 0 ≤ (IntKind.u64.wrap (x1)) then (some (decide (x0 < (shl .i64 1 (IntKind.u64.wrap (x1)))))) else (none))) else (some false)))
def gangwayref01_Fits.f (k : Nat) (a0 : Int) (a1 : Int) (a2 : Bool) : Option (Bool) := if a1 < 1 then (gangwayref01_Fits.j0 k a0 a1 a2 true) else (gangwayref01_Fits.j0 k a0 a1 a2 (decide (a1 > 64)))
set_option maxHeartbeats 8000000 in
set_option maxRecDepth 100000 in
theorem gangwayref01_Fits.calls (k : Nat) (a0 : Int) (a1 : Int) (a2 : Bool) (r : Bool) (w : World) (h : gangwayref01_Fits.f k a0 a1 a2 = some r) :
  Calls Try.prog 46 #[.int .i64 a0, .int .i64 a1, .bool a2] w fun e w' => e = .returned (.bool r) ∧ Drawn0 w w' := by
 have H : (if a1 < 1 then (gangwayref01_Fits.j0 k a0 a1 a2 true) else (gangwayref01_Fits.j0 k a0 a1 a2 (decide (a1 > 64)))) = some r := h
 clear h
 have HC4 := am H
 clear H
 go_enter Try.func46, Try.ntmps46
 go_upto_region 1 with (fail)
 go_cut [12] (fun v12 wc => ∃ (kq : Nat) (x12_3 : Bool), v12 = .bool x12_3 ∧ Aside0 (gangwayref01_Fits.j0 kq a0 a1 a2 x12_3 = some r) ∧ Aside0 (kq ≤ k) ∧ Drawn0 w wc)
 case first =>
  have H := HC4.out
  clear HC4
  by_cases c5 : a1 < 1
  ·
   rw [if_pos c5] at H
   have c5b0 : decide (a1 < 1) = true := decide_eq_true c5
   clear c5
   (first | rw [c5b0] | (simp only [i64_w, i32_w]; rw [c5b0]) | skip)
   have H' := am H
   clear H
   go_wp2
   go_meet
   case rel => exact ⟨_, (true), (by first | rfl | (simp; done) | (simp [*]; done)), H', ⟨by first | omega | exact Nat.le_refl _⟩, by repeat (first | exact Drawn0.refl _ | apply Drawn0.step)⟩
  ·
   rw [if_neg c5] at H
   have c5b0 : decide (a1 < 1) = false := decide_eq_false c5
   clear c5
   (first | rw [c5b0] | (simp only [i64_w, i32_w]; rw [c5b0]) | skip)
   have H' := am H
   clear H
   go_wp2
   go_meet
   case rel => exact ⟨_, (decide (a1 > 64)), (by first | rfl | (simp; done) | (simp [*]; done)), H', ⟨by first | omega | exact Nat.le_refl _⟩, by repeat (first | exact Drawn0.refl _ | apply Drawn0.step)⟩
 case rest =>
  clear HC4
  try clear p2
  try clear c4
  try clear c5
  try clear c5b0
  obtain ⟨kq, x12_3, rfl, HA, HJ3, ⟨mc3, rfl⟩⟩ := hcut
  cases kq with
  | zero => exact absurd HA.out (by simp [gangwayref01_Fits.j0])
  | succ kj3 =>
   have H := HA.out
   clear HA
   simp only [gangwayref01_Fits.j0] at H
   by_cases c6 : x12_3 = true
   ·
    subst c6
    have H1 : (some false) = some r := by rw [if_pos rfl] at H; exact H
    clear H
    have H := H1
    clear H1
    obtain rfl := Option.some.inj H
    go_wp2
    go_ret
    exact ⟨by first | rfl | (simp; done) | (simp [*]; done), by repeat (first | exact Drawn0.refl _ | apply Drawn0.step)⟩
   ·
    replace c6 := Bool.eq_false_iff.mpr c6
    subst c6
    have H1 : (if a2 = true then (if a1 = 64 then (some true) else (if 0 ≤ (IntKind.u64.wrap (wrap64 (a1 - 1))) then (if a0 ≥ (wrap64 (-(shl .i64 1 (IntKind.u64.wrap (wrap64 (a1 - 1)))))) then (some (decide (a0 < (shl .i64 1 (IntKind.u64.wrap (wrap64 (a1 - 1))))))) else (some false)) else (none))) else (if a0 ≥ 0 then (if a1 ≥ 63 then (some true) else (if 0 ≤ (IntKind.u64.wrap (a1)) then (some (decide (a0 < (shl .i64 1 (IntKind.u64.wrap (a1)))))) else (none))) else (some false))) = some r := by rw [if_neg (show ¬ (false = true) by decide)] at H; exact H
    clear H
    have H := H1
    clear H1
    by_cases c7 : a2 = true
    ·
     subst c7
     have H1 : (if a1 = 64 then (some true) else (if 0 ≤ (IntKind.u64.wrap (wrap64 (a1 - 1))) then (if a0 ≥ (wrap64 (-(shl .i64 1 (IntKind.u64.wrap (wrap64 (a1 - 1)))))) then (some (decide (a0 < (shl .i64 1 (IntKind.u64.wrap (wrap64 (a1 - 1))))))) else (some false)) else (none))) = some r := by rw [if_pos rfl] at H; exact H
     clear H
     have H := H1
     clear H1
     by_cases c8 : a1 = 64
     ·
      rw [if_pos c8] at H
      have c8b0 : (a1 == 64) = true := beq_iff_eq.mpr c8
      have c8b1 : (a1 != 64) = false := bne_eq_false_iff_eq.mpr c8
      clear c8
      obtain rfl := Option.some.inj H
      go_wp2
      go_ret
      exact ⟨by first | rfl | (simp; done) | (simp [*]; done), by repeat (first | exact Drawn0.refl _ | apply Drawn0.step)⟩
     ·
      rw [if_neg c8] at H
      have c8b0 : (a1 == 64) = false := beq_eq_false_iff_ne.mpr c8
      have c8b1 : (a1 != 64) = true := bne_iff_ne.mpr c8
      obtain ⟨ji9, hji9⟩ : ∃ j_ : Int, (IntKind.u64.wrap (wrap64 (a1 - 1))) = j_ := ⟨_, rfl⟩
      replace H : (if 0 ≤ (ji9) then (if a0 ≥ (wrap64 (-(shl .i64 1 (ji9)))) then (some (decide (a0 < (shl .i64 1 (ji9))))) else (some false)) else (none)) = some r := by first | (rw [hji9] at H; exact H) | (simp only [hji9] at H ⊢; exact H)
      by_cases c10 : 0 ≤ (ji9)
      ·
       rw [if_pos c10] at H
       have c10b0 := eq_true c10
       have c10b1 : decide (0 ≤ (ji9)) = true := decide_eq_true c10
       clear c10
       obtain ⟨ji11, hji11⟩ : ∃ j_ : Int, (shl .i64 1 (ji9)) = j_ := ⟨_, rfl⟩
       replace H : (if a0 ≥ (wrap64 (-(ji11))) then (some (decide (a0 < (ji11)))) else (some false)) = some r := by first | (rw [hji11] at H; exact H) | (simp only [hji11] at H ⊢; exact H)
       have hji11_ : (IntKind.i64.wrap (1 * 2 ^ min (ji9).toNat 64)) = ji11 := hji11
       have hji11z : (ji9) ≤ 64 → (IntKind.i64.wrap (1 * 2 ^ (ji9).toNat)) = ji11 := shl_small hji11
       have hji11u : (IntKind.i64.wrap (2 ^ min (ji9).toNat 64)) = ji11 := by have h_ := hji11_; rw [Int.one_mul] at h_; exact h_
       have hji11v : (ji9) ≤ 64 → (IntKind.i64.wrap (2 ^ (ji9).toNat)) = ji11 := fun hle_ => by have h_ := hji11z hle_; rw [Int.one_mul] at h_; exact h_
       have hji11y : (wrap64 (1 * 2 ^ min (ji9).toNat 64)) = ji11 := (i64_w _).symm.trans hji11_
       have hji11x : (ji9) ≤ 64 → (wrap64 (1 * 2 ^ (ji9).toNat)) = ji11 := fun h_ => (i64_w _).symm.trans (hji11z h_)
       by_cases c12 : a0 ≥ (wrap64 (-(ji11)))
       ·
        rw [if_pos c12] at H
        have c12b0 : decide ((wrap64 (-(ji11))) ≤ a0) = true := decide_eq_true c12
        clear c12
        have c13b0 := eq_true (of_decide_eq_true (by first | (with_reducible assumption) | assumption) : 0 ≤ (ji9))
        obtain rfl := Option.some.inj H
        go_wp2
        go_ret
        exact ⟨by first | rfl | (simp; done) | (simp only [← hji9, ← hji11] <;> (first | rfl | simp)) | (simp [*]; done), by repeat (first | exact Drawn0.refl _ | apply Drawn0.step)⟩
       ·
        rw [if_neg c12] at H
        have c12b0 : decide ((wrap64 (-(ji11))) ≤ a0) = false := decide_eq_false c12
        clear c12
        obtain rfl := Option.some.inj H
        go_wp2
        go_ret
        exact ⟨by first | rfl | (simp; done) | (simp only [← hji9, ← hji11] <;> (first | rfl | simp)) | (simp [*]; done), by repeat (first | exact Drawn0.refl _ | apply Drawn0.step)⟩
      ·
       rw [if_neg c10] at H
       exact absurd H (by simp)
    ·
     replace c7 := Bool.eq_false_iff.mpr c7
     subst c7
     have H1 : (if a0 ≥ 0 then (if a1 ≥ 63 then (some true) else (if 0 ≤ (IntKind.u64.wrap (a1)) then (some (decide (a0 < (shl .i64 1 (IntKind.u64.wrap (a1)))))) else (none))) else (some false)) = some r := by rw [if_neg (show ¬ (false = true) by decide)] at H; exact H
     clear H
     have H := H1
     clear H1
     by_cases c14 : a0 ≥ 0
     ·
      rw [if_pos c14] at H
      have c14b0 : decide (0 ≤ a0) = true := decide_eq_true c14
      clear c14
      by_cases c15 : a1 ≥ 63
      ·
       rw [if_pos c15] at H
       have c15b0 : decide (63 ≤ a1) = true := decide_eq_true c15
       clear c15
       obtain rfl := Option.some.inj H
       go_wp2
       go_ret
       exact ⟨by first | rfl | (simp; done) | (simp [*]; done), by repeat (first | exact Drawn0.refl _ | apply Drawn0.step)⟩
      ·
       rw [if_neg c15] at H
       have c15b0 : decide (63 ≤ a1) = false := decide_eq_false c15
       clear c15
       obtain ⟨ji16, hji16⟩ : ∃ j_ : Int, (IntKind.u64.wrap (a1)) = j_ := ⟨_, rfl⟩
       replace H : (if 0 ≤ (ji16) then (some (decide (a0 < (shl .i64 1 (ji16))))) else (none)) = some r := by first | (rw [hji16] at H; exact H) | (simp only [hji16] at H ⊢; exact H)
       by_cases c17 : 0 ≤ (ji16)
       ·
        rw [if_pos c17] at H
        have c17b0 := eq_true c17
        have c17b1 : decide (0 ≤ (ji16)) = true := decide_eq_true c17
        clear c17
        obtain ⟨ji18, hji18⟩ : ∃ j_ : Int, (shl .i64 1 (ji16)) = j_ := ⟨_, rfl⟩
        replace H : (some (decide (a0 < (ji18)))) = some r := by first | (rw [hji18] at H; exact H) | (simp only [hji18] at H ⊢; exact H)
        have hji18_ : (IntKind.i64.wrap (1 * 2 ^ min (ji16).toNat 64)) = ji18 := hji18
        have hji18z : (ji16) ≤ 64 → (IntKind.i64.wrap (1 * 2 ^ (ji16).toNat)) = ji18 := shl_small hji18
        have hji18u : (IntKind.i64.wrap (2 ^ min (ji16).toNat 64)) = ji18 := by have h_ := hji18_; rw [Int.one_mul] at h_; exact h_
        have hji18v : (ji16) ≤ 64 → (IntKind.i64.wrap (2 ^ (ji16).toNat)) = ji18 := fun hle_ => by have h_ := hji18z hle_; rw [Int.one_mul] at h_; exact h_
        have hji18y : (wrap64 (1 * 2 ^ min (ji16).toNat 64)) = ji18 := (i64_w _).symm.trans hji18_
        have hji18x : (ji16) ≤ 64 → (wrap64 (1 * 2 ^ (ji16).toNat)) = ji18 := fun h_ => (i64_w _).symm.trans (hji18z h_)
        obtain rfl := Option.some.inj H
        go_wp2
        go_ret
        exact ⟨by first | rfl | (simp; done) | (simp only [← hji16, ← hji18] <;> (first | rfl | simp)) | (simp [*]; done), by repeat (first | exact Drawn0.refl _ | apply Drawn0.step)⟩
       ·
        rw [if_neg c17] at H
        exact absurd H (by simp)
     ·
      rw [if_neg c14] at H
      have c14b0 : decide (0 ≤ a0) = false := decide_eq_false c14
      clear c14
      obtain rfl := Option.some.inj H
      go_wp2
      go_ret
      exact ⟨by first | rfl | (simp; done) | (simp [*]; done), by repeat (first | exact Drawn0.refl _ | apply Drawn0.step)⟩
end Go.Proofs.Ytfgfnflhdabmcaa.G
end
section
namespace Go.Proofs.Ytfgfnflhdabmcaa.G
open Go.RowKit Go.Proofs.YtfgfnflhdabmcaaW.PrintWords Go.Proofs.YtfgfnflhdabmcaaW.PrintLast Go.Proofs.YtfgfnflhdabmcaaW.PrintMore
attribute [local go_sem] max2_int min2_int max_two min_two max_three min_three max_four min_four   -- for this text's walks alone
set_option linter.unusedVariables false
set_option linter.unusedSimpArgs false
mutual
def gangwayref14_Put.j0 : Nat → Int → Int → Int → Int → Bool → Option (List Int × Int)
 | 0, _, _, _, _, _ => none
 | k + 1, x0, x1, x2, x3, x27 => if x27 = true then (some (([] : List Int), 11)) else ((gangwayref14_off.f x0 x2 x3).bind fun t105 => ((gangwayref14_bytes.f k (Int.tmod x0 16)).bind fun t106 => ((gangwayref14_plain.f (Int.tmod x0 16)).bind fun t107 => (if t107 = true then (if (wrap64 (x1 - t105)) < 0 then (gangwayref14_Put.j1 k (wrap64 (x1 - t105)) (Int.tmod x0 16) t106 true) else ((gangwayref14_far.f (wrap64 (x1 - t105))).bind fun t108 => (gangwayref14_Put.j1 k (wrap64 (x1 - t105)) (Int.tmod x0 16) t106 t108))) else ((gangwayref14_far.f (wrap64 (x1 - t105))).bind fun t109 => (gangwayref14_Put.j1 k (wrap64 (x1 - t105)) (Int.tmod x0 16) t106 t109))))))
def gangwayref14_Put.j1 : Nat → Int → Int → Int → Bool → Option (List Int × Int)
 | 0, _, _, _, _ => none
 | k + 1, x10, x11, x12, x47 => if x47 = true then (some (([] : List Int), 11)) else (if x11 = 1 then ((gangwayref01_Uleb.f k x10).bind fun t110 => (some (t110, 0))) else (if x11 = 9 then ((gangwayref01_Sleb.f k x10).bind fun t113 => (some (t113, 0))) else (if x12 < 8 then ((gangwayref14_plain.f x11).bind fun t116 => ((gangwayref01_Fits.f k x10 (wrap64 (8 * x12)) (!t116)).bind fun t117 => (if t117 = true then ((gangwayref01_Put.f k x10 x12).bind fun bt118 => (some (bt118.1, 0))) else (some (([] : List Int), 11))))) else ((gangwayref01_Put.f k x10 x12).bind fun bt122 => (some (bt122.1, 0))))))
end
def gangwayref14_Put.f (k : Nat) (a0 : Int) (a1 : Int) (a2 : Int) (a3 : Int) : Option (List Int × Int) := (gangwayref14_Encoding.f k a0).bind fun t101 => (if t101 = true then ((gangwayref14_far.f a1).bind fun t102 => (if t102 = true then (gangwayref14_Put.j0 k a0 a1 a2 a3 true) else ((gangwayref14_far.f a2).bind fun t103 => (if t103 = true then (gangwayref14_Put.j0 k a0 a1 a2 a3 true) else ((gangwayref14_far.f a3).bind fun t104 => (gangwayref14_Put.j0 k a0 a1 a2 a3 t104)))))) else (some (([] : List Int), 140)))
set_option maxHeartbeats 8000000 in
set_option maxRecDepth 100000 in
theorem gangwayref14_Put.calls (k : Nat) (a0 : Int) (a1 : Int) (a2 : Int) (a3 : Int) (r1 : List Int) (r2 : Int) (w : World) (h : gangwayref14_Put.f k a0 a1 a2 a3 = some (r1, r2)) :
  Calls Try.prog 17 #[.int .i64 a0, .int .i64 a1, .int .i64 a2, .int .i64 a3] w fun e w' => ∃ v0_ : Value, e = .returned (.tuple #[v0_, .int .i64 r2]) ∧ Kd.R (Kd.int .u8) 5 w' w.heap.size (fun _ => True) v0_ r1 ∧ Below w.heap.size w w' := by
 have HB := am (Below.refl w.heap.size w)
 have H : ((gangwayref14_Encoding.f k a0).bind fun t101 => (if t101 = true then ((gangwayref14_far.f a1).bind fun t102 => (if t102 = true then (gangwayref14_Put.j0 k a0 a1 a2 a3 true) else ((gangwayref14_far.f a2).bind fun t103 => (if t103 = true then (gangwayref14_Put.j0 k a0 a1 a2 a3 true) else ((gangwayref14_far.f a3).bind fun t104 => (gangwayref14_Put.j0 k a0 a1 a2 a3 t104)))))) else (some (([] : List Int), 140)))) = some (r1, r2) := h
 clear h
 replace H := Option.bind_eq_some_iff.mp H
 obtain ⟨t101, A50, H⟩ := H
 replace H : (if t101 = true then ((gangwayref14_far.f a1).bind fun t102 => (if t102 = true then (gangwayref14_Put.j0 k a0 a1 a2 a3 true) else ((gangwayref14_far.f a2).bind fun t103 => (if t103 = true then (gangwayref14_Put.j0 k a0 a1 a2 a3 true) else ((gangwayref14_far.f a3).bind fun t104 => (gangwayref14_Put.j0 k a0 a1 a2 a3 t104)))))) else (some (([] : List Int), 140))) = some (r1, r2) := H
 have A5 := am A50
 clear A50
 by_cases c6 : t101 = true
 ·
  subst c6
  have H1 : ((gangwayref14_far.f a1).bind fun t102 => (if t102 = true then (gangwayref14_Put.j0 k a0 a1 a2 a3 true) else ((gangwayref14_far.f a2).bind fun t103 => (if t103 = true then (gangwayref14_Put.j0 k a0 a1 a2 a3 true) else ((gangwayref14_far.f a3).bind fun t104 => (gangwayref14_Put.j0 k a0 a1 a2 a3 t104)))))) = some (r1, r2) := by rw [if_pos rfl] at H; exact H
  clear H
  have H := H1
  clear H1
  have HC7 := am H
  clear H
  go_enter Try.func17, Try.ntmps17
  go_upto_region 3 with (first | ((with_reducible refine gate_callee (f := 32) rfl ?_); refine goesL_ (some 16) rfl rfl Try.func32 (by kernel_rfl) rfl #[.int .i64 a0] rfl (by simp only [List.map_toArray, List.map_cons, List.map_nil]; try rfl) ?_; (with_reducible refine (gangwayref14_Encoding.calls k a0 true _ A5.out).mono ?_); rintro e w' ⟨rfl, ⟨nd, rfl⟩⟩; refine ⟨_, rfl, ?_⟩))
  (try simp only [Act.put, List.setIfInBounds_toArray, List.set_cons_zero, List.set_cons_succ])
  go_cut [27] (fun v27 wc => ∃ (kq : Nat) (x27_6 : Bool), v27 = .bool x27_6 ∧ Aside0 (gangwayref14_Put.j0 kq a0 a1 a2 a3 x27_6 = some (r1, r2)) ∧ Aside0 (kq ≤ k) ∧ Aside0 (Below w.heap.size w wc))
  case first =>
   have H := HC7.out
   clear HC7
   replace H := Option.bind_eq_some_iff.mp H
   obtain ⟨t102, A80, H⟩ := H
   replace H : (if t102 = true then (gangwayref14_Put.j0 k a0 a1 a2 a3 true) else ((gangwayref14_far.f a2).bind fun t103 => (if t103 = true then (gangwayref14_Put.j0 k a0 a1 a2 a3 true) else ((gangwayref14_far.f a3).bind fun t104 => (gangwayref14_Put.j0 k a0 a1 a2 a3 t104))))) = some (r1, r2) := H
   have A8 := am A80
   clear A80
   by_cases c9 : t102 = true
   ·
    subst c9
    have H1 : (gangwayref14_Put.j0 k a0 a1 a2 a3 true) = some (r1, r2) := by rw [if_pos rfl] at H; exact H
    clear H
    have H := H1
    clear H1
    have H' := am H
    clear H
    go_wp2_with (first | ((with_reducible refine gate_callee (f := 33) rfl ?_); refine goesL_ (some 19) rfl rfl Try.func33 (by kernel_rfl) rfl #[.int .i64 a1] rfl (by simp only [List.map_toArray, List.map_cons, List.map_nil]; try rfl) ?_; (with_reducible refine (gangwayref14_far.calls a1 true _ A8.out).mono ?_); rintro e w' ⟨rfl, ⟨nd, rfl⟩⟩; refine ⟨_, rfl, ?_⟩))
    go_meet
    case rel => exact ⟨_, (true), (by first | rfl | (simp; done) | (simp [*]; done)), H', ⟨by first | omega | exact Nat.le_refl _⟩, ⟨by exact bl_g HB.out⟩⟩
   ·
    replace c9 := Bool.eq_false_iff.mpr c9
    subst c9
    have H1 : ((gangwayref14_far.f a2).bind fun t103 => (if t103 = true then (gangwayref14_Put.j0 k a0 a1 a2 a3 true) else ((gangwayref14_far.f a3).bind fun t104 => (gangwayref14_Put.j0 k a0 a1 a2 a3 t104)))) = some (r1, r2) := by rw [if_neg (show ¬ (false = true) by decide)] at H; exact H
    clear H
    have H := H1
    clear H1
    replace H := Option.bind_eq_some_iff.mp H
    obtain ⟨t103, A100, H⟩ := H
    replace H : (if t103 = true then (gangwayref14_Put.j0 k a0 a1 a2 a3 true) else ((gangwayref14_far.f a3).bind fun t104 => (gangwayref14_Put.j0 k a0 a1 a2 a3 t104))) = some (r1, r2) := H
    have A10 := am A100
    clear A100
    by_cases c11 : t103 = true
    ·
     subst c11
     have H1 : (gangwayref14_Put.j0 k a0 a1 a2 a3 true) = some (r1, r2) := by rw [if_pos rfl] at H; exact H
     clear H
     have H := H1
     clear H1
     have H' := am H
     clear H
     go_wp2_with (first | ((with_reducible refine gate_callee (f := 33) rfl ?_); refine goesL_ (some 19) rfl rfl Try.func33 (by kernel_rfl) rfl #[.int .i64 a1] rfl (by simp only [List.map_toArray, List.map_cons, List.map_nil]; try rfl) ?_; (with_reducible refine (gangwayref14_far.calls a1 false _ A8.out).mono ?_); rintro e w' ⟨rfl, ⟨nd, rfl⟩⟩; refine ⟨_, rfl, ?_⟩) | (go_at_call 33; (with_reducible refine (gangwayref14_far.calls a2 true _ A10.out).mono ?_); rintro e w' ⟨rfl, ⟨nd, rfl⟩⟩))
     go_meet
     case rel => exact ⟨_, (true), (by first | rfl | (simp; done) | (simp [*]; done)), H', ⟨by first | omega | exact Nat.le_refl _⟩, ⟨by exact bl_g HB.out⟩⟩
    ·
     replace c11 := Bool.eq_false_iff.mpr c11
     subst c11
     have H1 : ((gangwayref14_far.f a3).bind fun t104 => (gangwayref14_Put.j0 k a0 a1 a2 a3 t104)) = some (r1, r2) := by rw [if_neg (show ¬ (false = true) by decide)] at H; exact H
     clear H
     have H := H1
     clear H1
     replace H := Option.bind_eq_some_iff.mp H
     obtain ⟨t104, A120, H⟩ := H
     replace H : (gangwayref14_Put.j0 k a0 a1 a2 a3 t104) = some (r1, r2) := H
     have A12 := am A120
     clear A120
     have H' := am H
     clear H
     go_wp2_with (first | ((with_reducible refine gate_callee (f := 33) rfl ?_); refine goesL_ (some 19) rfl rfl Try.func33 (by kernel_rfl) rfl #[.int .i64 a1] rfl (by simp only [List.map_toArray, List.map_cons, List.map_nil]; try rfl) ?_; (with_reducible refine (gangwayref14_far.calls a1 false _ A8.out).mono ?_); rintro e w' ⟨rfl, ⟨nd, rfl⟩⟩; refine ⟨_, rfl, ?_⟩) | (go_at_call 33; (with_reducible refine (gangwayref14_far.calls a2 false _ A10.out).mono ?_); rintro e w' ⟨rfl, ⟨nd, rfl⟩⟩) | (go_at_call 33; (with_reducible refine (gangwayref14_far.calls a3 t104 _ A12.out).mono ?_); rintro e w' ⟨rfl, ⟨nd, rfl⟩⟩))
     go_meet
     case rel => exact ⟨_, (t104), (by first | rfl | (simp; done) | (simp [*]; done)), H', ⟨by first | omega | exact Nat.le_refl _⟩, ⟨by exact bl_g HB.out⟩⟩
  case rest =>
   clear HC7
   try clear c1
   try clear p2
   try clear c3
   try clear c6
   try clear c9
   try clear c11
   obtain ⟨kq, x27_6, rfl, HA, HJ6, HB⟩ := hcut
   cases kq with
   | zero => exact absurd HA.out (by simp [gangwayref14_Put.j0])
   | succ kj6 =>
    have H := HA.out
    clear HA
    simp only [gangwayref14_Put.j0] at H
    by_cases c13 : x27_6 = true
    ·
     subst c13
     have H1 : (some (([] : List Int), 11)) = some (r1, r2) := by rw [if_pos rfl] at H; exact H
     clear H
     have H := H1
     clear H1
     simp only [Option.some.injEq, Prod.mk.injEq] at H
     obtain ⟨rfl, rfl⟩ := H
     go_wp2
     go_ret2
     exact ⟨_, rfl, by first | exact Kd.R_nil _ _ _ _ _ | exact Kd.N_nil _ _ _ _ _ | exact Kd.V_nil _ _ _ _ _ | exact Kd.Q_nil _ _ _ _ _ | exact Kd.S_nil _ _ _ _ _, by exact bl_g HB.out⟩
    ·
     replace c13 := Bool.eq_false_iff.mpr c13
     subst c13
     have H1 : ((gangwayref14_off.f a0 a2 a3).bind fun t105 => ((gangwayref14_bytes.f kj6 (Int.tmod a0 16)).bind fun t106 => ((gangwayref14_plain.f (Int.tmod a0 16)).bind fun t107 => (if t107 = true then (if (wrap64 (a1 - t105)) < 0 then (gangwayref14_Put.j1 kj6 (wrap64 (a1 - t105)) (Int.tmod a0 16) t106 true) else ((gangwayref14_far.f (wrap64 (a1 - t105))).bind fun t108 => (gangwayref14_Put.j1 kj6 (wrap64 (a1 - t105)) (Int.tmod a0 16) t106 t108))) else ((gangwayref14_far.f (wrap64 (a1 - t105))).bind fun t109 => (gangwayref14_Put.j1 kj6 (wrap64 (a1 - t105)) (Int.tmod a0 16) t106 t109)))))) = some (r1, r2) := by rw [if_neg (show ¬ (false = true) by decide)] at H; exact H
     clear H
     have H := H1
     clear H1
     replace H := Option.bind_eq_some_iff.mp H
     obtain ⟨t105, A140, H⟩ := H
     replace H : ((gangwayref14_bytes.f kj6 (Int.tmod a0 16)).bind fun t106 => ((gangwayref14_plain.f (Int.tmod a0 16)).bind fun t107 => (if t107 = true then (if (wrap64 (a1 - t105)) < 0 then (gangwayref14_Put.j1 kj6 (wrap64 (a1 - t105)) (Int.tmod a0 16) t106 true) else ((gangwayref14_far.f (wrap64 (a1 - t105))).bind fun t108 => (gangwayref14_Put.j1 kj6 (wrap64 (a1 - t105)) (Int.tmod a0 16) t106 t108))) else ((gangwayref14_far.f (wrap64 (a1 - t105))).bind fun t109 => (gangwayref14_Put.j1 kj6 (wrap64 (a1 - t105)) (Int.tmod a0 16) t106 t109))))) = some (r1, r2) := H
     have A14 := am A140
     clear A140
     replace H := Option.bind_eq_some_iff.mp H
     obtain ⟨t106, A150, H⟩ := H
     replace H : ((gangwayref14_plain.f (Int.tmod a0 16)).bind fun t107 => (if t107 = true then (if (wrap64 (a1 - t105)) < 0 then (gangwayref14_Put.j1 kj6 (wrap64 (a1 - t105)) (Int.tmod a0 16) t106 true) else ((gangwayref14_far.f (wrap64 (a1 - t105))).bind fun t108 => (gangwayref14_Put.j1 kj6 (wrap64 (a1 - t105)) (Int.tmod a0 16) t106 t108))) else ((gangwayref14_far.f (wrap64 (a1 - t105))).bind fun t109 => (gangwayref14_Put.j1 kj6 (wrap64 (a1 - t105)) (Int.tmod a0 16) t106 t109)))) = some (r1, r2) := H
     have A15 := am A150
     clear A150
     have HC16 := am H
     clear H
     go_upto_region 8 with (first | ((with_reducible refine gate_callee (f := 41) rfl ?_); refine goesL_ (some 32) rfl rfl Try.func41 (by kernel_rfl) rfl #[.int .i64 a0, .int .i64 a2, .int .i64 a3] rfl (by simp only [List.map_toArray, List.map_cons, List.map_nil]; try rfl) ?_; (with_reducible refine (gangwayref14_off.calls a0 a2 a3 t105 _ A14.out).mono ?_); rintro e w' ⟨rfl, ⟨nd, rfl⟩⟩; refine ⟨_, rfl, ?_⟩) | ((with_reducible refine gate_callee (f := 42) rfl ?_); refine goesL_ (some 37) rfl rfl Try.func42 (by kernel_rfl) rfl #[.int .i64 (Int.tmod a0 16)] rfl (by simp only [List.map_toArray, List.map_cons, List.map_nil]; try rfl) ?_; (with_reducible refine (gangwayref14_bytes.calls kj6 (Int.tmod a0 16) t106 _ A15.out).mono ?_); rintro e w' ⟨rfl, ⟨nd, rfl⟩⟩; refine ⟨_, rfl, ?_⟩))
     (try simp only [Act.put, List.setIfInBounds_toArray, List.set_cons_zero, List.set_cons_succ])
     go_cut [47] (fun v47 wc => ∃ (kq : Nat) (x47_15 : Bool), v47 = .bool x47_15 ∧ Aside0 (gangwayref14_Put.j1 kq (wrap64 (a1 - t105)) (Int.tmod a0 16) t106 x47_15 = some (r1, r2)) ∧ Aside0 (kq ≤ kj6) ∧ Aside0 (Below w.heap.size w wc))
     case first =>
      have H := HC16.out
      clear HC16
      replace H := Option.bind_eq_some_iff.mp H
      obtain ⟨t107, A170, H⟩ := H
      replace H : (if t107 = true then (if (wrap64 (a1 - t105)) < 0 then (gangwayref14_Put.j1 kj6 (wrap64 (a1 - t105)) (Int.tmod a0 16) t106 true) else ((gangwayref14_far.f (wrap64 (a1 - t105))).bind fun t108 => (gangwayref14_Put.j1 kj6 (wrap64 (a1 - t105)) (Int.tmod a0 16) t106 t108))) else ((gangwayref14_far.f (wrap64 (a1 - t105))).bind fun t109 => (gangwayref14_Put.j1 kj6 (wrap64 (a1 - t105)) (Int.tmod a0 16) t106 t109))) = some (r1, r2) := H
      have A17 := am A170
      clear A170
      by_cases c18 : t107 = true
      ·
       subst c18
       have H1 : (if (wrap64 (a1 - t105)) < 0 then (gangwayref14_Put.j1 kj6 (wrap64 (a1 - t105)) (Int.tmod a0 16) t106 true) else ((gangwayref14_far.f (wrap64 (a1 - t105))).bind fun t108 => (gangwayref14_Put.j1 kj6 (wrap64 (a1 - t105)) (Int.tmod a0 16) t106 t108))) = some (r1, r2) := by rw [if_pos rfl] at H; exact H
       clear H
       have H := H1
       clear H1
       by_cases c19 : (wrap64 (a1 - t105)) < 0
       ·
        rw [if_pos c19] at H
        have c19b0 : decide ((wrap64 (a1 - t105)) < 0) = true := decide_eq_true c19
        clear c19
        (first | rw [c19b0] | (simp only [i64_w, i32_w]; rw [c19b0]) | skip)
        have H' := am H
        clear H
        go_wp2_with (first | ((with_reducible refine gate_callee (f := 43) rfl ?_); refine goesL_ (some 39) rfl rfl Try.func43 (by kernel_rfl) rfl #[.int .i64 (Int.tmod a0 16)] rfl (by simp only [List.map_toArray, List.map_cons, List.map_nil]; try rfl) ?_; (with_reducible refine (gangwayref14_plain.calls (Int.tmod a0 16) true _ A17.out).mono ?_); rintro e w' ⟨rfl, ⟨nd, rfl⟩⟩; refine ⟨_, rfl, ?_⟩))
        go_meet
        case rel => exact ⟨_, (true), (by first | rfl | (simp; done) | (simp [*]; done)), H', ⟨by have := HJ6.out; first | omega | exact Nat.le_refl _⟩, ⟨by exact bl_g HB.out⟩⟩
       ·
        rw [if_neg c19] at H
        have c19b0 : decide ((wrap64 (a1 - t105)) < 0) = false := decide_eq_false c19
        clear c19
        (first | rw [c19b0] | (simp only [i64_w, i32_w]; rw [c19b0]) | skip)
        replace H := Option.bind_eq_some_iff.mp H
        obtain ⟨t108, A200, H⟩ := H
        replace H : (gangwayref14_Put.j1 kj6 (wrap64 (a1 - t105)) (Int.tmod a0 16) t106 t108) = some (r1, r2) := H
        have A20 := am A200
        clear A200
        have H' := am H
        clear H
        go_wp2_with (first | ((with_reducible refine gate_callee (f := 43) rfl ?_); refine goesL_ (some 39) rfl rfl Try.func43 (by kernel_rfl) rfl #[.int .i64 (Int.tmod a0 16)] rfl (by simp only [List.map_toArray, List.map_cons, List.map_nil]; try rfl) ?_; (with_reducible refine (gangwayref14_plain.calls (Int.tmod a0 16) true _ A17.out).mono ?_); rintro e w' ⟨rfl, ⟨nd, rfl⟩⟩; refine ⟨_, rfl, ?_⟩) | (go_at_call 33; (with_reducible refine (gangwayref14_far.calls (wrap64 (a1 - t105)) t108 _ A20.out).mono ?_); rintro e w' ⟨rfl, ⟨nd, rfl⟩⟩))
        go_meet
        case rel => exact ⟨_, (t108), (by first | rfl | (simp; done) | (simp [*]; done)), H', ⟨by have := HJ6.out; first | omega | exact Nat.le_refl _⟩, ⟨by exact bl_g HB.out⟩⟩
      ·
       replace c18 := Bool.eq_false_iff.mpr c18
       subst c18
       have H1 : ((gangwayref14_far.f (wrap64 (a1 - t105))).bind fun t109 => (gangwayref14_Put.j1 kj6 (wrap64 (a1 - t105)) (Int.tmod a0 16) t106 t109)) = some (r1, r2) := by rw [if_neg (show ¬ (false = true) by decide)] at H; exact H
       clear H
       have H := H1
       clear H1
       replace H := Option.bind_eq_some_iff.mp H
       obtain ⟨t109, A210, H⟩ := H
       replace H : (gangwayref14_Put.j1 kj6 (wrap64 (a1 - t105)) (Int.tmod a0 16) t106 t109) = some (r1, r2) := H
       have A21 := am A210
       clear A210
       have H' := am H
       clear H
       go_wp2_with (first | ((with_reducible refine gate_callee (f := 43) rfl ?_); refine goesL_ (some 39) rfl rfl Try.func43 (by kernel_rfl) rfl #[.int .i64 (Int.tmod a0 16)] rfl (by simp only [List.map_toArray, List.map_cons, List.map_nil]; try rfl) ?_; (with_reducible refine (gangwayref14_plain.calls (Int.tmod a0 16) false _ A17.out).mono ?_); rintro e w' ⟨rfl, ⟨nd, rfl⟩⟩; refine ⟨_, rfl, ?_⟩) | (go_at_call 33; (with_reducible refine (gangwayref14_far.calls (wrap64 (a1 - t105)) t109 _ A21.out).mono ?_); rintro e w' ⟨rfl, ⟨nd, rfl⟩⟩))
       go_meet
       case rel => exact ⟨_, (t109), (by first | rfl | (simp; done) | (simp [*]; done)), H', ⟨by have := HJ6.out; first | omega | exact Nat.le_refl _⟩, ⟨by exact bl_g HB.out⟩⟩
     case rest =>
      clear HC16
      try clear c1
      try clear p2
      try clear c3
      try clear c4
      try clear c6
      try clear p6
      try clear c9
      try clear c11
      try clear c13
      try clear c17
      try clear c18
      try clear c19
      try clear c19b0
      try clear p2
      obtain ⟨kq, x47_15, rfl, HA, HJ15, HB⟩ := hcut
      cases kq with
      | zero => exact absurd HA.out (by simp [gangwayref14_Put.j1])
      | succ kj15 =>
       have H := HA.out
       clear HA
       simp only [gangwayref14_Put.j1] at H
       by_cases c22 : x47_15 = true
       ·
        subst c22
        have H1 : (some (([] : List Int), 11)) = some (r1, r2) := by rw [if_pos rfl] at H; exact H
        clear H
        have H := H1
        clear H1
        simp only [Option.some.injEq, Prod.mk.injEq] at H
        obtain ⟨rfl, rfl⟩ := H
        go_wp2
        go_ret2
        exact ⟨_, rfl, by first | exact Kd.R_nil _ _ _ _ _ | exact Kd.N_nil _ _ _ _ _ | exact Kd.V_nil _ _ _ _ _ | exact Kd.Q_nil _ _ _ _ _ | exact Kd.S_nil _ _ _ _ _, by exact bl_g HB.out⟩
       ·
        replace c22 := Bool.eq_false_iff.mpr c22
        subst c22
        have H1 : (if (Int.tmod a0 16) = 1 then ((gangwayref01_Uleb.f kj15 (wrap64 (a1 - t105))).bind fun t110 => (some (t110, 0))) else (if (Int.tmod a0 16) = 9 then ((gangwayref01_Sleb.f kj15 (wrap64 (a1 - t105))).bind fun t113 => (some (t113, 0))) else (if t106 < 8 then ((gangwayref14_plain.f (Int.tmod a0 16)).bind fun t116 => ((gangwayref01_Fits.f kj15 (wrap64 (a1 - t105)) (wrap64 (8 * t106)) (!t116)).bind fun t117 => (if t117 = true then ((gangwayref01_Put.f kj15 (wrap64 (a1 - t105)) t106).bind fun bt118 => (some (bt118.1, 0))) else (some (([] : List Int), 11))))) else ((gangwayref01_Put.f kj15 (wrap64 (a1 - t105)) t106).bind fun bt122 => (some (bt122.1, 0)))))) = some (r1, r2) := by rw [if_neg (show ¬ (false = true) by decide)] at H; exact H
        clear H
        have H := H1
        clear H1
        by_cases c23 : (Int.tmod a0 16) = 1
        ·
         rw [if_pos c23] at H
         have c23b0 : ((Int.tmod a0 16) == 1) = true := beq_iff_eq.mpr c23
         have c23b1 : ((Int.tmod a0 16) != 1) = false := bne_eq_false_iff_eq.mpr c23
         clear c23
         replace H := Option.bind_eq_some_iff.mp H
         obtain ⟨t110, A240, H⟩ := H
         replace H : (some (t110, 0)) = some (r1, r2) := H
         have A24 := am A240
         clear A240
         simp only [Option.some.injEq, Prod.mk.injEq] at H
         obtain ⟨rfl, rfl⟩ := H
         go_wp2_with (first | ((with_reducible refine gate_callee (f := 44) rfl ?_); refine goesL_ (some 51) rfl rfl Try.func44 (by kernel_rfl) rfl #[.int .i64 (wrap64 (a1 - t105))] rfl (by simp only [List.map_toArray, List.map_cons, List.map_nil]; try rfl) ?_; (with_reducible refine (gangwayref01_Uleb.calls kj15 (wrap64 (a1 - t105)) t110 _ A24.out).mono ?_); rintro e w25 ⟨v111, rfl, ho0, hb⟩; refine ⟨_, rfl, ?_⟩; have n0_ := am (Kd.R_lower ho0 (below_size (by exact bl_o HB.out))); have n1_ := am (below_step (by exact bl_o HB.out) hb); clear HB; have HO112 := n0_; have HB := n1_; clear n0_ n1_; (try clear hb); (try clear hb2); (try clear hk); (try clear hi); (try clear ho0)))
         go_ret2
         exact ⟨_, rfl, by (with_reducible repeat (first | apply Kd.R_alloc | apply Kd.R_drewN | apply Kd.R_drew)); exact HO112.out, by exact bl_g HB.out⟩
        ·
         rw [if_neg c23] at H
         have c23b0 : ((Int.tmod a0 16) == 1) = false := beq_eq_false_iff_ne.mpr c23
         have c23b1 : ((Int.tmod a0 16) != 1) = true := bne_iff_ne.mpr c23
         by_cases c26 : (Int.tmod a0 16) = 9
         ·
          rw [if_pos c26] at H
          have c26b0 : ((Int.tmod a0 16) == 9) = true := beq_iff_eq.mpr c26
          have c26b1 : ((Int.tmod a0 16) != 9) = false := bne_eq_false_iff_eq.mpr c26
          clear c26
          replace H := Option.bind_eq_some_iff.mp H
          obtain ⟨t113, A270, H⟩ := H
          replace H : (some (t113, 0)) = some (r1, r2) := H
          have A27 := am A270
          clear A270
          simp only [Option.some.injEq, Prod.mk.injEq] at H
          obtain ⟨rfl, rfl⟩ := H
          go_wp2_with (first | ((with_reducible refine gate_callee (f := 45) rfl ?_); refine goesL_ (some 55) rfl rfl Try.func45 (by kernel_rfl) rfl #[.int .i64 (wrap64 (a1 - t105))] rfl (by simp only [List.map_toArray, List.map_cons, List.map_nil]; try rfl) ?_; (with_reducible refine (gangwayref01_Sleb.calls kj15 (wrap64 (a1 - t105)) t113 _ A27.out).mono ?_); rintro e w28 ⟨v114, rfl, ho0, hb⟩; refine ⟨_, rfl, ?_⟩; have n0_ := am (Kd.R_lower ho0 (below_size (by exact bl_o HB.out))); have n1_ := am (below_step (by exact bl_o HB.out) hb); clear HB; have HO115 := n0_; have HB := n1_; clear n0_ n1_; (try clear hb); (try clear hb2); (try clear hk); (try clear hi); (try clear ho0)))
          go_ret2
          exact ⟨_, rfl, by (with_reducible repeat (first | apply Kd.R_alloc | apply Kd.R_drewN | apply Kd.R_drew)); exact HO115.out, by exact bl_g HB.out⟩
         ·
          rw [if_neg c26] at H
          have c26b0 : ((Int.tmod a0 16) == 9) = false := beq_eq_false_iff_ne.mpr c26
          have c26b1 : ((Int.tmod a0 16) != 9) = true := bne_iff_ne.mpr c26
          by_cases c29 : t106 < 8
          ·
           rw [if_pos c29] at H
           have c29b0 : decide (t106 < 8) = true := decide_eq_true c29
           clear c29
           replace H := Option.bind_eq_some_iff.mp H
           obtain ⟨t116, A300, H⟩ := H
           replace H : ((gangwayref01_Fits.f kj15 (wrap64 (a1 - t105)) (wrap64 (8 * t106)) (!t116)).bind fun t117 => (if t117 = true then ((gangwayref01_Put.f kj15 (wrap64 (a1 - t105)) t106).bind fun bt118 => (some (bt118.1, 0))) else (some (([] : List Int), 11)))) = some (r1, r2) := H
           have A30 := am A300
           clear A300
           replace H := Option.bind_eq_some_iff.mp H
           obtain ⟨t117, A310, H⟩ := H
           replace H : (if t117 = true then ((gangwayref01_Put.f kj15 (wrap64 (a1 - t105)) t106).bind fun bt118 => (some (bt118.1, 0))) else (some (([] : List Int), 11))) = some (r1, r2) := H
           have A31 := am A310
           clear A310
           by_cases c32 : t117 = true
           ·
            subst c32
            have H1 : ((gangwayref01_Put.f kj15 (wrap64 (a1 - t105)) t106).bind fun bt118 => (some (bt118.1, 0))) = some (r1, r2) := by rw [if_pos rfl] at H; exact H
            clear H
            have H := H1
            clear H1
            replace H := Option.bind_eq_some_iff.mp H
            obtain ⟨⟨t118, t119⟩, A330, H⟩ := H
            replace H : (some (t118, 0)) = some (r1, r2) := H
            have A33 := am A330
            clear A330
            simp only [Option.some.injEq, Prod.mk.injEq] at H
            obtain ⟨rfl, rfl⟩ := H
            go_wp2_with (first | (go_at_call 43; (with_reducible refine (gangwayref14_plain.calls (Int.tmod a0 16) t116 _ A30.out).mono ?_); rintro e w' ⟨rfl, ⟨nd, rfl⟩⟩) | (go_at_call 46; (with_reducible refine (gangwayref01_Fits.calls kj15 (wrap64 (a1 - t105)) (wrap64 (8 * t106)) (!t116) true _ A31.out).mono ?_); rintro e w' ⟨rfl, ⟨nd, rfl⟩⟩) | ((with_reducible refine gate_callee (f := 47) rfl ?_); refine goesL_ (some 71) rfl rfl Try.func47 (by kernel_rfl) rfl #[.int .i64 (wrap64 (a1 - t105)), .int .i64 t106] rfl (by simp only [List.map_toArray, List.map_cons, List.map_nil]; try rfl) ?_; (with_reducible refine (gangwayref01_Put.calls kj15 (wrap64 (a1 - t105)) t106 t118 t119 _ A33.out).mono ?_); rintro e w34 ⟨v120, rfl, ho0, hb⟩; refine ⟨_, rfl, ?_⟩; have n0_ := am (Kd.R_lower ho0 (below_size (by exact bl_o HB.out))); have n1_ := am (below_step (by exact bl_o HB.out) hb); clear HB; have HO121 := n0_; have HB := n1_; clear n0_ n1_; (try clear hb); (try clear hb2); (try clear hk); (try clear hi); (try clear ho0)))
            go_ret2
            exact ⟨_, rfl, by (with_reducible repeat (first | apply Kd.R_alloc | apply Kd.R_drewN | apply Kd.R_drew)); exact HO121.out, by exact bl_g HB.out⟩
           ·
            replace c32 := Bool.eq_false_iff.mpr c32
            subst c32
            have H1 : (some (([] : List Int), 11)) = some (r1, r2) := by rw [if_neg (show ¬ (false = true) by decide)] at H; exact H
            clear H
            have H := H1
            clear H1
            simp only [Option.some.injEq, Prod.mk.injEq] at H
            obtain ⟨rfl, rfl⟩ := H
            go_wp2_with (first | (go_at_call 43; (with_reducible refine (gangwayref14_plain.calls (Int.tmod a0 16) t116 _ A30.out).mono ?_); rintro e w' ⟨rfl, ⟨nd, rfl⟩⟩) | (go_at_call 46; (with_reducible refine (gangwayref01_Fits.calls kj15 (wrap64 (a1 - t105)) (wrap64 (8 * t106)) (!t116) false _ A31.out).mono ?_); rintro e w' ⟨rfl, ⟨nd, rfl⟩⟩))
            go_ret2
            exact ⟨_, rfl, by first | exact Kd.R_nil _ _ _ _ _ | exact Kd.N_nil _ _ _ _ _ | exact Kd.V_nil _ _ _ _ _ | exact Kd.Q_nil _ _ _ _ _ | exact Kd.S_nil _ _ _ _ _, by exact bl_g HB.out⟩
          ·
           rw [if_neg c29] at H
           have c29b0 : decide (t106 < 8) = false := decide_eq_false c29
           clear c29
           replace H := Option.bind_eq_some_iff.mp H
           obtain ⟨⟨t122, t123⟩, A350, H⟩ := H
           replace H : (some (t122, 0)) = some (r1, r2) := H
           have A35 := am A350
           clear A350
           simp only [Option.some.injEq, Prod.mk.injEq] at H
           obtain ⟨rfl, rfl⟩ := H
           go_wp2_with (first | ((with_reducible refine gate_callee (f := 47) rfl ?_); refine goesL_ (some 71) rfl rfl Try.func47 (by kernel_rfl) rfl #[.int .i64 (wrap64 (a1 - t105)), .int .i64 t106] rfl (by simp only [List.map_toArray, List.map_cons, List.map_nil]; try rfl) ?_; (with_reducible refine (gangwayref01_Put.calls kj15 (wrap64 (a1 - t105)) t106 t122 t123 _ A35.out).mono ?_); rintro e w36 ⟨v124, rfl, ho0, hb⟩; refine ⟨_, rfl, ?_⟩; have n0_ := am (Kd.R_lower ho0 (below_size (by exact bl_o HB.out))); have n1_ := am (below_step (by exact bl_o HB.out) hb); clear HB; have HO125 := n0_; have HB := n1_; clear n0_ n1_; (try clear hb); (try clear hb2); (try clear hk); (try clear hi); (try clear ho0)))
           go_ret2
           exact ⟨_, rfl, by (with_reducible repeat (first | apply Kd.R_alloc | apply Kd.R_drewN | apply Kd.R_drew)); exact HO125.out, by exact bl_g HB.out⟩
 ·
  replace c6 := Bool.eq_false_iff.mpr c6
  subst c6
  have H1 : (some (([] : List Int), 140)) = some (r1, r2) := by rw [if_neg (show ¬ (false = true) by decide)] at H; exact H
  clear H
  have H := H1
  clear H1
  simp only [Option.some.injEq, Prod.mk.injEq] at H
  obtain ⟨rfl, rfl⟩ := H
  go_enter Try.func17, Try.ntmps17
  go_wp2_with (first | ((with_reducible refine gate_callee (f := 32) rfl ?_); refine goesL_ (some 16) rfl rfl Try.func32 (by kernel_rfl) rfl #[.int .i64 a0] rfl (by simp only [List.map_toArray, List.map_cons, List.map_nil]; try rfl) ?_; (with_reducible refine (gangwayref14_Encoding.calls k a0 false _ A5.out).mono ?_); rintro e w' ⟨rfl, ⟨nd, rfl⟩⟩; refine ⟨_, rfl, ?_⟩))
  go_ret2
  exact ⟨_, rfl, by first | exact Kd.R_nil _ _ _ _ _ | exact Kd.N_nil _ _ _ _ _ | exact Kd.V_nil _ _ _ _ _ | exact Kd.Q_nil _ _ _ _ _ | exact Kd.S_nil _ _ _ _ _, by exact bl_g HB.out⟩
end Go.Proofs.Ytfgfnflhdabmcaa.G
end
section
namespace Go.Proofs.Ytfgfnflhdabmcaa.G
open Go.RowKit Go.Proofs.YtfgfnflhdabmcaaW.PrintWords Go.Proofs.YtfgfnflhdabmcaaW.PrintLast Go.Proofs.YtfgfnflhdabmcaaW.PrintMore
attribute [local go_sem] max2_int min2_int max_two min_two max_three min_three max_four min_four   -- for this text's walks alone
set_option linter.unusedVariables false
set_option linter.unusedSimpArgs false
def gangwaylaw14_num.f (a0 : Int) : Option (Int) := some a0
set_option maxHeartbeats 8000000 in
set_option maxRecDepth 100000 in
theorem gangwaylaw14_num.calls (a0 : Int) (r : Int) (w : World) (h : gangwaylaw14_num.f a0 = some r) :
  Calls Try.prog 11 #[.int .i64 a0] w fun e w' => e = .returned (.int .i64 r) ∧ Drawn0 w w' := by
 have H : (some a0) = some r := h
 clear h
 obtain rfl := Option.some.inj H
 go_enter Try.func11, Try.ntmps11
 go_wp2
 go_ret
 exact ⟨by first | rfl | (simp; done) | (simp [*]; done), by repeat (first | exact Drawn0.refl _ | apply Drawn0.step)⟩
end Go.Proofs.Ytfgfnflhdabmcaa.G
end
section
namespace Go.Proofs.Ytfgfnflhdabmcaa.G
open Go.RowKit Go.Proofs.YtfgfnflhdabmcaaW.PrintWords Go.Proofs.YtfgfnflhdabmcaaW.PrintLast Go.Proofs.YtfgfnflhdabmcaaW.PrintMore
attribute [local go_sem] max2_int min2_int max_two min_two max_three min_three max_four min_four   -- for this text's walks alone
set_option linter.unusedVariables false
set_option linter.unusedSimpArgs false
/-- may an op be? -/
def mayF (k r n : Int) : Bool :=
 if k = 0 ∨ k = 9 ∨ k = 10 then decide (r = 0) && decide (n = 0)
 else if k = 1 ∨ k = 3 then decide (r = 0) && (decide (0 ≤ n) && decide (n ≤ 2147483647))
 else if k = 2 then decide (0 ≤ r) && (decide (r ≤ 16) && (decide (0 ≤ n) && decide (n ≤ 2147483647)))
 else if k = 4 ∨ k = 6 ∨ k = 7 ∨ k = 8 then decide (n = 0) && (decide (0 ≤ r) && decide (r ≤ 16))
 else if k = 5 then decide (n.tmod 8 = 0) && (decide (0 ≤ r) && (decide (r ≤ 16) && (decide (-2147483648 ≤ n) && decide (n ≤ 2147483640))))
 else false
def cfa_Op_may.f (a0_0 a0_1 a0_2 : Int) : Option Bool := some (mayF a0_0 a0_1 a0_2)
theorem may_ne {a b : Int} (h : a ≠ b) : (a == b) = false ∧ (a != b) = true := ⟨beq_eq_false_iff_ne.mpr h, bne_iff_ne.mpr h⟩
theorem may_eq {a b : Int} (h : a = b) : (a == b) = true ∧ (a != b) = false := ⟨beq_iff_eq.mpr h, bne_eq_false_iff_eq.mpr h⟩
theorem cfa_Op_may.one (k r n : Int) (w : World) (hk : k = 0 ∨ k = 9 ∨ k = 10) :
  Calls Try.prog 58 #[.agg #[.int .i64 k, .int .i64 r, .int .i64 n]] w fun e w' => e = .returned (.bool (mayF k r n)) ∧ Below w.heap.size w w' := by
 by_cases hr : r = 0
 ·
  subst hr
  by_cases hn : n = 0
  ·
   subst hn
   rcases hk with rfl | rfl | rfl <;>
   ·
    go_enter Try.func58, Try.ntmps58
    go_wp2
    go_ret
    exact ⟨rfl, below_alloc (Below.refl _ _) _⟩
  ·
   obtain ⟨c1, c2⟩ := may_ne hn
   have e : mayF k 0 n = false := by rcases hk with rfl | rfl | rfl <;> simp [mayF, hn]
   rw [e]
   clear e hn
   rcases hk with rfl | rfl | rfl <;>
   ·
    go_enter Try.func58, Try.ntmps58
    go_wp2
    go_ret
    exact ⟨rfl, below_alloc (Below.refl _ _) _⟩
 ·
  obtain ⟨c1, c2⟩ := may_ne hr
  have e : mayF k r n = false := by rcases hk with rfl | rfl | rfl <;> simp [mayF, hr]
  rw [e]
  clear e hr
  rcases hk with rfl | rfl | rfl <;>
  ·
   go_enter Try.func58, Try.ntmps58
   go_wp2
   go_ret
   exact ⟨rfl, below_alloc (Below.refl _ _) _⟩
theorem may_ge (a b : Int) : (∃ v, decide (b ≤ a) = v ∧ decide (a ≥ b) = v) := ⟨_, rfl, rfl⟩
theorem may_le (a b : Int) : (∃ v, decide (a ≤ b) = v) := ⟨_, rfl⟩
theorem cfa_Op_may.two (k r n : Int) (w : World) (hk : k = 1 ∨ k = 3) :
  Calls Try.prog 58 #[.agg #[.int .i64 k, .int .i64 r, .int .i64 n]] w fun e w' => e = .returned (.bool (mayF k r n)) ∧ Below w.heap.size w w' := by
 by_cases hr : r = 0
 ·
  subst hr
  have e : mayF k 0 n = (decide (0 ≤ n) && decide (n ≤ 2147483647)) := by rcases hk with rfl | rfl <;> simp [mayF]
  rw [e]
  clear e
  obtain ⟨v1, h1, g1⟩ := may_ge n 0
  obtain ⟨v2, h2⟩ := may_le n 2147483647
  rw [h1, h2]
  clear h1
  cases v1 <;> cases v2 <;> rcases hk with rfl | rfl <;>
  ·
   go_enter Try.func58, Try.ntmps58
   go_wp2
   go_ret
   exact ⟨rfl, below_alloc (Below.refl _ _) _⟩
 ·
  obtain ⟨c1, c2⟩ := may_ne hr
  have e : mayF k r n = false := by rcases hk with rfl | rfl <;> simp [mayF, hr]
  rw [e]
  clear e hr
  rcases hk with rfl | rfl <;>
  ·
   go_enter Try.func58, Try.ntmps58
   go_wp2
   go_ret
   exact ⟨rfl, below_alloc (Below.refl _ _) _⟩
set_option maxHeartbeats 4000000 in
theorem cfa_Op_may.three (r n : Int) (w : World) :
  Calls Try.prog 58 #[.agg #[.int .i64 2, .int .i64 r, .int .i64 n]] w fun e w' => e = .returned (.bool (mayF 2 r n)) ∧ Below w.heap.size w w' := by
 have e : mayF 2 r n = (decide (0 ≤ r) && (decide (r ≤ 16) && (decide (0 ≤ n) && decide (n ≤ 2147483647)))) := by simp [mayF]
 rw [e]
 clear e
 obtain ⟨v1, h1, g1⟩ := may_ge r 0
 obtain ⟨v2, h2⟩ := may_le r 16
 obtain ⟨v3, h3, g3⟩ := may_ge n 0
 obtain ⟨v4, h4⟩ := may_le n 2147483647
 rw [h1, h2, h3, h4]
 clear h1 h3
 cases v1 <;> cases v2 <;> cases v3 <;> cases v4 <;>
 ·
  go_enter Try.func58, Try.ntmps58
  go_wp2
  go_ret
  exact ⟨rfl, below_alloc (Below.refl _ _) _⟩
set_option maxHeartbeats 4000000 in
theorem cfa_Op_may.four (k r n : Int) (w : World) (hk : k = 4 ∨ k = 6 ∨ k = 7 ∨ k = 8) :
  Calls Try.prog 58 #[.agg #[.int .i64 k, .int .i64 r, .int .i64 n]] w fun e w' => e = .returned (.bool (mayF k r n)) ∧ Below w.heap.size w w' := by
 by_cases hn : n = 0
 ·
  subst hn
  have e : mayF k r 0 = (decide (0 ≤ r) && decide (r ≤ 16)) := by rcases hk with rfl | rfl | rfl | rfl <;> simp [mayF]
  rw [e]
  clear e
  obtain ⟨v1, h1, g1⟩ := may_ge r 0
  obtain ⟨v2, h2⟩ := may_le r 16
  rw [h1, h2]
  clear h1
  cases v1 <;> cases v2 <;> rcases hk with rfl | rfl | rfl | rfl <;>
  ·
   go_enter Try.func58, Try.ntmps58
   go_wp2
   go_ret
   exact ⟨rfl, below_alloc (Below.refl _ _) _⟩
 ·
  obtain ⟨c1, c2⟩ := may_ne hn
  have e : mayF k r n = false := by rcases hk with rfl | rfl | rfl | rfl <;> simp [mayF, hn]
  rw [e]
  clear e hn
  rcases hk with rfl | rfl | rfl | rfl <;>
  ·
   go_enter Try.func58, Try.ntmps58
   go_wp2
   go_ret
   exact ⟨rfl, below_alloc (Below.refl _ _) _⟩
set_option maxHeartbeats 4000000 in
theorem cfa_Op_may.five (r n : Int) (w : World) :
  Calls Try.prog 58 #[.agg #[.int .i64 5, .int .i64 r, .int .i64 n]] w fun e w' => e = .returned (.bool (mayF 5 r n)) ∧ Below w.heap.size w w' := by
 have e : mayF 5 r n = (decide (n.tmod 8 = 0) && (decide (0 ≤ r) && (decide (r ≤ 16) && (decide (-2147483648 ≤ n) && decide (n ≤ 2147483640))))) := by simp [mayF]
 rw [e]
 clear e
 by_cases hm : n.tmod 8 = 0
 ·
  obtain ⟨c1, c2⟩ := may_eq hm
  rw [decide_eq_true hm]
  obtain ⟨v1, h1, g1⟩ := may_ge r 0
  obtain ⟨v2, h2⟩ := may_le r 16
  obtain ⟨v3, h3, g3⟩ := may_ge n (-2147483648)
  obtain ⟨v4, h4⟩ := may_le n 2147483640
  rw [h1, h2, h3, h4]
  clear h1 h3 hm
  cases v1 <;> cases v2 <;> cases v3 <;> cases v4 <;>
  ·
   go_enter Try.func58, Try.ntmps58
   go_wp2
   go_ret
   exact ⟨rfl, below_alloc (Below.refl _ _) _⟩
 ·
  obtain ⟨c1, c2⟩ := may_ne hm
  rw [decide_eq_false hm]
  clear hm
  go_enter Try.func58, Try.ntmps58
  go_wp2
  go_ret
  exact ⟨rfl, below_alloc (Below.refl _ _) _⟩
theorem cfa_Op_may.none_ (k r n : Int) (w : World) (h0 : k ≠ 0) (h1 : k ≠ 1) (h2 : k ≠ 2) (h3 : k ≠ 3) (h4 : k ≠ 4) (h5 : k ≠ 5) (h6 : k ≠ 6) (h7 : k ≠ 7) (h8 : k ≠ 8) (h9 : k ≠ 9) (h10 : k ≠ 10) :
  Calls Try.prog 58 #[.agg #[.int .i64 k, .int .i64 r, .int .i64 n]] w fun e w' => e = .returned (.bool (mayF k r n)) ∧ Below w.heap.size w w' := by
 have e : mayF k r n = false := by simp [mayF, *]
 rw [e]
 clear e
 obtain ⟨c0, _⟩ := may_ne h0
 obtain ⟨c1, _⟩ := may_ne h1
 obtain ⟨c2, _⟩ := may_ne h2
 obtain ⟨c3, _⟩ := may_ne h3
 obtain ⟨c4, _⟩ := may_ne h4
 obtain ⟨c5, _⟩ := may_ne h5
 obtain ⟨c6, _⟩ := may_ne h6
 obtain ⟨c7, _⟩ := may_ne h7
 obtain ⟨c8, _⟩ := may_ne h8
 obtain ⟨c9, _⟩ := may_ne h9
 obtain ⟨c10, _⟩ := may_ne h10
 clear h0 h1 h2 h3 h4 h5 h6 h7 h8 h9 h10
 go_enter Try.func58, Try.ntmps58
 go_wp2
 go_ret
 exact ⟨rfl, below_alloc (Below.refl _ _) _⟩
theorem cfa_Op_may.calls (a0_0 a0_1 a0_2 : Int) (r : Bool) (w : World) (h : cfa_Op_may.f a0_0 a0_1 a0_2 = some r) :
  Calls Try.prog 58 #[.agg #[.int .i64 a0_0, .int .i64 a0_1, .int .i64 a0_2]] w fun e w' => e = .returned (.bool r) ∧ Below w.heap.size w w' := by
 obtain rfl := Option.some.inj h
 by_cases hA : a0_0 = 0 ∨ a0_0 = 9 ∨ a0_0 = 10
 ·
  exact cfa_Op_may.one _ _ _ w hA
 by_cases hB : a0_0 = 1 ∨ a0_0 = 3
 ·
  exact cfa_Op_may.two _ _ _ w hB
 by_cases hC : a0_0 = 2
 ·
  subst hC
  exact cfa_Op_may.three _ _ w
 by_cases hD : a0_0 = 4 ∨ a0_0 = 6 ∨ a0_0 = 7 ∨ a0_0 = 8
 ·
  exact cfa_Op_may.four _ _ _ w hD
 by_cases hE : a0_0 = 5
 ·
  subst hE
  exact cfa_Op_may.five _ _ w
 exact cfa_Op_may.none_ _ _ _ w (by omega) (by omega) (by omega) (by omega) (by omega) (by omega) (by omega) (by omega) (by omega) (by omega) (by omega)
end Go.Proofs.Ytfgfnflhdabmcaa.G
end
section
namespace Go.Proofs.Ytfgfnflhdabmcaa.Cfa
set_option linter.unusedVariables false
set_option linter.unusedSimpArgs false
open Go.RowKit Go.Proofs.Ytfgfnflhdabmcaa.G Go.Proofs.YtfgfnflhdabmcaaW.PrintWords Go.Proofs.YtfgfnflhdabmcaaW.PrintLast Go.Proofs.YtfgfnflhdabmcaaW.PrintMore
/-- A row: 37 numbers: its place, its register, its offset, then 17 rules of two numbers each. -/
abbrev Row := List Int
structure T where
  rows : List Row
  now : Row
  first : Row
  kept : List Row
  size : Int
  begun : Bool
def row0 : Row := 0 :: -1 :: 0 :: List.replicate 34 0
def fresh (size : Int) : T := ⟨[], row0, List.replicate 37 0, [], size, false⟩
def ru (r : Int) : Nat := 3 + r.toNat * 2
/-- what an op makes of a table; none: it may not be there -/
def act (t : T) (k r n : Int) : Option T :=
  if k = 0 then some t
  else if k = 1 then if n = 0 then some t else if t.now.getD 0 0 + n ≤ t.size then some { t with rows := t.rows ++ [t.now], now := t.now.set 0 (t.now.getD 0 0 + n) } else none
  else if k = 2 then some { t with now := (t.now.set 1 r).set 2 n }
  else if k = 3 then if 0 ≤ t.now.getD 1 0 then some { t with now := t.now.set 2 n } else none
  else if k = 4 then if 0 ≤ t.now.getD 1 0 then some { t with now := t.now.set 1 r } else none
  else if k = 5 then some { t with now := (t.now.set (ru r) 2).set (ru r + 1) n }
  else if k = 6 then some { t with now := (t.now.set (ru r) (t.first.getD (ru r) 0)).set (ru r + 1) (t.first.getD (ru r + 1) 0) }
  else if k = 7 then some { t with now := (t.now.set (ru r) 1).set (ru r + 1) 0 }
  else if k = 8 then some { t with now := (t.now.set (ru r) 0).set (ru r + 1) 0 }
  else if k = 9 then if t.kept.length + 1 ≤ 64 then some { t with kept := t.kept ++ [t.now] } else none
  else if t.kept = [] then none else some { t with now := (t.kept.getLastD []).set 0 (t.now.getD 0 0), kept := t.kept.dropLast }
def does (t : T) (k r n : Int) : Option T :=
  if mayF k r n = false then none
  else if t.begun = false ∧ (k = 1 ∨ k = 9 ∨ k = 10 ∨ k = 6) then none
  else act t k r n
def doAll (t : T) : List (Int × Int × Int) → Option T
  | [] => some t
  | o :: l => (does t o.1 o.2.1 o.2.2).bind fun t' => doAll t' l
def begin_ (t : T) (l : List (Int × Int × Int)) : Option T :=
  (doAll t l).bind fun t' => if 0 ≤ t'.now.getD 1 0 then some { t' with first := t'.now, begun := true } else none
def run (initial ops : List (Int × Int × Int)) (size : Int) : Option T := (begin_ (fresh size) initial).bind fun t => doAll t ops
def rowsOf (initial ops : List (Int × Int × Int)) (size : Int) : List Row × Int :=
  if size < 0 ∨ 1048576 < size then ([], 11)
  else if 4000 < initial.length ∨ 4000 < ops.length then ([], 6)
  else match run initial ops size with
    | none => ([], 130)
    | some t => (t.rows ++ [t.now], 0)
theorem ite_cases {α : Type} {p : Prop} [Decidable p] {a b c : α} (e : (if p then a else b) = c) : (p ∧ a = c) ∨ (¬ p ∧ b = c) := by
  by_cases h : p
  · rw [if_pos h] at e; exact .inl ⟨h, e⟩
  · rw [if_neg h] at e; exact .inr ⟨h, e⟩
structure Good (t : T) : Prop where
  now : t.now.length = 37
  first : t.first.length = 37
  rows : ∀ r ∈ t.rows, r.length = 37
  kept : ∀ r ∈ t.kept, r.length = 37
  at0 : 0 ≤ t.now.getD 0 0
  size : t.size ≤ 1048576
  atS : 0 ≤ t.size → t.now.getD 0 0 ≤ t.size
theorem good_fresh (size : Int) (h : size ≤ 1048576) : Good (fresh size) := ⟨rfl, rfl, by simp [fresh], by simp [fresh], by simp [fresh, row0], h, fun h => h⟩
theorem getD_set_ne {l : Row} {i j : Nat} (h : i ≠ j) (x : Int) : (l.set i x).getD j 0 = l.getD j 0 := by
  simp [List.getD_eq_getElem?_getD, List.getElem?_set_ne h]
theorem getD_set_eq {l : Row} {i : Nat} (h : i < l.length) (x : Int) : (l.set i x).getD i 0 = x := by
  simp [List.getD_eq_getElem?_getD, h]
theorem ru_ne (r : Int) : ru r ≠ 0 ∧ ru r + 1 ≠ 0 := by unfold ru; omega
theorem getLastD_mem {l : List Row} (h : l ≠ []) : l.getLastD [] ∈ l := by
  rw [List.getLastD_eq_getLast?, List.getLast?_eq_some_getLast h]
  exact List.getLast_mem h
theorem may_n {k r n : Int} (h : mayF k r n = true) (hk : k = 1) : 0 ≤ n ∧ n ≤ 2147483647 := by
  subst hk
  simp [mayF] at h
  omega
theorem may_r {k r n : Int} (h : mayF k r n = true) : 0 ≤ r ∧ r ≤ 16 := by
  unfold mayF at h
  split at h
  · simp only [Bool.and_eq_true, decide_eq_true_eq] at h; omega
  split at h
  · simp only [Bool.and_eq_true, decide_eq_true_eq] at h; omega
  split at h
  · simp only [Bool.and_eq_true, decide_eq_true_eq] at h; omega
  split at h
  · simp only [Bool.and_eq_true, decide_eq_true_eq] at h; omega
  split at h
  · simp only [Bool.and_eq_true, decide_eq_true_eq] at h; omega
  · cases h
theorem may_k {k r n : Int} (h : mayF k r n = true) : 0 ≤ k ∧ k ≤ 10 := by
  unfold mayF at h
  split at h
  · omega
  split at h
  · omega
  split at h
  · omega
  split at h
  · omega
  split at h
  · omega
  · cases h
theorem good_act {t t' : T} {k r n : Int} (h : Good t) (hm : mayF k r n = true) (e : act t k r n = some t') : Good t' := by
  obtain ⟨h1, h2, h3, h4, h5, h6, h7⟩ := h
  have hr := ru_ne r
  unfold act at e
  rcases ite_cases e with ⟨cc, e⟩ | ⟨cc, e⟩
  · cases e; exact ⟨h1, h2, h3, h4, h5, h6, h7⟩
  rcases ite_cases e with ⟨cc, e⟩ | ⟨cc, e⟩
  · have hn := may_n hm cc
    rcases ite_cases e with ⟨cc, e⟩ | ⟨cc, e⟩
    · cases e; exact ⟨h1, h2, h3, h4, h5, h6, h7⟩
    rcases ite_cases e with ⟨cc, e⟩ | ⟨cc, e⟩
    · cases e
      have hs := cc
      refine ⟨by simpa using h1, h2, fun q hq => ?_, h4, ?_, h6, fun _ => ?_⟩
      · rcases List.mem_append.1 hq with hq | hq
        · exact h3 q hq
        · rw [List.mem_singleton.1 hq]; exact h1
      · show 0 ≤ (t.now.set 0 _).getD 0 0
        rw [getD_set_eq (by omega)]; omega
      · show (t.now.set 0 _).getD 0 0 ≤ t.size
        rw [getD_set_eq (by omega)]; exact hs
    · cases e
  rcases ite_cases e with ⟨cc, e⟩ | ⟨cc, e⟩
  · cases e
    refine ⟨by simpa using h1, h2, h3, h4, ?_, h6, fun hz => ?_⟩
    · show 0 ≤ ((t.now.set 1 r).set 2 n).getD 0 0
      rw [getD_set_ne (by decide), getD_set_ne (by decide)]; exact h5
    · show ((t.now.set 1 r).set 2 n).getD 0 0 ≤ t.size
      rw [getD_set_ne (by decide), getD_set_ne (by decide)]; exact h7 hz
  rcases ite_cases e with ⟨cc, e⟩ | ⟨cc, e⟩
  · rcases ite_cases e with ⟨cc, e⟩ | ⟨cc, e⟩
    · cases e
      refine ⟨by simpa using h1, h2, h3, h4, ?_, h6, fun hz => ?_⟩
      · show 0 ≤ (t.now.set 2 n).getD 0 0
        rw [getD_set_ne (by decide)]; exact h5
      · show (t.now.set 2 n).getD 0 0 ≤ t.size
        rw [getD_set_ne (by decide)]; exact h7 hz
    · cases e
  rcases ite_cases e with ⟨cc, e⟩ | ⟨cc, e⟩
  · rcases ite_cases e with ⟨cc, e⟩ | ⟨cc, e⟩
    · cases e
      refine ⟨by simpa using h1, h2, h3, h4, ?_, h6, fun hz => ?_⟩
      · show 0 ≤ (t.now.set 1 r).getD 0 0
        rw [getD_set_ne (by decide)]; exact h5
      · show (t.now.set 1 r).getD 0 0 ≤ t.size
        rw [getD_set_ne (by decide)]; exact h7 hz
    · cases e
  have two : ∀ x y : Int, Good { t with now := (t.now.set (ru r) x).set (ru r + 1) y } := fun x y => by
    refine ⟨by simpa using h1, h2, h3, h4, ?_, h6, fun hz => ?_⟩
    · show 0 ≤ ((t.now.set (ru r) x).set (ru r + 1) y).getD 0 0
      rw [getD_set_ne hr.2, getD_set_ne hr.1]; exact h5
    · show ((t.now.set (ru r) x).set (ru r + 1) y).getD 0 0 ≤ t.size
      rw [getD_set_ne hr.2, getD_set_ne hr.1]; exact h7 hz
  rcases ite_cases e with ⟨cc, e⟩ | ⟨cc, e⟩
  · cases e; exact two _ _
  rcases ite_cases e with ⟨cc, e⟩ | ⟨cc, e⟩
  · cases e; exact two _ _
  rcases ite_cases e with ⟨cc, e⟩ | ⟨cc, e⟩
  · cases e; exact two _ _
  rcases ite_cases e with ⟨cc, e⟩ | ⟨cc, e⟩
  · cases e; exact two _ _
  rcases ite_cases e with ⟨cc, e⟩ | ⟨cc, e⟩
  · rcases ite_cases e with ⟨cc, e⟩ | ⟨cc, e⟩
    · cases e
      refine ⟨h1, h2, h3, fun q hq => ?_, h5, h6, h7⟩
      rcases List.mem_append.1 hq with hq | hq
      · exact h4 q hq
      · rw [List.mem_singleton.1 hq]; exact h1
    · cases e
  rcases ite_cases e with ⟨cc, e⟩ | ⟨cc, e⟩
  · cases e
  · have hne := cc
    cases e
    have hl := h4 _ (getLastD_mem hne)
    refine ⟨by simpa using hl, h2, h3, fun q hq => h4 q (List.dropLast_subset _ hq), ?_, h6, fun hz => ?_⟩
    · show 0 ≤ ((t.kept.getLastD []).set 0 (t.now.getD 0 0)).getD 0 0
      rw [getD_set_eq (by omega)]; exact h5
    · show ((t.kept.getLastD []).set 0 (t.now.getD 0 0)).getD 0 0 ≤ t.size
      rw [getD_set_eq (by omega)]; exact h7 hz
theorem act_size {t t' : T} {k r n : Int} (e : act t k r n = some t') : t'.size = t.size ∧ t'.begun = t.begun ∧ t'.first = t.first ∧ t'.rows.length ≤ t.rows.length + 1 ∧ t'.kept.length ≤ t.kept.length + 1 := by
  have hc : ∀ {x : T}, some x = some t' → x.size = t.size → x.begun = t.begun → x.first = t.first → x.rows.length ≤ t.rows.length + 1 → x.kept.length ≤ t.kept.length + 1 → t'.size = t.size ∧ t'.begun = t.begun ∧ t'.first = t.first ∧ t'.rows.length ≤ t.rows.length + 1 ∧ t'.kept.length ≤ t.kept.length + 1 := by
    intro x hx a b c d e
    cases hx
    exact ⟨a, b, c, d, e⟩
  have hn : ∀ {p : Prop} [Decidable p] {x : T}, (if p then some x else none) = some t' → some x = some t' := by
    intro p _ x h
    split at h
    · exact h
    · cases h
  unfold act at e
  rcases ite_cases e with ⟨cc, e⟩ | ⟨cc, e⟩
  · exact hc e rfl rfl rfl (Nat.le_succ _) (Nat.le_succ _)
  rcases ite_cases e with ⟨cc, e⟩ | ⟨cc, e⟩
  · rcases ite_cases e with ⟨cc, e⟩ | ⟨cc, e⟩
    · exact hc e rfl rfl rfl (Nat.le_succ _) (Nat.le_succ _)
    · exact hc (hn e) rfl rfl rfl (by simp) (Nat.le_succ _)
  rcases ite_cases e with ⟨cc, e⟩ | ⟨cc, e⟩
  · exact hc e rfl rfl rfl (Nat.le_succ _) (Nat.le_succ _)
  rcases ite_cases e with ⟨cc, e⟩ | ⟨cc, e⟩
  · exact hc (hn e) rfl rfl rfl (Nat.le_succ _) (Nat.le_succ _)
  rcases ite_cases e with ⟨cc, e⟩ | ⟨cc, e⟩
  · exact hc (hn e) rfl rfl rfl (Nat.le_succ _) (Nat.le_succ _)
  rcases ite_cases e with ⟨cc, e⟩ | ⟨cc, e⟩
  · exact hc e rfl rfl rfl (Nat.le_succ _) (Nat.le_succ _)
  rcases ite_cases e with ⟨cc, e⟩ | ⟨cc, e⟩
  · exact hc e rfl rfl rfl (Nat.le_succ _) (Nat.le_succ _)
  rcases ite_cases e with ⟨cc, e⟩ | ⟨cc, e⟩
  · exact hc e rfl rfl rfl (Nat.le_succ _) (Nat.le_succ _)
  rcases ite_cases e with ⟨cc, e⟩ | ⟨cc, e⟩
  · exact hc e rfl rfl rfl (Nat.le_succ _) (Nat.le_succ _)
  rcases ite_cases e with ⟨cc, e⟩ | ⟨cc, e⟩
  · exact hc (hn e) rfl rfl rfl (Nat.le_succ _) (by simp)
  rcases ite_cases e with ⟨cc, e⟩ | ⟨cc, e⟩
  · cases e
  · exact hc e rfl rfl rfl (Nat.le_succ _) (by simp; omega)
theorem does_size {t t' : T} {k r n : Int} (e : does t k r n = some t') : t'.size = t.size ∧ t'.begun = t.begun ∧ t'.first = t.first ∧ t'.rows.length ≤ t.rows.length + 1 ∧ t'.kept.length ≤ t.kept.length + 1 := by
  unfold does at e
  rcases ite_cases e with ⟨cc, e⟩ | ⟨cc, e⟩
  · cases e
  rcases ite_cases e with ⟨cc, e⟩ | ⟨cc, e⟩
  · cases e
  exact act_size e
end Go.Proofs.Ytfgfnflhdabmcaa.Cfa
end
section
namespace Go.Proofs.Ytfgfnflhdabmcaa.Cfa
set_option linter.unusedVariables false
set_option linter.unusedSimpArgs false
open Go.RowKit Go.Proofs.Ytfgfnflhdabmcaa.G Go.Proofs.YtfgfnflhdabmcaaW.PrintWords Go.Proofs.YtfgfnflhdabmcaaW.PrintLast Go.Proofs.YtfgfnflhdabmcaaW.PrintMore
/-- The row of a variable that is just made. -/
def zrow : List Int := List.replicate 37 0
theorem zrow_len : zrow.length = 37 := by unfold zrow; simp
/-- The kind of a row. -/
def rowK : Kd Row := Kd.arr 37 (Kd.int .i64) (by decide)
theorem info145 : (Try.prog.info? 145).map (fun i => (i.zero, i.size, i.bytes)) = some (some (.agg (Array.replicate 37 (.int .i64 0))), 37, 296) := by kernel_rfl
def cells (rv kv : Value) (t : T) : List Value := rv :: (nums .i64 t.now ++ (nums .i64 t.first ++ [kv, .int .i64 t.size, .bool t.begun]))
/-- The table t lies in block g. -/
structure Tab (w : World) (base g : Nat) (t : T) (rv kv : Value) : Prop where
  good : Good t
  lo : base ≤ g
  blk : w.heap[g]? = some (.cells (cells rv kv t).toArray 147 (0, 0))
  rows : Kd.R rowK 145 w base (fun k => k ≠ g ∧ some k ≠ kv.ownBlock) rv t.rows
  kept : Kd.R rowK 145 w base (fun k => k ≠ g ∧ some k ≠ rv.ownBlock) kv t.kept
section
variable {w w' : World} {base g : Nat} {t t' : T} {rv kv rv' kv' : Value}
theorem cells_len (h : Good t) : (cells rv kv t).length = 78 := by
  simp [cells, nums_length, h.now, h.first]
theorem nums_get {l : List Int} {j : Nat} (hj : j < l.length) : (nums .i64 l)[j]? = some (.int .i64 (l.getD j 0)) := by
  simp [nums, List.getElem?_eq_getElem hj, List.getD_eq_getElem?_getD]
theorem cells_now (h : Good t) (j : Nat) (hj : j < 37) : (cells rv kv t)[1 + j]? = some (.int .i64 (t.now.getD j 0)) := by
  rw [cells, Nat.add_comm, List.getElem?_cons_succ, List.getElem?_append_left (by rw [nums_length, h.now]; exact hj)]
  exact nums_get (by rw [h.now]; exact hj)
theorem cells_first (h : Good t) (j : Nat) (hj : j < 37) : (cells rv kv t)[38 + j]? = some (.int .i64 (t.first.getD j 0)) := by
  rw [cells, show 38 + j = (37 + j) + 1 from by omega, List.getElem?_cons_succ, List.getElem?_append_right (by rw [nums_length, h.now]; omega), nums_length, h.now, Nat.add_sub_cancel_left,
    List.getElem?_append_left (by rw [nums_length, h.first]; exact hj)]
  exact nums_get (by rw [h.first]; exact hj)
theorem cells_tail (h : Good t) (j : Nat) : (cells rv kv t)[75 + j]? = [kv, .int .i64 t.size, .bool t.begun][j]? := by
  rw [cells, show 75 + j = (74 + j) + 1 from by omega, List.getElem?_cons_succ, List.getElem?_append_right (by rw [nums_length, h.now]; omega), nums_length, h.now,
    List.getElem?_append_right (by rw [nums_length, h.first]; omega), nums_length, h.first, show 74 + j - 37 - 37 = j from by omega]
theorem Tab.cell (h : Tab w base g t rv kv) (j : Nat) : w.cell? ⟨g, j, none⟩ = (cells rv kv t)[j]? := by
  rw [cell_of_row w g j _ _ _ h.blk, List.getElem?_toArray]
theorem Tab.free (h : Tab w base g t rv kv) (j : Nat) : w.frozen? ⟨g, j, none⟩ = false := blk_frozen h.blk j
theorem Tab.rowsC (h : Tab w base g t rv kv) : w.cell? ⟨g, 0, none⟩ = some rv := by rw [h.cell]; rfl
theorem Tab.now (h : Tab w base g t rv kv) (j : Nat) (hj : j < 37) : w.cell? ⟨g, 1 + j, none⟩ = some (.int .i64 (t.now.getD j 0)) := by rw [h.cell, cells_now h.good j hj]
theorem Tab.first (h : Tab w base g t rv kv) (j : Nat) (hj : j < 37) : w.cell? ⟨g, 38 + j, none⟩ = some (.int .i64 (t.first.getD j 0)) := by rw [h.cell, cells_first h.good j hj]
theorem Tab.keptC (h : Tab w base g t rv kv) : w.cell? ⟨g, 75, none⟩ = some kv := by rw [h.cell]; exact cells_tail h.good 0
theorem Tab.size (h : Tab w base g t rv kv) : w.cell? ⟨g, 76, none⟩ = some (.int .i64 t.size) := by rw [h.cell]; exact cells_tail h.good 1
theorem Tab.begun (h : Tab w base g t rv kv) : w.cell? ⟨g, 77, none⟩ = some (.bool t.begun) := by rw [h.cell]; exact cells_tail h.good 2
/-- The world moves, but not in g, nor in old blocks. -/
theorem Tab.below (h : Tab w base g t rv kv) (hb : Below w.heap.size w w') : Tab w' base g t rv kv :=
  ⟨h.good, h.lo, blk_below h.blk hb, Kd.R_below h.rows hb, Kd.R_below h.kept hb⟩
/-- The table's block turns, its rows do not. -/
theorem Tab.turn (h : Tab w base g t rv kv) (hg : w.grownBy w' (some g)) (good : Good t') (hb : w'.heap[g]? = some (.cells (cells rv kv t').toArray 147 (0, 0))) (hr : t'.rows = t.rows) (hk : t'.kept = t.kept) : Tab w' base g t' rv kv :=
  ⟨good, h.lo, hb, by rw [hr]; exact Kd.R_grown h.rows hg (fun k hk e => hk.1 (Option.some.inj e)), by rw [hk]; exact Kd.R_grown h.kept hg (fun k hk e => hk.1 (Option.some.inj e))⟩
theorem grown_set (w : World) (g j : Nat) (v : Value) : w.grownBy (w.setCell ⟨g, j, none⟩ v) (some g) :=
  ⟨rfl, rfl, rfl, by simp [World.setCell], fun k _ hk => Below.heap_setCell w ⟨g, j, none⟩ v k (fun e => hk (by rw [e]))⟩
theorem grown_drew {row : Option Nat} (h : w.grownBy w' row) : w.grownBy w'.drew row := ⟨h.os, h.tape, h.output, h.size, h.block⟩
theorem grown_alloc {row : Option Nat} (h : w.grownBy w' row) (o : Obj) : w.grownBy (w'.alloc o) row := World.grownBy.trans h (World.grownBy_alloc _ _ _)
theorem grown_set' (h : w.grownBy w' (some g)) (j : Nat) (v : Value) : w.grownBy (w'.setCell ⟨g, j, none⟩ v) (some g) := World.grownBy.trans h (grown_set _ _ _ _)
theorem grown_below' {row : Option Nat} (h : w.grownBy w' row) {w2 : World} (hb : Below w'.heap.size w' w2) : w.grownBy w2 row := World.grownBy.trans h (grown_of_below hb row)
theorem below_grown (hg : w.grownBy w' (some g)) (h0 : base ≤ w.heap.size) (h1 : base ≤ g) : Below base w w' := (Below.refl base w).grown hg h0 (fun k hk => by cases hk; exact h1)
theorem set_now (hb : w.heap[g]? = some (.cells (cells rv kv t).toArray 147 (0, 0))) (h : Good t) (j : Nat) (hj : j < 37) (x : Int) :
    (w.setCell ⟨g, 1 + j, none⟩ (.int .i64 x)).heap[g]? = some (.cells (cells rv kv { t with now := t.now.set j x }).toArray 147 (0, 0)) := by
  refine blk_put hb _ _ ?_
  rw [List.setIfInBounds_toArray, cells, cells, Nat.add_comm, List.set_cons_succ, List.set_append_left _ _ (by rw [nums_length, h.now]; exact hj)]
  simp [nums, List.map_set]
theorem set_rows (hb : w.heap[g]? = some (.cells (cells rv kv t).toArray 147 (0, 0))) (v : Value) (rs : List Row) :
    (w.setCell ⟨g, 0, none⟩ v).heap[g]? = some (.cells (cells v kv { t with rows := rs }).toArray 147 (0, 0)) := by
  refine blk_put hb _ _ ?_
  rw [List.setIfInBounds_toArray]
  rfl
theorem set_kept (hb : w.heap[g]? = some (.cells (cells rv kv t).toArray 147 (0, 0))) (h : Good t) (v : Value) (ks : List Row) :
    (w.setCell ⟨g, 75, none⟩ v).heap[g]? = some (.cells (cells rv v { t with kept := ks }).toArray 147 (0, 0)) := by
  refine blk_put hb _ _ ?_
  rw [List.setIfInBounds_toArray, cells, cells, show 75 = 74 + 1 from rfl, List.set_cons_succ, List.set_append_right _ _ (by rw [nums_length, h.now]; omega), nums_length, h.now,
    List.set_append_right _ _ (by rw [nums_length, h.first]; omega), nums_length, h.first]
  rfl
theorem set_begun (hb : w.heap[g]? = some (.cells (cells rv kv t).toArray 147 (0, 0))) (h : Good t) (b : Bool) :
    (w.setCell ⟨g, 77, none⟩ (.bool b)).heap[g]? = some (.cells (cells rv kv { t with begun := b }).toArray 147 (0, 0)) := by
  refine blk_put hb _ _ ?_
  rw [List.setIfInBounds_toArray, cells, cells, show 77 = 76 + 1 from rfl, List.set_cons_succ, List.set_append_right _ _ (by rw [nums_length, h.now]; omega), nums_length, h.now,
    List.set_append_right _ _ (by rw [nums_length, h.first]; omega), nums_length, h.first]
  rfl
/-- The address of rule m of a row that begins at o. -/
theorem rule_at (g o m : Nat) (hm : m ≤ 16) (W : World) : (Instr.indexAt 143 (.pointer (some ⟨g, o, none⟩)) (.int .i64 (m : Int))).run Try.prog W = .ok (.pointer (some ⟨g, o + m * 2, none⟩)) W := by
  have h1 : Try.prog.arrayLen 143 = 17 := by kernel_rfl
  have h2 : Try.prog.elem 143 = 142 := by kernel_rfl
  have h3 : (sizeOf 142).run Try.prog W = .ok 2 W := by kernel_rfl
  rw [run_indexAt_array (P := Try.prog) W _ _ _ _ (by rw [h1, h2]; exact Try.underlying143), h1, if_pos (by omega), h2, h3]
  simp only [Result.andThen, Int.toNat_natCast, Addr.add_mid]
/-- A region that draws its order: all but the tail only reads. -/
theorem still_tail {P : Program} {id : Nat} {Q : Exit → Act → World → Prop} {a : Act} {w : World} {l : List Oper} (n : Nat) (hm : P.follows .mixedOrders = true) (hB : Region.lexTailB .any l.toArray n = true)
    (h : wpStill P l.toArray w.drew (fun a' => wpList P l.toArray Q (l.drop n) a' w.drew) (l.take n) a) : (Code.region id l.toArray true).wp P Q a w := wp_region_still_tail n hm hB h
theorem fill_list (vs : List Value) : ∀ (k : Nat) (cs : Array Value), cs.size = k + vs.length → ((vs.zipIdx k).foldl (fun cs (x : Value × Nat) => cs.setIfInBounds (0 + x.2) x.1) cs).toList = cs.toList.take k ++ vs := by
  induction vs with
  | nil =>
    intro k cs h
    simp only [List.zipIdx_nil, List.foldl_nil, List.append_nil]
    rw [List.take_of_length_le (by rw [List.length_nil] at h; rw [Array.length_toList]; omega)]
  | cons v vs ih =>
    intro k cs h
    rw [List.length_cons] at h
    rw [List.zipIdx_cons, List.foldl_cons, ih (k + 1) _ (by simp; omega)]
    simp only [Nat.zero_add, Array.toList_setIfInBounds]
    rw [List.take_succ_eq_append_getElem (by simp; omega), List.take_set, List.set_eq_of_length_le (by simp; omega)]
    simp
theorem fill_all (vs : List Value) (cs : Array Value) (h : cs.size = vs.length) : vs.toArray.zipIdx.foldl (fun cs (x : Value × Nat) => cs.setIfInBounds (0 + x.2) x.1) cs = vs.toArray := by
  have h1 := fill_list vs 0 cs (by omega)
  apply Array.ext'
  rw [← Array.foldl_toList, Array.toList_zipIdx]
  simpa using h1
theorem build_row (l : List Int) (hl : l.length = 37) (W : World) : (Instr.buildSlice 111 1 #[(0, .agg (nums .i64 l).toArray)]).run Try.prog W = .ok (.slice (some ⟨W.heap.size, 0, none⟩) 1 1) (W.alloc (.cells (nums .i64 l).toArray 145)) := by
  obtain ⟨i0, hi, hzz⟩ := Option.map_eq_some_iff.1 info145
  simp only [Prod.mk.injEq] at hzz
  obtain ⟨hz0, hz1, hz2⟩ := hzz
  refine run_buildSlice (P := Try.prog) W _ 145 1 _ _ i0 _ Try.underlying111 hi hz0 (by rw [hz1]; decide) (by rw [hz1]; decide) ?_
  have hn : (nums .i64 l).length = 37 := by rw [nums_length, hl]
  simp only [Instr.fill, hz1, Nat.zero_mul, Value.cells, List.size_toArray, hn]
  rw [if_neg (by simp)]
  simp only [Option.some.injEq]
  exact fill_all _ _ (by simp [hn])
theorem wp_build_row {o : Oper} {a : Act} {w : World} {K : Act → World → Prop} {Q : Exit → Act → World → Prop} (x : Operand) (ho : o.op = .buildSlice 111 1 #[(0, x)]) (l : List Int) (hl : l.length = 37) (hx : a.eval x = .agg (nums .i64 l).toArray)
    (h : K (a.put o.dst (.slice (some ⟨w.heap.size, 0, none⟩) 1 1)) (w.alloc (.cells (nums .i64 l).toArray 145))) : o.wp Try.prog a w K Q := by
  unfold Oper.wp execOp
  have hb := build_row l hl w
  simp only [ho, List.map_toArray, List.map_cons, List.map_nil, hx, Sem.run_bind, hb, Result.andThen_ok]
  exact h
theorem load_row_y {ops : Array Oper} {S : World → Prop} {op : Oper} {a : Act} (hw : Region.wanted op (yielded ops a.tmps) = true) (x : Operand) (ho : op.op = .load 145 x) (b o : Nat) (hx : a.eval x = .pointer (some ⟨b, o, none⟩)) (l : List Int) (hl : l.length = 37)
    (hS : ∀ w, S w → w.rangeAt b o (nums .i64 l)) : YieldsIf Try.prog ops S op (.agg (nums .i64 l).toArray) a :=
  yieldsIf_load_mid hw 145 x ho b o hx _ _ hS Try.underlying145 rfl (by rw [nums_length, hl]; kernel_rfl)
theorem row_M (w : World) (base : Nat) (ok : Nat → Prop) (l : List Int) (hl : l.length = 37) : rowK.M w base ok l (nums .i64 l) := Kd.arr_of_cells (n := 37) (enc := Value.int .i64) (h1 := fun _ => rfl) (hs := by decide) hl
theorem row_K {w : World} {l : List Int} {cs : List Value} (h : rowK.K w l cs) : l.length = 37 ∧ cs = nums .i64 l := Kd.arr_cells (n := 37) (enc := Value.int .i64) (h1 := fun _ => rfl) (hs := by decide) h
section
variable {w w1 W : World} {base g : Nat} {t : T} {rv kv v1 : Value}
theorem Tab.nowR (h : Tab w base g t rv kv) : w.rangeAt g 1 (nums .i64 t.now) := fun j v hv => by
  have hj : j < 37 := by
    have := (List.getElem?_eq_some_iff.1 hv).1
    rwa [nums_length, h.good.now] at this
  rw [h.now j hj, ← hv, nums_get (by rw [h.good.now]; exact hj)]
/-- Another row than the one that was written lives on, whatever block the written one has now. -/
theorem R_beside {e e' base : Nat} {rv kv v1 : Value} {xs : List Row} (h : Kd.R rowK e W base (fun k => k ≠ g ∧ some k ≠ kv.ownBlock) rv xs) (hg : W.grownBy w1 kv.ownBlock) (hat : v1.ownBlock = kv.ownBlock ∨ ∃ b, v1.ownBlock = some b ∧ W.heap.size ≤ b) :
    Kd.R rowK e w1 base (fun k => k ≠ g ∧ some k ≠ v1.ownBlock) rv xs := by
  have h1 := Kd.R_bound h
  refine Kd.R_mono (Kd.R_grown h1 hg (fun k hk => hk.1.2)) (fun k hk => ⟨hk.1.1, ?_⟩)
  rcases hat with hat | ⟨b, hb, hle⟩
  · rw [hat]; exact hk.1.2
  · rw [hb]
    intro e
    injection e with e
    have := hk.2.2.1
    omega
theorem Tab.kept_app (h : Tab w base g t rv kv) (hb : Below w.heap.size w W) (hg : W.grownBy w1 kv.ownBlock) (hat : v1.ownBlock = kv.ownBlock ∨ ∃ b, v1.ownBlock = some b ∧ W.heap.size ≤ b) {ks : List Row} (ho : Kd.R rowK 145 w1 base (fun k => k ≠ g ∧ some k ≠ rv.ownBlock) v1 ks)
    (good : Good { t with kept := ks }) : Tab (w1.setCell ⟨g, 75, none⟩ v1) base g { t with kept := ks } rv v1 := by
  have h1 := h.below hb
  have hc := blk_grown h1.blk hg (fun e => (h1.kept.1 g e.symm).1 rfl)
  exact ⟨good, h.lo, set_kept hc h.good v1 ks, Kd.R_far (p := ⟨g, 75, none⟩) (R_beside (e' := 0) h1.rows hg hat) (fun k hk => hk.1) v1, Kd.R_far (p := ⟨g, 75, none⟩) ho (fun k hk => hk.1) v1⟩
theorem Tab.rows_app (h : Tab w base g t rv kv) (hb : Below w.heap.size w W) (hg : W.grownBy w1 rv.ownBlock) (hat : v1.ownBlock = rv.ownBlock ∨ ∃ b, v1.ownBlock = some b ∧ W.heap.size ≤ b) {rs : List Row} (ho : Kd.R rowK 145 w1 base (fun k => k ≠ g ∧ some k ≠ kv.ownBlock) v1 rs)
    (good : Good { t with rows := rs }) : Tab (w1.setCell ⟨g, 0, none⟩ v1) base g { t with rows := rs } v1 kv := by
  have h1 := h.below hb
  have hc := blk_grown h1.blk hg (fun e => (h1.rows.1 g e.symm).1 rfl)
  exact ⟨good, h.lo, set_rows hc v1 rs, Kd.R_far (p := ⟨g, 0, none⟩) ho (fun k hk => hk.1) v1, Kd.R_far (p := ⟨g, 0, none⟩) (R_beside (e' := 0) h1.kept hg hat) (fun k hk => hk.1) v1⟩
end
end
theorem setCells_block {w : World} {g o : Nat} {e : TypeId} {cur : Array Value} (vs : List Value) (h : w.heap[g]? = some (.cells cur e (0, 0))) (hl : o + vs.length ≤ cur.size) :
    (w.setCells g o vs).heap[g]? = some (.cells (cur.toList.take o ++ vs ++ cur.toList.drop (o + vs.length)).toArray e (0, 0)) := by
  obtain ⟨cur', h1, h2, h3⟩ := setCells_row vs o w cur h hl
  rw [h1, ← h3]
/-- tr is a type of 37 whole numbers, ts a slice of it. -/
structure RowTy (tr ts : TypeId) : Prop where
  info : (Try.prog.info? tr).map (fun i => (i.zero, i.size, i.bytes)) = some (some (.agg (Array.replicate 37 (.int .i64 0))), 37, 296)
  under : ∃ d, Try.prog.underlying tr = some d ∧ d.isRow = true
  slice : Try.prog.underlying ts = some (.slice tr)
theorem rowTy : RowTy 145 111 := ⟨info145, ⟨_, Try.underlying145, rfl⟩, Try.underlying111⟩
section
variable {tr ts : TypeId} (T : RowTy tr ts) {ops : Array Oper} {rest : List Oper} {op : Oper} {a : Act} {w : World} {Q : Exit → Act → World → Prop} {l : List Int}
include T
theorem RowTy.sz (hl : l.length = 37) : (Try.prog.info? tr).map (·.size) = some (nums .i64 l).length := by
  obtain ⟨i0, hi, hzz⟩ := Option.map_eq_some_iff.1 T.info
  simp only [Prod.mk.injEq] at hzz
  rw [hi, Option.map_some, hzz.2.1, nums_length, hl]
theorem load_rowW (hgd : op.guard = none) (x : Operand) (ho : op.op = .load tr x) (b o : Nat) (hx : a.eval x = .pointer (some ⟨b, o, none⟩)) (l : List Int) (hl : l.length = 37) (hc : w.rangeAt b o (nums .i64 l))
    (h : wpList Try.prog ops Q rest (a.put op.dst (.agg (nums .i64 l).toArray)) w) : wpList Try.prog ops Q (op :: rest) a w := by
  obtain ⟨d, hd, hr⟩ := T.under
  exact wpList_load_mid hgd tr x ho b o hx _ d hc hd hr (T.sz hl) h
theorem store_rowW (hgd : op.guard = none) (x y : Operand) (ho : op.op = .store tr x y) (b o : Nat) (l : List Int) (hl : l.length = 37) (hx : a.eval x = .pointer (some ⟨b, o, none⟩)) (hy : a.eval y = .agg (nums .i64 l).toArray) (ht : w.there b o 37)
    (h : wpList Try.prog ops Q rest (a.put op.dst undef) (w.setCells b o (nums .i64 l))) : wpList Try.prog ops Q (op :: rest) a w := by
  have hn : (nums .i64 l).toArray.size = 37 := by rw [List.size_toArray, nums_length, hl]
  refine wpList_store_mid hgd tr x y ho b o _ hx hy (by rw [hn]; exact ht) (by rw [hn]; have := T.sz hl; rwa [nums_length, hl] at this) (all_oneCell_toArray (fun v hv => ?_)) (by simpa using h)
  obtain ⟨n, _, rfl⟩ := List.mem_map.1 hv
  rfl
theorem alloc_rowK {K : Act → World → Prop} (ho : op.op = .alloc tr) (h : K (a.put op.dst (.pointer (some ⟨w.heap.size, 0, none⟩))) (w.alloc (.cells (nums .i64 zrow).toArray tr))) : op.wp Try.prog a w K Q := by
  obtain ⟨i0, hi, hzz⟩ := Option.map_eq_some_iff.1 T.info
  simp only [Prod.mk.injEq] at hzz
  obtain ⟨hz0, hz1, hz2⟩ := hzz
  have hz : (zeroValue tr).run Try.prog w = .ok (.agg (nums .i64 zrow).toArray) w := by
    have hZ : Array.replicate 37 (Value.int .i64 0) = (nums .i64 zrow).toArray := by
      rw [zrow, nums, List.map_replicate, List.toArray_replicate]
    rw [hZ] at hz0
    generalize (nums .i64 zrow).toArray = Z at *
    simp [zeroValue, typeInfo, hi, hz0]
  generalize (nums .i64 zrow).toArray = Z at *
  have hr : (execOp a.eval op).run Try.prog w = .ok (.value (.pointer (some ⟨w.heap.size, 0, none⟩))) (w.alloc (.cells Z tr)) := by
    unfold execOp
    simp only [ho, Instr.alloc, Sem.run_bind, hz, Result.andThen_ok]
    simp [newVar, newRow, Value.cells]
  unfold Oper.wp
  rw [hr]
  exact h
theorem store_rowK {K : Act → World → Prop} (x y : Operand) (ho : op.op = .store tr x y) (b o : Nat) (l : List Int) (hl : l.length = 37) (hx : a.eval x = .pointer (some ⟨b, o, none⟩)) (hy : a.eval y = .agg (nums .i64 l).toArray) (ht : w.there b o 37)
    (h : K (a.put op.dst undef) (w.setCells b o (nums .i64 l))) : op.wp Try.prog a w K Q := by
  have hn : (nums .i64 l).toArray.size = 37 := by rw [List.size_toArray, nums_length, hl]
  refine wp_store_mid tr x y ho b o _ hx hy (by rw [hn]; exact ht) (by rw [hn]; have := T.sz hl; rwa [nums_length, hl] at this) (all_oneCell_toArray (fun v hv => ?_)) (by simpa using h)
  obtain ⟨n, _, rfl⟩ := List.mem_map.1 hv
  rfl
end
/-- A row's box: what was stored into the variable that was just made. -/
theorem box_new {tr : TypeId} {w : World} {l : List Int} {g : Nat} (hg : g = w.heap.size) (hl : l.length = 37) : ((w.alloc (.cells (nums .i64 zrow).toArray tr)).setCells g 0 (nums .i64 l)).heap[g]? = some (.cells (nums .i64 l).toArray tr (0, 0)) ∧
    Below w.heap.size w ((w.alloc (.cells (nums .i64 zrow).toArray tr)).setCells g 0 (nums .i64 l)) := by
  subst hg
  have h0 := blk_new w (.cells (nums .i64 zrow).toArray tr)
  have hn : (nums .i64 zrow).length = 37 := by rw [nums_length, zrow_len]
  have hn2 : (nums .i64 l).length = 37 := by rw [nums_length, hl]
  refine ⟨?_, ?_⟩
  · rw [setCells_block (nums .i64 l) h0 (by rw [hn2, List.size_toArray, hn]; decide)]
    rw [List.take_zero, List.nil_append, hn2, List.drop_of_length_le (by rw [hn]; decide), List.append_nil]
  · obtain ⟨h1, h2, h3, h4⟩ := setCells_same w.heap.size (nums .i64 l) 0 (w.alloc (.cells (nums .i64 zrow).toArray tr))
    have hb := below_alloc (Below.refl w.heap.size w) (.cells (nums .i64 zrow).toArray tr)
    exact ⟨h1.trans hb.os, h2.trans hb.tape, h3.trans hb.output, by rw [h4]; exact hb.size, fun k hk => (setCells_far _ 0 k (by omega)).trans (hb.block k hk)⟩
theorem grown_setCells (w : World) (g o : Nat) (vs : List Value) : w.grownBy (w.setCells g o vs) (some g) := by
  obtain ⟨h1, h2, h3, h4⟩ := setCells_same g vs o w
  exact ⟨h1, h2, h3, by rw [h4]; exact Nat.le_refl _, fun k _ hk => setCells_far vs o k (fun e => hk (by rw [e]))⟩
section
variable {w w' : World} {base g : Nat} {t t' : T} {rv kv : Value}
theorem set_nowAll (hb : w.heap[g]? = some (.cells (cells rv kv t).toArray 147 (0, 0))) (h : Good t) (l : Row) (hl : l.length = 37) :
    (w.setCells g 1 (nums .i64 l)).heap[g]? = some (.cells (cells rv kv { t with now := l }).toArray 147 (0, 0)) := by
  rw [setCells_block _ hb (by rw [nums_length, hl, List.size_toArray, cells_len h]; omega), nums_length, hl]
  rw [cells, cells]
  simp only [List.take_succ_cons, List.take_zero, List.drop_succ_cons, List.cons_append, List.nil_append]
  rw [List.drop_left' (by rw [nums_length, h.now])]
theorem set_firstAll (hb : w.heap[g]? = some (.cells (cells rv kv t).toArray 147 (0, 0))) (h : Good t) (l : Row) (hl : l.length = 37) :
    (w.setCells g 38 (nums .i64 l)).heap[g]? = some (.cells (cells rv kv { t with first := l }).toArray 147 (0, 0)) := by
  rw [setCells_block _ hb (by rw [nums_length, hl, List.size_toArray, cells_len h]; omega), nums_length, hl]
  rw [cells, cells]
  have h1 : (nums .i64 t.now).length = 37 := by rw [nums_length, h.now]
  have h2 : (nums .i64 t.first).length = 37 := by rw [nums_length, h.first]
  rw [show 38 = 37 + 1 from rfl, show 37 + 1 + 37 = 74 + 1 from rfl, List.take_succ_cons, List.drop_succ_cons, List.take_left' h1, ← List.append_assoc (nums .i64 t.now), List.drop_left' (by rw [List.length_append, h1, h2])]
  simp only [List.cons_append, List.append_assoc]
theorem there_of_blk {cs : Array Value} {e : TypeId} {b o n : Nat} (hb : w.heap[b]? = some (.cells cs e (0, 0))) (hl : o + n ≤ cs.size) : w.there b o n := fun j hj => by
  refine ⟨?_, blk_frozen hb _⟩
  rw [blk_cell hb, Array.getElem?_eq_getElem (by omega)]
  rfl
theorem range_of_blk {cs : List Value} {e : TypeId} {b : Nat} (hb : w.heap[b]? = some (.cells cs.toArray e (0, 0))) : w.rangeAt b 0 cs := fun j v hv => by
  rw [blk_cell hb, List.getElem?_toArray, Nat.zero_add]
  exact hv
end
end Go.Proofs.Ytfgfnflhdabmcaa.Cfa
end
