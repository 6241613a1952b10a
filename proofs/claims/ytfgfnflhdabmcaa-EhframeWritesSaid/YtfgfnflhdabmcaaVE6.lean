/- Lemmas and contracts, one text behind the other: what the row of this claim needs; no conditions beyond those that each theorem names. -/
import Derived.Test.YtfgfnflhdabmcaaVE5
set_option linter.unusedVariables false
set_option linter.unusedSimpArgs false
set_option maxRecDepth 100000
section
namespace Go.Proofs.Ytfgfnflhdabmcaa.G
open Go.RowKit Go.Proofs.YtfgfnflhdabmcaaW.PrintWords Go.Proofs.YtfgfnflhdabmcaaW.PrintLast Go.Proofs.YtfgfnflhdabmcaaW.PrintMore
attribute [local go_sem] max2_int min2_int max_two min_two max_three min_three max_four min_four
mutual
def gangwayref14_Write.j0 : Nat → List (S43) → List (S61) → Int → Bool → Int → Bool → Option (List Int × List Int × Int)
  | 0, _, _, _, _, _, _ => none
  | k + 1, x0, x1, x2, x3, x11, x32 => if x32 = true then (gangwayref14_Write.j1 k x0 x1 x2 x3 11) else (gangwayref14_Write.j1 k x0 x1 x2 x3 x11)
def gangwayref14_Write.j1 : Nat → List (S43) → List (S61) → Int → Bool → Int → Option (List Int × List Int × Int)
  | 0, _, _, _, _, _ => none
  | k + 1, x0, x1, x2, x3, x11 => if x11 = 0 then (if 0 ≤ (x1.length : Int) then (if ((x1.length : Int) : Int).toNat ≤ 35184372088832 then (gangwayref14_Write.l0 k x0 x1 x2 x3 ([] : List Int) (List.replicate ((x1.length : Int) : Int).toNat 0) false 0) else (none)) else (none)) else (some (([] : List Int), ([] : List Int), x11))
def gangwayref14_Write.l0 : Nat → List (S43) → List (S61) → Int → Bool → List Int → List Int → Bool → Int → Option (List Int × List Int × Int)
  | 0, _, _, _, _, _, _, _, _ => none
  | k + 1, x0, x1, x2, x3, x12, x13, x14, x15 => if x15 < (x0.length : Int) then (if 0 ≤ x15 then ((gangwayref14_cie.f k ((rd_T43 x0 x15).f0) ((rd_T43 x0 x15).f1)).bind fun t106 => (if x12.length + t106.length < 140737488355328 then (gangwayref14_Write.l1 k x0 x1 x2 x3 (x12 ++ t106) x13 x14 x15 (x12.length : Int) 0) else (none))) else (none)) else (if x3 = true then ((some (([0, 0, 0, 0] : List Int) : List Int)).bind fun y123 => (if x12.length + y123.length < 140737488355328 then ((some (x12 ++ y123 : List Int)).bind fun y126 => (if x14 = true then (some (([] : List Int), ([] : List Int), 6)) else (if (y126.length : Int) > 1048576 then (some (([] : List Int), ([] : List Int), 6)) else (some (y126, x13, 0))))) else (none))) else (if x14 = true then (some (([] : List Int), ([] : List Int), 6)) else (if (x12.length : Int) > 1048576 then (some (([] : List Int), ([] : List Int), 6)) else (some (x12, x13, 0)))))
def gangwayref14_Write.l1 : Nat → List (S43) → List (S61) → Int → Bool → List Int → List Int → Bool → Int → Int → Int → Option (List Int × List Int × Int)
  | 0, _, _, _, _, _, _, _, _, _, _ => none
  | k + 1, x0, x1, x2, x3, x12, x13, x14, x15, x16, x17 => if x17 < (x1.length : Int) then (if 0 ≤ x17 then (if ((rd_T61 x1 x17).f0) = x15 then (if x17 < (x13.length : Int) then (if 0 ≤ x15 then (if x15 < (x0.length : Int) then ((gangwayref14_fde.f k ((rd_T61 x1 x17).f0) ((rd_T61 x1 x17).f1) ((rd_T61 x1 x17).f2) ((rd_T61 x1 x17).f3) ((rd_T43 x0 x15).f0) (x12.length : Int) x16 x2).bind fun bt116 => (if bt116.2 = 0 then (if x12.length + bt116.1.length < 140737488355328 then (gangwayref14_Write.l1 k x0 x1 x2 x3 (x12 ++ bt116.1) (x13.set (x17 : Int).toNat (x12.length : Int)) x14 x15 x16 (wrap64 (x17 + 1))) else (none)) else (some (([] : List Int), ([] : List Int), bt116.2)))) else (none)) else (none)) else (none)) else (gangwayref14_Write.l1 k x0 x1 x2 x3 x12 x13 x14 x15 x16 (wrap64 (x17 + 1)))) else (none)) else (if x14 = true then (gangwayref14_Write.l0 k x0 x1 x2 x3 x12 x13 true (wrap64 (x15 + 1))) else (gangwayref14_Write.l0 k x0 x1 x2 x3 x12 x13 (decide ((x12.length : Int) > 1048576)) (wrap64 (x15 + 1))))
end
def gangwayref14_Write.f (k : Nat) (l0 : List (S43)) (l1 : List (S61)) (a2 : Int) (a3 : Bool) : Option (List Int × List Int × Int) := (gangwayref14_Check.f k l0 l1).bind fun t101 => (if t101 = 0 then (if a2 < 0 then (gangwayref14_Write.j0 k l0 l1 a2 a3 t101 true) else (gangwayref14_Write.j0 k l0 l1 a2 a3 t101 (decide (a2 > 576460752303423488)))) else (gangwayref14_Write.j0 k l0 l1 a2 a3 t101 false))
def gangwayref14_Write.T19 : Bool × List (List Nat × List Nat) := (true, [([], []), ([], []), ([0, 1], [0, 1]), ([2], [2]), ([], []), ([], []), ([4, 5], [4, 5]), ([6], [6]), ([7], [7]), ([], []), ([9], [9]), ([], []), ([], []), ([3, 8, 10, 11, 12], [3, 8, 10, 11, 12]), ([13], [13]), ([14], [14]), ([14], [14]), ([15, 13, 0, 1, 2, 3, 4, 5, 6, 7, 8, 9, 10, 11, 12, 13, 14, 15], [15]), ([16, 17, 0, 1, 2, 3, 4, 5, 6, 7, 8, 9, 10, 11, 12, 13, 14, 15, 16, 17], [16])])
def gangwayref14_Write.B19 : List Nat := [0, 0, 3, 7, 0, 0, 48, 112, 240, 0, 512, 0, 0, 8191, 16383, 32767, 32767, 65535, 262143]
theorem gangwayref14_Write.tab19 : rtab .any (opsOf Try.f10 19) = gangwayref14_Write.T19 := by kernel_rfl
theorem gangwayref14_Write.bits19 : waitsOk gangwayref14_Write.T19.2 gangwayref14_Write.B19 = true := by kernel_rfl
set_option maxHeartbeats 8000000 in
theorem gangwayref14_Write.calls (k : Nat) (A0 : Option Addr) (c0 : Nat) (l0 : List (S43)) (A1 : Option Addr) (c1 : Nat) (l1 : List (S61)) (a2 : Int) (a3 : Bool) (r1 : List Int) (r2 : List Int) (r3 : Int) (w : World) (hr0 : Kd.C k43 w A0 l0.length l0) (hc0 : l0.length ≤ c0) (hr1 : Kd.C k61 w A1 l1.length l1) (hc1 : l1.length ≤ c1) (h : gangwayref14_Write.f k l0 l1 a2 a3 = some (r1, r2, r3)) :
    Calls Try.prog 10 #[.slice A0 l0.length c0, .slice A1 l1.length c1, .int .i64 a2, .bool a3] w fun e w' => ∃ v0_ v1_ : Value, e = .returned (.tuple #[v0_, v1_, .int .i64 r3]) ∧ Kd.R (Kd.int .u8) 5 w' w.heap.size (fun _ => True) v0_ r1 ∧ Kd.R (Kd.int .i64) 3 w' w.heap.size (fun _ => True) v1_ r2 ∧ Below w.heap.size w w' := by
 have hu43 := Try.underlying43
 have hu61 := Try.underlying61
 have HR0 := am hr0
 have HC0 := am hc0
 clear hr0 hc0
 have HR1 := am hr1
 have HC1 := am hc1
 clear hr1 hc1
 have HB := am (Below.refl w.heap.size w)
 have H : ((gangwayref14_Check.f k l0 l1).bind fun t101 => (if t101 = 0 then (if a2 < 0 then (gangwayref14_Write.j0 k l0 l1 a2 a3 t101 true) else (gangwayref14_Write.j0 k l0 l1 a2 a3 t101 (decide (a2 > 576460752303423488)))) else (gangwayref14_Write.j0 k l0 l1 a2 a3 t101 false))) = some (r1, r2, r3) := h
 clear h
 replace H := Option.bind_eq_some_iff.mp H
 obtain ⟨t101, A50, H⟩ := H
 replace H : (if t101 = 0 then (if a2 < 0 then (gangwayref14_Write.j0 k l0 l1 a2 a3 t101 true) else (gangwayref14_Write.j0 k l0 l1 a2 a3 t101 (decide (a2 > 576460752303423488)))) else (gangwayref14_Write.j0 k l0 l1 a2 a3 t101 false)) = some (r1, r2, r3) := H
 have A5 := am A50
 clear A50
 have HC6 := am H
 clear H
 go_enter Try.func10, Try.ntmps10
 go_upto_region 2 with (first | ((with_reducible refine gate_callee (f := 13) rfl ?_); refine goesL_ (some 22) rfl rfl Try.func13 (by kernel_rfl) rfl #[.slice A0 l0.length c0, .slice A1 l1.length c1] rfl (by simp only [ml]; try rfl) ?_; (with_reducible refine (gangwayref14_Check.calls k _ _ l0 _ _ l1 t101 _ ?side1 ?side2 ?side3 ?side4 A5.out).mono ?_); (case side1 => exact Kd.C_o HR0.out); (case side2 => exact HC0.out); (case side3 => exact Kd.C_o HR1.out); (case side4 => exact HC1.out); rintro e w7 ⟨rfl, hb⟩; refine ⟨_, rfl, ?_⟩; have n0_ := am (below_step (by exact bl_o HB.out) hb); clear HB; have HB := n0_; clear n0_))
 (try simp only [Act.put, List.setIfInBounds_toArray, List.set_cons_zero, List.set_cons_succ])
 go_cut [32] (fun v32 wc => ∃ (kq : Nat) (x32_5 : Bool), v32 = .bool x32_5 ∧ Aside0 (gangwayref14_Write.j0 kq l0 l1 a2 a3 t101 x32_5 = some (r1, r2, r3)) ∧ Aside0 (kq ≤ k) ∧ Aside0 (Below w.heap.size w wc))
 case first =>
  have H := HC6.out
  clear HC6
  by_cases c8 : t101 = 0
  rotate_left
  ·
   rw [if_neg c8] at H
   have c8b0 : (t101 == 0) = false := beq_eq_false_iff_ne.mpr c8
   have c8b1 : (t101 != 0) = true := bne_iff_ne.mpr c8
   (first | rw [c8b0] | (simp only [i64_w, i32_w]; rw [c8b0]) | skip)
   have H' := am H
   clear H
   go_wp2
   go_meet
   case rel => exact ⟨_, (false), (by first | rfl | (simp; done) | (simp [*]; done)), H', ⟨by first | omega | exact Nat.le_refl _⟩, ⟨by exact bl_g HB.out⟩⟩
  rw [if_pos c8] at H
  have c8b0 : (t101 == 0) = true := beq_iff_eq.mpr c8
  have c8b1 : (t101 != 0) = false := bne_eq_false_iff_eq.mpr c8
  clear c8
  (first | rw [c8b0] | (simp only [i64_w, i32_w]; rw [c8b0]) | skip)
  by_cases c9 : a2 < 0
  ·
   rw [if_pos c9] at H
   have c9b0 : decide (a2 < 0) = true := decide_eq_true c9
   clear c9
   have H' := am H
   clear H
   go_wp2
   go_meet
   case rel => exact ⟨_, (true), (by first | rfl | (simp; done) | (simp [*]; done)), H', ⟨by first | omega | exact Nat.le_refl _⟩, ⟨by exact bl_g HB.out⟩⟩
  rw [if_neg c9] at H
  have c9b0 : decide (a2 < 0) = false := decide_eq_false c9
  clear c9
  have H' := am H
  clear H
  go_wp2
  go_meet
  case rel => exact ⟨_, (decide (a2 > 576460752303423488)), (by first | rfl | (simp; done) | (simp [*]; done)), H', ⟨by first | omega | exact Nat.le_refl _⟩, ⟨by exact bl_g HB.out⟩⟩
 case rest =>
  clear HC6
  try clear c1
  try clear p2
  try clear c8
  try clear c8b0
  try clear c8b1
  try clear c9
  try clear c9b0
  obtain ⟨kq, x32_5, rfl, HA, HJ5, HB⟩ := hcut
  cases kq with
  | zero => exact absurd HA.out (by simp [gangwayref14_Write.j0])
  | succ kj5 =>
   have H := HA.out
   clear HA
   simp only [gangwayref14_Write.j0] at H
   have HC10 := am H
   clear H
   go_upto_if 32 with (fail)
   go_cut [11] (fun v11 wc => ∃ (kq : Nat) (x11_9 : Int), v11 = .int .i64 x11_9 ∧ Aside0 (gangwayref14_Write.j1 kq l0 l1 a2 a3 x11_9 = some (r1, r2, r3)) ∧ Aside0 (kq ≤ kj5) ∧ Aside0 (Below w.heap.size w wc))
   case first =>
    have H := HC10.out
    clear HC10
    by_cases c11 : x32_5 = true
    ·
     subst c11
     replace H : (gangwayref14_Write.j1 kj5 l0 l1 a2 a3 11) = some (r1, r2, r3) := by rw [if_pos rfl] at H; exact H
     have H' := am H
     clear H
     go_wp2
     go_meet
     case rel => exact ⟨_, (11), (by first | rfl | (simp; done) | (simp [*]; done)), H', ⟨by have := HJ5.out; first | omega | exact Nat.le_refl _⟩, ⟨by exact bl_g HB.out⟩⟩
    replace c11 := Bool.eq_false_iff.mpr c11
    subst c11
    replace H : (gangwayref14_Write.j1 kj5 l0 l1 a2 a3 t101) = some (r1, r2, r3) := by rw [if_neg (show ¬ (false = true) by decide)] at H; exact H
    have H' := am H
    clear H
    go_wp2
    go_meet
    case rel => exact ⟨_, (t101), (by first | rfl | (simp; done) | (simp [*]; done)), H', ⟨by have := HJ5.out; first | omega | exact Nat.le_refl _⟩, ⟨by exact bl_g HB.out⟩⟩
   case rest =>
    clear HC10
    try clear c1
    try clear p2
    try clear c8
    try clear c8b0
    try clear c8b1
    try clear c9
    try clear c9b0
    try clear c10
    try clear c11
    try clear p2
    obtain ⟨kq, x11_9, rfl, HA, HJ9, HB⟩ := hcut
    cases kq with
    | zero => exact absurd HA.out (by simp [gangwayref14_Write.j1])
    | succ kj9 =>
     have H := HA.out
     clear HA
     simp only [gangwayref14_Write.j1] at H
     by_cases c12 : x11_9 = 0
     rotate_left
     ·
      rw [if_neg c12] at H
      have c12b0 : (x11_9 == 0) = false := beq_eq_false_iff_ne.mpr c12
      have c12b1 : (x11_9 != 0) = true := bne_iff_ne.mpr c12
      simp only [Option.some.injEq, Prod.mk.injEq] at H
      obtain ⟨rfl, rfl, rfl⟩ := H
      go_wp2
      go_ret3
      exact ⟨_, _, rfl, by first | exact Kd.R_nil _ _ _ _ _ | exact Kd.N_nil _ _ _ _ _, by first | exact Kd.R_nil _ _ _ _ _ | exact Kd.N_nil _ _ _ _ _, by exact bl_g HB.out⟩
     rw [if_pos c12] at H
     have c12b0 : (x11_9 == 0) = true := beq_iff_eq.mpr c12
     have c12b1 : (x11_9 != 0) = false := bne_eq_false_iff_eq.mpr c12
     clear c12
     by_cases c13 : 0 ≤ (l1.length : Int)
     rotate_left
     ·
      rw [if_neg c13] at H
      exact absurd H (by simp)
     rw [if_pos c13] at H
     have c13b0 := eq_true c13
     have c13b1 : decide (0 ≤ (l1.length : Int)) = true := decide_eq_true c13
     clear c13
     by_cases c14 : ((l1.length : Int) : Int).toNat ≤ 35184372088832
     rotate_left
     ·
      rw [if_neg c14] at H
      exact absurd H (by simp)
     rw [if_pos c14] at H
     have c14b0 := eq_true c14
     have c14b1 : decide (((l1.length : Int) : Int).toNat ≤ 35184372088832) = true := decide_eq_true c14
     clear c14
     obtain ⟨y102, hy102⟩ : ∃ y_ : List Int, y_ = (List.replicate ((l1.length : Int) : Int).toNat 0) := ⟨_, rfl⟩
     replace H : (gangwayref14_Write.l0 kj9 l0 l1 a2 a3 ([] : List Int) y102 false 0) = some (r1, r2, r3) := by first | (rw [hy102]; with_reducible exact H) | (have H2_ := (Option.bind_some _ _).symm.trans H; rw [hy102]; with_reducible exact H2_)
     have Ny102 := am hy102
     clear hy102
     have H' := am H
     clear H
     go_wp2_with (first | ((with_reducible refine gate_dst (N := 38) rfl ?_); (try (refine gate_guard (by rfl) ?_; dsimp only)); refine Kd.R_make (Kd.int .i64) _ 3 rfl (N := 38) rfl 29 _ _ rfl (l1.length : Int) rfl rfl Try.underlying29 (.int .i64 0) 8 info3 rfl (by decide) (by omega) 0 (ok := fun _ => True) (okp := fun _ => True) rfl (fun _ hk => hk) trivial (od) (Nat.le_trans (Nat.mul_le_mul_right _ (od : (l1.length : Int).toNat ≤ 35184372088832)) (by omega)) (Below.refl _ _) (Nat.le_refl _) ?_; intro v103 w15 ho16 hb hg_ hnew_; clear hg_ hnew_; (first | rw [← Ny102.out] at ho16 | (simp only [Int.reduceToNat] at ho16; rw [← Ny102.out] at ho16)); refine mv2 (am (Kd.R_lower ho16 (below_size (by exact bl_o HB.out)))) (am (below_step (by exact bl_o HB.out) hb)) ?_; clear HB; intro HO104 HB; clear hb ho16))
     go_loopg [12, 14, 15] kj9 (fun kq v12 v14 v15 w' => ∃ (x12_3 : List Int) (x13_3 : List Int) (x14_3 : Bool) (x15_3 : Int), v14 = .bool x14_3 ∧ v15 = .int .i64 x15_3 ∧ Aside0 (gangwayref14_Write.l0 kq l0 l1 a2 a3 x12_3 x13_3 x14_3 x15_3 = some (r1, r2, r3)) ∧ Aside0 (kq ≤ kj9) ∧ Aside0 (Kd.R (Kd.int .u8) 5 w' w.heap.size (fun _ => True) v12 x12_3) ∧ Aside0 (Kd.R (Kd.int .i64) 3 w' w.heap.size (fun _ => True) v103 x13_3) ∧ Aside0 (Below w.heap.size w w'))
     case atStart => exact ⟨(([] : List Int)), (y102), (false), (0), (by first | rfl | (simp; done) | (simp [*]; done)), (by first | rfl | (simp; done) | (simp [*]; done)), H', ⟨Nat.le_refl _⟩, ⟨by first | exact Kd.R_nil _ _ _ _ _ | exact Kd.N_nil _ _ _ _ _⟩, ⟨by (with_reducible repeat (first | apply Kd.R_alloc | apply Kd.R_drewN | apply Kd.R_drew)); exact HO104.out⟩, ⟨by exact bl_g HB.out⟩⟩
     case round =>
      clear H'
      try clear c1
      try clear p2
      try clear c8
      try clear c8b0
      try clear c8b1
      try clear c9
      try clear c9b0
      try clear c10
      try clear c11
      try clear c12
      try clear c12b0
      try clear c12b1
      try clear c13
      try clear c13b0
      try clear c13b1
      try clear c14
      try clear c14b0
      try clear c14b1
      try clear p2
      obtain ⟨x12_3, x13_3, x14_3, x15_3, rfl, rfl, HA, HK3, HO_12, HO_13, HB⟩ := hrel
      cases gk with
      | zero => exact absurd HA.out (by simp [gangwayref14_Write.l0])
      | succ k3 =>
       have H := HA.out
       clear HA
       simp only [gangwayref14_Write.l0] at H
       by_cases c17 : x15_3 < (l0.length : Int)
       rotate_left
       ·
        rw [if_neg c17] at H
        have c17b0 : decide (x15_3 < (l0.length : Int)) = false := decide_eq_false c17
        clear c17
        by_cases c49 : a3 = true
        rotate_left
        ·
         replace c49 := Bool.eq_false_iff.mpr c49
         subst c49
         replace H : (if x14_3 = true then (some (([] : List Int), ([] : List Int), 6)) else (if (x12_3.length : Int) > 1048576 then (some (([] : List Int), ([] : List Int), 6)) else (some (x12_3, x13_3, 0)))) = some (r1, r2, r3) := by rw [if_neg (show ¬ (false = true) by decide)] at H; exact H
         by_cases c67 : x14_3 = true
         ·
          subst c67
          replace H : (some (([] : List Int), ([] : List Int), 6)) = some (r1, r2, r3) := by rw [if_pos rfl] at H; exact H
          simp only [Option.some.injEq, Prod.mk.injEq] at H
          obtain ⟨rfl, rfl, rfl⟩ := H
          go_wp2
          go_ret3
          exact ⟨_, _, rfl, by first | exact Kd.R_nil _ _ _ _ _ | exact Kd.N_nil _ _ _ _ _, by first | exact Kd.R_nil _ _ _ _ _ | exact Kd.N_nil _ _ _ _ _, by exact bl_g HB.out⟩
         replace c67 := Bool.eq_false_iff.mpr c67
         subst c67
         replace H : (if (x12_3.length : Int) > 1048576 then (some (([] : List Int), ([] : List Int), 6)) else (some (x12_3, x13_3, 0))) = some (r1, r2, r3) := by rw [if_neg (show ¬ (false = true) by decide)] at H; exact H
         by_cases c68 : (x12_3.length : Int) > 1048576
         ·
          rw [if_pos c68] at H
          have c68b0 : decide (1048576 < (x12_3.length : Int)) = true := decide_eq_true c68
          have c68b1 : decide (1048576 < x12_3.length) = true := decide_eq_true (by omega)
          clear c68
          simp only [Option.some.injEq, Prod.mk.injEq] at H
          obtain ⟨rfl, rfl, rfl⟩ := H
          obtain ⟨Ao69, co69, eo69⟩ := Kd.R_slice HO_12.out
          subst eo69
          go_wp2
          go_ret3
          exact ⟨_, _, rfl, by first | exact Kd.R_nil _ _ _ _ _ | exact Kd.N_nil _ _ _ _ _, by first | exact Kd.R_nil _ _ _ _ _ | exact Kd.N_nil _ _ _ _ _, by exact bl_g HB.out⟩
         rw [if_neg c68] at H
         have c68b0 : decide (1048576 < (x12_3.length : Int)) = false := decide_eq_false c68
         have c68b1 : decide (1048576 < x12_3.length) = false := decide_eq_false (by omega)
         clear c68
         simp only [Option.some.injEq, Prod.mk.injEq] at H
         obtain ⟨rfl, rfl, rfl⟩ := H
         obtain ⟨Ao70, co70, eo70⟩ := Kd.R_slice HO_12.out
         subst eo70
         go_wp2
         go_ret3
         exact ⟨_, _, rfl, by (with_reducible repeat (first | apply Kd.R_alloc | apply Kd.R_drewN | apply Kd.R_drew)); exact HO_12.out, by (with_reducible repeat (first | apply Kd.R_alloc | apply Kd.R_drewN | apply Kd.R_drew)); exact HO_13.out, by exact bl_g HB.out⟩
        subst c49
        replace H : ((some (([0, 0, 0, 0] : List Int) : List Int)).bind fun y123 => (if x12_3.length + y123.length < 140737488355328 then ((some (x12_3 ++ y123 : List Int)).bind fun y126 => (if x14_3 = true then (some (([] : List Int), ([] : List Int), 6)) else (if (y126.length : Int) > 1048576 then (some (([] : List Int), ([] : List Int), 6)) else (some (y126, x13_3, 0))))) else (none))) = some (r1, r2, r3) := by rw [if_pos rfl] at H; exact H
        obtain ⟨y123, hy123⟩ : ∃ y_ : List Int, y_ = (([0, 0, 0, 0] : List Int)) := ⟨_, rfl⟩
        replace H : (if x12_3.length + y123.length < 140737488355328 then ((some (x12_3 ++ y123 : List Int)).bind fun y126 => (if x14_3 = true then (some (([] : List Int), ([] : List Int), 6)) else (if (y126.length : Int) > 1048576 then (some (([] : List Int), ([] : List Int), 6)) else (some (y126, x13_3, 0))))) else (none)) = some (r1, r2, r3) := by first | (rw [hy123]; with_reducible exact H) | (have H2_ := (Option.bind_some _ _).symm.trans H; rw [hy123]; with_reducible exact H2_)
        have Ny123 := am hy123
        clear hy123
        by_cases c50 : x12_3.length + y123.length < 140737488355328
        rotate_left
        ·
         rw [if_neg c50] at H
         exact absurd H (by simp)
        rw [if_pos c50] at H
        have LMc50 := am c50
        clear c50
        obtain ⟨y126, hy126⟩ : ∃ y_ : List Int, y_ = (x12_3 ++ y123) := ⟨_, rfl⟩
        replace H : (if x14_3 = true then (some (([] : List Int), ([] : List Int), 6)) else (if (y126.length : Int) > 1048576 then (some (([] : List Int), ([] : List Int), 6)) else (some (y126, x13_3, 0)))) = some (r1, r2, r3) := by first | (rw [hy126]; with_reducible exact H) | (have H2_ := (Option.bind_some _ _).symm.trans H; rw [hy126]; with_reducible exact H2_)
        have Ny126 := am hy126
        clear hy126
        by_cases c51 : x14_3 = true
        ·
         subst c51
         replace H : (some (([] : List Int), ([] : List Int), 6)) = some (r1, r2, r3) := by rw [if_pos rfl] at H; exact H
         simp only [Option.some.injEq, Prod.mk.injEq] at H
         obtain ⟨rfl, rfl, rfl⟩ := H
         go_wp2_with (first | ((with_reducible refine gate_dst (N := 103) rfl ?_); (try (refine gate_guard (by rfl) ?_; dsimp only)); refine Kd.R_lit (Kd.int .u8) _ 5 ?hg (N := 103) ?hd (xs := ([0, 0, 0, 0] : List Int)) (inner := [.int .u8 0, .int .u8 0, .int .u8 0, .int .u8 0]) (ok := fun _ => True) (okp := fun _ => True) ?hr ?hp (fun _ hk => hk) trivial (Below.refl _ _) (Nat.le_refl _) (by simp) ?_; (case hd => rfl); (case hg => rfl); (case hr => go_simp; try rfl); (case hp => exact (Reps.one (show Kd.M (Kd.int .u8) _ _ _ 0 [.int .u8 0] from rfl) (Reps.one (show Kd.M (Kd.int .u8) _ _ _ 0 [.int .u8 0] from rfl) (Reps.one (show Kd.M (Kd.int .u8) _ _ _ 0 [.int .u8 0] from rfl) (Reps.one (show Kd.M (Kd.int .u8) _ _ _ 0 [.int .u8 0] from rfl) (Reps.none _ _)))))); intro v124 w52 ho53 hb hg_ hnew_; clear hg_ hnew_; (first | rw [← Ny123.out] at ho53 | (simp only [Int.reduceToNat] at ho53; rw [← Ny123.out] at ho53)); refine mv4 (am (Kd.R_elder' (Kd.R_o HO_12.out) (Kd.R_base ho53) hb)) (am (Kd.R_below (Kd.R_o HO_13.out) hb)) (am (Kd.R_lower (Kd.R_new' ho53 (Kd.R_lt (Kd.R_o HO_12.out))) (below_size (by exact bl_o HB.out)))) (am (below_step (by exact bl_o HB.out) hb)) ?_; clear HO_12 HO_13 HB; intro HO_12 HO_13 HO125 HB; clear hb ho53; obtain ⟨Ao55, co55, eo55⟩ := Kd.R_slice HO125.out; subst eo55) | ((with_reducible refine gate_builtin (b := .append) (xs := #[.tmp 102, .tmp 103]) rfl ?_); (try (refine gate_guard (by rfl) ?_; dsimp only)); at_builtin; refine Kd.R_append_rows (Kd.int .u8) (w0 := w) w.heap.size rfl (.tmp 102) (.tmp 103) 28 5 (.int .u8 0) 1 rfl Try.underlying28 info5 rfl (by decide) (by omega) u12 x12_3 y123 _ _ _ (fun k_ => some k_ ≠ (.slice Ao55 y123.length co55 : Value).ownBlock) (fun _ => False) rfl rfl ?aO ?aR (fun _ _ h => h) (fun _ h => h.elim) ?aF ?aB ?aS ?aL ?_; (case aR => exact Kd.C_o ((Kd.R_reads' HO125.out).2.2)); (case aB => exact (by exact bl_o HB.out)); (case aF => exact (fun k_ hk => Kd.fresh' (Kd.R_lt (Kd.R_o HO125.out)) k_ hk)); (case aO => exact (Kd.R_o (Kd.R_mono HO_12.out (fun _ hk => hk.2)))); (case aS => exact (below_size (by exact bl_o HB.out))); (case aL => have := LMc50.out; omega); intro v127 w54 ho hb hg hat; rw [← Ny126.out] at ho; refine mv4 (am (Kd.R_over' (Kd.R_o HO_13.out) (Kd.R_typed (Kd.R_o HO_12.out)) (by decide) hg)) (am (Kd.R_after (ok := (fun _ => True)) (Kd.R_o HO125.out) hg hat)) (am (hb)) (am (ho)) ?_; clear HO_13 HO125 HB HO_12; intro HO_13 HO125 HB HO128; clear ho hb hg hat))
         go_ret3
         exact ⟨_, _, rfl, by first | exact Kd.R_nil _ _ _ _ _ | exact Kd.N_nil _ _ _ _ _, by first | exact Kd.R_nil _ _ _ _ _ | exact Kd.N_nil _ _ _ _ _, by exact bl_g HB.out⟩
        replace c51 := Bool.eq_false_iff.mpr c51
        subst c51
        replace H : (if (y126.length : Int) > 1048576 then (some (([] : List Int), ([] : List Int), 6)) else (some (y126, x13_3, 0))) = some (r1, r2, r3) := by rw [if_neg (show ¬ (false = true) by decide)] at H; exact H
        by_cases c56 : (y126.length : Int) > 1048576
        ·
         rw [if_pos c56] at H
         have c56b0 : decide (1048576 < (y126.length : Int)) = true := decide_eq_true c56
         have c56b1 : decide (1048576 < y126.length) = true := decide_eq_true (by omega)
         clear c56
         simp only [Option.some.injEq, Prod.mk.injEq] at H
         obtain ⟨rfl, rfl, rfl⟩ := H
         go_wp2_with (first | ((with_reducible refine gate_dst (N := 103) rfl ?_); (try (refine gate_guard (by rfl) ?_; dsimp only)); refine Kd.R_lit (Kd.int .u8) _ 5 ?hg (N := 103) ?hd (xs := ([0, 0, 0, 0] : List Int)) (inner := [.int .u8 0, .int .u8 0, .int .u8 0, .int .u8 0]) (ok := fun _ => True) (okp := fun _ => True) ?hr ?hp (fun _ hk => hk) trivial (Below.refl _ _) (Nat.le_refl _) (by simp) ?_; (case hd => rfl); (case hg => rfl); (case hr => go_simp; try rfl); (case hp => exact (Reps.one (show Kd.M (Kd.int .u8) _ _ _ 0 [.int .u8 0] from rfl) (Reps.one (show Kd.M (Kd.int .u8) _ _ _ 0 [.int .u8 0] from rfl) (Reps.one (show Kd.M (Kd.int .u8) _ _ _ 0 [.int .u8 0] from rfl) (Reps.one (show Kd.M (Kd.int .u8) _ _ _ 0 [.int .u8 0] from rfl) (Reps.none _ _)))))); intro v124 w57 ho58 hb hg_ hnew_; clear hg_ hnew_; (first | rw [← Ny123.out] at ho58 | (simp only [Int.reduceToNat] at ho58; rw [← Ny123.out] at ho58)); refine mv4 (am (Kd.R_elder' (Kd.R_o HO_12.out) (Kd.R_base ho58) hb)) (am (Kd.R_below (Kd.R_o HO_13.out) hb)) (am (Kd.R_lower (Kd.R_new' ho58 (Kd.R_lt (Kd.R_o HO_12.out))) (below_size (by exact bl_o HB.out)))) (am (below_step (by exact bl_o HB.out) hb)) ?_; clear HO_12 HO_13 HB; intro HO_12 HO_13 HO125 HB; clear hb ho58; obtain ⟨Ao60, co60, eo60⟩ := Kd.R_slice HO125.out; subst eo60) | ((with_reducible refine gate_builtin (b := .append) (xs := #[.tmp 102, .tmp 103]) rfl ?_); (try (refine gate_guard (by rfl) ?_; dsimp only)); at_builtin; refine Kd.R_append_rows (Kd.int .u8) (w0 := w) w.heap.size rfl (.tmp 102) (.tmp 103) 28 5 (.int .u8 0) 1 rfl Try.underlying28 info5 rfl (by decide) (by omega) u12 x12_3 y123 _ _ _ (fun k_ => some k_ ≠ (.slice Ao60 y123.length co60 : Value).ownBlock) (fun _ => False) rfl rfl ?aO ?aR (fun _ _ h => h) (fun _ h => h.elim) ?aF ?aB ?aS ?aL ?_; (case aR => exact Kd.C_o ((Kd.R_reads' HO125.out).2.2)); (case aB => exact (by exact bl_o HB.out)); (case aF => exact (fun k_ hk => Kd.fresh' (Kd.R_lt (Kd.R_o HO125.out)) k_ hk)); (case aO => exact (Kd.R_o (Kd.R_mono HO_12.out (fun _ hk => hk.2)))); (case aS => exact (below_size (by exact bl_o HB.out))); (case aL => have := LMc50.out; omega); intro v127 w59 ho hb hg hat; rw [← Ny126.out] at ho; refine mv4 (am (Kd.R_over' (Kd.R_o HO_13.out) (Kd.R_typed (Kd.R_o HO_12.out)) (by decide) hg)) (am (Kd.R_after (ok := (fun _ => True)) (Kd.R_o HO125.out) hg hat)) (am (hb)) (am (ho)) ?_; clear HO_13 HO125 HB HO_12; intro HO_13 HO125 HB HO128; clear ho hb hg hat; obtain ⟨Ao61, co61, eo61⟩ := Kd.R_slice HO128.out; subst eo61))
         go_ret3
         exact ⟨_, _, rfl, by first | exact Kd.R_nil _ _ _ _ _ | exact Kd.N_nil _ _ _ _ _, by first | exact Kd.R_nil _ _ _ _ _ | exact Kd.N_nil _ _ _ _ _, by exact bl_g HB.out⟩
        rw [if_neg c56] at H
        have c56b0 : decide (1048576 < (y126.length : Int)) = false := decide_eq_false c56
        have c56b1 : decide (1048576 < y126.length) = false := decide_eq_false (by omega)
        clear c56
        simp only [Option.some.injEq, Prod.mk.injEq] at H
        obtain ⟨rfl, rfl, rfl⟩ := H
        go_wp2_with (first | ((with_reducible refine gate_dst (N := 103) rfl ?_); (try (refine gate_guard (by rfl) ?_; dsimp only)); refine Kd.R_lit (Kd.int .u8) _ 5 ?hg (N := 103) ?hd (xs := ([0, 0, 0, 0] : List Int)) (inner := [.int .u8 0, .int .u8 0, .int .u8 0, .int .u8 0]) (ok := fun _ => True) (okp := fun _ => True) ?hr ?hp (fun _ hk => hk) trivial (Below.refl _ _) (Nat.le_refl _) (by simp) ?_; (case hd => rfl); (case hg => rfl); (case hr => go_simp; try rfl); (case hp => exact (Reps.one (show Kd.M (Kd.int .u8) _ _ _ 0 [.int .u8 0] from rfl) (Reps.one (show Kd.M (Kd.int .u8) _ _ _ 0 [.int .u8 0] from rfl) (Reps.one (show Kd.M (Kd.int .u8) _ _ _ 0 [.int .u8 0] from rfl) (Reps.one (show Kd.M (Kd.int .u8) _ _ _ 0 [.int .u8 0] from rfl) (Reps.none _ _)))))); intro v124 w62 ho63 hb hg_ hnew_; clear hg_ hnew_; (first | rw [← Ny123.out] at ho63 | (simp only [Int.reduceToNat] at ho63; rw [← Ny123.out] at ho63)); refine mv4 (am (Kd.R_elder' (Kd.R_o HO_12.out) (Kd.R_base ho63) hb)) (am (Kd.R_below (Kd.R_o HO_13.out) hb)) (am (Kd.R_lower (Kd.R_new' ho63 (Kd.R_lt (Kd.R_o HO_12.out))) (below_size (by exact bl_o HB.out)))) (am (below_step (by exact bl_o HB.out) hb)) ?_; clear HO_12 HO_13 HB; intro HO_12 HO_13 HO125 HB; clear hb ho63; obtain ⟨Ao65, co65, eo65⟩ := Kd.R_slice HO125.out; subst eo65) | ((with_reducible refine gate_builtin (b := .append) (xs := #[.tmp 102, .tmp 103]) rfl ?_); (try (refine gate_guard (by rfl) ?_; dsimp only)); at_builtin; refine Kd.R_append_rows (Kd.int .u8) (w0 := w) w.heap.size rfl (.tmp 102) (.tmp 103) 28 5 (.int .u8 0) 1 rfl Try.underlying28 info5 rfl (by decide) (by omega) u12 x12_3 y123 _ _ _ (fun k_ => some k_ ≠ (.slice Ao65 y123.length co65 : Value).ownBlock) (fun _ => False) rfl rfl ?aO ?aR (fun _ _ h => h) (fun _ h => h.elim) ?aF ?aB ?aS ?aL ?_; (case aR => exact Kd.C_o ((Kd.R_reads' HO125.out).2.2)); (case aB => exact (by exact bl_o HB.out)); (case aF => exact (fun k_ hk => Kd.fresh' (Kd.R_lt (Kd.R_o HO125.out)) k_ hk)); (case aO => exact (Kd.R_o (Kd.R_mono HO_12.out (fun _ hk => hk.2)))); (case aS => exact (below_size (by exact bl_o HB.out))); (case aL => have := LMc50.out; omega); intro v127 w64 ho hb hg hat; rw [← Ny126.out] at ho; refine mv4 (am (Kd.R_over' (Kd.R_o HO_13.out) (Kd.R_typed (Kd.R_o HO_12.out)) (by decide) hg)) (am (Kd.R_after (ok := (fun _ => True)) (Kd.R_o HO125.out) hg hat)) (am (hb)) (am (ho)) ?_; clear HO_13 HO125 HB HO_12; intro HO_13 HO125 HB HO128; clear ho hb hg hat; obtain ⟨Ao66, co66, eo66⟩ := Kd.R_slice HO128.out; subst eo66))
        go_ret3
        exact ⟨_, _, rfl, by (with_reducible repeat (first | apply Kd.R_alloc | apply Kd.R_drewN | apply Kd.R_drew)); exact Kd.R_mono HO128.out (fun _ hk => trivial), by (with_reducible repeat (first | apply Kd.R_alloc | apply Kd.R_drewN | apply Kd.R_drew)); exact HO_13.out, by exact bl_g HB.out⟩
       rw [if_pos c17] at H
       have c17b0 : decide (x15_3 < (l0.length : Int)) = true := decide_eq_true c17
       clear c17
       by_cases c18 : 0 ≤ x15_3
       rotate_left
       ·
        rw [if_neg c18] at H
        exact absurd H (by simp)
       rw [if_pos c18] at H
       have c18b0 : decide (0 ≤ x15_3) = true := decide_eq_true c18
       clear c18
       replace H := Option.bind_eq_some_iff.mp H
       obtain ⟨t106, A190, H⟩ := H
       replace H : (if x12_3.length + t106.length < 140737488355328 then (gangwayref14_Write.l1 k3 l0 l1 a2 a3 (x12_3 ++ t106) x13_3 x14_3 x15_3 (x12_3.length : Int) 0) else (none)) = some (r1, r2, r3) := H
       have A19 := am A190
       clear A190
       by_cases c20 : x12_3.length + t106.length < 140737488355328
       rotate_left
       ·
        rw [if_neg c20] at H
        exact absurd H (by simp)
       rw [if_pos c20] at H
       have LMc20 := am c20
       clear c20
       obtain ⟨y109, hy109⟩ : ∃ y_ : List Int, y_ = (x12_3 ++ t106) := ⟨_, rfl⟩
       replace H : (gangwayref14_Write.l1 k3 l0 l1 a2 a3 y109 x13_3 x14_3 x15_3 (x12_3.length : Int) 0) = some (r1, r2, r3) := by first | (rw [hy109]; with_reducible exact H) | (have H2_ := (Option.bind_some _ _).symm.trans H; rw [hy109]; with_reducible exact H2_)
       have Ny109 := am hy109
       clear hy109
       have H' := am H
       clear H
       obtain ⟨Ao21, co21, eo21⟩ := Kd.R_slice HO_12.out
       subst eo21
       have p105 : 0 ≤ (x15_3 : Int) := od
       have q105 : x15_3 < (l0.length : Int) := od
       obtain ⟨ad105, A105_1, c105_1, e105, hx105_0, hx105_1, hl105_1, hi105_1⟩ := at_T43 HR0.out x15_3 p105 q105
       cases e105
       replace hx105_0 := oc HB.out hx105_0
       replace hx105_1 := oc HB.out hx105_1
       have HR105_1 := am hi105_1
       have HC105_1 := am hl105_1
       clear hi105_1 hl105_1
       replace p105 := eq_true p105
       replace q105 := eq_true q105
       go_wp2_with (first | ((with_reducible refine gate_callee (f := 27) rfl ?_); refine goesL_ (some 52) rfl rfl Try.func27 (by kernel_rfl) rfl #[.agg #[.int .i64 ((rd_T43 l0 x15_3).f0), .slice A105_1 ((rd_T43 l0 x15_3).f1).length c105_1]] rfl (by simp only [ml]; try rfl) ?_; (with_reducible refine (gangwayref14_cie.calls k3 ((rd_T43 l0 x15_3).f0) _ _ ((rd_T43 l0 x15_3).f1) t106 _ ?side1 ?side2 A19.out).mono ?_); (case side1 => exact Kd.C_o (Kd.C_below HR105_1.out HB.out)); (case side2 => exact HC105_1.out); rintro e w22 ⟨v107, rfl, ho0, hb⟩; refine ⟨_, rfl, ?_⟩; refine mv4 (am (Kd.R_elder' (Kd.R_o HO_12.out) (Kd.R_base ho0) hb)) (am (Kd.R_below (Kd.R_o HO_13.out) hb)) (am (Kd.R_lower (Kd.R_new' ho0 (Kd.R_lt (Kd.R_o HO_12.out))) (below_size (by exact bl_o HB.out)))) (am (below_step (by exact bl_o HB.out) hb)) ?_; clear HO_12 HO_13 HB; intro HO_12 HO_13 HO108 HB; obtain ⟨Ao24, co24, eo24⟩ := Kd.R_slice HO108.out; subst eo24) | ((with_reducible refine gate_builtin (b := .append) (xs := #[.tmp 47, .tmp 52]) rfl ?_); (try (refine gate_guard (by rfl) ?_; dsimp only)); at_builtin; refine Kd.R_append_rows (Kd.int .u8) (w0 := w) w.heap.size rfl (.tmp 47) (.tmp 52) 28 5 (.int .u8 0) 1 rfl Try.underlying28 info5 rfl (by decide) (by omega) (.slice Ao21 x12_3.length co21) x12_3 t106 _ _ _ (fun k_ => some k_ ≠ (.slice Ao24 t106.length co24 : Value).ownBlock) (fun _ => False) rfl rfl ?aO ?aR (fun _ _ h => h) (fun _ h => h.elim) ?aF ?aB ?aS ?aL ?_; (case aR => exact Kd.C_o ((Kd.R_reads' HO108.out).2.2)); (case aB => exact (by exact bl_o HB.out)); (case aF => exact (fun k_ hk => Kd.fresh' (Kd.R_lt (Kd.R_o HO108.out)) k_ hk)); (case aO => exact (Kd.R_o (Kd.R_mono HO_12.out (fun _ hk => hk.2)))); (case aS => exact (below_size (by exact bl_o HB.out))); (case aL => have := LMc20.out; omega); intro v110 w23 ho hb hg hat; rw [← Ny109.out] at ho; refine mv4 (am (Kd.R_over' (Kd.R_o HO_13.out) (Kd.R_typed (Kd.R_o HO_12.out)) (by decide) hg)) (am (Kd.R_after (ok := (fun _ => True)) (Kd.R_o HO108.out) hg hat)) (am (hb)) (am (ho)) ?_; clear HO_13 HO108 HB HO_12; intro HO_13 HO108 HB HO111; clear ho hb hg hat))
       go_loopg [12, 17] k3 (fun kq v12 v17 w' => ∃ (x12_4 : List Int) (x13_4 : List Int) (x17_4 : Int), v17 = .int .i64 x17_4 ∧ Aside0 (gangwayref14_Write.l1 kq l0 l1 a2 a3 x12_4 x13_4 x14_3 x15_3 (x12_3.length : Int) x17_4 = some (r1, r2, r3)) ∧ Aside0 (kq ≤ k3) ∧ Aside0 (Kd.R (Kd.int .u8) 5 w' w.heap.size (fun _ => True) v12 x12_4) ∧ Aside0 (Kd.R (Kd.int .i64) 3 w' w.heap.size (fun _ => True) v103 x13_4) ∧ Aside0 (Below w.heap.size w w'))
       case atStart => exact ⟨(y109), (x13_3), (0), (by first | rfl | (simp; done) | (simp [*]; done)), H', ⟨Nat.le_refl _⟩, ⟨by (with_reducible repeat (first | apply Kd.R_alloc | apply Kd.R_drewN | apply Kd.R_drew)); exact Kd.R_mono HO111.out (fun _ hk => trivial)⟩, ⟨by (with_reducible repeat (first | apply Kd.R_alloc | apply Kd.R_drewN | apply Kd.R_drew)); exact HO_13.out⟩, ⟨by exact bl_g HB.out⟩⟩
       case round =>
        clear H'
        try clear c1
        try clear p1
        try clear q1
        try clear hx1
        try clear c2
        try clear p2
        try clear c8
        try clear c8b0
        try clear c8b1
        try clear c9
        try clear c9b0
        try clear c10
        try clear p10
        try clear q10
        try clear hx10
        try clear c11
        try clear c12
        try clear c12b0
        try clear c12b1
        try clear c13
        try clear c13b0
        try clear c13b1
        try clear c14
        try clear c14b0
        try clear c14b1
        try clear c17
        try clear c17b0
        try clear c18
        try clear c18b0
        try clear c20
        try clear hx105_0
        try clear hx105_1
        try clear p105
        try clear p2
        try clear q105
        obtain ⟨x12_4, x13_4, x17_4, rfl, HA, HK4, HO_12, HO_13, HB⟩ := hrel
        cases gk with
        | zero => exact absurd HA.out (by simp [gangwayref14_Write.l1])
        | succ k4 =>
         have H := HA.out
         clear HA
         simp only [gangwayref14_Write.l1] at H
         by_cases c25 : x17_4 < (l1.length : Int)
         rotate_left
         ·
          rw [if_neg c25] at H
          have c25b0 : decide (x17_4 < (l1.length : Int)) = false := decide_eq_false c25
          clear c25
          by_cases c47 : x14_3 = true
          ·
           subst c47
           replace H : (gangwayref14_Write.l0 k4 l0 l1 a2 a3 x12_4 x13_4 true (wrap64 (x15_3 + 1))) = some (r1, r2, r3) := by rw [if_pos rfl] at H; exact H
           have H' := am H
           clear H
           go_wp2
           go_roundg k4
           case measure => have := HJ5.out; have := HJ9.out; have := HK3.out; have := HK4.out; omega
           case rel => exact ⟨(x12_4), (x13_4), (true), (wrap64 (x15_3 + 1)), (by first | rfl | (simp; done) | (simp [*]; done)), (by first | rfl | (simp; done) | (simp [*]; done)), H', ⟨by have := HJ5.out; have := HJ9.out; have := HK3.out; have := HK4.out; omega⟩, ⟨by (with_reducible repeat (first | apply Kd.R_alloc | apply Kd.R_drewN | apply Kd.R_drew)); exact HO_12.out⟩, ⟨by (with_reducible repeat (first | apply Kd.R_alloc | apply Kd.R_drewN | apply Kd.R_drew)); exact HO_13.out⟩, ⟨by exact bl_g HB.out⟩⟩
          replace c47 := Bool.eq_false_iff.mpr c47
          subst c47
          replace H : (gangwayref14_Write.l0 k4 l0 l1 a2 a3 x12_4 x13_4 (decide ((x12_4.length : Int) > 1048576)) (wrap64 (x15_3 + 1))) = some (r1, r2, r3) := by rw [if_neg (show ¬ (false = true) by decide)] at H; exact H
          have H' := am H
          clear H
          obtain ⟨Ao48, co48, eo48⟩ := Kd.R_slice HO_12.out
          subst eo48
          go_wp2
          go_roundg k4
          case measure => have := HJ5.out; have := HJ9.out; have := HK3.out; have := HK4.out; omega
          case rel => exact ⟨(x12_4), (x13_4), (decide ((x12_4.length : Int) > 1048576)), (wrap64 (x15_3 + 1)), (by first | rfl | (simp; done) | (simp [*]; done)), (by first | rfl | (simp; done) | (simp [*]; done)), H', ⟨by have := HJ5.out; have := HJ9.out; have := HK3.out; have := HK4.out; omega⟩, ⟨by (with_reducible repeat (first | apply Kd.R_alloc | apply Kd.R_drewN | apply Kd.R_drew)); exact HO_12.out⟩, ⟨by (with_reducible repeat (first | apply Kd.R_alloc | apply Kd.R_drewN | apply Kd.R_drew)); exact HO_13.out⟩, ⟨by exact bl_g HB.out⟩⟩
         rw [if_pos c25] at H
         have c25b0 : decide (x17_4 < (l1.length : Int)) = true := decide_eq_true c25
         clear c25
         by_cases c26 : 0 ≤ x17_4
         rotate_left
         ·
          rw [if_neg c26] at H
          exact absurd H (by simp)
         rw [if_pos c26] at H
         have c26b0 : decide (0 ≤ x17_4) = true := decide_eq_true c26
         clear c26
         by_cases c27 : ((rd_T61 l1 x17_4).f0) = x15_3
         rotate_left
         ·
          rw [if_neg c27] at H
          have c27b0 : (((rd_T61 l1 x17_4).f0) == x15_3) = false := beq_eq_false_iff_ne.mpr c27
          have c27b1 : (((rd_T61 l1 x17_4).f0) != x15_3) = true := bne_iff_ne.mpr c27
          have H' := am H
          clear H
          have p112 : 0 ≤ (x17_4 : Int) := od
          have q112 : x17_4 < (l1.length : Int) := od
          obtain ⟨ad112, A112_3, c112_3, e112, hx112_0, hx112_1, hx112_2, hx112_3, hl112_3, hi112_3⟩ := at_T61 HR1.out x17_4 p112 q112
          cases e112
          replace hx112_0 := oc HB.out hx112_0
          replace hx112_1 := oc HB.out hx112_1
          replace hx112_2 := oc HB.out hx112_2
          replace hx112_3 := oc HB.out hx112_3
          have HR112_3 := am hi112_3
          have HC112_3 := am hl112_3
          clear hi112_3 hl112_3
          replace p112 := eq_true p112
          replace q112 := eq_true q112
          go_wp2
          go_roundg k4
          case measure => have := HJ5.out; have := HJ9.out; have := HK3.out; have := HK4.out; omega
          case rel => exact ⟨(x12_4), (x13_4), (wrap64 (x17_4 + 1)), (by first | rfl | (simp; done) | (simp [*]; done)), H', ⟨by have := HJ5.out; have := HJ9.out; have := HK3.out; have := HK4.out; omega⟩, ⟨by (with_reducible repeat (first | apply Kd.R_alloc | apply Kd.R_drewN | apply Kd.R_drew)); exact HO_12.out⟩, ⟨by (with_reducible repeat (first | apply Kd.R_alloc | apply Kd.R_drewN | apply Kd.R_drew)); exact HO_13.out⟩, ⟨by exact bl_g HB.out⟩⟩
         rw [if_pos c27] at H
         have c27b0 : (((rd_T61 l1 x17_4).f0) == x15_3) = true := beq_iff_eq.mpr c27
         have c27b1 : (((rd_T61 l1 x17_4).f0) != x15_3) = false := bne_eq_false_iff_eq.mpr c27
         clear c27
         by_cases c28 : x17_4 < (x13_4.length : Int)
         rotate_left
         ·
          rw [if_neg c28] at H
          exact absurd H (by simp)
         rw [if_pos c28] at H
         have c28b0 : decide (x17_4 < (x13_4.length : Int)) = true := decide_eq_true c28
         clear c28
         obtain ⟨y113, hy113⟩ : ∃ y_ : List Int, y_ = (x13_4.set (x17_4 : Int).toNat (x12_4.length : Int)) := ⟨_, rfl⟩
         replace H : (if 0 ≤ x15_3 then (if x15_3 < (l0.length : Int) then ((gangwayref14_fde.f k4 ((rd_T61 l1 x17_4).f0) ((rd_T61 l1 x17_4).f1) ((rd_T61 l1 x17_4).f2) ((rd_T61 l1 x17_4).f3) ((rd_T43 l0 x15_3).f0) (x12_4.length : Int) (x12_3.length : Int) a2).bind fun bt116 => (if bt116.2 = 0 then (if x12_4.length + bt116.1.length < 140737488355328 then (gangwayref14_Write.l1 k4 l0 l1 a2 a3 (x12_4 ++ bt116.1) y113 x14_3 x15_3 (x12_3.length : Int) (wrap64 (x17_4 + 1))) else (none)) else (some (([] : List Int), ([] : List Int), bt116.2)))) else (none)) else (none)) = some (r1, r2, r3) := by first | (rw [hy113]; with_reducible exact H) | (have H2_ := (Option.bind_some _ _).symm.trans H; rw [hy113]; with_reducible exact H2_)
         have Ny113 := am hy113
         clear hy113
         by_cases c30 : 0 ≤ x15_3
         rotate_left
         ·
          rw [if_neg c30] at H
          exact absurd H (by simp)
         rw [if_pos c30] at H
         have c30b0 : decide (0 ≤ x15_3) = true := decide_eq_true c30
         clear c30
         by_cases c31 : x15_3 < (l0.length : Int)
         rotate_left
         ·
          rw [if_neg c31] at H
          exact absurd H (by simp)
         rw [if_pos c31] at H
         have c31b0 : decide (x15_3 < (l0.length : Int)) = true := decide_eq_true c31
         clear c31
         replace H := Option.bind_eq_some_iff.mp H
         obtain ⟨⟨t116, t119⟩, A320, H⟩ := H
         replace H : (if t119 = 0 then (if x12_4.length + t116.length < 140737488355328 then (gangwayref14_Write.l1 k4 l0 l1 a2 a3 (x12_4 ++ t116) y113 x14_3 x15_3 (x12_3.length : Int) (wrap64 (x17_4 + 1))) else (none)) else (some (([] : List Int), ([] : List Int), t119))) = some (r1, r2, r3) := H
         have A32 := am A320
         clear A320
         by_cases c33 : t119 = 0
         rotate_left
         ·
          rw [if_neg c33] at H
          have c33b0 : (t119 == 0) = false := beq_eq_false_iff_ne.mpr c33
          have c33b1 : (t119 != 0) = true := bne_iff_ne.mpr c33
          simp only [Option.some.injEq, Prod.mk.injEq] at H
          obtain ⟨rfl, rfl, rfl⟩ := H
          have p112 : 0 ≤ (x17_4 : Int) := od
          have q112 : x17_4 < (l1.length : Int) := od
          obtain ⟨ad112, A112_3, c112_3, e112, hx112_0, hx112_1, hx112_2, hx112_3, hl112_3, hi112_3⟩ := at_T61 HR1.out x17_4 p112 q112
          cases e112
          replace hx112_0 := oc HB.out hx112_0
          replace hx112_1 := oc HB.out hx112_1
          replace hx112_2 := oc HB.out hx112_2
          replace hx112_3 := oc HB.out hx112_3
          have HR112_3 := am hi112_3
          have HC112_3 := am hl112_3
          clear hi112_3 hl112_3
          replace p112 := eq_true p112
          replace q112 := eq_true q112
          obtain ⟨Ao42, co42, eo42⟩ := Kd.R_slice HO_12.out
          subst eo42
          have p29 : 0 ≤ (x17_4 : Int) := od
          have q29 : (x17_4 : Int) < ((x13_4.length : Int) : Int) := od
          obtain ⟨go29, co29, eo29, gb29, gl29, cl29, HG29⟩ := Kd.R_form HO_13.out (by omega)
          (first | cases eo29 | (injection eo29 with ea_ en_ ec_; (first | subst ea_ | (injection ea_ with ea_; subst ea_)); subst ec_; clear en_))
          have GB29 := am gb29
          have GG29 := am HG29
          clear gb29 gl29 HG29
          obtain ⟨hx29_0, hf29_0⟩ := Kd.R_celln 0 HO_13.out (x17_4 : Int) p29 q29
          replace p29 := eq_true p29
          replace q29 := eq_true q29
          have HP43 := Kd.R_putg HO_13.out (x17_4 : Int) (x12_4.length : Int)
          try go_wp2_with (first | ((with_reducible refine gate_store (t := 3) (p := 71) rfl ?_); refine store_event (t := 3) (p := 71) (v := ?vo_w44) (w1 := (wr.setCell ⟨go29, (x17_4 : Int).toNat, none⟩ (.int .i64 (x12_4.length : Int)))) ?hg ?ho ?hn ?hr ?_; (case ho => rfl); (case hg => rfl); (case hn => rfl); (case hr => go_simp; try rfl); intro w44 hw; have hg : wr.grownBy w44 (some go29) := (by rw [hw]; exact HP43.2); have hp_ : Kd.R (Kd.int .i64) 3 w44 w.heap.size (fun _ => True) (.slice (some ⟨go29, 0, none⟩) x13_4.length co29) y113 := (by rw [hw, Ny113.out]; exact HP43.1); clear HP43; refine mv3 (am (Kd.R_over' (v := (.slice (some ⟨go29, 0, none⟩) x13_4.length co29)) (Kd.R_o HO_12.out) (Kd.R_typed HO_13.out) (by decide) hg)) (am (hp_)) (am ((by rw [hw]; exact below_set (HB.out) GB29.out : Below w.heap.size w w44))) ?_; clear HO_12 HO_13 HB; intro HO_12 HO_13 HB; clear hg hw hp_))
          have n0_ := am (Kd.R_drew HO_12.out)
          have n1_ := am (Kd.R_drew HO_13.out)
          have n2_ := am (below_drew1 HB.out)
          clear HO_12
          clear HO_13
          clear HB
          have HO_12 := n0_
          have HO_13 := n1_
          have HB := n2_
          clear n0_ n1_ n2_
          have p114 : 0 ≤ (x17_4 : Int) := od
          have q114 : x17_4 < (l1.length : Int) := od
          obtain ⟨ad114, A114_3, c114_3, e114, hx114_0, hx114_1, hx114_2, hx114_3, hl114_3, hi114_3⟩ := at_T61 HR1.out x17_4 p114 q114
          have hw114_3 := hx114_3
          have hw114_2 := hx114_2
          have hw114_1 := hx114_1
          have hw114_0 := hx114_0
          obtain rfl : ad112 = ad114 := (by injection e114)
          replace hx114_0 := oc HB.out hx114_0
          replace hx114_1 := oc HB.out hx114_1
          replace hx114_2 := oc HB.out hx114_2
          replace hx114_3 := oc HB.out hx114_3
          have HR114_3 := am hi114_3
          have HC114_3 := am hl114_3
          clear hi114_3 hl114_3
          replace p114 := eq_true p114
          replace q114 := eq_true q114
          have p115 : 0 ≤ (x15_3 : Int) := od
          have q115 : x15_3 < (l0.length : Int) := od
          obtain ⟨ad115, A115_1, c115_1, e115, hx115_0, hx115_1, hl115_1, hi115_1⟩ := at_T43 HR0.out x15_3 p115 q115
          have hw115_1 := hx115_1
          have hw115_0 := hx115_0
          obtain rfl : ad105 = ad115 := (by injection e115)
          replace hx115_0 := oc HB.out hx115_0
          replace hx115_1 := oc HB.out hx115_1
          have HR115_1 := am hi115_1
          have HC115_1 := am hl115_1
          clear hi115_1 hl115_1
          replace p115 := eq_true p115
          replace q115 := eq_true q115
          refine start_ (n := 19) (S := fun w' => w'.cell? (ad112.add ((x17_4).toNat * 4)) = some (.int .i64 ((rd_T61 l1 x17_4).f0)) ∧ w'.cell? ⟨(ad112.add ((x17_4).toNat * 4)).block, (ad112.add ((x17_4).toNat * 4)).off + 1, none⟩ = some (.int .i64 ((rd_T61 l1 x17_4).f1)) ∧ w'.cell? ⟨(ad112.add ((x17_4).toNat * 4)).block, (ad112.add ((x17_4).toNat * 4)).off + 2, none⟩ = some (.int .i64 ((rd_T61 l1 x17_4).f2)) ∧ w'.cell? ⟨(ad112.add ((x17_4).toNat * 4)).block, (ad112.add ((x17_4).toNat * 4)).off + 3, none⟩ = some (.slice A114_3 ((rd_T61 l1 x17_4).f3).length c114_3) ∧ w'.cell? (ad105.add ((x15_3).toNat * 2)) = some (.int .i64 ((rd_T43 l0 x15_3).f0)) ∧ w'.cell? ⟨(ad105.add ((x15_3).toNat * 2)).block, (ad105.add ((x15_3).toNat * 2)).off + 1, none⟩ = some (.slice A115_1 ((rd_T43 l0 x15_3).f1).length c115_1)) (ds := []) (bm 19 0) (by kernel_rfl) rfl rfl ⟨(oc HB.out hw114_0 :), (oc HB.out hw114_1 :), (oc HB.out hw114_2 :), (oc HB.out hw114_3 :), (oc HB.out hw115_0 :), (oc HB.out hw115_1 :)⟩ (fun hHeld => ?_); refine with_tabW gangwayref14_Write.tab19 gangwayref14_Write.bits19 (fun HT_ HW_ => ?_)
          generalize w44.drew = w45 at HO_12 HO_13 HB HR114_3 HR115_1 hx114_0 hx114_1 hx114_2 hx114_3 hx115_0 hx115_1 hHeld ⊢
          refine pure_ (i := 0) (N := some 73) (v := ?_) (a' := ?_) (bm 19 1) rfl rfl (any_of HT_.out (by kernel_rfl)) (fun _ _ _ h => h) (Or.inl ⟨by rfl, ?_⟩) ?_ ?_
          rotate_left
          ·
           intro w'
           go_simp
           with_reducible rfl
          rotate_left
          ·
           simp only [pz]
           rfl
          refine pure_ (i := 1) (N := some 74) (v := ?_) (a' := ?_) (bm 19 3) rfl rfl (any_of HT_.out (by kernel_rfl)) (fun _ _ _ h => h) (Or.inl ⟨by rfl, ?_⟩) ?_ ?_
          rotate_left
          ·
           intro w'
           go_simp
           with_reducible rfl
          rotate_left
          ·
           simp only [pz]
           rfl
          refine pure_ (i := 2) (N := some 75) (v := ?_) (a' := ?_) (bm 19 7) rfl rfl (any_of HT_.out (by kernel_rfl)) (fun _ _ _ h => h) (Or.inl ⟨by rfl, ?_⟩) ?_ ?_
          rotate_left
          ·
           intro w'
           go_simp
           with_reducible rfl
          rotate_left
          ·
           simp only [pz]
           rfl
          refine pure_ (i := 4) (N := some 77) (v := ?_) (a' := ?_) (bm 19 23) rfl rfl (any_of HT_.out (by kernel_rfl)) (fun _ _ _ h => h) (Or.inl ⟨by rfl, ?_⟩) ?_ ?_
          rotate_left
          ·
           intro w'
           go_simp
           with_reducible rfl
          rotate_left
          ·
           simp only [pz]
           rfl
          refine pure_ (i := 5) (N := some 78) (v := ?_) (a' := ?_) (bm 19 55) rfl rfl (any_of HT_.out (by kernel_rfl)) (fun _ _ _ h => h) (Or.inl ⟨by rfl, ?_⟩) ?_ ?_
          rotate_left
          ·
           intro w'
           go_simp
           with_reducible rfl
          rotate_left
          ·
           simp only [pz]
           rfl
          refine pure_ (i := 6) (N := some 79) (v := ?_) (a' := ?_) (bm 19 119) rfl rfl (any_of HT_.out (by kernel_rfl)) (fun _ _ _ h => h) (Or.inl ⟨by rfl, ?_⟩) ?_ ?_
          rotate_left
          ·
           intro w'
           go_simp
           with_reducible rfl
          rotate_left
          ·
           simp only [pz]
           rfl
          refine pure_ (i := 7) (N := some 80) (v := ?_) (a' := ?_) (bm 19 247) rfl rfl (any_of HT_.out (by kernel_rfl)) (fun _ _ _ h => h) (Or.inl ⟨by rfl, ?_⟩) ?_ ?_
          rotate_left
          ·
           intro w'
           go_simp
           with_reducible rfl
          rotate_left
          ·
           simp only [pz]
           rfl
          refine pure_ (i := 9) (N := some 82) (v := ?_) (a' := ?_) (bm 19 759) rfl rfl (any_of HT_.out (by kernel_rfl)) (fun _ _ _ h => h) (Or.inl ⟨by rfl, ?_⟩) ?_ ?_
          rotate_left
          ·
           intro w'
           go_simp
           with_reducible rfl
          rotate_left
          ·
           simp only [pz]
           rfl
          refine pure_ (i := 10) (N := some 83) (v := ?_) (a' := ?_) (bm 19 1783) rfl rfl (any_of HT_.out (by kernel_rfl)) (fun _ _ _ h => h) (Or.inl ⟨by rfl, ?_⟩) ?_ ?_
          rotate_left
          ·
           intro w'
           go_simp
           with_reducible rfl
          rotate_left
          ·
           simp only [pz]
           rfl
          refine pure_ (i := 11) (N := some 84) (v := ?_) (a' := ?_) (bm 19 3831) rfl rfl (any_of HT_.out (by kernel_rfl)) (fun _ _ _ h => h) (Or.inl ⟨by rfl, ?_⟩) ?_ ?_
          rotate_left
          ·
           intro w'
           go_simp
           with_reducible rfl
          rotate_left
          ·
           simp only [pz]
           rfl
          refine pure_ (i := 12) (N := some 85) (v := ?_) (a' := ?_) (bm 19 7927) rfl rfl (any_of HT_.out (by kernel_rfl)) (fun _ _ _ h => h) (Or.inl ⟨by rfl, ?_⟩) ?_ ?_
          rotate_left
          ·
           intro w'
           go_simp
           with_reducible rfl
          rotate_left
          ·
           simp only [pz]
           rfl
          refine take_ (i := 3) (N := some 76) (v := ?_) (a' := ?_) (bm 19 7935) rfl rfl (take_ofW HT_.out HW_.out (by kernel_rfl)) (fun _ _ _ h => h) (Or.inl ⟨by rfl, ?_⟩) hHeld ?_ ?_
          rotate_left
          ·
           rintro w' ⟨s0, s1, s2, s3, s4, s5⟩
           go_simp
           with_reducible rfl
          rotate_left
          ·
           simp only [pz]
           rfl
          refine take_ (i := 8) (N := some 81) (v := ?_) (a' := ?_) (bm 19 8191) rfl rfl (take_ofW HT_.out HW_.out (by kernel_rfl)) (fun _ _ _ h => h) (Or.inl ⟨by rfl, ?_⟩) hHeld ?_ ?_
          rotate_left
          ·
           rintro w' ⟨s0, s1, s2, s3, s4, s5⟩
           go_simp
           with_reducible rfl
          rotate_left
          ·
           simp only [pz]
           rfl
          refine one_ (i := 13) (N := some 86) (bm 19 16383) rfl rfl (one_of HT_.out (by kernel_rfl)) (by decide) (fun K hK => ?_)
          refine goes_ Try.func28 (by kernel_rfl) rfl #[.agg #[.int .i64 ((rd_T61 l1 x17_4).f0), .int .i64 ((rd_T61 l1 x17_4).f1), .int .i64 ((rd_T61 l1 x17_4).f2), .slice A114_3 ((rd_T61 l1 x17_4).f3).length c114_3], .int .i64 ((rd_T43 l0 x15_3).f0), .int .i64 (x12_4.length : Int), .int .i64 (x12_3.length : Int), .int .i64 a2] (by rfl) rfl rfl (by simp only [ml]; try rfl) ?_
          with_reducible refine (gangwayref14_fde.calls k4 ((rd_T61 l1 x17_4).f0) ((rd_T61 l1 x17_4).f1) ((rd_T61 l1 x17_4).f2) _ _ ((rd_T61 l1 x17_4).f3) ((rd_T43 l0 x15_3).f0) (x12_4.length : Int) (x12_3.length : Int) a2 t116 t119 _ ?side1 ?side2 A32.out).mono ?_
          (case side1 => exact Kd.C_o (Kd.C_below HR114_3.out HB.out))
          (case side2 => exact HC114_3.out)
          rintro e w46 ⟨v117, rfl, ho0, hb⟩
          refine ⟨_, rfl, ?_⟩
          have n0_ := am (Kd.R_elder' (Kd.R_o HO_12.out) (Kd.R_base ho0) hb)
          have n1_ := am (Kd.R_below (Kd.R_o HO_13.out) hb)
          have n2_ := am (Kd.R_lower (Kd.R_new' ho0 (Kd.R_lt (Kd.R_o HO_12.out))) (below_size (by exact bl_o HB.out)))
          have n3_ := am (below_step (by exact bl_o HB.out) hb)
          clear HO_12
          clear HO_13
          clear HB
          have HO_12 := n0_
          have HO_13 := n1_
          have HO118 := n2_
          have HB := n3_
          clear n0_ n1_ n2_ n3_
          (try clear hb)
          (try clear hb2)
          (try clear hk)
          (try clear hi)
          (try clear ho0)
          refine hK.out _ _ ⟨(oc HB.out hw114_0 :), (oc HB.out hw114_1 :), (oc HB.out hw114_2 :), (oc HB.out hw114_3 :), (oc HB.out hw115_0 :), (oc HB.out hw115_1 :)⟩ (fun hHeld => ?_)
          clear hK K
          refine norm_ (a' := ?_) ?_ ?_
          rotate_left
          ·
           show Act.put _ (some 86) _ = _
           simp only [pz]
           rfl
          refine pure_ (i := 14) (N := some 72) (v := ?_) (a' := ?_) (bm 19 32767) rfl rfl (any_of HT_.out (by kernel_rfl)) (fun _ _ _ h => h) (Or.inl ⟨by rfl, ?_⟩) ?_ ?_
          rotate_left
          ·
           intro w'
           go_simp
           with_reducible rfl
          rotate_left
          ·
           simp only [pz]
           rfl
          refine pure_ (i := 15) (N := some 87) (v := ?_) (a' := ?_) (bm 19 65535) rfl rfl (any_of HT_.out (by kernel_rfl)) (fun _ _ _ h => h) (Or.inl ⟨by rfl, ?_⟩) ?_ ?_
          rotate_left
          ·
           intro w'
           go_simp
           with_reducible rfl
          rotate_left
          ·
           simp only [pz]
           rfl
          refine pure_ (i := 16) (N := some 88) (v := ?_) (a' := ?_) (bm 19 131071) rfl rfl (any_of HT_.out (by kernel_rfl)) (fun _ _ _ h => h) (Or.inl ⟨by rfl, ?_⟩) ?_ ?_
          rotate_left
          ·
           intro w'
           go_simp
           with_reducible rfl
          rotate_left
          ·
           simp only [pz]
           rfl
          refine pure_ (i := 17) (N := some 18) (v := ?_) (a' := ?_) (bm 19 262143) rfl rfl (any_of HT_.out (by kernel_rfl)) (fun _ _ _ h => h) (Or.inl ⟨by rfl, ?_⟩) ?_ ?_
          rotate_left
          ·
           intro w'
           go_simp
           with_reducible rfl
          rotate_left
          ·
           simp only [pz]
           rfl
          refine pure_ (i := 18) (N := some 19) (v := ?_) (a' := ?_) (bm 19 524287) rfl rfl (any_of HT_.out (by kernel_rfl)) (fun _ _ _ h => h) (Or.inl ⟨by rfl, ?_⟩) ?_ ?_
          rotate_left
          ·
           intro w'
           go_simp
           with_reducible rfl
          rotate_left
          ·
           simp only [pz]
           rfl
          refine done_ (done_of HT_.out (by kernel_rfl)) ?_
          try go_wp2
          go_ret3
          exact ⟨_, _, rfl, by first | exact Kd.R_nil _ _ _ _ _ | exact Kd.N_nil _ _ _ _ _, by first | exact Kd.R_nil _ _ _ _ _ | exact Kd.N_nil _ _ _ _ _, by exact bl_g HB.out⟩
         rw [if_pos c33] at H
         have c33b0 : (t119 == 0) = true := beq_iff_eq.mpr c33
         have c33b1 : (t119 != 0) = false := bne_eq_false_iff_eq.mpr c33
         clear c33
         by_cases c34 : x12_4.length + t116.length < 140737488355328
         rotate_left
         ·
          rw [if_neg c34] at H
          exact absurd H (by simp)
         rw [if_pos c34] at H
         have LMc34 := am c34
         clear c34
         obtain ⟨y120, hy120⟩ : ∃ y_ : List Int, y_ = (x12_4 ++ t116) := ⟨_, rfl⟩
         replace H : (gangwayref14_Write.l1 k4 l0 l1 a2 a3 y120 y113 x14_3 x15_3 (x12_3.length : Int) (wrap64 (x17_4 + 1))) = some (r1, r2, r3) := by first | (rw [hy120]; with_reducible exact H) | (have H2_ := (Option.bind_some _ _).symm.trans H; rw [hy120]; with_reducible exact H2_)
         have Ny120 := am hy120
         clear hy120
         have H' := am H
         clear H
         have p112 : 0 ≤ (x17_4 : Int) := od
         have q112 : x17_4 < (l1.length : Int) := od
         obtain ⟨ad112, A112_3, c112_3, e112, hx112_0, hx112_1, hx112_2, hx112_3, hl112_3, hi112_3⟩ := at_T61 HR1.out x17_4 p112 q112
         cases e112
         replace hx112_0 := oc HB.out hx112_0
         replace hx112_1 := oc HB.out hx112_1
         replace hx112_2 := oc HB.out hx112_2
         replace hx112_3 := oc HB.out hx112_3
         have HR112_3 := am hi112_3
         have HC112_3 := am hl112_3
         clear hi112_3 hl112_3
         replace p112 := eq_true p112
         replace q112 := eq_true q112
         obtain ⟨Ao35, co35, eo35⟩ := Kd.R_slice HO_12.out
         subst eo35
         have p29 : 0 ≤ (x17_4 : Int) := od
         have q29 : (x17_4 : Int) < ((x13_4.length : Int) : Int) := od
         obtain ⟨go29, co29, eo29, gb29, gl29, cl29, HG29⟩ := Kd.R_form HO_13.out (by omega)
         (first | cases eo29 | (injection eo29 with ea_ en_ ec_; (first | subst ea_ | (injection ea_ with ea_; subst ea_)); subst ec_; clear en_))
         have GB29 := am gb29
         have GG29 := am HG29
         clear gb29 gl29 HG29
         obtain ⟨hx29_0, hf29_0⟩ := Kd.R_celln 0 HO_13.out (x17_4 : Int) p29 q29
         replace p29 := eq_true p29
         replace q29 := eq_true q29
         have HP36 := Kd.R_putg HO_13.out (x17_4 : Int) (x12_4.length : Int)
         try go_wp2_with (first | ((with_reducible refine gate_store (t := 3) (p := 71) rfl ?_); refine store_event (t := 3) (p := 71) (v := ?vo_w37) (w1 := (wr.setCell ⟨go29, (x17_4 : Int).toNat, none⟩ (.int .i64 (x12_4.length : Int)))) ?hg ?ho ?hn ?hr ?_; (case ho => rfl); (case hg => rfl); (case hn => rfl); (case hr => go_simp; try rfl); intro w37 hw; have hg : wr.grownBy w37 (some go29) := (by rw [hw]; exact HP36.2); have hp_ : Kd.R (Kd.int .i64) 3 w37 w.heap.size (fun _ => True) (.slice (some ⟨go29, 0, none⟩) x13_4.length co29) y113 := (by rw [hw, Ny113.out]; exact HP36.1); clear HP36; refine mv3 (am (Kd.R_over' (v := (.slice (some ⟨go29, 0, none⟩) x13_4.length co29)) (Kd.R_o HO_12.out) (Kd.R_typed HO_13.out) (by decide) hg)) (am (hp_)) (am ((by rw [hw]; exact below_set (HB.out) GB29.out : Below w.heap.size w w37))) ?_; clear HO_12 HO_13 HB; intro HO_12 HO_13 HB; clear hg hw hp_))
         have n0_ := am (Kd.R_drew HO_12.out)
         have n1_ := am (Kd.R_drew HO_13.out)
         have n2_ := am (below_drew1 HB.out)
         clear HO_12
         clear HO_13
         clear HB
         have HO_12 := n0_
         have HO_13 := n1_
         have HB := n2_
         clear n0_ n1_ n2_
         have p114 : 0 ≤ (x17_4 : Int) := od
         have q114 : x17_4 < (l1.length : Int) := od
         obtain ⟨ad114, A114_3, c114_3, e114, hx114_0, hx114_1, hx114_2, hx114_3, hl114_3, hi114_3⟩ := at_T61 HR1.out x17_4 p114 q114
         have hw114_3 := hx114_3
         have hw114_2 := hx114_2
         have hw114_1 := hx114_1
         have hw114_0 := hx114_0
         obtain rfl : ad112 = ad114 := (by injection e114)
         replace hx114_0 := oc HB.out hx114_0
         replace hx114_1 := oc HB.out hx114_1
         replace hx114_2 := oc HB.out hx114_2
         replace hx114_3 := oc HB.out hx114_3
         have HR114_3 := am hi114_3
         have HC114_3 := am hl114_3
         clear hi114_3 hl114_3
         replace p114 := eq_true p114
         replace q114 := eq_true q114
         have p115 : 0 ≤ (x15_3 : Int) := od
         have q115 : x15_3 < (l0.length : Int) := od
         obtain ⟨ad115, A115_1, c115_1, e115, hx115_0, hx115_1, hl115_1, hi115_1⟩ := at_T43 HR0.out x15_3 p115 q115
         have hw115_1 := hx115_1
         have hw115_0 := hx115_0
         obtain rfl : ad105 = ad115 := (by injection e115)
         replace hx115_0 := oc HB.out hx115_0
         replace hx115_1 := oc HB.out hx115_1
         have HR115_1 := am hi115_1
         have HC115_1 := am hl115_1
         clear hi115_1 hl115_1
         replace p115 := eq_true p115
         replace q115 := eq_true q115
         refine start_ (n := 19) (S := fun w' => w'.cell? (ad112.add ((x17_4).toNat * 4)) = some (.int .i64 ((rd_T61 l1 x17_4).f0)) ∧ w'.cell? ⟨(ad112.add ((x17_4).toNat * 4)).block, (ad112.add ((x17_4).toNat * 4)).off + 1, none⟩ = some (.int .i64 ((rd_T61 l1 x17_4).f1)) ∧ w'.cell? ⟨(ad112.add ((x17_4).toNat * 4)).block, (ad112.add ((x17_4).toNat * 4)).off + 2, none⟩ = some (.int .i64 ((rd_T61 l1 x17_4).f2)) ∧ w'.cell? ⟨(ad112.add ((x17_4).toNat * 4)).block, (ad112.add ((x17_4).toNat * 4)).off + 3, none⟩ = some (.slice A114_3 ((rd_T61 l1 x17_4).f3).length c114_3) ∧ w'.cell? (ad105.add ((x15_3).toNat * 2)) = some (.int .i64 ((rd_T43 l0 x15_3).f0)) ∧ w'.cell? ⟨(ad105.add ((x15_3).toNat * 2)).block, (ad105.add ((x15_3).toNat * 2)).off + 1, none⟩ = some (.slice A115_1 ((rd_T43 l0 x15_3).f1).length c115_1)) (ds := []) (bm 19 0) (by kernel_rfl) rfl rfl ⟨(oc HB.out hw114_0 :), (oc HB.out hw114_1 :), (oc HB.out hw114_2 :), (oc HB.out hw114_3 :), (oc HB.out hw115_0 :), (oc HB.out hw115_1 :)⟩ (fun hHeld => ?_); refine with_tabW gangwayref14_Write.tab19 gangwayref14_Write.bits19 (fun HT_ HW_ => ?_)
         generalize w37.drew = w38 at HO_12 HO_13 HB HR114_3 HR115_1 hx114_0 hx114_1 hx114_2 hx114_3 hx115_0 hx115_1 hHeld ⊢
         refine pure_ (i := 0) (N := some 73) (v := ?_) (a' := ?_) (bm 19 1) rfl rfl (any_of HT_.out (by kernel_rfl)) (fun _ _ _ h => h) (Or.inl ⟨by rfl, ?_⟩) ?_ ?_
         rotate_left
         ·
          intro w'
          go_simp
          with_reducible rfl
         rotate_left
         ·
          simp only [pz]
          rfl
         refine pure_ (i := 1) (N := some 74) (v := ?_) (a' := ?_) (bm 19 3) rfl rfl (any_of HT_.out (by kernel_rfl)) (fun _ _ _ h => h) (Or.inl ⟨by rfl, ?_⟩) ?_ ?_
         rotate_left
         ·
          intro w'
          go_simp
          with_reducible rfl
         rotate_left
         ·
          simp only [pz]
          rfl
         refine pure_ (i := 2) (N := some 75) (v := ?_) (a' := ?_) (bm 19 7) rfl rfl (any_of HT_.out (by kernel_rfl)) (fun _ _ _ h => h) (Or.inl ⟨by rfl, ?_⟩) ?_ ?_
         rotate_left
         ·
          intro w'
          go_simp
          with_reducible rfl
         rotate_left
         ·
          simp only [pz]
          rfl
         refine pure_ (i := 4) (N := some 77) (v := ?_) (a' := ?_) (bm 19 23) rfl rfl (any_of HT_.out (by kernel_rfl)) (fun _ _ _ h => h) (Or.inl ⟨by rfl, ?_⟩) ?_ ?_
         rotate_left
         ·
          intro w'
          go_simp
          with_reducible rfl
         rotate_left
         ·
          simp only [pz]
          rfl
         refine pure_ (i := 5) (N := some 78) (v := ?_) (a' := ?_) (bm 19 55) rfl rfl (any_of HT_.out (by kernel_rfl)) (fun _ _ _ h => h) (Or.inl ⟨by rfl, ?_⟩) ?_ ?_
         rotate_left
         ·
          intro w'
          go_simp
          with_reducible rfl
         rotate_left
         ·
          simp only [pz]
          rfl
         refine pure_ (i := 6) (N := some 79) (v := ?_) (a' := ?_) (bm 19 119) rfl rfl (any_of HT_.out (by kernel_rfl)) (fun _ _ _ h => h) (Or.inl ⟨by rfl, ?_⟩) ?_ ?_
         rotate_left
         ·
          intro w'
          go_simp
          with_reducible rfl
         rotate_left
         ·
          simp only [pz]
          rfl
         refine pure_ (i := 7) (N := some 80) (v := ?_) (a' := ?_) (bm 19 247) rfl rfl (any_of HT_.out (by kernel_rfl)) (fun _ _ _ h => h) (Or.inl ⟨by rfl, ?_⟩) ?_ ?_
         rotate_left
         ·
          intro w'
          go_simp
          with_reducible rfl
         rotate_left
         ·
          simp only [pz]
          rfl
         refine pure_ (i := 9) (N := some 82) (v := ?_) (a' := ?_) (bm 19 759) rfl rfl (any_of HT_.out (by kernel_rfl)) (fun _ _ _ h => h) (Or.inl ⟨by rfl, ?_⟩) ?_ ?_
         rotate_left
         ·
          intro w'
          go_simp
          with_reducible rfl
         rotate_left
         ·
          simp only [pz]
          rfl
         refine pure_ (i := 10) (N := some 83) (v := ?_) (a' := ?_) (bm 19 1783) rfl rfl (any_of HT_.out (by kernel_rfl)) (fun _ _ _ h => h) (Or.inl ⟨by rfl, ?_⟩) ?_ ?_
         rotate_left
         ·
          intro w'
          go_simp
          with_reducible rfl
         rotate_left
         ·
          simp only [pz]
          rfl
         refine pure_ (i := 11) (N := some 84) (v := ?_) (a' := ?_) (bm 19 3831) rfl rfl (any_of HT_.out (by kernel_rfl)) (fun _ _ _ h => h) (Or.inl ⟨by rfl, ?_⟩) ?_ ?_
         rotate_left
         ·
          intro w'
          go_simp
          with_reducible rfl
         rotate_left
         ·
          simp only [pz]
          rfl
         refine pure_ (i := 12) (N := some 85) (v := ?_) (a' := ?_) (bm 19 7927) rfl rfl (any_of HT_.out (by kernel_rfl)) (fun _ _ _ h => h) (Or.inl ⟨by rfl, ?_⟩) ?_ ?_
         rotate_left
         ·
          intro w'
          go_simp
          with_reducible rfl
         rotate_left
         ·
          simp only [pz]
          rfl
         refine take_ (i := 3) (N := some 76) (v := ?_) (a' := ?_) (bm 19 7935) rfl rfl (take_ofW HT_.out HW_.out (by kernel_rfl)) (fun _ _ _ h => h) (Or.inl ⟨by rfl, ?_⟩) hHeld ?_ ?_
         rotate_left
         ·
          rintro w' ⟨s0, s1, s2, s3, s4, s5⟩
          go_simp
          with_reducible rfl
         rotate_left
         ·
          simp only [pz]
          rfl
         refine take_ (i := 8) (N := some 81) (v := ?_) (a' := ?_) (bm 19 8191) rfl rfl (take_ofW HT_.out HW_.out (by kernel_rfl)) (fun _ _ _ h => h) (Or.inl ⟨by rfl, ?_⟩) hHeld ?_ ?_
         rotate_left
         ·
          rintro w' ⟨s0, s1, s2, s3, s4, s5⟩
          go_simp
          with_reducible rfl
         rotate_left
         ·
          simp only [pz]
          rfl
         refine one_ (i := 13) (N := some 86) (bm 19 16383) rfl rfl (one_of HT_.out (by kernel_rfl)) (by decide) (fun K hK => ?_)
         refine goes_ Try.func28 (by kernel_rfl) rfl #[.agg #[.int .i64 ((rd_T61 l1 x17_4).f0), .int .i64 ((rd_T61 l1 x17_4).f1), .int .i64 ((rd_T61 l1 x17_4).f2), .slice A114_3 ((rd_T61 l1 x17_4).f3).length c114_3], .int .i64 ((rd_T43 l0 x15_3).f0), .int .i64 (x12_4.length : Int), .int .i64 (x12_3.length : Int), .int .i64 a2] (by rfl) rfl rfl (by simp only [ml]; try rfl) ?_
         with_reducible refine (gangwayref14_fde.calls k4 ((rd_T61 l1 x17_4).f0) ((rd_T61 l1 x17_4).f1) ((rd_T61 l1 x17_4).f2) _ _ ((rd_T61 l1 x17_4).f3) ((rd_T43 l0 x15_3).f0) (x12_4.length : Int) (x12_3.length : Int) a2 t116 t119 _ ?side1 ?side2 A32.out).mono ?_
         (case side1 => exact Kd.C_o (Kd.C_below HR114_3.out HB.out))
         (case side2 => exact HC114_3.out)
         rintro e w39 ⟨v117, rfl, ho0, hb⟩
         refine ⟨_, rfl, ?_⟩
         have n0_ := am (Kd.R_elder' (Kd.R_o HO_12.out) (Kd.R_base ho0) hb)
         have n1_ := am (Kd.R_below (Kd.R_o HO_13.out) hb)
         have n2_ := am (Kd.R_lower (Kd.R_new' ho0 (Kd.R_lt (Kd.R_o HO_12.out))) (below_size (by exact bl_o HB.out)))
         have n3_ := am (below_step (by exact bl_o HB.out) hb)
         clear HO_12
         clear HO_13
         clear HB
         have HO_12 := n0_
         have HO_13 := n1_
         have HO118 := n2_
         have HB := n3_
         clear n0_ n1_ n2_ n3_
         (try clear hb)
         (try clear hb2)
         (try clear hk)
         (try clear hi)
         (try clear ho0)
         refine hK.out _ _ ⟨(oc HB.out hw114_0 :), (oc HB.out hw114_1 :), (oc HB.out hw114_2 :), (oc HB.out hw114_3 :), (oc HB.out hw115_0 :), (oc HB.out hw115_1 :)⟩ (fun hHeld => ?_)
         clear hK K
         refine norm_ (a' := ?_) ?_ ?_
         rotate_left
         ·
          show Act.put _ (some 86) _ = _
          simp only [pz]
          rfl
         refine pure_ (i := 14) (N := some 72) (v := ?_) (a' := ?_) (bm 19 32767) rfl rfl (any_of HT_.out (by kernel_rfl)) (fun _ _ _ h => h) (Or.inl ⟨by rfl, ?_⟩) ?_ ?_
         rotate_left
         ·
          intro w'
          go_simp
          with_reducible rfl
         rotate_left
         ·
          simp only [pz]
          rfl
         refine pure_ (i := 15) (N := some 87) (v := ?_) (a' := ?_) (bm 19 65535) rfl rfl (any_of HT_.out (by kernel_rfl)) (fun _ _ _ h => h) (Or.inl ⟨by rfl, ?_⟩) ?_ ?_
         rotate_left
         ·
          intro w'
          go_simp
          with_reducible rfl
         rotate_left
         ·
          simp only [pz]
          rfl
         refine pure_ (i := 16) (N := some 88) (v := ?_) (a' := ?_) (bm 19 131071) rfl rfl (any_of HT_.out (by kernel_rfl)) (fun _ _ _ h => h) (Or.inl ⟨by rfl, ?_⟩) ?_ ?_
         rotate_left
         ·
          intro w'
          go_simp
          with_reducible rfl
         rotate_left
         ·
          simp only [pz]
          rfl
         refine pure_ (i := 17) (N := some 18) (v := ?_) (a' := ?_) (bm 19 262143) rfl rfl (any_of HT_.out (by kernel_rfl)) (fun _ _ _ h => h) (Or.inl ⟨by rfl, ?_⟩) ?_ ?_
         rotate_left
         ·
          intro w'
          go_simp
          with_reducible rfl
         rotate_left
         ·
          simp only [pz]
          rfl
         refine pure_ (i := 18) (N := some 19) (v := ?_) (a' := ?_) (bm 19 524287) rfl rfl (any_of HT_.out (by kernel_rfl)) (fun _ _ _ h => h) (Or.inl ⟨by rfl, ?_⟩) ?_ ?_
         rotate_left
         ·
          intro w'
          go_simp
          with_reducible rfl
         rotate_left
         ·
          simp only [pz]
          rfl
         refine done_ (done_of HT_.out (by kernel_rfl)) ?_
         obtain ⟨Ao41, co41, eo41⟩ := Kd.R_slice HO118.out
         subst eo41
         try go_wp2_with (first | ((with_reducible refine gate_builtin (b := .append) (xs := #[.tmp 92, .tmp 93]) rfl ?_); (try (refine gate_guard (by rfl) ?_; dsimp only)); at_builtin; refine Kd.R_append_rows (Kd.int .u8) (w0 := w) w.heap.size rfl (.tmp 92) (.tmp 93) 28 5 (.int .u8 0) 1 rfl Try.underlying28 info5 rfl (by decide) (by omega) (.slice Ao35 x12_4.length co35) x12_4 t116 _ _ _ (fun k_ => some k_ ≠ (.slice Ao41 t116.length co41 : Value).ownBlock) (fun _ => False) rfl rfl ?aO ?aR (fun _ _ h => h) (fun _ h => h.elim) ?aF ?aB ?aS ?aL ?_; (case aR => exact Kd.C_o ((Kd.R_reads' HO118.out).2.2)); (case aB => exact (by exact bl_o HB.out)); (case aF => exact (fun k_ hk => Kd.fresh' (Kd.R_lt (Kd.R_o HO118.out)) k_ hk)); (case aO => exact (Kd.R_o (Kd.R_mono HO_12.out (fun _ hk => hk.2)))); (case aS => exact (below_size (by exact bl_o HB.out))); (case aL => have := LMc34.out; omega); intro v121 w40 ho hb hg hat; rw [← Ny120.out] at ho; refine mv4 (am (Kd.R_over' (Kd.R_o HO_13.out) (Kd.R_typed (Kd.R_o HO_12.out)) (by decide) hg)) (am (Kd.R_after (ok := (fun _ => True)) (Kd.R_o HO118.out) hg hat)) (am (hb)) (am (ho)) ?_; clear HO_13 HO118 HB HO_12; intro HO_13 HO118 HB HO122; clear ho hb hg hat))
         go_roundg k4
         case measure => have := HJ5.out; have := HJ9.out; have := HK3.out; have := HK4.out; omega
         case rel => exact ⟨(y120), (y113), (wrap64 (x17_4 + 1)), (by first | rfl | (simp; done) | (simp [*]; done)), H', ⟨by have := HJ5.out; have := HJ9.out; have := HK3.out; have := HK4.out; omega⟩, ⟨by (with_reducible repeat (first | apply Kd.R_alloc | apply Kd.R_drewN | apply Kd.R_drew)); exact Kd.R_mono HO122.out (fun _ hk => trivial)⟩, ⟨by (with_reducible repeat (first | apply Kd.R_alloc | apply Kd.R_drewN | apply Kd.R_drew)); exact HO_13.out⟩, ⟨by exact bl_g HB.out⟩⟩
def gangwaylaw14_num.f (a0 : Int) : Option (Int) := some a0
set_option maxHeartbeats 8000000 in
theorem gangwaylaw14_num.calls (a0 : Int) (r : Int) (w : World) (h : gangwaylaw14_num.f a0 = some r) :
    Calls Try.prog 11 #[.int .i64 a0] w fun e w' => e = .returned (.int .i64 r) ∧ Drawn0 w w' := by
 have H : (some a0) = some r := h
 clear h
 obtain rfl := Option.some.inj H
 go_enter Try.func11, Try.ntmps11
 go_wp2
 go_ret
 exact ⟨by first | rfl | (simp; done) | (simp [*]; done), by repeat (first | exact Drawn0.refl _ | apply Drawn0.step)⟩
def gangwaylaw14_sameOps.l0 : Nat → List (S105) → List (S97) → Int → Option (Bool)
  | 0, _, _, _ => none
  | k + 1, x0, x1, x5 => if x5 < (x0.length : Int) then (if 0 ≤ x5 then (if x5 < (x1.length : Int) then (if ((rd_T105 x0 x5).f0) = ((rd_T97 x1 x5).f0) then (if ((rd_T105 x0 x5).f1) = ((rd_T97 x1 x5).f1) then (if ((rd_T105 x0 x5).f2) = ((rd_T97 x1 x5).f2) then (gangwaylaw14_sameOps.l0 k x0 x1 (wrap64 (x5 + 1))) else (none)) else (none)) else (none)) else (none)) else (none)) else (some true)
def gangwaylaw14_sameOps.f (k : Nat) (l0 : List (S105)) (l1 : List (S97)) : Option (Bool) := if (l0.length : Int) = (l1.length : Int) then (gangwaylaw14_sameOps.l0 k l0 l1 0) else (none)
set_option maxHeartbeats 8000000 in
theorem gangwaylaw14_sameOps.calls (k : Nat) (A0 : Option Addr) (c0 : Nat) (l0 : List (S105)) (A1 : Option Addr) (c1 : Nat) (l1 : List (S97)) (r : Bool) (w : World) (hr0 : Kd.C k105 w A0 l0.length l0) (hc0 : l0.length ≤ c0) (hr1 : Kd.C k97 w A1 l1.length l1) (hc1 : l1.length ≤ c1) (h : gangwaylaw14_sameOps.f k l0 l1 = some r) :
    Calls Try.prog 35 #[.slice A0 l0.length c0, .slice A1 l1.length c1] w fun e w' => e = .returned (.bool r) ∧ Drawn0 w w' := by
 have HR0 := am hr0
 have HC0 := am hc0
 clear hr0 hc0
 have HR1 := am hr1
 have HC1 := am hc1
 clear hr1 hc1
 have H : (if (l0.length : Int) = (l1.length : Int) then (gangwaylaw14_sameOps.l0 k l0 l1 0) else (none)) = some r := h
 clear h
 by_cases c3 : (l0.length : Int) = (l1.length : Int)
 rotate_left
 ·
  rw [if_neg c3] at H
  exact absurd H (by simp)
 rw [if_pos c3] at H
 have c3b0 : ((l0.length : Int) == (l1.length : Int)) = true := beq_iff_eq.mpr c3
 have c3b1 : ((l0.length : Int) != (l1.length : Int)) = false := bne_eq_false_iff_eq.mpr c3
 have c3b2 : (l0.length == l1.length) = true := by first | simpa using c3 | (simp at c3 ⊢; omega)
 clear c3
 have H' := am H
 clear H
 go_enter Try.func35, Try.ntmps35
 go_wp2
 repeat (go_quiet (fail); try go_wp2)
 go_loopg [5] k (fun kq v5 w' => ∃ (x5_1 : Int), v5 = .int .i64 x5_1 ∧ Aside0 (gangwaylaw14_sameOps.l0 kq l0 l1 x5_1 = some r) ∧ Aside0 (kq ≤ k) ∧ Drawn0 w w')
 case atStart => exact ⟨(0), (by first | rfl | (simp; done) | (simp [*]; done)), H', ⟨Nat.le_refl _⟩, by repeat (first | exact Drawn0.refl _ | apply Drawn0.step)⟩
 case round =>
  clear H'
  try clear c1
  try clear p2
  try clear c3
  try clear c3b0
  try clear c3b1
  try clear c3b2
  obtain ⟨x5_1, rfl, HA, HK1, ⟨m1, rfl⟩⟩ := hrel
  cases gk with
  | zero => exact absurd HA.out (by simp [gangwaylaw14_sameOps.l0])
  | succ k1 =>
   have H := HA.out
   clear HA
   simp only [gangwaylaw14_sameOps.l0] at H
   by_cases c4 : x5_1 < (l0.length : Int)
   rotate_left
   ·
    rw [if_neg c4] at H
    have c4b0 : decide (x5_1 < (l0.length : Int)) = false := decide_eq_false c4
    clear c4
    obtain rfl := Option.some.inj H
    go_wp2
    repeat (go_quiet (fail); try go_wp2)
    go_ret
    exact ⟨by first | rfl | (simp; done) | (simp [*]; done), by repeat (first | exact Drawn0.refl _ | apply Drawn0.step)⟩
   rw [if_pos c4] at H
   have c4b0 : decide (x5_1 < (l0.length : Int)) = true := decide_eq_true c4
   clear c4
   by_cases c5 : 0 ≤ x5_1
   rotate_left
   ·
    rw [if_neg c5] at H
    exact absurd H (by simp)
   rw [if_pos c5] at H
   have c5b0 : decide (0 ≤ x5_1) = true := decide_eq_true c5
   clear c5
   by_cases c6 : x5_1 < (l1.length : Int)
   rotate_left
   ·
    rw [if_neg c6] at H
    exact absurd H (by simp)
   rw [if_pos c6] at H
   have c6b0 : decide (x5_1 < (l1.length : Int)) = true := decide_eq_true c6
   clear c6
   by_cases c7 : ((rd_T105 l0 x5_1).f0) = ((rd_T97 l1 x5_1).f0)
   rotate_left
   ·
    rw [if_neg c7] at H
    exact absurd H (by simp)
   rw [if_pos c7] at H
   have c7b0 : (((rd_T105 l0 x5_1).f0) == ((rd_T97 l1 x5_1).f0)) = true := beq_iff_eq.mpr c7
   have c7b1 : (((rd_T105 l0 x5_1).f0) != ((rd_T97 l1 x5_1).f0)) = false := bne_eq_false_iff_eq.mpr c7
   clear c7
   by_cases c8 : ((rd_T105 l0 x5_1).f1) = ((rd_T97 l1 x5_1).f1)
   rotate_left
   ·
    rw [if_neg c8] at H
    exact absurd H (by simp)
   rw [if_pos c8] at H
   have c8b0 : (((rd_T105 l0 x5_1).f1) == ((rd_T97 l1 x5_1).f1)) = true := beq_iff_eq.mpr c8
   have c8b1 : (((rd_T105 l0 x5_1).f1) != ((rd_T97 l1 x5_1).f1)) = false := bne_eq_false_iff_eq.mpr c8
   clear c8
   by_cases c9 : ((rd_T105 l0 x5_1).f2) = ((rd_T97 l1 x5_1).f2)
   rotate_left
   ·
    rw [if_neg c9] at H
    exact absurd H (by simp)
   rw [if_pos c9] at H
   have c9b0 : (((rd_T105 l0 x5_1).f2) == ((rd_T97 l1 x5_1).f2)) = true := beq_iff_eq.mpr c9
   have c9b1 : (((rd_T105 l0 x5_1).f2) != ((rd_T97 l1 x5_1).f2)) = false := bne_eq_false_iff_eq.mpr c9
   clear c9
   have H' := am H
   clear H
   have p101 : 0 ≤ (x5_1 : Int) := od
   have q101 : x5_1 < (l0.length : Int) := od
   obtain ⟨ad101, e101, hx101_0, hx101_1, hx101_2⟩ := at_T105 HR0.out x5_1 p101 q101
   cases e101
   replace p101 := eq_true p101
   replace q101 := eq_true q101
   have p102 : 0 ≤ (x5_1 : Int) := od
   have q102 : x5_1 < (l1.length : Int) := od
   obtain ⟨ad102, e102, hx102_0, hx102_1, hx102_2⟩ := at_T97 HR1.out x5_1 p102 q102
   cases e102
   replace p102 := eq_true p102
   replace q102 := eq_true q102
   have p103 : 0 ≤ (x5_1 : Int) := od
   have q103 : x5_1 < (l0.length : Int) := od
   obtain ⟨ad103, e103, hx103_0, hx103_1, hx103_2⟩ := at_T105 HR0.out x5_1 p103 q103
   obtain rfl : ad101 = ad103 := (by injection e103)
   replace p103 := eq_true p103
   replace q103 := eq_true q103
   have p104 : 0 ≤ (x5_1 : Int) := od
   have q104 : x5_1 < (l1.length : Int) := od
   obtain ⟨ad104, e104, hx104_0, hx104_1, hx104_2⟩ := at_T97 HR1.out x5_1 p104 q104
   obtain rfl : ad102 = ad104 := (by injection e104)
   replace p104 := eq_true p104
   replace q104 := eq_true q104
   have p105 : 0 ≤ (x5_1 : Int) := od
   have q105 : x5_1 < (l0.length : Int) := od
   obtain ⟨ad105, e105, hx105_0, hx105_1, hx105_2⟩ := at_T105 HR0.out x5_1 p105 q105
   obtain rfl : ad101 = ad105 := (by injection e105)
   replace p105 := eq_true p105
   replace q105 := eq_true q105
   have p106 : 0 ≤ (x5_1 : Int) := od
   have q106 : x5_1 < (l1.length : Int) := od
   obtain ⟨ad106, e106, hx106_0, hx106_1, hx106_2⟩ := at_T97 HR1.out x5_1 p106 q106
   obtain rfl : ad102 = ad106 := (by injection e106)
   replace p106 := eq_true p106
   replace q106 := eq_true q106
   go_wp2
   repeat (go_quiet (fail); try go_wp2)
   go_roundg k1
   case measure => have := HK1.out; omega
   case rel => exact ⟨(wrap64 (x5_1 + 1)), (by first | rfl | (simp; done) | (simp [*]; done)), H', ⟨by have := HK1.out; omega⟩, by repeat (first | exact Drawn0.refl _ | apply Drawn0.step)⟩
mutual
def gangwaylaw14_same.j0 : Nat → List (S69) → List (S46) → List (S43) → List (S61) → Bool → Option (Bool)
  | 0, _, _, _, _, _ => none
  | k + 1, x0, x1, x2, x3, x22 => if x22 = true then (none) else (gangwaylaw14_same.l0 k x0 x1 x2 x3 0)
def gangwaylaw14_same.l0 : Nat → List (S69) → List (S46) → List (S43) → List (S61) → Int → Option (Bool)
  | 0, _, _, _, _, _ => none
  | k + 1, x0, x1, x2, x3, x9 => if x9 < (x2.length : Int) then (if 0 ≤ x9 then (if x9 < (x0.length : Int) then (if ((rd_T69 x0 x9).f0) = ((rd_T43 x2 x9).f0) then ((gangwaylaw14_sameOps.f k ((rd_T69 x0 x9).f1) ((rd_T43 x2 x9).f1)).bind fun t105 => (if t105 = true then (gangwaylaw14_same.l0 k x0 x1 x2 x3 (wrap64 (x9 + 1))) else (none))) else (none)) else (none)) else (none)) else (gangwaylaw14_same.l1 k x1 x3 0)
def gangwaylaw14_same.l1 : Nat → List (S46) → List (S61) → Int → Option (Bool)
  | 0, _, _, _ => none
  | k + 1, x1, x3, x10 => if x10 < (x3.length : Int) then (if 0 ≤ x10 then (if x10 < (x1.length : Int) then (if ((rd_T46 x1 x10).f0) = ((rd_T61 x3 x10).f0) then (if ((rd_T46 x1 x10).f1) = ((rd_T61 x3 x10).f1) then (if ((rd_T46 x1 x10).f2) = ((rd_T61 x3 x10).f2) then ((gangwaylaw14_sameOps.f k ((rd_T46 x1 x10).f3) ((rd_T61 x3 x10).f3)).bind fun t114 => (if t114 = true then (gangwaylaw14_same.l1 k x1 x3 (wrap64 (x10 + 1))) else (none))) else (none)) else (none)) else (none)) else (none)) else (none)) else (some true)
end
def gangwaylaw14_same.f (k : Nat) (l0 : List (S69)) (l1 : List (S46)) (l2 : List (S43)) (l3 : List (S61)) : Option (Bool) := if (l0.length : Int) = (l2.length : Int) then (gangwaylaw14_same.j0 k l0 l1 l2 l3 ((l1.length : Int) != (l3.length : Int))) else (gangwaylaw14_same.j0 k l0 l1 l2 l3 true)
def gangwaylaw14_same.T6 : Bool × List (List Nat × List Nat) := (true, [([], []), ([], []), ([0, 1], [0, 1]), ([2], [2]), ([3], [3]), ([], []), ([], []), ([5, 6], [5, 6]), ([7], [7]), ([8], [8]), ([4, 9], [4, 9]), ([10], [10]), ([11], [11]), ([11], [11]), ([12, 13, 11], [11, 12, 13]), ([14, 11], [11, 14]), ([15, 11], [11, 15]), ([11], [11]), ([11], [11]), ([17, 18, 11], [11, 17, 18]), ([19, 11], [11, 19]), ([20, 11], [11, 20]), ([16, 21, 11, 11], [11, 16, 21]), ([22, 11], [11, 22]), ([11, 23], [11, 23])])
def gangwaylaw14_same.B6 : List Nat := [0, 0, 3, 7, 15, 0, 0, 96, 224, 480, 1023, 2047, 4095, 4095, 16383, 32767, 65535, 4095, 4095, 397311, 921599, 1970175, 4194303, 8388607, 16777215]
theorem gangwaylaw14_same.tab6 : rtab .any (opsOf Try.f14 6) = gangwaylaw14_same.T6 := by kernel_rfl
theorem gangwaylaw14_same.bits6 : waitsOk gangwaylaw14_same.T6.2 gangwaylaw14_same.B6 = true := by kernel_rfl
def gangwaylaw14_same.T11 : Bool × List (List Nat × List Nat) := (true, [([], []), ([], []), ([0, 1], [0, 1]), ([2], [2]), ([3], [3]), ([], []), ([], []), ([5, 6], [5, 6]), ([7], [7]), ([8], [8]), ([4, 9], [4, 9]), ([10], [10]), ([11], [11]), ([11], [11]), ([12, 13, 11], [11, 12, 13]), ([14, 11], [11, 14]), ([15, 11], [11, 15]), ([11], [11]), ([11], [11]), ([17, 18, 11], [11, 17, 18]), ([19, 11], [11, 19]), ([20, 11], [11, 20]), ([16, 21, 11], [11, 16, 21]), ([11, 22], [11, 22]), ([23, 11], [23]), ([24], [24]), ([24], [24]), ([25, 26, 24], [24, 25, 26]), ([27, 24], [24, 27]), ([28, 24], [24, 28]), ([24], [24]), ([24], [24]), ([30, 31, 24], [24, 30, 31]), ([32, 24], [24, 32]), ([33, 24], [24, 33]), ([29, 34, 24], [24, 29, 34]), ([24, 35], [24, 35]), ([36, 24], [36]), ([37], [37]), ([37], [37]), ([38, 39, 37], [37, 38, 39]), ([40, 37], [37, 40]), ([41, 37], [37, 41]), ([37], [37]), ([37], [37]), ([43, 44, 37], [37, 43, 44]), ([45, 37], [37, 45]), ([46, 37], [37, 46]), ([42, 47, 37, 37], [37, 42, 47]), ([48, 37], [37, 48]), ([37, 49], [37, 49])])
def gangwaylaw14_same.B11 : List Nat := [0, 0, 3, 7, 15, 0, 0, 96, 224, 480, 1023, 2047, 4095, 4095, 16383, 32767, 65535, 4095, 4095, 397311, 921599, 1970175, 4194303, 8388607, 16777215, 33554431, 33554431, 134217727, 268435455, 536870911, 33554431, 33554431, 3254779903, 7549747199, 16139681791, 34359738367, 68719476735, 137438953471, 274877906943, 274877906943, 1099511627775, 2199023255551, 4398046511103, 274877906943, 274877906943, 26663156973567, 61847529062399, 132216273240063, 281474976710655, 562949953421311, 1125899906842623]
theorem gangwaylaw14_same.tab11 : rtab .any (opsOf Try.f14 11) = gangwaylaw14_same.T11 := by kernel_rfl
theorem gangwaylaw14_same.bits11 : waitsOk gangwaylaw14_same.T11.2 gangwaylaw14_same.B11 = true := by kernel_rfl
set_option maxHeartbeats 8000000 in
theorem gangwaylaw14_same.calls (k : Nat) (A0 : Option Addr) (c0 : Nat) (l0 : List (S69)) (A1 : Option Addr) (c1 : Nat) (l1 : List (S46)) (A2 : Option Addr) (c2 : Nat) (l2 : List (S43)) (A3 : Option Addr) (c3 : Nat) (l3 : List (S61)) (r : Bool) (w : World) (hr0 : Kd.C k69 w A0 l0.length l0) (hc0 : l0.length ≤ c0) (hr1 : Kd.C k46 w A1 l1.length l1) (hc1 : l1.length ≤ c1) (hr2 : Kd.C k43 w A2 l2.length l2) (hc2 : l2.length ≤ c2) (hr3 : Kd.C k61 w A3 l3.length l3) (hc3 : l3.length ≤ c3) (h : gangwaylaw14_same.f k l0 l1 l2 l3 = some r) :
    Calls Try.prog 14 #[.slice A0 l0.length c0, .slice A1 l1.length c1, .slice A2 l2.length c2, .slice A3 l3.length c3] w fun e w' => e = .returned (.bool r) ∧ Below w.heap.size w w' := by
 have HR0 := am hr0
 have HC0 := am hc0
 clear hr0 hc0
 have HR1 := am hr1
 have HC1 := am hc1
 clear hr1 hc1
 have HR2 := am hr2
 have HC2 := am hc2
 clear hr2 hc2
 have HR3 := am hr3
 have HC3 := am hc3
 clear hr3 hc3
 have HB := am (Below.refl w.heap.size w)
 have H : (if (l0.length : Int) = (l2.length : Int) then (gangwaylaw14_same.j0 k l0 l1 l2 l3 ((l1.length : Int) != (l3.length : Int))) else (gangwaylaw14_same.j0 k l0 l1 l2 l3 true)) = some r := h
 clear h
 have HC5 := am H
 clear H
 go_enter Try.func14, Try.ntmps14
 go_upto_region 1 with (fail)
 go_cut [22] (fun v22 wc => ∃ (kq : Nat) (x22_4 : Bool), v22 = .bool x22_4 ∧ Aside0 (gangwaylaw14_same.j0 kq l0 l1 l2 l3 x22_4 = some r) ∧ Aside0 (kq ≤ k) ∧ Aside0 (Below w.heap.size w wc))
 case first =>
  have H := HC5.out
  clear HC5
  by_cases c6 : (l0.length : Int) = (l2.length : Int)
  ·
   rw [if_pos c6] at H
   have c6b0 : ((l0.length : Int) == (l2.length : Int)) = true := beq_iff_eq.mpr c6
   have c6b1 : ((l0.length : Int) != (l2.length : Int)) = false := bne_eq_false_iff_eq.mpr c6
   have c6b2 : (l0.length == l2.length) = true := by first | simpa using c6 | (simp at c6 ⊢; omega)
   clear c6
   (first | rw [c6b0] | (simp only [i64_w, i32_w]; rw [c6b0]) | skip)
   have H' := am H
   clear H
   go_wp2
   go_meet
   case rel => exact ⟨_, (((l1.length : Int) != (l3.length : Int))), (by first | rfl | (simp; done) | (simp [*]; done)), H', ⟨by first | omega | exact Nat.le_refl _⟩, ⟨by exact bl_g HB.out⟩⟩
  rw [if_neg c6] at H
  have c6b0 : ((l0.length : Int) == (l2.length : Int)) = false := beq_eq_false_iff_ne.mpr c6
  have c6b1 : ((l0.length : Int) != (l2.length : Int)) = true := bne_iff_ne.mpr c6
  have c6b2 : (l0.length == l2.length) = false := by first | simpa using c6 | (simp at c6 ⊢; omega)
  (first | rw [c6b0] | (simp only [i64_w, i32_w]; rw [c6b0]) | skip)
  have H' := am H
  clear H
  go_wp2
  go_meet
  case rel => exact ⟨_, (true), (by first | rfl | (simp; done) | (simp [*]; done)), H', ⟨by first | omega | exact Nat.le_refl _⟩, ⟨by exact bl_g HB.out⟩⟩
 case rest =>
  clear HC5
  try clear c1
  try clear c2
  try clear p2
  try clear c3
  try clear c6
  try clear c6b0
  try clear c6b1
  try clear c6b2
  obtain ⟨kq, x22_4, rfl, HA, HJ4, HB⟩ := hcut
  cases kq with
  | zero => exact absurd HA.out (by simp [gangwaylaw14_same.j0])
  | succ kj4 =>
   have H := HA.out
   clear HA
   simp only [gangwaylaw14_same.j0] at H
   by_cases c7 : x22_4 = true
   ·
    subst c7
    replace H : (none) = some r := by rw [if_pos rfl] at H; exact H
    exact absurd H (by simp)
   replace c7 := Bool.eq_false_iff.mpr c7
   subst c7
   replace H : (gangwaylaw14_same.l0 kj4 l0 l1 l2 l3 0) = some r := by rw [if_neg (show ¬ (false = true) by decide)] at H; exact H
   have H' := am H
   clear H
   go_wp2
   go_loopg [9] kj4 (fun kq v9 w' => ∃ (x9_2 : Int), v9 = .int .i64 x9_2 ∧ Aside0 (gangwaylaw14_same.l0 kq l0 l1 l2 l3 x9_2 = some r) ∧ Aside0 (kq ≤ kj4) ∧ Aside0 (Below w.heap.size w w'))
   case atStart => exact ⟨(0), (by first | rfl | (simp; done) | (simp [*]; done)), H', ⟨Nat.le_refl _⟩, ⟨by exact bl_g HB.out⟩⟩
   case round =>
    clear H'
    try clear c1
    try clear c2
    try clear p2
    try clear c3
    try clear c6
    try clear c6b0
    try clear c6b1
    try clear c6b2
    try clear c7
    try clear p2
    obtain ⟨x9_2, rfl, HA, HK2, HB⟩ := hrel
    cases gk with
    | zero => exact absurd HA.out (by simp [gangwaylaw14_same.l0])
    | succ k2 =>
     have H := HA.out
     clear HA
     simp only [gangwaylaw14_same.l0] at H
     by_cases c8 : x9_2 < (l2.length : Int)
     ·
      rw [if_pos c8] at H
      have c8b0 : decide (x9_2 < (l2.length : Int)) = true := decide_eq_true c8
      clear c8
      by_cases c9 : 0 ≤ x9_2
      rotate_left
      ·
       rw [if_neg c9] at H
       exact absurd H (by simp)
      rw [if_pos c9] at H
      have c9b0 : decide (0 ≤ x9_2) = true := decide_eq_true c9
      clear c9
      by_cases c10 : x9_2 < (l0.length : Int)
      rotate_left
      ·
       rw [if_neg c10] at H
       exact absurd H (by simp)
      rw [if_pos c10] at H
      have c10b0 : decide (x9_2 < (l0.length : Int)) = true := decide_eq_true c10
      clear c10
      by_cases c11 : ((rd_T69 l0 x9_2).f0) = ((rd_T43 l2 x9_2).f0)
      rotate_left
      ·
       rw [if_neg c11] at H
       have c11b0 : (((rd_T69 l0 x9_2).f0) == ((rd_T43 l2 x9_2).f0)) = false := beq_eq_false_iff_ne.mpr c11
       have c11b1 : (((rd_T69 l0 x9_2).f0) != ((rd_T43 l2 x9_2).f0)) = true := bne_iff_ne.mpr c11
       exact absurd H (by simp)
      rw [if_pos c11] at H
      have c11b0 : (((rd_T69 l0 x9_2).f0) == ((rd_T43 l2 x9_2).f0)) = true := beq_iff_eq.mpr c11
      have c11b1 : (((rd_T69 l0 x9_2).f0) != ((rd_T43 l2 x9_2).f0)) = false := bne_eq_false_iff_eq.mpr c11
      clear c11
      replace H := Option.bind_eq_some_iff.mp H
      obtain ⟨t105, A120, H⟩ := H
      replace H : (if t105 = true then (gangwaylaw14_same.l0 k2 l0 l1 l2 l3 (wrap64 (x9_2 + 1))) else (none)) = some r := H
      have A12 := am A120
      clear A120
      by_cases c13 : t105 = true
      rotate_left
      ·
       replace c13 := Bool.eq_false_iff.mpr c13
       subst c13
       replace H : (none) = some r := by rw [if_neg (show ¬ (false = true) by decide)] at H; exact H
       exact absurd H (by simp)
      subst c13
      replace H : (gangwaylaw14_same.l0 k2 l0 l1 l2 l3 (wrap64 (x9_2 + 1))) = some r := by rw [if_pos rfl] at H; exact H
      have H' := am H
      clear H
      try go_wp2
      have n0_ := am (below_drew1 HB.out)
      clear HB
      have HB := n0_
      clear n0_
      have p101 : 0 ≤ (x9_2 : Int) := od
      have q101 : x9_2 < (l0.length : Int) := od
      obtain ⟨ad101, A101_1, c101_1, e101, hx101_0, hx101_1, hl101_1, hi101_1⟩ := at_T69 HR0.out x9_2 p101 q101
      have hw101_1 := hx101_1
      have hw101_0 := hx101_0
      cases e101
      replace hx101_0 := oc HB.out hx101_0
      replace hx101_1 := oc HB.out hx101_1
      have HR101_1 := am hi101_1
      have HC101_1 := am hl101_1
      clear hi101_1 hl101_1
      replace p101 := eq_true p101
      replace q101 := eq_true q101
      have p102 : 0 ≤ (x9_2 : Int) := od
      have q102 : x9_2 < (l2.length : Int) := od
      obtain ⟨ad102, A102_1, c102_1, e102, hx102_0, hx102_1, hl102_1, hi102_1⟩ := at_T43 HR2.out x9_2 p102 q102
      have hw102_1 := hx102_1
      have hw102_0 := hx102_0
      cases e102
      replace hx102_0 := oc HB.out hx102_0
      replace hx102_1 := oc HB.out hx102_1
      have HR102_1 := am hi102_1
      have HC102_1 := am hl102_1
      clear hi102_1 hl102_1
      replace p102 := eq_true p102
      replace q102 := eq_true q102
      have p103 : 0 ≤ (x9_2 : Int) := od
      have q103 : x9_2 < (l0.length : Int) := od
      obtain ⟨ad103, A103_1, c103_1, e103, hx103_0, hx103_1, hl103_1, hi103_1⟩ := at_T69 HR0.out x9_2 p103 q103
      have hw103_1 := hx103_1
      have hw103_0 := hx103_0
      obtain rfl : ad101 = ad103 := (by injection e103)
      replace hx103_0 := oc HB.out hx103_0
      replace hx103_1 := oc HB.out hx103_1
      have HR103_1 := am hi103_1
      have HC103_1 := am hl103_1
      clear hi103_1 hl103_1
      replace p103 := eq_true p103
      replace q103 := eq_true q103
      have ea_ := Option.some.inj (hx101_1.symm.trans hx103_1)
      injection ea_ with ea_ en_ ec_
      subst ea_
      subst ec_
      clear en_
      have p104 : 0 ≤ (x9_2 : Int) := od
      have q104 : x9_2 < (l2.length : Int) := od
      obtain ⟨ad104, A104_1, c104_1, e104, hx104_0, hx104_1, hl104_1, hi104_1⟩ := at_T43 HR2.out x9_2 p104 q104
      have hw104_1 := hx104_1
      have hw104_0 := hx104_0
      obtain rfl : ad102 = ad104 := (by injection e104)
      replace hx104_0 := oc HB.out hx104_0
      replace hx104_1 := oc HB.out hx104_1
      have HR104_1 := am hi104_1
      have HC104_1 := am hl104_1
      clear hi104_1 hl104_1
      replace p104 := eq_true p104
      replace q104 := eq_true q104
      have ea_ := Option.some.inj (hx102_1.symm.trans hx104_1)
      injection ea_ with ea_ en_ ec_
      subst ea_
      subst ec_
      clear en_
      refine start_ (n := 25) (S := fun w' => w'.cell? (ad101.add ((x9_2).toNat * 2)) = some (.int .i64 ((rd_T69 l0 x9_2).f0)) ∧ w'.cell? ⟨(ad101.add ((x9_2).toNat * 2)).block, (ad101.add ((x9_2).toNat * 2)).off + 1, none⟩ = some (.slice A101_1 ((rd_T69 l0 x9_2).f1).length c101_1) ∧ w'.cell? (ad102.add ((x9_2).toNat * 2)) = some (.int .i64 ((rd_T43 l2 x9_2).f0)) ∧ w'.cell? ⟨(ad102.add ((x9_2).toNat * 2)).block, (ad102.add ((x9_2).toNat * 2)).off + 1, none⟩ = some (.slice A102_1 ((rd_T43 l2 x9_2).f1).length c102_1) ∧ w'.cell? (ad101.add ((x9_2).toNat * 2)) = some (.int .i64 ((rd_T69 l0 x9_2).f0)) ∧ w'.cell? ⟨(ad101.add ((x9_2).toNat * 2)).block, (ad101.add ((x9_2).toNat * 2)).off + 1, none⟩ = some (.slice A101_1 ((rd_T69 l0 x9_2).f1).length c101_1) ∧ w'.cell? (ad102.add ((x9_2).toNat * 2)) = some (.int .i64 ((rd_T43 l2 x9_2).f0)) ∧ w'.cell? ⟨(ad102.add ((x9_2).toNat * 2)).block, (ad102.add ((x9_2).toNat * 2)).off + 1, none⟩ = some (.slice A102_1 ((rd_T43 l2 x9_2).f1).length c102_1)) (ds := []) (bm 25 0) (by kernel_rfl) rfl rfl ⟨(oc HB.out hw101_0 :), (oc HB.out hw101_1 :), (oc HB.out hw102_0 :), (oc HB.out hw102_1 :), (oc HB.out hw103_0 :), (oc HB.out hw103_1 :), (oc HB.out hw104_0 :), (oc HB.out hw104_1 :)⟩ (fun hHeld => ?_); refine with_tabW gangwaylaw14_same.tab6 gangwaylaw14_same.bits6 (fun HT_ HW_ => ?_)
      generalize wr.drew = w14 at HB HR101_1 HR102_1 HR103_1 HR104_1 hx101_0 hx101_1 hx102_0 hx102_1 hx103_0 hx103_1 hx104_0 hx104_1 hHeld ⊢
      refine pure_ (i := 0) (N := some 29) (v := ?_) (a' := ?_) (bm 25 1) rfl rfl (any_of HT_.out (by kernel_rfl)) (fun _ _ _ h => h) (Or.inl ⟨by rfl, ?_⟩) ?_ ?_
      rotate_left
      ·
       intro w'
       go_simp
       with_reducible rfl
      rotate_left
      ·
       simp only [pz]
       rfl
      refine pure_ (i := 1) (N := some 30) (v := ?_) (a' := ?_) (bm 25 3) rfl rfl (any_of HT_.out (by kernel_rfl)) (fun _ _ _ h => h) (Or.inl ⟨by rfl, ?_⟩) ?_ ?_
      rotate_left
      ·
       intro w'
       go_simp
       with_reducible rfl
      rotate_left
      ·
       simp only [pz]
       rfl
      refine pure_ (i := 2) (N := some 31) (v := ?_) (a' := ?_) (bm 25 7) rfl rfl (any_of HT_.out (by kernel_rfl)) (fun _ _ _ h => h) (Or.inl ⟨by rfl, ?_⟩) ?_ ?_
      rotate_left
      ·
       intro w'
       go_simp
       with_reducible rfl
      rotate_left
      ·
       simp only [pz]
       rfl
      refine pure_ (i := 3) (N := some 32) (v := ?_) (a' := ?_) (bm 25 15) rfl rfl (any_of HT_.out (by kernel_rfl)) (fun _ _ _ h => h) (Or.inl ⟨by rfl, ?_⟩) ?_ ?_
      rotate_left
      ·
       intro w'
       go_simp
       with_reducible rfl
      rotate_left
      ·
       simp only [pz]
       rfl
      refine pure_ (i := 5) (N := some 34) (v := ?_) (a' := ?_) (bm 25 47) rfl rfl (any_of HT_.out (by kernel_rfl)) (fun _ _ _ h => h) (Or.inl ⟨by rfl, ?_⟩) ?_ ?_
      rotate_left
      ·
       intro w'
       go_simp
       with_reducible rfl
      rotate_left
      ·
       simp only [pz]
       rfl
      refine pure_ (i := 6) (N := some 35) (v := ?_) (a' := ?_) (bm 25 111) rfl rfl (any_of HT_.out (by kernel_rfl)) (fun _ _ _ h => h) (Or.inl ⟨by rfl, ?_⟩) ?_ ?_
      rotate_left
      ·
       intro w'
       go_simp
       with_reducible rfl
      rotate_left
      ·
       simp only [pz]
       rfl
      refine pure_ (i := 7) (N := some 36) (v := ?_) (a' := ?_) (bm 25 239) rfl rfl (any_of HT_.out (by kernel_rfl)) (fun _ _ _ h => h) (Or.inl ⟨by rfl, ?_⟩) ?_ ?_
      rotate_left
      ·
       intro w'
       go_simp
       with_reducible rfl
      rotate_left
      ·
       simp only [pz]
       rfl
      refine pure_ (i := 8) (N := some 37) (v := ?_) (a' := ?_) (bm 25 495) rfl rfl (any_of HT_.out (by kernel_rfl)) (fun _ _ _ h => h) (Or.inl ⟨by rfl, ?_⟩) ?_ ?_
      rotate_left
      ·
       intro w'
       go_simp
       with_reducible rfl
      rotate_left
      ·
       simp only [pz]
       rfl
      refine take_ (i := 4) (N := some 33) (v := ?_) (a' := ?_) (bm 25 511) rfl rfl (take_ofW HT_.out HW_.out (by kernel_rfl)) (fun _ _ _ h => h) (Or.inl ⟨by rfl, ?_⟩) hHeld ?_ ?_
      rotate_left
      ·
       rintro w' ⟨s0, s1, s2, s3, s4, s5, s6, s7⟩
       go_simp
       with_reducible rfl
      rotate_left
      ·
       simp only [pz]
       rfl
      refine take_ (i := 9) (N := some 38) (v := ?_) (a' := ?_) (bm 25 1023) rfl rfl (take_ofW HT_.out HW_.out (by kernel_rfl)) (fun _ _ _ h => h) (Or.inl ⟨by rfl, ?_⟩) hHeld ?_ ?_
      rotate_left
      ·
       rintro w' ⟨s0, s1, s2, s3, s4, s5, s6, s7⟩
       go_simp
       with_reducible rfl
      rotate_left
      ·
       simp only [pz]
       rfl
      refine pure_ (i := 10) (N := some 39) (v := ?_) (a' := ?_) (bm 25 2047) rfl rfl (any_of HT_.out (by kernel_rfl)) (fun _ _ _ h => h) (Or.inl ⟨by rfl, ?_⟩) ?_ ?_
      rotate_left
      ·
       intro w'
       go_simp
       with_reducible rfl
      rotate_left
      ·
       simp only [pz]
       rfl
      refine pure_ (i := 11) (N := some 40) (v := ?_) (a' := ?_) (bm 25 4095) rfl rfl (any_of HT_.out (by kernel_rfl)) (fun _ _ _ h => h) (Or.inl ⟨by rfl, ?_⟩) ?_ ?_
      rotate_left
      ·
       intro w'
       go_simp
       with_reducible rfl
      rotate_left
      ·
       simp only [pz]
       rfl
      refine pure_ (i := 12) (N := some 41) (v := ?_) (a' := ?_) (bm 25 8191) rfl rfl (any_of HT_.out (by kernel_rfl)) (fun _ _ _ h => h) (Or.inl ⟨by rfl, ?_⟩) ?_ ?_
      rotate_left
      ·
       intro w'
       go_simp
       with_reducible rfl
      rotate_left
      ·
       simp only [pz]
       rfl
      refine pure_ (i := 13) (N := some 42) (v := ?_) (a' := ?_) (bm 25 16383) rfl rfl (any_of HT_.out (by kernel_rfl)) (fun _ _ _ h => h) (Or.inl ⟨by rfl, ?_⟩) ?_ ?_
      rotate_left
      ·
       intro w'
       go_simp
       with_reducible rfl
      rotate_left
      ·
       simp only [pz]
       rfl
      refine pure_ (i := 14) (N := some 43) (v := ?_) (a' := ?_) (bm 25 32767) rfl rfl (any_of HT_.out (by kernel_rfl)) (fun _ _ _ h => h) (Or.inl ⟨by rfl, ?_⟩) ?_ ?_
      rotate_left
      ·
       intro w'
       go_simp
       with_reducible rfl
      rotate_left
      ·
       simp only [pz]
       rfl
      refine pure_ (i := 15) (N := some 44) (v := ?_) (a' := ?_) (bm 25 65535) rfl rfl (any_of HT_.out (by kernel_rfl)) (fun _ _ _ h => h) (Or.inl ⟨by rfl, ?_⟩) ?_ ?_
      rotate_left
      ·
       intro w'
       go_simp
       with_reducible rfl
      rotate_left
      ·
       simp only [pz]
       rfl
      refine pure_ (i := 17) (N := some 46) (v := ?_) (a' := ?_) (bm 25 196607) rfl rfl (any_of HT_.out (by kernel_rfl)) (fun _ _ _ h => h) (Or.inl ⟨by rfl, ?_⟩) ?_ ?_
      rotate_left
      ·
       intro w'
       go_simp
       with_reducible rfl
      rotate_left
      ·
       simp only [pz]
       rfl
      refine pure_ (i := 18) (N := some 47) (v := ?_) (a' := ?_) (bm 25 458751) rfl rfl (any_of HT_.out (by kernel_rfl)) (fun _ _ _ h => h) (Or.inl ⟨by rfl, ?_⟩) ?_ ?_
      rotate_left
      ·
       intro w'
       go_simp
       with_reducible rfl
      rotate_left
      ·
       simp only [pz]
       rfl
      refine pure_ (i := 19) (N := some 48) (v := ?_) (a' := ?_) (bm 25 983039) rfl rfl (any_of HT_.out (by kernel_rfl)) (fun _ _ _ h => h) (Or.inl ⟨by rfl, ?_⟩) ?_ ?_
      rotate_left
      ·
       intro w'
       go_simp
       with_reducible rfl
      rotate_left
      ·
       simp only [pz]
       rfl
      refine pure_ (i := 20) (N := some 49) (v := ?_) (a' := ?_) (bm 25 2031615) rfl rfl (any_of HT_.out (by kernel_rfl)) (fun _ _ _ h => h) (Or.inl ⟨by rfl, ?_⟩) ?_ ?_
      rotate_left
      ·
       intro w'
       go_simp
       with_reducible rfl
      rotate_left
      ·
       simp only [pz]
       rfl
      refine take_ (i := 16) (N := some 45) (v := ?_) (a' := ?_) (bm 25 2097151) rfl rfl (take_ofW HT_.out HW_.out (by kernel_rfl)) (fun _ _ _ h => h) (Or.inl ⟨by rfl, ?_⟩) hHeld ?_ ?_
      rotate_left
      ·
       rintro w' ⟨s0, s1, s2, s3, s4, s5, s6, s7⟩
       go_simp
       with_reducible rfl
      rotate_left
      ·
       simp only [pz]
       rfl
      refine take_ (i := 21) (N := some 50) (v := ?_) (a' := ?_) (bm 25 4194303) rfl rfl (take_ofW HT_.out HW_.out (by kernel_rfl)) (fun _ _ _ h => h) (Or.inl ⟨by rfl, ?_⟩) hHeld ?_ ?_
      rotate_left
      ·
       rintro w' ⟨s0, s1, s2, s3, s4, s5, s6, s7⟩
       go_simp
       with_reducible rfl
      rotate_left
      ·
       simp only [pz]
       rfl
      refine one_ (i := 22) (N := some 51) (bm 25 8388607) rfl rfl (one_of HT_.out (by kernel_rfl)) (by decide) (fun K hK => ?_)
      refine goes_ Try.func35 (by kernel_rfl) rfl #[.slice A101_1 ((rd_T69 l0 x9_2).f1).length c101_1, .slice A102_1 ((rd_T43 l2 x9_2).f1).length c102_1] (by rfl) rfl rfl (by simp only [ml]; try rfl) ?_
      with_reducible refine (gangwaylaw14_sameOps.calls k2 _ _ ((rd_T69 l0 x9_2).f1) _ _ ((rd_T43 l2 x9_2).f1) true _ ?side1 ?side2 ?side3 ?side4 A12.out).mono ?_
      (case side1 => exact Kd.C_o (Kd.C_below HR103_1.out HB.out))
      (case side2 => exact HC103_1.out)
      (case side3 => exact Kd.C_o (Kd.C_below HR104_1.out HB.out))
      (case side4 => exact HC104_1.out)
      rintro e w' ⟨rfl, ⟨nd, rfl⟩⟩
      refine ⟨_, rfl, ?_⟩
      refine hK.out _ _ ⟨(oc HB.out hw101_0 :), (oc HB.out hw101_1 :), (oc HB.out hw102_0 :), (oc HB.out hw102_1 :), (oc HB.out hw103_0 :), (oc HB.out hw103_1 :), (oc HB.out hw104_0 :), (oc HB.out hw104_1 :)⟩ (fun hHeld => ?_)
      clear hK K
      refine norm_ (a' := ?_) ?_ ?_
      rotate_left
      ·
       show Act.put _ (some 51) _ = _
       simp only [pz]
       rfl
      refine pure_ (i := 23) (N := some 52) (v := ?_) (a' := ?_) (bm 25 16777215) rfl rfl (any_of HT_.out (by kernel_rfl)) (fun _ _ _ h => h) (Or.inl ⟨by rfl, ?_⟩) ?_ ?_
      rotate_left
      ·
       intro w'
       go_simp
       with_reducible rfl
      rotate_left
      ·
       simp only [pz]
       rfl
      refine pure_ (i := 24) (N := some 53) (v := ?_) (a' := ?_) (bm 25 33554431) rfl rfl (any_of HT_.out (by kernel_rfl)) (fun _ _ _ h => h) (Or.inl ⟨by rfl, ?_⟩) ?_ ?_
      rotate_left
      ·
       intro w'
       go_simp
       with_reducible rfl
      rotate_left
      ·
       simp only [pz]
       rfl
      refine done_ (done_of HT_.out (by kernel_rfl)) ?_
      try go_wp2
      go_roundg k2
      case measure => have := HJ4.out; have := HK2.out; omega
      case rel => exact ⟨(wrap64 (x9_2 + 1)), (by first | rfl | (simp; done) | (simp [*]; done)), H', ⟨by have := HJ4.out; have := HK2.out; omega⟩, ⟨by exact bl_g HB.out⟩⟩
     rw [if_neg c8] at H
     have c8b0 : decide (x9_2 < (l2.length : Int)) = false := decide_eq_false c8
     clear c8
     have H' := am H
     clear H
     go_wp2
     go_loopg [10] k2 (fun kq v10 w' => ∃ (x10_3 : Int), v10 = .int .i64 x10_3 ∧ Aside0 (gangwaylaw14_same.l1 kq l1 l3 x10_3 = some r) ∧ Aside0 (kq ≤ k2) ∧ Aside0 (Below w.heap.size w w'))
     case atStart => exact ⟨(0), (by first | rfl | (simp; done) | (simp [*]; done)), H', ⟨Nat.le_refl _⟩, ⟨by exact bl_g HB.out⟩⟩
     case round =>
      clear H'
      try clear c1
      try clear p1
      try clear q1
      try clear hx1
      try clear c2
      try clear p2
      try clear c3
      try clear c6
      try clear c6b0
      try clear c6b1
      try clear c6b2
      try clear p6
      try clear c7
      try clear c8
      try clear c8b0
      try clear c9
      try clear c9b0
      try clear c10
      try clear c10b0
      try clear p10
      try clear q10
      try clear hx10
      try clear c11
      try clear c11b0
      try clear c11b1
      try clear c13
      try clear c14
      try clear hx101_0
      try clear hx101_1
      try clear hx102_0
      try clear hx102_1
      try clear hx103_0
      try clear hx103_1
      try clear hx104_0
      try clear hx104_1
      try clear p101
      try clear p102
      try clear p103
      try clear p104
      try clear p2
      try clear q101
      try clear q102
      try clear q103
      try clear q104
      obtain ⟨x10_3, rfl, HA, HK3, HB⟩ := hrel
      cases gk with
      | zero => exact absurd HA.out (by simp [gangwaylaw14_same.l1])
      | succ k3 =>
       have H := HA.out
       clear HA
       simp only [gangwaylaw14_same.l1] at H
       by_cases c15 : x10_3 < (l3.length : Int)
       rotate_left
       ·
        rw [if_neg c15] at H
        have c15b0 : decide (x10_3 < (l3.length : Int)) = false := decide_eq_false c15
        clear c15
        obtain rfl := Option.some.inj H
        go_wp2
        go_ret
        exact ⟨rfl, by exact bl_g HB.out⟩
       rw [if_pos c15] at H
       have c15b0 : decide (x10_3 < (l3.length : Int)) = true := decide_eq_true c15
       clear c15
       by_cases c16 : 0 ≤ x10_3
       rotate_left
       ·
        rw [if_neg c16] at H
        exact absurd H (by simp)
       rw [if_pos c16] at H
       have c16b0 : decide (0 ≤ x10_3) = true := decide_eq_true c16
       clear c16
       by_cases c17 : x10_3 < (l1.length : Int)
       rotate_left
       ·
        rw [if_neg c17] at H
        exact absurd H (by simp)
       rw [if_pos c17] at H
       have c17b0 : decide (x10_3 < (l1.length : Int)) = true := decide_eq_true c17
       clear c17
       by_cases c18 : ((rd_T46 l1 x10_3).f0) = ((rd_T61 l3 x10_3).f0)
       rotate_left
       ·
        rw [if_neg c18] at H
        have c18b0 : (((rd_T46 l1 x10_3).f0) == ((rd_T61 l3 x10_3).f0)) = false := beq_eq_false_iff_ne.mpr c18
        have c18b1 : (((rd_T46 l1 x10_3).f0) != ((rd_T61 l3 x10_3).f0)) = true := bne_iff_ne.mpr c18
        exact absurd H (by simp)
       rw [if_pos c18] at H
       have c18b0 : (((rd_T46 l1 x10_3).f0) == ((rd_T61 l3 x10_3).f0)) = true := beq_iff_eq.mpr c18
       have c18b1 : (((rd_T46 l1 x10_3).f0) != ((rd_T61 l3 x10_3).f0)) = false := bne_eq_false_iff_eq.mpr c18
       clear c18
       by_cases c19 : ((rd_T46 l1 x10_3).f1) = ((rd_T61 l3 x10_3).f1)
       rotate_left
       ·
        rw [if_neg c19] at H
        have c19b0 : (((rd_T46 l1 x10_3).f1) == ((rd_T61 l3 x10_3).f1)) = false := beq_eq_false_iff_ne.mpr c19
        have c19b1 : (((rd_T46 l1 x10_3).f1) != ((rd_T61 l3 x10_3).f1)) = true := bne_iff_ne.mpr c19
        exact absurd H (by simp)
       rw [if_pos c19] at H
       have c19b0 : (((rd_T46 l1 x10_3).f1) == ((rd_T61 l3 x10_3).f1)) = true := beq_iff_eq.mpr c19
       have c19b1 : (((rd_T46 l1 x10_3).f1) != ((rd_T61 l3 x10_3).f1)) = false := bne_eq_false_iff_eq.mpr c19
       clear c19
       by_cases c20 : ((rd_T46 l1 x10_3).f2) = ((rd_T61 l3 x10_3).f2)
       rotate_left
       ·
        rw [if_neg c20] at H
        have c20b0 : (((rd_T46 l1 x10_3).f2) == ((rd_T61 l3 x10_3).f2)) = false := beq_eq_false_iff_ne.mpr c20
        have c20b1 : (((rd_T46 l1 x10_3).f2) != ((rd_T61 l3 x10_3).f2)) = true := bne_iff_ne.mpr c20
        exact absurd H (by simp)
       rw [if_pos c20] at H
       have c20b0 : (((rd_T46 l1 x10_3).f2) == ((rd_T61 l3 x10_3).f2)) = true := beq_iff_eq.mpr c20
       have c20b1 : (((rd_T46 l1 x10_3).f2) != ((rd_T61 l3 x10_3).f2)) = false := bne_eq_false_iff_eq.mpr c20
       clear c20
       replace H := Option.bind_eq_some_iff.mp H
       obtain ⟨t114, A210, H⟩ := H
       replace H : (if t114 = true then (gangwaylaw14_same.l1 k3 l1 l3 (wrap64 (x10_3 + 1))) else (none)) = some r := H
       have A21 := am A210
       clear A210
       by_cases c22 : t114 = true
       rotate_left
       ·
        replace c22 := Bool.eq_false_iff.mpr c22
        subst c22
        replace H : (none) = some r := by rw [if_neg (show ¬ (false = true) by decide)] at H; exact H
        exact absurd H (by simp)
       subst c22
       replace H : (gangwaylaw14_same.l1 k3 l1 l3 (wrap64 (x10_3 + 1))) = some r := by rw [if_pos rfl] at H; exact H
       have H' := am H
       clear H
       try go_wp2
       have n0_ := am (below_drew1 HB.out)
       clear HB
       have HB := n0_
       clear n0_
       have p106 : 0 ≤ (x10_3 : Int) := od
       have q106 : x10_3 < (l1.length : Int) := od
       obtain ⟨ad106, A106_3, c106_3, e106, hx106_0, hx106_1, hx106_2, hx106_3, hl106_3, hi106_3⟩ := at_T46 HR1.out x10_3 p106 q106
       have hw106_3 := hx106_3
       have hw106_2 := hx106_2
       have hw106_1 := hx106_1
       have hw106_0 := hx106_0
       cases e106
       replace hx106_0 := oc HB.out hx106_0
       replace hx106_1 := oc HB.out hx106_1
       replace hx106_2 := oc HB.out hx106_2
       replace hx106_3 := oc HB.out hx106_3
       have HR106_3 := am hi106_3
       have HC106_3 := am hl106_3
       clear hi106_3 hl106_3
       replace p106 := eq_true p106
       replace q106 := eq_true q106
       have p107 : 0 ≤ (x10_3 : Int) := od
       have q107 : x10_3 < (l3.length : Int) := od
       obtain ⟨ad107, A107_3, c107_3, e107, hx107_0, hx107_1, hx107_2, hx107_3, hl107_3, hi107_3⟩ := at_T61 HR3.out x10_3 p107 q107
       have hw107_3 := hx107_3
       have hw107_2 := hx107_2
       have hw107_1 := hx107_1
       have hw107_0 := hx107_0
       cases e107
       replace hx107_0 := oc HB.out hx107_0
       replace hx107_1 := oc HB.out hx107_1
       replace hx107_2 := oc HB.out hx107_2
       replace hx107_3 := oc HB.out hx107_3
       have HR107_3 := am hi107_3
       have HC107_3 := am hl107_3
       clear hi107_3 hl107_3
       replace p107 := eq_true p107
       replace q107 := eq_true q107
       have p108 : 0 ≤ (x10_3 : Int) := od
       have q108 : x10_3 < (l1.length : Int) := od
       obtain ⟨ad108, A108_3, c108_3, e108, hx108_0, hx108_1, hx108_2, hx108_3, hl108_3, hi108_3⟩ := at_T46 HR1.out x10_3 p108 q108
       have hw108_3 := hx108_3
       have hw108_2 := hx108_2
       have hw108_1 := hx108_1
       have hw108_0 := hx108_0
       obtain rfl : ad106 = ad108 := (by injection e108)
       replace hx108_0 := oc HB.out hx108_0
       replace hx108_1 := oc HB.out hx108_1
       replace hx108_2 := oc HB.out hx108_2
       replace hx108_3 := oc HB.out hx108_3
       have HR108_3 := am hi108_3
       have HC108_3 := am hl108_3
       clear hi108_3 hl108_3
       replace p108 := eq_true p108
       replace q108 := eq_true q108
       have ea_ := Option.some.inj (hx106_3.symm.trans hx108_3)
       injection ea_ with ea_ en_ ec_
       subst ea_
       subst ec_
       clear en_
       have p109 : 0 ≤ (x10_3 : Int) := od
       have q109 : x10_3 < (l3.length : Int) := od
       obtain ⟨ad109, A109_3, c109_3, e109, hx109_0, hx109_1, hx109_2, hx109_3, hl109_3, hi109_3⟩ := at_T61 HR3.out x10_3 p109 q109
       have hw109_3 := hx109_3
       have hw109_2 := hx109_2
       have hw109_1 := hx109_1
       have hw109_0 := hx109_0
       obtain rfl : ad107 = ad109 := (by injection e109)
       replace hx109_0 := oc HB.out hx109_0
       replace hx109_1 := oc HB.out hx109_1
       replace hx109_2 := oc HB.out hx109_2
       replace hx109_3 := oc HB.out hx109_3
       have HR109_3 := am hi109_3
       have HC109_3 := am hl109_3
       clear hi109_3 hl109_3
       replace p109 := eq_true p109
       replace q109 := eq_true q109
       have ea_ := Option.some.inj (hx107_3.symm.trans hx109_3)
       injection ea_ with ea_ en_ ec_
       subst ea_
       subst ec_
       clear en_
       have p110 : 0 ≤ (x10_3 : Int) := od
       have q110 : x10_3 < (l1.length : Int) := od
       obtain ⟨ad110, A110_3, c110_3, e110, hx110_0, hx110_1, hx110_2, hx110_3, hl110_3, hi110_3⟩ := at_T46 HR1.out x10_3 p110 q110
       have hw110_3 := hx110_3
       have hw110_2 := hx110_2
       have hw110_1 := hx110_1
       have hw110_0 := hx110_0
       obtain rfl : ad106 = ad110 := (by injection e110)
       replace hx110_0 := oc HB.out hx110_0
       replace hx110_1 := oc HB.out hx110_1
       replace hx110_2 := oc HB.out hx110_2
       replace hx110_3 := oc HB.out hx110_3
       have HR110_3 := am hi110_3
       have HC110_3 := am hl110_3
       clear hi110_3 hl110_3
       replace p110 := eq_true p110
       replace q110 := eq_true q110
       have ea_ := Option.some.inj (hx106_3.symm.trans hx110_3)
       injection ea_ with ea_ en_ ec_
       subst ea_
       subst ec_
       clear en_
       have p111 : 0 ≤ (x10_3 : Int) := od
       have q111 : x10_3 < (l3.length : Int) := od
       obtain ⟨ad111, A111_3, c111_3, e111, hx111_0, hx111_1, hx111_2, hx111_3, hl111_3, hi111_3⟩ := at_T61 HR3.out x10_3 p111 q111
       have hw111_3 := hx111_3
       have hw111_2 := hx111_2
       have hw111_1 := hx111_1
       have hw111_0 := hx111_0
       obtain rfl : ad107 = ad111 := (by injection e111)
       replace hx111_0 := oc HB.out hx111_0
       replace hx111_1 := oc HB.out hx111_1
       replace hx111_2 := oc HB.out hx111_2
       replace hx111_3 := oc HB.out hx111_3
       have HR111_3 := am hi111_3
       have HC111_3 := am hl111_3
       clear hi111_3 hl111_3
       replace p111 := eq_true p111
       replace q111 := eq_true q111
       have ea_ := Option.some.inj (hx107_3.symm.trans hx111_3)
       injection ea_ with ea_ en_ ec_
       subst ea_
       subst ec_
       clear en_
       have p112 : 0 ≤ (x10_3 : Int) := od
       have q112 : x10_3 < (l1.length : Int) := od
       obtain ⟨ad112, A112_3, c112_3, e112, hx112_0, hx112_1, hx112_2, hx112_3, hl112_3, hi112_3⟩ := at_T46 HR1.out x10_3 p112 q112
       have hw112_3 := hx112_3
       have hw112_2 := hx112_2
       have hw112_1 := hx112_1
       have hw112_0 := hx112_0
       obtain rfl : ad106 = ad112 := (by injection e112)
       replace hx112_0 := oc HB.out hx112_0
       replace hx112_1 := oc HB.out hx112_1
       replace hx112_2 := oc HB.out hx112_2
       replace hx112_3 := oc HB.out hx112_3
       have HR112_3 := am hi112_3
       have HC112_3 := am hl112_3
       clear hi112_3 hl112_3
       replace p112 := eq_true p112
       replace q112 := eq_true q112
       have ea_ := Option.some.inj (hx106_3.symm.trans hx112_3)
       injection ea_ with ea_ en_ ec_
       subst ea_
       subst ec_
       clear en_
       have p113 : 0 ≤ (x10_3 : Int) := od
       have q113 : x10_3 < (l3.length : Int) := od
       obtain ⟨ad113, A113_3, c113_3, e113, hx113_0, hx113_1, hx113_2, hx113_3, hl113_3, hi113_3⟩ := at_T61 HR3.out x10_3 p113 q113
       have hw113_3 := hx113_3
       have hw113_2 := hx113_2
       have hw113_1 := hx113_1
       have hw113_0 := hx113_0
       obtain rfl : ad107 = ad113 := (by injection e113)
       replace hx113_0 := oc HB.out hx113_0
       replace hx113_1 := oc HB.out hx113_1
       replace hx113_2 := oc HB.out hx113_2
       replace hx113_3 := oc HB.out hx113_3
       have HR113_3 := am hi113_3
       have HC113_3 := am hl113_3
       clear hi113_3 hl113_3
       replace p113 := eq_true p113
       replace q113 := eq_true q113
       have ea_ := Option.some.inj (hx107_3.symm.trans hx113_3)
       injection ea_ with ea_ en_ ec_
       subst ea_
       subst ec_
       clear en_
       refine start_ (n := 51) (S := fun w' => w'.cell? (ad106.add ((x10_3).toNat * 4)) = some (.int .i64 ((rd_T46 l1 x10_3).f0)) ∧ w'.cell? ⟨(ad106.add ((x10_3).toNat * 4)).block, (ad106.add ((x10_3).toNat * 4)).off + 1, none⟩ = some (.int .i64 ((rd_T46 l1 x10_3).f1)) ∧ w'.cell? ⟨(ad106.add ((x10_3).toNat * 4)).block, (ad106.add ((x10_3).toNat * 4)).off + 2, none⟩ = some (.int .i64 ((rd_T46 l1 x10_3).f2)) ∧ w'.cell? ⟨(ad106.add ((x10_3).toNat * 4)).block, (ad106.add ((x10_3).toNat * 4)).off + 3, none⟩ = some (.slice A106_3 ((rd_T46 l1 x10_3).f3).length c106_3) ∧ w'.cell? (ad107.add ((x10_3).toNat * 4)) = some (.int .i64 ((rd_T61 l3 x10_3).f0)) ∧ w'.cell? ⟨(ad107.add ((x10_3).toNat * 4)).block, (ad107.add ((x10_3).toNat * 4)).off + 1, none⟩ = some (.int .i64 ((rd_T61 l3 x10_3).f1)) ∧ w'.cell? ⟨(ad107.add ((x10_3).toNat * 4)).block, (ad107.add ((x10_3).toNat * 4)).off + 2, none⟩ = some (.int .i64 ((rd_T61 l3 x10_3).f2)) ∧ w'.cell? ⟨(ad107.add ((x10_3).toNat * 4)).block, (ad107.add ((x10_3).toNat * 4)).off + 3, none⟩ = some (.slice A107_3 ((rd_T61 l3 x10_3).f3).length c107_3) ∧ w'.cell? (ad106.add ((x10_3).toNat * 4)) = some (.int .i64 ((rd_T46 l1 x10_3).f0)) ∧ w'.cell? ⟨(ad106.add ((x10_3).toNat * 4)).block, (ad106.add ((x10_3).toNat * 4)).off + 1, none⟩ = some (.int .i64 ((rd_T46 l1 x10_3).f1)) ∧ w'.cell? ⟨(ad106.add ((x10_3).toNat * 4)).block, (ad106.add ((x10_3).toNat * 4)).off + 2, none⟩ = some (.int .i64 ((rd_T46 l1 x10_3).f2)) ∧ w'.cell? ⟨(ad106.add ((x10_3).toNat * 4)).block, (ad106.add ((x10_3).toNat * 4)).off + 3, none⟩ = some (.slice A106_3 ((rd_T46 l1 x10_3).f3).length c106_3) ∧ w'.cell? (ad107.add ((x10_3).toNat * 4)) = some (.int .i64 ((rd_T61 l3 x10_3).f0)) ∧ w'.cell? ⟨(ad107.add ((x10_3).toNat * 4)).block, (ad107.add ((x10_3).toNat * 4)).off + 1, none⟩ = some (.int .i64 ((rd_T61 l3 x10_3).f1)) ∧ w'.cell? ⟨(ad107.add ((x10_3).toNat * 4)).block, (ad107.add ((x10_3).toNat * 4)).off + 2, none⟩ = some (.int .i64 ((rd_T61 l3 x10_3).f2)) ∧ w'.cell? ⟨(ad107.add ((x10_3).toNat * 4)).block, (ad107.add ((x10_3).toNat * 4)).off + 3, none⟩ = some (.slice A107_3 ((rd_T61 l3 x10_3).f3).length c107_3) ∧ w'.cell? (ad106.add ((x10_3).toNat * 4)) = some (.int .i64 ((rd_T46 l1 x10_3).f0)) ∧ w'.cell? ⟨(ad106.add ((x10_3).toNat * 4)).block, (ad106.add ((x10_3).toNat * 4)).off + 1, none⟩ = some (.int .i64 ((rd_T46 l1 x10_3).f1)) ∧ w'.cell? ⟨(ad106.add ((x10_3).toNat * 4)).block, (ad106.add ((x10_3).toNat * 4)).off + 2, none⟩ = some (.int .i64 ((rd_T46 l1 x10_3).f2)) ∧ w'.cell? ⟨(ad106.add ((x10_3).toNat * 4)).block, (ad106.add ((x10_3).toNat * 4)).off + 3, none⟩ = some (.slice A106_3 ((rd_T46 l1 x10_3).f3).length c106_3) ∧ w'.cell? (ad107.add ((x10_3).toNat * 4)) = some (.int .i64 ((rd_T61 l3 x10_3).f0)) ∧ w'.cell? ⟨(ad107.add ((x10_3).toNat * 4)).block, (ad107.add ((x10_3).toNat * 4)).off + 1, none⟩ = some (.int .i64 ((rd_T61 l3 x10_3).f1)) ∧ w'.cell? ⟨(ad107.add ((x10_3).toNat * 4)).block, (ad107.add ((x10_3).toNat * 4)).off + 2, none⟩ = some (.int .i64 ((rd_T61 l3 x10_3).f2)) ∧ w'.cell? ⟨(ad107.add ((x10_3).toNat * 4)).block, (ad107.add ((x10_3).toNat * 4)).off + 3, none⟩ = some (.slice A107_3 ((rd_T61 l3 x10_3).f3).length c107_3) ∧ w'.cell? (ad106.add ((x10_3).toNat * 4)) = some (.int .i64 ((rd_T46 l1 x10_3).f0)) ∧ w'.cell? ⟨(ad106.add ((x10_3).toNat * 4)).block, (ad106.add ((x10_3).toNat * 4)).off + 1, none⟩ = some (.int .i64 ((rd_T46 l1 x10_3).f1)) ∧ w'.cell? ⟨(ad106.add ((x10_3).toNat * 4)).block, (ad106.add ((x10_3).toNat * 4)).off + 2, none⟩ = some (.int .i64 ((rd_T46 l1 x10_3).f2)) ∧ w'.cell? ⟨(ad106.add ((x10_3).toNat * 4)).block, (ad106.add ((x10_3).toNat * 4)).off + 3, none⟩ = some (.slice A106_3 ((rd_T46 l1 x10_3).f3).length c106_3) ∧ w'.cell? (ad107.add ((x10_3).toNat * 4)) = some (.int .i64 ((rd_T61 l3 x10_3).f0)) ∧ w'.cell? ⟨(ad107.add ((x10_3).toNat * 4)).block, (ad107.add ((x10_3).toNat * 4)).off + 1, none⟩ = some (.int .i64 ((rd_T61 l3 x10_3).f1)) ∧ w'.cell? ⟨(ad107.add ((x10_3).toNat * 4)).block, (ad107.add ((x10_3).toNat * 4)).off + 2, none⟩ = some (.int .i64 ((rd_T61 l3 x10_3).f2)) ∧ w'.cell? ⟨(ad107.add ((x10_3).toNat * 4)).block, (ad107.add ((x10_3).toNat * 4)).off + 3, none⟩ = some (.slice A107_3 ((rd_T61 l3 x10_3).f3).length c107_3)) (ds := []) (bm 51 0) (by kernel_rfl) rfl rfl ⟨(oc HB.out hw106_0 :), (oc HB.out hw106_1 :), (oc HB.out hw106_2 :), (oc HB.out hw106_3 :), (oc HB.out hw107_0 :), (oc HB.out hw107_1 :), (oc HB.out hw107_2 :), (oc HB.out hw107_3 :), (oc HB.out hw108_0 :), (oc HB.out hw108_1 :), (oc HB.out hw108_2 :), (oc HB.out hw108_3 :), (oc HB.out hw109_0 :), (oc HB.out hw109_1 :), (oc HB.out hw109_2 :), (oc HB.out hw109_3 :), (oc HB.out hw110_0 :), (oc HB.out hw110_1 :), (oc HB.out hw110_2 :), (oc HB.out hw110_3 :), (oc HB.out hw111_0 :), (oc HB.out hw111_1 :), (oc HB.out hw111_2 :), (oc HB.out hw111_3 :), (oc HB.out hw112_0 :), (oc HB.out hw112_1 :), (oc HB.out hw112_2 :), (oc HB.out hw112_3 :), (oc HB.out hw113_0 :), (oc HB.out hw113_1 :), (oc HB.out hw113_2 :), (oc HB.out hw113_3 :)⟩ (fun hHeld => ?_); refine with_tabW gangwaylaw14_same.tab11 gangwaylaw14_same.bits11 (fun HT_ HW_ => ?_)
       generalize wr.drew = w23 at HB HR106_3 HR107_3 HR108_3 HR109_3 HR110_3 HR111_3 HR112_3 HR113_3 hx106_0 hx106_1 hx106_2 hx106_3 hx107_0 hx107_1 hx107_2 hx107_3 hx108_0 hx108_1 hx108_2 hx108_3 hx109_0 hx109_1 hx109_2 hx109_3 hx110_0 hx110_1 hx110_2 hx110_3 hx111_0 hx111_1 hx111_2 hx111_3 hx112_0 hx112_1 hx112_2 hx112_3 hx113_0 hx113_1 hx113_2 hx113_3 hHeld ⊢
       refine pure_ (i := 0) (N := some 60) (v := ?_) (a' := ?_) (bm 51 1) rfl rfl (any_of HT_.out (by kernel_rfl)) (fun _ _ _ h => h) (Or.inl ⟨by rfl, ?_⟩) ?_ ?_
       rotate_left
       ·
        intro w'
        go_simp
        with_reducible rfl
       rotate_left
       ·
        simp only [pz]
        rfl
       refine pure_ (i := 1) (N := some 61) (v := ?_) (a' := ?_) (bm 51 3) rfl rfl (any_of HT_.out (by kernel_rfl)) (fun _ _ _ h => h) (Or.inl ⟨by rfl, ?_⟩) ?_ ?_
       rotate_left
       ·
        intro w'
        go_simp
        with_reducible rfl
       rotate_left
       ·
        simp only [pz]
        rfl
       refine pure_ (i := 2) (N := some 62) (v := ?_) (a' := ?_) (bm 51 7) rfl rfl (any_of HT_.out (by kernel_rfl)) (fun _ _ _ h => h) (Or.inl ⟨by rfl, ?_⟩) ?_ ?_
       rotate_left
       ·
        intro w'
        go_simp
        with_reducible rfl
       rotate_left
       ·
        simp only [pz]
        rfl
       refine pure_ (i := 3) (N := some 63) (v := ?_) (a' := ?_) (bm 51 15) rfl rfl (any_of HT_.out (by kernel_rfl)) (fun _ _ _ h => h) (Or.inl ⟨by rfl, ?_⟩) ?_ ?_
       rotate_left
       ·
        intro w'
        go_simp
        with_reducible rfl
       rotate_left
       ·
        simp only [pz]
        rfl
       refine pure_ (i := 5) (N := some 65) (v := ?_) (a' := ?_) (bm 51 47) rfl rfl (any_of HT_.out (by kernel_rfl)) (fun _ _ _ h => h) (Or.inl ⟨by rfl, ?_⟩) ?_ ?_
       rotate_left
       ·
        intro w'
        go_simp
        with_reducible rfl
       rotate_left
       ·
        simp only [pz]
        rfl
       refine pure_ (i := 6) (N := some 66) (v := ?_) (a' := ?_) (bm 51 111) rfl rfl (any_of HT_.out (by kernel_rfl)) (fun _ _ _ h => h) (Or.inl ⟨by rfl, ?_⟩) ?_ ?_
       rotate_left
       ·
        intro w'
        go_simp
        with_reducible rfl
       rotate_left
       ·
        simp only [pz]
        rfl
       refine pure_ (i := 7) (N := some 67) (v := ?_) (a' := ?_) (bm 51 239) rfl rfl (any_of HT_.out (by kernel_rfl)) (fun _ _ _ h => h) (Or.inl ⟨by rfl, ?_⟩) ?_ ?_
       rotate_left
       ·
        intro w'
        go_simp
        with_reducible rfl
       rotate_left
       ·
        simp only [pz]
        rfl
       refine pure_ (i := 8) (N := some 68) (v := ?_) (a' := ?_) (bm 51 495) rfl rfl (any_of HT_.out (by kernel_rfl)) (fun _ _ _ h => h) (Or.inl ⟨by rfl, ?_⟩) ?_ ?_
       rotate_left
       ·
        intro w'
        go_simp
        with_reducible rfl
       rotate_left
       ·
        simp only [pz]
        rfl
       refine take_ (i := 4) (N := some 64) (v := ?_) (a' := ?_) (bm 51 511) rfl rfl (take_ofW HT_.out HW_.out (by kernel_rfl)) (fun _ _ _ h => h) (Or.inl ⟨by rfl, ?_⟩) hHeld ?_ ?_
       rotate_left
       ·
        rintro w' ⟨s0, s1, s2, s3, s4, s5, s6, s7, s8, s9, s10, s11, s12, s13, s14, s15, s16, s17, s18, s19, s20, s21, s22, s23, s24, s25, s26, s27, s28, s29, s30, s31⟩
        go_simp
        with_reducible rfl
       rotate_left
       ·
        simp only [pz]
        rfl
       refine take_ (i := 9) (N := some 69) (v := ?_) (a' := ?_) (bm 51 1023) rfl rfl (take_ofW HT_.out HW_.out (by kernel_rfl)) (fun _ _ _ h => h) (Or.inl ⟨by rfl, ?_⟩) hHeld ?_ ?_
       rotate_left
       ·
        rintro w' ⟨s0, s1, s2, s3, s4, s5, s6, s7, s8, s9, s10, s11, s12, s13, s14, s15, s16, s17, s18, s19, s20, s21, s22, s23, s24, s25, s26, s27, s28, s29, s30, s31⟩
        go_simp
        with_reducible rfl
       rotate_left
       ·
        simp only [pz]
        rfl
       refine pure_ (i := 10) (N := some 70) (v := ?_) (a' := ?_) (bm 51 2047) rfl rfl (any_of HT_.out (by kernel_rfl)) (fun _ _ _ h => h) (Or.inl ⟨by rfl, ?_⟩) ?_ ?_
       rotate_left
       ·
        intro w'
        go_simp
        with_reducible rfl
       rotate_left
       ·
        simp only [pz]
        rfl
       refine pure_ (i := 11) (N := some 71) (v := ?_) (a' := ?_) (bm 51 4095) rfl rfl (any_of HT_.out (by kernel_rfl)) (fun _ _ _ h => h) (Or.inl ⟨by rfl, ?_⟩) ?_ ?_
       rotate_left
       ·
        intro w'
        go_simp
        with_reducible rfl
       rotate_left
       ·
        simp only [pz]
        rfl
       refine pure_ (i := 12) (N := some 72) (v := ?_) (a' := ?_) (bm 51 8191) rfl rfl (any_of HT_.out (by kernel_rfl)) (fun _ _ _ h => h) (Or.inl ⟨by rfl, ?_⟩) ?_ ?_
       rotate_left
       ·
        intro w'
        go_simp
        with_reducible rfl
       rotate_left
       ·
        simp only [pz]
        rfl
       refine pure_ (i := 13) (N := some 73) (v := ?_) (a' := ?_) (bm 51 16383) rfl rfl (any_of HT_.out (by kernel_rfl)) (fun _ _ _ h => h) (Or.inl ⟨by rfl, ?_⟩) ?_ ?_
       rotate_left
       ·
        intro w'
        go_simp
        with_reducible rfl
       rotate_left
       ·
        simp only [pz]
        rfl
       refine pure_ (i := 14) (N := some 74) (v := ?_) (a' := ?_) (bm 51 32767) rfl rfl (any_of HT_.out (by kernel_rfl)) (fun _ _ _ h => h) (Or.inl ⟨by rfl, ?_⟩) ?_ ?_
       rotate_left
       ·
        intro w'
        go_simp
        with_reducible rfl
       rotate_left
       ·
        simp only [pz]
        rfl
       refine pure_ (i := 15) (N := some 75) (v := ?_) (a' := ?_) (bm 51 65535) rfl rfl (any_of HT_.out (by kernel_rfl)) (fun _ _ _ h => h) (Or.inl ⟨by rfl, ?_⟩) ?_ ?_
       rotate_left
       ·
        intro w'
        go_simp
        with_reducible rfl
       rotate_left
       ·
        simp only [pz]
        rfl
       refine pure_ (i := 17) (N := some 77) (v := ?_) (a' := ?_) (bm 51 196607) rfl rfl (any_of HT_.out (by kernel_rfl)) (fun _ _ _ h => h) (Or.inl ⟨by rfl, ?_⟩) ?_ ?_
       rotate_left
       ·
        intro w'
        go_simp
        with_reducible rfl
       rotate_left
       ·
        simp only [pz]
        rfl
       refine pure_ (i := 18) (N := some 78) (v := ?_) (a' := ?_) (bm 51 458751) rfl rfl (any_of HT_.out (by kernel_rfl)) (fun _ _ _ h => h) (Or.inl ⟨by rfl, ?_⟩) ?_ ?_
       rotate_left
       ·
        intro w'
        go_simp
        with_reducible rfl
       rotate_left
       ·
        simp only [pz]
        rfl
       refine pure_ (i := 19) (N := some 79) (v := ?_) (a' := ?_) (bm 51 983039) rfl rfl (any_of HT_.out (by kernel_rfl)) (fun _ _ _ h => h) (Or.inl ⟨by rfl, ?_⟩) ?_ ?_
       rotate_left
       ·
        intro w'
        go_simp
        with_reducible rfl
       rotate_left
       ·
        simp only [pz]
        rfl
       refine pure_ (i := 20) (N := some 80) (v := ?_) (a' := ?_) (bm 51 2031615) rfl rfl (any_of HT_.out (by kernel_rfl)) (fun _ _ _ h => h) (Or.inl ⟨by rfl, ?_⟩) ?_ ?_
       rotate_left
       ·
        intro w'
        go_simp
        with_reducible rfl
       rotate_left
       ·
        simp only [pz]
        rfl
       refine take_ (i := 16) (N := some 76) (v := ?_) (a' := ?_) (bm 51 2097151) rfl rfl (take_ofW HT_.out HW_.out (by kernel_rfl)) (fun _ _ _ h => h) (Or.inl ⟨by rfl, ?_⟩) hHeld ?_ ?_
       rotate_left
       ·
        rintro w' ⟨s0, s1, s2, s3, s4, s5, s6, s7, s8, s9, s10, s11, s12, s13, s14, s15, s16, s17, s18, s19, s20, s21, s22, s23, s24, s25, s26, s27, s28, s29, s30, s31⟩
        go_simp
        with_reducible rfl
       rotate_left
       ·
        simp only [pz]
        rfl
       refine take_ (i := 21) (N := some 81) (v := ?_) (a' := ?_) (bm 51 4194303) rfl rfl (take_ofW HT_.out HW_.out (by kernel_rfl)) (fun _ _ _ h => h) (Or.inl ⟨by rfl, ?_⟩) hHeld ?_ ?_
       rotate_left
       ·
        rintro w' ⟨s0, s1, s2, s3, s4, s5, s6, s7, s8, s9, s10, s11, s12, s13, s14, s15, s16, s17, s18, s19, s20, s21, s22, s23, s24, s25, s26, s27, s28, s29, s30, s31⟩
        go_simp
        with_reducible rfl
       rotate_left
       ·
        simp only [pz]
        rfl
       refine pure_ (i := 22) (N := some 82) (v := ?_) (a' := ?_) (bm 51 8388607) rfl rfl (any_of HT_.out (by kernel_rfl)) (fun _ _ _ h => h) (Or.inl ⟨by rfl, ?_⟩) ?_ ?_
       rotate_left
       ·
        intro w'
        go_simp
        with_reducible rfl
       rotate_left
       ·
        simp only [pz]
        rfl
       refine pure_ (i := 23) (N := some 83) (v := ?_) (a' := ?_) (bm 51 16777215) rfl rfl (any_of HT_.out (by kernel_rfl)) (fun _ _ _ h => h) (Or.inl ⟨by rfl, ?_⟩) ?_ ?_
       rotate_left
       ·
        intro w'
        go_simp
        with_reducible rfl
       rotate_left
       ·
        simp only [pz]
        rfl
       refine pure_ (i := 24) (N := some 84) (v := ?_) (a' := ?_) (bm 51 33554431) rfl rfl (any_of HT_.out (by kernel_rfl)) (fun _ _ _ h => h) (Or.inl ⟨by rfl, ?_⟩) ?_ ?_
       rotate_left
       ·
        intro w'
        go_simp
        with_reducible rfl
       rotate_left
       ·
        simp only [pz]
        rfl
       refine pure_ (i := 25) (N := some 85) (v := ?_) (a' := ?_) (bm 51 67108863) rfl rfl (any_of HT_.out (by kernel_rfl)) (fun _ _ _ h => h) (Or.inl ⟨by rfl, ?_⟩) ?_ ?_
       rotate_left
       ·
        intro w'
        go_simp
        with_reducible rfl
       rotate_left
       ·
        simp only [pz]
        rfl
       refine pure_ (i := 26) (N := some 86) (v := ?_) (a' := ?_) (bm 51 134217727) rfl rfl (any_of HT_.out (by kernel_rfl)) (fun _ _ _ h => h) (Or.inl ⟨by rfl, ?_⟩) ?_ ?_
       rotate_left
       ·
        intro w'
        go_simp
        with_reducible rfl
       rotate_left
       ·
        simp only [pz]
        rfl
       refine pure_ (i := 27) (N := some 87) (v := ?_) (a' := ?_) (bm 51 268435455) rfl rfl (any_of HT_.out (by kernel_rfl)) (fun _ _ _ h => h) (Or.inl ⟨by rfl, ?_⟩) ?_ ?_
       rotate_left
       ·
        intro w'
        go_simp
        with_reducible rfl
       rotate_left
       ·
        simp only [pz]
        rfl
       refine pure_ (i := 28) (N := some 88) (v := ?_) (a' := ?_) (bm 51 536870911) rfl rfl (any_of HT_.out (by kernel_rfl)) (fun _ _ _ h => h) (Or.inl ⟨by rfl, ?_⟩) ?_ ?_
       rotate_left
       ·
        intro w'
        go_simp
        with_reducible rfl
       rotate_left
       ·
        simp only [pz]
        rfl
       refine pure_ (i := 30) (N := some 90) (v := ?_) (a' := ?_) (bm 51 1610612735) rfl rfl (any_of HT_.out (by kernel_rfl)) (fun _ _ _ h => h) (Or.inl ⟨by rfl, ?_⟩) ?_ ?_
       rotate_left
       ·
        intro w'
        go_simp
        with_reducible rfl
       rotate_left
       ·
        simp only [pz]
        rfl
       refine pure_ (i := 31) (N := some 91) (v := ?_) (a' := ?_) (bm 51 3758096383) rfl rfl (any_of HT_.out (by kernel_rfl)) (fun _ _ _ h => h) (Or.inl ⟨by rfl, ?_⟩) ?_ ?_
       rotate_left
       ·
        intro w'
        go_simp
        with_reducible rfl
       rotate_left
       ·
        simp only [pz]
        rfl
       refine pure_ (i := 32) (N := some 92) (v := ?_) (a' := ?_) (bm 51 8053063679) rfl rfl (any_of HT_.out (by kernel_rfl)) (fun _ _ _ h => h) (Or.inl ⟨by rfl, ?_⟩) ?_ ?_
       rotate_left
       ·
        intro w'
        go_simp
        with_reducible rfl
       rotate_left
       ·
        simp only [pz]
        rfl
       refine pure_ (i := 33) (N := some 93) (v := ?_) (a' := ?_) (bm 51 16642998271) rfl rfl (any_of HT_.out (by kernel_rfl)) (fun _ _ _ h => h) (Or.inl ⟨by rfl, ?_⟩) ?_ ?_
       rotate_left
       ·
        intro w'
        go_simp
        with_reducible rfl
       rotate_left
       ·
        simp only [pz]
        rfl
       refine take_ (i := 29) (N := some 89) (v := ?_) (a' := ?_) (bm 51 17179869183) rfl rfl (take_ofW HT_.out HW_.out (by kernel_rfl)) (fun _ _ _ h => h) (Or.inl ⟨by rfl, ?_⟩) hHeld ?_ ?_
       rotate_left
       ·
        rintro w' ⟨s0, s1, s2, s3, s4, s5, s6, s7, s8, s9, s10, s11, s12, s13, s14, s15, s16, s17, s18, s19, s20, s21, s22, s23, s24, s25, s26, s27, s28, s29, s30, s31⟩
        go_simp
        with_reducible rfl
       rotate_left
       ·
        simp only [pz]
        rfl
       refine take_ (i := 34) (N := some 94) (v := ?_) (a' := ?_) (bm 51 34359738367) rfl rfl (take_ofW HT_.out HW_.out (by kernel_rfl)) (fun _ _ _ h => h) (Or.inl ⟨by rfl, ?_⟩) hHeld ?_ ?_
       rotate_left
       ·
        rintro w' ⟨s0, s1, s2, s3, s4, s5, s6, s7, s8, s9, s10, s11, s12, s13, s14, s15, s16, s17, s18, s19, s20, s21, s22, s23, s24, s25, s26, s27, s28, s29, s30, s31⟩
        go_simp
        with_reducible rfl
       rotate_left
       ·
        simp only [pz]
        rfl
       refine pure_ (i := 35) (N := some 95) (v := ?_) (a' := ?_) (bm 51 68719476735) rfl rfl (any_of HT_.out (by kernel_rfl)) (fun _ _ _ h => h) (Or.inl ⟨by rfl, ?_⟩) ?_ ?_
       rotate_left
       ·
        intro w'
        go_simp
        with_reducible rfl
       rotate_left
       ·
        simp only [pz]
        rfl
       refine pure_ (i := 36) (N := some 96) (v := ?_) (a' := ?_) (bm 51 137438953471) rfl rfl (any_of HT_.out (by kernel_rfl)) (fun _ _ _ h => h) (Or.inl ⟨by rfl, ?_⟩) ?_ ?_
       rotate_left
       ·
        intro w'
        go_simp
        with_reducible rfl
       rotate_left
       ·
        simp only [pz]
        rfl
       refine pure_ (i := 37) (N := some 97) (v := ?_) (a' := ?_) (bm 51 274877906943) rfl rfl (any_of HT_.out (by kernel_rfl)) (fun _ _ _ h => h) (Or.inl ⟨by rfl, ?_⟩) ?_ ?_
       rotate_left
       ·
        intro w'
        go_simp
        with_reducible rfl
       rotate_left
       ·
        simp only [pz]
        rfl
       refine pure_ (i := 38) (N := some 98) (v := ?_) (a' := ?_) (bm 51 549755813887) rfl rfl (any_of HT_.out (by kernel_rfl)) (fun _ _ _ h => h) (Or.inl ⟨by rfl, ?_⟩) ?_ ?_
       rotate_left
       ·
        intro w'
        go_simp
        with_reducible rfl
       rotate_left
       ·
        simp only [pz]
        rfl
       refine pure_ (i := 39) (N := some 99) (v := ?_) (a' := ?_) (bm 51 1099511627775) rfl rfl (any_of HT_.out (by kernel_rfl)) (fun _ _ _ h => h) (Or.inl ⟨by rfl, ?_⟩) ?_ ?_
       rotate_left
       ·
        intro w'
        go_simp
        with_reducible rfl
       rotate_left
       ·
        simp only [pz]
        rfl
       refine pure_ (i := 40) (N := some 100) (v := ?_) (a' := ?_) (bm 51 2199023255551) rfl rfl (any_of HT_.out (by kernel_rfl)) (fun _ _ _ h => h) (Or.inl ⟨by rfl, ?_⟩) ?_ ?_
       rotate_left
       ·
        intro w'
        go_simp
        with_reducible rfl
       rotate_left
       ·
        simp only [pz]
        rfl
       refine pure_ (i := 41) (N := some 101) (v := ?_) (a' := ?_) (bm 51 4398046511103) rfl rfl (any_of HT_.out (by kernel_rfl)) (fun _ _ _ h => h) (Or.inl ⟨by rfl, ?_⟩) ?_ ?_
       rotate_left
       ·
        intro w'
        go_simp
        with_reducible rfl
       rotate_left
       ·
        simp only [pz]
        rfl
       refine pure_ (i := 43) (N := some 103) (v := ?_) (a' := ?_) (bm 51 13194139533311) rfl rfl (any_of HT_.out (by kernel_rfl)) (fun _ _ _ h => h) (Or.inl ⟨by rfl, ?_⟩) ?_ ?_
       rotate_left
       ·
        intro w'
        go_simp
        with_reducible rfl
       rotate_left
       ·
        simp only [pz]
        rfl
       refine pure_ (i := 44) (N := some 104) (v := ?_) (a' := ?_) (bm 51 30786325577727) rfl rfl (any_of HT_.out (by kernel_rfl)) (fun _ _ _ h => h) (Or.inl ⟨by rfl, ?_⟩) ?_ ?_
       rotate_left
       ·
        intro w'
        go_simp
        with_reducible rfl
       rotate_left
       ·
        simp only [pz]
        rfl
       refine pure_ (i := 45) (N := some 105) (v := ?_) (a' := ?_) (bm 51 65970697666559) rfl rfl (any_of HT_.out (by kernel_rfl)) (fun _ _ _ h => h) (Or.inl ⟨by rfl, ?_⟩) ?_ ?_
       rotate_left
       ·
        intro w'
        go_simp
        with_reducible rfl
       rotate_left
       ·
        simp only [pz]
        rfl
       refine pure_ (i := 46) (N := some 106) (v := ?_) (a' := ?_) (bm 51 136339441844223) rfl rfl (any_of HT_.out (by kernel_rfl)) (fun _ _ _ h => h) (Or.inl ⟨by rfl, ?_⟩) ?_ ?_
       rotate_left
       ·
        intro w'
        go_simp
        with_reducible rfl
       rotate_left
       ·
        simp only [pz]
        rfl
       refine take_ (i := 42) (N := some 102) (v := ?_) (a' := ?_) (bm 51 140737488355327) rfl rfl (take_ofW HT_.out HW_.out (by kernel_rfl)) (fun _ _ _ h => h) (Or.inl ⟨by rfl, ?_⟩) hHeld ?_ ?_
       rotate_left
       ·
        rintro w' ⟨s0, s1, s2, s3, s4, s5, s6, s7, s8, s9, s10, s11, s12, s13, s14, s15, s16, s17, s18, s19, s20, s21, s22, s23, s24, s25, s26, s27, s28, s29, s30, s31⟩
        go_simp
        with_reducible rfl
       rotate_left
       ·
        simp only [pz]
        rfl
       refine take_ (i := 47) (N := some 107) (v := ?_) (a' := ?_) (bm 51 281474976710655) rfl rfl (take_ofW HT_.out HW_.out (by kernel_rfl)) (fun _ _ _ h => h) (Or.inl ⟨by rfl, ?_⟩) hHeld ?_ ?_
       rotate_left
       ·
        rintro w' ⟨s0, s1, s2, s3, s4, s5, s6, s7, s8, s9, s10, s11, s12, s13, s14, s15, s16, s17, s18, s19, s20, s21, s22, s23, s24, s25, s26, s27, s28, s29, s30, s31⟩
        go_simp
        with_reducible rfl
       rotate_left
       ·
        simp only [pz]
        rfl
       refine one_ (i := 48) (N := some 108) (bm 51 562949953421311) rfl rfl (one_of HT_.out (by kernel_rfl)) (by decide) (fun K hK => ?_)
       refine goes_ Try.func35 (by kernel_rfl) rfl #[.slice A106_3 ((rd_T46 l1 x10_3).f3).length c106_3, .slice A107_3 ((rd_T61 l3 x10_3).f3).length c107_3] (by rfl) rfl rfl (by simp only [ml]; try rfl) ?_
       with_reducible refine (gangwaylaw14_sameOps.calls k3 _ _ ((rd_T46 l1 x10_3).f3) _ _ ((rd_T61 l3 x10_3).f3) true _ ?side1 ?side2 ?side3 ?side4 A21.out).mono ?_
       (case side1 => exact Kd.C_o (Kd.C_below HR112_3.out HB.out))
       (case side2 => exact HC112_3.out)
       (case side3 => exact Kd.C_o (Kd.C_below HR113_3.out HB.out))
       (case side4 => exact HC113_3.out)
       rintro e w' ⟨rfl, ⟨nd, rfl⟩⟩
       refine ⟨_, rfl, ?_⟩
       refine hK.out _ _ ⟨(oc HB.out hw106_0 :), (oc HB.out hw106_1 :), (oc HB.out hw106_2 :), (oc HB.out hw106_3 :), (oc HB.out hw107_0 :), (oc HB.out hw107_1 :), (oc HB.out hw107_2 :), (oc HB.out hw107_3 :), (oc HB.out hw108_0 :), (oc HB.out hw108_1 :), (oc HB.out hw108_2 :), (oc HB.out hw108_3 :), (oc HB.out hw109_0 :), (oc HB.out hw109_1 :), (oc HB.out hw109_2 :), (oc HB.out hw109_3 :), (oc HB.out hw110_0 :), (oc HB.out hw110_1 :), (oc HB.out hw110_2 :), (oc HB.out hw110_3 :), (oc HB.out hw111_0 :), (oc HB.out hw111_1 :), (oc HB.out hw111_2 :), (oc HB.out hw111_3 :), (oc HB.out hw112_0 :), (oc HB.out hw112_1 :), (oc HB.out hw112_2 :), (oc HB.out hw112_3 :), (oc HB.out hw113_0 :), (oc HB.out hw113_1 :), (oc HB.out hw113_2 :), (oc HB.out hw113_3 :)⟩ (fun hHeld => ?_)
       clear hK K
       refine norm_ (a' := ?_) ?_ ?_
       rotate_left
       ·
        show Act.put _ (some 108) _ = _
        simp only [pz]
        rfl
       refine pure_ (i := 49) (N := some 109) (v := ?_) (a' := ?_) (bm 51 1125899906842623) rfl rfl (any_of HT_.out (by kernel_rfl)) (fun _ _ _ h => h) (Or.inl ⟨by rfl, ?_⟩) ?_ ?_
       rotate_left
       ·
        intro w'
        go_simp
        with_reducible rfl
       rotate_left
       ·
        simp only [pz]
        rfl
       refine pure_ (i := 50) (N := some 110) (v := ?_) (a' := ?_) (bm 51 2251799813685247) rfl rfl (any_of HT_.out (by kernel_rfl)) (fun _ _ _ h => h) (Or.inl ⟨by rfl, ?_⟩) ?_ ?_
       rotate_left
       ·
        intro w'
        go_simp
        with_reducible rfl
       rotate_left
       ·
        simp only [pz]
        rfl
       refine done_ (done_of HT_.out (by kernel_rfl)) ?_
       try go_wp2
       go_roundg k3
       case measure => have := HJ4.out; have := HK2.out; have := HK3.out; omega
       case rel => exact ⟨(wrap64 (x10_3 + 1)), (by first | rfl | (simp; done) | (simp [*]; done)), H', ⟨by have := HJ4.out; have := HK2.out; have := HK3.out; omega⟩, ⟨by exact bl_g HB.out⟩⟩
def cfa_Usual.f  : Option ((List (S105))) := some (([(⟨2, 7, 8⟩ : S105), (⟨5, 16, (-8)⟩ : S105)] : List (S105)))
set_option maxHeartbeats 8000000 in
theorem cfa_Usual.calls  (r : List (S105)) (w : World) (h : cfa_Usual.f  = some r) :
    Calls Try.prog 36 #[] w fun e w' => ∃ v0_ : Value, e = .returned (v0_) ∧ Kd.R k105 105 w' w.heap.size (fun _ => True) v0_ r ∧ Below w.heap.size w w' := by
 have hu105 := Try.underlying105
 have HB := am (Below.refl w.heap.size w)
 have H : (some (([(⟨2, 7, 8⟩ : S105), (⟨5, 16, (-8)⟩ : S105)] : List (S105)))) = some r := h
 clear h
 obtain ⟨y101, hy101⟩ : ∃ y_ : List (S105), y_ = (([(⟨2, 7, 8⟩ : S105), (⟨5, 16, (-8)⟩ : S105)] : List (S105))) := ⟨_, rfl⟩
 replace H : (some y101) = some r := by first | (rw [hy101]; with_reducible exact H) | (have H2_ := (Option.bind_some _ _).symm.trans H; rw [hy101]; with_reducible exact H2_)
 have Ny101 := am hy101
 clear hy101
 obtain rfl := Option.some.inj H
 go_enter Try.func36, Try.ntmps36
 go_wp2_with (first | ((with_reducible refine gate_dst (N := 3) rfl ?_); refine Kd.R_lit k105 _ 105 ?hg (N := 3) ?hd (xs := ([(⟨2, 7, 8⟩ : S105), (⟨5, 16, (-8)⟩ : S105)] : List (S105))) (inner := [.int .i64 2, .int .i64 7, .int .i64 8, .int .i64 5, .int .i64 16, .int .i64 (-8)]) (ok := fun _ => True) (okp := fun _ => True) ?hr ?hp (fun _ hk => hk) trivial (Below.refl _ _) (Nat.le_refl _) (by simp) ?_; (case hd => rfl); (case hg => rfl); (case hr => go_simp; try rfl); (case hp => exact (Reps.c3 (show Kd.M k105 _ _ _ (⟨2, 7, 8⟩ : S105) [.int .i64 2, .int .i64 7, .int .i64 8] from (k105_mkM _ _ _ (⟨2, 7, 8⟩ : S105) )) (Reps.c3 (show Kd.M k105 _ _ _ (⟨5, 16, (-8)⟩ : S105) [.int .i64 5, .int .i64 16, .int .i64 (-8)] from (k105_mkM _ _ _ (⟨5, 16, (-8)⟩ : S105) )) (Reps.none _ _)))); intro v102 w1 ho2 hb hg_ hnew_; clear hg_ hnew_; (first | rw [← Ny101.out] at ho2 | (simp only [Int.reduceToNat] at ho2; rw [← Ny101.out] at ho2)); refine mv2 (am (Kd.R_lower ho2 (below_size (by exact bl_o HB.out)))) (am (below_step (by exact bl_o HB.out) hb)) ?_; clear HB; intro HO103 HB; clear hb ho2))
 go_ret
 exact ⟨_, rfl, by (with_reducible repeat (first | apply Kd.R_alloc | apply Kd.R_drewN | apply Kd.R_drew)); exact HO103.out, by exact bl_g HB.out⟩
def gangwaylaw14_live.f (k : Nat)  : Option (Bool) := (ehframe_Put.f k 27 4096 4100 0).bind fun bt101 => ((cfa_Usual.f).bind fun t105 => ((ehframe_Write.f k (([(⟨27, t105⟩ : S69)] : List (S69))) ([] : List (S46)) 0 false).bind fun bt111 => ((gangwaylaw14_num.f bt101.2).bind fun t118 => ((gangwaylaw14_num.f bt111.2.2).bind fun t119 => (if (wrap64 (t118 + t119)) = 0 then (if (strOfNums bt101.1).toList = ([252, 255, 255, 255] : List UInt8) then (if (bt111.1.length : Int) = 24 then (if 16 < (bt111.1.length : Int) then (some ((rd bt111.1 16) == 27)) else (none)) else (none)) else (none)) else (none))))))
theorem gangwaylaw14_live.mono : ∀ k, LeO (gangwaylaw14_live.f k ) (gangwaylaw14_live.f (k + 1) ) := by
 intro  k
 unfold gangwaylaw14_live.f
 repeat' first
     | (with_reducible exact ehframe_Put.mono _ _ _ _ _)
     | (with_reducible exact ehframe_Write.mono _ _ _ _ _)
     | (with_reducible exact LeO.refl _)
     | (with_reducible exact LeO.none _)
     | (with_reducible refine LeO.ite ?_ ?_)
     | (with_reducible refine LeO.bind ?_ (fun _ => ?_))
     | exact ehframe_Put.mono _ _ _ _ _
     | exact ehframe_Write.mono _ _ _ _ _
     | exact LeO.none _
     | refine LeO.ite ?_ ?_
     | refine LeO.bind ?_ (fun _ => ?_)
set_option maxHeartbeats 8000000 in
theorem gangwaylaw14_live.calls (k : Nat)  (r : Bool) (w : World) (h : gangwaylaw14_live.f k  = some r) :
    Calls Try.prog 15 #[] w fun e w' => e = .returned (.bool r) ∧ Below w.heap.size w w' := by
 have hu69 := Try.underlying69
 have HB := am (Below.refl w.heap.size w)
 have H : ((ehframe_Put.f k 27 4096 4100 0).bind fun bt101 => ((cfa_Usual.f).bind fun t105 => ((ehframe_Write.f k (([(⟨27, t105⟩ : S69)] : List (S69))) ([] : List (S46)) 0 false).bind fun bt111 => ((gangwaylaw14_num.f bt101.2).bind fun t118 => ((gangwaylaw14_num.f bt111.2.2).bind fun t119 => (if (wrap64 (t118 + t119)) = 0 then (if (strOfNums bt101.1).toList = ([252, 255, 255, 255] : List UInt8) then (if (bt111.1.length : Int) = 24 then (if 16 < (bt111.1.length : Int) then (some ((rd bt111.1 16) == 27)) else (none)) else (none)) else (none)) else (none))))))) = some r := h
 clear h
 replace H := Option.bind_eq_some_iff.mp H
 obtain ⟨⟨t101, t102⟩, A10, H⟩ := H
 replace H : ((cfa_Usual.f).bind fun t105 => ((ehframe_Write.f k (([(⟨27, t105⟩ : S69)] : List (S69))) ([] : List (S46)) 0 false).bind fun bt111 => ((gangwaylaw14_num.f t102).bind fun t118 => ((gangwaylaw14_num.f bt111.2.2).bind fun t119 => (if (wrap64 (t118 + t119)) = 0 then (if (strOfNums t101).toList = ([252, 255, 255, 255] : List UInt8) then (if (bt111.1.length : Int) = 24 then (if 16 < (bt111.1.length : Int) then (some ((rd bt111.1 16) == 27)) else (none)) else (none)) else (none)) else (none)))))) = some r := H
 have A1 := am A10
 clear A10
 replace H := Option.bind_eq_some_iff.mp H
 obtain ⟨t105, A20, H⟩ := H
 replace H : ((ehframe_Write.f k (([(⟨27, t105⟩ : S69)] : List (S69))) ([] : List (S46)) 0 false).bind fun bt111 => ((gangwaylaw14_num.f t102).bind fun t118 => ((gangwaylaw14_num.f bt111.2.2).bind fun t119 => (if (wrap64 (t118 + t119)) = 0 then (if (strOfNums t101).toList = ([252, 255, 255, 255] : List UInt8) then (if (bt111.1.length : Int) = 24 then (if 16 < (bt111.1.length : Int) then (some ((rd bt111.1 16) == 27)) else (none)) else (none)) else (none)) else (none))))) = some r := H
 have A2 := am A20
 clear A20
 obtain ⟨y108, hy108⟩ : ∃ y_ : List (S69), y_ = (([(⟨27, t105⟩ : S69)] : List (S69))) := ⟨_, rfl⟩
 replace H : ((ehframe_Write.f k y108 ([] : List (S46)) 0 false).bind fun bt111 => ((gangwaylaw14_num.f t102).bind fun t118 => ((gangwaylaw14_num.f bt111.2.2).bind fun t119 => (if (wrap64 (t118 + t119)) = 0 then (if (strOfNums t101).toList = ([252, 255, 255, 255] : List UInt8) then (if (bt111.1.length : Int) = 24 then (if 16 < (bt111.1.length : Int) then (some ((rd bt111.1 16) == 27)) else (none)) else (none)) else (none)) else (none))))) = some r := by first | (rw [hy108]; with_reducible exact H) | (have H2_ := (Option.bind_some _ _).symm.trans H; rw [hy108]; with_reducible exact H2_)
 have Ny108 := am hy108
 clear hy108
 replace H := Option.bind_eq_some_iff.mp H
 obtain ⟨⟨t111, t112, t113⟩, A30, H⟩ := H
 replace H : ((gangwaylaw14_num.f t102).bind fun t118 => ((gangwaylaw14_num.f t113).bind fun t119 => (if (wrap64 (t118 + t119)) = 0 then (if (strOfNums t101).toList = ([252, 255, 255, 255] : List UInt8) then (if (t111.length : Int) = 24 then (if 16 < (t111.length : Int) then (some ((rd t111 16) == 27)) else (none)) else (none)) else (none)) else (none)))) = some r := H
 have A3 := am A30
 clear A30
 replace H := Option.bind_eq_some_iff.mp H
 obtain ⟨t118, A40, H⟩ := H
 replace H : ((gangwaylaw14_num.f t113).bind fun t119 => (if (wrap64 (t118 + t119)) = 0 then (if (strOfNums t101).toList = ([252, 255, 255, 255] : List UInt8) then (if (t111.length : Int) = 24 then (if 16 < (t111.length : Int) then (some ((rd t111 16) == 27)) else (none)) else (none)) else (none)) else (none))) = some r := H
 have A4 := am A40
 clear A40
 replace H := Option.bind_eq_some_iff.mp H
 obtain ⟨t119, A50, H⟩ := H
 replace H : (if (wrap64 (t118 + t119)) = 0 then (if (strOfNums t101).toList = ([252, 255, 255, 255] : List UInt8) then (if (t111.length : Int) = 24 then (if 16 < (t111.length : Int) then (some ((rd t111 16) == 27)) else (none)) else (none)) else (none)) else (none)) = some r := H
 have A5 := am A50
 clear A50
 by_cases c6 : (wrap64 (t118 + t119)) = 0
 rotate_left
 ·
  rw [if_neg c6] at H
  exact absurd H (by simp)
 rw [if_pos c6] at H
 have c6b0 : ((wrap64 (t118 + t119)) == 0) = true := beq_iff_eq.mpr c6
 have c6b1 : ((wrap64 (t118 + t119)) != 0) = false := bne_eq_false_iff_eq.mpr c6
 clear c6
 by_cases c7 : (strOfNums t101).toList = ([252, 255, 255, 255] : List UInt8)
 rotate_left
 ·
  rw [if_neg c7] at H
  exact absurd H (by simp)
 rw [if_pos c7] at H
 have c7b0 : ((strOfNums t101).toList == ([252, 255, 255, 255] : List UInt8)) = true := beq_iff_eq.mpr c7
 have c7b1 : ((strOfNums t101).toList != ([252, 255, 255, 255] : List UInt8)) = false := bne_eq_false_iff_eq.mpr c7
 clear c7
 by_cases c8 : (t111.length : Int) = 24
 rotate_left
 ·
  rw [if_neg c8] at H
  exact absurd H (by simp)
 rw [if_pos c8] at H
 have c8b0 : ((t111.length : Int) == 24) = true := beq_iff_eq.mpr c8
 have c8b1 : ((t111.length : Int) != 24) = false := bne_eq_false_iff_eq.mpr c8
 clear c8
 by_cases c9 : 16 < (t111.length : Int)
 rotate_left
 ·
  rw [if_neg c9] at H
  exact absurd H (by simp)
 rw [if_pos c9] at H
 have c9b0 : decide (16 < (t111.length : Int)) = true := decide_eq_true c9
 have c9b1 : decide (16 < t111.length) = true := decide_eq_true (by omega)
 clear c9
 obtain rfl := Option.some.inj H
 go_enter Try.func15, Try.ntmps15
 go_wp2_with (first | ((with_reducible refine gate_callee (f := 16) rfl ?_); refine goesL_ (some 7) rfl rfl Try.func16 (by kernel_rfl) rfl #[.int .i64 27, .int .i64 4096, .int .i64 4100, .int .i64 0] rfl (by simp only [ml]; try rfl) ?_; (with_reducible refine (ehframe_Put.calls k 27 4096 4100 0 t101 t102 _ A1.out).mono ?_); rintro e w10 ⟨v103, rfl, ho0, hb⟩; refine ⟨_, rfl, ?_⟩; refine mv2 (am (Kd.R_lower ho0 (below_size (by exact bl_o HB.out)))) (am (below_step (by exact bl_o HB.out) hb)) ?_; clear HB; intro HO104 HB) | ((with_reducible refine gate_callee (f := 36) rfl ?_); refine goesL_ (some 11) rfl rfl Try.func36 (by kernel_rfl) rfl #[] rfl (by simp only [ml]; try rfl) ?_; (with_reducible refine (cfa_Usual.calls  t105 _ A2.out).mono ?_); rintro e w11 ⟨v106, rfl, ho0, hb⟩; refine ⟨_, rfl, ?_⟩; refine mv3 (am (Kd.R_below (Kd.R_o HO104.out) hb)) (am (Kd.R_lower ho0 (below_size (by exact bl_o HB.out)))) (am (below_step (by exact bl_o HB.out) hb)) ?_; clear HO104 HB; intro HO104 HO107 HB; obtain ⟨Ao12, co12, eo12⟩ := Kd.R_slice HO107.out; subst eo12) | ((with_reducible refine gate_dst (N := 13) rfl ?_); (try (refine gate_guard (by rfl) ?_; dsimp only)); refine Kd.N_lit k69 _ 69 ?hg (N' := 13) ?hd (xs := ([(⟨27, t105⟩ : S69)] : List (S69))) (inner := [.int .i64 27, .slice Ao12 t105.length co12]) (ok := (fun k_ => some k_ ≠ (v103 : Value).ownBlock)) (okp := (fun k_ => some k_ ≠ (v103 : Value).ownBlock)) ?hr ?hp (fun _ hk => hk) ((show ∀ k_, w11.heap.size ≤ k_ → (fun k_ => some k_ ≠ (v103 : Value).ownBlock) k_ from fun k_ hk => Kd.fresh' (Kd.R_lt (Kd.R_o HO104.out)) k_ hk) _ (Nat.le_refl _)) (Below.refl _ _) (Nat.le_refl _) (by simp) ?_; (case hd => rfl); (case hg => rfl); (case hr => go_simp; try rfl); (case hp => exact (Reps.c2 (show Kd.FK k69 _ _ (⟨27, t105⟩ : S69) [.int .i64 27, .slice Ao12 t105.length co12] from (k69_mkF _ _ (⟨27, t105⟩ : S69) (Kd.R_reads' (Kd.R_mono (ok' := (fun k_ => some k_ ≠ (v103 : Value).ownBlock)) (Kd.R_apart' (HO107.out) (Kd.R_typed HO104.out) (by decide)) (fun k_ hk => hk.2))).2.1 (Kd.R_F (Kd.R_mono (ok' := (fun k_ => some k_ ≠ (v103 : Value).ownBlock)) (Kd.R_apart' (HO107.out) (Kd.R_typed HO104.out) (by decide)) (fun k_ hk => hk.2))))) (Reps.none _ _))); intro v109 w13 ho14 hb hg_ hnew_; clear hg_ hnew_; (first | rw [← Ny108.out] at ho14 | (simp only [Int.reduceToNat] at ho14; rw [← Ny108.out] at ho14)); refine mv3 (am (Kd.R_below (Kd.R_o HO104.out) hb)) (am (Kd.N_lower ho14 (below_size (by exact bl_o HB.out)))) (am (below_step (by exact bl_o HB.out) hb)) ?_; clear HO104 HB HO107; intro HO104 HO110 HB; clear hb ho14; obtain ⟨Ao15, co15, eo15⟩ := Kd.N_slice HO110.out; subst eo15) | ((with_reducible refine gate_callee (f := 9) rfl ?_); refine goesL_ (some 14) rfl rfl Try.func9 (by kernel_rfl) rfl #[.slice Ao15 y108.length co15, .slice none 0 0, .int .i64 0, .bool false] rfl (by simp only [ml]; try rfl) ?_; (refine (ehframe_Write.calls k _ _ y108 _ _ ([] : List (S46)) 0 false t111 t112 t113 _ ?side1 ?side2 ?side3 ?side4 A3.out).mono ?_); (case side1 => exact Kd.C_o ((Kd.N_reads' HO110.out).2.2)); (case side2 => exact (Kd.N_reads' HO110.out).2.1); (case side3 => exact Kd.C_nil _ _); (case side4 => exact Nat.le_refl _); rintro e w16 ⟨v114, v116, rfl, ho0, ho1, hb⟩; refine ⟨_, rfl, ?_⟩; refine mv5 (am (Kd.R_elder' (Kd.R_o HO104.out) (Kd.R_base ho0) hb)) (am (Kd.N_mono (Kd.N_told (Kd.N_told (Kd.N_old (by (with_reducible repeat (first | apply Kd.N_alloc | apply Kd.N_drewN | apply Kd.N_drew)); exact HO110.out) hb) (Kd.R_base ho0)) (Kd.R_base ho1)) (fun _ h_ => h_.1))) (am (Kd.R_lower (Kd.R_new' ho0 (Kd.R_lt (Kd.R_o HO104.out))) (below_size (by exact bl_o HB.out)))) (am (Kd.R_lower ho1 (below_size (by exact bl_o HB.out)))) (am (below_step (by exact bl_o HB.out) hb)) ?_; clear HO104 HO110 HB; intro HO104 HO110 HO115 HO117 HB; (try clear ho1)) | ((with_reducible refine gate_callee (f := 11) rfl ?_); refine goesL_ (some 19) rfl rfl Try.func11 (by kernel_rfl) rfl #[.int .i64 t102] rfl (by simp only [ml]; try rfl) ?_; (with_reducible refine (gangwaylaw14_num.calls t102 t118 _ A4.out).mono ?_); rintro e w' ⟨rfl, ⟨nd, rfl⟩⟩; refine ⟨_, rfl, ?_⟩) | ((with_reducible refine gate_callee (f := 11) rfl ?_); refine goesL_ (some 21) rfl rfl Try.func11 (by kernel_rfl) rfl #[.int .i64 t113] rfl (by simp only [ml]; try rfl) ?_; (with_reducible refine (gangwaylaw14_num.calls t113 t119 _ A5.out).mono ?_); rintro e w' ⟨rfl, ⟨nd, rfl⟩⟩; refine ⟨_, rfl, ?_⟩; have hcv17 := own_string (P := Try.prog) Try.underlying28 Try.underlying5 Try.underlying9 (Kd.own_of_R HO104.out); have hcv18 := fun (m_ : Nat) => own_string (P := Try.prog) Try.underlying28 Try.underlying5 Try.underlying9 (Kd.own_of_R (Kd.R_drewN HO104.out m_)); obtain ⟨Ao19, co19, eo19⟩ := Kd.R_slice HO115.out; subst eo19; have p120 : 0 ≤ (16 : Int) := (by omega); have q120 : 16 < (t111.length : Int) := od; obtain ⟨ad120, e120, hx120_0⟩ := Kd.at_int (Kd.R_reads' HO115.out).2.2 16 p120 q120; cases e120; (try simp only [show (16 : Int).toNat = 16 from rfl, Nat.reduceMul, Nat.reduceEqDiff, Go.Addr.add, ↓reduceIte] at hx120_0); have qi120 : (16 < t111.length) = True := eq_true (by omega); (try rw [show ((16 : Int)).toNat = 16 from rfl] at hx120_0); replace p120 := eq_true p120; replace q120 := eq_true q120))
 go_ret
 exact ⟨rfl, by exact bl_g HB.out⟩
end Go.Proofs.Ytfgfnflhdabmcaa.G
end
