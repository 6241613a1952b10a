/- Lemmas and contracts, one text behind the other: what the row of this claim needs; no conditions beyond those that each theorem names. -/
import Derived.Test.YtfgfnflhdabmcaaVE3
set_option linter.unusedVariables false
set_option linter.unusedSimpArgs false
set_option maxRecDepth 100000
section
namespace Go.Proofs.Ytfgfnflhdabmcaa.G
open Go.RowKit Go.Proofs.YtfgfnflhdabmcaaW.PrintWords Go.Proofs.YtfgfnflhdabmcaaW.PrintLast Go.Proofs.YtfgfnflhdabmcaaW.PrintMore
attribute [local go_sem] max2_int min2_int max_two min_two max_three min_three max_four min_four
mutual
def gangwayref01_Put.j0 : Nat → Int → Int → Bool → Option (List Int × Int)
  | 0, _, _, _ => none
  | k + 1, x0, x1, x31 => if x31 = true then (some (([] : List Int), 11)) else (gangwayref01_Put.l0 k x1 (IntKind.u64.wrap (x0)) ([] : List Int) 0)
def gangwayref01_Put.l0 : Nat → Int → Int → List Int → Int → Option (List Int × Int)
  | 0, _, _, _, _ => none
  | k + 1, x1, x6, x7, x8 => if x8 < x1 then (if x7.length < 140737488355328 then (gangwayref01_Put.l0 k x1 (x6 / 256) (x7 ++ [(x6) % 256]) (wrap64 (x8 + 1))) else (none)) else (some (x7, 0))
end
def gangwayref01_Put.f (k : Nat) (a0 : Int) (a1 : Int) : Option (List Int × Int) := (gangwayref01_sized.f a1).bind fun t101 => (if t101 = true then (if a1 < 8 then (if 0 ≤ (IntKind.u64.wrap (wrap64 ((wrap64 (8 * a1)) - 1))) then (if a0 < (wrap64 (-(shl .i64 1 (IntKind.u64.wrap (wrap64 ((wrap64 (8 * a1)) - 1)))))) then (gangwayref01_Put.j0 k a0 a1 true) else (if 0 ≤ (IntKind.u64.wrap (wrap64 (8 * a1))) then (gangwayref01_Put.j0 k a0 a1 (decide (a0 ≥ (shl .i64 1 (IntKind.u64.wrap (wrap64 (8 * a1))))))) else (none))) else (none)) else (gangwayref01_Put.j0 k a0 a1 false)) else (some (([] : List Int), 1)))
theorem gangwayref01_Put.mono_l : ∀ k, (∀ y0 y1 y2, LeO (gangwayref01_Put.j0 k y0 y1 y2) (gangwayref01_Put.j0 (k + 1) y0 y1 y2)) ∧ (∀ y0 y1 y2 y3, LeO (gangwayref01_Put.l0 k y0 y1 y2 y3) (gangwayref01_Put.l0 (k + 1) y0 y1 y2 y3))
  | 0 => ⟨fun _ _ _ r h => by simp [gangwayref01_Put.j0] at h, fun _ _ _ _ r h => by simp [gangwayref01_Put.l0] at h⟩
  | k + 1 => by
    obtain ⟨ih0, ih1⟩ := gangwayref01_Put.mono_l k
    refine ⟨?_, ?_⟩
    · intro y0 y1 y2
      unfold gangwayref01_Put.j0
      repeat' first
      | (with_reducible exact ih0 _ _ _)
      | (with_reducible exact ih1 _ _ _ _)
      | (with_reducible exact LeO.refl _)
      | (with_reducible exact LeO.none _)
      | (with_reducible refine LeO.ite ?_ ?_)
      | (with_reducible refine LeO.bind ?_ (fun _ => ?_))
      | exact ih0 _ _ _
      | exact ih1 _ _ _ _
      | exact LeO.none _
      | refine LeO.ite ?_ ?_
      | refine LeO.bind ?_ (fun _ => ?_)
    · intro y0 y1 y2 y3
      unfold gangwayref01_Put.l0
      repeat' first
      | (with_reducible exact ih0 _ _ _)
      | (with_reducible exact ih1 _ _ _ _)
      | (with_reducible exact LeO.refl _)
      | (with_reducible exact LeO.none _)
      | (with_reducible refine LeO.ite ?_ ?_)
      | (with_reducible refine LeO.bind ?_ (fun _ => ?_))
      | exact ih0 _ _ _
      | exact ih1 _ _ _ _
      | exact LeO.none _
      | refine LeO.ite ?_ ?_
      | refine LeO.bind ?_ (fun _ => ?_)
theorem gangwayref01_Put.mono : ∀ a0 a1 k, LeO (gangwayref01_Put.f k a0 a1) (gangwayref01_Put.f (k + 1) a0 a1) := by
 intro a0 a1 k
 obtain ⟨ih0, ih1⟩ := gangwayref01_Put.mono_l k
 unfold gangwayref01_Put.f
 repeat' first
     | (with_reducible exact ih0 _ _ _)
     | (with_reducible exact ih1 _ _ _ _)
     | (with_reducible exact LeO.refl _)
     | (with_reducible exact LeO.none _)
     | (with_reducible refine LeO.ite ?_ ?_)
     | (with_reducible refine LeO.bind ?_ (fun _ => ?_))
     | exact ih0 _ _ _
     | exact ih1 _ _ _ _
     | exact LeO.none _
     | refine LeO.ite ?_ ?_
     | refine LeO.bind ?_ (fun _ => ?_)
set_option maxHeartbeats 8000000 in
theorem gangwayref01_Put.calls (k : Nat) (a0 : Int) (a1 : Int) (r1 : List Int) (r2 : Int) (w : World) (h : gangwayref01_Put.f k a0 a1 = some (r1, r2)) :
    Calls Try.prog 47 #[.int .i64 a0, .int .i64 a1] w fun e w' => ∃ v0_ : Value, e = .returned (.tuple #[v0_, .int .i64 r2]) ∧ Kd.R (Kd.int .u8) 5 w' w.heap.size (fun _ => True) v0_ r1 ∧ Below w.heap.size w w' := by
 have HB := am (Below.refl w.heap.size w)
 have H : ((gangwayref01_sized.f a1).bind fun t101 => (if t101 = true then (if a1 < 8 then (if 0 ≤ (IntKind.u64.wrap (wrap64 ((wrap64 (8 * a1)) - 1))) then (if a0 < (wrap64 (-(shl .i64 1 (IntKind.u64.wrap (wrap64 ((wrap64 (8 * a1)) - 1)))))) then (gangwayref01_Put.j0 k a0 a1 true) else (if 0 ≤ (IntKind.u64.wrap (wrap64 (8 * a1))) then (gangwayref01_Put.j0 k a0 a1 (decide (a0 ≥ (shl .i64 1 (IntKind.u64.wrap (wrap64 (8 * a1))))))) else (none))) else (none)) else (gangwayref01_Put.j0 k a0 a1 false)) else (some (([] : List Int), 1)))) = some (r1, r2) := h
 clear h
 replace H := Option.bind_eq_some_iff.mp H
 obtain ⟨t101, A30, H⟩ := H
 replace H : (if t101 = true then (if a1 < 8 then (if 0 ≤ (IntKind.u64.wrap (wrap64 ((wrap64 (8 * a1)) - 1))) then (if a0 < (wrap64 (-(shl .i64 1 (IntKind.u64.wrap (wrap64 ((wrap64 (8 * a1)) - 1)))))) then (gangwayref01_Put.j0 k a0 a1 true) else (if 0 ≤ (IntKind.u64.wrap (wrap64 (8 * a1))) then (gangwayref01_Put.j0 k a0 a1 (decide (a0 ≥ (shl .i64 1 (IntKind.u64.wrap (wrap64 (8 * a1))))))) else (none))) else (none)) else (gangwayref01_Put.j0 k a0 a1 false)) else (some (([] : List Int), 1))) = some (r1, r2) := H
 have A3 := am A30
 clear A30
 by_cases c4 : t101 = true
 rotate_left
 ·
  replace c4 := Bool.eq_false_iff.mpr c4
  subst c4
  replace H : (some (([] : List Int), 1)) = some (r1, r2) := by rw [if_neg (show ¬ (false = true) by decide)] at H; exact H
  simp only [Option.some.injEq, Prod.mk.injEq] at H
  obtain ⟨rfl, rfl⟩ := H
  go_enter Try.func47, Try.ntmps47
  go_wp2_with (first | ((with_reducible refine gate_callee (f := 68) rfl ?_); refine goesL_ (some 10) rfl rfl Try.func68 (by kernel_rfl) rfl #[.int .i64 a1] rfl (by simp only [ml]; try rfl) ?_; (with_reducible refine (gangwayref01_sized.calls a1 false _ A3.out).mono ?_); rintro e w' ⟨rfl, ⟨nd, rfl⟩⟩; refine ⟨_, rfl, ?_⟩))
  go_ret2
  exact ⟨_, rfl, by first | exact Kd.R_nil _ _ _ _ _ | exact Kd.N_nil _ _ _ _ _, by exact bl_g HB.out⟩
 subst c4
 replace H : (if a1 < 8 then (if 0 ≤ (IntKind.u64.wrap (wrap64 ((wrap64 (8 * a1)) - 1))) then (if a0 < (wrap64 (-(shl .i64 1 (IntKind.u64.wrap (wrap64 ((wrap64 (8 * a1)) - 1)))))) then (gangwayref01_Put.j0 k a0 a1 true) else (if 0 ≤ (IntKind.u64.wrap (wrap64 (8 * a1))) then (gangwayref01_Put.j0 k a0 a1 (decide (a0 ≥ (shl .i64 1 (IntKind.u64.wrap (wrap64 (8 * a1))))))) else (none))) else (none)) else (gangwayref01_Put.j0 k a0 a1 false)) = some (r1, r2) := by rw [if_pos rfl] at H; exact H
 have HC5 := am H
 clear H
 go_enter Try.func47, Try.ntmps47
 go_upto_region 3 with (first | ((with_reducible refine gate_callee (f := 68) rfl ?_); refine goesL_ (some 10) rfl rfl Try.func68 (by kernel_rfl) rfl #[.int .i64 a1] rfl (by simp only [ml]; try rfl) ?_; (with_reducible refine (gangwayref01_sized.calls a1 true _ A3.out).mono ?_); rintro e w' ⟨rfl, ⟨nd, rfl⟩⟩; refine ⟨_, rfl, ?_⟩))
 (try simp only [Act.put, List.setIfInBounds_toArray, List.set_cons_zero, List.set_cons_succ])
 go_cut [31] (fun v31 wc => ∃ (kq : Nat) (x31_4 : Bool), v31 = .bool x31_4 ∧ Aside0 (gangwayref01_Put.j0 kq a0 a1 x31_4 = some (r1, r2)) ∧ Aside0 (kq ≤ k) ∧ Aside0 (Below w.heap.size w wc))
 case first =>
  have H := HC5.out
  clear HC5
  by_cases c6 : a1 < 8
  rotate_left
  ·
   rw [if_neg c6] at H
   have c6b0 : decide (a1 < 8) = false := decide_eq_false c6
   clear c6
   (first | rw [c6b0] | (simp only [i64_w, i32_w]; rw [c6b0]) | skip)
   have H' := am H
   clear H
   go_wp2
   go_meet
   case rel => exact ⟨_, (false), (by first | rfl | (simp; done) | (simp [*]; done)), H', ⟨by first | omega | exact Nat.le_refl _⟩, ⟨by exact bl_g HB.out⟩⟩
  rw [if_pos c6] at H
  have c6b0 : decide (a1 < 8) = true := decide_eq_true c6
  clear c6
  (first | rw [c6b0] | (simp only [i64_w, i32_w]; rw [c6b0]) | skip)
  obtain ⟨ji7, hji7⟩ : ∃ j_ : Int, (IntKind.u64.wrap (wrap64 ((wrap64 (8 * a1)) - 1))) = j_ := ⟨_, rfl⟩
  replace H : (if 0 ≤ (ji7) then (if a0 < (wrap64 (-(shl .i64 1 (ji7)))) then (gangwayref01_Put.j0 k a0 a1 true) else (if 0 ≤ (IntKind.u64.wrap (wrap64 (8 * a1))) then (gangwayref01_Put.j0 k a0 a1 (decide (a0 ≥ (shl .i64 1 (IntKind.u64.wrap (wrap64 (8 * a1))))))) else (none))) else (none)) = some (r1, r2) := by first | (rw [hji7] at H; exact H) | (simp only [hji7] at H ⊢; exact H)
  by_cases c8 : 0 ≤ (ji7)
  rotate_left
  ·
   rw [if_neg c8] at H
   exact absurd H (by simp)
  rw [if_pos c8] at H
  have c8b0 := eq_true c8
  have c8b1 : decide (0 ≤ (ji7)) = true := decide_eq_true c8
  clear c8
  obtain ⟨ji9, hji9⟩ : ∃ j_ : Int, (shl .i64 1 (ji7)) = j_ := ⟨_, rfl⟩
  replace H : (if a0 < (wrap64 (-(ji9))) then (gangwayref01_Put.j0 k a0 a1 true) else (if 0 ≤ (IntKind.u64.wrap (wrap64 (8 * a1))) then (gangwayref01_Put.j0 k a0 a1 (decide (a0 ≥ (shl .i64 1 (IntKind.u64.wrap (wrap64 (8 * a1))))))) else (none))) = some (r1, r2) := by first | (rw [hji9] at H; exact H) | (simp only [hji9] at H ⊢; exact H)
  have hji9_ : (IntKind.i64.wrap (1 * 2 ^ min (ji7).toNat 64)) = ji9 := hji9
  have hji9z : (ji7) ≤ 64 → (IntKind.i64.wrap (1 * 2 ^ (ji7).toNat)) = ji9 := shl_small hji9
  have hji9u : (IntKind.i64.wrap (2 ^ min (ji7).toNat 64)) = ji9 := by have h_ := hji9_; rw [Int.one_mul] at h_; exact h_
  have hji9v : (ji7) ≤ 64 → (IntKind.i64.wrap (2 ^ (ji7).toNat)) = ji9 := fun hle_ => by have h_ := hji9z hle_; rw [Int.one_mul] at h_; exact h_
  have hji9y : (wrap64 (1 * 2 ^ min (ji7).toNat 64)) = ji9 := (i64_w _).symm.trans hji9_
  have hji9x : (ji7) ≤ 64 → (wrap64 (1 * 2 ^ (ji7).toNat)) = ji9 := fun h_ => (i64_w _).symm.trans (hji9z h_)
  by_cases c10 : a0 < (wrap64 (-(ji9)))
  ·
   rw [if_pos c10] at H
   have c10b0 : decide (a0 < (wrap64 (-(ji9)))) = true := decide_eq_true c10
   clear c10
   have H' := am H
   clear H
   go_wp2
   go_meet
   case rel => exact ⟨_, (true), (by first | rfl | (simp; done) | (simp [*]; done)), H', ⟨by first | omega | exact Nat.le_refl _⟩, ⟨by exact bl_g HB.out⟩⟩
  rw [if_neg c10] at H
  have c10b0 : decide (a0 < (wrap64 (-(ji9)))) = false := decide_eq_false c10
  clear c10
  obtain ⟨ji11, hji11⟩ : ∃ j_ : Int, (IntKind.u64.wrap (wrap64 (8 * a1))) = j_ := ⟨_, rfl⟩
  replace H : (if 0 ≤ (ji11) then (gangwayref01_Put.j0 k a0 a1 (decide (a0 ≥ (shl .i64 1 (ji11))))) else (none)) = some (r1, r2) := by first | (rw [hji11] at H; exact H) | (simp only [hji11] at H ⊢; exact H)
  by_cases c12 : 0 ≤ (ji11)
  rotate_left
  ·
   rw [if_neg c12] at H
   exact absurd H (by simp)
  rw [if_pos c12] at H
  have c12b0 := eq_true c12
  have c12b1 : decide (0 ≤ (ji11)) = true := decide_eq_true c12
  clear c12
  obtain ⟨ji13, hji13⟩ : ∃ j_ : Int, (shl .i64 1 (ji11)) = j_ := ⟨_, rfl⟩
  replace H : (gangwayref01_Put.j0 k a0 a1 (decide (a0 ≥ (ji13)))) = some (r1, r2) := by first | (rw [hji13] at H; exact H) | (simp only [hji13] at H ⊢; exact H)
  have hji13_ : (IntKind.i64.wrap (1 * 2 ^ min (ji11).toNat 64)) = ji13 := hji13
  have hji13z : (ji11) ≤ 64 → (IntKind.i64.wrap (1 * 2 ^ (ji11).toNat)) = ji13 := shl_small hji13
  have hji13u : (IntKind.i64.wrap (2 ^ min (ji11).toNat 64)) = ji13 := by have h_ := hji13_; rw [Int.one_mul] at h_; exact h_
  have hji13v : (ji11) ≤ 64 → (IntKind.i64.wrap (2 ^ (ji11).toNat)) = ji13 := fun hle_ => by have h_ := hji13z hle_; rw [Int.one_mul] at h_; exact h_
  have hji13y : (wrap64 (1 * 2 ^ min (ji11).toNat 64)) = ji13 := (i64_w _).symm.trans hji13_
  have hji13x : (ji11) ≤ 64 → (wrap64 (1 * 2 ^ (ji11).toNat)) = ji13 := fun h_ => (i64_w _).symm.trans (hji13z h_)
  have H' := am H
  clear H
  go_wp2
  go_meet
  case rel => exact ⟨_, (decide (a0 ≥ (ji13))), (by first | rfl | (simp; done) | (simp only [← hji13] <;> (first | rfl | simp)) | (simp [*]; done)), H', ⟨by first | omega | exact Nat.le_refl _⟩, ⟨by exact bl_g HB.out⟩⟩
 case rest =>
  clear HC5
  try clear c1
  try clear p2
  try clear c4
  try clear c6
  try clear c6b0
  try clear p6
  try clear c8
  try clear c8b0
  try clear c8b1
  try clear c10
  try clear c10b0
  try clear c12
  try clear c12b0
  try clear c12b1
  obtain ⟨kq, x31_4, rfl, HA, HJ4, HB⟩ := hcut
  cases kq with
  | zero => exact absurd HA.out (by simp [gangwayref01_Put.j0])
  | succ kj4 =>
   have H := HA.out
   clear HA
   simp only [gangwayref01_Put.j0] at H
   by_cases c14 : x31_4 = true
   ·
    subst c14
    replace H : (some (([] : List Int), 11)) = some (r1, r2) := by rw [if_pos rfl] at H; exact H
    simp only [Option.some.injEq, Prod.mk.injEq] at H
    obtain ⟨rfl, rfl⟩ := H
    go_wp2
    go_ret2
    exact ⟨_, rfl, by first | exact Kd.R_nil _ _ _ _ _ | exact Kd.N_nil _ _ _ _ _, by exact bl_g HB.out⟩
   replace c14 := Bool.eq_false_iff.mpr c14
   subst c14
   replace H : (gangwayref01_Put.l0 kj4 a1 (IntKind.u64.wrap (a0)) ([] : List Int) 0) = some (r1, r2) := by rw [if_neg (show ¬ (false = true) by decide)] at H; exact H
   have H' := am H
   clear H
   go_wp2
   go_loopg [6, 7, 8] kj4 (fun kq v6 v7 v8 w' => ∃ (x6_2 : Int) (x7_2 : List Int) (x8_2 : Int), v6 = .int .u64 x6_2 ∧ v8 = .int .i64 x8_2 ∧ Aside0 (gangwayref01_Put.l0 kq a1 x6_2 x7_2 x8_2 = some (r1, r2)) ∧ Aside0 (kq ≤ kj4) ∧ Aside0 (Kd.R (Kd.int .u8) 5 w' w.heap.size (fun _ => True) v7 x7_2) ∧ Aside0 (Below w.heap.size w w'))
   case atStart => exact ⟨(IntKind.u64.wrap (a0)), (([] : List Int)), (0), (by first | rfl | (simp; done) | (simp [*]; done)), (by first | rfl | (simp; done) | (simp [*]; done)), H', ⟨Nat.le_refl _⟩, ⟨by first | exact Kd.R_nil _ _ _ _ _ | exact Kd.N_nil _ _ _ _ _⟩, ⟨by exact bl_g HB.out⟩⟩
   case round =>
    clear H'
    try clear c1
    try clear p2
    try clear c4
    try clear c6
    try clear c6b0
    try clear p6
    try clear c8
    try clear c8b0
    try clear c8b1
    try clear c10
    try clear c10b0
    try clear c12
    try clear c12b0
    try clear c12b1
    try clear c14
    try clear p2
    try clear p6
    obtain ⟨x6_2, x7_2, x8_2, rfl, rfl, HA, HK2, HO_7, HB⟩ := hrel
    cases gk with
    | zero => exact absurd HA.out (by simp [gangwayref01_Put.l0])
    | succ k2 =>
     have H := HA.out
     clear HA
     simp only [gangwayref01_Put.l0] at H
     by_cases c15 : x8_2 < a1
     rotate_left
     ·
      rw [if_neg c15] at H
      have c15b0 : decide (x8_2 < a1) = false := decide_eq_false c15
      clear c15
      simp only [Option.some.injEq, Prod.mk.injEq] at H
      obtain ⟨rfl, rfl⟩ := H
      go_wp2
      go_ret2
      exact ⟨_, rfl, by (with_reducible repeat (first | apply Kd.R_alloc | apply Kd.R_drewN | apply Kd.R_drew)); exact HO_7.out, by exact bl_g HB.out⟩
     rw [if_pos c15] at H
     have c15b0 : decide (x8_2 < a1) = true := decide_eq_true c15
     clear c15
     by_cases c16 : x7_2.length < 140737488355328
     rotate_left
     ·
      rw [if_neg c16] at H
      exact absurd H (by simp)
     rw [if_pos c16] at H
     have LMc16 := am c16
     clear c16
     obtain ⟨y102, hy102⟩ : ∃ y_ : List Int, y_ = (x7_2 ++ [(x6_2) % 256]) := ⟨_, rfl⟩
     replace H : (gangwayref01_Put.l0 k2 a1 (x6_2 / 256) y102 (wrap64 (x8_2 + 1))) = some (r1, r2) := by first | (rw [hy102]; with_reducible exact H) | (have H2_ := (Option.bind_some _ _).symm.trans H; rw [hy102]; with_reducible exact H2_)
     have Ny102 := am hy102
     clear hy102
     have H' := am H
     clear H
     go_wp2_with (first | ((with_reducible refine gate_builtin (b := .append) (xs := #[.tmp 39, .tmp 42]) rfl ?_); at_builtin; refine Kd.R_append (Kd.int .u8) (w0 := w) w.heap.size rfl (.tmp 39) (.tmp 42) 28 5 (.int .u8 0) 1 rfl Try.underlying28 info5 rfl (by decide) (by omega) u7 x7_2 ((x6_2) % 256) [.int .u8 ((x6_2) % 256)] (fun _ => True) (fun _ => False) rfl rfl ?aP (fun _ hk => hk.elim) ?aF ?aO ?aB ?aS ?aL ?_; (case aP => exact rfl); (case aB => exact (by exact bl_o HB.out)); (case aF => exact (fun _ _ => trivial)); (case aO => exact (Kd.R_o HO_7.out)); (case aS => exact (below_size (by exact bl_o HB.out))); (case aL => have := LMc16.out; omega); intro v103 w17 ho hb hg hat; rw [← Ny102.out] at ho; refine mv2 (am (hb)) (am (ho)) ?_; clear HB HO_7; intro HB HO104; clear ho hb hg hat))
     go_roundg k2
     case measure => have := HJ4.out; have := HK2.out; omega
     case rel => exact ⟨(x6_2 / 256), (y102), (wrap64 (x8_2 + 1)), (by first | rfl | (simp; done) | (simp [*]; done)), (by first | rfl | (simp; done) | (simp [*]; done)), H', ⟨by have := HJ4.out; have := HK2.out; omega⟩, ⟨by (with_reducible repeat (first | apply Kd.R_alloc | apply Kd.R_drewN | apply Kd.R_drew)); exact HO104.out⟩, ⟨by exact bl_g HB.out⟩⟩
end Go.Proofs.Ytfgfnflhdabmcaa.G
end
section
namespace Go.Proofs.Ytfgfnflhdabmcaa.Leb
open Go.RowKit Go.Proofs.Ytfgfnflhdabmcaa.G Go.Proofs.YtfgfnflhdabmcaaW.PrintWords Go.Proofs.YtfgfnflhdabmcaaW.PrintLast Go.Proofs.YtfgfnflhdabmcaaW.PrintMore Go.Proofs.Ytfgfnflhdabmcaa.Bit
theorem rsized_f (s : Int) : gangwayref01_sized.f s = some (sizedB s) := sized_f s
theorem rput_l0 (d : Nat) : ∀ (k : Nat) (u : Int) (s i : Nat) (acc : List Int), i + d = s → d < k → s ≤ 8 → acc.length + d ≤ 100 → gangwayref01_Put.l0 k (s : Int) u acc (i : Int) = some (acc ++ leB u d, 0) := by
  induction d with
  | zero =>
    intro k u s i acc h hk hs ha
    obtain ⟨k, rfl⟩ : ∃ m, k = m + 1 := ⟨k - 1, by omega⟩
    simp only [gangwayref01_Put.l0]
    rw [if_neg (by omega)]
    simp [leB]
  | succ d ih =>
    intro k u s i acc h hk hs ha
    obtain ⟨k, rfl⟩ : ∃ m, k = m + 1 := ⟨k - 1, by omega⟩
    simp only [gangwayref01_Put.l0]
    rw [if_pos (by omega), if_pos (by omega), wrap64_id (by omega) (by omega), show (i : Int) + 1 = ((i + 1 : Nat) : Int) from by omega, ih k (u / 256) s (i + 1) _ (by omega) (by omega) hs (by simp; omega)]
    simp [leB]
theorem rput_go (n : Int) (s : Nat) (hs : s ≤ 8) (k : Nat) (hk : 20 ≤ k) : gangwayref01_Put.l0 k (s : Int) (IntKind.u64.wrap n) [] 0 = some (leB (n % 18446744073709551616) s, 0) := by
  have := rput_l0 s k (IntKind.u64.wrap n) s 0 [] (by omega) (by omega) hs (by simp; omega)
  rw [wrap_u64] at this ⊢
  simpa using this
theorem rput_f (n s : Int) : gangwayref01_Put.f 30 n s = some (putV n s) := by
  unfold gangwayref01_Put.f putV
  rw [rsized_f, Option.bind_some]
  by_cases hs : sizedB s = true
  · rw [if_pos hs, if_pos hs]
    rcases sizedB_cases hs with rfl | rfl | rfl | rfl
    · have e1 : wrap64 (-(shl .i64 1 (IntKind.u64.wrap (wrap64 (wrap64 (8 * 1) - 1))))) = -128 := by decide +kernel
      have e2 : shl .i64 1 (IntKind.u64.wrap (wrap64 (8 * 1))) = 256 := by decide +kernel
      rw [e1, e2, if_pos (show (1 : Int) < 8 by omega), if_pos (show 0 ≤ IntKind.u64.wrap (wrap64 (wrap64 (8 * 1) - 1)) by decide +kernel), if_pos (show 0 ≤ IntKind.u64.wrap (wrap64 (8 * 1)) by decide +kernel)]
      simp only [gangwayref01_Put.j0]
      by_cases c1 : n < -128
      · rw [if_pos c1, if_pos trivial, if_pos (by simp; omega)]
      · rw [if_neg c1]
        by_cases c2 : n ≥ 256
        · rw [if_pos (decide_eq_true c2), if_pos (by simp; omega)]
        · rw [if_neg (by simpa using c2), if_neg (by simp; omega)]
          exact rput_go n 1 (by omega) 29 (by omega)
    · have e1 : wrap64 (-(shl .i64 1 (IntKind.u64.wrap (wrap64 (wrap64 (8 * 2) - 1))))) = -32768 := by decide +kernel
      have e2 : shl .i64 1 (IntKind.u64.wrap (wrap64 (8 * 2))) = 65536 := by decide +kernel
      rw [e1, e2, if_pos (show (2 : Int) < 8 by omega), if_pos (show 0 ≤ IntKind.u64.wrap (wrap64 (wrap64 (8 * 2) - 1)) by decide +kernel), if_pos (show 0 ≤ IntKind.u64.wrap (wrap64 (8 * 2)) by decide +kernel)]
      simp only [gangwayref01_Put.j0]
      by_cases c1 : n < -32768
      · rw [if_pos c1, if_pos trivial, if_pos (by simp; omega)]
      · rw [if_neg c1]
        by_cases c2 : n ≥ 65536
        · rw [if_pos (decide_eq_true c2), if_pos (by simp; omega)]
        · rw [if_neg (by simpa using c2), if_neg (by simp; omega)]
          exact rput_go n 2 (by omega) 29 (by omega)
    · have e1 : wrap64 (-(shl .i64 1 (IntKind.u64.wrap (wrap64 (wrap64 (8 * 4) - 1))))) = -2147483648 := by decide +kernel
      have e2 : shl .i64 1 (IntKind.u64.wrap (wrap64 (8 * 4))) = 4294967296 := by decide +kernel
      rw [e1, e2, if_pos (show (4 : Int) < 8 by omega), if_pos (show 0 ≤ IntKind.u64.wrap (wrap64 (wrap64 (8 * 4) - 1)) by decide +kernel), if_pos (show 0 ≤ IntKind.u64.wrap (wrap64 (8 * 4)) by decide +kernel)]
      simp only [gangwayref01_Put.j0]
      by_cases c1 : n < -2147483648
      · rw [if_pos c1, if_pos trivial, if_pos (by simp; omega)]
      · rw [if_neg c1]
        by_cases c2 : n ≥ 4294967296
        · rw [if_pos (decide_eq_true c2), if_pos (by simp; omega)]
        · rw [if_neg (by simpa using c2), if_neg (by simp; omega)]
          exact rput_go n 4 (by omega) 29 (by omega)
    · rw [if_neg (show ¬ (8 : Int) < 8 by omega), if_neg (by simp)]
      simp only [gangwayref01_Put.j0, Bool.false_eq_true, if_false]
      exact rput_go n 8 (by omega) 29 (by omega)
  · rw [if_neg hs, if_neg hs]
end Go.Proofs.Ytfgfnflhdabmcaa.Leb
end
section
namespace Go.Proofs.Ytfgfnflhdabmcaa.Eh
open Go.RowKit Go.Proofs.Ytfgfnflhdabmcaa.G Go.Proofs.YtfgfnflhdabmcaaW.PrintWords Go.Proofs.YtfgfnflhdabmcaaW.PrintLast Go.Proofs.YtfgfnflhdabmcaaW.PrintMore Go.Proofs.Ytfgfnflhdabmcaa.Bit Go.Proofs.Ytfgfnflhdabmcaa.Leb Go.Proofs.Ytfgfnflhdabmcaa.EhOf
theorem near3 (x y z : Int) (k : Nat) (hk : 4 ≤ k) : ehframe_near.f k [x, y, z] = some (!(farB x || farB y || farB z)) := by
  obtain ⟨k, rfl⟩ : ∃ m, k = m + 4 := ⟨k - 4, by omega⟩
  unfold ehframe_near.f
  have h0 := near_step [x, y, z] 0 (by simp) (by simp) (k + 3)
  have h1 := near_step [x, y, z] 1 (by simp) (by simp) (k + 2)
  have h2 := near_step [x, y, z] 2 (by simp) (by simp) (k + 1)
  have h3 := near_end [x, y, z] k
  rw [show ((0 : Nat) : Int) = 0 from rfl, show rd [x, y, z] 0 = x from rfl] at h0
  rw [show rd [x, y, z] ((1 : Nat) : Int) = y from rfl] at h1
  rw [show rd [x, y, z] ((2 : Nat) : Int) = z from rfl] at h2
  rw [h0]
  cases hx : farB x
  · refine h1.trans ?_
    cases hy : farB y
    · refine h2.trans ?_
      cases hz : farB z
      · exact h3
      · rfl
    · rfl
  · rfl
def offV (q at_ data : Int) : Int := if q = 16 then at_ else if q = 48 then data else 0
def fitsV (x s : Int) (g : Bool) : Bool :=
  if s = 2 then (if g = true then decide (-32768 ≤ x ∧ x < 32768) else decide (0 ≤ x ∧ x < 65536))
  else if s = 4 then (if g = true then decide (-2147483648 ≤ x ∧ x < 2147483648) else decide (0 ≤ x ∧ x < 4294967296))
  else if g = true then true else decide (0 ≤ x)
theorem sh15 : shl .i64 1 15 = 32768 := by decide +kernel
theorem sh31 : shl .i64 1 31 = 2147483648 := by decide +kernel
theorem sh16 : shl .i64 1 16 = 65536 := by decide +kernel
theorem sh32 : shl .i64 1 32 = 4294967296 := by decide +kernel
theorem sn15 : shl .i64 (-1) 15 = -32768 := by decide +kernel
theorem sn31 : shl .i64 (-1) 31 = -2147483648 := by decide +kernel
theorem dec_ite (x a b : Int) : (if x ≥ a then some (decide (x < b)) else some false) = some (decide (a ≤ x ∧ x < b)) := by
  by_cases h : x ≥ a
  · rw [if_pos h]; congr 1; simp; omega
  · rw [if_neg h]; congr 1; simp; omega
theorem dec_ite' (x b : Int) : (if x < 0 then some false else some (decide (x < b))) = some (decide (0 ≤ x ∧ x < b)) := by
  by_cases h : x < 0
  · rw [if_pos h]; congr 1; simp; omega
  · rw [if_neg h]; congr 1; simp; omega
theorem dec_ite3 (x : Int) : (if x < 0 then some false else some true) = some (decide (0 ≤ x)) := by
  by_cases h : x < 0
  · rw [if_pos h]; congr 1; simp; omega
  · rw [if_neg h]; congr 1; simp; omega
theorem fits_f (x s : Int) (g : Bool) (hs : s = 2 ∨ s = 4 ∨ s = 8) (k : Nat) (hk : 1 ≤ k) : leb_Fits.f k x (wrap64 (8 * s)) g = some (fitsV x s g) := by
  obtain ⟨k, rfl⟩ : ∃ m, k = m + 1 := ⟨k - 1, by omega⟩
  have w15 : wrap64 (16 - 1) = 15 := by decide +kernel
  have w31 : wrap64 (32 - 1) = 31 := by decide +kernel
  have e2 : wrap64 (8 * 2) = 16 := by decide +kernel
  have e4 : wrap64 (8 * 4) = 32 := by decide +kernel
  have e8 : wrap64 (8 * 8) = 64 := by decide +kernel
  unfold leb_Fits.f
  rcases hs with rfl | rfl | rfl
  · rw [e2, if_neg (by decide), leb_Fits.j0, if_neg (by decide)]
    cases g
    · rw [if_neg (by decide), if_neg (show ¬ (16 : Int) ≥ 63 by decide), if_pos (show (0 : Int) ≤ 16 by decide), sh16]
      exact dec_ite' x _
    · rw [if_pos rfl, if_neg (by decide), w15, if_pos (by decide), sn15, sh15]
      exact dec_ite x _ _
  · rw [e4, if_neg (by decide), leb_Fits.j0, if_neg (by decide)]
    cases g
    · rw [if_neg (by decide), if_neg (show ¬ (32 : Int) ≥ 63 by decide), if_pos (show (0 : Int) ≤ 32 by decide), sh32]
      exact dec_ite' x _
    · rw [if_pos rfl, if_neg (by decide), w31, if_pos (by decide), sn31, sh31]
      exact dec_ite x _ _
  · rw [e8, if_neg (by decide), leb_Fits.j0, if_neg (by decide)]
    cases g
    · rw [if_neg (by decide), if_pos (show (64 : Int) ≥ 63 by decide)]
      exact dec_ite3 x
    · rw [if_pos rfl, if_pos (by decide)]
      rfl
def tailS (s : Int) (g : Bool) (x : Int) : List Int × Int :=
  if farB x = true ∨ (g = false ∧ x < 0) then ([], 11)
  else if s = 0 then (if g = true then (slebL x, 0) else (ulebL (x % 18446744073709551616).toNat, 0))
  else if fitsV x s g = true then (leB (x % 18446744073709551616) s.toNat, 0) else ([], 11)
def putS (s : Int) (g : Bool) (q v at_ data : Int) : List Int × Int :=
  if farB v = true ∨ farB at_ = true ∨ farB data = true then ([], 11) else tailS s g (wrap64 (v - offV q at_ data))
theorem leB_take (n : Nat) : ∀ (m : Nat) (u : Int), n ≤ m → (leB u m).take n = leB u n := by
  induction n with
  | zero => intro m u _; simp [leB]
  | succ n ih =>
    intro m u h
    obtain ⟨m, rfl⟩ : ∃ j, m = j + 1 := ⟨m - 1, by omega⟩
    simp only [leB, List.take_succ_cons]
    rw [ih m _ (by omega)]
theorem tail_f (s : Int) (g : Bool) (x : Int) (hs : s = 0 ∨ s = 2 ∨ s = 4 ∨ s = 8) (k : Nat) (hk : 20 ≤ k) : ehframe_Put.j0 k x s g = some (tailS s g x) := by
  obtain ⟨k, rfl⟩ : ∃ m, k = m + 3 := ⟨k - 3, by omega⟩
  unfold tailS
  rw [ehframe_Put.j0, near1 x (k + 2) (by omega)]
  simp only [Option.bind_some]
  cases hf : farB x
  · simp only [Bool.not_false, if_true, false_or]
    have hr := far_no hf
    have hb : ∀ b : Bool, b = false → ehframe_Put.j1 (k + 2) x b s g = if s = 0 then (if g = true then some (slebL x, 0) else some (ulebL (x % 18446744073709551616).toNat, 0)) else if fitsV x s g = true then some (leB (x % 18446744073709551616) s.toNat, 0) else some ([], 11) := by
      intro b hb
      subst hb
      rw [ehframe_Put.j1, if_neg (by decide)]
      by_cases s0 : s = 0
      · rw [if_pos s0, if_pos s0, ehframe_Put.j2]
        cases g
        · rw [if_neg (by decide), if_pos s0, uleb_f x k (by omega)]
          rfl
        · rw [if_pos rfl, sleb_f x (by omega) (by omega) k (by omega)]
          rfl
      · have hs' : s = 2 ∨ s = 4 ∨ s = 8 := by omega
        rw [if_neg s0, if_neg s0, ehframe_Put.j2, if_neg (by decide), if_neg s0, fits_f x s g hs' k (by omega)]
        simp only [Option.bind_some]
        cases hfi : fitsV x s g
        · rfl
        · rw [if_pos rfl, if_pos rfl, put_f x 8 k (by omega), show putV x 8 = (leB (x % 18446744073709551616) 8, 0) from by simp [putV, sizedB]]
          simp only [Option.bind_some]
          rw [if_pos (by omega), if_pos (by rw [leB_length]; omega), leB_take _ _ _ (by omega)]
    cases g
    · simp only [Bool.false_eq_true, if_false, true_and, false_or]
      by_cases hx : x < 0
      · rw [if_pos hx, decide_eq_true hx, ehframe_Put.j1, if_pos rfl]
      · rw [if_neg hx, decide_eq_false hx, hb false rfl]
        simp only [Bool.false_eq_true, if_false]
        split
        · rfl
        · split <;> rfl
    · simp only [if_true, Bool.true_eq_false, false_and, if_false]
      rw [hb false rfl]
      simp only [if_true]
      split
      · rfl
      · split <;> rfl
  · simp only [Bool.not_true, Bool.false_eq_true, if_false, true_or, if_true]
    rw [ehframe_Put.j1, if_pos rfl]
theorem prog_put {a0 s q : Int} {g : Bool} (hof : ofF a0 = (s, g, q, true)) (hs : s = 0 ∨ s = 2 ∨ s = 4 ∨ s = 8) (v at_ data : Int) (hv : -9223372036854775808 ≤ v ∧ v ≤ 9223372036854775807) (k : Nat) (hk : 20 ≤ k) :
    ehframe_Put.f k a0 v at_ data = some (putS s g q v at_ data) := by
  unfold ehframe_Put.f putS
  rw [show ehframe_of.f a0 = some (s, g, q, true) from congrArg some hof]
  simp only [Option.bind_some, if_true]
  rw [near3 v at_ data k (by omega)]
  simp only [Option.bind_some]
  by_cases hf : farB v = true ∨ farB at_ = true ∨ farB data = true
  · rw [if_pos hf, if_neg (by rcases hf with h | h | h <;> simp [h])]
  · have hf' : farB v = false ∧ farB at_ = false ∧ farB data = false := by
      refine ⟨?_, ?_, ?_⟩ <;> (rw [← Bool.not_eq_true]; intro h; exact hf (by simp [h]))
    rw [if_neg hf, if_pos (by simp [hf'.1, hf'.2.1, hf'.2.2])]
    unfold offV
    by_cases q1 : q = 16
    · rw [if_pos q1, if_pos q1, tail_f s g _ hs k hk]
    · rw [if_neg q1, if_neg q1]
      by_cases q2 : q = 48
      · rw [if_pos q2, if_pos q2, tail_f s g _ hs k hk]
      · rw [if_neg q2, if_neg q2, tail_f s g _ hs k hk, show wrap64 (v - 0) = v from by unfold wrap64; omega]
theorem enc_good (a0 : Int) (h : ∃ s q g, ofF a0 = (s, g, q, true)) : a0 ∈ [0, 1, 2, 3, 4, 9, 10, 11, 12, 16, 17, 18, 19, 20, 25, 26, 27, 28, 48, 49, 50, 51, 52, 57, 58, 59, 60] := by
  obtain ⟨s, q, g, h⟩ := h
  unfold ofF at h
  split at h
  · cases h
  · split at h
    · cases h
    · rename_i h1 h2
      have h3 := congrArg (fun p => p.2.2.2) h
      simp only at h3
      unfold formOf at h3
      simp only [List.mem_cons, List.not_mem_nil, or_false]
      have hm : a0 % 16 = 0 ∨ a0 % 16 = 1 ∨ a0 % 16 = 2 ∨ a0 % 16 = 3 ∨ a0 % 16 = 4 ∨ a0 % 16 = 9 ∨ a0 % 16 = 10 ∨ a0 % 16 = 11 ∨ a0 % 16 = 12 := by
        repeat' split at h3
        all_goals (first | omega | cases h3)
      omega
theorem enc_size (a0 : Int) (h : a0 ∈ [0, 1, 2, 3, 4, 9, 10, 11, 12, 16, 17, 18, 19, 20, 25, 26, 27, 28, 48, 49, 50, 51, 52, 57, 58, 59, 60]) : ofF a0 = ((ofF a0).1, (ofF a0).2.1, (ofF a0).2.2.1, true) ∧ ((ofF a0).1 = 0 ∨ (ofF a0).1 = 2 ∨ (ofF a0).1 = 4 ∨ (ofF a0).1 = 8) ∧ (wrap64 (wrap64 (Int.tdiv a0 16) * 16) = (ofF a0).2.2.1) := by
  simp only [List.mem_cons, List.not_mem_nil, or_false] at h
  rcases h with rfl | rfl | rfl | rfl | rfl | rfl | rfl | rfl | rfl | rfl | rfl | rfl | rfl | rfl | rfl | rfl | rfl | rfl | rfl | rfl | rfl | rfl | rfl | rfl | rfl | rfl | rfl
  all_goals exact ⟨by decide +kernel, by decide +kernel, by decide +kernel⟩
end Go.Proofs.Ytfgfnflhdabmcaa.Eh
end
section
namespace Go.Proofs.Ytfgfnflhdabmcaa.G
open Go.RowKit Go.Proofs.YtfgfnflhdabmcaaW.PrintWords Go.Proofs.YtfgfnflhdabmcaaW.PrintLast Go.Proofs.YtfgfnflhdabmcaaW.PrintMore
attribute [local go_sem] max2_int min2_int max_two min_two max_three min_three max_four min_four
mutual
def gangwayref14_bytes.j0 : Nat → Int → Bool → Option (Int)
  | 0, _, _ => none
  | k + 1, x3, x4 => if x4 = true then (some 8) else (if x3 = 3 then (gangwayref14_bytes.j1 k x3 (x3 == 3)) else (gangwayref14_bytes.j1 k x3 (x3 == 11)))
def gangwayref14_bytes.j1 : Nat → Int → Bool → Option (Int)
  | 0, _, _ => none
  | k + 1, x3, x8 => if x8 = true then (some 4) else (if x3 = 2 then (gangwayref14_bytes.j2 k x3 (x3 == 2)) else (gangwayref14_bytes.j2 k x3 (x3 == 10)))
def gangwayref14_bytes.j2 : Nat → Int → Bool → Option (Int)
  | 0, _, _ => none
  | k + 1, x3, x11 => if x11 = true then (some 2) else (if x3 = 1 then (some 0) else (if x3 = 9 then (some 0) else (some (-1))))
end
def gangwayref14_bytes.f (k : Nat) (a0 : Int) : Option (Int) := if a0 = 0 then (gangwayref14_bytes.j0 k a0 (a0 == 0)) else (if a0 = 4 then (gangwayref14_bytes.j0 k a0 (a0 == 4)) else (gangwayref14_bytes.j0 k a0 (a0 == 12)))
theorem gangwayref14_bytes.mono_l : ∀ k, (∀ y0 y1, LeO (gangwayref14_bytes.j0 k y0 y1) (gangwayref14_bytes.j0 (k + 1) y0 y1)) ∧ (∀ y0 y1, LeO (gangwayref14_bytes.j1 k y0 y1) (gangwayref14_bytes.j1 (k + 1) y0 y1)) ∧ (∀ y0 y1, LeO (gangwayref14_bytes.j2 k y0 y1) (gangwayref14_bytes.j2 (k + 1) y0 y1))
  | 0 => ⟨fun _ _ r h => by simp [gangwayref14_bytes.j0] at h, fun _ _ r h => by simp [gangwayref14_bytes.j1] at h, fun _ _ r h => by simp [gangwayref14_bytes.j2] at h⟩
  | k + 1 => by
    obtain ⟨ih0, ih1, ih2⟩ := gangwayref14_bytes.mono_l k
    refine ⟨?_, ?_, ?_⟩
    · intro y0 y1
      unfold gangwayref14_bytes.j0
      repeat' first
      | (with_reducible exact ih0 _ _)
      | (with_reducible exact ih1 _ _)
      | (with_reducible exact ih2 _ _)
      | (with_reducible exact LeO.refl _)
      | (with_reducible exact LeO.none _)
      | (with_reducible refine LeO.ite ?_ ?_)
      | (with_reducible refine LeO.bind ?_ (fun _ => ?_))
      | exact ih0 _ _
      | exact ih1 _ _
      | exact ih2 _ _
      | exact LeO.none _
      | refine LeO.ite ?_ ?_
      | refine LeO.bind ?_ (fun _ => ?_)
    · intro y0 y1
      unfold gangwayref14_bytes.j1
      repeat' first
      | (with_reducible exact ih0 _ _)
      | (with_reducible exact ih1 _ _)
      | (with_reducible exact ih2 _ _)
      | (with_reducible exact LeO.refl _)
      | (with_reducible exact LeO.none _)
      | (with_reducible refine LeO.ite ?_ ?_)
      | (with_reducible refine LeO.bind ?_ (fun _ => ?_))
      | exact ih0 _ _
      | exact ih1 _ _
      | exact ih2 _ _
      | exact LeO.none _
      | refine LeO.ite ?_ ?_
      | refine LeO.bind ?_ (fun _ => ?_)
    · intro y0 y1
      unfold gangwayref14_bytes.j2
      repeat' first
      | (with_reducible exact ih0 _ _)
      | (with_reducible exact ih1 _ _)
      | (with_reducible exact ih2 _ _)
      | (with_reducible exact LeO.refl _)
      | (with_reducible exact LeO.none _)
      | (with_reducible refine LeO.ite ?_ ?_)
      | (with_reducible refine LeO.bind ?_ (fun _ => ?_))
      | exact ih0 _ _
      | exact ih1 _ _
      | exact ih2 _ _
      | exact LeO.none _
      | refine LeO.ite ?_ ?_
      | refine LeO.bind ?_ (fun _ => ?_)
theorem gangwayref14_bytes.mono : ∀ a0 k, LeO (gangwayref14_bytes.f k a0) (gangwayref14_bytes.f (k + 1) a0) := by
 intro a0 k
 obtain ⟨ih0, ih1, ih2⟩ := gangwayref14_bytes.mono_l k
 unfold gangwayref14_bytes.f
 repeat' first
     | (with_reducible exact ih0 _ _)
     | (with_reducible exact ih1 _ _)
     | (with_reducible exact ih2 _ _)
     | (with_reducible exact LeO.refl _)
     | (with_reducible exact LeO.none _)
     | (with_reducible refine LeO.ite ?_ ?_)
     | (with_reducible refine LeO.bind ?_ (fun _ => ?_))
     | exact ih0 _ _
     | exact ih1 _ _
     | exact ih2 _ _
     | exact LeO.none _
     | refine LeO.ite ?_ ?_
     | refine LeO.bind ?_ (fun _ => ?_)
set_option maxHeartbeats 8000000 in
theorem gangwayref14_bytes.calls (k : Nat) (a0 : Int) (r : Int) (w : World) (h : gangwayref14_bytes.f k a0 = some r) :
    Calls Try.prog 42 #[.int .i64 a0] w fun e w' => e = .returned (.int .i64 r) ∧ Drawn0 w w' := by
 have H : (if a0 = 0 then (gangwayref14_bytes.j0 k a0 (a0 == 0)) else (if a0 = 4 then (gangwayref14_bytes.j0 k a0 (a0 == 4)) else (gangwayref14_bytes.j0 k a0 (a0 == 12)))) = some r := h
 clear h
 have HC2 := am H
 clear H
 go_enter Try.func42, Try.ntmps42
 go_upto_if 4 with (fail)
 go_cut [4] (fun v4 wc => ∃ (kq : Nat) (x4_1 : Bool), v4 = .bool x4_1 ∧ Aside0 (gangwayref14_bytes.j0 kq a0 x4_1 = some r) ∧ Aside0 (kq ≤ k) ∧ Drawn0 w wc)
 case first =>
  have H := HC2.out
  clear HC2
  by_cases c3 : a0 = 0
  ·
   rw [if_pos c3] at H
   have c3b0 : (a0 == 0) = true := beq_iff_eq.mpr c3
   have c3b1 : (a0 != 0) = false := bne_eq_false_iff_eq.mpr c3
   clear c3
   (first | rw [c3b0] | (simp only [i64_w, i32_w]; rw [c3b0]) | skip)
   have H' := am H
   clear H
   go_wp2
   go_meet
   case rel => exact ⟨_, ((a0 == 0)), (by first | rfl | (simp; done) | (simp [*]; done)), H', ⟨by first | omega | exact Nat.le_refl _⟩, by repeat (first | exact Drawn0.refl _ | apply Drawn0.step)⟩
  rw [if_neg c3] at H
  have c3b0 : (a0 == 0) = false := beq_eq_false_iff_ne.mpr c3
  have c3b1 : (a0 != 0) = true := bne_iff_ne.mpr c3
  (first | rw [c3b0] | (simp only [i64_w, i32_w]; rw [c3b0]) | skip)
  by_cases c4 : a0 = 4
  ·
   rw [if_pos c4] at H
   have c4b0 : (a0 == 4) = true := beq_iff_eq.mpr c4
   have c4b1 : (a0 != 4) = false := bne_eq_false_iff_eq.mpr c4
   clear c4
   have H' := am H
   clear H
   go_wp2
   go_meet
   case rel => exact ⟨_, ((a0 == 4)), (by first | rfl | (simp; done) | (simp [*]; done)), H', ⟨by first | omega | exact Nat.le_refl _⟩, by repeat (first | exact Drawn0.refl _ | apply Drawn0.step)⟩
  rw [if_neg c4] at H
  have c4b0 : (a0 == 4) = false := beq_eq_false_iff_ne.mpr c4
  have c4b1 : (a0 != 4) = true := bne_iff_ne.mpr c4
  have H' := am H
  clear H
  go_wp2
  go_meet
  case rel => exact ⟨_, ((a0 == 12)), (by first | rfl | (simp; done) | (simp [*]; done)), H', ⟨by first | omega | exact Nat.le_refl _⟩, by repeat (first | exact Drawn0.refl _ | apply Drawn0.step)⟩
 case rest =>
  clear HC2
  try clear p2
  try clear c3
  try clear c3b0
  try clear c3b1
  try clear c4
  try clear c4b0
  try clear c4b1
  obtain ⟨kq, x4_1, rfl, HA, HJ1, ⟨mc1, rfl⟩⟩ := hcut
  cases kq with
  | zero => exact absurd HA.out (by simp [gangwayref14_bytes.j0])
  | succ kj1 =>
   have H := HA.out
   clear HA
   simp only [gangwayref14_bytes.j0] at H
   by_cases c5 : x4_1 = true
   ·
    subst c5
    replace H : (some 8) = some r := by rw [if_pos rfl] at H; exact H
    obtain rfl := Option.some.inj H
    go_wp2
    go_ret
    exact ⟨by first | rfl | (simp; done) | (simp [*]; done), by repeat (first | exact Drawn0.refl _ | apply Drawn0.step)⟩
   replace c5 := Bool.eq_false_iff.mpr c5
   subst c5
   replace H : (if a0 = 3 then (gangwayref14_bytes.j1 kj1 a0 (a0 == 3)) else (gangwayref14_bytes.j1 kj1 a0 (a0 == 11))) = some r := by rw [if_neg (show ¬ (false = true) by decide)] at H; exact H
   have HC6 := am H
   clear H
   go_upto_if 8 with (fail)
   go_cut [8] (fun v8 wc => ∃ (kq : Nat) (x8_5 : Bool), v8 = .bool x8_5 ∧ Aside0 (gangwayref14_bytes.j1 kq a0 x8_5 = some r) ∧ Aside0 (kq ≤ kj1) ∧ Drawn0 w wc)
   case first =>
    have H := HC6.out
    clear HC6
    by_cases c7 : a0 = 3
    ·
     rw [if_pos c7] at H
     have c7b0 : (a0 == 3) = true := beq_iff_eq.mpr c7
     have c7b1 : (a0 != 3) = false := bne_eq_false_iff_eq.mpr c7
     clear c7
     (first | rw [c7b0] | (simp only [i64_w, i32_w]; rw [c7b0]) | skip)
     have H' := am H
     clear H
     go_wp2
     go_meet
     case rel => exact ⟨_, ((a0 == 3)), (by first | rfl | (simp; done) | (simp [*]; done)), H', ⟨by have := HJ1.out; first | omega | exact Nat.le_refl _⟩, by repeat (first | exact Drawn0.refl _ | apply Drawn0.step)⟩
    rw [if_neg c7] at H
    have c7b0 : (a0 == 3) = false := beq_eq_false_iff_ne.mpr c7
    have c7b1 : (a0 != 3) = true := bne_iff_ne.mpr c7
    (first | rw [c7b0] | (simp only [i64_w, i32_w]; rw [c7b0]) | skip)
    have H' := am H
    clear H
    go_wp2
    go_meet
    case rel => exact ⟨_, ((a0 == 11)), (by first | rfl | (simp; done) | (simp [*]; done)), H', ⟨by have := HJ1.out; first | omega | exact Nat.le_refl _⟩, by repeat (first | exact Drawn0.refl _ | apply Drawn0.step)⟩
   case rest =>
    clear HC6
    try clear c1
    try clear p2
    try clear c3
    try clear c3b0
    try clear c3b1
    try clear c4
    try clear c4b0
    try clear c4b1
    try clear c5
    try clear c7
    try clear c7b0
    try clear c7b1
    try clear p2
    obtain ⟨kq, x8_5, rfl, HA, HJ5, ⟨mc5, rfl⟩⟩ := hcut
    cases kq with
    | zero => exact absurd HA.out (by simp [gangwayref14_bytes.j1])
    | succ kj5 =>
     have H := HA.out
     clear HA
     simp only [gangwayref14_bytes.j1] at H
     by_cases c8 : x8_5 = true
     ·
      subst c8
      replace H : (some 4) = some r := by rw [if_pos rfl] at H; exact H
      obtain rfl := Option.some.inj H
      go_wp2
      go_ret
      exact ⟨by first | rfl | (simp; done) | (simp [*]; done), by repeat (first | exact Drawn0.refl _ | apply Drawn0.step)⟩
     replace c8 := Bool.eq_false_iff.mpr c8
     subst c8
     replace H : (if a0 = 2 then (gangwayref14_bytes.j2 kj5 a0 (a0 == 2)) else (gangwayref14_bytes.j2 kj5 a0 (a0 == 10))) = some r := by rw [if_neg (show ¬ (false = true) by decide)] at H; exact H
     have HC9 := am H
     clear H
     go_upto_if 11 with (fail)
     go_cut [11] (fun v11 wc => ∃ (kq : Nat) (x11_8 : Bool), v11 = .bool x11_8 ∧ Aside0 (gangwayref14_bytes.j2 kq a0 x11_8 = some r) ∧ Aside0 (kq ≤ kj5) ∧ Drawn0 w wc)
     case first =>
      have H := HC9.out
      clear HC9
      by_cases c10 : a0 = 2
      ·
       rw [if_pos c10] at H
       have c10b0 : (a0 == 2) = true := beq_iff_eq.mpr c10
       have c10b1 : (a0 != 2) = false := bne_eq_false_iff_eq.mpr c10
       clear c10
       (first | rw [c10b0] | (simp only [i64_w, i32_w]; rw [c10b0]) | skip)
       have H' := am H
       clear H
       go_wp2
       go_meet
       case rel => exact ⟨_, ((a0 == 2)), (by first | rfl | (simp; done) | (simp [*]; done)), H', ⟨by have := HJ1.out; have := HJ5.out; first | omega | exact Nat.le_refl _⟩, by repeat (first | exact Drawn0.refl _ | apply Drawn0.step)⟩
      rw [if_neg c10] at H
      have c10b0 : (a0 == 2) = false := beq_eq_false_iff_ne.mpr c10
      have c10b1 : (a0 != 2) = true := bne_iff_ne.mpr c10
      (first | rw [c10b0] | (simp only [i64_w, i32_w]; rw [c10b0]) | skip)
      have H' := am H
      clear H
      go_wp2
      go_meet
      case rel => exact ⟨_, ((a0 == 10)), (by first | rfl | (simp; done) | (simp [*]; done)), H', ⟨by have := HJ1.out; have := HJ5.out; first | omega | exact Nat.le_refl _⟩, by repeat (first | exact Drawn0.refl _ | apply Drawn0.step)⟩
     case rest =>
      clear HC9
      try clear c1
      try clear p2
      try clear c3
      try clear c3b0
      try clear c3b1
      try clear c4
      try clear c4b0
      try clear c4b1
      try clear c5
      try clear c7
      try clear c7b0
      try clear c7b1
      try clear c8
      try clear c10
      try clear c10b0
      try clear c10b1
      try clear p2
      obtain ⟨kq, x11_8, rfl, HA, HJ8, ⟨mc8, rfl⟩⟩ := hcut
      cases kq with
      | zero => exact absurd HA.out (by simp [gangwayref14_bytes.j2])
      | succ kj8 =>
       have H := HA.out
       clear HA
       simp only [gangwayref14_bytes.j2] at H
       by_cases c11 : x11_8 = true
       ·
        subst c11
        replace H : (some 2) = some r := by rw [if_pos rfl] at H; exact H
        obtain rfl := Option.some.inj H
        go_wp2
        go_ret
        exact ⟨by first | rfl | (simp; done) | (simp [*]; done), by repeat (first | exact Drawn0.refl _ | apply Drawn0.step)⟩
       replace c11 := Bool.eq_false_iff.mpr c11
       subst c11
       replace H : (if a0 = 1 then (some 0) else (if a0 = 9 then (some 0) else (some (-1)))) = some r := by rw [if_neg (show ¬ (false = true) by decide)] at H; exact H
       by_cases c12 : a0 = 1
       ·
        rw [if_pos c12] at H
        have c12b0 : (a0 == 1) = true := beq_iff_eq.mpr c12
        have c12b1 : (a0 != 1) = false := bne_eq_false_iff_eq.mpr c12
        clear c12
        obtain rfl := Option.some.inj H
        go_wp2
        go_ret
        exact ⟨by first | rfl | (simp; done) | (simp [*]; done), by repeat (first | exact Drawn0.refl _ | apply Drawn0.step)⟩
       rw [if_neg c12] at H
       have c12b0 : (a0 == 1) = false := beq_eq_false_iff_ne.mpr c12
       have c12b1 : (a0 != 1) = true := bne_iff_ne.mpr c12
       by_cases c13 : a0 = 9
       ·
        rw [if_pos c13] at H
        have c13b0 : (a0 == 9) = true := beq_iff_eq.mpr c13
        have c13b1 : (a0 != 9) = false := bne_eq_false_iff_eq.mpr c13
        clear c13
        obtain rfl := Option.some.inj H
        go_wp2
        go_ret
        exact ⟨by first | rfl | (simp; done) | (simp [*]; done), by repeat (first | exact Drawn0.refl _ | apply Drawn0.step)⟩
       rw [if_neg c13] at H
       have c13b0 : (a0 == 9) = false := beq_eq_false_iff_ne.mpr c13
       have c13b1 : (a0 != 9) = true := bne_iff_ne.mpr c13
       obtain rfl := Option.some.inj H
       go_wp2
       go_ret
       exact ⟨by first | rfl | (simp; done) | (simp [*]; done), by repeat (first | exact Drawn0.refl _ | apply Drawn0.step)⟩
def gangwayref14_Encoding.f (k : Nat) (a0 : Int) : Option (Bool) := if a0 < 0 then (some false) else ((gangwayref14_bytes.f k (Int.tmod a0 16)).bind fun t101 => (if t101 < 0 then (some false) else (if (wrap64 ((wrap64 (Int.tdiv a0 16)) * 16)) = 0 then (some true) else (if (wrap64 ((wrap64 (Int.tdiv a0 16)) * 16)) = 16 then (some true) else (some ((wrap64 ((wrap64 (Int.tdiv a0 16)) * 16)) == 48))))))
theorem gangwayref14_Encoding.mono : ∀ a0 k, LeO (gangwayref14_Encoding.f k a0) (gangwayref14_Encoding.f (k + 1) a0) := by
 intro a0 k
 unfold gangwayref14_Encoding.f
 repeat' first
     | (with_reducible exact gangwayref14_bytes.mono _ _)
     | (with_reducible exact LeO.refl _)
     | (with_reducible exact LeO.none _)
     | (with_reducible refine LeO.ite ?_ ?_)
     | (with_reducible refine LeO.bind ?_ (fun _ => ?_))
     | exact gangwayref14_bytes.mono _ _
     | exact LeO.none _
     | refine LeO.ite ?_ ?_
     | refine LeO.bind ?_ (fun _ => ?_)
set_option maxHeartbeats 8000000 in
theorem gangwayref14_Encoding.calls (k : Nat) (a0 : Int) (r : Bool) (w : World) (h : gangwayref14_Encoding.f k a0 = some r) :
    Calls Try.prog 32 #[.int .i64 a0] w fun e w' => e = .returned (.bool r) ∧ Drawn0 w w' := by
 have H : (if a0 < 0 then (some false) else ((gangwayref14_bytes.f k (Int.tmod a0 16)).bind fun t101 => (if t101 < 0 then (some false) else (if (wrap64 ((wrap64 (Int.tdiv a0 16)) * 16)) = 0 then (some true) else (if (wrap64 ((wrap64 (Int.tdiv a0 16)) * 16)) = 16 then (some true) else (some ((wrap64 ((wrap64 (Int.tdiv a0 16)) * 16)) == 48))))))) = some r := h
 clear h
 by_cases c2 : a0 < 0
 ·
  rw [if_pos c2] at H
  have c2b0 : decide (a0 < 0) = true := decide_eq_true c2
  clear c2
  obtain rfl := Option.some.inj H
  go_enter Try.func32, Try.ntmps32
  go_wp2
  go_ret
  exact ⟨by first | rfl | (simp; done) | (simp [*]; done), by repeat (first | exact Drawn0.refl _ | apply Drawn0.step)⟩
 rw [if_neg c2] at H
 have c2b0 : decide (a0 < 0) = false := decide_eq_false c2
 clear c2
 replace H := Option.bind_eq_some_iff.mp H
 obtain ⟨t101, A30, H⟩ := H
 replace H : (if t101 < 0 then (some false) else (if (wrap64 ((wrap64 (Int.tdiv a0 16)) * 16)) = 0 then (some true) else (if (wrap64 ((wrap64 (Int.tdiv a0 16)) * 16)) = 16 then (some true) else (some ((wrap64 ((wrap64 (Int.tdiv a0 16)) * 16)) == 48))))) = some r := H
 have A3 := am A30
 clear A30
 by_cases c4 : t101 < 0
 ·
  rw [if_pos c4] at H
  have c4b0 : decide (t101 < 0) = true := decide_eq_true c4
  clear c4
  obtain rfl := Option.some.inj H
  go_enter Try.func32, Try.ntmps32
  go_wp2_with (first | (go_at_call 42; (with_reducible refine (gangwayref14_bytes.calls k (Int.tmod a0 16) t101 _ A3.out).mono ?_); rintro e w' ⟨rfl, ⟨nd, rfl⟩⟩))
  go_ret
  exact ⟨by first | rfl | (simp; done) | (simp [*]; done), by repeat (first | exact Drawn0.refl _ | apply Drawn0.step)⟩
 rw [if_neg c4] at H
 have c4b0 : decide (t101 < 0) = false := decide_eq_false c4
 clear c4
 by_cases c5 : (wrap64 ((wrap64 (Int.tdiv a0 16)) * 16)) = 0
 ·
  rw [if_pos c5] at H
  have c5b0 : ((wrap64 ((wrap64 (Int.tdiv a0 16)) * 16)) == 0) = true := beq_iff_eq.mpr c5
  have c5b1 : ((wrap64 ((wrap64 (Int.tdiv a0 16)) * 16)) != 0) = false := bne_eq_false_iff_eq.mpr c5
  clear c5
  obtain rfl := Option.some.inj H
  go_enter Try.func32, Try.ntmps32
  go_wp2_with (first | (go_at_call 42; (with_reducible refine (gangwayref14_bytes.calls k (Int.tmod a0 16) t101 _ A3.out).mono ?_); rintro e w' ⟨rfl, ⟨nd, rfl⟩⟩))
  go_ret
  exact ⟨by first | rfl | (simp; done) | (simp [*]; done), by repeat (first | exact Drawn0.refl _ | apply Drawn0.step)⟩
 rw [if_neg c5] at H
 have c5b0 : ((wrap64 ((wrap64 (Int.tdiv a0 16)) * 16)) == 0) = false := beq_eq_false_iff_ne.mpr c5
 have c5b1 : ((wrap64 ((wrap64 (Int.tdiv a0 16)) * 16)) != 0) = true := bne_iff_ne.mpr c5
 by_cases c6 : (wrap64 ((wrap64 (Int.tdiv a0 16)) * 16)) = 16
 ·
  rw [if_pos c6] at H
  have c6b0 : ((wrap64 ((wrap64 (Int.tdiv a0 16)) * 16)) == 16) = true := beq_iff_eq.mpr c6
  have c6b1 : ((wrap64 ((wrap64 (Int.tdiv a0 16)) * 16)) != 16) = false := bne_eq_false_iff_eq.mpr c6
  clear c6
  obtain rfl := Option.some.inj H
  go_enter Try.func32, Try.ntmps32
  go_wp2_with (first | (go_at_call 42; (with_reducible refine (gangwayref14_bytes.calls k (Int.tmod a0 16) t101 _ A3.out).mono ?_); rintro e w' ⟨rfl, ⟨nd, rfl⟩⟩))
  go_ret
  exact ⟨by first | rfl | (simp; done) | (simp [*]; done), by repeat (first | exact Drawn0.refl _ | apply Drawn0.step)⟩
 rw [if_neg c6] at H
 have c6b0 : ((wrap64 ((wrap64 (Int.tdiv a0 16)) * 16)) == 16) = false := beq_eq_false_iff_ne.mpr c6
 have c6b1 : ((wrap64 ((wrap64 (Int.tdiv a0 16)) * 16)) != 16) = true := bne_iff_ne.mpr c6
 obtain rfl := Option.some.inj H
 go_enter Try.func32, Try.ntmps32
 go_wp2_with (first | (go_at_call 42; (with_reducible refine (gangwayref14_bytes.calls k (Int.tmod a0 16) t101 _ A3.out).mono ?_); rintro e w' ⟨rfl, ⟨nd, rfl⟩⟩))
 go_ret
 exact ⟨by first | rfl | (simp; done) | (simp [*]; done), by repeat (first | exact Drawn0.refl _ | apply Drawn0.step)⟩
def gangwayref14_far.f (a0 : Int) : Option (Bool) := if a0 < (-1152921504606846976) then (some true) else (some (decide (a0 > 1152921504606846976)))
set_option maxHeartbeats 8000000 in
theorem gangwayref14_far.calls (a0 : Int) (r : Bool) (w : World) (h : gangwayref14_far.f a0 = some r) :
    Calls Try.prog 33 #[.int .i64 a0] w fun e w' => e = .returned (.bool r) ∧ Drawn0 w w' := by
 have H : (if a0 < (-1152921504606846976) then (some true) else (some (decide (a0 > 1152921504606846976)))) = some r := h
 clear h
 by_cases c2 : a0 < (-1152921504606846976)
 ·
  rw [if_pos c2] at H
  have c2b0 : decide (a0 < (-1152921504606846976)) = true := decide_eq_true c2
  clear c2
  obtain rfl := Option.some.inj H
  go_enter Try.func33, Try.ntmps33
  go_wp2
  go_ret
  exact ⟨by first | rfl | (simp; done) | (simp [*]; done), by repeat (first | exact Drawn0.refl _ | apply Drawn0.step)⟩
 rw [if_neg c2] at H
 have c2b0 : decide (a0 < (-1152921504606846976)) = false := decide_eq_false c2
 clear c2
 obtain rfl := Option.some.inj H
 go_enter Try.func33, Try.ntmps33
 go_wp2
 go_ret
 exact ⟨by first | rfl | (simp; done) | (simp [*]; done), by repeat (first | exact Drawn0.refl _ | apply Drawn0.step)⟩
def gangwayref14_off.f (a0 : Int) (a1 : Int) (a2 : Int) : Option (Int) := if (wrap64 ((wrap64 (Int.tdiv a0 16)) * 16)) = 16 then (some a1) else (if (wrap64 ((wrap64 (Int.tdiv a0 16)) * 16)) = 48 then (some a2) else (some 0))
set_option maxHeartbeats 8000000 in
theorem gangwayref14_off.calls (a0 : Int) (a1 : Int) (a2 : Int) (r : Int) (w : World) (h : gangwayref14_off.f a0 a1 a2 = some r) :
    Calls Try.prog 41 #[.int .i64 a0, .int .i64 a1, .int .i64 a2] w fun e w' => e = .returned (.int .i64 r) ∧ Drawn0 w w' := by
 have H : (if (wrap64 ((wrap64 (Int.tdiv a0 16)) * 16)) = 16 then (some a1) else (if (wrap64 ((wrap64 (Int.tdiv a0 16)) * 16)) = 48 then (some a2) else (some 0))) = some r := h
 clear h
 by_cases c4 : (wrap64 ((wrap64 (Int.tdiv a0 16)) * 16)) = 16
 ·
  rw [if_pos c4] at H
  have c4b0 : ((wrap64 ((wrap64 (Int.tdiv a0 16)) * 16)) == 16) = true := beq_iff_eq.mpr c4
  have c4b1 : ((wrap64 ((wrap64 (Int.tdiv a0 16)) * 16)) != 16) = false := bne_eq_false_iff_eq.mpr c4
  clear c4
  obtain rfl := Option.some.inj H
  go_enter Try.func41, Try.ntmps41
  go_wp2
  go_ret
  exact ⟨by first | rfl | (simp; done) | (simp [*]; done), by repeat (first | exact Drawn0.refl _ | apply Drawn0.step)⟩
 rw [if_neg c4] at H
 have c4b0 : ((wrap64 ((wrap64 (Int.tdiv a0 16)) * 16)) == 16) = false := beq_eq_false_iff_ne.mpr c4
 have c4b1 : ((wrap64 ((wrap64 (Int.tdiv a0 16)) * 16)) != 16) = true := bne_iff_ne.mpr c4
 by_cases c5 : (wrap64 ((wrap64 (Int.tdiv a0 16)) * 16)) = 48
 ·
  rw [if_pos c5] at H
  have c5b0 : ((wrap64 ((wrap64 (Int.tdiv a0 16)) * 16)) == 48) = true := beq_iff_eq.mpr c5
  have c5b1 : ((wrap64 ((wrap64 (Int.tdiv a0 16)) * 16)) != 48) = false := bne_eq_false_iff_eq.mpr c5
  clear c5
  obtain rfl := Option.some.inj H
  go_enter Try.func41, Try.ntmps41
  go_wp2
  go_ret
  exact ⟨by first | rfl | (simp; done) | (simp [*]; done), by repeat (first | exact Drawn0.refl _ | apply Drawn0.step)⟩
 rw [if_neg c5] at H
 have c5b0 : ((wrap64 ((wrap64 (Int.tdiv a0 16)) * 16)) == 48) = false := beq_eq_false_iff_ne.mpr c5
 have c5b1 : ((wrap64 ((wrap64 (Int.tdiv a0 16)) * 16)) != 48) = true := bne_iff_ne.mpr c5
 obtain rfl := Option.some.inj H
 go_enter Try.func41, Try.ntmps41
 go_wp2
 go_ret
 exact ⟨by first | rfl | (simp; done) | (simp [*]; done), by repeat (first | exact Drawn0.refl _ | apply Drawn0.step)⟩
def gangwayref14_plain.f (a0 : Int) : Option (Bool) := if a0 = 1 then (some true) else (if a0 = 2 then (some true) else (if a0 = 3 then (some true) else (some (a0 == 4))))
set_option maxHeartbeats 8000000 in
theorem gangwayref14_plain.calls (a0 : Int) (r : Bool) (w : World) (h : gangwayref14_plain.f a0 = some r) :
    Calls Try.prog 43 #[.int .i64 a0] w fun e w' => e = .returned (.bool r) ∧ Drawn0 w w' := by
 have H : (if a0 = 1 then (some true) else (if a0 = 2 then (some true) else (if a0 = 3 then (some true) else (some (a0 == 4))))) = some r := h
 clear h
 by_cases c2 : a0 = 1
 ·
  rw [if_pos c2] at H
  have c2b0 : (a0 == 1) = true := beq_iff_eq.mpr c2
  have c2b1 : (a0 != 1) = false := bne_eq_false_iff_eq.mpr c2
  clear c2
  obtain rfl := Option.some.inj H
  go_enter Try.func43, Try.ntmps43
  go_wp2
  go_ret
  exact ⟨by first | rfl | (simp; done) | (simp [*]; done), by repeat (first | exact Drawn0.refl _ | apply Drawn0.step)⟩
 rw [if_neg c2] at H
 have c2b0 : (a0 == 1) = false := beq_eq_false_iff_ne.mpr c2
 have c2b1 : (a0 != 1) = true := bne_iff_ne.mpr c2
 by_cases c3 : a0 = 2
 ·
  rw [if_pos c3] at H
  have c3b0 : (a0 == 2) = true := beq_iff_eq.mpr c3
  have c3b1 : (a0 != 2) = false := bne_eq_false_iff_eq.mpr c3
  clear c3
  obtain rfl := Option.some.inj H
  go_enter Try.func43, Try.ntmps43
  go_wp2
  go_ret
  exact ⟨by first | rfl | (simp; done) | (simp [*]; done), by repeat (first | exact Drawn0.refl _ | apply Drawn0.step)⟩
 rw [if_neg c3] at H
 have c3b0 : (a0 == 2) = false := beq_eq_false_iff_ne.mpr c3
 have c3b1 : (a0 != 2) = true := bne_iff_ne.mpr c3
 by_cases c4 : a0 = 3
 ·
  rw [if_pos c4] at H
  have c4b0 : (a0 == 3) = true := beq_iff_eq.mpr c4
  have c4b1 : (a0 != 3) = false := bne_eq_false_iff_eq.mpr c4
  clear c4
  obtain rfl := Option.some.inj H
  go_enter Try.func43, Try.ntmps43
  go_wp2
  go_ret
  exact ⟨by first | rfl | (simp; done) | (simp [*]; done), by repeat (first | exact Drawn0.refl _ | apply Drawn0.step)⟩
 rw [if_neg c4] at H
 have c4b0 : (a0 == 3) = false := beq_eq_false_iff_ne.mpr c4
 have c4b1 : (a0 != 3) = true := bne_iff_ne.mpr c4
 obtain rfl := Option.some.inj H
 go_enter Try.func43, Try.ntmps43
 go_wp2
 go_ret
 exact ⟨by first | rfl | (simp; done) | (simp [*]; done), by repeat (first | exact Drawn0.refl _ | apply Drawn0.step)⟩
def gangwayref01_Fits.j0 : Nat → Int → Int → Bool → Bool → Option (Bool)
  | 0, _, _, _, _ => none
  | k + 1, x0, x1, x2, x12 => if x12 = true then (some false) else (if x2 = true then (if x1 = 64 then (some true) else (if 0 ≤ (IntKind.u64.wrap (wrap64 (x1 - 1))) then (if x0 ≥ (wrap64 (-(shl .i64 1 (IntKind.u64.wrap (wrap64 (x1 - 1)))))) then (some (decide (x0 < (shl .i64 1 (IntKind.u64.wrap (wrap64 (x1 - 1))))))) else (some false)) else (none))) else (if x0 ≥ 0 then (if x1 ≥ 63 then (some true) else (if 0 ≤ (IntKind.u64.wrap (x1)) then (some (decide (x0 < (shl .i64 1 (IntKind.u64.wrap (x1)))))) else (none))) else (some false)))
def gangwayref01_Fits.f (k : Nat) (a0 : Int) (a1 : Int) (a2 : Bool) : Option (Bool) := if a1 < 1 then (gangwayref01_Fits.j0 k a0 a1 a2 true) else (gangwayref01_Fits.j0 k a0 a1 a2 (decide (a1 > 64)))
set_option maxHeartbeats 8000000 in
theorem gangwayref01_Fits.calls (k : Nat) (a0 : Int) (a1 : Int) (a2 : Bool) (r : Bool) (w : World) (h : gangwayref01_Fits.f k a0 a1 a2 = some r) :
    Calls Try.prog 46 #[.int .i64 a0, .int .i64 a1, .bool a2] w fun e w' => e = .returned (.bool r) ∧ Drawn0 w w' := by
 have H : (if a1 < 1 then (gangwayref01_Fits.j0 k a0 a1 a2 true) else (gangwayref01_Fits.j0 k a0 a1 a2 (decide (a1 > 64)))) = some r := h
 clear h
 have HC4 := am H
 clear H
 go_enter Try.func46, Try.ntmps46
 go_upto_region 1 with (fail)
 go_cut [12] (fun v12 wc => ∃ (kq : Nat) (x12_3 : Bool), v12 = .bool x12_3 ∧ Aside0 (gangwayref01_Fits.j0 kq a0 a1 a2 x12_3 = some r) ∧ Aside0 (kq ≤ k) ∧ Drawn0 w wc)
 case first =>
  have H := HC4.out
  clear HC4
  by_cases c5 : a1 < 1
  ·
   rw [if_pos c5] at H
   have c5b0 : decide (a1 < 1) = true := decide_eq_true c5
   clear c5
   (first | rw [c5b0] | (simp only [i64_w, i32_w]; rw [c5b0]) | skip)
   have H' := am H
   clear H
   go_wp2
   go_meet
   case rel => exact ⟨_, (true), (by first | rfl | (simp; done) | (simp [*]; done)), H', ⟨by first | omega | exact Nat.le_refl _⟩, by repeat (first | exact Drawn0.refl _ | apply Drawn0.step)⟩
  rw [if_neg c5] at H
  have c5b0 : decide (a1 < 1) = false := decide_eq_false c5
  clear c5
  (first | rw [c5b0] | (simp only [i64_w, i32_w]; rw [c5b0]) | skip)
  have H' := am H
  clear H
  go_wp2
  go_meet
  case rel => exact ⟨_, (decide (a1 > 64)), (by first | rfl | (simp; done) | (simp [*]; done)), H', ⟨by first | omega | exact Nat.le_refl _⟩, by repeat (first | exact Drawn0.refl _ | apply Drawn0.step)⟩
 case rest =>
  clear HC4
  try clear p2
  try clear c4
  try clear c5
  try clear c5b0
  obtain ⟨kq, x12_3, rfl, HA, HJ3, ⟨mc3, rfl⟩⟩ := hcut
  cases kq with
  | zero => exact absurd HA.out (by simp [gangwayref01_Fits.j0])
  | succ kj3 =>
   have H := HA.out
   clear HA
   simp only [gangwayref01_Fits.j0] at H
   by_cases c6 : x12_3 = true
   ·
    subst c6
    replace H : (some false) = some r := by rw [if_pos rfl] at H; exact H
    obtain rfl := Option.some.inj H
    go_wp2
    go_ret
    exact ⟨by first | rfl | (simp; done) | (simp [*]; done), by repeat (first | exact Drawn0.refl _ | apply Drawn0.step)⟩
   replace c6 := Bool.eq_false_iff.mpr c6
   subst c6
   replace H : (if a2 = true then (if a1 = 64 then (some true) else (if 0 ≤ (IntKind.u64.wrap (wrap64 (a1 - 1))) then (if a0 ≥ (wrap64 (-(shl .i64 1 (IntKind.u64.wrap (wrap64 (a1 - 1)))))) then (some (decide (a0 < (shl .i64 1 (IntKind.u64.wrap (wrap64 (a1 - 1))))))) else (some false)) else (none))) else (if a0 ≥ 0 then (if a1 ≥ 63 then (some true) else (if 0 ≤ (IntKind.u64.wrap (a1)) then (some (decide (a0 < (shl .i64 1 (IntKind.u64.wrap (a1)))))) else (none))) else (some false))) = some r := by rw [if_neg (show ¬ (false = true) by decide)] at H; exact H
   by_cases c7 : a2 = true
   ·
    subst c7
    replace H : (if a1 = 64 then (some true) else (if 0 ≤ (IntKind.u64.wrap (wrap64 (a1 - 1))) then (if a0 ≥ (wrap64 (-(shl .i64 1 (IntKind.u64.wrap (wrap64 (a1 - 1)))))) then (some (decide (a0 < (shl .i64 1 (IntKind.u64.wrap (wrap64 (a1 - 1))))))) else (some false)) else (none))) = some r := by rw [if_pos rfl] at H; exact H
    by_cases c8 : a1 = 64
    ·
     rw [if_pos c8] at H
     have c8b0 : (a1 == 64) = true := beq_iff_eq.mpr c8
     have c8b1 : (a1 != 64) = false := bne_eq_false_iff_eq.mpr c8
     clear c8
     obtain rfl := Option.some.inj H
     go_wp2
     go_ret
     exact ⟨by first | rfl | (simp; done) | (simp [*]; done), by repeat (first | exact Drawn0.refl _ | apply Drawn0.step)⟩
    rw [if_neg c8] at H
    have c8b0 : (a1 == 64) = false := beq_eq_false_iff_ne.mpr c8
    have c8b1 : (a1 != 64) = true := bne_iff_ne.mpr c8
    obtain ⟨ji9, hji9⟩ : ∃ j_ : Int, (IntKind.u64.wrap (wrap64 (a1 - 1))) = j_ := ⟨_, rfl⟩
    replace H : (if 0 ≤ (ji9) then (if a0 ≥ (wrap64 (-(shl .i64 1 (ji9)))) then (some (decide (a0 < (shl .i64 1 (ji9))))) else (some false)) else (none)) = some r := by first | (rw [hji9] at H; exact H) | (simp only [hji9] at H ⊢; exact H)
    by_cases c10 : 0 ≤ (ji9)
    rotate_left
    ·
     rw [if_neg c10] at H
     exact absurd H (by simp)
    rw [if_pos c10] at H
    have c10b0 := eq_true c10
    have c10b1 : decide (0 ≤ (ji9)) = true := decide_eq_true c10
    clear c10
    obtain ⟨ji11, hji11⟩ : ∃ j_ : Int, (shl .i64 1 (ji9)) = j_ := ⟨_, rfl⟩
    replace H : (if a0 ≥ (wrap64 (-(ji11))) then (some (decide (a0 < (ji11)))) else (some false)) = some r := by first | (rw [hji11] at H; exact H) | (simp only [hji11] at H ⊢; exact H)
    have hji11_ : (IntKind.i64.wrap (1 * 2 ^ min (ji9).toNat 64)) = ji11 := hji11
    have hji11z : (ji9) ≤ 64 → (IntKind.i64.wrap (1 * 2 ^ (ji9).toNat)) = ji11 := shl_small hji11
    have hji11u : (IntKind.i64.wrap (2 ^ min (ji9).toNat 64)) = ji11 := by have h_ := hji11_; rw [Int.one_mul] at h_; exact h_
    have hji11v : (ji9) ≤ 64 → (IntKind.i64.wrap (2 ^ (ji9).toNat)) = ji11 := fun hle_ => by have h_ := hji11z hle_; rw [Int.one_mul] at h_; exact h_
    have hji11y : (wrap64 (1 * 2 ^ min (ji9).toNat 64)) = ji11 := (i64_w _).symm.trans hji11_
    have hji11x : (ji9) ≤ 64 → (wrap64 (1 * 2 ^ (ji9).toNat)) = ji11 := fun h_ => (i64_w _).symm.trans (hji11z h_)
    by_cases c12 : a0 ≥ (wrap64 (-(ji11)))
    ·
     rw [if_pos c12] at H
     have c12b0 : decide ((wrap64 (-(ji11))) ≤ a0) = true := decide_eq_true c12
     clear c12
     have c13b0 := eq_true (od : 0 ≤ (ji9))
     obtain rfl := Option.some.inj H
     go_wp2
     go_ret
     exact ⟨by first | rfl | (simp; done) | (simp only [← hji9, ← hji11] <;> (first | rfl | simp)) | (simp [*]; done), by repeat (first | exact Drawn0.refl _ | apply Drawn0.step)⟩
    rw [if_neg c12] at H
    have c12b0 : decide ((wrap64 (-(ji11))) ≤ a0) = false := decide_eq_false c12
    clear c12
    obtain rfl := Option.some.inj H
    go_wp2
    go_ret
    exact ⟨by first | rfl | (simp; done) | (simp only [← hji9, ← hji11] <;> (first | rfl | simp)) | (simp [*]; done), by repeat (first | exact Drawn0.refl _ | apply Drawn0.step)⟩
   replace c7 := Bool.eq_false_iff.mpr c7
   subst c7
   replace H : (if a0 ≥ 0 then (if a1 ≥ 63 then (some true) else (if 0 ≤ (IntKind.u64.wrap (a1)) then (some (decide (a0 < (shl .i64 1 (IntKind.u64.wrap (a1)))))) else (none))) else (some false)) = some r := by rw [if_neg (show ¬ (false = true) by decide)] at H; exact H
   by_cases c14 : a0 ≥ 0
   rotate_left
   ·
    rw [if_neg c14] at H
    have c14b0 : decide (0 ≤ a0) = false := decide_eq_false c14
    clear c14
    obtain rfl := Option.some.inj H
    go_wp2
    go_ret
    exact ⟨by first | rfl | (simp; done) | (simp [*]; done), by repeat (first | exact Drawn0.refl _ | apply Drawn0.step)⟩
   rw [if_pos c14] at H
   have c14b0 : decide (0 ≤ a0) = true := decide_eq_true c14
   clear c14
   by_cases c15 : a1 ≥ 63
   ·
    rw [if_pos c15] at H
    have c15b0 : decide (63 ≤ a1) = true := decide_eq_true c15
    clear c15
    obtain rfl := Option.some.inj H
    go_wp2
    go_ret
    exact ⟨by first | rfl | (simp; done) | (simp [*]; done), by repeat (first | exact Drawn0.refl _ | apply Drawn0.step)⟩
   rw [if_neg c15] at H
   have c15b0 : decide (63 ≤ a1) = false := decide_eq_false c15
   clear c15
   obtain ⟨ji16, hji16⟩ : ∃ j_ : Int, (IntKind.u64.wrap (a1)) = j_ := ⟨_, rfl⟩
   replace H : (if 0 ≤ (ji16) then (some (decide (a0 < (shl .i64 1 (ji16))))) else (none)) = some r := by first | (rw [hji16] at H; exact H) | (simp only [hji16] at H ⊢; exact H)
   by_cases c17 : 0 ≤ (ji16)
   rotate_left
   ·
    rw [if_neg c17] at H
    exact absurd H (by simp)
   rw [if_pos c17] at H
   have c17b0 := eq_true c17
   have c17b1 : decide (0 ≤ (ji16)) = true := decide_eq_true c17
   clear c17
   obtain ⟨ji18, hji18⟩ : ∃ j_ : Int, (shl .i64 1 (ji16)) = j_ := ⟨_, rfl⟩
   replace H : (some (decide (a0 < (ji18)))) = some r := by first | (rw [hji18] at H; exact H) | (simp only [hji18] at H ⊢; exact H)
   have hji18_ : (IntKind.i64.wrap (1 * 2 ^ min (ji16).toNat 64)) = ji18 := hji18
   have hji18z : (ji16) ≤ 64 → (IntKind.i64.wrap (1 * 2 ^ (ji16).toNat)) = ji18 := shl_small hji18
   have hji18u : (IntKind.i64.wrap (2 ^ min (ji16).toNat 64)) = ji18 := by have h_ := hji18_; rw [Int.one_mul] at h_; exact h_
   have hji18v : (ji16) ≤ 64 → (IntKind.i64.wrap (2 ^ (ji16).toNat)) = ji18 := fun hle_ => by have h_ := hji18z hle_; rw [Int.one_mul] at h_; exact h_
   have hji18y : (wrap64 (1 * 2 ^ min (ji16).toNat 64)) = ji18 := (i64_w _).symm.trans hji18_
   have hji18x : (ji16) ≤ 64 → (wrap64 (1 * 2 ^ (ji16).toNat)) = ji18 := fun h_ => (i64_w _).symm.trans (hji18z h_)
   obtain rfl := Option.some.inj H
   go_wp2
   go_ret
   exact ⟨by first | rfl | (simp; done) | (simp only [← hji16, ← hji18] <;> (first | rfl | simp)) | (simp [*]; done), by repeat (first | exact Drawn0.refl _ | apply Drawn0.step)⟩
mutual
def gangwayref14_Put.j0 : Nat → Int → Int → Int → Int → Bool → Option (List Int × Int)
  | 0, _, _, _, _, _ => none
  | k + 1, x0, x1, x2, x3, x27 => if x27 = true then (some (([] : List Int), 11)) else ((gangwayref14_off.f x0 x2 x3).bind fun t105 => ((gangwayref14_bytes.f k (Int.tmod x0 16)).bind fun t106 => ((gangwayref14_plain.f (Int.tmod x0 16)).bind fun t107 => (if t107 = true then (if (wrap64 (x1 - t105)) < 0 then (gangwayref14_Put.j1 k (wrap64 (x1 - t105)) (Int.tmod x0 16) t106 true) else ((gangwayref14_far.f (wrap64 (x1 - t105))).bind fun t108 => (gangwayref14_Put.j1 k (wrap64 (x1 - t105)) (Int.tmod x0 16) t106 t108))) else ((gangwayref14_far.f (wrap64 (x1 - t105))).bind fun t109 => (gangwayref14_Put.j1 k (wrap64 (x1 - t105)) (Int.tmod x0 16) t106 t109))))))
def gangwayref14_Put.j1 : Nat → Int → Int → Int → Bool → Option (List Int × Int)
  | 0, _, _, _, _ => none
  | k + 1, x10, x11, x12, x47 => if x47 = true then (some (([] : List Int), 11)) else (if x11 = 1 then ((gangwayref01_Uleb.f k x10).bind fun t110 => (some (t110, 0))) else (if x11 = 9 then ((gangwayref01_Sleb.f k x10).bind fun t113 => (some (t113, 0))) else (if x12 < 8 then ((gangwayref14_plain.f x11).bind fun t116 => ((gangwayref01_Fits.f k x10 (wrap64 (8 * x12)) (!t116)).bind fun t117 => (if t117 = true then ((gangwayref01_Put.f k x10 x12).bind fun bt118 => (some (bt118.1, 0))) else (some (([] : List Int), 11))))) else ((gangwayref01_Put.f k x10 x12).bind fun bt122 => (some (bt122.1, 0))))))
end
def gangwayref14_Put.f (k : Nat) (a0 : Int) (a1 : Int) (a2 : Int) (a3 : Int) : Option (List Int × Int) := (gangwayref14_Encoding.f k a0).bind fun t101 => (if t101 = true then ((gangwayref14_far.f a1).bind fun t102 => (if t102 = true then (gangwayref14_Put.j0 k a0 a1 a2 a3 true) else ((gangwayref14_far.f a2).bind fun t103 => (if t103 = true then (gangwayref14_Put.j0 k a0 a1 a2 a3 true) else ((gangwayref14_far.f a3).bind fun t104 => (gangwayref14_Put.j0 k a0 a1 a2 a3 t104)))))) else (some (([] : List Int), 140)))
set_option maxHeartbeats 8000000 in
theorem gangwayref14_Put.calls (k : Nat) (a0 : Int) (a1 : Int) (a2 : Int) (a3 : Int) (r1 : List Int) (r2 : Int) (w : World) (h : gangwayref14_Put.f k a0 a1 a2 a3 = some (r1, r2)) :
    Calls Try.prog 17 #[.int .i64 a0, .int .i64 a1, .int .i64 a2, .int .i64 a3] w fun e w' => ∃ v0_ : Value, e = .returned (.tuple #[v0_, .int .i64 r2]) ∧ Kd.R (Kd.int .u8) 5 w' w.heap.size (fun _ => True) v0_ r1 ∧ Below w.heap.size w w' := by
 have HB := am (Below.refl w.heap.size w)
 have H : ((gangwayref14_Encoding.f k a0).bind fun t101 => (if t101 = true then ((gangwayref14_far.f a1).bind fun t102 => (if t102 = true then (gangwayref14_Put.j0 k a0 a1 a2 a3 true) else ((gangwayref14_far.f a2).bind fun t103 => (if t103 = true then (gangwayref14_Put.j0 k a0 a1 a2 a3 true) else ((gangwayref14_far.f a3).bind fun t104 => (gangwayref14_Put.j0 k a0 a1 a2 a3 t104)))))) else (some (([] : List Int), 140)))) = some (r1, r2) := h
 clear h
 replace H := Option.bind_eq_some_iff.mp H
 obtain ⟨t101, A50, H⟩ := H
 replace H : (if t101 = true then ((gangwayref14_far.f a1).bind fun t102 => (if t102 = true then (gangwayref14_Put.j0 k a0 a1 a2 a3 true) else ((gangwayref14_far.f a2).bind fun t103 => (if t103 = true then (gangwayref14_Put.j0 k a0 a1 a2 a3 true) else ((gangwayref14_far.f a3).bind fun t104 => (gangwayref14_Put.j0 k a0 a1 a2 a3 t104)))))) else (some (([] : List Int), 140))) = some (r1, r2) := H
 have A5 := am A50
 clear A50
 by_cases c6 : t101 = true
 rotate_left
 ·
  replace c6 := Bool.eq_false_iff.mpr c6
  subst c6
  replace H : (some (([] : List Int), 140)) = some (r1, r2) := by rw [if_neg (show ¬ (false = true) by decide)] at H; exact H
  simp only [Option.some.injEq, Prod.mk.injEq] at H
  obtain ⟨rfl, rfl⟩ := H
  go_enter Try.func17, Try.ntmps17
  go_wp2_with (first | ((with_reducible refine gate_callee (f := 32) rfl ?_); refine goesL_ (some 16) rfl rfl Try.func32 (by kernel_rfl) rfl #[.int .i64 a0] rfl (by simp only [ml]; try rfl) ?_; (with_reducible refine (gangwayref14_Encoding.calls k a0 false _ A5.out).mono ?_); rintro e w' ⟨rfl, ⟨nd, rfl⟩⟩; refine ⟨_, rfl, ?_⟩))
  go_ret2
  exact ⟨_, rfl, by first | exact Kd.R_nil _ _ _ _ _ | exact Kd.N_nil _ _ _ _ _, by exact bl_g HB.out⟩
 subst c6
 replace H : ((gangwayref14_far.f a1).bind fun t102 => (if t102 = true then (gangwayref14_Put.j0 k a0 a1 a2 a3 true) else ((gangwayref14_far.f a2).bind fun t103 => (if t103 = true then (gangwayref14_Put.j0 k a0 a1 a2 a3 true) else ((gangwayref14_far.f a3).bind fun t104 => (gangwayref14_Put.j0 k a0 a1 a2 a3 t104)))))) = some (r1, r2) := by rw [if_pos rfl] at H; exact H
 have HC7 := am H
 clear H
 go_enter Try.func17, Try.ntmps17
 go_upto_region 3 with (first | ((with_reducible refine gate_callee (f := 32) rfl ?_); refine goesL_ (some 16) rfl rfl Try.func32 (by kernel_rfl) rfl #[.int .i64 a0] rfl (by simp only [ml]; try rfl) ?_; (with_reducible refine (gangwayref14_Encoding.calls k a0 true _ A5.out).mono ?_); rintro e w' ⟨rfl, ⟨nd, rfl⟩⟩; refine ⟨_, rfl, ?_⟩))
 (try simp only [Act.put, List.setIfInBounds_toArray, List.set_cons_zero, List.set_cons_succ])
 go_cut [27] (fun v27 wc => ∃ (kq : Nat) (x27_6 : Bool), v27 = .bool x27_6 ∧ Aside0 (gangwayref14_Put.j0 kq a0 a1 a2 a3 x27_6 = some (r1, r2)) ∧ Aside0 (kq ≤ k) ∧ Aside0 (Below w.heap.size w wc))
 case first =>
  have H := HC7.out
  clear HC7
  replace H := Option.bind_eq_some_iff.mp H
  obtain ⟨t102, A80, H⟩ := H
  replace H : (if t102 = true then (gangwayref14_Put.j0 k a0 a1 a2 a3 true) else ((gangwayref14_far.f a2).bind fun t103 => (if t103 = true then (gangwayref14_Put.j0 k a0 a1 a2 a3 true) else ((gangwayref14_far.f a3).bind fun t104 => (gangwayref14_Put.j0 k a0 a1 a2 a3 t104))))) = some (r1, r2) := H
  have A8 := am A80
  clear A80
  by_cases c9 : t102 = true
  ·
   subst c9
   replace H : (gangwayref14_Put.j0 k a0 a1 a2 a3 true) = some (r1, r2) := by rw [if_pos rfl] at H; exact H
   have H' := am H
   clear H
   go_wp2_with (first | ((with_reducible refine gate_callee (f := 33) rfl ?_); refine goesL_ (some 19) rfl rfl Try.func33 (by kernel_rfl) rfl #[.int .i64 a1] rfl (by simp only [ml]; try rfl) ?_; (with_reducible refine (gangwayref14_far.calls a1 true _ A8.out).mono ?_); rintro e w' ⟨rfl, ⟨nd, rfl⟩⟩; refine ⟨_, rfl, ?_⟩))
   go_meet
   case rel => exact ⟨_, (true), (by first | rfl | (simp; done) | (simp [*]; done)), H', ⟨by first | omega | exact Nat.le_refl _⟩, ⟨by exact bl_g HB.out⟩⟩
  replace c9 := Bool.eq_false_iff.mpr c9
  subst c9
  replace H : ((gangwayref14_far.f a2).bind fun t103 => (if t103 = true then (gangwayref14_Put.j0 k a0 a1 a2 a3 true) else ((gangwayref14_far.f a3).bind fun t104 => (gangwayref14_Put.j0 k a0 a1 a2 a3 t104)))) = some (r1, r2) := by rw [if_neg (show ¬ (false = true) by decide)] at H; exact H
  replace H := Option.bind_eq_some_iff.mp H
  obtain ⟨t103, A100, H⟩ := H
  replace H : (if t103 = true then (gangwayref14_Put.j0 k a0 a1 a2 a3 true) else ((gangwayref14_far.f a3).bind fun t104 => (gangwayref14_Put.j0 k a0 a1 a2 a3 t104))) = some (r1, r2) := H
  have A10 := am A100
  clear A100
  by_cases c11 : t103 = true
  ·
   subst c11
   replace H : (gangwayref14_Put.j0 k a0 a1 a2 a3 true) = some (r1, r2) := by rw [if_pos rfl] at H; exact H
   have H' := am H
   clear H
   go_wp2_with (first | ((with_reducible refine gate_callee (f := 33) rfl ?_); refine goesL_ (some 19) rfl rfl Try.func33 (by kernel_rfl) rfl #[.int .i64 a1] rfl (by simp only [ml]; try rfl) ?_; (with_reducible refine (gangwayref14_far.calls a1 false _ A8.out).mono ?_); rintro e w' ⟨rfl, ⟨nd, rfl⟩⟩; refine ⟨_, rfl, ?_⟩) | (go_at_call 33; (with_reducible refine (gangwayref14_far.calls a2 true _ A10.out).mono ?_); rintro e w' ⟨rfl, ⟨nd, rfl⟩⟩))
   go_meet
   case rel => exact ⟨_, (true), (by first | rfl | (simp; done) | (simp [*]; done)), H', ⟨by first | omega | exact Nat.le_refl _⟩, ⟨by exact bl_g HB.out⟩⟩
  replace c11 := Bool.eq_false_iff.mpr c11
  subst c11
  replace H : ((gangwayref14_far.f a3).bind fun t104 => (gangwayref14_Put.j0 k a0 a1 a2 a3 t104)) = some (r1, r2) := by rw [if_neg (show ¬ (false = true) by decide)] at H; exact H
  replace H := Option.bind_eq_some_iff.mp H
  obtain ⟨t104, A120, H⟩ := H
  replace H : (gangwayref14_Put.j0 k a0 a1 a2 a3 t104) = some (r1, r2) := H
  have A12 := am A120
  clear A120
  have H' := am H
  clear H
  go_wp2_with (first | ((with_reducible refine gate_callee (f := 33) rfl ?_); refine goesL_ (some 19) rfl rfl Try.func33 (by kernel_rfl) rfl #[.int .i64 a1] rfl (by simp only [ml]; try rfl) ?_; (with_reducible refine (gangwayref14_far.calls a1 false _ A8.out).mono ?_); rintro e w' ⟨rfl, ⟨nd, rfl⟩⟩; refine ⟨_, rfl, ?_⟩) | (go_at_call 33; (with_reducible refine (gangwayref14_far.calls a2 false _ A10.out).mono ?_); rintro e w' ⟨rfl, ⟨nd, rfl⟩⟩) | (go_at_call 33; (with_reducible refine (gangwayref14_far.calls a3 t104 _ A12.out).mono ?_); rintro e w' ⟨rfl, ⟨nd, rfl⟩⟩))
  go_meet
  case rel => exact ⟨_, (t104), (by first | rfl | (simp; done) | (simp [*]; done)), H', ⟨by first | omega | exact Nat.le_refl _⟩, ⟨by exact bl_g HB.out⟩⟩
 case rest =>
  clear HC7
  try clear c1
  try clear p2
  try clear c3
  try clear c6
  try clear c9
  try clear c11
  obtain ⟨kq, x27_6, rfl, HA, HJ6, HB⟩ := hcut
  cases kq with
  | zero => exact absurd HA.out (by simp [gangwayref14_Put.j0])
  | succ kj6 =>
   have H := HA.out
   clear HA
   simp only [gangwayref14_Put.j0] at H
   by_cases c13 : x27_6 = true
   ·
    subst c13
    replace H : (some (([] : List Int), 11)) = some (r1, r2) := by rw [if_pos rfl] at H; exact H
    simp only [Option.some.injEq, Prod.mk.injEq] at H
    obtain ⟨rfl, rfl⟩ := H
    go_wp2
    go_ret2
    exact ⟨_, rfl, by first | exact Kd.R_nil _ _ _ _ _ | exact Kd.N_nil _ _ _ _ _, by exact bl_g HB.out⟩
   replace c13 := Bool.eq_false_iff.mpr c13
   subst c13
   replace H : ((gangwayref14_off.f a0 a2 a3).bind fun t105 => ((gangwayref14_bytes.f kj6 (Int.tmod a0 16)).bind fun t106 => ((gangwayref14_plain.f (Int.tmod a0 16)).bind fun t107 => (if t107 = true then (if (wrap64 (a1 - t105)) < 0 then (gangwayref14_Put.j1 kj6 (wrap64 (a1 - t105)) (Int.tmod a0 16) t106 true) else ((gangwayref14_far.f (wrap64 (a1 - t105))).bind fun t108 => (gangwayref14_Put.j1 kj6 (wrap64 (a1 - t105)) (Int.tmod a0 16) t106 t108))) else ((gangwayref14_far.f (wrap64 (a1 - t105))).bind fun t109 => (gangwayref14_Put.j1 kj6 (wrap64 (a1 - t105)) (Int.tmod a0 16) t106 t109)))))) = some (r1, r2) := by rw [if_neg (show ¬ (false = true) by decide)] at H; exact H
   replace H := Option.bind_eq_some_iff.mp H
   obtain ⟨t105, A140, H⟩ := H
   replace H : ((gangwayref14_bytes.f kj6 (Int.tmod a0 16)).bind fun t106 => ((gangwayref14_plain.f (Int.tmod a0 16)).bind fun t107 => (if t107 = true then (if (wrap64 (a1 - t105)) < 0 then (gangwayref14_Put.j1 kj6 (wrap64 (a1 - t105)) (Int.tmod a0 16) t106 true) else ((gangwayref14_far.f (wrap64 (a1 - t105))).bind fun t108 => (gangwayref14_Put.j1 kj6 (wrap64 (a1 - t105)) (Int.tmod a0 16) t106 t108))) else ((gangwayref14_far.f (wrap64 (a1 - t105))).bind fun t109 => (gangwayref14_Put.j1 kj6 (wrap64 (a1 - t105)) (Int.tmod a0 16) t106 t109))))) = some (r1, r2) := H
   have A14 := am A140
   clear A140
   replace H := Option.bind_eq_some_iff.mp H
   obtain ⟨t106, A150, H⟩ := H
   replace H : ((gangwayref14_plain.f (Int.tmod a0 16)).bind fun t107 => (if t107 = true then (if (wrap64 (a1 - t105)) < 0 then (gangwayref14_Put.j1 kj6 (wrap64 (a1 - t105)) (Int.tmod a0 16) t106 true) else ((gangwayref14_far.f (wrap64 (a1 - t105))).bind fun t108 => (gangwayref14_Put.j1 kj6 (wrap64 (a1 - t105)) (Int.tmod a0 16) t106 t108))) else ((gangwayref14_far.f (wrap64 (a1 - t105))).bind fun t109 => (gangwayref14_Put.j1 kj6 (wrap64 (a1 - t105)) (Int.tmod a0 16) t106 t109)))) = some (r1, r2) := H
   have A15 := am A150
   clear A150
   have HC16 := am H
   clear H
   go_upto_region 8 with (first | ((with_reducible refine gate_callee (f := 41) rfl ?_); refine goesL_ (some 32) rfl rfl Try.func41 (by kernel_rfl) rfl #[.int .i64 a0, .int .i64 a2, .int .i64 a3] rfl (by simp only [ml]; try rfl) ?_; (with_reducible refine (gangwayref14_off.calls a0 a2 a3 t105 _ A14.out).mono ?_); rintro e w' ⟨rfl, ⟨nd, rfl⟩⟩; refine ⟨_, rfl, ?_⟩) | ((with_reducible refine gate_callee (f := 42) rfl ?_); refine goesL_ (some 37) rfl rfl Try.func42 (by kernel_rfl) rfl #[.int .i64 (Int.tmod a0 16)] rfl (by simp only [ml]; try rfl) ?_; (with_reducible refine (gangwayref14_bytes.calls kj6 (Int.tmod a0 16) t106 _ A15.out).mono ?_); rintro e w' ⟨rfl, ⟨nd, rfl⟩⟩; refine ⟨_, rfl, ?_⟩))
   (try simp only [Act.put, List.setIfInBounds_toArray, List.set_cons_zero, List.set_cons_succ])
   go_cut [47] (fun v47 wc => ∃ (kq : Nat) (x47_15 : Bool), v47 = .bool x47_15 ∧ Aside0 (gangwayref14_Put.j1 kq (wrap64 (a1 - t105)) (Int.tmod a0 16) t106 x47_15 = some (r1, r2)) ∧ Aside0 (kq ≤ kj6) ∧ Aside0 (Below w.heap.size w wc))
   case first =>
    have H := HC16.out
    clear HC16
    replace H := Option.bind_eq_some_iff.mp H
    obtain ⟨t107, A170, H⟩ := H
    replace H : (if t107 = true then (if (wrap64 (a1 - t105)) < 0 then (gangwayref14_Put.j1 kj6 (wrap64 (a1 - t105)) (Int.tmod a0 16) t106 true) else ((gangwayref14_far.f (wrap64 (a1 - t105))).bind fun t108 => (gangwayref14_Put.j1 kj6 (wrap64 (a1 - t105)) (Int.tmod a0 16) t106 t108))) else ((gangwayref14_far.f (wrap64 (a1 - t105))).bind fun t109 => (gangwayref14_Put.j1 kj6 (wrap64 (a1 - t105)) (Int.tmod a0 16) t106 t109))) = some (r1, r2) := H
    have A17 := am A170
    clear A170
    by_cases c18 : t107 = true
    rotate_left
    ·
     replace c18 := Bool.eq_false_iff.mpr c18
     subst c18
     replace H : ((gangwayref14_far.f (wrap64 (a1 - t105))).bind fun t109 => (gangwayref14_Put.j1 kj6 (wrap64 (a1 - t105)) (Int.tmod a0 16) t106 t109)) = some (r1, r2) := by rw [if_neg (show ¬ (false = true) by decide)] at H; exact H
     replace H := Option.bind_eq_some_iff.mp H
     obtain ⟨t109, A210, H⟩ := H
     replace H : (gangwayref14_Put.j1 kj6 (wrap64 (a1 - t105)) (Int.tmod a0 16) t106 t109) = some (r1, r2) := H
     have A21 := am A210
     clear A210
     have H' := am H
     clear H
     go_wp2_with (first | ((with_reducible refine gate_callee (f := 43) rfl ?_); refine goesL_ (some 39) rfl rfl Try.func43 (by kernel_rfl) rfl #[.int .i64 (Int.tmod a0 16)] rfl (by simp only [ml]; try rfl) ?_; (with_reducible refine (gangwayref14_plain.calls (Int.tmod a0 16) false _ A17.out).mono ?_); rintro e w' ⟨rfl, ⟨nd, rfl⟩⟩; refine ⟨_, rfl, ?_⟩) | (go_at_call 33; (with_reducible refine (gangwayref14_far.calls (wrap64 (a1 - t105)) t109 _ A21.out).mono ?_); rintro e w' ⟨rfl, ⟨nd, rfl⟩⟩))
     go_meet
     case rel => exact ⟨_, (t109), (by first | rfl | (simp; done) | (simp [*]; done)), H', ⟨by have := HJ6.out; first | omega | exact Nat.le_refl _⟩, ⟨by exact bl_g HB.out⟩⟩
    subst c18
    replace H : (if (wrap64 (a1 - t105)) < 0 then (gangwayref14_Put.j1 kj6 (wrap64 (a1 - t105)) (Int.tmod a0 16) t106 true) else ((gangwayref14_far.f (wrap64 (a1 - t105))).bind fun t108 => (gangwayref14_Put.j1 kj6 (wrap64 (a1 - t105)) (Int.tmod a0 16) t106 t108))) = some (r1, r2) := by rw [if_pos rfl] at H; exact H
    by_cases c19 : (wrap64 (a1 - t105)) < 0
    ·
     rw [if_pos c19] at H
     have c19b0 : decide ((wrap64 (a1 - t105)) < 0) = true := decide_eq_true c19
     clear c19
     (first | rw [c19b0] | (simp only [i64_w, i32_w]; rw [c19b0]) | skip)
     have H' := am H
     clear H
     go_wp2_with (first | ((with_reducible refine gate_callee (f := 43) rfl ?_); refine goesL_ (some 39) rfl rfl Try.func43 (by kernel_rfl) rfl #[.int .i64 (Int.tmod a0 16)] rfl (by simp only [ml]; try rfl) ?_; (with_reducible refine (gangwayref14_plain.calls (Int.tmod a0 16) true _ A17.out).mono ?_); rintro e w' ⟨rfl, ⟨nd, rfl⟩⟩; refine ⟨_, rfl, ?_⟩))
     go_meet
     case rel => exact ⟨_, (true), (by first | rfl | (simp; done) | (simp [*]; done)), H', ⟨by have := HJ6.out; first | omega | exact Nat.le_refl _⟩, ⟨by exact bl_g HB.out⟩⟩
    rw [if_neg c19] at H
    have c19b0 : decide ((wrap64 (a1 - t105)) < 0) = false := decide_eq_false c19
    clear c19
    (first | rw [c19b0] | (simp only [i64_w, i32_w]; rw [c19b0]) | skip)
    replace H := Option.bind_eq_some_iff.mp H
    obtain ⟨t108, A200, H⟩ := H
    replace H : (gangwayref14_Put.j1 kj6 (wrap64 (a1 - t105)) (Int.tmod a0 16) t106 t108) = some (r1, r2) := H
    have A20 := am A200
    clear A200
    have H' := am H
    clear H
    go_wp2_with (first | ((with_reducible refine gate_callee (f := 43) rfl ?_); refine goesL_ (some 39) rfl rfl Try.func43 (by kernel_rfl) rfl #[.int .i64 (Int.tmod a0 16)] rfl (by simp only [ml]; try rfl) ?_; (with_reducible refine (gangwayref14_plain.calls (Int.tmod a0 16) true _ A17.out).mono ?_); rintro e w' ⟨rfl, ⟨nd, rfl⟩⟩; refine ⟨_, rfl, ?_⟩) | (go_at_call 33; (with_reducible refine (gangwayref14_far.calls (wrap64 (a1 - t105)) t108 _ A20.out).mono ?_); rintro e w' ⟨rfl, ⟨nd, rfl⟩⟩))
    go_meet
    case rel => exact ⟨_, (t108), (by first | rfl | (simp; done) | (simp [*]; done)), H', ⟨by have := HJ6.out; first | omega | exact Nat.le_refl _⟩, ⟨by exact bl_g HB.out⟩⟩
   case rest =>
    clear HC16
    try clear c1
    try clear p2
    try clear c3
    try clear c4
    try clear c6
    try clear p6
    try clear c9
    try clear c11
    try clear c13
    try clear c17
    try clear c18
    try clear c19
    try clear c19b0
    try clear p2
    obtain ⟨kq, x47_15, rfl, HA, HJ15, HB⟩ := hcut
    cases kq with
    | zero => exact absurd HA.out (by simp [gangwayref14_Put.j1])
    | succ kj15 =>
     have H := HA.out
     clear HA
     simp only [gangwayref14_Put.j1] at H
     by_cases c22 : x47_15 = true
     ·
      subst c22
      replace H : (some (([] : List Int), 11)) = some (r1, r2) := by rw [if_pos rfl] at H; exact H
      simp only [Option.some.injEq, Prod.mk.injEq] at H
      obtain ⟨rfl, rfl⟩ := H
      go_wp2
      go_ret2
      exact ⟨_, rfl, by first | exact Kd.R_nil _ _ _ _ _ | exact Kd.N_nil _ _ _ _ _, by exact bl_g HB.out⟩
     replace c22 := Bool.eq_false_iff.mpr c22
     subst c22
     replace H : (if (Int.tmod a0 16) = 1 then ((gangwayref01_Uleb.f kj15 (wrap64 (a1 - t105))).bind fun t110 => (some (t110, 0))) else (if (Int.tmod a0 16) = 9 then ((gangwayref01_Sleb.f kj15 (wrap64 (a1 - t105))).bind fun t113 => (some (t113, 0))) else (if t106 < 8 then ((gangwayref14_plain.f (Int.tmod a0 16)).bind fun t116 => ((gangwayref01_Fits.f kj15 (wrap64 (a1 - t105)) (wrap64 (8 * t106)) (!t116)).bind fun t117 => (if t117 = true then ((gangwayref01_Put.f kj15 (wrap64 (a1 - t105)) t106).bind fun bt118 => (some (bt118.1, 0))) else (some (([] : List Int), 11))))) else ((gangwayref01_Put.f kj15 (wrap64 (a1 - t105)) t106).bind fun bt122 => (some (bt122.1, 0)))))) = some (r1, r2) := by rw [if_neg (show ¬ (false = true) by decide)] at H; exact H
     by_cases c23 : (Int.tmod a0 16) = 1
     ·
      rw [if_pos c23] at H
      have c23b0 : ((Int.tmod a0 16) == 1) = true := beq_iff_eq.mpr c23
      have c23b1 : ((Int.tmod a0 16) != 1) = false := bne_eq_false_iff_eq.mpr c23
      clear c23
      replace H := Option.bind_eq_some_iff.mp H
      obtain ⟨t110, A240, H⟩ := H
      replace H : (some (t110, 0)) = some (r1, r2) := H
      have A24 := am A240
      clear A240
      simp only [Option.some.injEq, Prod.mk.injEq] at H
      obtain ⟨rfl, rfl⟩ := H
      go_wp2_with (first | ((with_reducible refine gate_callee (f := 44) rfl ?_); refine goesL_ (some 51) rfl rfl Try.func44 (by kernel_rfl) rfl #[.int .i64 (wrap64 (a1 - t105))] rfl (by simp only [ml]; try rfl) ?_; (with_reducible refine (gangwayref01_Uleb.calls kj15 (wrap64 (a1 - t105)) t110 _ A24.out).mono ?_); rintro e w25 ⟨v111, rfl, ho0, hb⟩; refine ⟨_, rfl, ?_⟩; refine mv2 (am (Kd.R_lower ho0 (below_size (by exact bl_o HB.out)))) (am (below_step (by exact bl_o HB.out) hb)) ?_; clear HB; intro HO112 HB))
      go_ret2
      exact ⟨_, rfl, by (with_reducible repeat (first | apply Kd.R_alloc | apply Kd.R_drewN | apply Kd.R_drew)); exact HO112.out, by exact bl_g HB.out⟩
     rw [if_neg c23] at H
     have c23b0 : ((Int.tmod a0 16) == 1) = false := beq_eq_false_iff_ne.mpr c23
     have c23b1 : ((Int.tmod a0 16) != 1) = true := bne_iff_ne.mpr c23
     by_cases c26 : (Int.tmod a0 16) = 9
     ·
      rw [if_pos c26] at H
      have c26b0 : ((Int.tmod a0 16) == 9) = true := beq_iff_eq.mpr c26
      have c26b1 : ((Int.tmod a0 16) != 9) = false := bne_eq_false_iff_eq.mpr c26
      clear c26
      replace H := Option.bind_eq_some_iff.mp H
      obtain ⟨t113, A270, H⟩ := H
      replace H : (some (t113, 0)) = some (r1, r2) := H
      have A27 := am A270
      clear A270
      simp only [Option.some.injEq, Prod.mk.injEq] at H
      obtain ⟨rfl, rfl⟩ := H
      go_wp2_with (first | ((with_reducible refine gate_callee (f := 45) rfl ?_); refine goesL_ (some 55) rfl rfl Try.func45 (by kernel_rfl) rfl #[.int .i64 (wrap64 (a1 - t105))] rfl (by simp only [ml]; try rfl) ?_; (with_reducible refine (gangwayref01_Sleb.calls kj15 (wrap64 (a1 - t105)) t113 _ A27.out).mono ?_); rintro e w28 ⟨v114, rfl, ho0, hb⟩; refine ⟨_, rfl, ?_⟩; refine mv2 (am (Kd.R_lower ho0 (below_size (by exact bl_o HB.out)))) (am (below_step (by exact bl_o HB.out) hb)) ?_; clear HB; intro HO115 HB))
      go_ret2
      exact ⟨_, rfl, by (with_reducible repeat (first | apply Kd.R_alloc | apply Kd.R_drewN | apply Kd.R_drew)); exact HO115.out, by exact bl_g HB.out⟩
     rw [if_neg c26] at H
     have c26b0 : ((Int.tmod a0 16) == 9) = false := beq_eq_false_iff_ne.mpr c26
     have c26b1 : ((Int.tmod a0 16) != 9) = true := bne_iff_ne.mpr c26
     by_cases c29 : t106 < 8
     rotate_left
     ·
      rw [if_neg c29] at H
      have c29b0 : decide (t106 < 8) = false := decide_eq_false c29
      clear c29
      replace H := Option.bind_eq_some_iff.mp H
      obtain ⟨⟨t122, t123⟩, A350, H⟩ := H
      replace H : (some (t122, 0)) = some (r1, r2) := H
      have A35 := am A350
      clear A350
      simp only [Option.some.injEq, Prod.mk.injEq] at H
      obtain ⟨rfl, rfl⟩ := H
      go_wp2_with (first | ((with_reducible refine gate_callee (f := 47) rfl ?_); refine goesL_ (some 71) rfl rfl Try.func47 (by kernel_rfl) rfl #[.int .i64 (wrap64 (a1 - t105)), .int .i64 t106] rfl (by simp only [ml]; try rfl) ?_; (with_reducible refine (gangwayref01_Put.calls kj15 (wrap64 (a1 - t105)) t106 t122 t123 _ A35.out).mono ?_); rintro e w36 ⟨v124, rfl, ho0, hb⟩; refine ⟨_, rfl, ?_⟩; refine mv2 (am (Kd.R_lower ho0 (below_size (by exact bl_o HB.out)))) (am (below_step (by exact bl_o HB.out) hb)) ?_; clear HB; intro HO125 HB))
      go_ret2
      exact ⟨_, rfl, by (with_reducible repeat (first | apply Kd.R_alloc | apply Kd.R_drewN | apply Kd.R_drew)); exact HO125.out, by exact bl_g HB.out⟩
     rw [if_pos c29] at H
     have c29b0 : decide (t106 < 8) = true := decide_eq_true c29
     clear c29
     replace H := Option.bind_eq_some_iff.mp H
     obtain ⟨t116, A300, H⟩ := H
     replace H : ((gangwayref01_Fits.f kj15 (wrap64 (a1 - t105)) (wrap64 (8 * t106)) (!t116)).bind fun t117 => (if t117 = true then ((gangwayref01_Put.f kj15 (wrap64 (a1 - t105)) t106).bind fun bt118 => (some (bt118.1, 0))) else (some (([] : List Int), 11)))) = some (r1, r2) := H
     have A30 := am A300
     clear A300
     replace H := Option.bind_eq_some_iff.mp H
     obtain ⟨t117, A310, H⟩ := H
     replace H : (if t117 = true then ((gangwayref01_Put.f kj15 (wrap64 (a1 - t105)) t106).bind fun bt118 => (some (bt118.1, 0))) else (some (([] : List Int), 11))) = some (r1, r2) := H
     have A31 := am A310
     clear A310
     by_cases c32 : t117 = true
     ·
      subst c32
      replace H : ((gangwayref01_Put.f kj15 (wrap64 (a1 - t105)) t106).bind fun bt118 => (some (bt118.1, 0))) = some (r1, r2) := by rw [if_pos rfl] at H; exact H
      replace H := Option.bind_eq_some_iff.mp H
      obtain ⟨⟨t118, t119⟩, A330, H⟩ := H
      replace H : (some (t118, 0)) = some (r1, r2) := H
      have A33 := am A330
      clear A330
      simp only [Option.some.injEq, Prod.mk.injEq] at H
      obtain ⟨rfl, rfl⟩ := H
      go_wp2_with (first | (go_at_call 43; (with_reducible refine (gangwayref14_plain.calls (Int.tmod a0 16) t116 _ A30.out).mono ?_); rintro e w' ⟨rfl, ⟨nd, rfl⟩⟩) | (go_at_call 46; (with_reducible refine (gangwayref01_Fits.calls kj15 (wrap64 (a1 - t105)) (wrap64 (8 * t106)) (!t116) true _ A31.out).mono ?_); rintro e w' ⟨rfl, ⟨nd, rfl⟩⟩) | ((with_reducible refine gate_callee (f := 47) rfl ?_); refine goesL_ (some 71) rfl rfl Try.func47 (by kernel_rfl) rfl #[.int .i64 (wrap64 (a1 - t105)), .int .i64 t106] rfl (by simp only [ml]; try rfl) ?_; (with_reducible refine (gangwayref01_Put.calls kj15 (wrap64 (a1 - t105)) t106 t118 t119 _ A33.out).mono ?_); rintro e w34 ⟨v120, rfl, ho0, hb⟩; refine ⟨_, rfl, ?_⟩; refine mv2 (am (Kd.R_lower ho0 (below_size (by exact bl_o HB.out)))) (am (below_step (by exact bl_o HB.out) hb)) ?_; clear HB; intro HO121 HB))
      go_ret2
      exact ⟨_, rfl, by (with_reducible repeat (first | apply Kd.R_alloc | apply Kd.R_drewN | apply Kd.R_drew)); exact HO121.out, by exact bl_g HB.out⟩
     replace c32 := Bool.eq_false_iff.mpr c32
     subst c32
     replace H : (some (([] : List Int), 11)) = some (r1, r2) := by rw [if_neg (show ¬ (false = true) by decide)] at H; exact H
     simp only [Option.some.injEq, Prod.mk.injEq] at H
     obtain ⟨rfl, rfl⟩ := H
     go_wp2_with (first | (go_at_call 43; (with_reducible refine (gangwayref14_plain.calls (Int.tmod a0 16) t116 _ A30.out).mono ?_); rintro e w' ⟨rfl, ⟨nd, rfl⟩⟩) | (go_at_call 46; (with_reducible refine (gangwayref01_Fits.calls kj15 (wrap64 (a1 - t105)) (wrap64 (8 * t106)) (!t116) false _ A31.out).mono ?_); rintro e w' ⟨rfl, ⟨nd, rfl⟩⟩))
     go_ret2
     exact ⟨_, rfl, by first | exact Kd.R_nil _ _ _ _ _ | exact Kd.N_nil _ _ _ _ _, by exact bl_g HB.out⟩
end Go.Proofs.Ytfgfnflhdabmcaa.G
end
section
namespace Go.Proofs.Ytfgfnflhdabmcaa.Eh
open Go.RowKit Go.Proofs.Ytfgfnflhdabmcaa.G Go.Proofs.YtfgfnflhdabmcaaW.PrintWords Go.Proofs.YtfgfnflhdabmcaaW.PrintLast Go.Proofs.YtfgfnflhdabmcaaW.PrintMore Go.Proofs.Ytfgfnflhdabmcaa.Bit Go.Proofs.Ytfgfnflhdabmcaa.Leb Go.Proofs.Ytfgfnflhdabmcaa.EhOf
theorem far_f (x : Int) : gangwayref14_far.f x = some (farB x) := by
  unfold gangwayref14_far.f farB
  by_cases h : x < -1152921504606846976
  · rw [if_pos h]; simp [h]
  · rw [if_neg h]; simp [h]
theorem dec_ite2 (x b : Int) : (if x ≥ 0 then some (decide (x < b)) else some false) = some (decide (0 ≤ x ∧ x < b)) := dec_ite x 0 b
theorem rfits_f (x s : Int) (g : Bool) (hs : s = 2 ∨ s = 4) (k : Nat) (hk : 1 ≤ k) : gangwayref01_Fits.f k x (wrap64 (8 * s)) g = some (fitsV x s g) := by
  obtain ⟨k, rfl⟩ : ∃ m, k = m + 1 := ⟨k - 1, by omega⟩
  have w15 : IntKind.u64.wrap (wrap64 (16 - 1)) = 15 := by decide +kernel
  have w31 : IntKind.u64.wrap (wrap64 (32 - 1)) = 31 := by decide +kernel
  have u16 : IntKind.u64.wrap 16 = 16 := by decide +kernel
  have u32 : IntKind.u64.wrap 32 = 32 := by decide +kernel
  have e2 : wrap64 (8 * 2) = 16 := by decide +kernel
  have e4 : wrap64 (8 * 4) = 32 := by decide +kernel
  have n15 : wrap64 (-32768) = -32768 := by decide +kernel
  have n31 : wrap64 (-2147483648) = -2147483648 := by decide +kernel
  unfold gangwayref01_Fits.f
  rcases hs with rfl | rfl
  · rw [e2, if_neg (by decide), gangwayref01_Fits.j0, if_neg (by decide)]
    cases g
    · rw [if_neg (by decide), if_neg (show ¬ (16 : Int) ≥ 63 by decide), u16, if_pos (show (0 : Int) ≤ 16 by decide), sh16]
      exact dec_ite2 x _
    · rw [if_pos rfl, if_neg (by decide), w15, if_pos (by decide), sh15, n15]
      exact dec_ite x _ _
  · rw [e4, if_neg (by decide), gangwayref01_Fits.j0, if_neg (by decide)]
    cases g
    · rw [if_neg (by decide), if_neg (show ¬ (32 : Int) ≥ 63 by decide), u32, if_pos (show (0 : Int) ≤ 32 by decide), sh32]
      exact dec_ite2 x _
    · rw [if_pos rfl, if_neg (by decide), w31, if_pos (by decide), sh31, n31]
      exact dec_ite x _ _
structure RefEnc (a0 s q : Int) (g : Bool) : Prop where
  enc : ∀ k, 10 ≤ k → gangwayref14_Encoding.f k a0 = some true
  bytes : ∀ k, 10 ≤ k → gangwayref14_bytes.f k (Int.tmod a0 16) = some s
  plain : gangwayref14_plain.f (Int.tmod a0 16) = some (!g)
  off : ∀ x y, gangwayref14_off.f a0 x y = some (offV q x y)
  uleb : Int.tmod a0 16 = 1 ↔ s = 0 ∧ g = false
  sleb : Int.tmod a0 16 = 9 ↔ s = 0 ∧ g = true
theorem fits_put {x s : Int} {g : Bool} (hs : s = 2 ∨ s = 4 ∨ s = 8) (h : fitsV x s g = true) : putV x s = (leB (x % 18446744073709551616) s.toNat, 0) := by
  have e1 : (2 : Int) ^ (8 * Int.toNat 2 - 1) = 32768 := by decide +kernel
  have e2 : (2 : Int) ^ (8 * Int.toNat 2) = 65536 := by decide +kernel
  have e3 : (2 : Int) ^ (8 * Int.toNat 4 - 1) = 2147483648 := by decide +kernel
  have e4 : (2 : Int) ^ (8 * Int.toNat 4) = 4294967296 := by decide +kernel
  unfold fitsV at h
  unfold putV
  rcases hs with rfl | rfl | rfl
  · rw [if_pos (by decide), e1, e2, if_neg]
    rw [if_pos rfl] at h
    cases g <;> simp at h <;> omega
  · rw [if_pos (by decide), e3, e4, if_neg]
    rw [if_neg (by decide), if_pos rfl] at h
    cases g <;> simp at h <;> omega
  · rw [if_pos (by decide), if_neg (by omega)]
theorem rput_k (n s : Int) (k : Nat) (hk : 30 ≤ k) : gangwayref01_Put.f k n s = some (putV n s) := at_rounds (g := fun k => gangwayref01_Put.f k n s) (fun k => gangwayref01_Put.mono _ _ k) hk (rput_f n s)
theorem rj1_f {a0 s q : Int} {g : Bool} (R : RefEnc a0 s q g) (hs : s = 0 ∨ s = 2 ∨ s = 4 ∨ s = 8) (x : Int) (hr : -1152921504606846976 ≤ x ∧ x ≤ 1152921504606846976) (h0 : g = true ∨ 0 ≤ x) (k : Nat) (hk : 40 ≤ k) :
    gangwayref14_Put.j1 k x (Int.tmod a0 16) s false = some (if s = 0 then (if g = true then (slebL x, 0) else (ulebL (x % 18446744073709551616).toNat, 0)) else if fitsV x s g = true then (leB (x % 18446744073709551616) s.toNat, 0) else ([], 11)) := by
  obtain ⟨k, rfl⟩ : ∃ m, k = m + 1 := ⟨k - 1, by omega⟩
  rw [gangwayref14_Put.j1, if_neg (by decide)]
  by_cases s0 : s = 0
  · rw [if_pos s0]
    cases g
    · rw [if_pos (R.uleb.2 ⟨s0, rfl⟩), ruleb_f x k (by omega)]
      rfl
    · rw [if_neg (fun e => by have := (R.uleb.1 e).2; cases this), if_pos (R.sleb.2 ⟨s0, rfl⟩), rsleb_f x (by omega) (by omega) k (by omega)]
      rfl
  · have hs' : s = 2 ∨ s = 4 ∨ s = 8 := by omega
    rw [if_neg s0, if_neg (fun e => s0 (R.uleb.1 e).1), if_neg (fun e => s0 (R.sleb.1 e).1), R.plain]
    simp only [Option.bind_some, Bool.not_not]
    by_cases s8 : s < 8
    · rw [if_pos s8, rfits_f x s g (by omega) k (by omega)]
      simp only [Option.bind_some]
      cases hfi : fitsV x s g
      · rfl
      · rw [if_pos rfl, if_pos rfl, rput_k x s k (by omega), fits_put hs' hfi]
        rfl
    · obtain rfl : s = 8 := by omega
      have hfi : fitsV x 8 g = true := by
        unfold fitsV
        rw [if_neg (by decide), if_neg (by decide)]
        rcases h0 with h0 | h0
        · rw [if_pos h0]
        · split
          · rfl
          · exact decide_eq_true h0
      rw [if_neg s8, if_pos hfi, rput_k x 8 k (by omega), fits_put hs' hfi]
      rfl
theorem ref_put {a0 s q : Int} {g : Bool} (R : RefEnc a0 s q g) (hs : s = 0 ∨ s = 2 ∨ s = 4 ∨ s = 8) (v at_ data : Int) (k : Nat) (hk : 60 ≤ k) : gangwayref14_Put.f k a0 v at_ data = some (putS s g q v at_ data) := by
  obtain ⟨k, rfl⟩ : ∃ m, k = m + 1 := ⟨k - 1, by omega⟩
  have bad : gangwayref14_Put.j0 (k + 1) a0 v at_ data true = some ([], 11) := by rw [gangwayref14_Put.j0, if_pos rfl]
  unfold gangwayref14_Put.f putS
  rw [R.enc (k + 1) (by omega)]
  simp only [Option.bind_some, if_true]
  rw [far_f v]
  simp only [Option.bind_some]
  cases hv : farB v
  · simp only [Bool.false_eq_true, if_false, false_or]
    rw [far_f at_]
    simp only [Option.bind_some]
    cases ha : farB at_
    · simp only [Bool.false_eq_true, if_false, false_or]
      rw [far_f data]
      simp only [Option.bind_some]
      cases hd : farB data
      · simp only [Bool.false_eq_true, if_false]
        rw [gangwayref14_Put.j0, if_neg (by decide), R.off, R.bytes k (by omega), R.plain]
        simp only [Option.bind_some]
        generalize wrap64 (v - offV q at_ data) = x
        unfold tailS
        cases hf : farB x
        · have hr := far_no hf
          rw [far_f x, hf]
          simp only [Option.bind_some, Bool.false_eq_true, false_or]
          cases g
          · simp only [Bool.not_false, if_true, true_and]
            by_cases hx : x < 0
            · obtain ⟨k, rfl⟩ : ∃ m, k = m + 1 := ⟨k - 1, by omega⟩
              rw [if_pos hx, if_pos hx, gangwayref14_Put.j1, if_pos rfl]
            · rw [if_neg hx, if_neg hx, rj1_f R hs x hr (.inr (by omega)) k (by omega)]
          · simp only [Bool.not_true, Bool.false_eq_true, if_false, Bool.true_eq_false, false_and]
            rw [rj1_f R hs x hr (.inl rfl) k (by omega)]
            simp only [if_true]
        · obtain ⟨k, rfl⟩ : ∃ m, k = m + 1 := ⟨k - 1, by omega⟩
          rw [far_f x, hf]
          simp only [Option.bind_some, true_or, if_true]
          have e : gangwayref14_Put.j1 (k + 1) x (Int.tmod a0 16) s true = some ([], 11) := by rw [gangwayref14_Put.j1, if_pos rfl]
          rw [e, ite_self, ite_self]
      · simp only [if_true]
        exact bad
    · simp only [if_true, true_or]
      exact bad
  · simp only [if_true, true_or]
    exact bad
theorem off_of {a0 q : Int} (e : wrap64 (wrap64 (Int.tdiv a0 16) * 16) = q) (x y : Int) : gangwayref14_off.f a0 x y = some (offV q x y) := by
  unfold gangwayref14_off.f offV
  rw [e]
  split
  · rfl
  · split <;> rfl
theorem enc_ref (a0 : Int) (h : a0 ∈ [0, 1, 2, 3, 4, 9, 10, 11, 12, 16, 17, 18, 19, 20, 25, 26, 27, 28, 48, 49, 50, 51, 52, 57, 58, 59, 60]) :
    ofF a0 = ((ofF a0).1, (ofF a0).2.1, (ofF a0).2.2.1, true) ∧ ((ofF a0).1 = 0 ∨ (ofF a0).1 = 2 ∨ (ofF a0).1 = 4 ∨ (ofF a0).1 = 8) ∧ RefEnc a0 (ofF a0).1 (ofF a0).2.2.1 (ofF a0).2.1 := by
  have up : ∀ (b : Int) (k : Nat), 10 ≤ k → ∀ {r}, gangwayref14_bytes.f 10 b = some r → gangwayref14_bytes.f k b = some r := fun b k hk {r} e => at_rounds (g := fun k => gangwayref14_bytes.f k b) (fun k => gangwayref14_bytes.mono _ k) hk e
  have upE : ∀ (b : Int) (k : Nat), 10 ≤ k → ∀ {r}, gangwayref14_Encoding.f 10 b = some r → gangwayref14_Encoding.f k b = some r := fun b k hk {r} e => at_rounds (g := fun k => gangwayref14_Encoding.f k b) (fun k => gangwayref14_Encoding.mono _ k) hk e
  simp only [List.mem_cons, List.not_mem_nil, or_false] at h
  rcases h with rfl | rfl | rfl | rfl | rfl | rfl | rfl | rfl | rfl | rfl | rfl | rfl | rfl | rfl | rfl | rfl | rfl | rfl | rfl | rfl | rfl | rfl | rfl | rfl | rfl | rfl | rfl
  all_goals exact ⟨by decide +kernel, by decide +kernel, ⟨fun k hk => upE _ k hk (by decide +kernel), fun k hk => up _ k hk (by decide +kernel), by decide +kernel, off_of (by decide +kernel), by decide +kernel, by decide +kernel⟩⟩
theorem enc_bad (a0 : Int) (w0 : -9223372036854775808 ≤ a0) (w1 : a0 ≤ 9223372036854775807) (h : ¬ a0 ∈ [0, 1, 2, 3, 4, 9, 10, 11, 12, 16, 17, 18, 19, 20, 25, 26, 27, 28, 48, 49, 50, 51, 52, 57, 58, 59, 60]) : (ofF a0).2.2.2 = false ∧ ∀ k, 10 ≤ k → gangwayref14_Encoding.f k a0 = some false := by
  refine ⟨?_, fun k hk => ?_⟩
  · cases hb : (ofF a0).2.2.2
    · rfl
    · exact absurd (enc_good a0 ⟨(ofF a0).1, (ofF a0).2.2.1, (ofF a0).2.1, by rw [← hb]⟩) h
  · unfold gangwayref14_Encoding.f
    by_cases h0 : a0 < 0
    · rw [if_pos h0]
    · rw [if_neg h0]
      have hm : Int.tmod a0 16 = a0 % 16 := Int.tmod_eq_emod_of_nonneg (by omega)
      have hd : Int.tdiv a0 16 = a0 / 16 := Int.tdiv_eq_ediv_of_nonneg (by omega)
      have hq : wrap64 (wrap64 (Int.tdiv a0 16) * 16) = a0 - a0 % 16 := by rw [hd]; unfold wrap64; omega
      have up : ∀ (b : Int), ∀ {r}, gangwayref14_bytes.f 10 b = some r → gangwayref14_bytes.f k b = some r := fun b {r} e => at_rounds (g := fun k => gangwayref14_bytes.f k b) (fun k => gangwayref14_bytes.mono _ k) hk e
      rw [hq, hm]
      have h16 : a0 % 16 = 0 ∨ a0 % 16 = 1 ∨ a0 % 16 = 2 ∨ a0 % 16 = 3 ∨ a0 % 16 = 4 ∨ a0 % 16 = 5 ∨ a0 % 16 = 6 ∨ a0 % 16 = 7 ∨ a0 % 16 = 8 ∨ a0 % 16 = 9 ∨ a0 % 16 = 10 ∨ a0 % 16 = 11 ∨ a0 % 16 = 12 ∨ a0 % 16 = 13 ∨ a0 % 16 = 14 ∨ a0 % 16 = 15 := by omega
      have two : ∀ (m r : Int), a0 % 16 = m → gangwayref14_bytes.f 10 m = some r → ((0 ≤ r) → ¬ (a0 - a0 % 16 = 0 ∨ a0 - a0 % 16 = 16 ∨ a0 - a0 % 16 = 48)) →
          ((gangwayref14_bytes.f k (a0 % 16)).bind fun t101 => (if t101 < 0 then (some false) else (if a0 - a0 % 16 = 0 then (some true) else (if a0 - a0 % 16 = 16 then (some true) else (some (a0 - a0 % 16 == 48)))))) = some false := by
        intro m r e hr hn
        rw [e, up m hr]
        simp only [Option.bind_some]
        by_cases h1 : r < 0
        · rw [if_pos h1]
        · have h2 := hn (by omega)
          rw [e] at h2
          rw [if_neg h1, if_neg (fun x => h2 (.inl x)), if_neg (fun x => h2 (.inr (.inl x))), show (a0 - m == 48) = false from beq_eq_false_iff_ne.2 (fun x => h2 (.inr (.inr x)))]
      have no : ∀ {P : Prop}, ¬ (0 : Int) ≤ -1 → (0 : Int) ≤ -1 → P := fun h1 h2 => absurd h2 h1
      simp only [List.mem_cons, List.not_mem_nil, or_false] at h
      rcases h16 with e | e | e | e | e | e | e | e | e | e | e | e | e | e | e | e
      · exact two 0 8 e (by decide +kernel) (by omega)
      · exact two 1 0 e (by decide +kernel) (by omega)
      · exact two 2 2 e (by decide +kernel) (by omega)
      · exact two 3 4 e (by decide +kernel) (by omega)
      · exact two 4 8 e (by decide +kernel) (by omega)
      · exact two 5 (-1) e (by decide +kernel) (by omega)
      · exact two 6 (-1) e (by decide +kernel) (by omega)
      · exact two 7 (-1) e (by decide +kernel) (by omega)
      · exact two 8 (-1) e (by decide +kernel) (by omega)
      · exact two 9 0 e (by decide +kernel) (by omega)
      · exact two 10 2 e (by decide +kernel) (by omega)
      · exact two 11 4 e (by decide +kernel) (by omega)
      · exact two 12 8 e (by decide +kernel) (by omega)
      · exact two 13 (-1) e (by decide +kernel) (by omega)
      · exact two 14 (-1) e (by decide +kernel) (by omega)
      · exact two 15 (-1) e (by decide +kernel) (by omega)
theorem put_same (a0 v at_ data : Int) (w0 : -9223372036854775808 ≤ a0 ∧ a0 ≤ 9223372036854775807) (hv : -9223372036854775808 ≤ v ∧ v ≤ 9223372036854775807) (k : Nat) (hk : 60 ≤ k) :
    ∃ r, ehframe_Put.f k a0 v at_ data = some r ∧ gangwayref14_Put.f k a0 v at_ data = some r := by
  by_cases h : a0 ∈ [0, 1, 2, 3, 4, 9, 10, 11, 12, 16, 17, 18, 19, 20, 25, 26, 27, 28, 48, 49, 50, 51, 52, 57, 58, 59, 60]
  · obtain ⟨h1, h2, h3⟩ := enc_ref a0 h
    exact ⟨_, prog_put h1 h2 v at_ data hv k (by omega), ref_put h3 h2 v at_ data k hk⟩
  · obtain ⟨h1, h2⟩ := enc_bad a0 w0.1 w0.2 h
    refine ⟨([], 140), ?_, ?_⟩
    · unfold ehframe_Put.f
      rw [show ehframe_of.f a0 = some ((ofF a0).1, (ofF a0).2.1, (ofF a0).2.2.1, false) from congrArg some (by rw [← h1])]
      rfl
    · unfold gangwayref14_Put.f
      rw [h2 k (by omega)]
      rfl
end Go.Proofs.Ytfgfnflhdabmcaa.Eh
end
section
namespace Go.Proofs.Ytfgfnflhdabmcaa.CfaR
open Go.RowKit Go.Proofs.Ytfgfnflhdabmcaa.G Go.Proofs.YtfgfnflhdabmcaaW.PrintWords Go.Proofs.YtfgfnflhdabmcaaW.PrintLast Go.Proofs.YtfgfnflhdabmcaaW.PrintMore Go.Proofs.Ytfgfnflhdabmcaa.Cfa
theorem info155 : (Try.prog.info? 155).map (fun i => (i.zero, i.size, i.bytes)) = some (some (.agg (Array.replicate 37 (.int .i64 0))), 37, 296) := by kernel_rfl
def cells (rv kv : Value) (t : T) : List Value := rv :: (nums .i64 t.now ++ (nums .i64 t.first ++ [kv, .int .i64 t.size]))
structure Tab (w : World) (base g : Nat) (t : T) (rv kv : Value) : Prop where
  good : Cfa.Good t
  lo : base ≤ g
  blk : w.heap[g]? = some (.cells (cells rv kv t).toArray 157 (0, 0))
  rows : Kd.R rowK 155 w base (fun k => k ≠ g ∧ some k ≠ kv.ownBlock) rv t.rows
  kept : Kd.R rowK 155 w base (fun k => k ≠ g ∧ some k ≠ rv.ownBlock) kv t.kept
section
variable {w w' : World} {base g : Nat} {t t' : T} {rv kv rv' kv' : Value}
theorem cells_len (h : Cfa.Good t) : (cells rv kv t).length = 77 := by
 simp [cells, nums_length, h.now, h.first]
theorem cells_now (h : Cfa.Good t) (j : Nat) (hj : j < 37) : (cells rv kv t)[1 + j]? = some (.int .i64 (t.now.getD j 0)) := by
 rw [cells, Nat.add_comm, List.getElem?_cons_succ, List.getElem?_append_left (by rw [nums_length, h.now]; exact hj)]
 exact nums_get (by rw [h.now]; exact hj)
theorem cells_first (h : Cfa.Good t) (j : Nat) (hj : j < 37) : (cells rv kv t)[38 + j]? = some (.int .i64 (t.first.getD j 0)) := by
 rw [cells, show 38 + j = (37 + j) + 1 from by omega, List.getElem?_cons_succ, List.getElem?_append_right (by rw [nums_length, h.now]; omega), nums_length, h.now, Nat.add_sub_cancel_left,
   List.getElem?_append_left (by rw [nums_length, h.first]; exact hj)]
 exact nums_get (by rw [h.first]; exact hj)
theorem cells_tail (h : Cfa.Good t) (j : Nat) : (cells rv kv t)[75 + j]? = [kv, .int .i64 t.size][j]? := by
 rw [cells, show 75 + j = (74 + j) + 1 from by omega, List.getElem?_cons_succ, List.getElem?_append_right (by rw [nums_length, h.now]; omega), nums_length, h.now,
   List.getElem?_append_right (by rw [nums_length, h.first]; omega), nums_length, h.first, show 74 + j - 37 - 37 = j from by omega]
theorem Tab.cell (h : Tab w base g t rv kv) (j : Nat) : w.cell? ⟨g, j, none⟩ = (cells rv kv t)[j]? := by
 rw [cell_of_row w g j _ _ _ h.blk, List.getElem?_toArray]
theorem Tab.free (h : Tab w base g t rv kv) (j : Nat) : w.frozen? ⟨g, j, none⟩ = false := blk_frozen h.blk j
theorem Tab.rowsC (h : Tab w base g t rv kv) : w.cell? ⟨g, 0, none⟩ = some rv := by rw [h.cell]; rfl
theorem Tab.now (h : Tab w base g t rv kv) (j : Nat) (hj : j < 37) : w.cell? ⟨g, 1 + j, none⟩ = some (.int .i64 (t.now.getD j 0)) := by rw [h.cell, cells_now h.good j hj]
theorem Tab.first (h : Tab w base g t rv kv) (j : Nat) (hj : j < 37) : w.cell? ⟨g, 38 + j, none⟩ = some (.int .i64 (t.first.getD j 0)) := by rw [h.cell, cells_first h.good j hj]
theorem Tab.keptC (h : Tab w base g t rv kv) : w.cell? ⟨g, 75, none⟩ = some kv := by rw [h.cell]; exact cells_tail h.good 0
theorem Tab.size (h : Tab w base g t rv kv) : w.cell? ⟨g, 76, none⟩ = some (.int .i64 t.size) := by rw [h.cell]; exact cells_tail h.good 1
theorem Tab.below (h : Tab w base g t rv kv) (hb : Below w.heap.size w w') : Tab w' base g t rv kv :=
  ⟨h.good, h.lo, blk_below h.blk hb, Kd.R_below h.rows hb, Kd.R_below h.kept hb⟩
theorem Tab.turn (h : Tab w base g t rv kv) (hg : w.grownBy w' (some g)) (good : Cfa.Good t') (hb : w'.heap[g]? = some (.cells (cells rv kv t').toArray 157 (0, 0))) (hr : t'.rows = t.rows) (hk : t'.kept = t.kept) : Tab w' base g t' rv kv :=
  ⟨good, h.lo, hb, by rw [hr]; exact Kd.R_grown h.rows hg (fun k hk e => hk.1 (Option.some.inj e)), by rw [hk]; exact Kd.R_grown h.kept hg (fun k hk e => hk.1 (Option.some.inj e))⟩
theorem set_now (hb : w.heap[g]? = some (.cells (cells rv kv t).toArray 157 (0, 0))) (h : Cfa.Good t) (j : Nat) (hj : j < 37) (x : Int) :
    (w.setCell ⟨g, 1 + j, none⟩ (.int .i64 x)).heap[g]? = some (.cells (cells rv kv { t with now := t.now.set j x }).toArray 157 (0, 0)) := by
 refine blk_put hb _ _ ?_
 rw [List.setIfInBounds_toArray, cells, cells, Nat.add_comm, List.set_cons_succ, List.set_append_left _ _ (by rw [nums_length, h.now]; exact hj)]
 simp [nums, List.map_set]
theorem set_rows (hb : w.heap[g]? = some (.cells (cells rv kv t).toArray 157 (0, 0))) (v : Value) (rs : List Row) :
    (w.setCell ⟨g, 0, none⟩ v).heap[g]? = some (.cells (cells v kv { t with rows := rs }).toArray 157 (0, 0)) := by
 refine blk_put hb _ _ ?_
 rw [List.setIfInBounds_toArray]
 rfl
theorem set_kept (hb : w.heap[g]? = some (.cells (cells rv kv t).toArray 157 (0, 0))) (h : Cfa.Good t) (v : Value) (ks : List Row) :
    (w.setCell ⟨g, 75, none⟩ v).heap[g]? = some (.cells (cells rv v { t with kept := ks }).toArray 157 (0, 0)) := by
 refine blk_put hb _ _ ?_
 rw [List.setIfInBounds_toArray, cells, cells, show 75 = 74 + 1 from rfl, List.set_cons_succ, List.set_append_right _ _ (by rw [nums_length, h.now]; omega), nums_length, h.now,
   List.set_append_right _ _ (by rw [nums_length, h.first]; omega), nums_length, h.first]
 rfl
theorem rule_at (g o m : Nat) (hm : m ≤ 16) (W : World) : (Instr.indexAt 153 (.pointer (some ⟨g, o, none⟩)) (.int .i64 (m : Int))).run Try.prog W = .ok (.pointer (some ⟨g, o + m * 2, none⟩)) W := by
 have h1 : Try.prog.arrayLen 153 = 17 := by kernel_rfl
 have h2 : Try.prog.elem 153 = 152 := by kernel_rfl
 have h3 : (sizeOf 152).run Try.prog W = .ok 2 W := by kernel_rfl
 rw [run_indexAt_array (P := Try.prog) W _ _ _ _ (by rw [h1, h2]; exact Try.underlying153), h1, if_pos (by omega), h2, h3]
 simp only [Result.andThen, Int.toNat_natCast, Addr.add_mid]
theorem build_row (l : List Int) (hl : l.length = 37) (W : World) : (Instr.buildSlice 114 1 #[(0, .agg (nums .i64 l).toArray)]).run Try.prog W = .ok (.slice (some ⟨W.heap.size, 0, none⟩) 1 1) (W.alloc (.cells (nums .i64 l).toArray 155)) := by
 obtain ⟨i0, hi, hzz⟩ := Option.map_eq_some_iff.1 info155
 simp only [Prod.mk.injEq] at hzz
 obtain ⟨hz0, hz1, hz2⟩ := hzz
 refine run_buildSlice (P := Try.prog) W _ 155 1 _ _ i0 _ Try.underlying114 hi hz0 (by rw [hz1]; decide) (by rw [hz1]; decide) ?_
 have hn : (nums .i64 l).length = 37 := by rw [nums_length, hl]
 simp only [Instr.fill, hz1, Nat.zero_mul, Value.cells, List.size_toArray, hn]
 rw [if_neg (by simp)]
 simp only [Option.some.injEq]
 exact fill_all _ _ (by simp [hn])
theorem wp_build_row {o : Oper} {a : Act} {w : World} {K : Act → World → Prop} {Q : Exit → Act → World → Prop} (x : Operand) (ho : o.op = .buildSlice 114 1 #[(0, x)]) (l : List Int) (hl : l.length = 37) (hx : a.eval x = .agg (nums .i64 l).toArray)
    (h : K (a.put o.dst (.slice (some ⟨w.heap.size, 0, none⟩) 1 1)) (w.alloc (.cells (nums .i64 l).toArray 155))) : o.wp Try.prog a w K Q := by
 unfold Oper.wp execOp
 have hb := build_row l hl w
 simp only [ho, List.map_toArray, List.map_cons, List.map_nil, hx, Sem.run_bind, hb, Result.andThen_ok]
 exact h
theorem load_row_y {ops : Array Oper} {S : World → Prop} {op : Oper} {a : Act} (hw : Region.wanted op (yielded ops a.tmps) = true) (x : Operand) (ho : op.op = .load 155 x) (b o : Nat) (hx : a.eval x = .pointer (some ⟨b, o, none⟩)) (l : List Int) (hl : l.length = 37)
    (hS : ∀ w, S w → w.rangeAt b o (nums .i64 l)) : YieldsIf Try.prog ops S op (.agg (nums .i64 l).toArray) a :=
  yieldsIf_load_mid hw 155 x ho b o hx _ _ hS Try.underlying155 rfl (by rw [nums_length, hl]; kernel_rfl)
section
variable {w w1 W : World} {base g : Nat} {t : T} {rv kv v1 : Value}
theorem Tab.nowR (h : Tab w base g t rv kv) : w.rangeAt g 1 (nums .i64 t.now) := fun j v hv => by
  have hj : j < 37 := by
    have := (List.getElem?_eq_some_iff.1 hv).1
    rwa [nums_length, h.good.now] at this
  rw [h.now j hj, ← hv, nums_get (by rw [h.good.now]; exact hj)]
theorem Tab.kept_app (h : Tab w base g t rv kv) (hb : Below w.heap.size w W) (hg : W.grownBy w1 kv.ownBlock) (hat : v1.ownBlock = kv.ownBlock ∨ ∃ b, v1.ownBlock = some b ∧ W.heap.size ≤ b) {ks : List Row} (ho : Kd.R rowK 155 w1 base (fun k => k ≠ g ∧ some k ≠ rv.ownBlock) v1 ks)
    (good : Cfa.Good { t with kept := ks }) : Tab (w1.setCell ⟨g, 75, none⟩ v1) base g { t with kept := ks } rv v1 := by
 have h1 := h.below hb
 have hc := blk_grown h1.blk hg (fun e => (h1.kept.1 g e.symm).1 rfl)
 exact ⟨good, h.lo, set_kept hc h.good v1 ks, Kd.R_far (p := ⟨g, 75, none⟩) (R_beside (e' := 0) h1.rows hg hat) (fun k hk => hk.1) v1, Kd.R_far (p := ⟨g, 75, none⟩) ho (fun k hk => hk.1) v1⟩
theorem Tab.rows_app (h : Tab w base g t rv kv) (hb : Below w.heap.size w W) (hg : W.grownBy w1 rv.ownBlock) (hat : v1.ownBlock = rv.ownBlock ∨ ∃ b, v1.ownBlock = some b ∧ W.heap.size ≤ b) {rs : List Row} (ho : Kd.R rowK 155 w1 base (fun k => k ≠ g ∧ some k ≠ kv.ownBlock) v1 rs)
    (good : Cfa.Good { t with rows := rs }) : Tab (w1.setCell ⟨g, 0, none⟩ v1) base g { t with rows := rs } v1 kv := by
 have h1 := h.below hb
 have hc := blk_grown h1.blk hg (fun e => (h1.rows.1 g e.symm).1 rfl)
 exact ⟨good, h.lo, set_rows hc v1 rs, Kd.R_far (p := ⟨g, 0, none⟩) ho (fun k hk => hk.1) v1, Kd.R_far (p := ⟨g, 0, none⟩) (R_beside (e' := 0) h1.kept hg hat) (fun k hk => hk.1) v1⟩
end
end
theorem rowTy : RowTy 155 114 := ⟨info155, ⟨_, Try.underlying155, rfl⟩, Try.underlying114⟩
section
variable {w w' : World} {base g : Nat} {t t' : T} {rv kv : Value}
theorem set_nowAll (hb : w.heap[g]? = some (.cells (cells rv kv t).toArray 157 (0, 0))) (h : Cfa.Good t) (l : Row) (hl : l.length = 37) :
    (w.setCells g 1 (nums .i64 l)).heap[g]? = some (.cells (cells rv kv { t with now := l }).toArray 157 (0, 0)) := by
 rw [setCells_block _ hb (by rw [nums_length, hl, List.size_toArray, cells_len h]; omega), nums_length, hl]
 rw [cells, cells]
 simp only [List.take_succ_cons, List.take_zero, List.drop_succ_cons, List.cons_append, List.nil_append]
 rw [List.drop_left' (by rw [nums_length, h.now])]
theorem set_firstAll (hb : w.heap[g]? = some (.cells (cells rv kv t).toArray 157 (0, 0))) (h : Cfa.Good t) (l : Row) (hl : l.length = 37) :
    (w.setCells g 38 (nums .i64 l)).heap[g]? = some (.cells (cells rv kv { t with first := l }).toArray 157 (0, 0)) := by
 rw [setCells_block _ hb (by rw [nums_length, hl, List.size_toArray, cells_len h]; omega), nums_length, hl]
 rw [cells, cells]
 have h1 : (nums .i64 t.now).length = 37 := by rw [nums_length, h.now]
 have h2 : (nums .i64 t.first).length = 37 := by rw [nums_length, h.first]
 rw [show 38 = 37 + 1 from rfl, show 37 + 1 + 37 = 74 + 1 from rfl, List.take_succ_cons, List.drop_succ_cons, List.take_left' h1, ← List.append_assoc (nums .i64 t.now), List.drop_left' (by rw [List.length_append, h1, h2])]
 simp only [List.cons_append, List.append_assoc]
end
end Go.Proofs.Ytfgfnflhdabmcaa.CfaR
end
section
namespace Go.Proofs.Ytfgfnflhdabmcaa.CfaR
open Go.RowKit Go.Proofs.Ytfgfnflhdabmcaa.G Go.Proofs.YtfgfnflhdabmcaaW.PrintWords Go.Proofs.YtfgfnflhdabmcaaW.PrintLast Go.Proofs.YtfgfnflhdabmcaaW.PrintMore
theorem b_ne {a b : Int} (h : a ≠ b) : (a == b) = false := beq_eq_false_iff_ne.mpr h
theorem far_eq (n : Int) : decide (n < 2147483648) = decide (n ≤ 2147483647) := decide_eq_decide.2 (by omega)
set_option maxHeartbeats 4000000 in
theorem may_calls (k r n : Int) (w : World) : Calls Try.prog 80 #[.agg #[.int .i64 k, .int .i64 r, .int .i64 n]] w fun e w' => e = .returned (.bool (mayF k r n)) ∧ Below w.heap.size w w' := by
 go_enter Try.func80, Try.ntmps80
 go_upto_region 1 with fail
 have hb0 := blk_new w (.cells #[.int .i64 k, .int .i64 r, .int .i64 n] 97)
 have hB0 := below_alloc (Below.refl w.heap.size w) (.cells #[.int .i64 k, .int .i64 r, .int .i64 n] 97)
 obtain ⟨w0, hw0⟩ : ∃ w0, w0 = w.alloc (.cells #[.int .i64 k, .int .i64 r, .int .i64 n] 97) := ⟨_, rfl⟩
 rw [← hw0] at hb0 hB0 ⊢
 clear hw0
 have HB := am hB0
 have y0 : w0.cell? ⟨w.heap.size, 0, none⟩ = some (.int .i64 k) := (blk_cell hb0 0).trans rfl
 have y1 : w0.cell? ⟨w.heap.size, 1, none⟩ = some (.int .i64 r) := (blk_cell hb0 1).trans rfl
 have y2 : w0.cell? ⟨w.heap.size, 2, none⟩ = some (.int .i64 n) := (blk_cell hb0 2).trans rfl
 clear hb0 hB0
 go_cut [3] (fun v3 wc => wc = w0 ∧ v3 = .bool (decide (0 ≤ r) && decide (r ≤ 16)))
 case first =>
  cases h1 : decide (0 ≤ r) with
  | false =>
   go_wp2
   go_meet
   exact ⟨rfl, by simp [h1]⟩
  | true =>
   cases h2 : decide (r ≤ 16) <;>
   ·
    go_wp2
    go_meet
    exact ⟨rfl, by simp [h1, h2]⟩
 case rest =>
  obtain ⟨rfl, rfl⟩ := hcut
  have HR : Aside0 (∀ b, b = (decide (0 ≤ r) && decide (r ≤ 16)) → b = (decide (0 ≤ r) && decide (r ≤ 16))) := ⟨fun _ h => h⟩
  obtain ⟨reg, hreg⟩ : ∃ b, b = (decide (0 ≤ r) && decide (r ≤ 16)) := ⟨_, rfl⟩
  rw [← hreg]
  have HREG := am hreg
  clear hreg HR
  go_upto_region 2 with fail
  go_cut [4] (fun v4 wc2 => wc2 = wc ∧ v4 = .bool (decide (0 ≤ n) && decide (n < 2147483648)))
  case first =>
   cases h1 : decide (0 ≤ n) with
   | false =>
    go_wp2
    go_meet
    exact ⟨rfl, by simp [h1]⟩
   | true =>
    cases h2 : decide (n < 2147483648) <;>
    ·
     go_wp2
     go_meet
     exact ⟨rfl, by simp [h1, h2]⟩
  case rest =>
   obtain ⟨rfl, rfl⟩ := hcut
   obtain ⟨far, hfar⟩ : ∃ b, b = (decide (0 ≤ n) && decide (n < 2147483648)) := ⟨_, rfl⟩
   rw [← hfar]
   rw [far_eq] at hfar
   have HFAR := am hfar
   clear hfar
   by_cases k0 : k = 0 ∨ k = 9 ∨ k = 10
   ·
    have e : mayF k r n = (decide (r = 0) && decide (n = 0)) := by rcases k0 with rfl | rfl | rfl <;> rfl
    have HE := am e
    clear e
    by_cases hr : r = 0
    rotate_left
    ·
     have hr' := b_ne hr
     rcases k0 with rfl | rfl | rfl <;>
     ·
      go_wp2
      go_ret
      exact ⟨by rw [HE.out, decide_eq_false hr]; rfl, HB.out⟩
    by_cases hn : n = 0
    ·
     rcases k0 with rfl | rfl | rfl <;>
     ·
      go_wp2
      go_ret
      exact ⟨by rw [HE.out, hr, hn]; rfl, HB.out⟩
    have hn' := b_ne hn
    rcases k0 with rfl | rfl | rfl <;>
    ·
     go_wp2
     go_ret
     exact ⟨by rw [HE.out, hr, decide_eq_false hn]; rfl, HB.out⟩
   by_cases k1 : k = 1 ∨ k = 3
   ·
    have e : mayF k r n = (decide (r = 0) && far) := by rw [HFAR.out]; rcases k1 with rfl | rfl <;> rfl
    have HE := am e
    clear e k0
    by_cases hr : r = 0
    ·
     rcases k1 with rfl | rfl <;>
     ·
      go_wp2
      go_ret
      exact ⟨by rw [HE.out, hr]; rfl, HB.out⟩
    have hr' := b_ne hr
    rcases k1 with rfl | rfl <;>
    ·
     go_wp2
     go_ret
     exact ⟨by rw [HE.out, decide_eq_false hr]; rfl, HB.out⟩
   by_cases k2 : k = 2
   ·
    have e : mayF k r n = (reg && far) := by rw [HFAR.out, HREG.out, k2, Bool.and_assoc]; rfl
    have HE := am e
    clear e k0 k1
    subst k2
    cases reg <;>
    ·
     go_wp2
     go_ret
     exact ⟨by rw [HE.out]; rfl, HB.out⟩
   by_cases k4 : k = 4 ∨ k = 6 ∨ k = 7 ∨ k = 8
   ·
    have e : mayF k r n = (reg && decide (n = 0)) := by rw [HREG.out, Bool.and_comm]; rcases k4 with rfl | rfl | rfl | rfl <;> rfl
    have HE := am e
    clear e k0 k1 k2
    cases reg with
    | false =>
     rcases k4 with rfl | rfl | rfl | rfl <;>
     ·
      go_wp2
      go_ret
      exact ⟨by rw [HE.out]; rfl, HB.out⟩
    | true =>
     by_cases hn : n = 0
     ·
      rcases k4 with rfl | rfl | rfl | rfl <;>
      ·
       go_wp2
       go_ret
       exact ⟨by rw [HE.out, hn]; rfl, HB.out⟩
     have hn' := b_ne hn
     rcases k4 with rfl | rfl | rfl | rfl <;>
     ·
      go_wp2
      go_ret
      exact ⟨by rw [HE.out, decide_eq_false hn]; rfl, HB.out⟩
   by_cases k5 : k = 5
   ·
    have e : mayF k r n = (reg && decide (-2147483648 ≤ n) && decide (n < 2147483648) && decide (n.tmod 8 = 0)) := by
     rw [HREG.out, k5]
     show (decide (n.tmod 8 = 0) && (decide (0 ≤ r) && (decide (r ≤ 16) && (decide (-2147483648 ≤ n) && decide (n ≤ 2147483640))))) = _
     by_cases h8 : n.tmod 8 = 0
     ·
      have hd : (8 : Int) ∣ n := Int.dvd_of_tmod_eq_zero h8
      have : decide (n ≤ 2147483640) = decide (n < 2147483648) := decide_eq_decide.2 (by omega)
      rw [this, decide_eq_true h8, Bool.true_and, Bool.and_true, Bool.and_assoc, Bool.and_assoc]
     rw [decide_eq_false h8, Bool.false_and, Bool.and_false]
    have HE := am e
    clear e k0 k1 k2 k4
    subst k5
    cases reg with
    | false =>
     go_wp2
     go_ret
     exact ⟨by rw [HE.out]; rfl, HB.out⟩
    | true =>
     cases h1 : decide (-2147483648 ≤ n) with
     | false =>
      go_wp2
      go_ret
      exact ⟨by rw [HE.out, h1]; rfl, HB.out⟩
     | true =>
      cases h2 : decide (n < 2147483648) with
      | false =>
       go_wp2
       go_ret
       exact ⟨by rw [HE.out, h1, h2]; rfl, HB.out⟩
      | true =>
       by_cases h8 : n.tmod 8 = 0
       ·
        go_wp2
        go_ret
        exact ⟨by rw [HE.out, h1, h2, decide_eq_true h8]; rfl, HB.out⟩
       have h8' := b_ne h8
       go_wp2
       go_ret
       exact ⟨by rw [HE.out, h1, h2, decide_eq_false h8]; rfl, HB.out⟩
   have e : mayF k r n = false := by
    unfold mayF
    rw [if_neg k0, if_neg k1, if_neg k2, if_neg k4, if_neg k5]
   have HE := am e
   have q0 := b_ne (a := k) (b := 0) (by omega)
   have q1 := b_ne (a := k) (b := 1) (by omega)
   have q2 := b_ne (a := k) (b := 2) (by omega)
   have q3 := b_ne (a := k) (b := 3) (by omega)
   have q4 := b_ne (a := k) (b := 4) (by omega)
   have q5 := b_ne (a := k) (b := 5) (by omega)
   have q6 := b_ne (a := k) (b := 6) (by omega)
   have q7 := b_ne (a := k) (b := 7) (by omega)
   have q8 := b_ne (a := k) (b := 8) (by omega)
   have q9 := b_ne (a := k) (b := 9) (by omega)
   have q10 := b_ne (a := k) (b := 10) (by omega)
   clear e k0 k1 k2 k4 k5
   go_wp2
   go_ret
   exact ⟨by rw [HE.out]; rfl, HB.out⟩
end Go.Proofs.Ytfgfnflhdabmcaa.CfaR
end
section
namespace Go.Proofs.Ytfgfnflhdabmcaa.G
open Go.RowKit Go.Proofs.YtfgfnflhdabmcaaW.PrintWords Go.Proofs.YtfgfnflhdabmcaaW.PrintLast Go.Proofs.YtfgfnflhdabmcaaW.PrintMore
attribute [local go_sem] max2_int min2_int max_two min_two max_three min_three max_four min_four
def gangwayref13_May.f (k : Nat) (a0_0 a0_1 a0_2 : Int) : Option Bool := some (mayF a0_0 a0_1 a0_2)
theorem gangwayref13_May.calls (k : Nat) (a0_0 : Int) (a0_1 : Int) (a0_2 : Int) (r : Bool) (w : World) (h : gangwayref13_May.f k a0_0 a0_1 a0_2 = some r) :
    Calls Try.prog 80 #[.agg #[.int .i64 a0_0, .int .i64 a0_1, .int .i64 a0_2]] w fun e w' => e = .returned (.bool r) ∧ Below w.heap.size w w' := by
 obtain rfl := Option.some.inj h
 exact CfaR.may_calls a0_0 a0_1 a0_2 w
end Go.Proofs.Ytfgfnflhdabmcaa.G
end
section
namespace Go.Proofs.Ytfgfnflhdabmcaa.CfaR
open Go.RowKit Go.Proofs.Ytfgfnflhdabmcaa.G Go.Proofs.YtfgfnflhdabmcaaW.PrintWords Go.Proofs.YtfgfnflhdabmcaaW.PrintLast Go.Proofs.YtfgfnflhdabmcaaW.PrintMore Go.Proofs.Ytfgfnflhdabmcaa.Cfa
theorem may_f (k r n : Int) (kk : Nat) (hk : 8 ≤ kk) : gangwayref13_May.f kk k r n = some (mayF k r n) := rfl
theorem rmay_calls (k r n : Int) (w : World) : Calls Try.prog 80 #[.agg #[.int .i64 k, .int .i64 r, .int .i64 n]] w fun e w' => e = .returned (.bool (mayF k r n)) ∧ Below w.heap.size w w' :=
  gangwayref13_May.calls 8 k r n (mayF k r n) w (may_f k r n 8 (Nat.le_refl _))
def Post (base g : Nat) (w : World) (r : Option T) (e : Ending) (w' : World) : Prop :=
  e = .returned (.bool r.isSome) ∧ Below base w w' ∧ ∀ t', r = some t' → ∃ rv kv, Tab w' base g t' rv kv
section
variable {w w1 w' : World} {base g : Nat} {t t' : T} {rv kv : Value} {k r n : Int}
theorem Post.turn (h : Tab w1 base g t rv kv) (hb : base ≤ w.heap.size) (hg0 : w.grownBy w1 (some g)) (hg : w1.grownBy w' (some g)) (hm : mayF k r n = true) (e : act t k r n = some t') (hr : t'.rows = t.rows) (hk : t'.kept = t.kept)
    (hc : w'.heap[g]? = some (.cells (cells rv kv t').toArray 157 (0, 0))) : Post base g w (act t k r n) (.returned (.bool true)) w' := by
 rw [e]
 refine ⟨rfl, below_grown (World.grownBy.trans hg0 hg) hb h.lo, fun t2 e2 => ?_⟩
 cases e2
 exact ⟨rv, kv, h.turn hg (good_act h.good hm e) hc hr hk⟩
theorem Post.false (hb : Below base w w') (e : act t k r n = none) : Post base g w (act t k r n) (.returned (.bool false)) w' := by
 rw [e]
 exact ⟨rfl, hb, fun _ h => by cases h⟩
theorem now_at (h : Tab w base g t rv kv) (m : Nat) (hm : m ≤ 16) : (w.cell? ⟨g, 4 + m * 2, none⟩ = some (.int .i64 (t.now.getD (ru m) 0)) ∧ w.cell? ⟨g, 4 + m * 2 + 1, none⟩ = some (.int .i64 (t.now.getD (ru m + 1) 0))) ∧
    (w.frozen? ⟨g, 4 + m * 2, none⟩ = false ∧ w.frozen? ⟨g, 4 + m * 2 + 1, none⟩ = false) := by
 refine ⟨⟨?_, ?_⟩, h.free _, h.free _⟩
 ·
  rw [← h.now (ru m) (by simp only [ru]; omega), show 1 + ru m = 4 + m * 2 from by simp only [ru]; omega]
 rw [← h.now (ru m + 1) (by simp only [ru]; omega), show 1 + (ru m + 1) = 4 + m * 2 + 1 from by simp only [ru]; omega]
theorem set_rule (hb : w.heap[g]? = some (.cells (cells rv kv t).toArray 157 (0, 0))) (h : Cfa.Good t) (m : Nat) (hm : m ≤ 16) (x y : Int) :
    ((w.setCell ⟨g, 4 + m * 2, none⟩ (.int .i64 x)).setCell ⟨g, 4 + m * 2 + 1, none⟩ (.int .i64 y)).heap[g]? = some (.cells (cells rv kv { t with now := (t.now.set (ru m) x).set (ru m + 1) y }).toArray 157 (0, 0)) := by
 have h1 := set_now hb h (ru m) (by simp only [ru]; omega) x
 have h2 := set_now (t := { t with now := t.now.set (ru m) x }) h1 ⟨by simpa using h.now, h.first, h.rows, h.kept, by show 0 ≤ (t.now.set (ru m) x).getD 0 0; rw [Cfa.getD_set_ne (ru_ne _).1]; exact h.at0, h.size, by show _ → (t.now.set (ru m) x).getD 0 0 ≤ _; rw [Cfa.getD_set_ne (ru_ne _).1]; exact h.atS⟩ (ru m + 1) (by simp only [ru]; omega) y
 rw [show 1 + ru m = 4 + m * 2 from by simp only [ru]; omega, show 1 + (ru m + 1) = 4 + m * 2 + 1 from by simp only [ru]; omega] at h2
 exact h2
end
set_option maxHeartbeats 4000000 in
theorem one_bad (w : World) (base g : Nat) (hb : base ≤ w.heap.size) (k r n : Int) (b : Bool) (hm : mayF k r n = false) :
    Calls Try.prog 88 #[.pointer (some ⟨g, 0, none⟩), .agg #[.int .i64 k, .int .i64 r, .int .i64 n], .bool b] w (Post base g w none) := by
 have HM := am hm
 have HB := am hb
 clear hm hb
 go_enter Try.func88, Try.ntmps88
 go_wp2_with fail
 refine (rmay_calls k r n _).mono ?_
 rintro e w1 ⟨rfl, hw1⟩
 rw [HM.out]
 go_wp2
 go_ret
 exact ⟨rfl, (below_step (below_alloc (Below.refl w.heap.size w) _) hw1).mono HB.out, fun _ h => by cases h⟩
set_option maxHeartbeats 4000000 in
theorem one_early (w : World) (base g : Nat) (hb : base ≤ w.heap.size) (k r n : Int) (hm : mayF k r n = true) (hk : k = 1 ∨ k = 9 ∨ k = 10 ∨ k = 6) :
    Calls Try.prog 88 #[.pointer (some ⟨g, 0, none⟩), .agg #[.int .i64 k, .int .i64 r, .int .i64 n], .bool true] w (Post base g w none) := by
 rcases hk with rfl | rfl | rfl | rfl <;>
 ·
  have HM := am hm
  have HB := am hb
  clear hm hb
  go_enter Try.func88, Try.ntmps88
  go_wp2_with fail
  refine (rmay_calls _ r n _).mono ?_
  rintro e w1 ⟨rfl, hw1⟩
  rw [HM.out]
  have HW1 := am hw1
  have hbx := blk_below (blk_new w _) hw1
  have o0 := (blk_cell hbx 0).trans rfl
  clear hw1 hbx
  go_wp2
  go_ret
  exact ⟨rfl, (below_step (below_alloc (Below.refl w.heap.size w) _) HW1.out).mono HB.out, fun _ h => by cases h⟩
set_option maxHeartbeats 4000000 in
theorem one_0 (w : World) (base g : Nat) (t : T) (rv kv : Value) (h : Tab w base g t rv kv) (hb : base ≤ w.heap.size) (r n : Int) (b : Bool) (hm : mayF 0 r n = true) :
    Calls Try.prog 88 #[.pointer (some ⟨g, 0, none⟩), .agg #[.int .i64 0, .int .i64 r, .int .i64 n], .bool b] w (Post base g w (act t 0 r n)) := by
 have HM := am hm
 have HB := am hb
 have BX := am (blk_new w (.cells #[.int .i64 0, .int .i64 r, .int .i64 n] 97))
 have HA := am (h.below (below_alloc (Below.refl w.heap.size w) (.cells #[.int .i64 0, .int .i64 r, .int .i64 n] 97)))
 have hg := blk_lt h.blk
 clear h hb hm
 go_enter Try.func88, Try.ntmps88
 go_wp2_with fail
 refine (rmay_calls 0 r n _).mono ?_
 rintro e w1 ⟨rfl, hw1⟩
 rw [HM.out]
 have HG := am (grown_below' (grown_alloc (World.grownBy.refl w (some g)) (.cells #[.int .i64 0, .int .i64 r, .int .i64 n] 97)) hw1)
 have H := am (HA.out.below hw1)
 have hbx := blk_below BX.out hw1
 have o0 : w1.cell? ⟨w.heap.size, 0, none⟩ = some (.int .i64 0) := (blk_cell hbx 0).trans rfl
 have o1 : w1.cell? ⟨w.heap.size, 1, none⟩ = some (.int .i64 r) := (blk_cell hbx 1).trans rfl
 have o2 : w1.cell? ⟨w.heap.size, 2, none⟩ = some (.int .i64 n) := (blk_cell hbx 2).trans rfl
 clear hw1 BX HA hbx
 have HS := am H.out.blk
 cases b <;>
 ·
  go_wp2
  go_ret
  exact Post.turn H.out HB.out HG.out (World.grownBy.refl _ _) HM.out rfl rfl rfl HS.out
set_option maxHeartbeats 4000000 in
theorem one_5 (w : World) (base g : Nat) (t : T) (rv kv : Value) (h : Tab w base g t rv kv) (hb : base ≤ w.heap.size) (r n : Int) (b : Bool) (hm : mayF 5 r n = true) :
    Calls Try.prog 88 #[.pointer (some ⟨g, 0, none⟩), .agg #[.int .i64 5, .int .i64 r, .int .i64 n], .bool b] w (Post base g w (act t 5 r n)) := by
 have HR := am (may_r hm)
 have HM := am hm
 have HB := am hb
 have BX := am (blk_new w (.cells #[.int .i64 5, .int .i64 r, .int .i64 n] 97))
 have HA := am (h.below (below_alloc (Below.refl w.heap.size w) (.cells #[.int .i64 5, .int .i64 r, .int .i64 n] 97)))
 have hg := blk_lt h.blk
 clear h hb hm
 go_enter Try.func88, Try.ntmps88
 go_wp2_with fail
 refine (rmay_calls 5 r n _).mono ?_
 rintro e w1 ⟨rfl, hw1⟩
 rw [HM.out]
 have HG := am (grown_below' (grown_alloc (World.grownBy.refl w (some g)) (.cells #[.int .i64 5, .int .i64 r, .int .i64 n] 97)) hw1)
 have H := am (HA.out.below hw1)
 have hbx := blk_below BX.out hw1
 have o0 : w1.cell? ⟨w.heap.size, 0, none⟩ = some (.int .i64 5) := (blk_cell hbx 0).trans rfl
 have o1 : w1.cell? ⟨w.heap.size, 1, none⟩ = some (.int .i64 r) := (blk_cell hbx 1).trans rfl
 have o2 : w1.cell? ⟨w.heap.size, 2, none⟩ = some (.int .i64 n) := (blk_cell hbx 2).trans rfl
 clear hw1 BX HA hbx
 have hr0 := HR.out.1
 obtain ⟨m, rfl⟩ := Int.eq_ofNat_of_zero_le hr0
 have H1 := am (show m ≤ 16 from by have := HR.out.2; omega)
 obtain ⟨⟨f1, f2⟩, f3, f4⟩ := now_at H.out m H1.out
 have hix := rule_at g 4 m H1.out
 clear hr0 HR
 have HS := am (set_rule H.out.blk H.out.good m H1.out 2 n)
 cases b <;>
 ·
  go_wp2
  refine still_tail 10 (by kernel_rfl) (by kernel_rfl) ?_
  simp only [List.take_succ_cons, List.take_zero, List.drop_succ_cons, List.drop_zero]
  repeat still_step
  refine wpStill_nil ?_
  go_wp2
  go_ret
  exact Post.turn H.out HB.out HG.out (grown_drew (grown_set' (grown_set _ _ _ _) _ _)) HM.out rfl rfl rfl HS.out
set_option maxHeartbeats 4000000 in
theorem one_7 (w : World) (base g : Nat) (t : T) (rv kv : Value) (h : Tab w base g t rv kv) (hb : base ≤ w.heap.size) (r n : Int) (b : Bool) (hm : mayF 7 r n = true) :
    Calls Try.prog 88 #[.pointer (some ⟨g, 0, none⟩), .agg #[.int .i64 7, .int .i64 r, .int .i64 n], .bool b] w (Post base g w (act t 7 r n)) := by
 have HR := am (may_r hm)
 have HM := am hm
 have HB := am hb
 have BX := am (blk_new w (.cells #[.int .i64 7, .int .i64 r, .int .i64 n] 97))
 have HA := am (h.below (below_alloc (Below.refl w.heap.size w) (.cells #[.int .i64 7, .int .i64 r, .int .i64 n] 97)))
 have hg := blk_lt h.blk
 clear h hb hm
 go_enter Try.func88, Try.ntmps88
 go_wp2_with fail
 refine (rmay_calls 7 r n _).mono ?_
 rintro e w1 ⟨rfl, hw1⟩
 rw [HM.out]
 have HG := am (grown_below' (grown_alloc (World.grownBy.refl w (some g)) (.cells #[.int .i64 7, .int .i64 r, .int .i64 n] 97)) hw1)
 have H := am (HA.out.below hw1)
 have hbx := blk_below BX.out hw1
 have o0 : w1.cell? ⟨w.heap.size, 0, none⟩ = some (.int .i64 7) := (blk_cell hbx 0).trans rfl
 have o1 : w1.cell? ⟨w.heap.size, 1, none⟩ = some (.int .i64 r) := (blk_cell hbx 1).trans rfl
 have o2 : w1.cell? ⟨w.heap.size, 2, none⟩ = some (.int .i64 n) := (blk_cell hbx 2).trans rfl
 clear hw1 BX HA hbx
 have hr0 := HR.out.1
 obtain ⟨m, rfl⟩ := Int.eq_ofNat_of_zero_le hr0
 have H1 := am (show m ≤ 16 from by have := HR.out.2; omega)
 obtain ⟨⟨f1, f2⟩, f3, f4⟩ := now_at H.out m H1.out
 have hix := rule_at g 4 m H1.out
 clear hr0 HR
 have HS := am (set_rule H.out.blk H.out.good m H1.out 1 0)
 cases b <;>
 ·
  go_wp2
  refine still_tail 8 (by kernel_rfl) (by kernel_rfl) ?_
  simp only [List.take_succ_cons, List.take_zero, List.drop_succ_cons, List.drop_zero]
  repeat still_step
  refine wpStill_nil ?_
  go_wp2
  go_ret
  exact Post.turn H.out HB.out HG.out (grown_drew (grown_set' (grown_set _ _ _ _) _ _)) HM.out rfl rfl rfl HS.out
set_option maxHeartbeats 4000000 in
theorem one_8 (w : World) (base g : Nat) (t : T) (rv kv : Value) (h : Tab w base g t rv kv) (hb : base ≤ w.heap.size) (r n : Int) (b : Bool) (hm : mayF 8 r n = true) :
    Calls Try.prog 88 #[.pointer (some ⟨g, 0, none⟩), .agg #[.int .i64 8, .int .i64 r, .int .i64 n], .bool b] w (Post base g w (act t 8 r n)) := by
 have HR := am (may_r hm)
 have HM := am hm
 have HB := am hb
 have BX := am (blk_new w (.cells #[.int .i64 8, .int .i64 r, .int .i64 n] 97))
 have HA := am (h.below (below_alloc (Below.refl w.heap.size w) (.cells #[.int .i64 8, .int .i64 r, .int .i64 n] 97)))
 have hg := blk_lt h.blk
 clear h hb hm
 go_enter Try.func88, Try.ntmps88
 go_wp2_with fail
 refine (rmay_calls 8 r n _).mono ?_
 rintro e w1 ⟨rfl, hw1⟩
 rw [HM.out]
 have HG := am (grown_below' (grown_alloc (World.grownBy.refl w (some g)) (.cells #[.int .i64 8, .int .i64 r, .int .i64 n] 97)) hw1)
 have H := am (HA.out.below hw1)
 have hbx := blk_below BX.out hw1
 have o0 : w1.cell? ⟨w.heap.size, 0, none⟩ = some (.int .i64 8) := (blk_cell hbx 0).trans rfl
 have o1 : w1.cell? ⟨w.heap.size, 1, none⟩ = some (.int .i64 r) := (blk_cell hbx 1).trans rfl
 have o2 : w1.cell? ⟨w.heap.size, 2, none⟩ = some (.int .i64 n) := (blk_cell hbx 2).trans rfl
 clear hw1 BX HA hbx
 have hr0 := HR.out.1
 obtain ⟨m, rfl⟩ := Int.eq_ofNat_of_zero_le hr0
 have H1 := am (show m ≤ 16 from by have := HR.out.2; omega)
 obtain ⟨⟨f1, f2⟩, f3, f4⟩ := now_at H.out m H1.out
 have hix := rule_at g 4 m H1.out
 clear hr0 HR
 have HS := am (set_rule H.out.blk H.out.good m H1.out 0 0)
 cases b <;>
 ·
  go_wp2
  refine still_tail 8 (by kernel_rfl) (by kernel_rfl) ?_
  simp only [List.take_succ_cons, List.take_zero, List.drop_succ_cons, List.drop_zero]
  repeat still_step
  refine wpStill_nil ?_
  go_wp2
  go_ret
  exact Post.turn H.out HB.out HG.out (grown_drew (grown_set' (grown_set _ _ _ _) _ _)) HM.out rfl rfl rfl HS.out
set_option maxHeartbeats 4000000 in
theorem one_2 (w : World) (base g : Nat) (t : T) (rv kv : Value) (h : Tab w base g t rv kv) (hb : base ≤ w.heap.size) (r n : Int) (b : Bool) (hm : mayF 2 r n = true) :
    Calls Try.prog 88 #[.pointer (some ⟨g, 0, none⟩), .agg #[.int .i64 2, .int .i64 r, .int .i64 n], .bool b] w (Post base g w (act t 2 r n)) := by
 have HM := am hm
 have HB := am hb
 have BX := am (blk_new w (.cells #[.int .i64 2, .int .i64 r, .int .i64 n] 97))
 have HA := am (h.below (below_alloc (Below.refl w.heap.size w) (.cells #[.int .i64 2, .int .i64 r, .int .i64 n] 97)))
 have hg := blk_lt h.blk
 clear h hb hm
 go_enter Try.func88, Try.ntmps88
 go_wp2_with fail
 refine (rmay_calls 2 r n _).mono ?_
 rintro e w1 ⟨rfl, hw1⟩
 rw [HM.out]
 have HG := am (grown_below' (grown_alloc (World.grownBy.refl w (some g)) (.cells #[.int .i64 2, .int .i64 r, .int .i64 n] 97)) hw1)
 have H := am (HA.out.below hw1)
 have hbx := blk_below BX.out hw1
 have o0 : w1.cell? ⟨w.heap.size, 0, none⟩ = some (.int .i64 2) := (blk_cell hbx 0).trans rfl
 have o1 : w1.cell? ⟨w.heap.size, 1, none⟩ = some (.int .i64 r) := (blk_cell hbx 1).trans rfl
 have o2 : w1.cell? ⟨w.heap.size, 2, none⟩ = some (.int .i64 n) := (blk_cell hbx 2).trans rfl
 clear hw1 BX HA hbx
 have f1 : w1.cell? ⟨g, 2, none⟩ = some (.int .i64 (t.now.getD 1 0)) := H.out.now 1 (by omega)
 have f2 : w1.cell? ⟨g, 3, none⟩ = some (.int .i64 (t.now.getD 2 0)) := H.out.now 2 (by omega)
 have f3 := H.out.free 2
 have f4 := H.out.free 3
 have HS := am (set_now (set_now H.out.blk H.out.good 1 (by omega) r) (good_set1 H.out.good r) 2 (by omega) n)
 cases b <;>
 ·
  go_wp2
  go_ret
  exact Post.turn H.out HB.out HG.out (grown_set' (grown_set _ _ _ _) _ _) HM.out rfl rfl rfl HS.out
set_option maxHeartbeats 4000000 in
theorem one_3 (w : World) (base g : Nat) (t : T) (rv kv : Value) (h : Tab w base g t rv kv) (hb : base ≤ w.heap.size) (r n : Int) (b : Bool) (hm : mayF 3 r n = true) :
    Calls Try.prog 88 #[.pointer (some ⟨g, 0, none⟩), .agg #[.int .i64 3, .int .i64 r, .int .i64 n], .bool b] w (Post base g w (act t 3 r n)) := by
 have HM := am hm
 have HB := am hb
 have BX := am (blk_new w (.cells #[.int .i64 3, .int .i64 r, .int .i64 n] 97))
 have HA := am (h.below (below_alloc (Below.refl w.heap.size w) (.cells #[.int .i64 3, .int .i64 r, .int .i64 n] 97)))
 have hg := blk_lt h.blk
 clear h hb hm
 go_enter Try.func88, Try.ntmps88
 go_wp2_with fail
 refine (rmay_calls 3 r n _).mono ?_
 rintro e w1 ⟨rfl, hw1⟩
 rw [HM.out]
 have HG := am (grown_below' (grown_alloc (World.grownBy.refl w (some g)) (.cells #[.int .i64 3, .int .i64 r, .int .i64 n] 97)) hw1)
 have H := am (HA.out.below hw1)
 have hbx := blk_below BX.out hw1
 have o0 : w1.cell? ⟨w.heap.size, 0, none⟩ = some (.int .i64 3) := (blk_cell hbx 0).trans rfl
 have o1 : w1.cell? ⟨w.heap.size, 1, none⟩ = some (.int .i64 r) := (blk_cell hbx 1).trans rfl
 have o2 : w1.cell? ⟨w.heap.size, 2, none⟩ = some (.int .i64 n) := (blk_cell hbx 2).trans rfl
 clear hw1 BX HA hbx
 have f1 : w1.cell? ⟨g, 2, none⟩ = some (.int .i64 (t.now.getD 1 0)) := H.out.now 1 (by omega)
 have f2 : w1.cell? ⟨g, 3, none⟩ = some (.int .i64 (t.now.getD 2 0)) := H.out.now 2 (by omega)
 have f3 := H.out.free 2
 have f4 := H.out.free 3
 have e : act t 3 r n = if 0 ≤ t.now.getD 1 0 then some { t with now := t.now.set 2 n } else none := rfl
 have HS := am (set_now H.out.blk H.out.good 2 (by omega) n)
 obtain ⟨x, hx⟩ : ∃ x, t.now.getD 1 0 = x := ⟨_, rfl⟩
 rw [hx] at f1 e
 have HE := am e
 obtain ⟨v, h1, g1⟩ := may_ge x 0
 have H1 := am h1
 clear h1 e hx
 have hgr : w1.grownBy (w1.setCell ⟨g, 1 + 2, none⟩ (.int .i64 n)) (some g) := grown_set _ _ _ _
 have HGR := am hgr
 clear hgr
 cases b <;>
 ·
  go_wp2
  go_ret
  have he := HE.out
  have h1 := H1.out
  cases v with
  | true =>
   rw [if_pos (of_decide_eq_true h1)] at he
   exact Post.turn H.out HB.out HG.out HGR.out HM.out he rfl rfl HS.out
  | false =>
   rw [if_neg (of_decide_eq_false h1)] at he
   exact Post.false (below_grown (World.grownBy.trans HG.out HGR.out) HB.out H.out.lo) he
set_option maxHeartbeats 4000000 in
theorem one_4 (w : World) (base g : Nat) (t : T) (rv kv : Value) (h : Tab w base g t rv kv) (hb : base ≤ w.heap.size) (r n : Int) (b : Bool) (hm : mayF 4 r n = true) :
    Calls Try.prog 88 #[.pointer (some ⟨g, 0, none⟩), .agg #[.int .i64 4, .int .i64 r, .int .i64 n], .bool b] w (Post base g w (act t 4 r n)) := by
 have HM := am hm
 have HB := am hb
 have BX := am (blk_new w (.cells #[.int .i64 4, .int .i64 r, .int .i64 n] 97))
 have HA := am (h.below (below_alloc (Below.refl w.heap.size w) (.cells #[.int .i64 4, .int .i64 r, .int .i64 n] 97)))
 have hg := blk_lt h.blk
 clear h hb hm
 go_enter Try.func88, Try.ntmps88
 go_wp2_with fail
 refine (rmay_calls 4 r n _).mono ?_
 rintro e w1 ⟨rfl, hw1⟩
 rw [HM.out]
 have HG := am (grown_below' (grown_alloc (World.grownBy.refl w (some g)) (.cells #[.int .i64 4, .int .i64 r, .int .i64 n] 97)) hw1)
 have H := am (HA.out.below hw1)
 have hbx := blk_below BX.out hw1
 have o0 : w1.cell? ⟨w.heap.size, 0, none⟩ = some (.int .i64 4) := (blk_cell hbx 0).trans rfl
 have o1 : w1.cell? ⟨w.heap.size, 1, none⟩ = some (.int .i64 r) := (blk_cell hbx 1).trans rfl
 have o2 : w1.cell? ⟨w.heap.size, 2, none⟩ = some (.int .i64 n) := (blk_cell hbx 2).trans rfl
 clear hw1 BX HA hbx
 have f1 : w1.cell? ⟨g, 2, none⟩ = some (.int .i64 (t.now.getD 1 0)) := H.out.now 1 (by omega)
 have f2 : w1.cell? ⟨g, 3, none⟩ = some (.int .i64 (t.now.getD 2 0)) := H.out.now 2 (by omega)
 have f3 := H.out.free 2
 have f4 := H.out.free 3
 have e : act t 4 r n = if 0 ≤ t.now.getD 1 0 then some { t with now := t.now.set 1 r } else none := rfl
 have HS := am (set_now H.out.blk H.out.good 1 (by omega) r)
 obtain ⟨x, hx⟩ : ∃ x, t.now.getD 1 0 = x := ⟨_, rfl⟩
 rw [hx] at f1 e
 have HE := am e
 obtain ⟨v, h1, g1⟩ := may_ge x 0
 have H1 := am h1
 clear h1 e hx
 have hgr : w1.grownBy (w1.setCell ⟨g, 1 + 1, none⟩ (.int .i64 r)) (some g) := grown_set _ _ _ _
 have HGR := am hgr
 clear hgr
 cases b <;>
 ·
  go_wp2
  go_ret
  have he := HE.out
  have h1 := H1.out
  cases v with
  | true =>
   rw [if_pos (of_decide_eq_true h1)] at he
   exact Post.turn H.out HB.out HG.out HGR.out HM.out he rfl rfl HS.out
  | false =>
   rw [if_neg (of_decide_eq_false h1)] at he
   exact Post.false (below_grown (World.grownBy.trans HG.out HGR.out) HB.out H.out.lo) he
set_option maxHeartbeats 4000000 in
theorem one_6 (w : World) (base g : Nat) (t : T) (rv kv : Value) (h : Tab w base g t rv kv) (hb : base ≤ w.heap.size) (r n : Int) (hm : mayF 6 r n = true) :
    Calls Try.prog 88 #[.pointer (some ⟨g, 0, none⟩), .agg #[.int .i64 6, .int .i64 r, .int .i64 n], .bool false] w (Post base g w (act t 6 r n)) := by
 have HR := am (may_r hm)
 have HM := am hm
 have HB := am hb
 have BX := am (blk_new w (.cells #[.int .i64 6, .int .i64 r, .int .i64 n] 97))
 have HA := am (h.below (below_alloc (Below.refl w.heap.size w) (.cells #[.int .i64 6, .int .i64 r, .int .i64 n] 97)))
 have hg := blk_lt h.blk
 clear h hb hm
 go_enter Try.func88, Try.ntmps88
 go_wp2_with fail
 refine (rmay_calls 6 r n _).mono ?_
 rintro e w1 ⟨rfl, hw1⟩
 rw [HM.out]
 have HG := am (grown_below' (grown_alloc (World.grownBy.refl w (some g)) (.cells #[.int .i64 6, .int .i64 r, .int .i64 n] 97)) hw1)
 have H := am (HA.out.below hw1)
 have hbx := blk_below BX.out hw1
 have o0 : w1.cell? ⟨w.heap.size, 0, none⟩ = some (.int .i64 6) := (blk_cell hbx 0).trans rfl
 have o1 : w1.cell? ⟨w.heap.size, 1, none⟩ = some (.int .i64 r) := (blk_cell hbx 1).trans rfl
 have o2 : w1.cell? ⟨w.heap.size, 2, none⟩ = some (.int .i64 n) := (blk_cell hbx 2).trans rfl
 clear hw1 BX HA hbx
 have hr0 := HR.out.1
 obtain ⟨m, rfl⟩ := Int.eq_ofNat_of_zero_le hr0
 have H1 := am (show m ≤ 16 from by have := HR.out.2; omega)
 obtain ⟨⟨f1, f2⟩, f3, f4⟩ := now_at H.out m H1.out
 have hix := rule_at g 4 m H1.out
 clear hr0 HR
 have hiy := rule_at g 41 m H1.out
 have f5 : w1.cell? ⟨g, 41 + m * 2, none⟩ = some (.int .i64 (t.first.getD (ru m) 0)) := by rw [← H.out.first (ru m) (by have := H1.out; simp only [ru]; omega), show 38 + ru m = 41 + m * 2 from by simp only [ru]; omega]
 have f6 : w1.cell? ⟨g, 41 + m * 2 + 1, none⟩ = some (.int .i64 (t.first.getD (ru m + 1) 0)) := by rw [← H.out.first (ru m + 1) (by have := H1.out; simp only [ru]; omega), show 38 + (ru m + 1) = 41 + m * 2 + 1 from by simp only [ru]; omega]
 have e : act t 6 m n = some { t with now := (t.now.set (ru m) (t.first.getD (ru m) 0)).set (ru m + 1) (t.first.getD (ru m + 1) 0) } := rfl
 have hs := set_rule H.out.blk H.out.good m H1.out (t.first.getD (ru m) 0) (t.first.getD (ru m + 1) 0)
 obtain ⟨x, hx⟩ : ∃ x, t.first.getD (ru m) 0 = x := ⟨_, rfl⟩
 obtain ⟨y, hy⟩ : ∃ y, t.first.getD (ru m + 1) 0 = y := ⟨_, rfl⟩
 rw [hx, hy] at e hs
 rw [hx] at f5
 rw [hy] at f6
 have HS := am hs
 have HE := am e
 clear hs e hx hy
 go_wp2
 refine still_tail 15 (by kernel_rfl) (by kernel_rfl) ?_
 simp only [List.take_succ_cons, List.take_zero, List.drop_succ_cons, List.drop_zero]
 repeat still_step
 refine wpStill_nil ?_
 go_wp2
 go_ret
 exact Post.turn H.out HB.out HG.out (grown_drew (grown_set' (grown_set _ _ _ _) _ _)) HM.out HE.out rfl rfl HS.out
set_option maxHeartbeats 4000000 in
theorem one_1z (w : World) (base g : Nat) (t : T) (rv kv : Value) (h : Tab w base g t rv kv) (hb : base ≤ w.heap.size) (r : Int) (hm : mayF 1 r 0 = true) (hs : 0 ≤ t.size) :
    Calls Try.prog 88 #[.pointer (some ⟨g, 0, none⟩), .agg #[.int .i64 1, .int .i64 r, .int .i64 0], .bool false] w (Post base g w (act t 1 r 0)) := by
 have hat1 := h.good.atS hs
 obtain ⟨x, hx⟩ : ∃ x, t.now.getD 0 0 = x := ⟨_, rfl⟩
 rw [hx] at hat1
 have HX := am hx
 have hle : decide (x ≤ t.size) = true := decide_eq_true hat1
 have HLE := am hle
 clear hat1 hx hs hle
 have H0 := am h
 have HM := am hm
 have HB := am hb
 have BX := am (blk_new w (.cells #[.int .i64 1, .int .i64 r, .int .i64 0] 97))
 have HA := am (h.below (below_alloc (Below.refl w.heap.size w) (.cells #[.int .i64 1, .int .i64 r, .int .i64 0] 97)))
 have hg := blk_lt h.blk
 clear h hb hm
 go_enter Try.func88, Try.ntmps88
 go_wp2_with fail
 refine (rmay_calls 1 r 0 _).mono ?_
 rintro e w1 ⟨rfl, hw1⟩
 rw [HM.out]
 have HG := am (grown_below' (grown_alloc (World.grownBy.refl w (some g)) (.cells #[.int .i64 1, .int .i64 r, .int .i64 0] 97)) hw1)
 have H := am (HA.out.below hw1)
 have hbx := blk_below BX.out hw1
 have o0 : w1.cell? ⟨w.heap.size, 0, none⟩ = some (.int .i64 1) := (blk_cell hbx 0).trans rfl
 have o1 : w1.cell? ⟨w.heap.size, 1, none⟩ = some (.int .i64 r) := (blk_cell hbx 1).trans rfl
 have o2 : w1.cell? ⟨w.heap.size, 2, none⟩ = some (.int .i64 0) := (blk_cell hbx 2).trans rfl
 have HBX := am hbx
 have HB1 := am (show base ≤ w1.heap.size from Nat.le_trans HB.out HG.out.size)
 clear hw1 BX HA hbx
 have f5 : w1.cell? ⟨g, 1, none⟩ = some (.int .i64 x) := by rw [← HX.out]; exact H.out.now 0 (by omega)
 have f6 := H.out.size
 go_wp2
 go_quiet (fail)
 go_wp2
 go_ret
 show Post base g w (act t 1 r 0) (.returned (.bool (decide (x ≤ t.size)))) _
 rw [HLE.out]
 exact Post.turn H.out HB.out HG.out (grown_below' (World.grownBy.refl _ _) (pw_below_drewN (Below.refl _ _) _)) HM.out rfl rfl rfl (blk_below H.out.blk (pw_below_drewN (Below.refl _ _) _))
set_option maxHeartbeats 4000000 in
theorem one_1 (w : World) (base g : Nat) (t : T) (rv kv : Value) (h : Tab w base g t rv kv) (hb : base ≤ w.heap.size) (r n : Int) (hm : mayF 1 r n = true) (hn : n ≠ 0) (hk : t.rows.length ≤ 1000000) (hs : 0 ≤ t.size) :
    Calls Try.prog 88 #[.pointer (some ⟨g, 0, none⟩), .agg #[.int .i64 1, .int .i64 r, .int .i64 n], .bool false] w (Post base g w (act t 1 r n)) := by
 have e : act t 1 r n = if t.now.getD 0 0 + n ≤ t.size then some { t with rows := t.rows ++ [t.now], now := t.now.set 0 (t.now.getD 0 0 + n) } else none := by
  show (if n = 0 then _ else _) = _
  rw [if_neg hn]
 have hgd : Cfa.Good { t with rows := t.rows ++ [t.now] } := by
  refine ⟨h.good.now, h.good.first, fun q hq => ?_, h.good.kept, h.good.at0, h.good.size, h.good.atS⟩
  rcases List.mem_append.1 hq with hq | hq
  ·
   exact h.good.rows q hq
  rw [List.mem_singleton.1 hq]; exact h.good.now
 have hat0 := h.good.at0
 have hat1 := h.good.atS hs
 have hat2 := h.good.size
 have hnn := may_n hm rfl
 have hn1 : decide (n > 0) = true := decide_eq_true (by omega)
 obtain ⟨x, hx⟩ : ∃ x, t.now.getD 0 0 = x := ⟨_, rfl⟩
 rw [hx] at hat0 hat1 e
 have HX := am hx
 have HE := am e
 have HGD := am hgd
 have hwr : IntKind.i64.wrap (x + n) = x + n := by rw [IntKind.wrap_i64]; omega
 have HWR := am hwr
 have HSUM := am (show 0 ≤ x + n from by omega)
 have HK := am hk
 have HGL := am (show g < w.heap.size from blk_lt h.blk)
 clear hk hs hn hat0 hat1 hat2 hnn e hgd hx hwr
 have H0 := am h
 have HM := am hm
 have HB := am hb
 have BX := am (blk_new w (.cells #[.int .i64 1, .int .i64 r, .int .i64 n] 97))
 have HA := am (h.below (below_alloc (Below.refl w.heap.size w) (.cells #[.int .i64 1, .int .i64 r, .int .i64 n] 97)))
 have hg := blk_lt h.blk
 clear h hb hm
 go_enter Try.func88, Try.ntmps88
 go_wp2_with fail
 refine (rmay_calls 1 r n _).mono ?_
 rintro e w1 ⟨rfl, hw1⟩
 rw [HM.out]
 have HG := am (grown_below' (grown_alloc (World.grownBy.refl w (some g)) (.cells #[.int .i64 1, .int .i64 r, .int .i64 n] 97)) hw1)
 have H := am (HA.out.below hw1)
 have hbx := blk_below BX.out hw1
 have o0 : w1.cell? ⟨w.heap.size, 0, none⟩ = some (.int .i64 1) := (blk_cell hbx 0).trans rfl
 have o1 : w1.cell? ⟨w.heap.size, 1, none⟩ = some (.int .i64 r) := (blk_cell hbx 1).trans rfl
 have o2 : w1.cell? ⟨w.heap.size, 2, none⟩ = some (.int .i64 n) := (blk_cell hbx 2).trans rfl
 have HBX := am hbx
 have HB1 := am (show base ≤ w1.heap.size from Nat.le_trans HB.out HG.out.size)
 clear hw1 BX HA hbx
 have hg1 := blk_lt H.out.blk
 have f1 := H.out.rowsC
 have f3 := H.out.free 0
 have HN := am H.out.nowR
 have f5 : w1.cell? ⟨g, 1, none⟩ = some (.int .i64 x) := by rw [← HX.out]; exact H.out.now 0 (by omega)
 go_wp2
 refine start_ (n := 14) (S := fun u => u.cell? ⟨g, 0, none⟩ = some rv ∧ Aside0 (u.rangeAt g 1 (nums .i64 t.now))) (ds := [10, 13]) (bm 14 0) (by kernel_rfl) rfl rfl ?_ (fun hHeld => ?_)
 case refine_1 => exact ⟨by go_simp, ⟨(World.rangeAt_drew _ _ _ _).2 HN.out⟩⟩
 refine pure_ (i := 0) (N := some 43) (v := ?_) (a' := ?_) (bm 14 1) rfl rfl (by kernel_rfl) (fun _ _ _ h => h) (Or.inl ⟨by rfl, ?_⟩) ?_ ?_
 rotate_left
 ·
  intro u
  go_simp
  with_reducible rfl
 rotate_left
 ·
  simp only [pz]
  rfl
 refine pure_ (i := 1) (N := some 44) (v := ?_) (a' := ?_) (bm 14 3) rfl rfl (by kernel_rfl) (fun _ _ _ h => h) (Or.inl ⟨by rfl, ?_⟩) ?_ ?_
 rotate_left
 ·
  intro u
  go_simp
  with_reducible rfl
 rotate_left
 ·
  simp only [pz]
  rfl
 refine pure_ (i := 2) (N := some 45) (v := ?_) (a' := ?_) (bm 14 7) rfl rfl (by kernel_rfl) (fun _ _ _ h => h) (Or.inl ⟨by rfl, ?_⟩) ?_ ?_
 rotate_left
 ·
  intro u
  go_simp
  with_reducible rfl
 rotate_left
 ·
  simp only [pz]
  rfl
 refine pure_ (i := 3) (N := some 46) (v := ?_) (a' := ?_) (bm 14 15) rfl rfl (by kernel_rfl) (fun _ _ _ h => h) (Or.inl ⟨by rfl, ?_⟩) ?_ ?_
 rotate_left
 ·
  intro u
  go_simp
  with_reducible rfl
 rotate_left
 ·
  simp only [pz]
  rfl
 refine take_ (i := 4) (N := some 47) (v := ?_) (a' := ?_) (bm 14 31) rfl rfl (by kernel_rfl) (fun _ _ _ h => h) (Or.inl ⟨by rfl, ?_⟩) hHeld ?_ ?_
 rotate_left
 ·
  rintro u ⟨s0, s1⟩
  go_simp
  with_reducible rfl
 rotate_left
 ·
  simp only [pz]
  rfl
 refine pure_ (i := 5) (N := some 48) (v := ?_) (a' := ?_) (bm 14 63) rfl rfl (by kernel_rfl) (fun _ _ _ h => h) (Or.inl ⟨by rfl, ?_⟩) ?_ ?_
 rotate_left
 ·
  intro u
  go_simp
  with_reducible rfl
 rotate_left
 ·
  simp only [pz]
  rfl
 refine pure_ (i := 6) (N := some 49) (v := ?_) (a' := ?_) (bm 14 127) rfl rfl (by kernel_rfl) (fun _ _ _ h => h) (Or.inl ⟨by rfl, ?_⟩) ?_ ?_
 rotate_left
 ·
  intro u
  go_simp
  with_reducible rfl
 rotate_left
 ·
  simp only [pz]
  rfl
 refine pure_ (i := 7) (N := some 50) (v := ?_) (a' := ?_) (bm 14 255) rfl rfl (by kernel_rfl) (fun _ _ _ h => h) (Or.inl ⟨by rfl, ?_⟩) ?_ ?_
 rotate_left
 ·
  intro u
  go_simp
  with_reducible rfl
 rotate_left
 ·
  simp only [pz]
  rfl
 refine take_ (i := 8) (N := some 51) (v := .agg (nums .i64 t.now).toArray) (a' := ?_) (bm 14 511) rfl rfl (by kernel_rfl) (fun _ _ _ h => h) (load_row_y (by rfl) (.tmp 50) rfl g 1 rfl t.now H.out.good.now (fun u hu => hu.2.out)) hHeld ?_ ?_
 rotate_left
 ·
  simp only [pz]
  rfl
 refine one_ (i := 9) (N := some 52) (bm 14 1023) rfl rfl (by kernel_rfl) (by decide) (fun K hK => ?_)
 rw [if_pos (by rfl)]
 refine wp_build_row (.tmp 51) rfl t.now H.out.good.now rfl ?_
 refine hK.out _ _ ⟨by go_simp, ⟨World.rangeAt_alloc ((World.rangeAt_drew _ _ _ _).2 HN.out) _⟩⟩ (fun hHeld => ?_)
 clear hK K
 refine norm_ (a' := ?_) ?_ ?_
 rotate_left
 ·
  show Act.put _ (some 52) _ = _
  simp only [pz]
  rfl
 refine last_ (i := 10) (N := some 53) (bm 14 2047) rfl rfl (by kernel_rfl) (by decide) (fun K hK => ?_)
 have hBw := below_drew (Below.refl w1.heap.size w1)
 refine Kd.R_append_step rowK (w0 := w1) base (by rfl) (.tmp 47) (.tmp 52) 114 155 _ 296 rfl Try.underlying114 info155 rfl (by decide) (by decide) rv t.rows t.now (nums .i64 t.now) (fun k => k ≠ g ∧ some k ≠ kv.ownBlock) (fun _ => False) rfl rfl (row_M _ _ _ _ H.out.good.now) (fun _ h => h.elim) ?aF ?aO ?aB ?aS ?aL ?_
 case aF =>
  intro k hk
  have hk2 : w1.heap.size ≤ k := hk
  exact ⟨by omega, fun e => by have := Kd.R_lt H.out.kept k e.symm; omega⟩
 case aO => exact Kd.R_below H.out.rows hBw
 case aB => exact (below_drew (Below.refl w1.heap.size w1)).mono HB1.out
 case aS => have := HB1.out; simp; omega
 case aL => have := HK.out; omega
 intro v1 w2 ho hbb hgr hat
 have h1 := H.out.below hBw
 obtain ⟨A1, k1, rfl⟩ := Kd.R_slice ho
 have HW := hBw
 have hbox : w1.drew.heap[w.heap.size]? = some (.cells #[Value.int .i64 1, .int .i64 r, .int .i64 n] 97 (0, 0)) := blk_drew HBX.out
 generalize w1.drew = W at *
 have hbox1 := blk_grown hbox hgr (fun e => by have := Kd.R_lt H0.out.rows _ e.symm; omega)
 have hc1 := blk_grown (h1.blk) hgr (fun e => (h1.rows.1 g e.symm).1 rfl)
 have hc3 : w2.cell? ⟨g, 0, none⟩ = some rv := by rw [blk_cell hc1]; rfl
 have hfz : w2.frozen? ⟨g, 0, none⟩ = false := blk_frozen hc1 0
 have HO := am ho
 have HGR := am hgr
 have HAT := am hat
 have HBW := am HW
 have HBOX := am hbox1
 clear ho hgr hat HW hBw hbb h1 hc1 hbox hbox1
 refine hK.out _ _ ?_
 clear hK K
 refine norm_ (a' := ?_) ?_ ?_
 rotate_left
 ·
  show Act.put _ (some 53) _ = _
  simp only [pz]
  rfl
 refine pure_ (i := 11) (N := some 54) (v := ?_) (a' := ?_) (bm 14 4095) rfl rfl (by kernel_rfl) (fun _ _ _ h => h) (Or.inl ⟨by rfl, ?_⟩) ?_ ?_
 rotate_left
 ·
  intro u
  go_simp
  with_reducible rfl
 rotate_left
 ·
  simp only [pz]
  rfl
 refine pure_ (i := 12) (N := some 55) (v := ?_) (a' := ?_) (bm 14 8191) rfl rfl (by kernel_rfl) (fun _ _ _ h => h) (Or.inl ⟨by rfl, ?_⟩) ?_ ?_
 rotate_left
 ·
  intro u
  go_simp
  with_reducible rfl
 rotate_left
 ·
  simp only [pz]
  rfl
 refine last_ (i := 13) (N := none) (bm 14 16383) rfl rfl (by kernel_rfl) (by decide) (fun K hK => ?_)
 rw [if_pos (by rfl)]
 go_simp
 refine hK.out _ _ ?_
 clear hK K
 refine done_ (by kernel_rfl) ?_
 have hlen : (t.rows ++ [t.now]).length = t.rows.length + 1 := by simp
 have ho := HO.out
 have hat := HAT.out
 rw [hlen] at ho hat
 have hT := H.out.rows_app HBW.out HGR.out hat ho HGD.out
 have hBel : Below base w1 (w2.setCell ⟨g, 0, none⟩ (.slice A1 (t.rows.length + 1) k1)) :=
   (((HBW.out.mono HB1.out).grown HGR.out (by have := HB1.out; have := HBW.out.size; omega) (fun k hk => Kd.R_base H.out.rows k hk)).setCell H.out.lo _)
 have hbox : (w2.setCell ⟨g, 0, none⟩ (.slice A1 (t.rows.length + 1) k1)).heap[w.heap.size]? = some (.cells #[Value.int .i64 1, .int .i64 r, .int .i64 n] 97 (0, 0)) := blk_far HBOX.out (Nat.ne_of_gt HGL.out) _
 clear ho hat hlen HO HGR HAT HBW HBOX hHeld hc3 hfz f1 f3 f5 HN o0 o1 o2
 have HBL := am hBel
 have HT := am hT
 have hle : base ≤ (w2.setCell ⟨g, 0, none⟩ (.slice A1 (t.rows.length + 1) k1)).heap.size := by have := hBel.size; have := HB1.out; omega
 have HLE := am hle
 have c1 : (w2.setCell ⟨g, 0, none⟩ (.slice A1 (t.rows.length + 1) k1)).cell? ⟨g, 1, none⟩ = some (.int .i64 x) := by rw [← HX.out]; exact hT.now 0 (by omega)
 have c2 : (w2.setCell ⟨g, 0, none⟩ (.slice A1 (t.rows.length + 1) k1)).cell? ⟨g, 76, none⟩ = some (.int .i64 t.size) := hT.size
 have c3 := hT.free 1
 have c4 : (w2.setCell ⟨g, 0, none⟩ (.slice A1 (t.rows.length + 1) k1)).cell? ⟨w.heap.size, 2, none⟩ = some (.int .i64 n) := by rw [blk_cell hbox]; rfl
 clear hBel hT hle hbox
 generalize (w2.setCell ⟨g, 0, none⟩ (.slice A1 (t.rows.length + 1) k1)) = w4 at *
 generalize Value.slice A1 (t.rows.length + 1) k1 = v1 at *
 have hwr := HWR.out
 have hw64 : wrap64 (x + n) = x + n := (i64_w _).symm.trans hwr
 go_wp2
 refine still_tail 12 (by kernel_rfl) (by kernel_rfl) ?_
 simp only [List.take_succ_cons, List.take_zero, List.drop_succ_cons, List.drop_zero]
 repeat still_step
 refine wpStill_nil ?_
 go_wp2
 go_quiet (fail)
 go_wp2
 go_ret
 show Post base g w (act t 1 r n) (.returned (.bool (decide (x + n ≤ t.size)))) _
 have h1 := set_now HT.out.blk HT.out.good 0 (by omega) (x + n)
 have he := HE.out
 have hgr : w4.grownBy ((w4.setCell ⟨g, 1, none⟩ (.int .i64 (x + n))).drew.drewN nq) (some g) := grown_below' (grown_drew (grown_set _ _ _ _)) (pw_below_drewN (Below.refl _ _) _)
 have hb2 : Below base w ((w4.setCell ⟨g, 1, none⟩ (.int .i64 (x + n))).drew.drewN nq) := ((below_grown HG.out HB.out H.out.lo).trans HBL.out).trans (below_grown hgr HLE.out HT.out.lo)
 by_cases c : x + n ≤ t.size
 ·
  rw [if_pos c] at he
  rw [he, decide_eq_true c]
  refine ⟨rfl, hb2, fun t' e => ?_⟩
  have e' := e
  cases e
  exact ⟨_, _, HT.out.turn hgr (good_act H.out.good HM.out he) h1 rfl rfl⟩
 rw [if_neg c] at he
 rw [he, decide_eq_false c]
 exact ⟨rfl, hb2, fun t' e => by cases e⟩
set_option maxHeartbeats 4000000 in
theorem one_9 (w : World) (base g : Nat) (t : T) (rv kv : Value) (h : Tab w base g t rv kv) (hb : base ≤ w.heap.size) (r n : Int) (hm : mayF 9 r n = true) (hk : t.kept.length ≤ 1000000) :
    Calls Try.prog 88 #[.pointer (some ⟨g, 0, none⟩), .agg #[.int .i64 9, .int .i64 r, .int .i64 n], .bool false] w (Post base g w (act t 9 r n)) := by
 have e : act t 9 r n = if t.kept.length + 1 ≤ 64 then some { t with kept := t.kept ++ [t.now] } else none := rfl
 have HE := am e
 have hgd : Cfa.Good { t with kept := t.kept ++ [t.now] } := by
  refine ⟨h.good.now, h.good.first, h.good.rows, fun q hq => ?_, h.good.at0, h.good.size, h.good.atS⟩
  rcases List.mem_append.1 hq with hq | hq
  ·
   exact h.good.kept q hq
  rw [List.mem_singleton.1 hq]; exact h.good.now
 have HGD := am hgd
 have HK := am hk
 clear e hgd hk
 have H0 := am h
 have HM := am hm
 have HB := am hb
 have BX := am (blk_new w (.cells #[.int .i64 9, .int .i64 r, .int .i64 n] 97))
 have HA := am (h.below (below_alloc (Below.refl w.heap.size w) (.cells #[.int .i64 9, .int .i64 r, .int .i64 n] 97)))
 have hg := blk_lt h.blk
 clear h hb hm
 go_enter Try.func88, Try.ntmps88
 go_wp2_with fail
 refine (rmay_calls 9 r n _).mono ?_
 rintro e w1 ⟨rfl, hw1⟩
 rw [HM.out]
 have HG := am (grown_below' (grown_alloc (World.grownBy.refl w (some g)) (.cells #[.int .i64 9, .int .i64 r, .int .i64 n] 97)) hw1)
 have H := am (HA.out.below hw1)
 have hbx := blk_below BX.out hw1
 have o0 : w1.cell? ⟨w.heap.size, 0, none⟩ = some (.int .i64 9) := (blk_cell hbx 0).trans rfl
 have o1 : w1.cell? ⟨w.heap.size, 1, none⟩ = some (.int .i64 r) := (blk_cell hbx 1).trans rfl
 have o2 : w1.cell? ⟨w.heap.size, 2, none⟩ = some (.int .i64 n) := (blk_cell hbx 2).trans rfl
 have HBX := am hbx
 have HB1 := am (show base ≤ w1.heap.size from Nat.le_trans HB.out HG.out.size)
 clear hw1 BX HA hbx
 have hg1 := blk_lt H.out.blk
 have f1 := H.out.keptC
 have f3 := H.out.free 75
 have HN := am H.out.nowR
 go_wp2
 refine start_ (n := 14) (S := fun u => u.cell? ⟨g, 75, none⟩ = some kv ∧ Aside0 (u.rangeAt g 1 (nums .i64 t.now))) (ds := [10, 13]) (bm 14 0) (by kernel_rfl) rfl rfl ?_ (fun hHeld => ?_)
 case refine_1 => exact ⟨by go_simp, ⟨(World.rangeAt_drew _ _ _ _).2 HN.out⟩⟩
 refine pure_ (i := 0) (N := some 172) (v := ?_) (a' := ?_) (bm 14 1) rfl rfl (by kernel_rfl) (fun _ _ _ h => h) (Or.inl ⟨by rfl, ?_⟩) ?_ ?_
 rotate_left
 ·
  intro u
  go_simp
  with_reducible rfl
 rotate_left
 ·
  simp only [pz]
  rfl
 refine pure_ (i := 1) (N := some 173) (v := ?_) (a' := ?_) (bm 14 3) rfl rfl (by kernel_rfl) (fun _ _ _ h => h) (Or.inl ⟨by rfl, ?_⟩) ?_ ?_
 rotate_left
 ·
  intro u
  go_simp
  with_reducible rfl
 rotate_left
 ·
  simp only [pz]
  rfl
 refine pure_ (i := 2) (N := some 174) (v := ?_) (a' := ?_) (bm 14 7) rfl rfl (by kernel_rfl) (fun _ _ _ h => h) (Or.inl ⟨by rfl, ?_⟩) ?_ ?_
 rotate_left
 ·
  intro u
  go_simp
  with_reducible rfl
 rotate_left
 ·
  simp only [pz]
  rfl
 refine pure_ (i := 3) (N := some 175) (v := ?_) (a' := ?_) (bm 14 15) rfl rfl (by kernel_rfl) (fun _ _ _ h => h) (Or.inl ⟨by rfl, ?_⟩) ?_ ?_
 rotate_left
 ·
  intro u
  go_simp
  with_reducible rfl
 rotate_left
 ·
  simp only [pz]
  rfl
 refine take_ (i := 4) (N := some 176) (v := ?_) (a' := ?_) (bm 14 31) rfl rfl (by kernel_rfl) (fun _ _ _ h => h) (Or.inl ⟨by rfl, ?_⟩) hHeld ?_ ?_
 rotate_left
 ·
  rintro u ⟨s0, s1⟩
  go_simp
  with_reducible rfl
 rotate_left
 ·
  simp only [pz]
  rfl
 refine pure_ (i := 5) (N := some 177) (v := ?_) (a' := ?_) (bm 14 63) rfl rfl (by kernel_rfl) (fun _ _ _ h => h) (Or.inl ⟨by rfl, ?_⟩) ?_ ?_
 rotate_left
 ·
  intro u
  go_simp
  with_reducible rfl
 rotate_left
 ·
  simp only [pz]
  rfl
 refine pure_ (i := 6) (N := some 178) (v := ?_) (a' := ?_) (bm 14 127) rfl rfl (by kernel_rfl) (fun _ _ _ h => h) (Or.inl ⟨by rfl, ?_⟩) ?_ ?_
 rotate_left
 ·
  intro u
  go_simp
  with_reducible rfl
 rotate_left
 ·
  simp only [pz]
  rfl
 refine pure_ (i := 7) (N := some 179) (v := ?_) (a' := ?_) (bm 14 255) rfl rfl (by kernel_rfl) (fun _ _ _ h => h) (Or.inl ⟨by rfl, ?_⟩) ?_ ?_
 rotate_left
 ·
  intro u
  go_simp
  with_reducible rfl
 rotate_left
 ·
  simp only [pz]
  rfl
 refine take_ (i := 8) (N := some 180) (v := .agg (nums .i64 t.now).toArray) (a' := ?_) (bm 14 511) rfl rfl (by kernel_rfl) (fun _ _ _ h => h) (load_row_y (by rfl) (.tmp 179) rfl g 1 rfl t.now H.out.good.now (fun u hu => hu.2.out)) hHeld ?_ ?_
 rotate_left
 ·
  simp only [pz]
  rfl
 refine one_ (i := 9) (N := some 181) (bm 14 1023) rfl rfl (by kernel_rfl) (by decide) (fun K hK => ?_)
 rw [if_pos (by rfl)]
 refine wp_build_row (.tmp 180) rfl t.now H.out.good.now rfl ?_
 refine hK.out _ _ ⟨by go_simp, ⟨World.rangeAt_alloc ((World.rangeAt_drew _ _ _ _).2 HN.out) _⟩⟩ (fun hHeld => ?_)
 clear hK K
 refine norm_ (a' := ?_) ?_ ?_
 rotate_left
 ·
  show Act.put _ (some 181) _ = _
  simp only [pz]
  rfl
 refine last_ (i := 10) (N := some 182) (bm 14 2047) rfl rfl (by kernel_rfl) (by decide) (fun K hK => ?_)
 have hBw := below_drew (Below.refl w1.heap.size w1)
 refine Kd.R_append_step rowK (w0 := w1) base (by rfl) (.tmp 176) (.tmp 181) 114 155 _ 296 rfl Try.underlying114 info155 rfl (by decide) (by decide) kv t.kept t.now (nums .i64 t.now) (fun k => k ≠ g ∧ some k ≠ rv.ownBlock) (fun _ => False) rfl rfl (row_M _ _ _ _ H.out.good.now) (fun _ h => h.elim) ?aF ?aO ?aB ?aS ?aL ?_
 case aF =>
  intro k hk
  have hk2 : w1.heap.size ≤ k := hk
  exact ⟨by omega, fun e => by have := Kd.R_lt H.out.rows k e.symm; omega⟩
 case aO => exact Kd.R_below H.out.kept hBw
 case aB => exact (below_drew (Below.refl w1.heap.size w1)).mono HB1.out
 case aS => have := HB1.out; simp; omega
 case aL => have := HK.out; omega
 intro v1 w2 ho hbb hgr hat
 have h1 := H.out.below hBw
 obtain ⟨A1, k1, rfl⟩ := Kd.R_slice ho
 have HW := hBw
 generalize w1.drew = W at *
 have hc1 := blk_grown (h1.blk) hgr (fun e => (h1.kept.1 g e.symm).1 rfl)
 have hc3 : w2.cell? ⟨g, 75, none⟩ = some kv := by rw [blk_cell hc1, List.getElem?_toArray]; exact cells_tail H.out.good 0
 have hfz : w2.frozen? ⟨g, 75, none⟩ = false := blk_frozen hc1 75
 have HO := am ho
 have HGR := am hgr
 have HAT := am hat
 have HBW := am HW
 clear ho hgr hat HW hBw hbb h1 hc1
 refine hK.out _ _ ?_
 clear hK K
 refine norm_ (a' := ?_) ?_ ?_
 rotate_left
 ·
  show Act.put _ (some 182) _ = _
  simp only [pz]
  rfl
 refine pure_ (i := 11) (N := some 183) (v := ?_) (a' := ?_) (bm 14 4095) rfl rfl (by kernel_rfl) (fun _ _ _ h => h) (Or.inl ⟨by rfl, ?_⟩) ?_ ?_
 rotate_left
 ·
  intro u
  go_simp
  with_reducible rfl
 rotate_left
 ·
  simp only [pz]
  rfl
 refine pure_ (i := 12) (N := some 184) (v := ?_) (a' := ?_) (bm 14 8191) rfl rfl (by kernel_rfl) (fun _ _ _ h => h) (Or.inl ⟨by rfl, ?_⟩) ?_ ?_
 rotate_left
 ·
  intro u
  go_simp
  with_reducible rfl
 rotate_left
 ·
  simp only [pz]
  rfl
 refine last_ (i := 13) (N := none) (bm 14 16383) rfl rfl (by kernel_rfl) (by decide) (fun K hK => ?_)
 rw [if_pos (by rfl)]
 go_simp
 refine hK.out _ _ ?_
 clear hK K
 refine done_ (by kernel_rfl) ?_
 go_wp2
 go_ret
 have hlen : (t.kept ++ [t.now]).length = t.kept.length + 1 := by simp
 have ho := HO.out
 have hat := HAT.out
 rw [hlen] at ho hat
 have hT := H.out.kept_app HBW.out HGR.out hat ho HGD.out
 have hBel : Below base w1 (w2.setCell ⟨g, 75, none⟩ (.slice A1 (t.kept.length + 1) k1)) :=
   (((HBW.out.mono HB1.out).grown HGR.out (by have := HB1.out; have := HBW.out.size; omega) (fun k hk => Kd.R_base H.out.kept k hk)).setCell H.out.lo _)
 have he := HE.out
 by_cases c : t.kept.length + 1 ≤ 64
 ·
  rw [if_pos c] at he
  rw [he]
  exact ⟨by rw [decide_eq_true (by omega)]; rfl, (below_grown HG.out HB.out H.out.lo).trans hBel, fun t' e => by cases e; exact ⟨_, _, hT⟩⟩
 rw [if_neg c] at he
 rw [he]
 exact ⟨by rw [decide_eq_false (by omega)]; rfl, (below_grown HG.out HB.out H.out.lo).trans hBel, fun t' e => by cases e⟩
theorem set_now' {w : World} {g : Nat} {t : T} {rv kv : Value} (hb : w.heap[g]? = some (.cells (cells rv kv t).toArray 157 (0, 0))) (h : t.now.length = 37) (j : Nat) (hj : j < 37) (x : Int) :
    (w.setCell ⟨g, 1 + j, none⟩ (.int .i64 x)).heap[g]? = some (.cells (cells rv kv { t with now := t.now.set j x }).toArray 157 (0, 0)) := by
 refine blk_put hb _ _ ?_
 rw [List.setIfInBounds_toArray, cells, cells, Nat.add_comm, List.set_cons_succ, List.set_append_left _ _ (by rw [nums_length, h]; exact hj)]
 simp [nums, List.map_set]
theorem set_kept' {w : World} {g : Nat} {t : T} {rv kv : Value} (hb : w.heap[g]? = some (.cells (cells rv kv t).toArray 157 (0, 0))) (h : t.now.length = 37) (h2 : t.first.length = 37) (v : Value) (ks : List Row) :
    (w.setCell ⟨g, 75, none⟩ v).heap[g]? = some (.cells (cells rv v { t with kept := ks }).toArray 157 (0, 0)) := by
 refine blk_put hb _ _ ?_
 rw [List.setIfInBounds_toArray, cells, cells, show 75 = 74 + 1 from rfl, List.set_cons_succ, List.set_append_right _ _ (by rw [nums_length, h]; omega), nums_length, h,
   List.set_append_right _ _ (by rw [nums_length, h2]; omega), nums_length, h2]
 rfl
theorem cells_kept' {t : T} {rv kv : Value} (h : t.now.length = 37) (h2 : t.first.length = 37) : (cells rv kv t)[75]? = some kv := by
 rw [cells, show 75 = 74 + 1 from rfl, List.getElem?_cons_succ, List.getElem?_append_right (by rw [nums_length, h]; omega), nums_length, h,
   List.getElem?_append_right (by rw [nums_length, h2]; omega), nums_length, h2]
 rfl
theorem cells_now' {t : T} {rv kv : Value} (h : t.now.length = 37) : (cells rv kv t)[1]? = some (.int .i64 (t.now.getD 0 0)) := by
 rw [cells, show 1 = 0 + 1 from rfl, List.getElem?_cons_succ, List.getElem?_append_left (by rw [nums_length, h]; omega)]
 exact nums_get (by rw [h]; omega)
set_option maxHeartbeats 4000000 in
theorem one_10n (w : World) (base g : Nat) (t : T) (rv kv : Value) (h : Tab w base g t rv kv) (hb : base ≤ w.heap.size) (r n : Int) (hm : mayF 10 r n = true) (hk : t.kept = []) :
    Calls Try.prog 88 #[.pointer (some ⟨g, 0, none⟩), .agg #[.int .i64 10, .int .i64 r, .int .i64 n], .bool false] w (Post base g w (act t 10 r n)) := by
 have e : act t 10 r n = none := by
  show (if t.kept = [] then none else _) = _
  rw [if_pos hk]
 have HE := am e
 have hk2 := h.kept
 rw [hk] at hk2
 obtain ⟨A, c, rfl⟩ := Kd.R_slice hk2
 clear hk e hk2
 have H0 := am h
 have HM := am hm
 have HB := am hb
 have BX := am (blk_new w (.cells #[.int .i64 10, .int .i64 r, .int .i64 n] 97))
 have HA := am (h.below (below_alloc (Below.refl w.heap.size w) (.cells #[.int .i64 10, .int .i64 r, .int .i64 n] 97)))
 have hg := blk_lt h.blk
 clear h hb hm
 go_enter Try.func88, Try.ntmps88
 go_wp2_with fail
 refine (rmay_calls 10 r n _).mono ?_
 rintro e w1 ⟨rfl, hw1⟩
 rw [HM.out]
 have HG := am (grown_below' (grown_alloc (World.grownBy.refl w (some g)) (.cells #[.int .i64 10, .int .i64 r, .int .i64 n] 97)) hw1)
 have H := am (HA.out.below hw1)
 have hbx := blk_below BX.out hw1
 have o0 : w1.cell? ⟨w.heap.size, 0, none⟩ = some (.int .i64 10) := (blk_cell hbx 0).trans rfl
 have o1 : w1.cell? ⟨w.heap.size, 1, none⟩ = some (.int .i64 r) := (blk_cell hbx 1).trans rfl
 have o2 : w1.cell? ⟨w.heap.size, 2, none⟩ = some (.int .i64 n) := (blk_cell hbx 2).trans rfl
 have HBX := am hbx
 have HB1 := am (show base ≤ w1.heap.size from Nat.le_trans HB.out HG.out.size)
 clear hw1 BX HA hbx
 have f1 := H.out.keptC
 go_wp2
 go_ret
 exact Post.false (below_grown HG.out HB.out H.out.lo) HE.out
set_option maxHeartbeats 1000000 in
theorem one_10s (w : World) (base g : Nat) (t : T) (rv kv : Value) (h : Tab w base g t rv kv) (hb : base ≤ w.heap.size) (r n : Int) (hm : mayF 10 r n = true) (m : Nat) (hk : t.kept.length = m + 1) (hmm : m ≤ 1000000) :
    Calls Try.prog 88 #[.pointer (some ⟨g, 0, none⟩), .agg #[.int .i64 10, .int .i64 r, .int .i64 n], .bool false] w (Post base g w (act t 10 r n)) := by
 have hne : t.kept ≠ [] := fun e => by rw [e] at hk; cases hk
 have e : act t 10 r n = some { t with now := (t.kept.getLastD []).set 0 (t.now.getD 0 0), kept := t.kept.dropLast } := by
  show (if t.kept = [] then none else _) = _
  rw [if_neg hne]
 have hgd := good_act h.good hm e
 obtain ⟨l, hl⟩ : ∃ l, t.kept.getLastD [] = l := ⟨_, rfl⟩
 have hl37 : l.length = 37 := by rw [← hl]; exact h.good.kept _ (getLastD_mem hne)
 have hK := h.kept
 obtain ⟨A, c, hkv⟩ := Kd.R_slice hK
 rw [hk] at hkv
 subst hkv
 have hrd := Kd.R_reads' hK
 obtain ⟨ad, rfl⟩ : ∃ ad, A = some ad := by
   obtain ⟨ad, e, _⟩ := hrd.2.2.2.2 (by omega)
   exact ⟨ad, e⟩
 obtain ⟨b, rfl⟩ := Kd.R_head hK
 have HRD := am hrd.2.1
 have hmw : IntKind.i64.wrap (m : Int) = m := by rw [IntKind.wrap_i64]; omega
 obtain ⟨x, hx⟩ : ∃ x, t.now.getD 0 0 = x := ⟨_, rfl⟩
 have HX := am hx
 have HGD := am hgd
 have hgd2 : Cfa.Good { t with now := l.set 0 x, kept := t.kept.dropLast } := by rw [← hl, ← hx]; exact hgd
 have HGD2 := am hgd2
 rw [hl, hx] at e
 have HE := am e
 have HL37 := am hl37
 have HL := am hl
 have HKL := am hk
 have hix : ∀ W : World, (Instr.indexAt 114 (.slice (some ⟨b, 0, none⟩) (m + 1) c) (.int .i64 (m : Int))).run Try.prog W = .ok (.pointer (some ⟨b, m * 37, none⟩)) W := fun W => by
   have h2 : Try.prog.elem 114 = 155 := by kernel_rfl
   have h3 : (sizeOf 155).run Try.prog W = .ok 37 W := by kernel_rfl
   rw [run_indexAt_slice (P := Try.prog) W _ _ _ _ _ _ (by rw [h2]; exact Try.underlying114), if_pos (by omega), h2, h3]
   simp only [Result.andThen, Int.toNat_natCast, Addr.add_mid, Nat.zero_add]
 have hsl : ∀ W : World, (Instr.slice 114 (.slice (some ⟨b, 0, none⟩) (m + 1) c) none (some (.int .i64 (m : Int))) none).run Try.prog W = .ok (.slice (some ⟨b, 0, none⟩) m c) W := fun W => by
   obtain ⟨i0, hi, _⟩ := Option.map_eq_some_iff.1 info155
   have := cut_to (P := Try.prog) 114 155 .i64 Try.underlying114 hi (some ⟨b, 0, none⟩) (m + 1) c (m : Int) (by omega) (by omega) HRD.out W
   rwa [Int.toNat_natCast] at this
 have m0 : (((m : Int) + 1) == 0) = false := beq_eq_false_iff_ne.mpr (by omega)
 have HMM := am hmm
 clear hne hK hrd hx hgd hgd2 e hl37 hl hk hmm
 have H0 := am h
 have HM := am hm
 have HB := am hb
 have BX := am (blk_new w (.cells #[.int .i64 10, .int .i64 r, .int .i64 n] 97))
 have HA := am (h.below (below_alloc (Below.refl w.heap.size w) (.cells #[.int .i64 10, .int .i64 r, .int .i64 n] 97)))
 have hg := blk_lt h.blk
 clear h hb hm
 go_enter Try.func88, Try.ntmps88
 go_wp2_with fail
 refine (rmay_calls 10 r n _).mono ?_
 rintro e w1 ⟨rfl, hw1⟩
 rw [HM.out]
 have HG := am (grown_below' (grown_alloc (World.grownBy.refl w (some g)) (.cells #[.int .i64 10, .int .i64 r, .int .i64 n] 97)) hw1)
 have H := am (HA.out.below hw1)
 have hbx := blk_below BX.out hw1
 have o0 : w1.cell? ⟨w.heap.size, 0, none⟩ = some (.int .i64 10) := (blk_cell hbx 0).trans rfl
 have o1 : w1.cell? ⟨w.heap.size, 1, none⟩ = some (.int .i64 r) := (blk_cell hbx 1).trans rfl
 have o2 : w1.cell? ⟨w.heap.size, 2, none⟩ = some (.int .i64 n) := (blk_cell hbx 2).trans rfl
 have HBX := am hbx
 have HB1 := am (show base ≤ w1.heap.size from Nat.le_trans HB.out HG.out.size)
 clear hw1 BX HA hbx
 have hK := H.out.kept
 have hm1 : m < m + 1 := Nat.lt_succ_self m
 have hk := HKL.out
 have hmm := HMM.out
 have hl := HL.out
 obtain ⟨cs, hcl, hM, hcc, hcf⟩ := Kd.R_elem hK ([] : Row) (m : Int) (by omega) (by omega)
 have hlm : t.kept.getD (m : Int).toNat [] = l := by
  rw [Int.toNat_natCast, ← hl, List.getLastD_eq_getLast?, List.getLast?_eq_getElem?, hk, Nat.add_sub_cancel, List.getD_eq_getElem?_getD]
 rw [hlm] at hM
 obtain ⟨_, rfl⟩ := row_K (rowK.K_of_M hM)
 have hra : w1.rangeAt b (m * 37) (nums .i64 l) := fun j v hv => by
   have := hcc j v hv
   rwa [Int.toNat_natCast] at this
 have hbg : b ≠ g := (hK.1 b rfl).1
 have hT := Kd.R_take (m := m) hK (by omega)
 have hdl : t.kept.take m = t.kept.dropLast := by rw [List.dropLast_eq_take, hk, Nat.add_sub_cancel]
 rw [hdl] at hT
 have HRA := am hra
 have HT := am hT
 have hs1 := set_nowAll H.out.blk H.out.good l HL37.out
 have HS1 := am hs1
 have HTH := am (there_of_blk (o := 1) (n := 37) H.out.blk (by rw [List.size_toArray, cells_len H.out.good]; decide))
 have f1 := H.out.keptC
 have f5 : w1.cell? ⟨g, 1, none⟩ = some (.int .i64 x) := by rw [← HX.out]; exact H.out.now 0 (by omega)
 have HGS := am (grown_setCells w1 g 1 (nums .i64 l))
 clear hK hk hmm hl hm1 hcl hM hcc hcf hlm hra hT hdl hs1
 go_wp2_with (first
   | ((with_reducible refine gate_dst (N := 213) rfl ?_); refine load_rowW rowTy rfl (.tmp 212) rfl b (m * 37) rfl l HL37.out HRA.out ?_)
   | ((with_reducible refine gate_store (p := 215) rfl ?_); refine store_rowW rowTy rfl (.tmp 215) (.tmp 213) rfl g 1 l HL37.out rfl rfl HTH.out ?_
      generalize w1.setCells g 1 (nums .i64 l) = w2 at HS1 HGS ⊢
      have q1 : w2.cell? ⟨g, 75, none⟩ = some (.slice (some ⟨b, 0, none⟩) (m + 1) c) := by rw [blk_cell HS1.out, List.getElem?_toArray]; exact cells_kept' HL37.out H.out.good.first
      have q2 := blk_frozen HS1.out 75
      have q3 : w2.cell? ⟨g, 1, none⟩ = some (.int .i64 (l.getD 0 0)) := by rw [blk_cell HS1.out, List.getElem?_toArray]; exact cells_now' HL37.out
      have q4 := blk_frozen HS1.out 1))
 go_ret
 have s1 := set_now' HS1.out HL37.out 0 (by omega) x
 have s2 := set_kept' s1 (by rw [List.length_set]; exact HL37.out) H.out.good.first (.slice (some ⟨b, 0, none⟩) m c) t.kept.dropLast
 have hgr : w1.grownBy ((w2.setCell ⟨g, 1, none⟩ (.int .i64 x)).setCell ⟨g, 75, none⟩ (.slice (some ⟨b, 0, none⟩) m c)) (some g) := grown_set' (grown_set' HGS.out _ _) _ _
 rw [HE.out]
 refine ⟨rfl, below_grown (World.grownBy.trans HG.out hgr) HB.out H.out.lo, fun t' e2 => ?_⟩
 cases e2
 exact ⟨_, _, HGD2.out, H.out.lo, s2, Kd.R_grown H.out.rows hgr (fun k hk e => hk.1 (Option.some.inj e)), Kd.R_grown HT.out hgr (fun k hk e => hk.1 (Option.some.inj e))⟩
theorem may_kind {k r n : Int} (h : mayF k r n = true) : k = 0 ∨ k = 1 ∨ k = 2 ∨ k = 3 ∨ k = 4 ∨ k = 5 ∨ k = 6 ∨ k = 7 ∨ k = 8 ∨ k = 9 ∨ k = 10 := by
 unfold mayF at h
 by_cases c0 : k = 0 ∨ k = 9 ∨ k = 10
 ·
  omega
 rw [if_neg c0] at h
 by_cases c1 : k = 1 ∨ k = 3
 ·
  omega
 rw [if_neg c1] at h
 by_cases c2 : k = 2
 ·
  omega
 rw [if_neg c2] at h
 by_cases c4 : k = 4 ∨ k = 6 ∨ k = 7 ∨ k = 8
 ·
  omega
 rw [if_neg c4] at h
 by_cases c5 : k = 5
 ·
  omega
 rw [if_neg c5] at h
 cases h
theorem one_calls (w : World) (base g : Nat) (t : T) (rv kv : Value) (h : Tab w base g t rv kv) (hb : base ≤ w.heap.size) (k r n : Int) (b : Bool) (hbg : t.begun = !b) (hr : t.rows.length ≤ 1000000) (hk : t.kept.length ≤ 1000000) (hs : 0 ≤ t.size) :
    Calls Try.prog 88 #[.pointer (some ⟨g, 0, none⟩), .agg #[.int .i64 k, .int .i64 r, .int .i64 n], .bool b] w (Post base g w (does t k r n)) := by
 unfold does
 cases hm : mayF k r n with
 | false =>
  rw [if_pos rfl]
  exact one_bad w base g hb k r n b hm
 | true =>
  rw [if_neg (by decide)]
  cases b with
  | true =>
   by_cases hq : k = 1 ∨ k = 9 ∨ k = 10 ∨ k = 6
   ·
    rw [if_pos ⟨by rw [hbg]; rfl, hq⟩]
    exact one_early w base g hb k r n hm hq
   rw [if_neg (fun h => hq h.2)]
   rcases may_kind hm with rfl | rfl | rfl | rfl | rfl | rfl | rfl | rfl | rfl | rfl | rfl
   ·
    exact one_0 w base g t rv kv h hb r n true hm
   ·
    exact absurd (Or.inl rfl) hq
   ·
    exact one_2 w base g t rv kv h hb r n true hm
   ·
    exact one_3 w base g t rv kv h hb r n true hm
   ·
    exact one_4 w base g t rv kv h hb r n true hm
   ·
    exact one_5 w base g t rv kv h hb r n true hm
   ·
    exact absurd (Or.inr (Or.inr (Or.inr rfl))) hq
   ·
    exact one_7 w base g t rv kv h hb r n true hm
   ·
    exact one_8 w base g t rv kv h hb r n true hm
   ·
    exact absurd (Or.inr (Or.inl rfl)) hq
   exact absurd (Or.inr (Or.inr (Or.inl rfl))) hq
  | false =>
   rw [if_neg (fun h => by rw [hbg] at h; exact absurd h.1 (by decide))]
   rcases may_kind hm with rfl | rfl | rfl | rfl | rfl | rfl | rfl | rfl | rfl | rfl | rfl
   ·
    exact one_0 w base g t rv kv h hb r n false hm
   ·
    by_cases hn : n = 0
    ·
     subst hn
     exact one_1z w base g t rv kv h hb r hm hs
    exact one_1 w base g t rv kv h hb r n hm hn hr hs
   ·
    exact one_2 w base g t rv kv h hb r n false hm
   ·
    exact one_3 w base g t rv kv h hb r n false hm
   ·
    exact one_4 w base g t rv kv h hb r n false hm
   ·
    exact one_5 w base g t rv kv h hb r n false hm
   ·
    exact one_6 w base g t rv kv h hb r n hm
   ·
    exact one_7 w base g t rv kv h hb r n false hm
   ·
    exact one_8 w base g t rv kv h hb r n false hm
   ·
    exact one_9 w base g t rv kv h hb r n hm hk
   rcases Nat.eq_zero_or_pos t.kept.length with h0 | h0
   ·
    exact one_10n w base g t rv kv h hb r n hm (List.eq_nil_of_length_eq_zero h0)
   obtain ⟨m, e⟩ : ∃ m, t.kept.length = m + 1 := ⟨t.kept.length - 1, by omega⟩
   exact one_10s w base g t rv kv h hb r n hm m e (by omega)
set_option maxHeartbeats 4000000 in
theorem new_calls (size : Int) (hs : size ≤ 1048576) (w : World) : Calls Try.prog 86 #[.int .i64 size] w fun e w' => e = .returned (.pointer (some ⟨w.heap.size, 0, none⟩)) ∧ Below w.heap.size w w' ∧ Tab w' w.heap.size w.heap.size (fresh size) (.slice none 0 0) (.slice none 0 0) := by
 have HS := am hs
 clear hs
 go_enter Try.func86, Try.ntmps86
 go_wp2
 go_ret
 refine ⟨rfl, below_alloc (Below.refl _ _) _, good_fresh size HS.out, Nat.le_refl _, blk_new w _, Kd.R_nil _ _ _ _ _, Kd.R_nil _ _ _ _ _⟩
theorem ropl_drop (l : List S97) (n : Nat) (hn : n < l.length) : (opl (conv l)).drop n = ((rd_T97 l n).f0, (rd_T97 l n).f1, (rd_T97 l n).f2) :: (opl (conv l)).drop (n + 1) := by
 have : rd_T97 l (n : Int) = l[n] := by simp [rd_T97, List.getD, hn]
 rw [this, opl, conv, List.map_map, List.drop_eq_getElem_cons (by simpa using hn), List.getElem_map]
 rfl
theorem ropl_length (l : List S97) : (opl (conv l)).length = l.length := by rw [opl_length, conv_length]
set_option maxHeartbeats 4000000 in
theorem begin_calls (w : World) (base g : Nat) (t : T) (rv kv : Value) (h : Tab w base g t rv kv) (hb : base ≤ w.heap.size) (A0 : Option Addr) (c0 : Nat) (l0 : List S97) (hr0 : ∀ W, Below base w W → Kd.C k97 W A0 l0.length l0) (hl0 : l0.length ≤ 100000) (hl : t.rows.length ≤ 100000 ∧ t.kept.length ≤ 100000 ∧ 0 ≤ t.size) (hbg : t.begun = false) :
    Calls Try.prog 87 #[.pointer (some ⟨g, 0, none⟩), .slice A0 l0.length c0] w (Post base g w (begin_ t (opl (conv l0)))) := by
 have H := am h
 have HB := am hb
 have HL := am hl
 have HR0 := am hr0
 have HBG := am hbg
 have HBW := am (Below.refl base w)
 clear h hb hl hr0 hbg
 go_enter Try.func87, Try.ntmps87
 go_wp2
 go_loopg [5] l0.length (fun kq i w' => ∃ (n : Nat) (t' : T) (rv kv : Value), n + kq = l0.length ∧ i = .int .i64 (n : Int) ∧ Aside0 (doAll t (opl (conv l0)) = doAll t' ((opl (conv l0)).drop n)) ∧ Aside0 (Tab w' base g t' rv kv) ∧ Aside0 (Below base w w') ∧ Aside0 (Far t t' n))
 case atStart => exact ⟨0, t, rv, kv, by omega, rfl, ⟨rfl⟩, H, HBW, ⟨Far.zero t⟩⟩
 case round =>
  clear HBW H
  obtain ⟨n, t', rv', kv', hn, rfl, HD, H, HBW, HF⟩ := hrel
  cases gk with
  | zero =>
   have hltb : decide ((n : Int) < (l0.length : Int)) = false := by simp; omega
   have hd := HD.out
   rw [List.drop_of_length_le (by rw [ropl_length]; omega)] at hd
   have hfin : begin_ t (opl (conv l0)) = if 0 ≤ t'.now.getD 1 0 then some { t' with first := t'.now, begun := true } else none := by
    unfold begin_
    rw [hd]
    rfl
   have h := H.out
   have hn37 := h.good.now
   have g1 := set_firstAll h.blk h.good t'.now hn37
   have hg1 : Cfa.Good { t' with first := t'.now } := ⟨h.good.now, h.good.now, h.good.rows, h.good.kept, h.good.at0, h.good.size, h.good.atS⟩
   have hg2 : Cfa.Good { t' with first := t'.now, begun := true } := ⟨h.good.now, h.good.now, h.good.rows, h.good.kept, h.good.at0, h.good.size, h.good.atS⟩
   have hgr : wr.grownBy (wr.setCells g 38 (nums .i64 t'.now)) (some g) := grown_setCells _ _ _ _
   have hTT : Tab (wr.setCells g 38 (nums .i64 t'.now)) base g { t' with first := t'.now, begun := true } rv' kv' := h.turn hgr hg2 g1 rfl rfl
   have e3 : (wr.setCells g 38 (nums .i64 t'.now)).cell? ⟨g, 2, none⟩ = some (.int .i64 (t'.now.getD 1 0)) := by rw [blk_cell g1, List.getElem?_toArray]; exact cells_now hg1 1 (by omega)
   have HN := am h.nowR
   have HN37 := am hn37
   have HTH := am (there_of_blk (o := 38) (n := 37) h.blk (by rw [List.size_toArray, cells_len h.good]; decide))
   have HFIN := am hfin
   have HTT := am hTT
   have HBB := am (HBW.out.trans (below_grown hgr (by have := HB.out; have := HBW.out.size; omega) h.lo))
   obtain ⟨x, hx⟩ : ∃ x, t'.now.getD 1 0 = x := ⟨_, rfl⟩
   rw [hx] at e3
   have HX := am hx
   clear hd hfin h hn37 g1 hg1 hg2 hgr hTT hx HD HF
   go_wp2_with (first
     | ((with_reducible refine gate_dst (N := 23) rfl ?_); refine load_rowW rowTy rfl (.tmp 22) rfl g 1 rfl t'.now HN37.out HN.out ?_)
     | ((with_reducible refine gate_store (p := 25) rfl ?_); refine store_rowW rowTy rfl (.tmp 25) (.tmp 23) rfl g 38 t'.now HN37.out rfl rfl HTH.out ?_))
   go_ret
   have e := HFIN.out
   rw [HX.out] at e
   rw [e]
   by_cases c : 0 ≤ x
   ·
    rw [if_pos c, decide_eq_true (show x ≥ 0 from c)]
    refine ⟨rfl, HBB.out, fun t2 e => ?_⟩
    cases e
    exact ⟨_, _, HTT.out⟩
   rw [if_neg c, decide_eq_false (show ¬ x ≥ 0 from c)]
   exact ⟨rfl, HBB.out, fun t2 e => by cases e⟩
  | succ gk =>
   have hltb : decide ((n : Int) < (l0.length : Int)) = true := by simp; omega
   obtain ⟨ad, rfl, hx0, hx1, hx2⟩ := at_T97 (HR0.out _ HBW.out) (n : Int) (by omega) (by omega)
   rw [Int.toNat_natCast] at hx0 hx1 hx2
   have hd := ropl_drop l0 n (by omega)
   generalize rd_T97 l0 (n : Int) = x at *
   have HDR := am hd
   clear hd
   go_wp2_with fail
   refine (one_calls _ base g t' rv' kv' H.out (by have := HB.out; have := HBW.out.size; omega) x.f0 x.f1 x.f2 true (by rw [HF.out.begun, HBG.out]; rfl) (by have := HF.out.rows; have := HL.out; omega) (by have := HF.out.kept; have := HL.out; omega) (by have := HF.out.size; have := HL.out; omega)).mono ?_
   rintro e w2 ⟨rfl, hb2, hp⟩
   have hB2 : Below base w w2 := HBW.out.trans hb2
   have he : doAll t' ((opl (conv l0)).drop n) = (does t' x.f0 x.f1 x.f2).bind fun t'' => doAll t'' ((opl (conv l0)).drop (n + 1)) := by rw [HDR.out]; rfl
   cases hd : does t' x.f0 x.f1 x.f2 with
   | none =>
    rw [hd] at he
    have HE := am (HD.out.trans he)
    have HB2 := am hB2
    clear he hd hb2 hp hB2
    simp only [Option.isSome_none]
    go_wp2
    go_ret
    have e : begin_ t (opl (conv l0)) = none := by unfold begin_; rw [HE.out]; rfl
    rw [e]
    exact ⟨rfl, HB2.out, fun _ e => by cases e⟩
   | some t2 =>
    rw [hd] at he
    obtain ⟨rv2, kv2, hT2⟩ := hp t2 hd
    have HE := am (HD.out.trans he)
    have HB2 := am hB2
    have HT2 := am hT2
    have HF2 := am (HF.out.step hd)
    clear he hd hb2 hp hB2 hT2
    simp only [Option.isSome_some]
    go_wp2
    go_roundg gk
    case measure => omega
    case rel => exact ⟨n + 1, t2, rv2, kv2, by omega, by go_num, HE, HT2, HB2, HF2⟩
theorem begin_begun {t t1 : T} {l : List (Int × Int × Int)} (e : begin_ t l = some t1) : t1.begun = true := by
 unfold begin_ at e
 cases hd : doAll t l with
 | none => rw [hd] at e; cases e
 | some t2 =>
  rw [hd] at e
  rcases ite_cases e with ⟨_, e⟩ | ⟨_, e⟩
  ·
   cases e; rfl
  cases e
def RowsPost (w : World) (r : List Row × Int) (e : Ending) (w' : World) : Prop :=
  ∃ v, e = .returned (.tuple #[v, .int .i64 r.2]) ∧ Kd.R rowK 155 w' w.heap.size (fun _ => True) v r.1 ∧ Below w.heap.size w w'
set_option maxHeartbeats 4000000 in
theorem rows_refused (A0 : Option Addr) (c0 : Nat) (l0 : List S97) (A1 : Option Addr) (c1 : Nat) (l1 : List S97) (size : Int) (w : World) (h : size < 0 ∨ 1048576 < size) :
    Calls Try.prog 65 #[.slice A0 l0.length c0, .slice A1 l1.length c1, .int .i64 size] w (RowsPost w ([], 11)) := by
 by_cases c : size < 0
 ·
  have e1 : decide (size < 0) = true := decide_eq_true c
  clear h c
  go_enter Try.func65, Try.ntmps65
  go_wp2
  go_ret2
  exact ⟨_, rfl, Kd.R_nil _ _ _ _ _, Below.refl _ _⟩
 have e1 : decide (size < 0) = false := decide_eq_false c
 have e2 : decide (size > 1048576) = true := decide_eq_true (by omega)
 clear h c
 go_enter Try.func65, Try.ntmps65
 go_wp2
 go_ret2
 exact ⟨_, rfl, Kd.R_nil _ _ _ _ _, Below.refl _ _⟩
set_option maxHeartbeats 4000000 in
theorem rows_long (A0 : Option Addr) (c0 : Nat) (l0 : List S97) (A1 : Option Addr) (c1 : Nat) (l1 : List S97) (size : Int) (w : World) (hs : ¬ (size < 0 ∨ 1048576 < size)) (h : 4000 < l0.length ∨ 4000 < l1.length) :
    Calls Try.prog 65 #[.slice A0 l0.length c0, .slice A1 l1.length c1, .int .i64 size] w (RowsPost w ([], 6)) := by
 have e1 : decide (size < 0) = false := decide_eq_false (by omega)
 have e2 : decide (size > 1048576) = false := decide_eq_false (by omega)
 by_cases c : 4000 < l0.length
 ·
  have e3 : decide ((l0.length : Int) > 4000) = true := decide_eq_true (by omega)
  clear h c hs
  go_enter Try.func65, Try.ntmps65
  go_wp2
  go_ret2
  exact ⟨_, rfl, Kd.R_nil _ _ _ _ _, Below.refl _ _⟩
 have e3 : decide ((l0.length : Int) > 4000) = false := decide_eq_false (by omega)
 have e4 : decide ((l1.length : Int) > 4000) = true := decide_eq_true (by omega)
 clear h c hs
 go_enter Try.func65, Try.ntmps65
 go_wp2
 go_ret2
 exact ⟨_, rfl, Kd.R_nil _ _ _ _ _, Below.refl _ _⟩
theorem wrapN {n m : Nat} (h : n < m) (hm : m ≤ 4000) : wrap64 ((n : Int) + 1) = (n : Int) + 1 := by unfold wrap64; omega
set_option maxHeartbeats 1000000 in
theorem rows_main (A0 : Option Addr) (c0 : Nat) (l0 : List S97) (A1 : Option Addr) (c1 : Nat) (l1 : List S97) (size : Int) (w : World) (hr0 : Kd.C k97 w A0 l0.length l0) (hr1 : Kd.C k97 w A1 l1.length l1) (hs : ¬ (size < 0 ∨ 1048576 < size)) (h : ¬ (4000 < l0.length ∨ 4000 < l1.length)) (R : List Row × Int) (hR : (match (begin_ (fresh size) (opl (conv l0))).bind fun t => doAll t (opl (conv l1)) with | none => (([] : List Row), (130 : Int)) | some t => (t.rows ++ [t.now], 0)) = R) :
    Calls Try.prog 65 #[.slice A0 l0.length c0, .slice A1 l1.length c1, .int .i64 size] w (RowsPost w R) := by
 have e1 : decide (size < 0) = false := decide_eq_false (by omega)
 have e2 : decide (size > 1048576) = false := decide_eq_false (by omega)
 have e3 : decide ((l0.length : Int) > 4000) = false := decide_eq_false (by omega)
 have e4 : decide ((l1.length : Int) > 4000) = false := decide_eq_false (by omega)
 have HS := am (show 0 ≤ size ∧ size ≤ 1048576 from by omega)
 have HLN := am (show l0.length ≤ 4000 ∧ l1.length ≤ 4000 from by omega)
 have HR0 := am hr0
 have HR1 := am hr1
 have HR := am hR
 clear hr0 hr1 hs h hR
 go_enter Try.func65, Try.ntmps65
 go_wp2_with fail
 refine (new_calls size HS.out.2 _).mono ?_
 rintro e w2 ⟨rfl, hb2, hT⟩
 have HB2 := am hb2
 have HT := am hT
 have HLE := am (Nat.le_refl w.heap.size)
 clear hb2 hT
 go_wp2_with fail
 refine (begin_calls _ w.heap.size w.heap.size (fresh size) _ _ HT.out HB2.out.size A0 c0 l0 (fun W hW => Kd.C_below HR0.out (HB2.out.trans hW)) (by have := HLN.out; omega) ⟨by show 0 ≤ _; omega, by show 0 ≤ _; omega, HS.out.1⟩ rfl).mono ?_
 rintro e w3 ⟨rfl, hb3, hp⟩
 have HB3 := am (HB2.out.trans hb3)
 cases hbg : begin_ (fresh size) (opl (conv l0)) with
 | none =>
  have hres := HR.out
  rw [hbg] at hres
  have hres2 : ([], (130 : Int)) = R := hres
  subst hres2
  clear hres hbg hp hb3 HR
  simp only [Option.isSome_none]
  go_wp2
  go_ret2
  exact ⟨_, rfl, Kd.R_nil _ _ _ _ _, HB3.out⟩
 | some t1 =>
  have hbf := begin_far hbg
  rw [ropl_length] at hbf
  have HBF := am (show t1.rows.length ≤ 4000 ∧ t1.kept.length ≤ 4000 ∧ 0 ≤ t1.size from by
    have h1 : (fresh size).rows.length = 0 := rfl
    have h2 : (fresh size).kept.length = 0 := rfl
    have h3 : (fresh size).size = size := rfl
    have := HLN.out
    have := HS.out
    omega)
  have HBN := am (begin_begun hbg)
  have hres := HR.out
  rw [hbg] at hres
  have HRR := am (show (match doAll t1 (opl (conv l1)) with | none => (([] : List Row), (130 : Int)) | some t => (t.rows ++ [t.now], 0)) = R from hres)
  obtain ⟨rv, kv, hT3⟩ := hp t1 hbg
  have HT3 := am hT3
  clear hb3 hp hT3 HT HB2 hbf hbg hres HR
  simp only [Option.isSome_some]
  go_wp2
  go_loopg [9] l1.length (fun kq i w' => ∃ (n : Nat) (t' : T) (rv kv : Value), n + kq = l1.length ∧ i = .int .i64 (n : Int) ∧ Aside0 (doAll t1 (opl (conv l1)) = doAll t' ((opl (conv l1)).drop n)) ∧ Aside0 (Tab w' w.heap.size w.heap.size t' rv kv) ∧ Aside0 (Below w.heap.size w w') ∧ Aside0 (Far t1 t' n))
  case atStart => exact ⟨0, t1, rv, kv, by omega, rfl, ⟨rfl⟩, HT3, HB3, ⟨Far.zero t1⟩⟩
  case round =>
   clear HB3 HT3
   obtain ⟨n, t', rv', kv', hn, rfl, HD, HT, HB, HF⟩ := hrel
   cases gk with
   | zero =>
    have hltb : decide ((n : Int) < (l1.length : Int)) = false := decide_eq_false (by omega)
    have hd := HD.out
    rw [List.drop_of_length_le (by rw [ropl_length]; omega)] at hd
    have hres := HRR.out
    rw [hd] at hres
    have hres2 : (t'.rows ++ [t'.now], (0 : Int)) = R := hres
    subst hres2
    have f1 := HT.out.rowsC
    have HN := am HT.out.nowR
    have hgl := blk_lt HT.out.blk
    clear hd hres HRR HD
    go_wp2
    refine start_ (n := 12) (S := fun u => u.cell? ⟨w.heap.size, 0, none⟩ = some rv' ∧ Aside0 (u.rangeAt w.heap.size 1 (nums .i64 t'.now))) (ds := [9]) (bm 12 0) (by kernel_rfl) rfl rfl ?_ (fun hHeld => ?_)
    case refine_1 => exact ⟨by go_simp, ⟨(World.rangeAt_drew _ _ _ _).2 HN.out⟩⟩
    refine pure_ (i := 0) (N := some 43) (v := ?_) (a' := ?_) (bm 12 1) rfl rfl (by kernel_rfl) (fun _ _ _ h => h) (Or.inl ⟨by rfl, ?_⟩) ?_ ?_
    rotate_left
    ·
     intro u
     go_simp
     with_reducible rfl
    rotate_left
    ·
     simp only [pz]
     rfl
    refine pure_ (i := 1) (N := some 44) (v := ?_) (a' := ?_) (bm 12 3) rfl rfl (by kernel_rfl) (fun _ _ _ h => h) (Or.inl ⟨by rfl, ?_⟩) ?_ ?_
    rotate_left
    ·
     intro u
     go_simp
     with_reducible rfl
    rotate_left
    ·
     simp only [pz]
     rfl
    refine pure_ (i := 2) (N := some 45) (v := ?_) (a' := ?_) (bm 12 7) rfl rfl (by kernel_rfl) (fun _ _ _ h => h) (Or.inl ⟨by rfl, ?_⟩) ?_ ?_
    rotate_left
    ·
     intro u
     go_simp
     with_reducible rfl
    rotate_left
    ·
     simp only [pz]
     rfl
    refine take_ (i := 3) (N := some 46) (v := ?_) (a' := ?_) (bm 12 15) rfl rfl (by kernel_rfl) (fun _ _ _ h => h) (Or.inl ⟨by rfl, ?_⟩) hHeld ?_ ?_
    rotate_left
    ·
     rintro u ⟨s0, s1⟩
     go_simp
     with_reducible rfl
    rotate_left
    ·
     simp only [pz]
     rfl
    refine pure_ (i := 4) (N := some 47) (v := ?_) (a' := ?_) (bm 12 31) rfl rfl (by kernel_rfl) (fun _ _ _ h => h) (Or.inl ⟨by rfl, ?_⟩) ?_ ?_
    rotate_left
    ·
     intro u
     go_simp
     with_reducible rfl
    rotate_left
    ·
     simp only [pz]
     rfl
    refine pure_ (i := 5) (N := some 48) (v := ?_) (a' := ?_) (bm 12 63) rfl rfl (by kernel_rfl) (fun _ _ _ h => h) (Or.inl ⟨by rfl, ?_⟩) ?_ ?_
    rotate_left
    ·
     intro u
     go_simp
     with_reducible rfl
    rotate_left
    ·
     simp only [pz]
     rfl
    refine pure_ (i := 6) (N := some 49) (v := ?_) (a' := ?_) (bm 12 127) rfl rfl (by kernel_rfl) (fun _ _ _ h => h) (Or.inl ⟨by rfl, ?_⟩) ?_ ?_
    rotate_left
    ·
     intro u
     go_simp
     with_reducible rfl
    rotate_left
    ·
     simp only [pz]
     rfl
    refine take_ (i := 7) (N := some 50) (v := .agg (nums .i64 t'.now).toArray) (a' := ?_) (bm 12 255) rfl rfl (by kernel_rfl) (fun _ _ _ h => h) (load_row_y (by rfl) (.tmp 49) rfl w.heap.size 1 rfl t'.now HT.out.good.now (fun u hu => hu.2.out)) hHeld ?_ ?_
    rotate_left
    ·
     simp only [pz]
     rfl
    refine one_ (i := 8) (N := some 51) (bm 12 511) rfl rfl (by kernel_rfl) (by decide) (fun K hK => ?_)
    rw [if_pos (by rfl)]
    refine wp_build_row (.tmp 50) rfl t'.now HT.out.good.now rfl ?_
    refine hK.out _ _ ⟨by go_simp, ⟨World.rangeAt_alloc ((World.rangeAt_drew _ _ _ _).2 HN.out) _⟩⟩ (fun hHeld => ?_)
    clear hK K
    refine norm_ (a' := ?_) ?_ ?_
    rotate_left
    ·
     show Act.put _ (some 51) _ = _
     simp only [pz]
     rfl
    refine last_ (i := 9) (N := some 52) (bm 12 1023) rfl rfl (by kernel_rfl) (by decide) (fun K hK => ?_)
    refine Kd.R_append_step rowK (w0 := w) w.heap.size (by rfl) (.tmp 46) (.tmp 51) 114 155 _ 296 rfl Try.underlying114 info155 rfl (by decide) (by decide) rv' t'.rows t'.now (nums .i64 t'.now) (fun k => True) (fun _ => False) rfl rfl (row_M _ _ _ _ HT.out.good.now) (fun _ h => h.elim) (fun _ _ => trivial) ?aO ?aB ?aS ?aL ?_
    case aO => exact Kd.R_mono (Kd.R_below HT.out.rows (below_drew (Below.refl _ _))) (fun _ _ => trivial)
    case aB => exact below_drew HB.out
    case aS => exact HB.out.size
    case aL => have := HBF.out.1; have := HF.out.rows; have := HLN.out; omega
    intro v1 w4 ho hbb hgr hat
    have HO := am ho
    have HBB := am hbb
    clear ho hbb hgr hat
    refine hK.out _ _ ?_
    clear hK K
    refine norm_ (a' := ?_) ?_ ?_
    rotate_left
    ·
     show Act.put _ (some 52) _ = _
     simp only [pz]
     rfl
    refine pure_ (i := 10) (N := some 6) (v := ?_) (a' := ?_) (bm 12 2047) rfl rfl (by kernel_rfl) (fun _ _ _ h => h) (Or.inl ⟨by rfl, ?_⟩) ?_ ?_
    rotate_left
    ·
     intro u
     go_simp
     with_reducible rfl
    rotate_left
    ·
     simp only [pz]
     rfl
    refine pure_ (i := 11) (N := some 7) (v := ?_) (a' := ?_) (bm 12 4095) rfl rfl (by kernel_rfl) (fun _ _ _ h => h) (Or.inl ⟨by rfl, ?_⟩) ?_ ?_
    rotate_left
    ·
     intro u
     go_simp
     with_reducible rfl
    rotate_left
    ·
     simp only [pz]
     rfl
    refine done_ (by kernel_rfl) ?_
    go_wp2
    go_ret2
    exact ⟨_, rfl, HO.out, HBB.out⟩
   | succ gk =>
    have hltb : decide ((n : Int) < (l1.length : Int)) = true := decide_eq_true (by omega)
    have hw1 := wrapN (show n < l1.length from by omega) HLN.out.2
    obtain ⟨ad, rfl, hx0, hx1, hx2⟩ := at_T97 (Kd.C_below HR1.out HB.out) (n : Int) (by omega) (by omega)
    rw [Int.toNat_natCast] at hx0 hx1 hx2
    have hd := ropl_drop l1 n (by omega)
    generalize rd_T97 l1 (n : Int) = x at *
    have HDR := am hd
    clear hd
    go_wp2_with fail
    refine (one_calls _ w.heap.size w.heap.size t' rv' kv' HT.out HB.out.size x.f0 x.f1 x.f2 false (by rw [HF.out.begun, HBN.out]; rfl) (by have := HF.out.rows; have := HBF.out; have := HLN.out; omega) (by have := HF.out.kept; have := HBF.out; have := HLN.out; omega) (by have := HF.out.size; have := HBF.out; omega)).mono ?_
    rintro e w5 ⟨rfl, hb2, hp⟩
    have hB2 : Below w.heap.size w w5 := HB.out.trans hb2
    have he : doAll t' ((opl (conv l1)).drop n) = (does t' x.f0 x.f1 x.f2).bind fun t'' => doAll t'' ((opl (conv l1)).drop (n + 1)) := by rw [HDR.out]; rfl
    cases hd : does t' x.f0 x.f1 x.f2 with
    | none =>
     rw [hd] at he
     have hres := HRR.out
     rw [HD.out.trans he] at hres
     have hres2 : ([], (130 : Int)) = R := hres
     subst hres2
     have HB2 := am hB2
     clear he hd hb2 hp hB2 hres HRR
     simp only [Option.isSome_none]
     go_wp2
     go_ret2
     exact ⟨_, rfl, Kd.R_nil _ _ _ _ _, HB2.out⟩
    | some t2 =>
     rw [hd] at he
     obtain ⟨rv2, kv2, hT2⟩ := hp t2 hd
     have HE := am (HD.out.trans he)
     have HB2 := am hB2
     have HT2 := am hT2
     have HF2 := am (HF.out.step hd)
     clear he hd hb2 hp hB2 hT2
     simp only [Option.isSome_some]
     go_wp2
     go_roundg gk
     case measure => omega
     case rel => exact ⟨n + 1, t2, rv2, kv2, by omega, by go_num, HE, HT2, HB2, HF2⟩
theorem rows_calls (A0 : Option Addr) (c0 : Nat) (l0 : List S97) (A1 : Option Addr) (c1 : Nat) (l1 : List S97) (size : Int) (w : World) (hr0 : Kd.C k97 w A0 l0.length l0) (hr1 : Kd.C k97 w A1 l1.length l1) :
    Calls Try.prog 65 #[.slice A0 l0.length c0, .slice A1 l1.length c1, .int .i64 size] w (RowsPost w (rowsOf (opl (conv l0)) (opl (conv l1)) size)) := by
 unfold rowsOf
 rw [ropl_length, ropl_length]
 by_cases c1' : size < 0 ∨ 1048576 < size
 ·
  rw [if_pos c1']
  exact rows_refused A0 c0 l0 A1 c1 l1 size w c1'
 rw [if_neg c1']
 by_cases c2 : 4000 < l0.length ∨ 4000 < l1.length
 ·
  rw [if_pos c2]
  exact rows_long A0 c0 l0 A1 c1 l1 size w c1' c2
 rw [if_neg c2]
 exact rows_main A0 c0 l0 A1 c1 l1 size w hr0 hr1 c1' c2 _ rfl
theorem rcheck_calls (A0 : Option Addr) (c0 : Nat) (l0 : List S97) (A1 : Option Addr) (c1 : Nat) (l1 : List S97) (size : Int) (w : World) (hr0 : Kd.C k97 w A0 l0.length l0) (hr1 : Kd.C k97 w A1 l1.length l1) (R : List Row × Int) (hR : rowsOf (opl (conv l0)) (opl (conv l1)) size = R) :
    Calls Try.prog 34 #[.slice A0 l0.length c0, .slice A1 l1.length c1, .int .i64 size] w fun e w' => e = .returned (.int .i64 R.2) ∧ Below w.heap.size w w' := by
 have hc := CfaR.rows_calls A0 c0 l0 A1 c1 l1 size w hr0 hr1
 rw [hR] at hc
 have HC := am hc
 clear hc hR hr0 hr1
 go_enter Try.func34, Try.ntmps34
 go_wp2_with fail
 refine HC.out.mono ?_
 rintro e w1 ⟨v, rfl, hv, hw1⟩
 clear hv HC
 simp only []
 go_wp2
 go_ret
 exact ⟨rfl, hw1⟩
end Go.Proofs.Ytfgfnflhdabmcaa.CfaR
end
