/- Lemmas and contracts, one text behind the other: what the row of this claim needs; no conditions beyond those that each theorem names. -/
import Derived.Test.YtfgfnflhdabmcaaVP2
section
namespace Go.Proofs.Ytfgfnflhdabmcaa.G
open Go.RowKit Go.Proofs.YtfgfnflhdabmcaaW.PrintWords Go.Proofs.YtfgfnflhdabmcaaW.PrintLast Go.Proofs.YtfgfnflhdabmcaaW.PrintMore
attribute [local go_sem] max2_int min2_int max_two min_two max_three min_three max_four min_four   -- for this text's walks alone
set_option linter.unusedVariables false
set_option linter.unusedSimpArgs false
mutual
def ehframe_Check.j0 : Nat → List (S69) → List (S46) → Bool → Option (Int)
 | 0, _, _, _ => none
 | k + 1, x0, x1, x27 => if x27 = true then (some 6) else (ehframe_Check.l0 k x0 x1 x0 (x0.length : Int) 0)
def ehframe_Check.l0 : Nat → List (S69) → List (S46) → List (S69) → Int → Int → Option (Int)
 | 0, _, _, _, _, _ => none
 | k + 1, x0, x1, x28, x29, x30 => if x30 < x29 then (if 0 ≤ x30 then (if x30 < (x28.length : Int) then (if (((rd_T69 x28 x30).f1).length : Int) > 3992 then (some 6) else (ehframe_Check.l0 k x0 x1 x28 x29 (wrap64 (x30 + 1)))) else (none)) else (none)) else (ehframe_Check.l1 k x0 x1 x1 (x1.length : Int) 0)
def ehframe_Check.l1 : Nat → List (S69) → List (S46) → List (S46) → Int → Int → Option (Int)
 | 0, _, _, _, _, _ => none
 | k + 1, x0, x1, x39, x40, x41 => if x41 < x40 then (if 0 ≤ x41 then (if x41 < (x39.length : Int) then (if (((rd_T46 x39 x41).f3).length : Int) > 3992 then (some 6) else (ehframe_Check.l1 k x0 x1 x39 x40 (wrap64 (x41 + 1)))) else (none)) else (none)) else (ehframe_Check.l2 k x0 x1 x0 (x0.length : Int) 0)
def ehframe_Check.l2 : Nat → List (S69) → List (S46) → List (S69) → Int → Int → Option (Int)
 | 0, _, _, _, _, _ => none
 | k + 1, x0, x1, x50, x51, x52 => if x52 < x51 then (if 0 ≤ x52 then (if x52 < (x50.length : Int) then ((ehframe_of.f ((rd_T69 x50 x52).f0)).bind fun bt107 => (if bt107.2.2.2 = true then (ehframe_Check.l2 k x0 x1 x50 x51 (wrap64 (x52 + 1))) else (some 140))) else (none)) else (none)) else (ehframe_Check.l3 k x0 x1 x1 (x1.length : Int) 0)
def ehframe_Check.l3 : Nat → List (S69) → List (S46) → List (S46) → Int → Int → Option (Int)
 | 0, _, _, _, _, _ => none
 | k + 1, x0, x1, x66, x67, x68 => if x68 < x67 then (if 0 ≤ x68 then (if x68 < (x66.length : Int) then (if ((rd_T46 x66 x68).f0) < 0 then (some 140) else (if ((rd_T46 x66 x68).f0) ≥ (x0.length : Int) then (some 140) else ((ehframe_near.f k (([(rd_T46 x66 x68).f1] : List Int))).bind fun t117 => (if t117 = true then (if ((rd_T46 x66 x68).f2) < 0 then (some 140) else (if ((rd_T46 x66 x68).f2) > 1048576 then (some 140) else (ehframe_Check.l3 k x0 x1 x66 x67 (wrap64 (x68 + 1))))) else (some 140))))) else (none)) else (none)) else (ehframe_Check.l4 k x0 x1 x0 (x0.length : Int) 0)
def ehframe_Check.l4 : Nat → List (S69) → List (S46) → List (S69) → Int → Int → Option (Int)
 | 0, _, _, _, _, _ => none
 | k + 1, x0, x1, x100, x101, x102 => if x102 < x101 then (if 0 ≤ x102 then (if x102 < (x100.length : Int) then ((cfa_Check.f ((rd_T69 x100 x102).f1) ([] : List (S105)) 0).bind fun t120 => (if t120 = 0 then (ehframe_Check.l4 k x0 x1 x100 x101 (wrap64 (x102 + 1))) else (some 130))) else (none)) else (none)) else (ehframe_Check.l5 k x0 x1 (x1.length : Int) 0)
def ehframe_Check.l5 : Nat → List (S69) → List (S46) → Int → Int → Option (Int)
 | 0, _, _, _, _ => none
 | k + 1, x0, x111, x112, x113 => if x113 < x112 then (if 0 ≤ x113 then (if x113 < (x111.length : Int) then (if 0 ≤ ((rd_T46 x111 x113).f0) then (if ((rd_T46 x111 x113).f0) < (x0.length : Int) then ((cfa_Check.f ((rd_T69 x0 ((rd_T46 x111 x113).f0)).f1) ((rd_T46 x111 x113).f3) ((rd_T46 x111 x113).f2)).bind fun t124 => (if t124 = 0 then (ehframe_Check.l5 k x0 x111 x112 (wrap64 (x113 + 1))) else (some 130))) else (none)) else (none)) else (none)) else (none)) else (some 0)
end
def ehframe_Check.f (k : Nat) (l0 : List (S69)) (l1 : List (S46)) : Option (Int) := if (l0.length : Int) > 4000 then (ehframe_Check.j0 k l0 l1 true) else (ehframe_Check.j0 k l0 l1 (decide ((l1.length : Int) > 4000)))
theorem ehframe_Check.mono_l : ∀ k, (∀ y0 y1 y2, LeO (ehframe_Check.j0 k y0 y1 y2) (ehframe_Check.j0 (k + 1) y0 y1 y2)) ∧ (∀ y0 y1 y2 y3 y4, LeO (ehframe_Check.l0 k y0 y1 y2 y3 y4) (ehframe_Check.l0 (k + 1) y0 y1 y2 y3 y4)) ∧ (∀ y0 y1 y2 y3 y4, LeO (ehframe_Check.l1 k y0 y1 y2 y3 y4) (ehframe_Check.l1 (k + 1) y0 y1 y2 y3 y4)) ∧ (∀ y0 y1 y2 y3 y4, LeO (ehframe_Check.l2 k y0 y1 y2 y3 y4) (ehframe_Check.l2 (k + 1) y0 y1 y2 y3 y4)) ∧ (∀ y0 y1 y2 y3 y4, LeO (ehframe_Check.l3 k y0 y1 y2 y3 y4) (ehframe_Check.l3 (k + 1) y0 y1 y2 y3 y4)) ∧ (∀ y0 y1 y2 y3 y4, LeO (ehframe_Check.l4 k y0 y1 y2 y3 y4) (ehframe_Check.l4 (k + 1) y0 y1 y2 y3 y4)) ∧ (∀ y0 y1 y2 y3, LeO (ehframe_Check.l5 k y0 y1 y2 y3) (ehframe_Check.l5 (k + 1) y0 y1 y2 y3))
 | 0 => ⟨fun _ _ _ r h => by simp [ehframe_Check.j0] at h, fun _ _ _ _ _ r h => by simp [ehframe_Check.l0] at h, fun _ _ _ _ _ r h => by simp [ehframe_Check.l1] at h, fun _ _ _ _ _ r h => by simp [ehframe_Check.l2] at h, fun _ _ _ _ _ r h => by simp [ehframe_Check.l3] at h, fun _ _ _ _ _ r h => by simp [ehframe_Check.l4] at h, fun _ _ _ _ r h => by simp [ehframe_Check.l5] at h⟩
 | k + 1 => by
  obtain ⟨ih0, ih1, ih2, ih3, ih4, ih5, ih6⟩ := ehframe_Check.mono_l k
  refine ⟨?_, ?_, ?_, ?_, ?_, ?_, ?_⟩
  ·
   intro y0 y1 y2
   unfold ehframe_Check.j0
   repeat' first
   | (with_reducible exact ih0 _ _ _)
   | (with_reducible exact ih1 _ _ _ _ _)
   | (with_reducible exact ih2 _ _ _ _ _)
   | (with_reducible exact ih3 _ _ _ _ _)
   | (with_reducible exact ih4 _ _ _ _ _)
   | (with_reducible exact ih5 _ _ _ _ _)
   | (with_reducible exact ih6 _ _ _ _)
   | (with_reducible exact ehframe_near.mono _ _)
   | (with_reducible exact LeO.refl _)
   | (with_reducible exact LeO.none _)
   | (with_reducible refine LeO.ite ?_ ?_)
   | (with_reducible refine LeO.bind ?_ (fun _ => ?_))
   | exact ih0 _ _ _
   | exact ih1 _ _ _ _ _
   | exact ih2 _ _ _ _ _
   | exact ih3 _ _ _ _ _
   | exact ih4 _ _ _ _ _
   | exact ih5 _ _ _ _ _
   | exact ih6 _ _ _ _
   | exact ehframe_near.mono _ _
   | exact LeO.none _
   | refine LeO.ite ?_ ?_
   | refine LeO.bind ?_ (fun _ => ?_)
  ·
   intro y0 y1 y2 y3 y4
   unfold ehframe_Check.l0
   repeat' first
   | (with_reducible exact ih0 _ _ _)
   | (with_reducible exact ih1 _ _ _ _ _)
   | (with_reducible exact ih2 _ _ _ _ _)
   | (with_reducible exact ih3 _ _ _ _ _)
   | (with_reducible exact ih4 _ _ _ _ _)
   | (with_reducible exact ih5 _ _ _ _ _)
   | (with_reducible exact ih6 _ _ _ _)
   | (with_reducible exact ehframe_near.mono _ _)
   | (with_reducible exact LeO.refl _)
   | (with_reducible exact LeO.none _)
   | (with_reducible refine LeO.ite ?_ ?_)
   | (with_reducible refine LeO.bind ?_ (fun _ => ?_))
   | exact ih0 _ _ _
   | exact ih1 _ _ _ _ _
   | exact ih2 _ _ _ _ _
   | exact ih3 _ _ _ _ _
   | exact ih4 _ _ _ _ _
   | exact ih5 _ _ _ _ _
   | exact ih6 _ _ _ _
   | exact ehframe_near.mono _ _
   | exact LeO.none _
   | refine LeO.ite ?_ ?_
   | refine LeO.bind ?_ (fun _ => ?_)
  ·
   intro y0 y1 y2 y3 y4
   unfold ehframe_Check.l1
   repeat' first
   | (with_reducible exact ih0 _ _ _)
   | (with_reducible exact ih1 _ _ _ _ _)
   | (with_reducible exact ih2 _ _ _ _ _)
   | (with_reducible exact ih3 _ _ _ _ _)
   | (with_reducible exact ih4 _ _ _ _ _)
   | (with_reducible exact ih5 _ _ _ _ _)
   | (with_reducible exact ih6 _ _ _ _)
   | (with_reducible exact ehframe_near.mono _ _)
   | (with_reducible exact LeO.refl _)
   | (with_reducible exact LeO.none _)
   | (with_reducible refine LeO.ite ?_ ?_)
   | (with_reducible refine LeO.bind ?_ (fun _ => ?_))
   | exact ih0 _ _ _
   | exact ih1 _ _ _ _ _
   | exact ih2 _ _ _ _ _
   | exact ih3 _ _ _ _ _
   | exact ih4 _ _ _ _ _
   | exact ih5 _ _ _ _ _
   | exact ih6 _ _ _ _
   | exact ehframe_near.mono _ _
   | exact LeO.none _
   | refine LeO.ite ?_ ?_
   | refine LeO.bind ?_ (fun _ => ?_)
  ·
   intro y0 y1 y2 y3 y4
   unfold ehframe_Check.l2
   repeat' first
   | (with_reducible exact ih0 _ _ _)
   | (with_reducible exact ih1 _ _ _ _ _)
   | (with_reducible exact ih2 _ _ _ _ _)
   | (with_reducible exact ih3 _ _ _ _ _)
   | (with_reducible exact ih4 _ _ _ _ _)
   | (with_reducible exact ih5 _ _ _ _ _)
   | (with_reducible exact ih6 _ _ _ _)
   | (with_reducible exact ehframe_near.mono _ _)
   | (with_reducible exact LeO.refl _)
   | (with_reducible exact LeO.none _)
   | (with_reducible refine LeO.ite ?_ ?_)
   | (with_reducible refine LeO.bind ?_ (fun _ => ?_))
   | exact ih0 _ _ _
   | exact ih1 _ _ _ _ _
   | exact ih2 _ _ _ _ _
   | exact ih3 _ _ _ _ _
   | exact ih4 _ _ _ _ _
   | exact ih5 _ _ _ _ _
   | exact ih6 _ _ _ _
   | exact ehframe_near.mono _ _
   | exact LeO.none _
   | refine LeO.ite ?_ ?_
   | refine LeO.bind ?_ (fun _ => ?_)
  ·
   intro y0 y1 y2 y3 y4
   unfold ehframe_Check.l3
   repeat' first
   | (with_reducible exact ih0 _ _ _)
   | (with_reducible exact ih1 _ _ _ _ _)
   | (with_reducible exact ih2 _ _ _ _ _)
   | (with_reducible exact ih3 _ _ _ _ _)
   | (with_reducible exact ih4 _ _ _ _ _)
   | (with_reducible exact ih5 _ _ _ _ _)
   | (with_reducible exact ih6 _ _ _ _)
   | (with_reducible exact ehframe_near.mono _ _)
   | (with_reducible exact LeO.refl _)
   | (with_reducible exact LeO.none _)
   | (with_reducible refine LeO.ite ?_ ?_)
   | (with_reducible refine LeO.bind ?_ (fun _ => ?_))
   | exact ih0 _ _ _
   | exact ih1 _ _ _ _ _
   | exact ih2 _ _ _ _ _
   | exact ih3 _ _ _ _ _
   | exact ih4 _ _ _ _ _
   | exact ih5 _ _ _ _ _
   | exact ih6 _ _ _ _
   | exact ehframe_near.mono _ _
   | exact LeO.none _
   | refine LeO.ite ?_ ?_
   | refine LeO.bind ?_ (fun _ => ?_)
  ·
   intro y0 y1 y2 y3 y4
   unfold ehframe_Check.l4
   repeat' first
   | (with_reducible exact ih0 _ _ _)
   | (with_reducible exact ih1 _ _ _ _ _)
   | (with_reducible exact ih2 _ _ _ _ _)
   | (with_reducible exact ih3 _ _ _ _ _)
   | (with_reducible exact ih4 _ _ _ _ _)
   | (with_reducible exact ih5 _ _ _ _ _)
   | (with_reducible exact ih6 _ _ _ _)
   | (with_reducible exact ehframe_near.mono _ _)
   | (with_reducible exact LeO.refl _)
   | (with_reducible exact LeO.none _)
   | (with_reducible refine LeO.ite ?_ ?_)
   | (with_reducible refine LeO.bind ?_ (fun _ => ?_))
   | exact ih0 _ _ _
   | exact ih1 _ _ _ _ _
   | exact ih2 _ _ _ _ _
   | exact ih3 _ _ _ _ _
   | exact ih4 _ _ _ _ _
   | exact ih5 _ _ _ _ _
   | exact ih6 _ _ _ _
   | exact ehframe_near.mono _ _
   | exact LeO.none _
   | refine LeO.ite ?_ ?_
   | refine LeO.bind ?_ (fun _ => ?_)
  ·
   intro y0 y1 y2 y3
   unfold ehframe_Check.l5
   repeat' first
   | (with_reducible exact ih0 _ _ _)
   | (with_reducible exact ih1 _ _ _ _ _)
   | (with_reducible exact ih2 _ _ _ _ _)
   | (with_reducible exact ih3 _ _ _ _ _)
   | (with_reducible exact ih4 _ _ _ _ _)
   | (with_reducible exact ih5 _ _ _ _ _)
   | (with_reducible exact ih6 _ _ _ _)
   | (with_reducible exact ehframe_near.mono _ _)
   | (with_reducible exact LeO.refl _)
   | (with_reducible exact LeO.none _)
   | (with_reducible refine LeO.ite ?_ ?_)
   | (with_reducible refine LeO.bind ?_ (fun _ => ?_))
   | exact ih0 _ _ _
   | exact ih1 _ _ _ _ _
   | exact ih2 _ _ _ _ _
   | exact ih3 _ _ _ _ _
   | exact ih4 _ _ _ _ _
   | exact ih5 _ _ _ _ _
   | exact ih6 _ _ _ _
   | exact ehframe_near.mono _ _
   | exact LeO.none _
   | refine LeO.ite ?_ ?_
   | refine LeO.bind ?_ (fun _ => ?_)
theorem ehframe_Check.mono : ∀ a0 a1 k, LeO (ehframe_Check.f k a0 a1) (ehframe_Check.f (k + 1) a0 a1) := by
 intro a0 a1 k
 obtain ⟨ih0, ih1, ih2, ih3, ih4, ih5, ih6⟩ := ehframe_Check.mono_l k
 unfold ehframe_Check.f
 repeat' first
   | (with_reducible exact ih0 _ _ _)
   | (with_reducible exact ih1 _ _ _ _ _)
   | (with_reducible exact ih2 _ _ _ _ _)
   | (with_reducible exact ih3 _ _ _ _ _)
   | (with_reducible exact ih4 _ _ _ _ _)
   | (with_reducible exact ih5 _ _ _ _ _)
   | (with_reducible exact ih6 _ _ _ _)
   | (with_reducible exact ehframe_near.mono _ _)
   | (with_reducible exact LeO.refl _)
   | (with_reducible exact LeO.none _)
   | (with_reducible refine LeO.ite ?_ ?_)
   | (with_reducible refine LeO.bind ?_ (fun _ => ?_))
   | exact ih0 _ _ _
   | exact ih1 _ _ _ _ _
   | exact ih2 _ _ _ _ _
   | exact ih3 _ _ _ _ _
   | exact ih4 _ _ _ _ _
   | exact ih5 _ _ _ _ _
   | exact ih6 _ _ _ _
   | exact ehframe_near.mono _ _
   | exact LeO.none _
   | refine LeO.ite ?_ ?_
   | refine LeO.bind ?_ (fun _ => ?_)
def ehframe_Check.T37 : Bool × List (List Nat × List Nat) := (true, [([], []), ([], []), ([1], [1]), ([0, 2], [0, 2]), ([3], [3]), ([4], [4]), ([], []), ([6], [6]), ([], []), ([8], [8]), ([5, 7, 9], [5, 7, 9]), ([10], [10])])
def ehframe_Check.B37 : List Nat := [0, 0, 2, 7, 15, 31, 0, 64, 0, 256, 1023, 2047]
theorem ehframe_Check.tab37 : rtab .any (opsOf Try.f12 37) = ehframe_Check.T37 := by kernel_rfl
theorem ehframe_Check.bits37 : waitsOk ehframe_Check.T37.2 ehframe_Check.B37 = true := by kernel_rfl
set_option maxHeartbeats 8000000 in
set_option maxRecDepth 100000 in
theorem ehframe_Check.calls (k : Nat) (A0 : Option Addr) (c0 : Nat) (l0 : List (S69)) (A1 : Option Addr) (c1 : Nat) (l1 : List (S46)) (r : Int) (w : World) (hr0 : Kd.C k69 w A0 l0.length l0) (hc0 : l0.length ≤ c0) (hr1 : Kd.C k46 w A1 l1.length l1) (hc1 : l1.length ≤ c1) (h : ehframe_Check.f k l0 l1 = some r) :
  Calls Try.prog 12 #[.slice A0 l0.length c0, .slice A1 l1.length c1] w fun e w' => e = .returned (.int .i64 r) ∧ Below w.heap.size w w' := by
 have hu69 := Try.underlying69
 have hu46 := Try.underlying46
 have hu76 := Try.underlying76
 have HR0 := am hr0
 have HC0 := am hc0
 clear hr0 hc0
 have HR1 := am hr1
 have HC1 := am hc1
 clear hr1 hc1
 have HB := am (Below.refl w.heap.size w)
 have H : (if (l0.length : Int) > 4000 then (ehframe_Check.j0 k l0 l1 true) else (ehframe_Check.j0 k l0 l1 (decide ((l1.length : Int) > 4000)))) = some r := h
 clear h
 have HC3 := am H
 clear H
 go_enter Try.func12, Try.ntmps12
 go_upto_region 1 with (fail)
 go_cut [27] (fun v27 wc => ∃ (kq : Nat) (x27_2 : Bool), v27 = .bool x27_2 ∧ Aside0 (ehframe_Check.j0 kq l0 l1 x27_2 = some r) ∧ Aside0 (kq ≤ k) ∧ Aside0 (Below w.heap.size w wc))
 case first =>
  have H := HC3.out
  clear HC3
  by_cases c4 : (l0.length : Int) > 4000
  ·
   rw [if_pos c4] at H
   have c4b0 : decide (4000 < (l0.length : Int)) = true := decide_eq_true c4
   have c4b1 : decide (4000 < l0.length) = true := decide_eq_true (by omega)
   clear c4
   (first | rw [c4b0] | (simp only [i64_w, i32_w]; rw [c4b0]) | skip)
   have H' := am H
   clear H
   go_wp2
   go_meet
   case rel => exact ⟨_, (true), (by first | rfl | (simp; done) | (simp [*]; done)), H', ⟨by first | omega | exact Nat.le_refl _⟩, ⟨by exact bl_g HB.out⟩⟩
  ·
   rw [if_neg c4] at H
   have c4b0 : decide (4000 < (l0.length : Int)) = false := decide_eq_false c4
   have c4b1 : decide (4000 < l0.length) = false := decide_eq_false (by omega)
   clear c4
   (first | rw [c4b0] | (simp only [i64_w, i32_w]; rw [c4b0]) | skip)
   have H' := am H
   clear H
   go_wp2
   go_meet
   case rel => exact ⟨_, (decide ((l1.length : Int) > 4000)), (by first | rfl | (simp; done) | (simp [*]; done)), H', ⟨by first | omega | exact Nat.le_refl _⟩, ⟨by exact bl_g HB.out⟩⟩
 case rest =>
  clear HC3
  try clear c1
  try clear p2
  try clear c4
  try clear c4b0
  try clear c4b1
  obtain ⟨kq, x27_2, rfl, HA, HJ2, HB⟩ := hcut
  cases kq with
  | zero => exact absurd HA.out (by simp [ehframe_Check.j0])
  | succ kj2 =>
   have H := HA.out
   clear HA
   simp only [ehframe_Check.j0] at H
   by_cases c5 : x27_2 = true
   ·
    subst c5
    have H1 : (some 6) = some r := by rw [if_pos rfl] at H; exact H
    clear H
    have H := H1
    clear H1
    obtain rfl := Option.some.inj H
    go_wp2
    go_ret
    exact ⟨rfl, by exact bl_g HB.out⟩
   ·
    replace c5 := Bool.eq_false_iff.mpr c5
    subst c5
    have H1 : (ehframe_Check.l0 kj2 l0 l1 l0 (l0.length : Int) 0) = some r := by rw [if_neg (show ¬ (false = true) by decide)] at H; exact H
    clear H
    have H := H1
    clear H1
    have H' := am H
    clear H
    go_wp2
    go_loopg [30] kj2 (fun kq v30 w' => ∃ (x30_2 : Int), v30 = .int .i64 x30_2 ∧ Aside0 (ehframe_Check.l0 kq l0 l1 l0 (l0.length : Int) x30_2 = some r) ∧ Aside0 (kq ≤ kj2) ∧ Aside0 (Below w.heap.size w w'))
    case atStart => exact ⟨(0), (by first | rfl | (simp; done) | (simp [*]; done)), H', ⟨Nat.le_refl _⟩, ⟨by exact bl_g HB.out⟩⟩
    case round =>
     clear H'
     try clear c1
     try clear p2
     try clear c4
     try clear c4b0
     try clear c4b1
     try clear c5
     try clear p2
     obtain ⟨x30_2, rfl, HA, HK2, HB⟩ := hrel
     cases gk with
     | zero => exact absurd HA.out (by simp [ehframe_Check.l0])
     | succ k2 =>
      have H := HA.out
      clear HA
      simp only [ehframe_Check.l0] at H
      by_cases c6 : x30_2 < (l0.length : Int)
      ·
       rw [if_pos c6] at H
       have c6b0 : decide (x30_2 < (l0.length : Int)) = true := decide_eq_true c6
       clear c6
       by_cases c7 : 0 ≤ x30_2
       ·
        rw [if_pos c7] at H
        have c7b0 : decide (0 ≤ x30_2) = true := decide_eq_true c7
        clear c7
        by_cases c8 : x30_2 < (l0.length : Int)
        ·
         rw [if_pos c8] at H
         have c8b0 : decide (x30_2 < (l0.length : Int)) = true := decide_eq_true c8
         clear c8
         by_cases c9 : (((rd_T69 l0 x30_2).f1).length : Int) > 3992
         ·
          rw [if_pos c9] at H
          have c9b0 : decide (3992 < (((rd_T69 l0 x30_2).f1).length : Int)) = true := decide_eq_true c9
          have c9b1 : decide (3992 < ((rd_T69 l0 x30_2).f1).length) = true := decide_eq_true (by omega)
          clear c9
          obtain rfl := Option.some.inj H
          have p101 : 0 ≤ (x30_2 : Int) := of_decide_eq_true (by first | (with_reducible assumption) | assumption)
          have q101 : x30_2 < (l0.length : Int) := of_decide_eq_true (by first | (with_reducible assumption) | assumption)
          obtain ⟨ad101, A101_1, c101_1, e101, hx101_0, hx101_1, hl101_1, hi101_1⟩ := at_T69 HR0.out x30_2 p101 q101
          cases e101
          replace hx101_0 := (HB.out.cell (World.block_lt_of_cell? w _ hx101_0)).trans hx101_0
          replace hx101_1 := (HB.out.cell (World.block_lt_of_cell? w _ hx101_1)).trans hx101_1
          have HR101_1 := am hi101_1
          have HC101_1 := am hl101_1
          clear hi101_1 hl101_1
          replace p101 := eq_true p101
          replace q101 := eq_true q101
          go_wp2_with (first | ((with_reducible refine gate_dst (N := 6) rfl ?_); (try (refine gate_guard (by rfl) ?_; dsimp only)); refine box_event ?hg (N := 6) ?hd (cs := #[.int .i64 0, .slice none 0 0]) (t := 69) ?hr ?_; (case hd => rfl); (case hg => rfl); (case hr => go_simp; try rfl); intro gb102 hg w10 hbox hb; have n0_ := am (below_step (by exact bl_o HB.out) hb); have n1_ := am (hbox); have n2_ := lei (by rw [hg]; exact (below_size (by exact bl_o HB.out)) : w.heap.size ≤ gb102); have n3_ := n2_; clear HB; have HB := n0_; have BK102 := n1_; have GW102 := n2_; have GE102 := n3_; clear n0_ n1_ n2_ n3_; clear hb hbox hg; obtain ⟨hcz11_0, hcz11_1, hfz11_0, hfz11_1⟩ := cells2 BK102.out))
          go_ret
          exact ⟨rfl, by exact bl_g HB.out⟩
         ·
          rw [if_neg c9] at H
          have c9b0 : decide (3992 < (((rd_T69 l0 x30_2).f1).length : Int)) = false := decide_eq_false c9
          have c9b1 : decide (3992 < ((rd_T69 l0 x30_2).f1).length) = false := decide_eq_false (by omega)
          clear c9
          have H' := am H
          clear H
          have p101 : 0 ≤ (x30_2 : Int) := of_decide_eq_true (by first | (with_reducible assumption) | assumption)
          have q101 : x30_2 < (l0.length : Int) := of_decide_eq_true (by first | (with_reducible assumption) | assumption)
          obtain ⟨ad101, A101_1, c101_1, e101, hx101_0, hx101_1, hl101_1, hi101_1⟩ := at_T69 HR0.out x30_2 p101 q101
          cases e101
          replace hx101_0 := (HB.out.cell (World.block_lt_of_cell? w _ hx101_0)).trans hx101_0
          replace hx101_1 := (HB.out.cell (World.block_lt_of_cell? w _ hx101_1)).trans hx101_1
          have HR101_1 := am hi101_1
          have HC101_1 := am hl101_1
          clear hi101_1 hl101_1
          replace p101 := eq_true p101
          replace q101 := eq_true q101
          go_wp2_with (first | ((with_reducible refine gate_dst (N := 6) rfl ?_); (try (refine gate_guard (by rfl) ?_; dsimp only)); refine box_event ?hg (N := 6) ?hd (cs := #[.int .i64 0, .slice none 0 0]) (t := 69) ?hr ?_; (case hd => rfl); (case hg => rfl); (case hr => go_simp; try rfl); intro gb102 hg w12 hbox hb; have n0_ := am (below_step (by exact bl_o HB.out) hb); have n1_ := am (hbox); have n2_ := lei (by rw [hg]; exact (below_size (by exact bl_o HB.out)) : w.heap.size ≤ gb102); have n3_ := n2_; clear HB; have HB := n0_; have BK102 := n1_; have GW102 := n2_; have GE102 := n3_; clear n0_ n1_ n2_ n3_; clear hb hbox hg; obtain ⟨hcz13_0, hcz13_1, hfz13_0, hfz13_1⟩ := cells2 BK102.out))
          go_roundg k2
          case measure => have := HJ2.out; have := HK2.out; omega
          case rel => exact ⟨(wrap64 (x30_2 + 1)), (by first | rfl | (simp; done) | (simp [*]; done)), H', ⟨by have := HJ2.out; have := HK2.out; omega⟩, ⟨by exact bl_g HB.out⟩⟩
        ·
         rw [if_neg c8] at H
         exact absurd H (by simp)
       ·
        rw [if_neg c7] at H
        exact absurd H (by simp)
      ·
       rw [if_neg c6] at H
       have c6b0 : decide (x30_2 < (l0.length : Int)) = false := decide_eq_false c6
       clear c6
       have H' := am H
       clear H
       go_wp2
       go_loopg [41] k2 (fun kq v41 w' => ∃ (x41_3 : Int), v41 = .int .i64 x41_3 ∧ Aside0 (ehframe_Check.l1 kq l0 l1 l1 (l1.length : Int) x41_3 = some r) ∧ Aside0 (kq ≤ k2) ∧ Aside0 (Below w.heap.size w w'))
       case atStart => exact ⟨(0), (by first | rfl | (simp; done) | (simp [*]; done)), H', ⟨Nat.le_refl _⟩, ⟨by exact bl_g HB.out⟩⟩
       case round =>
        clear H'
        try clear c1
        try clear p1
        try clear q1
        try clear hx1
        try clear p2
        try clear c4
        try clear c4b0
        try clear c4b1
        try clear c5
        try clear c6
        try clear c6b0
        try clear p6
        try clear c7
        try clear c7b0
        try clear c8
        try clear c8b0
        try clear c9
        try clear c9b0
        try clear c9b1
        try clear c10
        try clear p10
        try clear q10
        try clear hx10
        try clear c12
        try clear hcz11_0
        try clear hcz11_1
        try clear hcz13_0
        try clear hcz13_1
        try clear hfz11_0
        try clear hfz11_1
        try clear hfz13_0
        try clear hfz13_1
        try clear hx101_0
        try clear hx101_1
        try clear p101
        try clear p2
        try clear q101
        obtain ⟨x41_3, rfl, HA, HK3, HB⟩ := hrel
        cases gk with
        | zero => exact absurd HA.out (by simp [ehframe_Check.l1])
        | succ k3 =>
         have H := HA.out
         clear HA
         simp only [ehframe_Check.l1] at H
         by_cases c14 : x41_3 < (l1.length : Int)
         ·
          rw [if_pos c14] at H
          have c14b0 : decide (x41_3 < (l1.length : Int)) = true := decide_eq_true c14
          clear c14
          by_cases c15 : 0 ≤ x41_3
          ·
           rw [if_pos c15] at H
           have c15b0 : decide (0 ≤ x41_3) = true := decide_eq_true c15
           clear c15
           by_cases c16 : x41_3 < (l1.length : Int)
           ·
            rw [if_pos c16] at H
            have c16b0 : decide (x41_3 < (l1.length : Int)) = true := decide_eq_true c16
            clear c16
            by_cases c17 : (((rd_T46 l1 x41_3).f3).length : Int) > 3992
            ·
             rw [if_pos c17] at H
             have c17b0 : decide (3992 < (((rd_T46 l1 x41_3).f3).length : Int)) = true := decide_eq_true c17
             have c17b1 : decide (3992 < ((rd_T46 l1 x41_3).f3).length) = true := decide_eq_true (by omega)
             clear c17
             obtain rfl := Option.some.inj H
             have p103 : 0 ≤ (x41_3 : Int) := of_decide_eq_true (by first | (with_reducible assumption) | assumption)
             have q103 : x41_3 < (l1.length : Int) := of_decide_eq_true (by first | (with_reducible assumption) | assumption)
             obtain ⟨ad103, A103_3, c103_3, e103, hx103_0, hx103_1, hx103_2, hx103_3, hl103_3, hi103_3⟩ := at_T46 HR1.out x41_3 p103 q103
             cases e103
             replace hx103_0 := (HB.out.cell (World.block_lt_of_cell? w _ hx103_0)).trans hx103_0
             replace hx103_1 := (HB.out.cell (World.block_lt_of_cell? w _ hx103_1)).trans hx103_1
             replace hx103_2 := (HB.out.cell (World.block_lt_of_cell? w _ hx103_2)).trans hx103_2
             replace hx103_3 := (HB.out.cell (World.block_lt_of_cell? w _ hx103_3)).trans hx103_3
             have HR103_3 := am hi103_3
             have HC103_3 := am hl103_3
             clear hi103_3 hl103_3
             replace p103 := eq_true p103
             replace q103 := eq_true q103
             go_wp2_with (first | ((with_reducible refine gate_dst (N := 8) rfl ?_); (try (refine gate_guard (by rfl) ?_; dsimp only)); refine box_event ?hg (N := 8) ?hd (cs := #[.int .i64 0, .int .i64 0, .int .i64 0, .slice none 0 0]) (t := 46) ?hr ?_; (case hd => rfl); (case hg => rfl); (case hr => go_simp; try rfl); intro gb104 hg w18 hbox hb; have n0_ := am (below_step (by exact bl_o HB.out) hb); have n1_ := am (hbox); have n2_ := lei (by rw [hg]; exact (below_size (by exact bl_o HB.out)) : w.heap.size ≤ gb104); have n3_ := n2_; clear HB; have HB := n0_; have BK104 := n1_; have GW104 := n2_; have GE104 := n3_; clear n0_ n1_ n2_ n3_; clear hb hbox hg; obtain ⟨hcz19_0, hcz19_1, hcz19_2, hcz19_3, hfz19_0, hfz19_1, hfz19_2, hfz19_3⟩ := cells4 BK104.out))
             go_ret
             exact ⟨rfl, by exact bl_g HB.out⟩
            ·
             rw [if_neg c17] at H
             have c17b0 : decide (3992 < (((rd_T46 l1 x41_3).f3).length : Int)) = false := decide_eq_false c17
             have c17b1 : decide (3992 < ((rd_T46 l1 x41_3).f3).length) = false := decide_eq_false (by omega)
             clear c17
             have H' := am H
             clear H
             have p103 : 0 ≤ (x41_3 : Int) := of_decide_eq_true (by first | (with_reducible assumption) | assumption)
             have q103 : x41_3 < (l1.length : Int) := of_decide_eq_true (by first | (with_reducible assumption) | assumption)
             obtain ⟨ad103, A103_3, c103_3, e103, hx103_0, hx103_1, hx103_2, hx103_3, hl103_3, hi103_3⟩ := at_T46 HR1.out x41_3 p103 q103
             cases e103
             replace hx103_0 := (HB.out.cell (World.block_lt_of_cell? w _ hx103_0)).trans hx103_0
             replace hx103_1 := (HB.out.cell (World.block_lt_of_cell? w _ hx103_1)).trans hx103_1
             replace hx103_2 := (HB.out.cell (World.block_lt_of_cell? w _ hx103_2)).trans hx103_2
             replace hx103_3 := (HB.out.cell (World.block_lt_of_cell? w _ hx103_3)).trans hx103_3
             have HR103_3 := am hi103_3
             have HC103_3 := am hl103_3
             clear hi103_3 hl103_3
             replace p103 := eq_true p103
             replace q103 := eq_true q103
             go_wp2_with (first | ((with_reducible refine gate_dst (N := 8) rfl ?_); (try (refine gate_guard (by rfl) ?_; dsimp only)); refine box_event ?hg (N := 8) ?hd (cs := #[.int .i64 0, .int .i64 0, .int .i64 0, .slice none 0 0]) (t := 46) ?hr ?_; (case hd => rfl); (case hg => rfl); (case hr => go_simp; try rfl); intro gb104 hg w20 hbox hb; have n0_ := am (below_step (by exact bl_o HB.out) hb); have n1_ := am (hbox); have n2_ := lei (by rw [hg]; exact (below_size (by exact bl_o HB.out)) : w.heap.size ≤ gb104); have n3_ := n2_; clear HB; have HB := n0_; have BK104 := n1_; have GW104 := n2_; have GE104 := n3_; clear n0_ n1_ n2_ n3_; clear hb hbox hg; obtain ⟨hcz21_0, hcz21_1, hcz21_2, hcz21_3, hfz21_0, hfz21_1, hfz21_2, hfz21_3⟩ := cells4 BK104.out))
             go_roundg k3
             case measure => have := HJ2.out; have := HK2.out; have := HK3.out; omega
             case rel => exact ⟨(wrap64 (x41_3 + 1)), (by first | rfl | (simp; done) | (simp [*]; done)), H', ⟨by have := HJ2.out; have := HK2.out; have := HK3.out; omega⟩, ⟨by exact bl_g HB.out⟩⟩
           ·
            rw [if_neg c16] at H
            exact absurd H (by simp)
          ·
           rw [if_neg c15] at H
           exact absurd H (by simp)
         ·
          rw [if_neg c14] at H
          have c14b0 : decide (x41_3 < (l1.length : Int)) = false := decide_eq_false c14
          clear c14
          have H' := am H
          clear H
          go_wp2
          go_loopg [52] k3 (fun kq v52 w' => ∃ (x52_4 : Int), v52 = .int .i64 x52_4 ∧ Aside0 (ehframe_Check.l2 kq l0 l1 l0 (l0.length : Int) x52_4 = some r) ∧ Aside0 (kq ≤ k3) ∧ Aside0 (Below w.heap.size w w'))
          case atStart => exact ⟨(0), (by first | rfl | (simp; done) | (simp [*]; done)), H', ⟨Nat.le_refl _⟩, ⟨by exact bl_g HB.out⟩⟩
          case round =>
           clear H'
           try clear c1
           try clear p1
           try clear q1
           try clear hx1
           try clear p2
           try clear c4
           try clear c4b0
           try clear c4b1
           try clear c5
           try clear c6
           try clear c6b0
           try clear p6
           try clear c7
           try clear c7b0
           try clear c8
           try clear c8b0
           try clear c9
           try clear c9b0
           try clear c9b1
           try clear c10
           try clear p10
           try clear q10
           try clear hx10
           try clear c12
           try clear c14
           try clear c14b0
           try clear c15
           try clear c15b0
           try clear c16
           try clear c16b0
           try clear c17
           try clear c17b0
           try clear c17b1
           try clear hcz11_0
           try clear hcz11_1
           try clear hcz13_0
           try clear hcz13_1
           try clear hcz19_0
           try clear hcz19_1
           try clear hcz19_2
           try clear hcz19_3
           try clear hcz21_0
           try clear hcz21_1
           try clear hcz21_2
           try clear hcz21_3
           try clear hfz11_0
           try clear hfz11_1
           try clear hfz13_0
           try clear hfz13_1
           try clear hfz19_0
           try clear hfz19_1
           try clear hfz19_2
           try clear hfz19_3
           try clear hfz21_0
           try clear hfz21_1
           try clear hfz21_2
           try clear hfz21_3
           try clear hx101_0
           try clear hx101_1
           try clear hx103_0
           try clear hx103_1
           try clear hx103_2
           try clear hx103_3
           try clear p1
           try clear p10
           try clear p101
           try clear p103
           try clear p2
           try clear p6
           try clear q1
           try clear q10
           try clear q101
           try clear q103
           obtain ⟨x52_4, rfl, HA, HK4, HB⟩ := hrel
           cases gk with
           | zero => exact absurd HA.out (by simp [ehframe_Check.l2])
           | succ k4 =>
            have H := HA.out
            clear HA
            simp only [ehframe_Check.l2] at H
            by_cases c22 : x52_4 < (l0.length : Int)
            ·
             rw [if_pos c22] at H
             have c22b0 : decide (x52_4 < (l0.length : Int)) = true := decide_eq_true c22
             clear c22
             by_cases c23 : 0 ≤ x52_4
             ·
              rw [if_pos c23] at H
              have c23b0 : decide (0 ≤ x52_4) = true := decide_eq_true c23
              clear c23
              by_cases c24 : x52_4 < (l0.length : Int)
              ·
               rw [if_pos c24] at H
               have c24b0 : decide (x52_4 < (l0.length : Int)) = true := decide_eq_true c24
               clear c24
               replace H := Option.bind_eq_some_iff.mp H
               obtain ⟨⟨t107, t108, t109, t110⟩, A250, H⟩ := H
               replace H : (if t110 = true then (ehframe_Check.l2 k4 l0 l1 l0 (l0.length : Int) (wrap64 (x52_4 + 1))) else (some 140)) = some r := H
               have A25 := am A250
               clear A250
               by_cases c26 : t110 = true
               ·
                subst c26
                have H1 : (ehframe_Check.l2 k4 l0 l1 l0 (l0.length : Int) (wrap64 (x52_4 + 1))) = some r := by rw [if_pos rfl] at H; exact H
                clear H
                have H := H1
                clear H1
                have H' := am H
                clear H
                have p105 : 0 ≤ (x52_4 : Int) := of_decide_eq_true (by first | (with_reducible assumption) | assumption)
                have q105 : x52_4 < (l0.length : Int) := of_decide_eq_true (by first | (with_reducible assumption) | assumption)
                obtain ⟨ad105, A105_1, c105_1, e105, hx105_0, hx105_1, hl105_1, hi105_1⟩ := at_T69 HR0.out x52_4 p105 q105
                cases e105
                replace hx105_0 := (HB.out.cell (World.block_lt_of_cell? w _ hx105_0)).trans hx105_0
                replace hx105_1 := (HB.out.cell (World.block_lt_of_cell? w _ hx105_1)).trans hx105_1
                have HR105_1 := am hi105_1
                have HC105_1 := am hl105_1
                clear hi105_1 hl105_1
                replace p105 := eq_true p105
                replace q105 := eq_true q105
                go_wp2_with (first | ((with_reducible refine gate_dst (N := 10) rfl ?_); (try (refine gate_guard (by rfl) ?_; dsimp only)); refine box_event ?hg (N := 10) ?hd (cs := #[.int .i64 0, .slice none 0 0]) (t := 69) ?hr ?_; (case hd => rfl); (case hg => rfl); (case hr => go_simp; try rfl); intro gb106 hg w27 hbox hb; have n0_ := am (below_step (by exact bl_o HB.out) hb); have n1_ := am (hbox); have n2_ := lei (by rw [hg]; exact (below_size (by exact bl_o HB.out)) : w.heap.size ≤ gb106); have n3_ := n2_; clear HB; have HB := n0_; have BK106 := n1_; have GW106 := n2_; have GE106 := n3_; clear n0_ n1_ n2_ n3_; clear hb hbox hg; obtain ⟨hcz28_0, hcz28_1, hfz28_0, hfz28_1⟩ := cells2 BK106.out) | ((with_reducible refine gate_callee (f := 29) rfl ?_); refine goesL_ (some 59) rfl rfl Try.func29 (by kernel_rfl) rfl #[.int .i64 ((rd_T69 l0 x52_4).f0)] rfl (by simp only [List.map_toArray, List.map_cons, List.map_nil]; try rfl) ?_; (with_reducible refine (ehframe_of.calls ((rd_T69 l0 x52_4).f0) t107 t108 t109 true _ A25.out).mono ?_); rintro e w29 ⟨rfl, hb⟩; refine ⟨_, rfl, ?_⟩; have n0_ := am (blk_below (g := gb106) (o := .cells #[.int .i64 ((rd_T69 l0 x52_4).f0), .slice A105_1 ((rd_T69 l0 x52_4).f1).length c105_1] 69 (0, 0)) (by (with_reducible repeat (first | refine blk_drewN ?_ _ | refine blk_drew ?_ | refine blk_alloc ?_ _)); refine blk_put (cs := #[.int .i64 ((rd_T69 l0 x52_4).f0), .slice none 0 0]) ?_ 1 _ rfl; (with_reducible repeat (first | refine blk_drewN ?_ _ | refine blk_drew ?_ | refine blk_alloc ?_ _)); refine blk_put (cs := #[.int .i64 0, .slice none 0 0]) ?_ 0 _ rfl; (with_reducible repeat (first | refine blk_drewN ?_ _ | refine blk_drew ?_ | refine blk_alloc ?_ _)); exact BK106.out) hb); have n1_ := am (below_step (by exact bl_g HB.out) hb); clear BK106; clear HB; have BK106 := n0_; have HB := n1_; clear n0_ n1_; (try clear hb); (try clear hb2); (try clear hk); (try clear hi)) | ((with_reducible refine gate_dst (N := 11) rfl ?_); (try (refine gate_guard (by rfl) ?_; dsimp only)); refine box_event ?hg (N := 11) ?hd (cs := #[.int .i64 0, .bool false]) (t := 76) ?hr ?_; (case hd => rfl); (case hg => rfl); (case hr => go_simp; try rfl); intro gb111 hg w30 hbox hb; have n0_ := am (blk_below (blk_o BK106.out) hb); have n1_ := am (below_step (by exact bl_g HB.out) hb); have n2_ := am (hbox); have n3_ := lei (by rw [hg]; exact (below_size (by exact bl_g HB.out)) : w.heap.size ≤ gb111); have n4_ := n3_; have n5_ := am ((by rw [hg]; exact Nat.ne_of_lt (blk_lt (g := gb106) (o := .cells #[.int .i64 ((rd_T69 l0 x52_4).f0), .slice A105_1 ((rd_T69 l0 x52_4).f1).length c105_1] 69 (0, 0)) (blk_o BK106.out)) : gb106 ≠ gb111)); have n6_ := am ((by rw [hg]; exact Nat.ne_of_gt (blk_lt (g := gb106) (o := .cells #[.int .i64 ((rd_T69 l0 x52_4).f0), .slice A105_1 ((rd_T69 l0 x52_4).f1).length c105_1] 69 (0, 0)) (blk_o BK106.out)) : gb111 ≠ gb106)); clear BK106; clear HB; have BK106 := n0_; have HB := n1_; have BK111 := n2_; have GW111 := n3_; have GE111 := n4_; have NB106_111 := n5_; have NB111_106 := n6_; clear n0_ n1_ n2_ n3_ n4_ n5_ n6_; clear hb hbox hg; have hnb31 := NB111_106.out; have hnc31 := NB106_111.out; obtain ⟨hcz32_0, hcz32_1, hfz32_0, hfz32_1⟩ := cells2 BK111.out))
                go_roundg k4
                case measure => have := HJ2.out; have := HK2.out; have := HK3.out; have := HK4.out; omega
                case rel => exact ⟨(wrap64 (x52_4 + 1)), (by first | rfl | (simp; done) | (simp [*]; done)), H', ⟨by have := HJ2.out; have := HK2.out; have := HK3.out; have := HK4.out; omega⟩, ⟨by exact bl_g HB.out⟩⟩
               ·
                replace c26 := Bool.eq_false_iff.mpr c26
                subst c26
                have H1 : (some 140) = some r := by rw [if_neg (show ¬ (false = true) by decide)] at H; exact H
                clear H
                have H := H1
                clear H1
                obtain rfl := Option.some.inj H
                have p105 : 0 ≤ (x52_4 : Int) := of_decide_eq_true (by first | (with_reducible assumption) | assumption)
                have q105 : x52_4 < (l0.length : Int) := of_decide_eq_true (by first | (with_reducible assumption) | assumption)
                obtain ⟨ad105, A105_1, c105_1, e105, hx105_0, hx105_1, hl105_1, hi105_1⟩ := at_T69 HR0.out x52_4 p105 q105
                cases e105
                replace hx105_0 := (HB.out.cell (World.block_lt_of_cell? w _ hx105_0)).trans hx105_0
                replace hx105_1 := (HB.out.cell (World.block_lt_of_cell? w _ hx105_1)).trans hx105_1
                have HR105_1 := am hi105_1
                have HC105_1 := am hl105_1
                clear hi105_1 hl105_1
                replace p105 := eq_true p105
                replace q105 := eq_true q105
                go_wp2_with (first | ((with_reducible refine gate_dst (N := 10) rfl ?_); (try (refine gate_guard (by rfl) ?_; dsimp only)); refine box_event ?hg (N := 10) ?hd (cs := #[.int .i64 0, .slice none 0 0]) (t := 69) ?hr ?_; (case hd => rfl); (case hg => rfl); (case hr => go_simp; try rfl); intro gb106 hg w33 hbox hb; have n0_ := am (below_step (by exact bl_o HB.out) hb); have n1_ := am (hbox); have n2_ := lei (by rw [hg]; exact (below_size (by exact bl_o HB.out)) : w.heap.size ≤ gb106); have n3_ := n2_; clear HB; have HB := n0_; have BK106 := n1_; have GW106 := n2_; have GE106 := n3_; clear n0_ n1_ n2_ n3_; clear hb hbox hg; obtain ⟨hcz34_0, hcz34_1, hfz34_0, hfz34_1⟩ := cells2 BK106.out) | ((with_reducible refine gate_callee (f := 29) rfl ?_); refine goesL_ (some 59) rfl rfl Try.func29 (by kernel_rfl) rfl #[.int .i64 ((rd_T69 l0 x52_4).f0)] rfl (by simp only [List.map_toArray, List.map_cons, List.map_nil]; try rfl) ?_; (with_reducible refine (ehframe_of.calls ((rd_T69 l0 x52_4).f0) t107 t108 t109 false _ A25.out).mono ?_); rintro e w35 ⟨rfl, hb⟩; refine ⟨_, rfl, ?_⟩; have n0_ := am (blk_below (g := gb106) (o := .cells #[.int .i64 ((rd_T69 l0 x52_4).f0), .slice A105_1 ((rd_T69 l0 x52_4).f1).length c105_1] 69 (0, 0)) (by (with_reducible repeat (first | refine blk_drewN ?_ _ | refine blk_drew ?_ | refine blk_alloc ?_ _)); refine blk_put (cs := #[.int .i64 ((rd_T69 l0 x52_4).f0), .slice none 0 0]) ?_ 1 _ rfl; (with_reducible repeat (first | refine blk_drewN ?_ _ | refine blk_drew ?_ | refine blk_alloc ?_ _)); refine blk_put (cs := #[.int .i64 0, .slice none 0 0]) ?_ 0 _ rfl; (with_reducible repeat (first | refine blk_drewN ?_ _ | refine blk_drew ?_ | refine blk_alloc ?_ _)); exact BK106.out) hb); have n1_ := am (below_step (by exact bl_g HB.out) hb); clear BK106; clear HB; have BK106 := n0_; have HB := n1_; clear n0_ n1_; (try clear hb); (try clear hb2); (try clear hk); (try clear hi)) | ((with_reducible refine gate_dst (N := 11) rfl ?_); (try (refine gate_guard (by rfl) ?_; dsimp only)); refine box_event ?hg (N := 11) ?hd (cs := #[.int .i64 0, .bool false]) (t := 76) ?hr ?_; (case hd => rfl); (case hg => rfl); (case hr => go_simp; try rfl); intro gb111 hg w36 hbox hb; have n0_ := am (blk_below (blk_o BK106.out) hb); have n1_ := am (below_step (by exact bl_g HB.out) hb); have n2_ := am (hbox); have n3_ := lei (by rw [hg]; exact (below_size (by exact bl_g HB.out)) : w.heap.size ≤ gb111); have n4_ := n3_; have n5_ := am ((by rw [hg]; exact Nat.ne_of_lt (blk_lt (g := gb106) (o := .cells #[.int .i64 ((rd_T69 l0 x52_4).f0), .slice A105_1 ((rd_T69 l0 x52_4).f1).length c105_1] 69 (0, 0)) (blk_o BK106.out)) : gb106 ≠ gb111)); have n6_ := am ((by rw [hg]; exact Nat.ne_of_gt (blk_lt (g := gb106) (o := .cells #[.int .i64 ((rd_T69 l0 x52_4).f0), .slice A105_1 ((rd_T69 l0 x52_4).f1).length c105_1] 69 (0, 0)) (blk_o BK106.out)) : gb111 ≠ gb106)); clear BK106; clear HB; have BK106 := n0_; have HB := n1_; have BK111 := n2_; have GW111 := n3_; have GE111 := n4_; have NB106_111 := n5_; have NB111_106 := n6_; clear n0_ n1_ n2_ n3_ n4_ n5_ n6_; clear hb hbox hg; have hnb37 := NB111_106.out; have hnc37 := NB106_111.out; obtain ⟨hcz38_0, hcz38_1, hfz38_0, hfz38_1⟩ := cells2 BK111.out))
                go_ret
                exact ⟨rfl, by exact bl_g HB.out⟩
              ·
               rw [if_neg c24] at H
               exact absurd H (by simp)
             ·
              rw [if_neg c23] at H
              exact absurd H (by simp)
            ·
             rw [if_neg c22] at H
             have c22b0 : decide (x52_4 < (l0.length : Int)) = false := decide_eq_false c22
             clear c22
             have H' := am H
             clear H
             go_wp2
             go_loopg [68] k4 (fun kq v68 w' => ∃ (x68_5 : Int), v68 = .int .i64 x68_5 ∧ Aside0 (ehframe_Check.l3 kq l0 l1 l1 (l1.length : Int) x68_5 = some r) ∧ Aside0 (kq ≤ k4) ∧ Aside0 (Below w.heap.size w w'))
             case atStart => exact ⟨(0), (by first | rfl | (simp; done) | (simp [*]; done)), H', ⟨Nat.le_refl _⟩, ⟨by exact bl_g HB.out⟩⟩
             case round =>
              clear H'
              try clear c1
              try clear p1
              try clear q1
              try clear hx1
              try clear c2
              try clear p2
              try clear c3
              try clear c4
              try clear c4b0
              try clear c4b1
              try clear c5
              try clear c6
              try clear c6b0
              try clear p6
              try clear c7
              try clear c7b0
              try clear c8
              try clear c8b0
              try clear c9
              try clear c9b0
              try clear c9b1
              try clear c10
              try clear p10
              try clear q10
              try clear hx10
              try clear c12
              try clear c14
              try clear c14b0
              try clear c15
              try clear c15b0
              try clear c16
              try clear c16b0
              try clear c17
              try clear c17b0
              try clear c17b1
              try clear c22
              try clear c22b0
              try clear c23
              try clear c23b0
              try clear c24
              try clear c24b0
              try clear c26
              try clear c29
              try clear c31
              try clear c37
              try clear hcz11_0
              try clear hcz11_1
              try clear hcz13_0
              try clear hcz13_1
              try clear hcz19_0
              try clear hcz19_1
              try clear hcz19_2
              try clear hcz19_3
              try clear hcz21_0
              try clear hcz21_1
              try clear hcz21_2
              try clear hcz21_3
              try clear hcz28_0
              try clear hcz28_1
              try clear hcz32_0
              try clear hcz32_1
              try clear hcz34_0
              try clear hcz34_1
              try clear hcz38_0
              try clear hcz38_1
              try clear hfz11_0
              try clear hfz11_1
              try clear hfz13_0
              try clear hfz13_1
              try clear hfz19_0
              try clear hfz19_1
              try clear hfz19_2
              try clear hfz19_3
              try clear hfz21_0
              try clear hfz21_1
              try clear hfz21_2
              try clear hfz21_3
              try clear hfz28_0
              try clear hfz28_1
              try clear hfz32_0
              try clear hfz32_1
              try clear hfz34_0
              try clear hfz34_1
              try clear hfz38_0
              try clear hfz38_1
              try clear hx101_0
              try clear hx101_1
              try clear hx103_0
              try clear hx103_1
              try clear hx103_2
              try clear hx103_3
              try clear hx105_0
              try clear hx105_1
              try clear p1
              try clear p10
              try clear p101
              try clear p103
              try clear p105
              try clear p2
              try clear p6
              try clear q1
              try clear q10
              try clear q101
              try clear q103
              try clear q105
              obtain ⟨x68_5, rfl, HA, HK5, HB⟩ := hrel
              cases gk with
              | zero => exact absurd HA.out (by simp [ehframe_Check.l3])
              | succ k5 =>
               have H := HA.out
               clear HA
               simp only [ehframe_Check.l3] at H
               by_cases c39 : x68_5 < (l1.length : Int)
               ·
                rw [if_pos c39] at H
                have c39b0 : decide (x68_5 < (l1.length : Int)) = true := decide_eq_true c39
                clear c39
                by_cases c40 : 0 ≤ x68_5
                ·
                 rw [if_pos c40] at H
                 have c40b0 : decide (0 ≤ x68_5) = true := decide_eq_true c40
                 clear c40
                 by_cases c41 : x68_5 < (l1.length : Int)
                 ·
                  rw [if_pos c41] at H
                  have c41b0 : decide (x68_5 < (l1.length : Int)) = true := decide_eq_true c41
                  clear c41
                  by_cases c42 : ((rd_T46 l1 x68_5).f0) < 0
                  ·
                   rw [if_pos c42] at H
                   have c42b0 : decide (((rd_T46 l1 x68_5).f0) < 0) = true := decide_eq_true c42
                   clear c42
                   obtain rfl := Option.some.inj H
                   have p112 : 0 ≤ (x68_5 : Int) := of_decide_eq_true (by first | (with_reducible assumption) | assumption)
                   have q112 : x68_5 < (l1.length : Int) := of_decide_eq_true (by first | (with_reducible assumption) | assumption)
                   obtain ⟨ad112, A112_3, c112_3, e112, hx112_0, hx112_1, hx112_2, hx112_3, hl112_3, hi112_3⟩ := at_T46 HR1.out x68_5 p112 q112
                   cases e112
                   replace hx112_0 := (HB.out.cell (World.block_lt_of_cell? w _ hx112_0)).trans hx112_0
                   replace hx112_1 := (HB.out.cell (World.block_lt_of_cell? w _ hx112_1)).trans hx112_1
                   replace hx112_2 := (HB.out.cell (World.block_lt_of_cell? w _ hx112_2)).trans hx112_2
                   replace hx112_3 := (HB.out.cell (World.block_lt_of_cell? w _ hx112_3)).trans hx112_3
                   have HR112_3 := am hi112_3
                   have HC112_3 := am hl112_3
                   clear hi112_3 hl112_3
                   replace p112 := eq_true p112
                   replace q112 := eq_true q112
                   go_wp2_with (first | ((with_reducible refine gate_dst (N := 15) rfl ?_); (try (refine gate_guard (by rfl) ?_; dsimp only)); refine box_event ?hg (N := 15) ?hd (cs := #[.int .i64 0, .int .i64 0, .int .i64 0, .slice none 0 0]) (t := 46) ?hr ?_; (case hd => rfl); (case hg => rfl); (case hr => go_simp; try rfl); intro gb113 hg w43 hbox hb; have n0_ := am (below_step (by exact bl_o HB.out) hb); have n1_ := am (hbox); have n2_ := lei (by rw [hg]; exact (below_size (by exact bl_o HB.out)) : w.heap.size ≤ gb113); have n3_ := n2_; clear HB; have HB := n0_; have BK113 := n1_; have GW113 := n2_; have GE113 := n3_; clear n0_ n1_ n2_ n3_; clear hb hbox hg; obtain ⟨hcz44_0, hcz44_1, hcz44_2, hcz44_3, hfz44_0, hfz44_1, hfz44_2, hfz44_3⟩ := cells4 BK113.out))
                   go_ret
                   exact ⟨rfl, by exact bl_g HB.out⟩
                  ·
                   rw [if_neg c42] at H
                   have c42b0 : decide (((rd_T46 l1 x68_5).f0) < 0) = false := decide_eq_false c42
                   clear c42
                   by_cases c45 : ((rd_T46 l1 x68_5).f0) ≥ (l0.length : Int)
                   ·
                    rw [if_pos c45] at H
                    have c45b0 : decide ((l0.length : Int) ≤ ((rd_T46 l1 x68_5).f0)) = true := decide_eq_true c45
                    clear c45
                    obtain rfl := Option.some.inj H
                    have p112 : 0 ≤ (x68_5 : Int) := of_decide_eq_true (by first | (with_reducible assumption) | assumption)
                    have q112 : x68_5 < (l1.length : Int) := of_decide_eq_true (by first | (with_reducible assumption) | assumption)
                    obtain ⟨ad112, A112_3, c112_3, e112, hx112_0, hx112_1, hx112_2, hx112_3, hl112_3, hi112_3⟩ := at_T46 HR1.out x68_5 p112 q112
                    cases e112
                    replace hx112_0 := (HB.out.cell (World.block_lt_of_cell? w _ hx112_0)).trans hx112_0
                    replace hx112_1 := (HB.out.cell (World.block_lt_of_cell? w _ hx112_1)).trans hx112_1
                    replace hx112_2 := (HB.out.cell (World.block_lt_of_cell? w _ hx112_2)).trans hx112_2
                    replace hx112_3 := (HB.out.cell (World.block_lt_of_cell? w _ hx112_3)).trans hx112_3
                    have HR112_3 := am hi112_3
                    have HC112_3 := am hl112_3
                    clear hi112_3 hl112_3
                    replace p112 := eq_true p112
                    replace q112 := eq_true q112
                    go_wp2_with (first | ((with_reducible refine gate_dst (N := 15) rfl ?_); (try (refine gate_guard (by rfl) ?_; dsimp only)); refine box_event ?hg (N := 15) ?hd (cs := #[.int .i64 0, .int .i64 0, .int .i64 0, .slice none 0 0]) (t := 46) ?hr ?_; (case hd => rfl); (case hg => rfl); (case hr => go_simp; try rfl); intro gb113 hg w46 hbox hb; have n0_ := am (below_step (by exact bl_o HB.out) hb); have n1_ := am (hbox); have n2_ := lei (by rw [hg]; exact (below_size (by exact bl_o HB.out)) : w.heap.size ≤ gb113); have n3_ := n2_; clear HB; have HB := n0_; have BK113 := n1_; have GW113 := n2_; have GE113 := n3_; clear n0_ n1_ n2_ n3_; clear hb hbox hg; obtain ⟨hcz47_0, hcz47_1, hcz47_2, hcz47_3, hfz47_0, hfz47_1, hfz47_2, hfz47_3⟩ := cells4 BK113.out))
                    go_ret
                    exact ⟨rfl, by exact bl_g HB.out⟩
                   ·
                    rw [if_neg c45] at H
                    have c45b0 : decide ((l0.length : Int) ≤ ((rd_T46 l1 x68_5).f0)) = false := decide_eq_false c45
                    clear c45
                    obtain ⟨y114, hy114⟩ : ∃ y_ : List Int, y_ = (([(rd_T46 l1 x68_5).f1] : List Int)) := ⟨_, rfl⟩
                    replace H : ((ehframe_near.f k5 y114).bind fun t117 => (if t117 = true then (if ((rd_T46 l1 x68_5).f2) < 0 then (some 140) else (if ((rd_T46 l1 x68_5).f2) > 1048576 then (some 140) else (ehframe_Check.l3 k5 l0 l1 l1 (l1.length : Int) (wrap64 (x68_5 + 1))))) else (some 140))) = some r := by first | (rw [hy114]; with_reducible exact H) | (have H2_ := (Option.bind_some _ _).symm.trans H; rw [hy114]; with_reducible exact H2_)
                    have Ny114 := am hy114
                    clear hy114
                    replace H := Option.bind_eq_some_iff.mp H
                    obtain ⟨t117, A480, H⟩ := H
                    replace H : (if t117 = true then (if ((rd_T46 l1 x68_5).f2) < 0 then (some 140) else (if ((rd_T46 l1 x68_5).f2) > 1048576 then (some 140) else (ehframe_Check.l3 k5 l0 l1 l1 (l1.length : Int) (wrap64 (x68_5 + 1))))) else (some 140)) = some r := H
                    have A48 := am A480
                    clear A480
                    by_cases c49 : t117 = true
                    ·
                     subst c49
                     have H1 : (if ((rd_T46 l1 x68_5).f2) < 0 then (some 140) else (if ((rd_T46 l1 x68_5).f2) > 1048576 then (some 140) else (ehframe_Check.l3 k5 l0 l1 l1 (l1.length : Int) (wrap64 (x68_5 + 1))))) = some r := by rw [if_pos rfl] at H; exact H
                     clear H
                     have H := H1
                     clear H1
                     by_cases c50 : ((rd_T46 l1 x68_5).f2) < 0
                     ·
                      rw [if_pos c50] at H
                      have c50b0 : decide (((rd_T46 l1 x68_5).f2) < 0) = true := decide_eq_true c50
                      clear c50
                      obtain rfl := Option.some.inj H
                      have p112 : 0 ≤ (x68_5 : Int) := of_decide_eq_true (by first | (with_reducible assumption) | assumption)
                      have q112 : x68_5 < (l1.length : Int) := of_decide_eq_true (by first | (with_reducible assumption) | assumption)
                      obtain ⟨ad112, A112_3, c112_3, e112, hx112_0, hx112_1, hx112_2, hx112_3, hl112_3, hi112_3⟩ := at_T46 HR1.out x68_5 p112 q112
                      cases e112
                      replace hx112_0 := (HB.out.cell (World.block_lt_of_cell? w _ hx112_0)).trans hx112_0
                      replace hx112_1 := (HB.out.cell (World.block_lt_of_cell? w _ hx112_1)).trans hx112_1
                      replace hx112_2 := (HB.out.cell (World.block_lt_of_cell? w _ hx112_2)).trans hx112_2
                      replace hx112_3 := (HB.out.cell (World.block_lt_of_cell? w _ hx112_3)).trans hx112_3
                      have HR112_3 := am hi112_3
                      have HC112_3 := am hl112_3
                      clear hi112_3 hl112_3
                      replace p112 := eq_true p112
                      replace q112 := eq_true q112
                      go_wp2_with (first | ((with_reducible refine gate_dst (N := 15) rfl ?_); (try (refine gate_guard (by rfl) ?_; dsimp only)); refine box_event ?hg (N := 15) ?hd (cs := #[.int .i64 0, .int .i64 0, .int .i64 0, .slice none 0 0]) (t := 46) ?hr ?_; (case hd => rfl); (case hg => rfl); (case hr => go_simp; try rfl); intro gb113 hg w51 hbox hb; have n0_ := am (below_step (by exact bl_o HB.out) hb); have n1_ := am (hbox); have n2_ := lei (by rw [hg]; exact (below_size (by exact bl_o HB.out)) : w.heap.size ≤ gb113); have n3_ := n2_; clear HB; have HB := n0_; have BK113 := n1_; have GW113 := n2_; have GE113 := n3_; clear n0_ n1_ n2_ n3_; clear hb hbox hg; obtain ⟨hcz52_0, hcz52_1, hcz52_2, hcz52_3, hfz52_0, hfz52_1, hfz52_2, hfz52_3⟩ := cells4 BK113.out) | ((with_reducible refine gate_dst (N := 85) rfl ?_); (try (refine gate_guard (by rfl) ?_; dsimp only)); refine Kd.R_lit (Kd.int .i64) _ 3 ?hg (N := 85) ?hd (xs := ([(rd_T46 l1 x68_5).f1] : List Int)) (inner := [.int .i64 ((rd_T46 l1 x68_5).f1)]) (ok := fun _ => True) (okp := fun _ => True) ?hr ?hp (fun _ hk => hk) trivial (Below.refl _ _) (Nat.le_refl _) (by simp) ?_; (case hd => rfl); (case hg => rfl); (case hr => go_simp; try rfl); (case hp => exact (Reps.one (show Kd.M (Kd.int .i64) _ _ _ ((rd_T46 l1 x68_5).f1) [.int .i64 ((rd_T46 l1 x68_5).f1)] from rfl) (Reps.none _ _))); intro v115 w53 ho54 hb hg_ hnew_; clear hg_ hnew_; (first | rw [← Ny114.out] at ho54 | (simp only [Int.reduceToNat] at ho54; rw [← Ny114.out] at ho54)); have n0_ := am (Kd.R_lower ho54 (below_size (by exact bl_g HB.out))); have n1_ := am (blk_below (g := gb113) (o := .cells #[.int .i64 ((rd_T46 l1 x68_5).f0), .int .i64 ((rd_T46 l1 x68_5).f1), .int .i64 ((rd_T46 l1 x68_5).f2), .slice A112_3 ((rd_T46 l1 x68_5).f3).length c112_3] 46 (0, 0)) (by (with_reducible repeat (first | refine blk_drewN ?_ _ | refine blk_drew ?_ | refine blk_alloc ?_ _)); refine blk_put (cs := #[.int .i64 ((rd_T46 l1 x68_5).f0), .int .i64 ((rd_T46 l1 x68_5).f1), .int .i64 ((rd_T46 l1 x68_5).f2), .slice none 0 0]) ?_ 3 _ rfl; (with_reducible repeat (first | refine blk_drewN ?_ _ | refine blk_drew ?_ | refine blk_alloc ?_ _)); refine blk_put (cs := #[.int .i64 ((rd_T46 l1 x68_5).f0), .int .i64 ((rd_T46 l1 x68_5).f1), .int .i64 0, .slice none 0 0]) ?_ 2 _ rfl; (with_reducible repeat (first | refine blk_drewN ?_ _ | refine blk_drew ?_ | refine blk_alloc ?_ _)); refine blk_put (cs := #[.int .i64 ((rd_T46 l1 x68_5).f0), .int .i64 0, .int .i64 0, .slice none 0 0]) ?_ 1 _ rfl; (with_reducible repeat (first | refine blk_drewN ?_ _ | refine blk_drew ?_ | refine blk_alloc ?_ _)); refine blk_put (cs := #[.int .i64 0, .int .i64 0, .int .i64 0, .slice none 0 0]) ?_ 0 _ rfl; (with_reducible repeat (first | refine blk_drewN ?_ _ | refine blk_drew ?_ | refine blk_alloc ?_ _)); exact BK113.out) hb); have n2_ := am (below_step (by exact bl_g HB.out) hb); clear BK113; clear HB; have HO116 := n0_; have BK113 := n1_; have HB := n2_; clear n0_ n1_ n2_; clear hb ho54; obtain ⟨Ao55, co55, eo55⟩ := Kd.R_slice HO116.out; subst eo55) | (go_at_call 30; (with_reducible refine (ehframe_near.calls k5 _ _ y114 true _ ?side1 ?side2 A48.out).mono ?_); (case side1 => exact Kd.C_o ((Kd.R_reads' HO116.out).2.2)); (case side2 => exact (Kd.R_reads' HO116.out).2.1); rintro e w' ⟨rfl, ⟨nd, rfl⟩⟩; obtain ⟨hcz56_0, hcz56_1, hcz56_2, hcz56_3, hfz56_0, hfz56_1, hfz56_2, hfz56_3⟩ := cells4 BK113.out))
                      go_ret
                      exact ⟨rfl, by exact bl_g HB.out⟩
                     ·
                      rw [if_neg c50] at H
                      have c50b0 : decide (((rd_T46 l1 x68_5).f2) < 0) = false := decide_eq_false c50
                      clear c50
                      by_cases c57 : ((rd_T46 l1 x68_5).f2) > 1048576
                      ·
                       rw [if_pos c57] at H
                       have c57b0 : decide (1048576 < ((rd_T46 l1 x68_5).f2)) = true := decide_eq_true c57
                       clear c57
                       obtain rfl := Option.some.inj H
                       have p112 : 0 ≤ (x68_5 : Int) := of_decide_eq_true (by first | (with_reducible assumption) | assumption)
                       have q112 : x68_5 < (l1.length : Int) := of_decide_eq_true (by first | (with_reducible assumption) | assumption)
                       obtain ⟨ad112, A112_3, c112_3, e112, hx112_0, hx112_1, hx112_2, hx112_3, hl112_3, hi112_3⟩ := at_T46 HR1.out x68_5 p112 q112
                       cases e112
                       replace hx112_0 := (HB.out.cell (World.block_lt_of_cell? w _ hx112_0)).trans hx112_0
                       replace hx112_1 := (HB.out.cell (World.block_lt_of_cell? w _ hx112_1)).trans hx112_1
                       replace hx112_2 := (HB.out.cell (World.block_lt_of_cell? w _ hx112_2)).trans hx112_2
                       replace hx112_3 := (HB.out.cell (World.block_lt_of_cell? w _ hx112_3)).trans hx112_3
                       have HR112_3 := am hi112_3
                       have HC112_3 := am hl112_3
                       clear hi112_3 hl112_3
                       replace p112 := eq_true p112
                       replace q112 := eq_true q112
                       go_wp2_with (first | ((with_reducible refine gate_dst (N := 15) rfl ?_); (try (refine gate_guard (by rfl) ?_; dsimp only)); refine box_event ?hg (N := 15) ?hd (cs := #[.int .i64 0, .int .i64 0, .int .i64 0, .slice none 0 0]) (t := 46) ?hr ?_; (case hd => rfl); (case hg => rfl); (case hr => go_simp; try rfl); intro gb113 hg w58 hbox hb; have n0_ := am (below_step (by exact bl_o HB.out) hb); have n1_ := am (hbox); have n2_ := lei (by rw [hg]; exact (below_size (by exact bl_o HB.out)) : w.heap.size ≤ gb113); have n3_ := n2_; clear HB; have HB := n0_; have BK113 := n1_; have GW113 := n2_; have GE113 := n3_; clear n0_ n1_ n2_ n3_; clear hb hbox hg; obtain ⟨hcz59_0, hcz59_1, hcz59_2, hcz59_3, hfz59_0, hfz59_1, hfz59_2, hfz59_3⟩ := cells4 BK113.out) | ((with_reducible refine gate_dst (N := 85) rfl ?_); (try (refine gate_guard (by rfl) ?_; dsimp only)); refine Kd.R_lit (Kd.int .i64) _ 3 ?hg (N := 85) ?hd (xs := ([(rd_T46 l1 x68_5).f1] : List Int)) (inner := [.int .i64 ((rd_T46 l1 x68_5).f1)]) (ok := fun _ => True) (okp := fun _ => True) ?hr ?hp (fun _ hk => hk) trivial (Below.refl _ _) (Nat.le_refl _) (by simp) ?_; (case hd => rfl); (case hg => rfl); (case hr => go_simp; try rfl); (case hp => exact (Reps.one (show Kd.M (Kd.int .i64) _ _ _ ((rd_T46 l1 x68_5).f1) [.int .i64 ((rd_T46 l1 x68_5).f1)] from rfl) (Reps.none _ _))); intro v115 w60 ho61 hb hg_ hnew_; clear hg_ hnew_; (first | rw [← Ny114.out] at ho61 | (simp only [Int.reduceToNat] at ho61; rw [← Ny114.out] at ho61)); have n0_ := am (Kd.R_lower ho61 (below_size (by exact bl_g HB.out))); have n1_ := am (blk_below (g := gb113) (o := .cells #[.int .i64 ((rd_T46 l1 x68_5).f0), .int .i64 ((rd_T46 l1 x68_5).f1), .int .i64 ((rd_T46 l1 x68_5).f2), .slice A112_3 ((rd_T46 l1 x68_5).f3).length c112_3] 46 (0, 0)) (by (with_reducible repeat (first | refine blk_drewN ?_ _ | refine blk_drew ?_ | refine blk_alloc ?_ _)); refine blk_put (cs := #[.int .i64 ((rd_T46 l1 x68_5).f0), .int .i64 ((rd_T46 l1 x68_5).f1), .int .i64 ((rd_T46 l1 x68_5).f2), .slice none 0 0]) ?_ 3 _ rfl; (with_reducible repeat (first | refine blk_drewN ?_ _ | refine blk_drew ?_ | refine blk_alloc ?_ _)); refine blk_put (cs := #[.int .i64 ((rd_T46 l1 x68_5).f0), .int .i64 ((rd_T46 l1 x68_5).f1), .int .i64 0, .slice none 0 0]) ?_ 2 _ rfl; (with_reducible repeat (first | refine blk_drewN ?_ _ | refine blk_drew ?_ | refine blk_alloc ?_ _)); refine blk_put (cs := #[.int .i64 ((rd_T46 l1 x68_5).f0), .int .i64 0, .int .i64 0, .slice none 0 0]) ?_ 1 _ rfl; (with_reducible repeat (first | refine blk_drewN ?_ _ | refine blk_drew ?_ | refine blk_alloc ?_ _)); refine blk_put (cs := #[.int .i64 0, .int .i64 0, .int .i64 0, .slice none 0 0]) ?_ 0 _ rfl; (with_reducible repeat (first | refine blk_drewN ?_ _ | refine blk_drew ?_ | refine blk_alloc ?_ _)); exact BK113.out) hb); have n2_ := am (below_step (by exact bl_g HB.out) hb); clear BK113; clear HB; have HO116 := n0_; have BK113 := n1_; have HB := n2_; clear n0_ n1_ n2_; clear hb ho61; obtain ⟨Ao62, co62, eo62⟩ := Kd.R_slice HO116.out; subst eo62) | (go_at_call 30; (with_reducible refine (ehframe_near.calls k5 _ _ y114 true _ ?side1 ?side2 A48.out).mono ?_); (case side1 => exact Kd.C_o ((Kd.R_reads' HO116.out).2.2)); (case side2 => exact (Kd.R_reads' HO116.out).2.1); rintro e w' ⟨rfl, ⟨nd, rfl⟩⟩; obtain ⟨hcz63_0, hcz63_1, hcz63_2, hcz63_3, hfz63_0, hfz63_1, hfz63_2, hfz63_3⟩ := cells4 BK113.out))
                       go_ret
                       exact ⟨rfl, by exact bl_g HB.out⟩
                      ·
                       rw [if_neg c57] at H
                       have c57b0 : decide (1048576 < ((rd_T46 l1 x68_5).f2)) = false := decide_eq_false c57
                       clear c57
                       have H' := am H
                       clear H
                       have p112 : 0 ≤ (x68_5 : Int) := of_decide_eq_true (by first | (with_reducible assumption) | assumption)
                       have q112 : x68_5 < (l1.length : Int) := of_decide_eq_true (by first | (with_reducible assumption) | assumption)
                       obtain ⟨ad112, A112_3, c112_3, e112, hx112_0, hx112_1, hx112_2, hx112_3, hl112_3, hi112_3⟩ := at_T46 HR1.out x68_5 p112 q112
                       cases e112
                       replace hx112_0 := (HB.out.cell (World.block_lt_of_cell? w _ hx112_0)).trans hx112_0
                       replace hx112_1 := (HB.out.cell (World.block_lt_of_cell? w _ hx112_1)).trans hx112_1
                       replace hx112_2 := (HB.out.cell (World.block_lt_of_cell? w _ hx112_2)).trans hx112_2
                       replace hx112_3 := (HB.out.cell (World.block_lt_of_cell? w _ hx112_3)).trans hx112_3
                       have HR112_3 := am hi112_3
                       have HC112_3 := am hl112_3
                       clear hi112_3 hl112_3
                       replace p112 := eq_true p112
                       replace q112 := eq_true q112
                       go_wp2_with (first | ((with_reducible refine gate_dst (N := 15) rfl ?_); (try (refine gate_guard (by rfl) ?_; dsimp only)); refine box_event ?hg (N := 15) ?hd (cs := #[.int .i64 0, .int .i64 0, .int .i64 0, .slice none 0 0]) (t := 46) ?hr ?_; (case hd => rfl); (case hg => rfl); (case hr => go_simp; try rfl); intro gb113 hg w64 hbox hb; have n0_ := am (below_step (by exact bl_o HB.out) hb); have n1_ := am (hbox); have n2_ := lei (by rw [hg]; exact (below_size (by exact bl_o HB.out)) : w.heap.size ≤ gb113); have n3_ := n2_; clear HB; have HB := n0_; have BK113 := n1_; have GW113 := n2_; have GE113 := n3_; clear n0_ n1_ n2_ n3_; clear hb hbox hg; obtain ⟨hcz65_0, hcz65_1, hcz65_2, hcz65_3, hfz65_0, hfz65_1, hfz65_2, hfz65_3⟩ := cells4 BK113.out) | ((with_reducible refine gate_dst (N := 85) rfl ?_); (try (refine gate_guard (by rfl) ?_; dsimp only)); refine Kd.R_lit (Kd.int .i64) _ 3 ?hg (N := 85) ?hd (xs := ([(rd_T46 l1 x68_5).f1] : List Int)) (inner := [.int .i64 ((rd_T46 l1 x68_5).f1)]) (ok := fun _ => True) (okp := fun _ => True) ?hr ?hp (fun _ hk => hk) trivial (Below.refl _ _) (Nat.le_refl _) (by simp) ?_; (case hd => rfl); (case hg => rfl); (case hr => go_simp; try rfl); (case hp => exact (Reps.one (show Kd.M (Kd.int .i64) _ _ _ ((rd_T46 l1 x68_5).f1) [.int .i64 ((rd_T46 l1 x68_5).f1)] from rfl) (Reps.none _ _))); intro v115 w66 ho67 hb hg_ hnew_; clear hg_ hnew_; (first | rw [← Ny114.out] at ho67 | (simp only [Int.reduceToNat] at ho67; rw [← Ny114.out] at ho67)); have n0_ := am (Kd.R_lower ho67 (below_size (by exact bl_g HB.out))); have n1_ := am (blk_below (g := gb113) (o := .cells #[.int .i64 ((rd_T46 l1 x68_5).f0), .int .i64 ((rd_T46 l1 x68_5).f1), .int .i64 ((rd_T46 l1 x68_5).f2), .slice A112_3 ((rd_T46 l1 x68_5).f3).length c112_3] 46 (0, 0)) (by (with_reducible repeat (first | refine blk_drewN ?_ _ | refine blk_drew ?_ | refine blk_alloc ?_ _)); refine blk_put (cs := #[.int .i64 ((rd_T46 l1 x68_5).f0), .int .i64 ((rd_T46 l1 x68_5).f1), .int .i64 ((rd_T46 l1 x68_5).f2), .slice none 0 0]) ?_ 3 _ rfl; (with_reducible repeat (first | refine blk_drewN ?_ _ | refine blk_drew ?_ | refine blk_alloc ?_ _)); refine blk_put (cs := #[.int .i64 ((rd_T46 l1 x68_5).f0), .int .i64 ((rd_T46 l1 x68_5).f1), .int .i64 0, .slice none 0 0]) ?_ 2 _ rfl; (with_reducible repeat (first | refine blk_drewN ?_ _ | refine blk_drew ?_ | refine blk_alloc ?_ _)); refine blk_put (cs := #[.int .i64 ((rd_T46 l1 x68_5).f0), .int .i64 0, .int .i64 0, .slice none 0 0]) ?_ 1 _ rfl; (with_reducible repeat (first | refine blk_drewN ?_ _ | refine blk_drew ?_ | refine blk_alloc ?_ _)); refine blk_put (cs := #[.int .i64 0, .int .i64 0, .int .i64 0, .slice none 0 0]) ?_ 0 _ rfl; (with_reducible repeat (first | refine blk_drewN ?_ _ | refine blk_drew ?_ | refine blk_alloc ?_ _)); exact BK113.out) hb); have n2_ := am (below_step (by exact bl_g HB.out) hb); clear BK113; clear HB; have HO116 := n0_; have BK113 := n1_; have HB := n2_; clear n0_ n1_ n2_; clear hb ho67; obtain ⟨Ao68, co68, eo68⟩ := Kd.R_slice HO116.out; subst eo68) | (go_at_call 30; (with_reducible refine (ehframe_near.calls k5 _ _ y114 true _ ?side1 ?side2 A48.out).mono ?_); (case side1 => exact Kd.C_o ((Kd.R_reads' HO116.out).2.2)); (case side2 => exact (Kd.R_reads' HO116.out).2.1); rintro e w' ⟨rfl, ⟨nd, rfl⟩⟩; obtain ⟨hcz69_0, hcz69_1, hcz69_2, hcz69_3, hfz69_0, hfz69_1, hfz69_2, hfz69_3⟩ := cells4 BK113.out))
                       go_roundg k5
                       case measure => have := HJ2.out; have := HK2.out; have := HK3.out; have := HK4.out; have := HK5.out; omega
                       case rel => exact ⟨(wrap64 (x68_5 + 1)), (by first | rfl | (simp; done) | (simp [*]; done)), H', ⟨by have := HJ2.out; have := HK2.out; have := HK3.out; have := HK4.out; have := HK5.out; omega⟩, ⟨by exact bl_g HB.out⟩⟩
                    ·
                     replace c49 := Bool.eq_false_iff.mpr c49
                     subst c49
                     have H1 : (some 140) = some r := by rw [if_neg (show ¬ (false = true) by decide)] at H; exact H
                     clear H
                     have H := H1
                     clear H1
                     obtain rfl := Option.some.inj H
                     have p112 : 0 ≤ (x68_5 : Int) := of_decide_eq_true (by first | (with_reducible assumption) | assumption)
                     have q112 : x68_5 < (l1.length : Int) := of_decide_eq_true (by first | (with_reducible assumption) | assumption)
                     obtain ⟨ad112, A112_3, c112_3, e112, hx112_0, hx112_1, hx112_2, hx112_3, hl112_3, hi112_3⟩ := at_T46 HR1.out x68_5 p112 q112
                     cases e112
                     replace hx112_0 := (HB.out.cell (World.block_lt_of_cell? w _ hx112_0)).trans hx112_0
                     replace hx112_1 := (HB.out.cell (World.block_lt_of_cell? w _ hx112_1)).trans hx112_1
                     replace hx112_2 := (HB.out.cell (World.block_lt_of_cell? w _ hx112_2)).trans hx112_2
                     replace hx112_3 := (HB.out.cell (World.block_lt_of_cell? w _ hx112_3)).trans hx112_3
                     have HR112_3 := am hi112_3
                     have HC112_3 := am hl112_3
                     clear hi112_3 hl112_3
                     replace p112 := eq_true p112
                     replace q112 := eq_true q112
                     go_wp2_with (first | ((with_reducible refine gate_dst (N := 15) rfl ?_); (try (refine gate_guard (by rfl) ?_; dsimp only)); refine box_event ?hg (N := 15) ?hd (cs := #[.int .i64 0, .int .i64 0, .int .i64 0, .slice none 0 0]) (t := 46) ?hr ?_; (case hd => rfl); (case hg => rfl); (case hr => go_simp; try rfl); intro gb113 hg w70 hbox hb; have n0_ := am (below_step (by exact bl_o HB.out) hb); have n1_ := am (hbox); have n2_ := lei (by rw [hg]; exact (below_size (by exact bl_o HB.out)) : w.heap.size ≤ gb113); have n3_ := n2_; clear HB; have HB := n0_; have BK113 := n1_; have GW113 := n2_; have GE113 := n3_; clear n0_ n1_ n2_ n3_; clear hb hbox hg; obtain ⟨hcz71_0, hcz71_1, hcz71_2, hcz71_3, hfz71_0, hfz71_1, hfz71_2, hfz71_3⟩ := cells4 BK113.out) | ((with_reducible refine gate_dst (N := 85) rfl ?_); (try (refine gate_guard (by rfl) ?_; dsimp only)); refine Kd.R_lit (Kd.int .i64) _ 3 ?hg (N := 85) ?hd (xs := ([(rd_T46 l1 x68_5).f1] : List Int)) (inner := [.int .i64 ((rd_T46 l1 x68_5).f1)]) (ok := fun _ => True) (okp := fun _ => True) ?hr ?hp (fun _ hk => hk) trivial (Below.refl _ _) (Nat.le_refl _) (by simp) ?_; (case hd => rfl); (case hg => rfl); (case hr => go_simp; try rfl); (case hp => exact (Reps.one (show Kd.M (Kd.int .i64) _ _ _ ((rd_T46 l1 x68_5).f1) [.int .i64 ((rd_T46 l1 x68_5).f1)] from rfl) (Reps.none _ _))); intro v115 w72 ho73 hb hg_ hnew_; clear hg_ hnew_; (first | rw [← Ny114.out] at ho73 | (simp only [Int.reduceToNat] at ho73; rw [← Ny114.out] at ho73)); have n0_ := am (Kd.R_lower ho73 (below_size (by exact bl_g HB.out))); have n1_ := am (blk_below (g := gb113) (o := .cells #[.int .i64 ((rd_T46 l1 x68_5).f0), .int .i64 ((rd_T46 l1 x68_5).f1), .int .i64 ((rd_T46 l1 x68_5).f2), .slice A112_3 ((rd_T46 l1 x68_5).f3).length c112_3] 46 (0, 0)) (by (with_reducible repeat (first | refine blk_drewN ?_ _ | refine blk_drew ?_ | refine blk_alloc ?_ _)); refine blk_put (cs := #[.int .i64 ((rd_T46 l1 x68_5).f0), .int .i64 ((rd_T46 l1 x68_5).f1), .int .i64 ((rd_T46 l1 x68_5).f2), .slice none 0 0]) ?_ 3 _ rfl; (with_reducible repeat (first | refine blk_drewN ?_ _ | refine blk_drew ?_ | refine blk_alloc ?_ _)); refine blk_put (cs := #[.int .i64 ((rd_T46 l1 x68_5).f0), .int .i64 ((rd_T46 l1 x68_5).f1), .int .i64 0, .slice none 0 0]) ?_ 2 _ rfl; (with_reducible repeat (first | refine blk_drewN ?_ _ | refine blk_drew ?_ | refine blk_alloc ?_ _)); refine blk_put (cs := #[.int .i64 ((rd_T46 l1 x68_5).f0), .int .i64 0, .int .i64 0, .slice none 0 0]) ?_ 1 _ rfl; (with_reducible repeat (first | refine blk_drewN ?_ _ | refine blk_drew ?_ | refine blk_alloc ?_ _)); refine blk_put (cs := #[.int .i64 0, .int .i64 0, .int .i64 0, .slice none 0 0]) ?_ 0 _ rfl; (with_reducible repeat (first | refine blk_drewN ?_ _ | refine blk_drew ?_ | refine blk_alloc ?_ _)); exact BK113.out) hb); have n2_ := am (below_step (by exact bl_g HB.out) hb); clear BK113; clear HB; have HO116 := n0_; have BK113 := n1_; have HB := n2_; clear n0_ n1_ n2_; clear hb ho73; obtain ⟨Ao74, co74, eo74⟩ := Kd.R_slice HO116.out; subst eo74) | (go_at_call 30; (with_reducible refine (ehframe_near.calls k5 _ _ y114 false _ ?side1 ?side2 A48.out).mono ?_); (case side1 => exact Kd.C_o ((Kd.R_reads' HO116.out).2.2)); (case side2 => exact (Kd.R_reads' HO116.out).2.1); rintro e w' ⟨rfl, ⟨nd, rfl⟩⟩))
                     go_ret
                     exact ⟨rfl, by exact bl_g HB.out⟩
                 ·
                  rw [if_neg c41] at H
                  exact absurd H (by simp)
                ·
                 rw [if_neg c40] at H
                 exact absurd H (by simp)
               ·
                rw [if_neg c39] at H
                have c39b0 : decide (x68_5 < (l1.length : Int)) = false := decide_eq_false c39
                clear c39
                have H' := am H
                clear H
                go_wp2
                go_loopg [102] k5 (fun kq v102 w' => ∃ (x102_6 : Int), v102 = .int .i64 x102_6 ∧ Aside0 (ehframe_Check.l4 kq l0 l1 l0 (l0.length : Int) x102_6 = some r) ∧ Aside0 (kq ≤ k5) ∧ Aside0 (Below w.heap.size w w'))
                case atStart => exact ⟨(0), (by first | rfl | (simp; done) | (simp [*]; done)), H', ⟨Nat.le_refl _⟩, ⟨by exact bl_g HB.out⟩⟩
                case round =>
                 clear H'
                 try clear c1
                 try clear p1
                 try clear q1
                 try clear hx1
                 try clear c2
                 try clear p2
                 try clear c3
                 try clear c4
                 try clear c4b0
                 try clear c4b1
                 try clear c5
                 try clear c6
                 try clear c6b0
                 try clear p6
                 try clear c7
                 try clear c7b0
                 try clear c8
                 try clear c8b0
                 try clear c9
                 try clear c9b0
                 try clear c9b1
                 try clear c10
                 try clear p10
                 try clear q10
                 try clear hx10
                 try clear c11
                 try clear p11
                 try clear q11
                 try clear hx11
                 try clear c12
                 try clear c14
                 try clear c14b0
                 try clear c15
                 try clear c15b0
                 try clear c16
                 try clear c16b0
                 try clear c17
                 try clear c17b0
                 try clear c17b1
                 try clear c22
                 try clear c22b0
                 try clear c23
                 try clear c23b0
                 try clear c24
                 try clear c24b0
                 try clear c26
                 try clear c29
                 try clear c31
                 try clear c37
                 try clear c39
                 try clear c39b0
                 try clear c40
                 try clear c40b0
                 try clear c41
                 try clear c41b0
                 try clear c42
                 try clear c42b0
                 try clear c45
                 try clear c45b0
                 try clear c49
                 try clear c50
                 try clear c50b0
                 try clear c57
                 try clear c57b0
                 try clear p64
                 try clear hcz11_0
                 try clear hcz11_1
                 try clear hcz13_0
                 try clear hcz13_1
                 try clear hcz19_0
                 try clear hcz19_1
                 try clear hcz19_2
                 try clear hcz19_3
                 try clear hcz21_0
                 try clear hcz21_1
                 try clear hcz21_2
                 try clear hcz21_3
                 try clear hcz28_0
                 try clear hcz28_1
                 try clear hcz32_0
                 try clear hcz32_1
                 try clear hcz34_0
                 try clear hcz34_1
                 try clear hcz38_0
                 try clear hcz38_1
                 try clear hcz44_0
                 try clear hcz44_1
                 try clear hcz44_2
                 try clear hcz44_3
                 try clear hcz47_0
                 try clear hcz47_1
                 try clear hcz47_2
                 try clear hcz47_3
                 try clear hcz52_0
                 try clear hcz52_1
                 try clear hcz52_2
                 try clear hcz52_3
                 try clear hcz56_0
                 try clear hcz56_1
                 try clear hcz56_2
                 try clear hcz56_3
                 try clear hcz59_0
                 try clear hcz59_1
                 try clear hcz59_2
                 try clear hcz59_3
                 try clear hcz63_0
                 try clear hcz63_1
                 try clear hcz63_2
                 try clear hcz63_3
                 try clear hcz65_0
                 try clear hcz65_1
                 try clear hcz65_2
                 try clear hcz65_3
                 try clear hcz69_0
                 try clear hcz69_1
                 try clear hcz69_2
                 try clear hcz69_3
                 try clear hcz71_0
                 try clear hcz71_1
                 try clear hcz71_2
                 try clear hcz71_3
                 try clear hfz11_0
                 try clear hfz11_1
                 try clear hfz13_0
                 try clear hfz13_1
                 try clear hfz19_0
                 try clear hfz19_1
                 try clear hfz19_2
                 try clear hfz19_3
                 try clear hfz21_0
                 try clear hfz21_1
                 try clear hfz21_2
                 try clear hfz21_3
                 try clear hfz28_0
                 try clear hfz28_1
                 try clear hfz32_0
                 try clear hfz32_1
                 try clear hfz34_0
                 try clear hfz34_1
                 try clear hfz38_0
                 try clear hfz38_1
                 try clear hfz44_0
                 try clear hfz44_1
                 try clear hfz44_2
                 try clear hfz44_3
                 try clear hfz47_0
                 try clear hfz47_1
                 try clear hfz47_2
                 try clear hfz47_3
                 try clear hfz52_0
                 try clear hfz52_1
                 try clear hfz52_2
                 try clear hfz52_3
                 try clear hfz56_0
                 try clear hfz56_1
                 try clear hfz56_2
                 try clear hfz56_3
                 try clear hfz59_0
                 try clear hfz59_1
                 try clear hfz59_2
                 try clear hfz59_3
                 try clear hfz63_0
                 try clear hfz63_1
                 try clear hfz63_2
                 try clear hfz63_3
                 try clear hfz65_0
                 try clear hfz65_1
                 try clear hfz65_2
                 try clear hfz65_3
                 try clear hfz69_0
                 try clear hfz69_1
                 try clear hfz69_2
                 try clear hfz69_3
                 try clear hfz71_0
                 try clear hfz71_1
                 try clear hfz71_2
                 try clear hfz71_3
                 try clear hx101_0
                 try clear hx101_1
                 try clear hx103_0
                 try clear hx103_1
                 try clear hx103_2
                 try clear hx103_3
                 try clear hx105_0
                 try clear hx105_1
                 try clear hx112_0
                 try clear hx112_1
                 try clear hx112_2
                 try clear hx112_3
                 try clear p1
                 try clear p10
                 try clear p101
                 try clear p103
                 try clear p105
                 try clear p112
                 try clear p2
                 try clear p6
                 try clear q1
                 try clear q10
                 try clear q101
                 try clear q103
                 try clear q105
                 try clear q112
                 obtain ⟨x102_6, rfl, HA, HK6, HB⟩ := hrel
                 cases gk with
                 | zero => exact absurd HA.out (by simp [ehframe_Check.l4])
                 | succ k6 =>
                  have H := HA.out
                  clear HA
                  simp only [ehframe_Check.l4] at H
                  by_cases c75 : x102_6 < (l0.length : Int)
                  ·
                   rw [if_pos c75] at H
                   have c75b0 : decide (x102_6 < (l0.length : Int)) = true := decide_eq_true c75
                   clear c75
                   by_cases c76 : 0 ≤ x102_6
                   ·
                    rw [if_pos c76] at H
                    have c76b0 : decide (0 ≤ x102_6) = true := decide_eq_true c76
                    clear c76
                    by_cases c77 : x102_6 < (l0.length : Int)
                    ·
                     rw [if_pos c77] at H
                     have c77b0 : decide (x102_6 < (l0.length : Int)) = true := decide_eq_true c77
                     clear c77
                     replace H := Option.bind_eq_some_iff.mp H
                     obtain ⟨t120, A780, H⟩ := H
                     replace H : (if t120 = 0 then (ehframe_Check.l4 k6 l0 l1 l0 (l0.length : Int) (wrap64 (x102_6 + 1))) else (some 130)) = some r := H
                     have A78 := am A780
                     clear A780
                     by_cases c79 : t120 = 0
                     ·
                      rw [if_pos c79] at H
                      have c79b0 : (t120 == 0) = true := beq_iff_eq.mpr c79
                      have c79b1 : (t120 != 0) = false := bne_eq_false_iff_eq.mpr c79
                      clear c79
                      have H' := am H
                      clear H
                      have p118 : 0 ≤ (x102_6 : Int) := of_decide_eq_true (by first | (with_reducible assumption) | assumption)
                      have q118 : x102_6 < (l0.length : Int) := of_decide_eq_true (by first | (with_reducible assumption) | assumption)
                      obtain ⟨ad118, A118_1, c118_1, e118, hx118_0, hx118_1, hl118_1, hi118_1⟩ := at_T69 HR0.out x102_6 p118 q118
                      cases e118
                      replace hx118_0 := (HB.out.cell (World.block_lt_of_cell? w _ hx118_0)).trans hx118_0
                      replace hx118_1 := (HB.out.cell (World.block_lt_of_cell? w _ hx118_1)).trans hx118_1
                      have HR118_1 := am hi118_1
                      have HC118_1 := am hl118_1
                      clear hi118_1 hl118_1
                      replace p118 := eq_true p118
                      replace q118 := eq_true q118
                      go_wp2_with (first | ((with_reducible refine gate_dst (N := 17) rfl ?_); (try (refine gate_guard (by rfl) ?_; dsimp only)); refine box_event ?hg (N := 17) ?hd (cs := #[.int .i64 0, .slice none 0 0]) (t := 69) ?hr ?_; (case hd => rfl); (case hg => rfl); (case hr => go_simp; try rfl); intro gb119 hg w80 hbox hb; have n0_ := am (below_step (by exact bl_o HB.out) hb); have n1_ := am (hbox); have n2_ := lei (by rw [hg]; exact (below_size (by exact bl_o HB.out)) : w.heap.size ≤ gb119); have n3_ := n2_; clear HB; have HB := n0_; have BK119 := n1_; have GW119 := n2_; have GE119 := n3_; clear n0_ n1_ n2_ n3_; clear hb hbox hg; obtain ⟨hcz81_0, hcz81_1, hfz81_0, hfz81_1⟩ := cells2 BK119.out) | ((with_reducible refine gate_callee (f := 31) rfl ?_); refine goesL_ (some 108) rfl rfl Try.func31 (by kernel_rfl) rfl #[.slice A118_1 ((rd_T69 l0 x102_6).f1).length c118_1, .slice none 0 0, .int .i64 0] rfl (by simp only [List.map_toArray, List.map_cons, List.map_nil]; try rfl) ?_; (refine (cfa_Check.calls _ _ ((rd_T69 l0 x102_6).f1) _ _ ([] : List (S105)) 0 t120 _ ?side1 ?side2 ?side3 ?side4 A78.out).mono ?_); (case side1 => exact Kd.C_below HR118_1.out (by exact bl_g HB.out)); (case side2 => exact HC118_1.out); (case side3 => exact Kd.C_nil _ _); (case side4 => exact Nat.le_refl _); rintro e w82 ⟨rfl, hb⟩; refine ⟨_, rfl, ?_⟩; have n0_ := am (blk_below (g := gb119) (o := .cells #[.int .i64 ((rd_T69 l0 x102_6).f0), .slice A118_1 ((rd_T69 l0 x102_6).f1).length c118_1] 69 (0, 0)) (by (with_reducible repeat (first | refine blk_drewN ?_ _ | refine blk_drew ?_ | refine blk_alloc ?_ _)); refine blk_put (cs := #[.int .i64 ((rd_T69 l0 x102_6).f0), .slice none 0 0]) ?_ 1 _ rfl; (with_reducible repeat (first | refine blk_drewN ?_ _ | refine blk_drew ?_ | refine blk_alloc ?_ _)); refine blk_put (cs := #[.int .i64 0, .slice none 0 0]) ?_ 0 _ rfl; (with_reducible repeat (first | refine blk_drewN ?_ _ | refine blk_drew ?_ | refine blk_alloc ?_ _)); exact BK119.out) hb); have n1_ := am (below_step (by exact bl_g HB.out) hb); clear BK119; clear HB; have BK119 := n0_; have HB := n1_; clear n0_ n1_; (try clear hb); (try clear hb2); (try clear hk); (try clear hi)))
                      go_roundg k6
                      case measure => have := HJ2.out; have := HK2.out; have := HK3.out; have := HK4.out; have := HK5.out; have := HK6.out; omega
                      case rel => exact ⟨(wrap64 (x102_6 + 1)), (by first | rfl | (simp; done) | (simp [*]; done)), H', ⟨by have := HJ2.out; have := HK2.out; have := HK3.out; have := HK4.out; have := HK5.out; have := HK6.out; omega⟩, ⟨by exact bl_g HB.out⟩⟩
                     ·
                      rw [if_neg c79] at H
                      have c79b0 : (t120 == 0) = false := beq_eq_false_iff_ne.mpr c79
                      have c79b1 : (t120 != 0) = true := bne_iff_ne.mpr c79
                      obtain rfl := Option.some.inj H
                      have p118 : 0 ≤ (x102_6 : Int) := of_decide_eq_true (by first | (with_reducible assumption) | assumption)
                      have q118 : x102_6 < (l0.length : Int) := of_decide_eq_true (by first | (with_reducible assumption) | assumption)
                      obtain ⟨ad118, A118_1, c118_1, e118, hx118_0, hx118_1, hl118_1, hi118_1⟩ := at_T69 HR0.out x102_6 p118 q118
                      cases e118
                      replace hx118_0 := (HB.out.cell (World.block_lt_of_cell? w _ hx118_0)).trans hx118_0
                      replace hx118_1 := (HB.out.cell (World.block_lt_of_cell? w _ hx118_1)).trans hx118_1
                      have HR118_1 := am hi118_1
                      have HC118_1 := am hl118_1
                      clear hi118_1 hl118_1
                      replace p118 := eq_true p118
                      replace q118 := eq_true q118
                      go_wp2_with (first | ((with_reducible refine gate_dst (N := 17) rfl ?_); (try (refine gate_guard (by rfl) ?_; dsimp only)); refine box_event ?hg (N := 17) ?hd (cs := #[.int .i64 0, .slice none 0 0]) (t := 69) ?hr ?_; (case hd => rfl); (case hg => rfl); (case hr => go_simp; try rfl); intro gb119 hg w83 hbox hb; have n0_ := am (below_step (by exact bl_o HB.out) hb); have n1_ := am (hbox); have n2_ := lei (by rw [hg]; exact (below_size (by exact bl_o HB.out)) : w.heap.size ≤ gb119); have n3_ := n2_; clear HB; have HB := n0_; have BK119 := n1_; have GW119 := n2_; have GE119 := n3_; clear n0_ n1_ n2_ n3_; clear hb hbox hg; obtain ⟨hcz84_0, hcz84_1, hfz84_0, hfz84_1⟩ := cells2 BK119.out) | ((with_reducible refine gate_callee (f := 31) rfl ?_); refine goesL_ (some 108) rfl rfl Try.func31 (by kernel_rfl) rfl #[.slice A118_1 ((rd_T69 l0 x102_6).f1).length c118_1, .slice none 0 0, .int .i64 0] rfl (by simp only [List.map_toArray, List.map_cons, List.map_nil]; try rfl) ?_; (refine (cfa_Check.calls _ _ ((rd_T69 l0 x102_6).f1) _ _ ([] : List (S105)) 0 t120 _ ?side1 ?side2 ?side3 ?side4 A78.out).mono ?_); (case side1 => exact Kd.C_below HR118_1.out (by exact bl_g HB.out)); (case side2 => exact HC118_1.out); (case side3 => exact Kd.C_nil _ _); (case side4 => exact Nat.le_refl _); rintro e w85 ⟨rfl, hb⟩; refine ⟨_, rfl, ?_⟩; have n0_ := am (blk_below (g := gb119) (o := .cells #[.int .i64 ((rd_T69 l0 x102_6).f0), .slice A118_1 ((rd_T69 l0 x102_6).f1).length c118_1] 69 (0, 0)) (by (with_reducible repeat (first | refine blk_drewN ?_ _ | refine blk_drew ?_ | refine blk_alloc ?_ _)); refine blk_put (cs := #[.int .i64 ((rd_T69 l0 x102_6).f0), .slice none 0 0]) ?_ 1 _ rfl; (with_reducible repeat (first | refine blk_drewN ?_ _ | refine blk_drew ?_ | refine blk_alloc ?_ _)); refine blk_put (cs := #[.int .i64 0, .slice none 0 0]) ?_ 0 _ rfl; (with_reducible repeat (first | refine blk_drewN ?_ _ | refine blk_drew ?_ | refine blk_alloc ?_ _)); exact BK119.out) hb); have n1_ := am (below_step (by exact bl_g HB.out) hb); clear BK119; clear HB; have BK119 := n0_; have HB := n1_; clear n0_ n1_; (try clear hb); (try clear hb2); (try clear hk); (try clear hi)))
                      go_ret
                      exact ⟨rfl, by exact bl_g HB.out⟩
                    ·
                     rw [if_neg c77] at H
                     exact absurd H (by simp)
                   ·
                    rw [if_neg c76] at H
                    exact absurd H (by simp)
                  ·
                   rw [if_neg c75] at H
                   have c75b0 : decide (x102_6 < (l0.length : Int)) = false := decide_eq_false c75
                   clear c75
                   have H' := am H
                   clear H
                   go_wp2
                   go_loopg [113] k6 (fun kq v113 w' => ∃ (x113_7 : Int), v113 = .int .i64 x113_7 ∧ Aside0 (ehframe_Check.l5 kq l0 l1 (l1.length : Int) x113_7 = some r) ∧ Aside0 (kq ≤ k6) ∧ Aside0 (Below w.heap.size w w'))
                   case atStart => exact ⟨(0), (by first | rfl | (simp; done) | (simp [*]; done)), H', ⟨Nat.le_refl _⟩, ⟨by exact bl_g HB.out⟩⟩
                   case round =>
                    clear H'
                    try clear c1
                    try clear p1
                    try clear q1
                    try clear hx1
                    try clear c2
                    try clear p2
                    try clear c3
                    try clear c4
                    try clear c4b0
                    try clear c4b1
                    try clear c5
                    try clear c6
                    try clear c6b0
                    try clear p6
                    try clear c7
                    try clear c7b0
                    try clear c8
                    try clear c8b0
                    try clear c9
                    try clear c9b0
                    try clear c9b1
                    try clear c10
                    try clear p10
                    try clear q10
                    try clear hx10
                    try clear c11
                    try clear p11
                    try clear q11
                    try clear hx11
                    try clear c12
                    try clear c14
                    try clear c14b0
                    try clear c15
                    try clear c15b0
                    try clear c16
                    try clear c16b0
                    try clear c17
                    try clear c17b0
                    try clear c17b1
                    try clear c22
                    try clear c22b0
                    try clear c23
                    try clear c23b0
                    try clear c24
                    try clear c24b0
                    try clear c26
                    try clear c29
                    try clear c31
                    try clear c37
                    try clear c39
                    try clear c39b0
                    try clear c40
                    try clear c40b0
                    try clear c41
                    try clear c41b0
                    try clear c42
                    try clear c42b0
                    try clear c45
                    try clear c45b0
                    try clear c49
                    try clear c50
                    try clear c50b0
                    try clear c57
                    try clear c57b0
                    try clear p64
                    try clear c75
                    try clear c75b0
                    try clear c76
                    try clear c76b0
                    try clear c77
                    try clear c77b0
                    try clear c79
                    try clear c79b0
                    try clear c79b1
                    try clear hcz11_0
                    try clear hcz11_1
                    try clear hcz13_0
                    try clear hcz13_1
                    try clear hcz19_0
                    try clear hcz19_1
                    try clear hcz19_2
                    try clear hcz19_3
                    try clear hcz21_0
                    try clear hcz21_1
                    try clear hcz21_2
                    try clear hcz21_3
                    try clear hcz28_0
                    try clear hcz28_1
                    try clear hcz32_0
                    try clear hcz32_1
                    try clear hcz34_0
                    try clear hcz34_1
                    try clear hcz38_0
                    try clear hcz38_1
                    try clear hcz44_0
                    try clear hcz44_1
                    try clear hcz44_2
                    try clear hcz44_3
                    try clear hcz47_0
                    try clear hcz47_1
                    try clear hcz47_2
                    try clear hcz47_3
                    try clear hcz52_0
                    try clear hcz52_1
                    try clear hcz52_2
                    try clear hcz52_3
                    try clear hcz56_0
                    try clear hcz56_1
                    try clear hcz56_2
                    try clear hcz56_3
                    try clear hcz59_0
                    try clear hcz59_1
                    try clear hcz59_2
                    try clear hcz59_3
                    try clear hcz63_0
                    try clear hcz63_1
                    try clear hcz63_2
                    try clear hcz63_3
                    try clear hcz65_0
                    try clear hcz65_1
                    try clear hcz65_2
                    try clear hcz65_3
                    try clear hcz69_0
                    try clear hcz69_1
                    try clear hcz69_2
                    try clear hcz69_3
                    try clear hcz71_0
                    try clear hcz71_1
                    try clear hcz71_2
                    try clear hcz71_3
                    try clear hcz81_0
                    try clear hcz81_1
                    try clear hcz84_0
                    try clear hcz84_1
                    try clear hfz11_0
                    try clear hfz11_1
                    try clear hfz13_0
                    try clear hfz13_1
                    try clear hfz19_0
                    try clear hfz19_1
                    try clear hfz19_2
                    try clear hfz19_3
                    try clear hfz21_0
                    try clear hfz21_1
                    try clear hfz21_2
                    try clear hfz21_3
                    try clear hfz28_0
                    try clear hfz28_1
                    try clear hfz32_0
                    try clear hfz32_1
                    try clear hfz34_0
                    try clear hfz34_1
                    try clear hfz38_0
                    try clear hfz38_1
                    try clear hfz44_0
                    try clear hfz44_1
                    try clear hfz44_2
                    try clear hfz44_3
                    try clear hfz47_0
                    try clear hfz47_1
                    try clear hfz47_2
                    try clear hfz47_3
                    try clear hfz52_0
                    try clear hfz52_1
                    try clear hfz52_2
                    try clear hfz52_3
                    try clear hfz56_0
                    try clear hfz56_1
                    try clear hfz56_2
                    try clear hfz56_3
                    try clear hfz59_0
                    try clear hfz59_1
                    try clear hfz59_2
                    try clear hfz59_3
                    try clear hfz63_0
                    try clear hfz63_1
                    try clear hfz63_2
                    try clear hfz63_3
                    try clear hfz65_0
                    try clear hfz65_1
                    try clear hfz65_2
                    try clear hfz65_3
                    try clear hfz69_0
                    try clear hfz69_1
                    try clear hfz69_2
                    try clear hfz69_3
                    try clear hfz71_0
                    try clear hfz71_1
                    try clear hfz71_2
                    try clear hfz71_3
                    try clear hfz81_0
                    try clear hfz81_1
                    try clear hfz84_0
                    try clear hfz84_1
                    try clear hx101_0
                    try clear hx101_1
                    try clear hx103_0
                    try clear hx103_1
                    try clear hx103_2
                    try clear hx103_3
                    try clear hx105_0
                    try clear hx105_1
                    try clear hx112_0
                    try clear hx112_1
                    try clear hx112_2
                    try clear hx112_3
                    try clear hx118_0
                    try clear hx118_1
                    try clear p1
                    try clear p10
                    try clear p101
                    try clear p103
                    try clear p105
                    try clear p11
                    try clear p112
                    try clear p118
                    try clear p2
                    try clear p6
                    try clear p64
                    try clear q1
                    try clear q10
                    try clear q101
                    try clear q103
                    try clear q105
                    try clear q11
                    try clear q112
                    try clear q118
                    obtain ⟨x113_7, rfl, HA, HK7, HB⟩ := hrel
                    cases gk with
                    | zero => exact absurd HA.out (by simp [ehframe_Check.l5])
                    | succ k7 =>
                     have H := HA.out
                     clear HA
                     simp only [ehframe_Check.l5] at H
                     by_cases c86 : x113_7 < (l1.length : Int)
                     ·
                      rw [if_pos c86] at H
                      have c86b0 : decide (x113_7 < (l1.length : Int)) = true := decide_eq_true c86
                      clear c86
                      by_cases c87 : 0 ≤ x113_7
                      ·
                       rw [if_pos c87] at H
                       have c87b0 : decide (0 ≤ x113_7) = true := decide_eq_true c87
                       clear c87
                       by_cases c88 : x113_7 < (l1.length : Int)
                       ·
                        rw [if_pos c88] at H
                        have c88b0 : decide (x113_7 < (l1.length : Int)) = true := decide_eq_true c88
                        clear c88
                        by_cases c89 : 0 ≤ ((rd_T46 l1 x113_7).f0)
                        ·
                         rw [if_pos c89] at H
                         have c89b0 : decide (0 ≤ ((rd_T46 l1 x113_7).f0)) = true := decide_eq_true c89
                         clear c89
                         by_cases c90 : ((rd_T46 l1 x113_7).f0) < (l0.length : Int)
                         ·
                          rw [if_pos c90] at H
                          have c90b0 : decide (((rd_T46 l1 x113_7).f0) < (l0.length : Int)) = true := decide_eq_true c90
                          clear c90
                          replace H := Option.bind_eq_some_iff.mp H
                          obtain ⟨t124, A910, H⟩ := H
                          replace H : (if t124 = 0 then (ehframe_Check.l5 k7 l0 l1 (l1.length : Int) (wrap64 (x113_7 + 1))) else (some 130)) = some r := H
                          have A91 := am A910
                          clear A910
                          by_cases c92 : t124 = 0
                          ·
                           rw [if_pos c92] at H
                           have c92b0 : (t124 == 0) = true := beq_iff_eq.mpr c92
                           have c92b1 : (t124 != 0) = false := bne_eq_false_iff_eq.mpr c92
                           clear c92
                           have H' := am H
                           clear H
                           have p121 : 0 ≤ (x113_7 : Int) := of_decide_eq_true (by first | (with_reducible assumption) | assumption)
                           have q121 : x113_7 < (l1.length : Int) := of_decide_eq_true (by first | (with_reducible assumption) | assumption)
                           obtain ⟨ad121, A121_3, c121_3, e121, hx121_0, hx121_1, hx121_2, hx121_3, hl121_3, hi121_3⟩ := at_T46 HR1.out x113_7 p121 q121
                           cases e121
                           replace hx121_0 := (HB.out.cell (World.block_lt_of_cell? w _ hx121_0)).trans hx121_0
                           replace hx121_1 := (HB.out.cell (World.block_lt_of_cell? w _ hx121_1)).trans hx121_1
                           replace hx121_2 := (HB.out.cell (World.block_lt_of_cell? w _ hx121_2)).trans hx121_2
                           replace hx121_3 := (HB.out.cell (World.block_lt_of_cell? w _ hx121_3)).trans hx121_3
                           have HR121_3 := am hi121_3
                           have HC121_3 := am hl121_3
                           clear hi121_3 hl121_3
                           replace p121 := eq_true p121
                           replace q121 := eq_true q121
                           try go_wp2_with (first | ((with_reducible refine gate_dst (N := 19) rfl ?_); (try (refine gate_guard (by rfl) ?_; dsimp only)); refine box_event ?hg (N := 19) ?hd (cs := #[.int .i64 0, .int .i64 0, .int .i64 0, .slice none 0 0]) (t := 46) ?hr ?_; (case hd => rfl); (case hg => rfl); (case hr => go_simp; try rfl); intro gb122 hg w93 hbox hb; have n0_ := am (below_step (by exact bl_o HB.out) hb); have n1_ := am (hbox); have n2_ := lei (by rw [hg]; exact (below_size (by exact bl_o HB.out)) : w.heap.size ≤ gb122); have n3_ := n2_; clear HB; have HB := n0_; have BK122 := n1_; have GW122 := n2_; have GE122 := n3_; clear n0_ n1_ n2_ n3_; clear hb hbox hg; obtain ⟨hcz94_0, hcz94_1, hcz94_2, hcz94_3, hfz94_0, hfz94_1, hfz94_2, hfz94_3⟩ := cells4 BK122.out))
                           have n0_ : Aside0 (((((w93.setCell ⟨gb122, 0, none⟩ (.int .i64 ((rd_T46 l1 x113_7).f0))).setCell ⟨gb122, 1, none⟩ (.int .i64 ((rd_T46 l1 x113_7).f1))).setCell ⟨gb122, 2, none⟩ (.int .i64 ((rd_T46 l1 x113_7).f2))).setCell ⟨gb122, 3, none⟩ (.slice A121_3 ((rd_T46 l1 x113_7).f3).length c121_3)).heap[gb122]? = some (.cells #[.int .i64 ((rd_T46 l1 x113_7).f0), .int .i64 ((rd_T46 l1 x113_7).f1), .int .i64 ((rd_T46 l1 x113_7).f2), .slice A121_3 ((rd_T46 l1 x113_7).f3).length c121_3] 46 (0, 0))) := ⟨by (with_reducible repeat (first | refine blk_drewN ?_ _ | refine blk_drew ?_ | refine blk_alloc ?_ _)); refine blk_put (cs := #[.int .i64 ((rd_T46 l1 x113_7).f0), .int .i64 ((rd_T46 l1 x113_7).f1), .int .i64 ((rd_T46 l1 x113_7).f2), .slice none 0 0]) ?_ 3 _ rfl; (with_reducible repeat (first | refine blk_drewN ?_ _ | refine blk_drew ?_ | refine blk_alloc ?_ _)); refine blk_put (cs := #[.int .i64 ((rd_T46 l1 x113_7).f0), .int .i64 ((rd_T46 l1 x113_7).f1), .int .i64 0, .slice none 0 0]) ?_ 2 _ rfl; (with_reducible repeat (first | refine blk_drewN ?_ _ | refine blk_drew ?_ | refine blk_alloc ?_ _)); refine blk_put (cs := #[.int .i64 ((rd_T46 l1 x113_7).f0), .int .i64 0, .int .i64 0, .slice none 0 0]) ?_ 1 _ rfl; (with_reducible repeat (first | refine blk_drewN ?_ _ | refine blk_drew ?_ | refine blk_alloc ?_ _)); refine blk_put (cs := #[.int .i64 0, .int .i64 0, .int .i64 0, .slice none 0 0]) ?_ 0 _ rfl; (with_reducible repeat (first | refine blk_drewN ?_ _ | refine blk_drew ?_ | refine blk_alloc ?_ _)); exact BK122.out⟩
                           have n1_ : Aside0 (Below w.heap.size w ((((w93.setCell ⟨gb122, 0, none⟩ (.int .i64 ((rd_T46 l1 x113_7).f0))).setCell ⟨gb122, 1, none⟩ (.int .i64 ((rd_T46 l1 x113_7).f1))).setCell ⟨gb122, 2, none⟩ (.int .i64 ((rd_T46 l1 x113_7).f2))).setCell ⟨gb122, 3, none⟩ (.slice A121_3 ((rd_T46 l1 x113_7).f3).length c121_3))) := ⟨by exact bl_g HB.out⟩
                           (try clear BK122)
                           (try clear HB)
                           generalize ((((w93.setCell ⟨gb122, 0, none⟩ (.int .i64 ((rd_T46 l1 x113_7).f0))).setCell ⟨gb122, 1, none⟩ (.int .i64 ((rd_T46 l1 x113_7).f1))).setCell ⟨gb122, 2, none⟩ (.int .i64 ((rd_T46 l1 x113_7).f2))).setCell ⟨gb122, 3, none⟩ (.slice A121_3 ((rd_T46 l1 x113_7).f3).length c121_3)) = w95 at n0_ n1_ ⊢
                           have BK122 := n0_
                           have HB := n1_
                           clear n0_ n1_
                           have n0_ := am (blk_drew BK122.out)
                           have n1_ := am (below_drew1 HB.out)
                           clear BK122
                           clear HB
                           have BK122 := n0_
                           have HB := n1_
                           clear n0_ n1_
                           have p123 : 0 ≤ (((rd_T46 l1 x113_7).f0) : Int) := of_decide_eq_true (by first | (with_reducible assumption) | assumption)
                           have q123 : ((rd_T46 l1 x113_7).f0) < (l0.length : Int) := of_decide_eq_true (by first | (with_reducible assumption) | assumption)
                           obtain ⟨ad123, A123_1, c123_1, e123, hx123_0, hx123_1, hl123_1, hi123_1⟩ := at_T69 HR0.out ((rd_T46 l1 x113_7).f0) p123 q123
                           have hw123_1 := hx123_1
                           have hw123_0 := hx123_0
                           cases e123
                           replace hx123_0 := (HB.out.cell (World.block_lt_of_cell? w _ hx123_0)).trans hx123_0
                           replace hx123_1 := (HB.out.cell (World.block_lt_of_cell? w _ hx123_1)).trans hx123_1
                           have HR123_1 := am hi123_1
                           have HC123_1 := am hl123_1
                           clear hi123_1 hl123_1
                           replace p123 := eq_true p123
                           replace q123 := eq_true q123
                           refine start_ (n := 12) (S := fun w' => w'.cell? ⟨gb122, 0, none⟩ = some (.int .i64 ((rd_T46 l1 x113_7).f0)) ∧ w'.cell? ⟨gb122, 1, none⟩ = some (.int .i64 ((rd_T46 l1 x113_7).f1)) ∧ w'.cell? ⟨gb122, 2, none⟩ = some (.int .i64 ((rd_T46 l1 x113_7).f2)) ∧ w'.cell? ⟨gb122, 3, none⟩ = some (.slice A121_3 ((rd_T46 l1 x113_7).f3).length c121_3) ∧ w'.cell? (ad123.add ((((rd_T46 l1 x113_7).f0)).toNat * 2)) = some (.int .i64 ((rd_T69 l0 ((rd_T46 l1 x113_7).f0)).f0)) ∧ w'.cell? ⟨(ad123.add ((((rd_T46 l1 x113_7).f0)).toNat * 2)).block, (ad123.add ((((rd_T46 l1 x113_7).f0)).toNat * 2)).off + 1, none⟩ = some (.slice A123_1 ((rd_T69 l0 ((rd_T46 l1 x113_7).f0)).f1).length c123_1)) (ds := []) #[false, false, false, false, false, false, false, false, false, false, false, false] (by kernel_rfl) rfl rfl ⟨(blk_cell BK122.out 0).trans rfl, (blk_cell BK122.out 1).trans rfl, (blk_cell BK122.out 2).trans rfl, (blk_cell BK122.out 3).trans rfl, ((HB.out.cell (World.block_lt_of_cell? w _ hw123_0)).trans hw123_0), ((HB.out.cell (World.block_lt_of_cell? w _ hw123_1)).trans hw123_1)⟩ (fun hHeld => ?_); refine with_tabW ehframe_Check.tab37 ehframe_Check.bits37 (fun HT_ HW_ => ?_)
                           generalize w95.drew = w96 at BK122 HB HR123_1 hx123_0 hx123_1 hHeld ⊢
                           refine pure_ (i := 0) (N := some 117) (v := ?_) (a' := ?_) #[true, false, false, false, false, false, false, false, false, false, false, false] rfl rfl (any_of HT_.out (by kernel_rfl)) (fun _ _ _ h => h) (Or.inl ⟨by rfl, ?_⟩) ?_ ?_
                           rotate_left
                           ·
                            intro w'
                            go_simp
                            with_reducible rfl
                           rotate_left
                           ·
                            simp only [Act.put, List.setIfInBounds_toArray, List.set_cons_zero, List.set_cons_succ, i64_w, i32_w]
                            rfl
                           refine pure_ (i := 1) (N := some 118) (v := ?_) (a' := ?_) #[true, true, false, false, false, false, false, false, false, false, false, false] rfl rfl (any_of HT_.out (by kernel_rfl)) (fun _ _ _ h => h) (Or.inl ⟨by rfl, ?_⟩) ?_ ?_
                           rotate_left
                           ·
                            intro w'
                            go_simp
                            with_reducible rfl
                           rotate_left
                           ·
                            simp only [Act.put, List.setIfInBounds_toArray, List.set_cons_zero, List.set_cons_succ, i64_w, i32_w]
                            rfl
                           refine pure_ (i := 6) (N := some 123) (v := ?_) (a' := ?_) #[true, true, false, false, false, false, true, false, false, false, false, false] rfl rfl (any_of HT_.out (by kernel_rfl)) (fun _ _ _ h => h) (Or.inl ⟨by rfl, ?_⟩) ?_ ?_
                           rotate_left
                           ·
                            intro w'
                            go_simp
                            with_reducible rfl
                           rotate_left
                           ·
                            simp only [Act.put, List.setIfInBounds_toArray, List.set_cons_zero, List.set_cons_succ, i64_w, i32_w]
                            rfl
                           refine pure_ (i := 8) (N := some 125) (v := ?_) (a' := ?_) #[true, true, false, false, false, false, true, false, true, false, false, false] rfl rfl (any_of HT_.out (by kernel_rfl)) (fun _ _ _ h => h) (Or.inl ⟨by rfl, ?_⟩) ?_ ?_
                           rotate_left
                           ·
                            intro w'
                            go_simp
                            with_reducible rfl
                           rotate_left
                           ·
                            simp only [Act.put, List.setIfInBounds_toArray, List.set_cons_zero, List.set_cons_succ, i64_w, i32_w]
                            rfl
                           refine take_ (i := 2) (N := some 119) (v := ?_) (a' := ?_) #[true, true, true, false, false, false, true, false, true, false, false, false] rfl rfl (take_ofW HT_.out HW_.out (by kernel_rfl)) (fun _ _ _ h => h) (Or.inl ⟨by rfl, ?_⟩) hHeld ?_ ?_
                           rotate_left
                           ·
                            rintro w' ⟨s0, s1, s2, s3, s4, s5⟩
                            go_simp
                            with_reducible rfl
                           rotate_left
                           ·
                            simp only [Act.put, List.setIfInBounds_toArray, List.set_cons_zero, List.set_cons_succ, i64_w, i32_w]
                            rfl
                           refine pure_ (i := 3) (N := some 120) (v := ?_) (a' := ?_) #[true, true, true, true, false, false, true, false, true, false, false, false] rfl rfl (any_of HT_.out (by kernel_rfl)) (fun _ _ _ h => h) (Or.inl ⟨by rfl, ?_⟩) ?_ ?_
                           rotate_left
                           ·
                            intro w'
                            go_simp
                            with_reducible rfl
                           rotate_left
                           ·
                            simp only [Act.put, List.setIfInBounds_toArray, List.set_cons_zero, List.set_cons_succ, i64_w, i32_w]
                            rfl
                           refine pure_ (i := 4) (N := some 121) (v := ?_) (a' := ?_) #[true, true, true, true, true, false, true, false, true, false, false, false] rfl rfl (any_of HT_.out (by kernel_rfl)) (fun _ _ _ h => h) (Or.inl ⟨by rfl, ?_⟩) ?_ ?_
                           rotate_left
                           ·
                            intro w'
                            go_simp
                            with_reducible rfl
                           rotate_left
                           ·
                            simp only [Act.put, List.setIfInBounds_toArray, List.set_cons_zero, List.set_cons_succ, i64_w, i32_w]
                            rfl
                           refine take_ (i := 5) (N := some 122) (v := ?_) (a' := ?_) #[true, true, true, true, true, true, true, false, true, false, false, false] rfl rfl (take_ofW HT_.out HW_.out (by kernel_rfl)) (fun _ _ _ h => h) (Or.inl ⟨by rfl, ?_⟩) hHeld ?_ ?_
                           rotate_left
                           ·
                            rintro w' ⟨s0, s1, s2, s3, s4, s5⟩
                            go_simp
                            with_reducible rfl
                           rotate_left
                           ·
                            simp only [Act.put, List.setIfInBounds_toArray, List.set_cons_zero, List.set_cons_succ, i64_w, i32_w]
                            rfl
                           refine take_ (i := 7) (N := some 124) (v := ?_) (a' := ?_) #[true, true, true, true, true, true, true, true, true, false, false, false] rfl rfl (take_ofW HT_.out HW_.out (by kernel_rfl)) (fun _ _ _ h => h) (Or.inl ⟨by rfl, ?_⟩) hHeld ?_ ?_
                           rotate_left
                           ·
                            rintro w' ⟨s0, s1, s2, s3, s4, s5⟩
                            go_simp
                            with_reducible rfl
                           rotate_left
                           ·
                            simp only [Act.put, List.setIfInBounds_toArray, List.set_cons_zero, List.set_cons_succ, i64_w, i32_w]
                            rfl
                           refine take_ (i := 9) (N := some 126) (v := ?_) (a' := ?_) #[true, true, true, true, true, true, true, true, true, true, false, false] rfl rfl (take_ofW HT_.out HW_.out (by kernel_rfl)) (fun _ _ _ h => h) (Or.inl ⟨by rfl, ?_⟩) hHeld ?_ ?_
                           rotate_left
                           ·
                            rintro w' ⟨s0, s1, s2, s3, s4, s5⟩
                            go_simp
                            with_reducible rfl
                           rotate_left
                           ·
                            simp only [Act.put, List.setIfInBounds_toArray, List.set_cons_zero, List.set_cons_succ, i64_w, i32_w]
                            rfl
                           refine one_ (i := 10) (N := some 127) #[true, true, true, true, true, true, true, true, true, true, true, false] rfl rfl (one_of HT_.out (by kernel_rfl)) (by decide) (fun K hK => ?_)
                           refine goes_ Try.func31 (by kernel_rfl) rfl #[.slice A123_1 ((rd_T69 l0 ((rd_T46 l1 x113_7).f0)).f1).length c123_1, .slice A121_3 ((rd_T46 l1 x113_7).f3).length c121_3, .int .i64 ((rd_T46 l1 x113_7).f2)] (by rfl) rfl rfl (by simp only [List.map_toArray, List.map_cons, List.map_nil]; try rfl) ?_
                           with_reducible refine (cfa_Check.calls _ _ ((rd_T69 l0 ((rd_T46 l1 x113_7).f0)).f1) _ _ ((rd_T46 l1 x113_7).f3) ((rd_T46 l1 x113_7).f2) t124 _ ?side1 ?side2 ?side3 ?side4 A91.out).mono ?_
                           (case side1 => exact Kd.C_o (Kd.C_below HR123_1.out HB.out))
                           (case side2 => exact HC123_1.out)
                           (case side3 => exact Kd.C_o (Kd.C_below HR121_3.out HB.out))
                           (case side4 => exact HC121_3.out)
                           rintro e w97 ⟨rfl, hb⟩
                           refine ⟨_, rfl, ?_⟩
                           have n0_ := am (blk_below (blk_o BK122.out) hb)
                           have n1_ := am (below_step (by exact bl_g HB.out) hb)
                           clear BK122
                           clear HB
                           have BK122 := n0_
                           have HB := n1_
                           clear n0_ n1_
                           (try clear hb)
                           (try clear hb2)
                           (try clear hk)
                           (try clear hi)
                           refine hK.out _ _ ⟨(blk_cell BK122.out 0).trans rfl, (blk_cell BK122.out 1).trans rfl, (blk_cell BK122.out 2).trans rfl, (blk_cell BK122.out 3).trans rfl, ((HB.out.cell (World.block_lt_of_cell? w _ hw123_0)).trans hw123_0), ((HB.out.cell (World.block_lt_of_cell? w _ hw123_1)).trans hw123_1)⟩ (fun hHeld => ?_)
                           clear hK K
                           refine norm_ (a' := ?_) ?_ ?_
                           rotate_left
                           ·
                            show Act.put _ (some 127) _ = _
                            simp only [Act.put, List.setIfInBounds_toArray, List.set_cons_zero, List.set_cons_succ, i64_w, i32_w]
                            rfl
                           refine pure_ (i := 11) (N := some 128) (v := ?_) (a' := ?_) #[true, true, true, true, true, true, true, true, true, true, true, true] rfl rfl (any_of HT_.out (by kernel_rfl)) (fun _ _ _ h => h) (Or.inl ⟨by rfl, ?_⟩) ?_ ?_
                           rotate_left
                           ·
                            intro w'
                            go_simp
                            with_reducible rfl
                           rotate_left
                           ·
                            simp only [Act.put, List.setIfInBounds_toArray, List.set_cons_zero, List.set_cons_succ, i64_w, i32_w]
                            rfl
                           refine done_ (done_of HT_.out (by kernel_rfl)) ?_
                           try go_wp2
                           go_roundg k7
                           case measure => have := HJ2.out; have := HK2.out; have := HK3.out; have := HK4.out; have := HK5.out; have := HK6.out; have := HK7.out; omega
                           case rel => exact ⟨(wrap64 (x113_7 + 1)), (by first | rfl | (simp; done) | (simp [*]; done)), H', ⟨by have := HJ2.out; have := HK2.out; have := HK3.out; have := HK4.out; have := HK5.out; have := HK6.out; have := HK7.out; omega⟩, ⟨by exact bl_g HB.out⟩⟩
                          ·
                           rw [if_neg c92] at H
                           have c92b0 : (t124 == 0) = false := beq_eq_false_iff_ne.mpr c92
                           have c92b1 : (t124 != 0) = true := bne_iff_ne.mpr c92
                           obtain rfl := Option.some.inj H
                           have p121 : 0 ≤ (x113_7 : Int) := of_decide_eq_true (by first | (with_reducible assumption) | assumption)
                           have q121 : x113_7 < (l1.length : Int) := of_decide_eq_true (by first | (with_reducible assumption) | assumption)
                           obtain ⟨ad121, A121_3, c121_3, e121, hx121_0, hx121_1, hx121_2, hx121_3, hl121_3, hi121_3⟩ := at_T46 HR1.out x113_7 p121 q121
                           cases e121
                           replace hx121_0 := (HB.out.cell (World.block_lt_of_cell? w _ hx121_0)).trans hx121_0
                           replace hx121_1 := (HB.out.cell (World.block_lt_of_cell? w _ hx121_1)).trans hx121_1
                           replace hx121_2 := (HB.out.cell (World.block_lt_of_cell? w _ hx121_2)).trans hx121_2
                           replace hx121_3 := (HB.out.cell (World.block_lt_of_cell? w _ hx121_3)).trans hx121_3
                           have HR121_3 := am hi121_3
                           have HC121_3 := am hl121_3
                           clear hi121_3 hl121_3
                           replace p121 := eq_true p121
                           replace q121 := eq_true q121
                           try go_wp2_with (first | ((with_reducible refine gate_dst (N := 19) rfl ?_); (try (refine gate_guard (by rfl) ?_; dsimp only)); refine box_event ?hg (N := 19) ?hd (cs := #[.int .i64 0, .int .i64 0, .int .i64 0, .slice none 0 0]) (t := 46) ?hr ?_; (case hd => rfl); (case hg => rfl); (case hr => go_simp; try rfl); intro gb122 hg w98 hbox hb; have n0_ := am (below_step (by exact bl_o HB.out) hb); have n1_ := am (hbox); have n2_ := lei (by rw [hg]; exact (below_size (by exact bl_o HB.out)) : w.heap.size ≤ gb122); have n3_ := n2_; clear HB; have HB := n0_; have BK122 := n1_; have GW122 := n2_; have GE122 := n3_; clear n0_ n1_ n2_ n3_; clear hb hbox hg; obtain ⟨hcz99_0, hcz99_1, hcz99_2, hcz99_3, hfz99_0, hfz99_1, hfz99_2, hfz99_3⟩ := cells4 BK122.out))
                           have n0_ : Aside0 (((((w98.setCell ⟨gb122, 0, none⟩ (.int .i64 ((rd_T46 l1 x113_7).f0))).setCell ⟨gb122, 1, none⟩ (.int .i64 ((rd_T46 l1 x113_7).f1))).setCell ⟨gb122, 2, none⟩ (.int .i64 ((rd_T46 l1 x113_7).f2))).setCell ⟨gb122, 3, none⟩ (.slice A121_3 ((rd_T46 l1 x113_7).f3).length c121_3)).heap[gb122]? = some (.cells #[.int .i64 ((rd_T46 l1 x113_7).f0), .int .i64 ((rd_T46 l1 x113_7).f1), .int .i64 ((rd_T46 l1 x113_7).f2), .slice A121_3 ((rd_T46 l1 x113_7).f3).length c121_3] 46 (0, 0))) := ⟨by (with_reducible repeat (first | refine blk_drewN ?_ _ | refine blk_drew ?_ | refine blk_alloc ?_ _)); refine blk_put (cs := #[.int .i64 ((rd_T46 l1 x113_7).f0), .int .i64 ((rd_T46 l1 x113_7).f1), .int .i64 ((rd_T46 l1 x113_7).f2), .slice none 0 0]) ?_ 3 _ rfl; (with_reducible repeat (first | refine blk_drewN ?_ _ | refine blk_drew ?_ | refine blk_alloc ?_ _)); refine blk_put (cs := #[.int .i64 ((rd_T46 l1 x113_7).f0), .int .i64 ((rd_T46 l1 x113_7).f1), .int .i64 0, .slice none 0 0]) ?_ 2 _ rfl; (with_reducible repeat (first | refine blk_drewN ?_ _ | refine blk_drew ?_ | refine blk_alloc ?_ _)); refine blk_put (cs := #[.int .i64 ((rd_T46 l1 x113_7).f0), .int .i64 0, .int .i64 0, .slice none 0 0]) ?_ 1 _ rfl; (with_reducible repeat (first | refine blk_drewN ?_ _ | refine blk_drew ?_ | refine blk_alloc ?_ _)); refine blk_put (cs := #[.int .i64 0, .int .i64 0, .int .i64 0, .slice none 0 0]) ?_ 0 _ rfl; (with_reducible repeat (first | refine blk_drewN ?_ _ | refine blk_drew ?_ | refine blk_alloc ?_ _)); exact BK122.out⟩
                           have n1_ : Aside0 (Below w.heap.size w ((((w98.setCell ⟨gb122, 0, none⟩ (.int .i64 ((rd_T46 l1 x113_7).f0))).setCell ⟨gb122, 1, none⟩ (.int .i64 ((rd_T46 l1 x113_7).f1))).setCell ⟨gb122, 2, none⟩ (.int .i64 ((rd_T46 l1 x113_7).f2))).setCell ⟨gb122, 3, none⟩ (.slice A121_3 ((rd_T46 l1 x113_7).f3).length c121_3))) := ⟨by exact bl_g HB.out⟩
                           (try clear BK122)
                           (try clear HB)
                           generalize ((((w98.setCell ⟨gb122, 0, none⟩ (.int .i64 ((rd_T46 l1 x113_7).f0))).setCell ⟨gb122, 1, none⟩ (.int .i64 ((rd_T46 l1 x113_7).f1))).setCell ⟨gb122, 2, none⟩ (.int .i64 ((rd_T46 l1 x113_7).f2))).setCell ⟨gb122, 3, none⟩ (.slice A121_3 ((rd_T46 l1 x113_7).f3).length c121_3)) = w100 at n0_ n1_ ⊢
                           have BK122 := n0_
                           have HB := n1_
                           clear n0_ n1_
                           have n0_ := am (blk_drew BK122.out)
                           have n1_ := am (below_drew1 HB.out)
                           clear BK122
                           clear HB
                           have BK122 := n0_
                           have HB := n1_
                           clear n0_ n1_
                           have p123 : 0 ≤ (((rd_T46 l1 x113_7).f0) : Int) := of_decide_eq_true (by first | (with_reducible assumption) | assumption)
                           have q123 : ((rd_T46 l1 x113_7).f0) < (l0.length : Int) := of_decide_eq_true (by first | (with_reducible assumption) | assumption)
                           obtain ⟨ad123, A123_1, c123_1, e123, hx123_0, hx123_1, hl123_1, hi123_1⟩ := at_T69 HR0.out ((rd_T46 l1 x113_7).f0) p123 q123
                           have hw123_1 := hx123_1
                           have hw123_0 := hx123_0
                           cases e123
                           replace hx123_0 := (HB.out.cell (World.block_lt_of_cell? w _ hx123_0)).trans hx123_0
                           replace hx123_1 := (HB.out.cell (World.block_lt_of_cell? w _ hx123_1)).trans hx123_1
                           have HR123_1 := am hi123_1
                           have HC123_1 := am hl123_1
                           clear hi123_1 hl123_1
                           replace p123 := eq_true p123
                           replace q123 := eq_true q123
                           refine start_ (n := 12) (S := fun w' => w'.cell? ⟨gb122, 0, none⟩ = some (.int .i64 ((rd_T46 l1 x113_7).f0)) ∧ w'.cell? ⟨gb122, 1, none⟩ = some (.int .i64 ((rd_T46 l1 x113_7).f1)) ∧ w'.cell? ⟨gb122, 2, none⟩ = some (.int .i64 ((rd_T46 l1 x113_7).f2)) ∧ w'.cell? ⟨gb122, 3, none⟩ = some (.slice A121_3 ((rd_T46 l1 x113_7).f3).length c121_3) ∧ w'.cell? (ad123.add ((((rd_T46 l1 x113_7).f0)).toNat * 2)) = some (.int .i64 ((rd_T69 l0 ((rd_T46 l1 x113_7).f0)).f0)) ∧ w'.cell? ⟨(ad123.add ((((rd_T46 l1 x113_7).f0)).toNat * 2)).block, (ad123.add ((((rd_T46 l1 x113_7).f0)).toNat * 2)).off + 1, none⟩ = some (.slice A123_1 ((rd_T69 l0 ((rd_T46 l1 x113_7).f0)).f1).length c123_1)) (ds := []) #[false, false, false, false, false, false, false, false, false, false, false, false] (by kernel_rfl) rfl rfl ⟨(blk_cell BK122.out 0).trans rfl, (blk_cell BK122.out 1).trans rfl, (blk_cell BK122.out 2).trans rfl, (blk_cell BK122.out 3).trans rfl, ((HB.out.cell (World.block_lt_of_cell? w _ hw123_0)).trans hw123_0), ((HB.out.cell (World.block_lt_of_cell? w _ hw123_1)).trans hw123_1)⟩ (fun hHeld => ?_); refine with_tabW ehframe_Check.tab37 ehframe_Check.bits37 (fun HT_ HW_ => ?_)
                           generalize w100.drew = w101 at BK122 HB HR123_1 hx123_0 hx123_1 hHeld ⊢
                           refine pure_ (i := 0) (N := some 117) (v := ?_) (a' := ?_) #[true, false, false, false, false, false, false, false, false, false, false, false] rfl rfl (any_of HT_.out (by kernel_rfl)) (fun _ _ _ h => h) (Or.inl ⟨by rfl, ?_⟩) ?_ ?_
                           rotate_left
                           ·
                            intro w'
                            go_simp
                            with_reducible rfl
                           rotate_left
                           ·
                            simp only [Act.put, List.setIfInBounds_toArray, List.set_cons_zero, List.set_cons_succ, i64_w, i32_w]
                            rfl
                           refine pure_ (i := 1) (N := some 118) (v := ?_) (a' := ?_) #[true, true, false, false, false, false, false, false, false, false, false, false] rfl rfl (any_of HT_.out (by kernel_rfl)) (fun _ _ _ h => h) (Or.inl ⟨by rfl, ?_⟩) ?_ ?_
                           rotate_left
                           ·
                            intro w'
                            go_simp
                            with_reducible rfl
                           rotate_left
                           ·
                            simp only [Act.put, List.setIfInBounds_toArray, List.set_cons_zero, List.set_cons_succ, i64_w, i32_w]
                            rfl
                           refine pure_ (i := 6) (N := some 123) (v := ?_) (a' := ?_) #[true, true, false, false, false, false, true, false, false, false, false, false] rfl rfl (any_of HT_.out (by kernel_rfl)) (fun _ _ _ h => h) (Or.inl ⟨by rfl, ?_⟩) ?_ ?_
                           rotate_left
                           ·
                            intro w'
                            go_simp
                            with_reducible rfl
                           rotate_left
                           ·
                            simp only [Act.put, List.setIfInBounds_toArray, List.set_cons_zero, List.set_cons_succ, i64_w, i32_w]
                            rfl
                           refine pure_ (i := 8) (N := some 125) (v := ?_) (a' := ?_) #[true, true, false, false, false, false, true, false, true, false, false, false] rfl rfl (any_of HT_.out (by kernel_rfl)) (fun _ _ _ h => h) (Or.inl ⟨by rfl, ?_⟩) ?_ ?_
                           rotate_left
                           ·
                            intro w'
                            go_simp
                            with_reducible rfl
                           rotate_left
                           ·
                            simp only [Act.put, List.setIfInBounds_toArray, List.set_cons_zero, List.set_cons_succ, i64_w, i32_w]
                            rfl
                           refine take_ (i := 2) (N := some 119) (v := ?_) (a' := ?_) #[true, true, true, false, false, false, true, false, true, false, false, false] rfl rfl (take_ofW HT_.out HW_.out (by kernel_rfl)) (fun _ _ _ h => h) (Or.inl ⟨by rfl, ?_⟩) hHeld ?_ ?_
                           rotate_left
                           ·
                            rintro w' ⟨s0, s1, s2, s3, s4, s5⟩
                            go_simp
                            with_reducible rfl
                           rotate_left
                           ·
                            simp only [Act.put, List.setIfInBounds_toArray, List.set_cons_zero, List.set_cons_succ, i64_w, i32_w]
                            rfl
                           refine pure_ (i := 3) (N := some 120) (v := ?_) (a' := ?_) #[true, true, true, true, false, false, true, false, true, false, false, false] rfl rfl (any_of HT_.out (by kernel_rfl)) (fun _ _ _ h => h) (Or.inl ⟨by rfl, ?_⟩) ?_ ?_
                           rotate_left
                           ·
                            intro w'
                            go_simp
                            with_reducible rfl
                           rotate_left
                           ·
                            simp only [Act.put, List.setIfInBounds_toArray, List.set_cons_zero, List.set_cons_succ, i64_w, i32_w]
                            rfl
                           refine pure_ (i := 4) (N := some 121) (v := ?_) (a' := ?_) #[true, true, true, true, true, false, true, false, true, false, false, false] rfl rfl (any_of HT_.out (by kernel_rfl)) (fun _ _ _ h => h) (Or.inl ⟨by rfl, ?_⟩) ?_ ?_
                           rotate_left
                           ·
                            intro w'
                            go_simp
                            with_reducible rfl
                           rotate_left
                           ·
                            simp only [Act.put, List.setIfInBounds_toArray, List.set_cons_zero, List.set_cons_succ, i64_w, i32_w]
                            rfl
                           refine take_ (i := 5) (N := some 122) (v := ?_) (a' := ?_) #[true, true, true, true, true, true, true, false, true, false, false, false] rfl rfl (take_ofW HT_.out HW_.out (by kernel_rfl)) (fun _ _ _ h => h) (Or.inl ⟨by rfl, ?_⟩) hHeld ?_ ?_
                           rotate_left
                           ·
                            rintro w' ⟨s0, s1, s2, s3, s4, s5⟩
                            go_simp
                            with_reducible rfl
                           rotate_left
                           ·
                            simp only [Act.put, List.setIfInBounds_toArray, List.set_cons_zero, List.set_cons_succ, i64_w, i32_w]
                            rfl
                           refine take_ (i := 7) (N := some 124) (v := ?_) (a' := ?_) #[true, true, true, true, true, true, true, true, true, false, false, false] rfl rfl (take_ofW HT_.out HW_.out (by kernel_rfl)) (fun _ _ _ h => h) (Or.inl ⟨by rfl, ?_⟩) hHeld ?_ ?_
                           rotate_left
                           ·
                            rintro w' ⟨s0, s1, s2, s3, s4, s5⟩
                            go_simp
                            with_reducible rfl
                           rotate_left
                           ·
                            simp only [Act.put, List.setIfInBounds_toArray, List.set_cons_zero, List.set_cons_succ, i64_w, i32_w]
                            rfl
                           refine take_ (i := 9) (N := some 126) (v := ?_) (a' := ?_) #[true, true, true, true, true, true, true, true, true, true, false, false] rfl rfl (take_ofW HT_.out HW_.out (by kernel_rfl)) (fun _ _ _ h => h) (Or.inl ⟨by rfl, ?_⟩) hHeld ?_ ?_
                           rotate_left
                           ·
                            rintro w' ⟨s0, s1, s2, s3, s4, s5⟩
                            go_simp
                            with_reducible rfl
                           rotate_left
                           ·
                            simp only [Act.put, List.setIfInBounds_toArray, List.set_cons_zero, List.set_cons_succ, i64_w, i32_w]
                            rfl
                           refine one_ (i := 10) (N := some 127) #[true, true, true, true, true, true, true, true, true, true, true, false] rfl rfl (one_of HT_.out (by kernel_rfl)) (by decide) (fun K hK => ?_)
                           refine goes_ Try.func31 (by kernel_rfl) rfl #[.slice A123_1 ((rd_T69 l0 ((rd_T46 l1 x113_7).f0)).f1).length c123_1, .slice A121_3 ((rd_T46 l1 x113_7).f3).length c121_3, .int .i64 ((rd_T46 l1 x113_7).f2)] (by rfl) rfl rfl (by simp only [List.map_toArray, List.map_cons, List.map_nil]; try rfl) ?_
                           with_reducible refine (cfa_Check.calls _ _ ((rd_T69 l0 ((rd_T46 l1 x113_7).f0)).f1) _ _ ((rd_T46 l1 x113_7).f3) ((rd_T46 l1 x113_7).f2) t124 _ ?side1 ?side2 ?side3 ?side4 A91.out).mono ?_
                           (case side1 => exact Kd.C_o (Kd.C_below HR123_1.out HB.out))
                           (case side2 => exact HC123_1.out)
                           (case side3 => exact Kd.C_o (Kd.C_below HR121_3.out HB.out))
                           (case side4 => exact HC121_3.out)
                           rintro e w102 ⟨rfl, hb⟩
                           refine ⟨_, rfl, ?_⟩
                           have n0_ := am (blk_below (blk_o BK122.out) hb)
                           have n1_ := am (below_step (by exact bl_g HB.out) hb)
                           clear BK122
                           clear HB
                           have BK122 := n0_
                           have HB := n1_
                           clear n0_ n1_
                           (try clear hb)
                           (try clear hb2)
                           (try clear hk)
                           (try clear hi)
                           refine hK.out _ _ ⟨(blk_cell BK122.out 0).trans rfl, (blk_cell BK122.out 1).trans rfl, (blk_cell BK122.out 2).trans rfl, (blk_cell BK122.out 3).trans rfl, ((HB.out.cell (World.block_lt_of_cell? w _ hw123_0)).trans hw123_0), ((HB.out.cell (World.block_lt_of_cell? w _ hw123_1)).trans hw123_1)⟩ (fun hHeld => ?_)
                           clear hK K
                           refine norm_ (a' := ?_) ?_ ?_
                           rotate_left
                           ·
                            show Act.put _ (some 127) _ = _
                            simp only [Act.put, List.setIfInBounds_toArray, List.set_cons_zero, List.set_cons_succ, i64_w, i32_w]
                            rfl
                           refine pure_ (i := 11) (N := some 128) (v := ?_) (a' := ?_) #[true, true, true, true, true, true, true, true, true, true, true, true] rfl rfl (any_of HT_.out (by kernel_rfl)) (fun _ _ _ h => h) (Or.inl ⟨by rfl, ?_⟩) ?_ ?_
                           rotate_left
                           ·
                            intro w'
                            go_simp
                            with_reducible rfl
                           rotate_left
                           ·
                            simp only [Act.put, List.setIfInBounds_toArray, List.set_cons_zero, List.set_cons_succ, i64_w, i32_w]
                            rfl
                           refine done_ (done_of HT_.out (by kernel_rfl)) ?_
                           try go_wp2
                           go_ret
                           exact ⟨rfl, by exact bl_g HB.out⟩
                         ·
                          rw [if_neg c90] at H
                          exact absurd H (by simp)
                        ·
                         rw [if_neg c89] at H
                         exact absurd H (by simp)
                       ·
                        rw [if_neg c88] at H
                        exact absurd H (by simp)
                      ·
                       rw [if_neg c87] at H
                       exact absurd H (by simp)
                     ·
                      rw [if_neg c86] at H
                      have c86b0 : decide (x113_7 < (l1.length : Int)) = false := decide_eq_false c86
                      clear c86
                      obtain rfl := Option.some.inj H
                      go_wp2
                      go_ret
                      exact ⟨rfl, by exact bl_g HB.out⟩
end Go.Proofs.Ytfgfnflhdabmcaa.G
end
section
namespace Go.Proofs.Ytfgfnflhdabmcaa.G
open Go.RowKit Go.Proofs.YtfgfnflhdabmcaaW.PrintWords Go.Proofs.YtfgfnflhdabmcaaW.PrintLast Go.Proofs.YtfgfnflhdabmcaaW.PrintMore
attribute [local go_sem] max2_int min2_int max_two min_two max_three min_three max_four min_four   -- for this text's walks alone
set_option linter.unusedVariables false
set_option linter.unusedSimpArgs false
def cfa_put.l0 : Nat → List Int → List (List Int) → Int → Int → Option (List Int)
 | 0, _, _, _, _ => none
 | k + 1, x0, x7, x8, x9 => if x9 < x8 then (if 0 ≤ x9 then (if x9 < (x7.length : Int) then (if x0.length + (rd_L12 x7 x9).length < 140737488355328 then (cfa_put.l0 k (x0 ++ (rd_L12 x7 x9)) x7 x8 (wrap64 (x9 + 1))) else (none)) else (none)) else (none)) else (some x0)
def cfa_put.f (k : Nat) (l0 : List Int) (l1 : List (List Int)) : Option (List Int) := cfa_put.l0 k l0 l1 (l1.length : Int) 0
theorem cfa_put.mono_l : ∀ k, (∀ y0 y1 y2 y3, LeO (cfa_put.l0 k y0 y1 y2 y3) (cfa_put.l0 (k + 1) y0 y1 y2 y3))
 | 0 => fun _ _ _ _ r h => by simp [cfa_put.l0] at h
 | k + 1 => by
  have ih0 := cfa_put.mono_l k
  ·
   intro y0 y1 y2 y3
   unfold cfa_put.l0
   repeat' first
   | (with_reducible exact ih0 _ _ _ _)
   | (with_reducible exact LeO.refl _)
   | (with_reducible exact LeO.none _)
   | (with_reducible refine LeO.ite ?_ ?_)
   | (with_reducible refine LeO.bind ?_ (fun _ => ?_))
   | exact ih0 _ _ _ _
   | exact LeO.none _
   | refine LeO.ite ?_ ?_
   | refine LeO.bind ?_ (fun _ => ?_)
theorem cfa_put.mono : ∀ a0 a1 k, LeO (cfa_put.f k a0 a1) (cfa_put.f (k + 1) a0 a1) := by
 intro a0 a1 k
 have ih0 := cfa_put.mono_l k
 unfold cfa_put.f
 repeat' first
   | (with_reducible exact ih0 _ _ _ _)
   | (with_reducible exact LeO.refl _)
   | (with_reducible exact LeO.none _)
   | (with_reducible refine LeO.ite ?_ ?_)
   | (with_reducible refine LeO.bind ?_ (fun _ => ?_))
   | exact ih0 _ _ _ _
   | exact LeO.none _
   | refine LeO.ite ?_ ?_
   | refine LeO.bind ?_ (fun _ => ?_)
set_option maxHeartbeats 8000000 in
set_option maxRecDepth 100000 in
theorem cfa_put.calls (k : Nat) (P0_ : Nat → Prop) (u9000_ : Value) (l0 : List Int) (A1 : Option Addr) (c1 : Nat) (l1 : List (List Int)) (r : List Int) (w0 w : World) (hB : Below w0.heap.size w0 w) (ho0 : Kd.R (Kd.int .u8) 5 w w0.heap.size P0_ u9000_ l0) (hr1 : ∀ W_, Kept w W_ (fun k_ => P0_ k_) → Kd.C (Kd.slice 5 (Kd.int .u8)) W_ A1 l1.length l1) (hc1 : l1.length ≤ c1) (h : cfa_put.f k l0 l1 = some r) :
  Calls Try.prog 79 #[u9000_, .slice A1 l1.length c1] w fun e w' => ∃ v0_ : Value, e = .returned (v0_) ∧ Kd.R (Kd.int .u8) 5 w' w0.heap.size (fun k_ => (P0_ k_ ∨ w.heap.size ≤ k_)) v0_ r ∧ Below w0.heap.size w0 w' ∧ Kept w w' (fun k_ => P0_ k_) := by
 have HO0 := am (show Kd.R (Kd.int .u8) 5 w w0.heap.size (fun k_ => (P0_ k_ ∨ w.heap.size ≤ k_)) u9000_ l0 from Kd.R_mono ho0 (fun k_ hk => (.inl hk)))
 have HR1 := am hr1
 have HC1 := am hc1
 clear hr1 hc1
 have HK := am (Kept.refl w (fun k_ => P0_ k_))
 have HW0 := am hB.size
 have HB := am hB
 clear hB
 have H : (cfa_put.l0 k l0 l1 (l1.length : Int) 0) = some r := h
 clear h
 have H' := am H
 clear H
 go_enter Try.func79, Try.ntmps79
 go_wp2
 go_loopg [0, 9] k (fun kq v0 v9 w' => ∃ (x0_1 : List Int) (x9_1 : Int), v9 = .int .i64 x9_1 ∧ Aside0 (cfa_put.l0 kq x0_1 l1 (l1.length : Int) x9_1 = some r) ∧ Aside0 (kq ≤ k) ∧ Aside0 (Kd.R (Kd.int .u8) 5 w' w0.heap.size (fun k_ => (P0_ k_ ∨ w.heap.size ≤ k_)) v0 x0_1) ∧ Aside0 (Kept w w' (fun k_ => P0_ k_)) ∧ Aside0 (Below w0.heap.size w0 w'))
 case atStart => exact ⟨(l0), (0), (by first | rfl | (simp; done) | (simp [*]; done)), H', ⟨Nat.le_refl _⟩, ⟨by (with_reducible repeat (first | apply Kd.R_alloc | apply Kd.R_drewN | apply Kd.R_drew)); exact HO0.out⟩, ⟨by repeat (first | (with_reducible first | exact HK.out | apply Kept.alloc | apply Kept.drewN | apply Kept.drew) | exact HK.out)⟩, ⟨by exact bl_g HB.out⟩⟩
 case round =>
  clear H'
  try clear c1
  try clear p2
  obtain ⟨x0_1, x9_1, rfl, HA, HK1, HO_0, HK, HB⟩ := hrel
  cases gk with
  | zero => exact absurd HA.out (by simp [cfa_put.l0])
  | succ k1 =>
   have H := HA.out
   clear HA
   simp only [cfa_put.l0] at H
   by_cases c3 : x9_1 < (l1.length : Int)
   ·
    rw [if_pos c3] at H
    have c3b0 : decide (x9_1 < (l1.length : Int)) = true := decide_eq_true c3
    clear c3
    by_cases c4 : 0 ≤ x9_1
    ·
     rw [if_pos c4] at H
     have c4b0 : decide (0 ≤ x9_1) = true := decide_eq_true c4
     clear c4
     by_cases c5 : x9_1 < (l1.length : Int)
     ·
      rw [if_pos c5] at H
      have c5b0 : decide (x9_1 < (l1.length : Int)) = true := decide_eq_true c5
      clear c5
      by_cases c6 : x0_1.length + (rd_L12 l1 x9_1).length < 140737488355328
      ·
       rw [if_pos c6] at H
       have LMc6 := am c6
       clear c6
       obtain ⟨y102, hy102⟩ : ∃ y_ : List Int, y_ = (x0_1 ++ (rd_L12 l1 x9_1)) := ⟨_, rfl⟩
       replace H : (cfa_put.l0 k1 y102 l1 (l1.length : Int) (wrap64 (x9_1 + 1))) = some r := by first | (rw [hy102]; with_reducible exact H) | (have H2_ := (Option.bind_some _ _).symm.trans H; rw [hy102]; with_reducible exact H2_)
       have Ny102 := am hy102
       clear hy102
       have H' := am H
       clear H
       have p101 : 0 ≤ (x9_1 : Int) := of_decide_eq_true (by first | (with_reducible assumption) | assumption)
       have q101 : x9_1 < (l1.length : Int) := of_decide_eq_true (by first | (with_reducible assumption) | assumption)
       obtain ⟨ad101, A101_0, c101_0, e101, hx101_0, hl101_0, hi101_0⟩ := at_L12 (Kd.C_kept_now HR1.out HK.out) x9_1 p101 q101
       cases e101
       have HR101_0 := am hi101_0
       have HC101_0 := am hl101_0
       clear hi101_0 hl101_0
       replace p101 := eq_true p101
       replace q101 := eq_true q101
       go_wp2_with (first | ((with_reducible refine gate_builtin (b := .append) (xs := #[.tmp 13, .tmp 14]) rfl ?_); at_builtin; refine Kd.R_append_rows (Kd.int .u8) (w0 := w0) w0.heap.size rfl (.tmp 13) (.tmp 14) 28 5 (.int .u8 0) 1 rfl Try.underlying28 info5 rfl (by decide) (by omega) u0 x0_1 (rd_L12 l1 x9_1) _ _ _ (fun k_ => (P0_ k_ ∨ w.heap.size ≤ k_)) (fun _ => False) rfl rfl ?aO ?aR (fun _ _ h => h) (fun _ h => h.elim) ?aF ?aB ?aS ?aL ?_; (case aR => repeat (first | exact (by repeat (first | (with_reducible exact HR101_0.out) | (with_reducible refine Kd.C_alloc ?_ _) | (with_reducible refine Kd.C_drewN ?_ _) | (with_reducible refine Kd.C_drew ?_) | exact HR101_0.out)) | (with_reducible refine Kd.C_alloc ?_ _) | (with_reducible refine Kd.C_drewN ?_ _) | (with_reducible refine Kd.C_drew ?_))); (case aB => exact (by exact bl_o HB.out)); (case aF => exact (fun k_ hk => (.inr (Nat.le_trans (by first | exact HK.out.1 | exact (show Kept w _ (fun k_ => P0_ k_) from by repeat (first | (with_reducible first | exact HK.out | apply Kept.alloc | apply Kept.drewN | apply Kept.drew) | exact HK.out)).1) hk)))); (case aO => exact (Kd.R_o HO_0.out)); (case aS => exact (below_size (by exact bl_o HB.out))); (case aL => have := LMc6.out; omega); intro v103 w7 ho hb hg hat; rw [← Ny102.out] at ho; have n0_ := am (hb); have n1_ := am (Kept.of_grown (S := (fun k_ => P0_ k_)) hg (by repeat (first | (with_reducible first | exact HK.out | apply Kept.alloc | apply Kept.drewN | apply Kept.drew) | exact HK.out)) (fun k_ e_ => (HO_0.out.1 k_ e_))); have n2_ := am (ho); clear HB; clear HK; clear HO_0; have HB := n0_; have HK := n1_; have HO104 := n2_; clear n0_ n1_ n2_; clear ho hb hg hat))
       go_roundg k1
       case measure => have := HK1.out; omega
       case rel => exact ⟨(y102), (wrap64 (x9_1 + 1)), (by first | rfl | (simp; done) | (simp [*]; done)), H', ⟨by have := HK1.out; omega⟩, ⟨by (with_reducible repeat (first | apply Kd.R_alloc | apply Kd.R_drewN | apply Kd.R_drew)); exact HO104.out⟩, ⟨by repeat (first | (with_reducible first | exact HK.out | apply Kept.alloc | apply Kept.drewN | apply Kept.drew) | exact HK.out)⟩, ⟨by exact bl_g HB.out⟩⟩
      ·
       rw [if_neg c6] at H
       exact absurd H (by simp)
     ·
      rw [if_neg c5] at H
      exact absurd H (by simp)
    ·
     rw [if_neg c4] at H
     exact absurd H (by simp)
   ·
    rw [if_neg c3] at H
    have c3b0 : decide (x9_1 < (l1.length : Int)) = false := decide_eq_false c3
    clear c3
    obtain rfl := Option.some.inj H
    go_wp2
    go_ret
    exact ⟨_, rfl, by (with_reducible repeat (first | apply Kd.R_alloc | apply Kd.R_drewN | apply Kd.R_drew)); exact HO_0.out, by exact bl_g HB.out, by repeat (first | (with_reducible first | exact HK.out | apply Kept.alloc | apply Kept.drewN | apply Kept.drew) | exact HK.out)⟩
end Go.Proofs.Ytfgfnflhdabmcaa.G
end
