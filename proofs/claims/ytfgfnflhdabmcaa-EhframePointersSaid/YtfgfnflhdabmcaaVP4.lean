/- Lemmas and contracts, one text behind the other: what the row of this claim needs; no conditions beyond those that each theorem names. -/
import Derived.Test.YtfgfnflhdabmcaaVP3
section
namespace Go.Proofs.Ytfgfnflhdabmcaa.G
open Go.RowKit Go.Proofs.YtfgfnflhdabmcaaW.PrintWords Go.Proofs.YtfgfnflhdabmcaaW.PrintLast Go.Proofs.YtfgfnflhdabmcaaW.PrintMore
attribute [local go_sem] max2_int min2_int max_two min_two max_three min_three max_four min_four   -- for this text's walks alone
set_option linter.unusedVariables false
set_option linter.unusedSimpArgs false
def cfa_Op_bytes.f (k : Nat) (a0_0 : Int) (a0_1 : Int) (a0_2 : Int) : Option (List Int) := if a0_0 = 1 then (if a0_2 < 64 then (some (([(64 + (a0_2)) % 256] : List Int))) else (if a0_2 < 256 then (some (([2, (a0_2) % 256] : List Int))) else (if a0_2 < 65536 then (some (([3, (a0_2) % 256, (a0_2 / 256) % 256] : List Int))) else (some (([4, (a0_2) % 256, (a0_2 / 256) % 256, (a0_2 / 65536) % 256, (a0_2 / 16777216) % 256] : List Int)))))) else (if a0_0 = 2 then ((leb_Uleb.f k a0_1).bind fun t117 => ((leb_Uleb.f k a0_2).bind fun t120 => ((cfa_put.f k (([12] : List Int)) (([t117, t120] : List (List Int)))).bind fun t126 => (some t126)))) else (if a0_0 = 4 then ((leb_Uleb.f k a0_1).bind fun t132 => ((cfa_put.f k (([13] : List Int)) (([t132] : List (List Int)))).bind fun t138 => (some t138))) else (if a0_0 = 3 then ((leb_Uleb.f k a0_2).bind fun t144 => ((cfa_put.f k (([14] : List Int)) (([t144] : List (List Int)))).bind fun t150 => (some t150))) else (if a0_0 = 5 then (if a0_2 ≤ 0 then ((leb_Uleb.f k (wrap64 (Int.tdiv (wrap64 (-a0_2)) 8))).bind fun t156 => ((cfa_put.f k (([(128 + (a0_1)) % 256] : List Int)) (([t156] : List (List Int)))).bind fun t162 => (some t162))) else ((leb_Uleb.f k a0_1).bind fun t168 => ((leb_Sleb.f k (wrap64 (Int.tdiv (wrap64 (-a0_2)) 8))).bind fun t171 => ((cfa_put.f k (([17] : List Int)) (([t168, t171] : List (List Int)))).bind fun t177 => (some t177))))) else (if a0_0 = 6 then (some (([(192 + (a0_1)) % 256] : List Int))) else (if a0_0 = 7 then ((leb_Uleb.f k a0_1).bind fun t186 => ((cfa_put.f k (([7] : List Int)) (([t186] : List (List Int)))).bind fun t192 => (some t192))) else (if a0_0 = 8 then ((leb_Uleb.f k a0_1).bind fun t198 => ((cfa_put.f k (([8] : List Int)) (([t198] : List (List Int)))).bind fun t204 => (some t204))) else (if a0_0 = 9 then (some (([10] : List Int))) else (if a0_0 = 10 then (some (([11] : List Int))) else (some (([0] : List Int))))))))))))
theorem cfa_Op_bytes.mono : ∀ a0 a1 a2 k, LeO (cfa_Op_bytes.f k a0 a1 a2) (cfa_Op_bytes.f (k + 1) a0 a1 a2) := by
 intro a0 a1 a2 k
 unfold cfa_Op_bytes.f
 repeat' first
   | (with_reducible exact cfa_put.mono _ _ _)
   | (with_reducible exact leb_Sleb.mono _ _)
   | (with_reducible exact leb_Uleb.mono _ _)
   | (with_reducible exact LeO.refl _)
   | (with_reducible exact LeO.none _)
   | (with_reducible refine LeO.ite ?_ ?_)
   | (with_reducible refine LeO.bind ?_ (fun _ => ?_))
   | exact cfa_put.mono _ _ _
   | exact leb_Sleb.mono _ _
   | exact leb_Uleb.mono _ _
   | exact LeO.none _
   | refine LeO.ite ?_ ?_
   | refine LeO.bind ?_ (fun _ => ?_)
def cfa_Op_bytes.T11 : Bool × List (List Nat × List Nat) := (true, [([], []), ([], []), ([1], [1]), ([2], [2]), ([], []), ([4], [4]), ([5, 3], [5]), ([3, 6], [3, 6]), ([0, 7, 6], [0, 7]), ([8, 8, 0, 1, 2, 3, 4, 5, 6, 7, 8], [8])])
def cfa_Op_bytes.B11 : List Nat := [0, 0, 2, 6, 0, 16, 62, 126, 255, 511]
theorem cfa_Op_bytes.tab11 : rtab .any (opsOf Try.f59 11) = cfa_Op_bytes.T11 := by kernel_rfl
theorem cfa_Op_bytes.bits11 : waitsOk cfa_Op_bytes.T11.2 cfa_Op_bytes.B11 = true := by kernel_rfl
def cfa_Op_bytes.T18 : Bool × List (List Nat × List Nat) := (true, [([], []), ([0], [0]), ([1], [1]), ([2], [2]), ([3], [3]), ([], []), ([5], [5]), ([6], [6]), ([7], [7]), ([8], [8]), ([9], [9]), ([4, 10, 9], [4, 10]), ([11, 11, 0, 1, 2, 3, 4, 5, 6, 7, 8, 9, 10, 11], [11])])
def cfa_Op_bytes.B18 : List Nat := [0, 1, 3, 7, 15, 0, 32, 96, 224, 480, 992, 2047, 4095]
theorem cfa_Op_bytes.tab18 : rtab .any (opsOf Try.f59 18) = cfa_Op_bytes.T18 := by kernel_rfl
theorem cfa_Op_bytes.bits18 : waitsOk cfa_Op_bytes.T18.2 cfa_Op_bytes.B18 = true := by kernel_rfl
def cfa_Op_bytes.T19 : Bool × List (List Nat × List Nat) := (true, [([], []), ([], []), ([1], [1]), ([2], [2]), ([], []), ([4], [4]), ([5], [5]), ([6], [6]), ([7, 3], [7]), ([3, 8], [3, 8]), ([0, 9, 8], [0, 9]), ([10, 10, 0, 1, 2, 3, 4, 5, 6, 7, 8, 9, 10], [10])])
def cfa_Op_bytes.B19 : List Nat := [0, 0, 2, 6, 0, 16, 48, 112, 254, 510, 1023, 2047]
theorem cfa_Op_bytes.tab19 : rtab .any (opsOf Try.f59 19) = cfa_Op_bytes.T19 := by kernel_rfl
theorem cfa_Op_bytes.bits19 : waitsOk cfa_Op_bytes.T19.2 cfa_Op_bytes.B19 = true := by kernel_rfl
set_option maxHeartbeats 8000000 in
set_option maxRecDepth 100000 in
theorem cfa_Op_bytes.calls (k : Nat) (a0_0 : Int) (a0_1 : Int) (a0_2 : Int) (r : List Int) (w : World) (h : cfa_Op_bytes.f k a0_0 a0_1 a0_2 = some r) :
  Calls Try.prog 59 #[.agg #[.int .i64 a0_0, .int .i64 a0_1, .int .i64 a0_2]] w fun e w' => ∃ v0_ : Value, e = .returned (v0_) ∧ Kd.R (Kd.int .u8) 5 w' w.heap.size (fun _ => True) v0_ r ∧ Below w.heap.size w w' := by
 have hu105 := Try.underlying105
 have HB := am (Below.refl w.heap.size w)
 have H : (if a0_0 = 1 then (if a0_2 < 64 then (some (([(64 + (a0_2)) % 256] : List Int))) else (if a0_2 < 256 then (some (([2, (a0_2) % 256] : List Int))) else (if a0_2 < 65536 then (some (([3, (a0_2) % 256, (a0_2 / 256) % 256] : List Int))) else (some (([4, (a0_2) % 256, (a0_2 / 256) % 256, (a0_2 / 65536) % 256, (a0_2 / 16777216) % 256] : List Int)))))) else (if a0_0 = 2 then ((leb_Uleb.f k a0_1).bind fun t117 => ((leb_Uleb.f k a0_2).bind fun t120 => ((cfa_put.f k (([12] : List Int)) (([t117, t120] : List (List Int)))).bind fun t126 => (some t126)))) else (if a0_0 = 4 then ((leb_Uleb.f k a0_1).bind fun t132 => ((cfa_put.f k (([13] : List Int)) (([t132] : List (List Int)))).bind fun t138 => (some t138))) else (if a0_0 = 3 then ((leb_Uleb.f k a0_2).bind fun t144 => ((cfa_put.f k (([14] : List Int)) (([t144] : List (List Int)))).bind fun t150 => (some t150))) else (if a0_0 = 5 then (if a0_2 ≤ 0 then ((leb_Uleb.f k (wrap64 (Int.tdiv (wrap64 (-a0_2)) 8))).bind fun t156 => ((cfa_put.f k (([(128 + (a0_1)) % 256] : List Int)) (([t156] : List (List Int)))).bind fun t162 => (some t162))) else ((leb_Uleb.f k a0_1).bind fun t168 => ((leb_Sleb.f k (wrap64 (Int.tdiv (wrap64 (-a0_2)) 8))).bind fun t171 => ((cfa_put.f k (([17] : List Int)) (([t168, t171] : List (List Int)))).bind fun t177 => (some t177))))) else (if a0_0 = 6 then (some (([(192 + (a0_1)) % 256] : List Int))) else (if a0_0 = 7 then ((leb_Uleb.f k a0_1).bind fun t186 => ((cfa_put.f k (([7] : List Int)) (([t186] : List (List Int)))).bind fun t192 => (some t192))) else (if a0_0 = 8 then ((leb_Uleb.f k a0_1).bind fun t198 => ((cfa_put.f k (([8] : List Int)) (([t198] : List (List Int)))).bind fun t204 => (some t204))) else (if a0_0 = 9 then (some (([10] : List Int))) else (if a0_0 = 10 then (some (([11] : List Int))) else (some (([0] : List Int))))))))))))) = some r := h
 clear h
 by_cases c2 : a0_0 = 1
 ·
  rw [if_pos c2] at H
  have c2b0 : (a0_0 == 1) = true := beq_iff_eq.mpr c2
  have c2b1 : (a0_0 != 1) = false := bne_eq_false_iff_eq.mpr c2
  clear c2
  by_cases c3 : a0_2 < 64
  ·
   rw [if_pos c3] at H
   have c3b0 : decide (a0_2 < 64) = true := decide_eq_true c3
   clear c3
   obtain ⟨y102, hy102⟩ : ∃ y_ : List Int, y_ = (([(64 + (a0_2)) % 256] : List Int)) := ⟨_, rfl⟩
   replace H : (some y102) = some r := by first | (rw [hy102]; with_reducible exact H) | (have H2_ := (Option.bind_some _ _).symm.trans H; rw [hy102]; with_reducible exact H2_)
   have Ny102 := am hy102
   clear hy102
   obtain rfl := Option.some.inj H
   go_enter Try.func59, Try.ntmps59
   go_wp2_with (first | ((with_reducible refine gate_dst (N := 1) rfl ?_); refine box_event ?hg (N := 1) ?hd (cs := #[.int .i64 a0_0, .int .i64 a0_1, .int .i64 a0_2]) (t := 105) ?hr ?_; (case hd => rfl); (case hg => rfl); (case hr => go_simp; try rfl); intro gb101 hg w4 hbox hb; have n0_ := am (below_step (by exact bl_o HB.out) hb); have n1_ := am (hbox); have n2_ := lei (by rw [hg]; exact (below_size (by exact bl_o HB.out)) : w.heap.size ≤ gb101); have n3_ := n2_; clear HB; have HB := n0_; have BK101 := n1_; have GW101 := n2_; have GE101 := n3_; clear n0_ n1_ n2_ n3_; clear hb hbox hg; obtain ⟨hcz5_0, hcz5_1, hcz5_2, hfz5_0, hfz5_1, hfz5_2⟩ := cells3 BK101.out) | ((with_reducible refine gate_dst (N := 15) rfl ?_); refine Kd.R_lit (Kd.int .u8) _ 5 ?hg (N := 15) ?hd (xs := ([(64 + (a0_2)) % 256] : List Int)) (inner := [.int .u8 ((64 + (a0_2)) % 256)]) (ok := fun _ => True) (okp := fun _ => True) ?hr ?hp (fun _ hk => hk) trivial (Below.refl _ _) (Nat.le_refl _) (by simp) ?_; (case hd => rfl); (case hg => rfl); (case hr => go_simp; try rfl); (case hp => exact (Reps.one (show Kd.M (Kd.int .u8) _ _ _ ((64 + (a0_2)) % 256) [.int .u8 ((64 + (a0_2)) % 256)] from rfl) (Reps.none _ _))); intro v103 w6 ho7 hb hg_ hnew_; clear hg_ hnew_; (first | rw [← Ny102.out] at ho7 | (simp only [Int.reduceToNat] at ho7; rw [← Ny102.out] at ho7)); have n0_ := am (Kd.R_lower ho7 (below_size (by exact bl_g HB.out))); have n1_ := am (blk_below (blk_o BK101.out) hb); have n2_ := am (below_step (by exact bl_g HB.out) hb); clear BK101; clear HB; have HO104 := n0_; have BK101 := n1_; have HB := n2_; clear n0_ n1_ n2_; clear hb ho7))
   go_ret
   exact ⟨_, rfl, by (with_reducible repeat (first | apply Kd.R_alloc | apply Kd.R_drewN | apply Kd.R_drew)); exact HO104.out, by exact bl_g HB.out⟩
  ·
   rw [if_neg c3] at H
   have c3b0 : decide (a0_2 < 64) = false := decide_eq_false c3
   clear c3
   by_cases c8 : a0_2 < 256
   ·
    rw [if_pos c8] at H
    have c8b0 : decide (a0_2 < 256) = true := decide_eq_true c8
    clear c8
    obtain ⟨y105, hy105⟩ : ∃ y_ : List Int, y_ = (([2, (a0_2) % 256] : List Int)) := ⟨_, rfl⟩
    replace H : (some y105) = some r := by first | (rw [hy105]; with_reducible exact H) | (have H2_ := (Option.bind_some _ _).symm.trans H; rw [hy105]; with_reducible exact H2_)
    have Ny105 := am hy105
    clear hy105
    obtain rfl := Option.some.inj H
    go_enter Try.func59, Try.ntmps59
    go_wp2_with (first | ((with_reducible refine gate_dst (N := 1) rfl ?_); refine box_event ?hg (N := 1) ?hd (cs := #[.int .i64 a0_0, .int .i64 a0_1, .int .i64 a0_2]) (t := 105) ?hr ?_; (case hd => rfl); (case hg => rfl); (case hr => go_simp; try rfl); intro gb101 hg w9 hbox hb; have n0_ := am (below_step (by exact bl_o HB.out) hb); have n1_ := am (hbox); have n2_ := lei (by rw [hg]; exact (below_size (by exact bl_o HB.out)) : w.heap.size ≤ gb101); have n3_ := n2_; clear HB; have HB := n0_; have BK101 := n1_; have GW101 := n2_; have GE101 := n3_; clear n0_ n1_ n2_ n3_; clear hb hbox hg; obtain ⟨hcz10_0, hcz10_1, hcz10_2, hfz10_0, hfz10_1, hfz10_2⟩ := cells3 BK101.out) | ((with_reducible refine gate_dst (N := 23) rfl ?_); refine Kd.R_lit (Kd.int .u8) _ 5 ?hg (N := 23) ?hd (xs := ([2, (a0_2) % 256] : List Int)) (inner := [.int .u8 2, .int .u8 ((a0_2) % 256)]) (ok := fun _ => True) (okp := fun _ => True) ?hr ?hp (fun _ hk => hk) trivial (Below.refl _ _) (Nat.le_refl _) (by simp) ?_; (case hd => rfl); (case hg => rfl); (case hr => go_simp; try rfl); (case hp => exact (Reps.one (show Kd.M (Kd.int .u8) _ _ _ 2 [.int .u8 2] from rfl) (Reps.one (show Kd.M (Kd.int .u8) _ _ _ ((a0_2) % 256) [.int .u8 ((a0_2) % 256)] from rfl) (Reps.none _ _)))); intro v106 w11 ho12 hb hg_ hnew_; clear hg_ hnew_; (first | rw [← Ny105.out] at ho12 | (simp only [Int.reduceToNat] at ho12; rw [← Ny105.out] at ho12)); have n0_ := am (Kd.R_lower ho12 (below_size (by exact bl_g HB.out))); have n1_ := am (blk_below (blk_o BK101.out) hb); have n2_ := am (below_step (by exact bl_g HB.out) hb); clear BK101; clear HB; have HO107 := n0_; have BK101 := n1_; have HB := n2_; clear n0_ n1_ n2_; clear hb ho12))
    go_ret
    exact ⟨_, rfl, by (with_reducible repeat (first | apply Kd.R_alloc | apply Kd.R_drewN | apply Kd.R_drew)); exact HO107.out, by exact bl_g HB.out⟩
   ·
    rw [if_neg c8] at H
    have c8b0 : decide (a0_2 < 256) = false := decide_eq_false c8
    clear c8
    by_cases c13 : a0_2 < 65536
    ·
     rw [if_pos c13] at H
     have c13b0 : decide (a0_2 < 65536) = true := decide_eq_true c13
     clear c13
     obtain ⟨y108, hy108⟩ : ∃ y_ : List Int, y_ = (([3, (a0_2) % 256, (a0_2 / 256) % 256] : List Int)) := ⟨_, rfl⟩
     replace H : (some y108) = some r := by first | (rw [hy108]; with_reducible exact H) | (have H2_ := (Option.bind_some _ _).symm.trans H; rw [hy108]; with_reducible exact H2_)
     have Ny108 := am hy108
     clear hy108
     obtain rfl := Option.some.inj H
     go_enter Try.func59, Try.ntmps59
     go_wp2_with (first | ((with_reducible refine gate_dst (N := 1) rfl ?_); refine box_event ?hg (N := 1) ?hd (cs := #[.int .i64 a0_0, .int .i64 a0_1, .int .i64 a0_2]) (t := 105) ?hr ?_; (case hd => rfl); (case hg => rfl); (case hr => go_simp; try rfl); intro gb101 hg w14 hbox hb; have n0_ := am (below_step (by exact bl_o HB.out) hb); have n1_ := am (hbox); have n2_ := lei (by rw [hg]; exact (below_size (by exact bl_o HB.out)) : w.heap.size ≤ gb101); have n3_ := n2_; clear HB; have HB := n0_; have BK101 := n1_; have GW101 := n2_; have GE101 := n3_; clear n0_ n1_ n2_ n3_; clear hb hbox hg; obtain ⟨hcz15_0, hcz15_1, hcz15_2, hfz15_0, hfz15_1, hfz15_2⟩ := cells3 BK101.out) | ((with_reducible refine gate_dst (N := 35) rfl ?_); refine Kd.R_lit (Kd.int .u8) _ 5 ?hg (N := 35) ?hd (xs := ([3, (a0_2) % 256, (a0_2 / 256) % 256] : List Int)) (inner := [.int .u8 3, .int .u8 ((a0_2) % 256), .int .u8 ((a0_2 / 256) % 256)]) (ok := fun _ => True) (okp := fun _ => True) ?hr ?hp (fun _ hk => hk) trivial (Below.refl _ _) (Nat.le_refl _) (by simp) ?_; (case hd => rfl); (case hg => rfl); (case hr => go_simp; try rfl); (case hp => exact (Reps.one (show Kd.M (Kd.int .u8) _ _ _ 3 [.int .u8 3] from rfl) (Reps.one (show Kd.M (Kd.int .u8) _ _ _ ((a0_2) % 256) [.int .u8 ((a0_2) % 256)] from rfl) (Reps.one (show Kd.M (Kd.int .u8) _ _ _ ((a0_2 / 256) % 256) [.int .u8 ((a0_2 / 256) % 256)] from rfl) (Reps.none _ _))))); intro v109 w16 ho17 hb hg_ hnew_; clear hg_ hnew_; (first | rw [← Ny108.out] at ho17 | (simp only [Int.reduceToNat] at ho17; rw [← Ny108.out] at ho17)); have n0_ := am (Kd.R_lower ho17 (below_size (by exact bl_g HB.out))); have n1_ := am (blk_below (blk_o BK101.out) hb); have n2_ := am (below_step (by exact bl_g HB.out) hb); clear BK101; clear HB; have HO110 := n0_; have BK101 := n1_; have HB := n2_; clear n0_ n1_ n2_; clear hb ho17))
     go_ret
     exact ⟨_, rfl, by (with_reducible repeat (first | apply Kd.R_alloc | apply Kd.R_drewN | apply Kd.R_drew)); exact HO110.out, by exact bl_g HB.out⟩
    ·
     rw [if_neg c13] at H
     have c13b0 : decide (a0_2 < 65536) = false := decide_eq_false c13
     clear c13
     obtain ⟨y111, hy111⟩ : ∃ y_ : List Int, y_ = (([4, (a0_2) % 256, (a0_2 / 256) % 256, (a0_2 / 65536) % 256, (a0_2 / 16777216) % 256] : List Int)) := ⟨_, rfl⟩
     replace H : (some y111) = some r := by first | (rw [hy111]; with_reducible exact H) | (have H2_ := (Option.bind_some _ _).symm.trans H; rw [hy111]; with_reducible exact H2_)
     have Ny111 := am hy111
     clear hy111
     obtain rfl := Option.some.inj H
     go_enter Try.func59, Try.ntmps59
     go_wp2_with (first | ((with_reducible refine gate_dst (N := 1) rfl ?_); refine box_event ?hg (N := 1) ?hd (cs := #[.int .i64 a0_0, .int .i64 a0_1, .int .i64 a0_2]) (t := 105) ?hr ?_; (case hd => rfl); (case hg => rfl); (case hr => go_simp; try rfl); intro gb101 hg w18 hbox hb; have n0_ := am (below_step (by exact bl_o HB.out) hb); have n1_ := am (hbox); have n2_ := lei (by rw [hg]; exact (below_size (by exact bl_o HB.out)) : w.heap.size ≤ gb101); have n3_ := n2_; clear HB; have HB := n0_; have BK101 := n1_; have GW101 := n2_; have GE101 := n3_; clear n0_ n1_ n2_ n3_; clear hb hbox hg; obtain ⟨hcz19_0, hcz19_1, hcz19_2, hfz19_0, hfz19_1, hfz19_2⟩ := cells3 BK101.out) | ((with_reducible refine gate_dst (N := 51) rfl ?_); refine Kd.R_lit (Kd.int .u8) _ 5 ?hg (N := 51) ?hd (xs := ([4, (a0_2) % 256, (a0_2 / 256) % 256, (a0_2 / 65536) % 256, (a0_2 / 16777216) % 256] : List Int)) (inner := [.int .u8 4, .int .u8 ((a0_2) % 256), .int .u8 ((a0_2 / 256) % 256), .int .u8 ((a0_2 / 65536) % 256), .int .u8 ((a0_2 / 16777216) % 256)]) (ok := fun _ => True) (okp := fun _ => True) ?hr ?hp (fun _ hk => hk) trivial (Below.refl _ _) (Nat.le_refl _) (by simp) ?_; (case hd => rfl); (case hg => rfl); (case hr => go_simp; try rfl); (case hp => exact (Reps.one (show Kd.M (Kd.int .u8) _ _ _ 4 [.int .u8 4] from rfl) (Reps.one (show Kd.M (Kd.int .u8) _ _ _ ((a0_2) % 256) [.int .u8 ((a0_2) % 256)] from rfl) (Reps.one (show Kd.M (Kd.int .u8) _ _ _ ((a0_2 / 256) % 256) [.int .u8 ((a0_2 / 256) % 256)] from rfl) (Reps.one (show Kd.M (Kd.int .u8) _ _ _ ((a0_2 / 65536) % 256) [.int .u8 ((a0_2 / 65536) % 256)] from rfl) (Reps.one (show Kd.M (Kd.int .u8) _ _ _ ((a0_2 / 16777216) % 256) [.int .u8 ((a0_2 / 16777216) % 256)] from rfl) (Reps.none _ _))))))); intro v112 w20 ho21 hb hg_ hnew_; clear hg_ hnew_; (first | rw [← Ny111.out] at ho21 | (simp only [Int.reduceToNat] at ho21; rw [← Ny111.out] at ho21)); have n0_ := am (Kd.R_lower ho21 (below_size (by exact bl_g HB.out))); have n1_ := am (blk_below (blk_o BK101.out) hb); have n2_ := am (below_step (by exact bl_g HB.out) hb); clear BK101; clear HB; have HO113 := n0_; have BK101 := n1_; have HB := n2_; clear n0_ n1_ n2_; clear hb ho21))
     go_ret
     exact ⟨_, rfl, by (with_reducible repeat (first | apply Kd.R_alloc | apply Kd.R_drewN | apply Kd.R_drew)); exact HO113.out, by exact bl_g HB.out⟩
 ·
  rw [if_neg c2] at H
  have c2b0 : (a0_0 == 1) = false := beq_eq_false_iff_ne.mpr c2
  have c2b1 : (a0_0 != 1) = true := bne_iff_ne.mpr c2
  by_cases c22 : a0_0 = 2
  ·
   rw [if_pos c22] at H
   have c22b0 : (a0_0 == 2) = true := beq_iff_eq.mpr c22
   have c22b1 : (a0_0 != 2) = false := bne_eq_false_iff_eq.mpr c22
   clear c22
   obtain ⟨y114, hy114⟩ : ∃ y_ : List Int, y_ = (([12] : List Int)) := ⟨_, rfl⟩
   replace H : ((leb_Uleb.f k a0_1).bind fun t117 => ((leb_Uleb.f k a0_2).bind fun t120 => ((cfa_put.f k y114 (([t117, t120] : List (List Int)))).bind fun t126 => (some t126)))) = some r := by first | (rw [hy114]; with_reducible exact H) | (have H2_ := (Option.bind_some _ _).symm.trans H; rw [hy114]; with_reducible exact H2_)
   have Ny114 := am hy114
   clear hy114
   replace H := Option.bind_eq_some_iff.mp H
   obtain ⟨t117, A230, H⟩ := H
   replace H : ((leb_Uleb.f k a0_2).bind fun t120 => ((cfa_put.f k y114 (([t117, t120] : List (List Int)))).bind fun t126 => (some t126))) = some r := H
   have A23 := am A230
   clear A230
   replace H := Option.bind_eq_some_iff.mp H
   obtain ⟨t120, A240, H⟩ := H
   replace H : ((cfa_put.f k y114 (([t117, t120] : List (List Int)))).bind fun t126 => (some t126)) = some r := H
   have A24 := am A240
   clear A240
   obtain ⟨y123, hy123⟩ : ∃ y_ : List (List Int), y_ = (([t117, t120] : List (List Int))) := ⟨_, rfl⟩
   replace H : ((cfa_put.f k y114 y123).bind fun t126 => (some t126)) = some r := by first | (rw [hy123]; with_reducible exact H) | (have H2_ := (Option.bind_some _ _).symm.trans H; rw [hy123]; with_reducible exact H2_)
   have Ny123 := am hy123
   clear hy123
   replace H := Option.bind_eq_some_iff.mp H
   obtain ⟨t126, A250, H⟩ := H
   replace H : (some t126) = some r := H
   have A25 := am A250
   clear A250
   obtain rfl := Option.some.inj H
   go_enter Try.func59, Try.ntmps59
   try go_wp2_with (first | ((with_reducible refine gate_dst (N := 1) rfl ?_); refine box_event ?hg (N := 1) ?hd (cs := #[.int .i64 a0_0, .int .i64 a0_1, .int .i64 a0_2]) (t := 105) ?hr ?_; (case hd => rfl); (case hg => rfl); (case hr => go_simp; try rfl); intro gb101 hg w26 hbox hb; have n0_ := am (below_step (by exact bl_o HB.out) hb); have n1_ := am (hbox); have n2_ := lei (by rw [hg]; exact (below_size (by exact bl_o HB.out)) : w.heap.size ≤ gb101); have n3_ := n2_; clear HB; have HB := n0_; have BK101 := n1_; have GW101 := n2_; have GE101 := n3_; clear n0_ n1_ n2_ n3_; clear hb hbox hg; obtain ⟨hcz27_0, hcz27_1, hcz27_2, hfz27_0, hfz27_1, hfz27_2⟩ := cells3 BK101.out))
   have n0_ := am (blk_drew BK101.out)
   have n1_ := am (below_drew1 HB.out)
   clear BK101
   clear HB
   have BK101 := n0_
   have HB := n1_
   clear n0_ n1_
   refine start_ (n := 10) (S := fun w' => w'.cell? ⟨gb101, 0, none⟩ = some (.int .i64 a0_0) ∧ w'.cell? ⟨gb101, 1, none⟩ = some (.int .i64 a0_1) ∧ w'.cell? ⟨gb101, 2, none⟩ = some (.int .i64 a0_2)) (ds := []) #[false, false, false, false, false, false, false, false, false, false] (by kernel_rfl) rfl rfl ⟨(blk_cell BK101.out 0).trans rfl, (blk_cell BK101.out 1).trans rfl, (blk_cell BK101.out 2).trans rfl⟩ (fun hHeld => ?_); refine with_tabW cfa_Op_bytes.tab11 cfa_Op_bytes.bits11 (fun HT_ HW_ => ?_)
   generalize w26.drew = w28 at BK101 HB hHeld ⊢
   refine pure_ (i := 1) (N := some 55) (v := ?_) (a' := ?_) #[false, true, false, false, false, false, false, false, false, false] rfl rfl (any_of HT_.out (by kernel_rfl)) (fun _ _ _ h => h) (Or.inl ⟨by rfl, ?_⟩) ?_ ?_
   rotate_left
   ·
    intro w'
    go_simp
    with_reducible rfl
   rotate_left
   ·
    simp only [Act.put, List.setIfInBounds_toArray, List.set_cons_zero, List.set_cons_succ, i64_w, i32_w]
    rfl
   refine pure_ (i := 4) (N := some 58) (v := ?_) (a' := ?_) #[false, true, false, false, true, false, false, false, false, false] rfl rfl (any_of HT_.out (by kernel_rfl)) (fun _ _ _ h => h) (Or.inl ⟨by rfl, ?_⟩) ?_ ?_
   rotate_left
   ·
    intro w'
    go_simp
    with_reducible rfl
   rotate_left
   ·
    simp only [Act.put, List.setIfInBounds_toArray, List.set_cons_zero, List.set_cons_succ, i64_w, i32_w]
    rfl
   refine take_ (i := 2) (N := some 56) (v := ?_) (a' := ?_) #[false, true, true, false, true, false, false, false, false, false] rfl rfl (take_ofW HT_.out HW_.out (by kernel_rfl)) (fun _ _ _ h => h) (Or.inl ⟨by rfl, ?_⟩) hHeld ?_ ?_
   rotate_left
   ·
    rintro w' ⟨s0, s1, s2⟩
    go_simp
    with_reducible rfl
   rotate_left
   ·
    simp only [Act.put, List.setIfInBounds_toArray, List.set_cons_zero, List.set_cons_succ, i64_w, i32_w]
    rfl
   refine take_ (i := 5) (N := some 59) (v := ?_) (a' := ?_) #[false, true, true, false, true, true, false, false, false, false] rfl rfl (take_ofW HT_.out HW_.out (by kernel_rfl)) (fun _ _ _ h => h) (Or.inl ⟨by rfl, ?_⟩) hHeld ?_ ?_
   rotate_left
   ·
    rintro w' ⟨s0, s1, s2⟩
    go_simp
    with_reducible rfl
   rotate_left
   ·
    simp only [Act.put, List.setIfInBounds_toArray, List.set_cons_zero, List.set_cons_succ, i64_w, i32_w]
    rfl
   refine join_ (σ := Value × Value × Value × Value) 2 #[true, true, true, true, true, true, true, true, false, false] (fun s_ => [(54, s_.1), (57, s_.2.1), (60, s_.2.2.1), (61, s_.2.2.2)]) (fun s_ w' => (w'.cell? ⟨gb101, 0, none⟩ = some (.int .i64 a0_0) ∧ w'.cell? ⟨gb101, 1, none⟩ = some (.int .i64 a0_1) ∧ w'.cell? ⟨gb101, 2, none⟩ = some (.int .i64 a0_2)) ∧ (Kd.R (Kd.int .u8) 5 w' w.heap.size (fun _ => True) s_.1 y114) ∧ (Kd.N (Kd.slice 5 (Kd.int .u8)) 28 w' w.heap.size (fun k_ => some k_ ≠ (s_.1 : Value).ownBlock ∧ k_ ≠ gb101) s_.2.2.2 y123) ∧ (w'.heap[gb101]? = some (.cells #[.int .i64 a0_0, .int .i64 a0_1, .int .i64 a0_2] 105 (0, 0))) ∧ (Below w.heap.size w w')) ?_ ?_
   rotate_left
   ·
    intro hCont
    refine two_ (i := 0) (j := 3) (Ni := some 54) (Nj := some 57) #[true, true, true, false, true, true, false, false, false, false] #[false, true, true, true, true, true, false, false, false, false] rfl rfl rfl rfl (two_of HT_.out (by kernel_rfl)) (by decide) (by decide) (fun K hK => ?_) (fun K hK => ?_)
    ·
     skip
     refine Kd.R_lit_step (Kd.int .u8) _ 5 ?hg (N := 54) ?hd (xs := ([12] : List Int)) (inner := [.int .u8 12]) (ok := fun _ => True) (okp := fun _ => True) ?hr ?hp (fun _ hk => hk) trivial (Below.refl _ _) (Nat.le_refl _) (by simp) ?_; (case hd => rfl); (case hg => rfl); (case hr => go_simp; try rfl); (case hp => exact (Reps.one (show Kd.M (Kd.int .u8) _ _ _ 12 [.int .u8 12] from rfl) (Reps.none _ _)))
     intro v115 w29 ho30 hb hg_ hnew_
     clear hg_ hnew_
     (first | rw [← Ny114.out] at ho30 | (simp only [Int.reduceToNat] at ho30; rw [← Ny114.out] at ho30))
     have n0_ := am (Kd.R_lower ho30 (below_size (by exact bl_g HB.out)))
     have n1_ := am (blk_below (blk_o BK101.out) hb)
     have n2_ := am (below_step (by exact bl_g HB.out) hb)
     clear BK101
     clear HB
     have HO116 := n0_
     have BK101 := n1_
     have HB := n2_
     clear n0_ n1_ n2_
     clear hb ho30
     refine hK.out _ _ ⟨(blk_cell BK101.out 0).trans rfl, (blk_cell BK101.out 1).trans rfl, (blk_cell BK101.out 2).trans rfl⟩ (fun hHeld => ?_)
     clear hK K
     refine norm_ (a' := ?_) ?_ ?_
     rotate_left
     ·
      show Act.put _ (some 54) _ = _
      simp only [Act.put, List.setIfInBounds_toArray, List.set_cons_zero, List.set_cons_succ, i64_w, i32_w]
      rfl
     refine one_ (i := 3) (N := some 57) #[true, true, true, true, true, true, false, false, false, false] rfl rfl (one_of HT_.out (by kernel_rfl)) (by decide) (fun K hK => ?_)
     refine goes_ Try.func38 (by kernel_rfl) rfl #[.int .i64 a0_1] (by rfl) rfl rfl (by simp only [List.map_toArray, List.map_cons, List.map_nil]; try rfl) ?_
     with_reducible refine (leb_Uleb.calls k a0_1 t117 _ A23.out).mono ?_
     rintro e w31 ⟨v118, rfl, ho0, hb⟩
     refine ⟨_, rfl, ?_⟩
     have n0_ := am (Kd.R_elder' (Kd.R_o HO116.out) (Kd.R_base ho0) hb)
     have n1_ := am (Kd.R_lower (Kd.R_new' ho0 (Kd.R_lt (Kd.R_o HO116.out))) (below_size (by exact bl_g HB.out)))
     have n2_ := am (blk_below (blk_o BK101.out) hb)
     have n3_ := am (below_step (by exact bl_g HB.out) hb)
     clear HO116
     clear BK101
     clear HB
     have HO116 := n0_
     have HO119 := n1_
     have BK101 := n2_
     have HB := n3_
     clear n0_ n1_ n2_ n3_
     (try clear hb)
     (try clear hb2)
     (try clear hk)
     (try clear hi)
     (try clear ho0)
     refine hK.out _ _ ⟨(blk_cell BK101.out 0).trans rfl, (blk_cell BK101.out 1).trans rfl, (blk_cell BK101.out 2).trans rfl⟩ (fun hHeld => ?_)
     clear hK K
     refine norm_ (a' := ?_) ?_ ?_
     rotate_left
     ·
      show Act.put _ (some 57) _ = _
      simp only [Act.put, List.setIfInBounds_toArray, List.set_cons_zero, List.set_cons_succ, i64_w, i32_w]
      rfl
     refine one_ (i := 6) (N := some 60) #[true, true, true, true, true, true, true, false, false, false] rfl rfl (one_of HT_.out (by kernel_rfl)) (by decide) (fun K hK => ?_)
     refine goes_ Try.func38 (by kernel_rfl) rfl #[.int .i64 a0_2] (by rfl) rfl rfl (by simp only [List.map_toArray, List.map_cons, List.map_nil]; try rfl) ?_
     with_reducible refine (leb_Uleb.calls k a0_2 t120 _ A24.out).mono ?_
     rintro e w32 ⟨v121, rfl, ho0, hb⟩
     refine ⟨_, rfl, ?_⟩
     have n0_ := am (Kd.R_elder' (Kd.R_o HO116.out) (Kd.R_base ho0) hb)
     have n1_ := am (Kd.R_elder' (Kd.R_o HO119.out) (Kd.R_base ho0) hb)
     have n2_ := am (Kd.R_lower (Kd.R_new' (Kd.R_new' ho0 (Kd.R_lt (Kd.R_o HO116.out))) (Kd.R_lt (Kd.R_o HO119.out))) (below_size (by exact bl_g HB.out)))
     have n3_ := am (blk_below (blk_o BK101.out) hb)
     have n4_ := am (below_step (by exact bl_g HB.out) hb)
     clear HO116
     clear HO119
     clear BK101
     clear HB
     have HO116 := n0_
     have HO119 := n1_
     have HO122 := n2_
     have BK101 := n3_
     have HB := n4_
     clear n0_ n1_ n2_ n3_ n4_
     (try clear hb)
     (try clear hb2)
     (try clear hk)
     (try clear hi)
     (try clear ho0)
     obtain ⟨Ao33, co33, eo33⟩ := Kd.R_slice HO119.out
     (first | subst eo33 | (injection eo33 with f1_ f2_ f3_; have f4_ := f1_.symm; have f5_ := f3_.symm; clear f1_ f2_ f3_; subst f4_; subst f5_))
     obtain ⟨Ao34, co34, eo34⟩ := Kd.R_slice HO122.out
     (first | subst eo34 | (injection eo34 with f1_ f2_ f3_; have f4_ := f1_.symm; have f5_ := f3_.symm; clear f1_ f2_ f3_; subst f4_; subst f5_))
     refine hK.out _ _ ⟨(blk_cell BK101.out 0).trans rfl, (blk_cell BK101.out 1).trans rfl, (blk_cell BK101.out 2).trans rfl⟩ (fun hHeld => ?_)
     clear hK K
     refine norm_ (a' := ?_) ?_ ?_
     rotate_left
     ·
      show Act.put _ (some 60) _ = _
      simp only [Act.put, List.setIfInBounds_toArray, List.set_cons_zero, List.set_cons_succ, i64_w, i32_w]
      rfl
     refine one_ (i := 7) (N := some 61) #[true, true, true, true, true, true, true, true, false, false] rfl rfl (one_of HT_.out (by kernel_rfl)) (by decide) (fun K hK => ?_)
     refine Kd.N_lit_step (Kd.slice 5 (Kd.int .u8)) _ 28 ?hg (N' := 61) ?hd (xs := ([t117, t120] : List (List Int))) (inner := [.slice Ao33 t117.length co33, .slice Ao34 t120.length co34]) (ok := (fun k_ => some k_ ≠ (v115 : Value).ownBlock ∧ k_ ≠ gb101)) (okp := (fun k_ => some k_ ≠ (v115 : Value).ownBlock ∧ k_ ≠ gb101)) ?hr ?hp (fun _ hk => hk) ((show ∀ k_, w32.heap.size ≤ k_ → (fun k_ => some k_ ≠ (v115 : Value).ownBlock ∧ k_ ≠ gb101) k_ from fun k_ hk => ⟨Kd.fresh' (Kd.R_lt (Kd.R_o HO116.out)) k_ hk, Kd.freshB (g := gb101) (o := .cells #[.int .i64 a0_0, .int .i64 a0_1, .int .i64 a0_2] 105 (0, 0)) (blk_o BK101.out) k_ hk⟩) _ (Nat.le_refl _)) (Below.refl _ _) (Nat.le_refl _) (by simp) ?_; (case hd => rfl); (case hg => rfl); (case hr => go_simp; try rfl); (case hp => exact (Reps.one (show Kd.FK (Kd.slice 5 (Kd.int .u8)) _ _ t117 [.slice Ao33 t117.length co33] from (Kd.FK_slice_mk (Kd.R_reads' (Kd.R_mono (ok' := (fun k_ => some k_ ≠ (v115 : Value).ownBlock ∧ k_ ≠ gb101)) (Kd.R_types (HO119.out) BK101.out (by decide)) (fun k_ hk => ⟨hk.1.1.2, hk.2⟩))).2.1 (Kd.R_F (Kd.R_mono (ok' := (fun k_ => some k_ ≠ (v115 : Value).ownBlock ∧ k_ ≠ gb101)) (Kd.R_types (HO119.out) BK101.out (by decide)) (fun k_ hk => ⟨hk.1.1.2, hk.2⟩))))) (Reps.one (show Kd.FK (Kd.slice 5 (Kd.int .u8)) _ _ t120 [.slice Ao34 t120.length co34] from (Kd.FK_slice_mk (Kd.R_reads' (Kd.R_mono (ok' := (fun k_ => some k_ ≠ (v115 : Value).ownBlock ∧ k_ ≠ gb101)) (Kd.R_types (HO122.out) BK101.out (by decide)) (fun k_ hk => ⟨hk.1.1.2, hk.2⟩))).2.1 (Kd.R_F (Kd.R_mono (ok' := (fun k_ => some k_ ≠ (v115 : Value).ownBlock ∧ k_ ≠ gb101)) (Kd.R_types (HO122.out) BK101.out (by decide)) (fun k_ hk => ⟨hk.1.1.2, hk.2⟩))))) (Reps.none _ _))))
     intro v124 w35 ho36 hb hg_ hnew_
     clear hg_ hnew_
     (first | rw [← Ny123.out] at ho36 | (simp only [Int.reduceToNat] at ho36; rw [← Ny123.out] at ho36))
     have n0_ := am (Kd.R_below (Kd.R_o HO116.out) hb)
     have n1_ := am (Kd.N_lower ho36 (below_size (by exact bl_g HB.out)))
     have n2_ := am (blk_below (blk_o BK101.out) hb)
     have n3_ := am (below_step (by exact bl_g HB.out) hb)
     clear HO116
     clear BK101
     clear HB
     clear HO119
     clear HO122
     have HO116 := n0_
     have HO125 := n1_
     have BK101 := n2_
     have HB := n3_
     clear n0_ n1_ n2_ n3_
     clear hb ho36
     refine hK.out _ _ ⟨(blk_cell BK101.out 0).trans rfl, (blk_cell BK101.out 1).trans rfl, (blk_cell BK101.out 2).trans rfl⟩ (fun hHeld => ?_)
     clear hK K
     refine norm_ (a' := ?_) ?_ ?_
     rotate_left
     ·
      show Act.put _ (some 61) _ = _
      simp only [Act.put, List.setIfInBounds_toArray, List.set_cons_zero, List.set_cons_succ, i64_w, i32_w]
      rfl
     exact norm_ (by simp only [putAll, Act.put, List.setIfInBounds_toArray, List.set_cons_zero, List.set_cons_succ]) (hCont (v115, .slice Ao33 t117.length co33, .slice Ao34 t120.length co34, v124) _ ⟨hHeld, (Kd.R_o (Kd.R_mono HO116.out (fun _ hk => trivial))), (by (with_reducible repeat (first | apply Kd.N_alloc | apply Kd.N_drewN | apply Kd.N_drew)); exact HO125.out), (blk_o BK101.out), (by exact bl_g HB.out)⟩)
    ·
     skip
     refine goes_ Try.func38 (by kernel_rfl) rfl #[.int .i64 a0_1] (by rfl) rfl rfl (by simp only [List.map_toArray, List.map_cons, List.map_nil]; try rfl) ?_
     with_reducible refine (leb_Uleb.calls k a0_1 t117 _ A23.out).mono ?_
     rintro e w29 ⟨v118, rfl, ho0, hb⟩
     refine ⟨_, rfl, ?_⟩
     have n0_ := am (Kd.R_lower ho0 (below_size (by exact bl_g HB.out)))
     have n1_ := am (blk_below (blk_o BK101.out) hb)
     have n2_ := am (below_step (by exact bl_g HB.out) hb)
     clear BK101
     clear HB
     have HO119 := n0_
     have BK101 := n1_
     have HB := n2_
     clear n0_ n1_ n2_
     (try clear hb)
     (try clear hb2)
     (try clear hk)
     (try clear hi)
     (try clear ho0)
     refine hK.out _ _ ⟨(blk_cell BK101.out 0).trans rfl, (blk_cell BK101.out 1).trans rfl, (blk_cell BK101.out 2).trans rfl⟩ (fun hHeld => ?_)
     clear hK K
     refine norm_ (a' := ?_) ?_ ?_
     rotate_left
     ·
      show Act.put _ (some 57) _ = _
      simp only [Act.put, List.setIfInBounds_toArray, List.set_cons_zero, List.set_cons_succ, i64_w, i32_w]
      rfl
     refine two_ (i := 0) (j := 6) (Ni := some 54) (Nj := some 60) #[true, true, true, true, true, true, false, false, false, false] #[false, true, true, true, true, true, true, false, false, false] rfl rfl rfl rfl (two_of HT_.out (by kernel_rfl)) (by decide) (by decide) (fun K hK => ?_) (fun K hK => ?_)
     ·
      skip
      refine Kd.R_lit_step (Kd.int .u8) _ 5 ?hg (N := 54) ?hd (xs := ([12] : List Int)) (inner := [.int .u8 12]) (ok := fun _ => True) (okp := fun _ => True) ?hr ?hp (fun _ hk => hk) trivial (Below.refl _ _) (Nat.le_refl _) (by simp) ?_; (case hd => rfl); (case hg => rfl); (case hr => go_simp; try rfl); (case hp => exact (Reps.one (show Kd.M (Kd.int .u8) _ _ _ 12 [.int .u8 12] from rfl) (Reps.none _ _)))
      intro v115 w30 ho31 hb hg_ hnew_
      clear hg_ hnew_
      (first | rw [← Ny114.out] at ho31 | (simp only [Int.reduceToNat] at ho31; rw [← Ny114.out] at ho31))
      have n0_ := am (Kd.R_elder' (Kd.R_o HO119.out) (Kd.R_base ho31) hb)
      have n1_ := am (Kd.R_lower (Kd.R_new' ho31 (Kd.R_lt (Kd.R_o HO119.out))) (below_size (by exact bl_g HB.out)))
      have n2_ := am (blk_below (blk_o BK101.out) hb)
      have n3_ := am (below_step (by exact bl_g HB.out) hb)
      clear HO119
      clear BK101
      clear HB
      have HO119 := n0_
      have HO116 := n1_
      have BK101 := n2_
      have HB := n3_
      clear n0_ n1_ n2_ n3_
      clear hb ho31
      refine hK.out _ _ ⟨(blk_cell BK101.out 0).trans rfl, (blk_cell BK101.out 1).trans rfl, (blk_cell BK101.out 2).trans rfl⟩ (fun hHeld => ?_)
      clear hK K
      refine norm_ (a' := ?_) ?_ ?_
      rotate_left
      ·
       show Act.put _ (some 54) _ = _
       simp only [Act.put, List.setIfInBounds_toArray, List.set_cons_zero, List.set_cons_succ, i64_w, i32_w]
       rfl
      refine one_ (i := 6) (N := some 60) #[true, true, true, true, true, true, true, false, false, false] rfl rfl (one_of HT_.out (by kernel_rfl)) (by decide) (fun K hK => ?_)
      refine goes_ Try.func38 (by kernel_rfl) rfl #[.int .i64 a0_2] (by rfl) rfl rfl (by simp only [List.map_toArray, List.map_cons, List.map_nil]; try rfl) ?_
      with_reducible refine (leb_Uleb.calls k a0_2 t120 _ A24.out).mono ?_
      rintro e w32 ⟨v121, rfl, ho0, hb⟩
      refine ⟨_, rfl, ?_⟩
      have n0_ := am (Kd.R_elder' (Kd.R_o HO119.out) (Kd.R_base ho0) hb)
      have n1_ := am (Kd.R_elder' (Kd.R_o HO116.out) (Kd.R_base ho0) hb)
      have n2_ := am (Kd.R_lower (Kd.R_new' (Kd.R_new' ho0 (Kd.R_lt (Kd.R_o HO119.out))) (Kd.R_lt (Kd.R_o HO116.out))) (below_size (by exact bl_g HB.out)))
      have n3_ := am (blk_below (blk_o BK101.out) hb)
      have n4_ := am (below_step (by exact bl_g HB.out) hb)
      clear HO119
      clear HO116
      clear BK101
      clear HB
      have HO119 := n0_
      have HO116 := n1_
      have HO122 := n2_
      have BK101 := n3_
      have HB := n4_
      clear n0_ n1_ n2_ n3_ n4_
      (try clear hb)
      (try clear hb2)
      (try clear hk)
      (try clear hi)
      (try clear ho0)
      obtain ⟨Ao33, co33, eo33⟩ := Kd.R_slice HO119.out
      (first | subst eo33 | (injection eo33 with f1_ f2_ f3_; have f4_ := f1_.symm; have f5_ := f3_.symm; clear f1_ f2_ f3_; subst f4_; subst f5_))
      obtain ⟨Ao34, co34, eo34⟩ := Kd.R_slice HO122.out
      (first | subst eo34 | (injection eo34 with f1_ f2_ f3_; have f4_ := f1_.symm; have f5_ := f3_.symm; clear f1_ f2_ f3_; subst f4_; subst f5_))
      refine hK.out _ _ ⟨(blk_cell BK101.out 0).trans rfl, (blk_cell BK101.out 1).trans rfl, (blk_cell BK101.out 2).trans rfl⟩ (fun hHeld => ?_)
      clear hK K
      refine norm_ (a' := ?_) ?_ ?_
      rotate_left
      ·
       show Act.put _ (some 60) _ = _
       simp only [Act.put, List.setIfInBounds_toArray, List.set_cons_zero, List.set_cons_succ, i64_w, i32_w]
       rfl
      refine one_ (i := 7) (N := some 61) #[true, true, true, true, true, true, true, true, false, false] rfl rfl (one_of HT_.out (by kernel_rfl)) (by decide) (fun K hK => ?_)
      refine Kd.N_lit_step (Kd.slice 5 (Kd.int .u8)) _ 28 ?hg (N' := 61) ?hd (xs := ([t117, t120] : List (List Int))) (inner := [.slice Ao33 t117.length co33, .slice Ao34 t120.length co34]) (ok := (fun k_ => some k_ ≠ (v115 : Value).ownBlock ∧ k_ ≠ gb101)) (okp := (fun k_ => some k_ ≠ (v115 : Value).ownBlock ∧ k_ ≠ gb101)) ?hr ?hp (fun _ hk => hk) ((show ∀ k_, w32.heap.size ≤ k_ → (fun k_ => some k_ ≠ (v115 : Value).ownBlock ∧ k_ ≠ gb101) k_ from fun k_ hk => ⟨Kd.fresh' (Kd.R_lt (Kd.R_o HO116.out)) k_ hk, Kd.freshB (g := gb101) (o := .cells #[.int .i64 a0_0, .int .i64 a0_1, .int .i64 a0_2] 105 (0, 0)) (blk_o BK101.out) k_ hk⟩) _ (Nat.le_refl _)) (Below.refl _ _) (Nat.le_refl _) (by simp) ?_; (case hd => rfl); (case hg => rfl); (case hr => go_simp; try rfl); (case hp => exact (Reps.one (show Kd.FK (Kd.slice 5 (Kd.int .u8)) _ _ t117 [.slice Ao33 t117.length co33] from (Kd.FK_slice_mk (Kd.R_reads' (Kd.R_mono (ok' := (fun k_ => some k_ ≠ (v115 : Value).ownBlock ∧ k_ ≠ gb101)) (Kd.R_types (HO119.out) BK101.out (by decide)) (fun k_ hk => ⟨hk.1.1.2, hk.2⟩))).2.1 (Kd.R_F (Kd.R_mono (ok' := (fun k_ => some k_ ≠ (v115 : Value).ownBlock ∧ k_ ≠ gb101)) (Kd.R_types (HO119.out) BK101.out (by decide)) (fun k_ hk => ⟨hk.1.1.2, hk.2⟩))))) (Reps.one (show Kd.FK (Kd.slice 5 (Kd.int .u8)) _ _ t120 [.slice Ao34 t120.length co34] from (Kd.FK_slice_mk (Kd.R_reads' (Kd.R_mono (ok' := (fun k_ => some k_ ≠ (v115 : Value).ownBlock ∧ k_ ≠ gb101)) (Kd.R_types (HO122.out) BK101.out (by decide)) (fun k_ hk => ⟨hk.1.2, hk.2⟩))).2.1 (Kd.R_F (Kd.R_mono (ok' := (fun k_ => some k_ ≠ (v115 : Value).ownBlock ∧ k_ ≠ gb101)) (Kd.R_types (HO122.out) BK101.out (by decide)) (fun k_ hk => ⟨hk.1.2, hk.2⟩))))) (Reps.none _ _))))
      intro v124 w35 ho36 hb hg_ hnew_
      clear hg_ hnew_
      (first | rw [← Ny123.out] at ho36 | (simp only [Int.reduceToNat] at ho36; rw [← Ny123.out] at ho36))
      have n0_ := am (Kd.R_below (Kd.R_o HO116.out) hb)
      have n1_ := am (Kd.N_lower ho36 (below_size (by exact bl_g HB.out)))
      have n2_ := am (blk_below (blk_o BK101.out) hb)
      have n3_ := am (below_step (by exact bl_g HB.out) hb)
      clear HO116
      clear BK101
      clear HB
      clear HO119
      clear HO122
      have HO116 := n0_
      have HO125 := n1_
      have BK101 := n2_
      have HB := n3_
      clear n0_ n1_ n2_ n3_
      clear hb ho36
      refine hK.out _ _ ⟨(blk_cell BK101.out 0).trans rfl, (blk_cell BK101.out 1).trans rfl, (blk_cell BK101.out 2).trans rfl⟩ (fun hHeld => ?_)
      clear hK K
      refine norm_ (a' := ?_) ?_ ?_
      rotate_left
      ·
       show Act.put _ (some 61) _ = _
       simp only [Act.put, List.setIfInBounds_toArray, List.set_cons_zero, List.set_cons_succ, i64_w, i32_w]
       rfl
      exact norm_ (by simp only [putAll, Act.put, List.setIfInBounds_toArray, List.set_cons_zero, List.set_cons_succ]) (hCont (v115, .slice Ao33 t117.length co33, .slice Ao34 t120.length co34, v124) _ ⟨hHeld, (Kd.R_o (Kd.R_mono HO116.out (fun _ hk => trivial))), (by (with_reducible repeat (first | apply Kd.N_alloc | apply Kd.N_drewN | apply Kd.N_drew)); exact HO125.out), (blk_o BK101.out), (by exact bl_g HB.out)⟩)
     ·
      skip
      refine goes_ Try.func38 (by kernel_rfl) rfl #[.int .i64 a0_2] (by rfl) rfl rfl (by simp only [List.map_toArray, List.map_cons, List.map_nil]; try rfl) ?_
      with_reducible refine (leb_Uleb.calls k a0_2 t120 _ A24.out).mono ?_
      rintro e w30 ⟨v121, rfl, ho0, hb⟩
      refine ⟨_, rfl, ?_⟩
      have n0_ := am (Kd.R_elder' (Kd.R_o HO119.out) (Kd.R_base ho0) hb)
      have n1_ := am (Kd.R_lower (Kd.R_new' ho0 (Kd.R_lt (Kd.R_o HO119.out))) (below_size (by exact bl_g HB.out)))
      have n2_ := am (blk_below (blk_o BK101.out) hb)
      have n3_ := am (below_step (by exact bl_g HB.out) hb)
      clear HO119
      clear BK101
      clear HB
      have HO119 := n0_
      have HO122 := n1_
      have BK101 := n2_
      have HB := n3_
      clear n0_ n1_ n2_ n3_
      (try clear hb)
      (try clear hb2)
      (try clear hk)
      (try clear hi)
      (try clear ho0)
      refine hK.out _ _ ⟨(blk_cell BK101.out 0).trans rfl, (blk_cell BK101.out 1).trans rfl, (blk_cell BK101.out 2).trans rfl⟩ (fun hHeld => ?_)
      clear hK K
      refine norm_ (a' := ?_) ?_ ?_
      rotate_left
      ·
       show Act.put _ (some 60) _ = _
       simp only [Act.put, List.setIfInBounds_toArray, List.set_cons_zero, List.set_cons_succ, i64_w, i32_w]
       rfl
      refine two_ (i := 0) (j := 7) (Ni := some 54) (Nj := some 61) #[true, true, true, true, true, true, true, false, false, false] #[false, true, true, true, true, true, true, true, false, false] rfl rfl rfl rfl (two_of HT_.out (by kernel_rfl)) (by decide) (by decide) (fun K hK => ?_) (fun K hK => ?_)
      ·
       skip
       refine Kd.R_lit_step (Kd.int .u8) _ 5 ?hg (N := 54) ?hd (xs := ([12] : List Int)) (inner := [.int .u8 12]) (ok := fun _ => True) (okp := fun _ => True) ?hr ?hp (fun _ hk => hk) trivial (Below.refl _ _) (Nat.le_refl _) (by simp) ?_; (case hd => rfl); (case hg => rfl); (case hr => go_simp; try rfl); (case hp => exact (Reps.one (show Kd.M (Kd.int .u8) _ _ _ 12 [.int .u8 12] from rfl) (Reps.none _ _)))
       intro v115 w31 ho32 hb hg_ hnew_
       clear hg_ hnew_
       (first | rw [← Ny114.out] at ho32 | (simp only [Int.reduceToNat] at ho32; rw [← Ny114.out] at ho32))
       have n0_ := am (Kd.R_elder' (Kd.R_o HO119.out) (Kd.R_base ho32) hb)
       have n1_ := am (Kd.R_elder' (Kd.R_o HO122.out) (Kd.R_base ho32) hb)
       have n2_ := am (Kd.R_lower (Kd.R_new' (Kd.R_new' ho32 (Kd.R_lt (Kd.R_o HO119.out))) (Kd.R_lt (Kd.R_o HO122.out))) (below_size (by exact bl_g HB.out)))
       have n3_ := am (blk_below (blk_o BK101.out) hb)
       have n4_ := am (below_step (by exact bl_g HB.out) hb)
       clear HO119
       clear HO122
       clear BK101
       clear HB
       have HO119 := n0_
       have HO122 := n1_
       have HO116 := n2_
       have BK101 := n3_
       have HB := n4_
       clear n0_ n1_ n2_ n3_ n4_
       clear hb ho32
       obtain ⟨Ao33, co33, eo33⟩ := Kd.R_slice HO119.out
       (first | subst eo33 | (injection eo33 with f1_ f2_ f3_; have f4_ := f1_.symm; have f5_ := f3_.symm; clear f1_ f2_ f3_; subst f4_; subst f5_))
       obtain ⟨Ao34, co34, eo34⟩ := Kd.R_slice HO122.out
       (first | subst eo34 | (injection eo34 with f1_ f2_ f3_; have f4_ := f1_.symm; have f5_ := f3_.symm; clear f1_ f2_ f3_; subst f4_; subst f5_))
       refine hK.out _ _ ⟨(blk_cell BK101.out 0).trans rfl, (blk_cell BK101.out 1).trans rfl, (blk_cell BK101.out 2).trans rfl⟩ (fun hHeld => ?_)
       clear hK K
       refine norm_ (a' := ?_) ?_ ?_
       rotate_left
       ·
        show Act.put _ (some 54) _ = _
        simp only [Act.put, List.setIfInBounds_toArray, List.set_cons_zero, List.set_cons_succ, i64_w, i32_w]
        rfl
       refine one_ (i := 7) (N := some 61) #[true, true, true, true, true, true, true, true, false, false] rfl rfl (one_of HT_.out (by kernel_rfl)) (by decide) (fun K hK => ?_)
       refine Kd.N_lit_step (Kd.slice 5 (Kd.int .u8)) _ 28 ?hg (N' := 61) ?hd (xs := ([t117, t120] : List (List Int))) (inner := [.slice Ao33 t117.length co33, .slice Ao34 t120.length co34]) (ok := (fun k_ => some k_ ≠ (v115 : Value).ownBlock ∧ k_ ≠ gb101)) (okp := (fun k_ => some k_ ≠ (v115 : Value).ownBlock ∧ k_ ≠ gb101)) ?hr ?hp (fun _ hk => hk) ((show ∀ k_, w31.heap.size ≤ k_ → (fun k_ => some k_ ≠ (v115 : Value).ownBlock ∧ k_ ≠ gb101) k_ from fun k_ hk => ⟨Kd.fresh' (Kd.R_lt (Kd.R_o HO116.out)) k_ hk, Kd.freshB (g := gb101) (o := .cells #[.int .i64 a0_0, .int .i64 a0_1, .int .i64 a0_2] 105 (0, 0)) (blk_o BK101.out) k_ hk⟩) _ (Nat.le_refl _)) (Below.refl _ _) (Nat.le_refl _) (by simp) ?_; (case hd => rfl); (case hg => rfl); (case hr => go_simp; try rfl); (case hp => exact (Reps.one (show Kd.FK (Kd.slice 5 (Kd.int .u8)) _ _ t117 [.slice Ao33 t117.length co33] from (Kd.FK_slice_mk (Kd.R_reads' (Kd.R_mono (ok' := (fun k_ => some k_ ≠ (v115 : Value).ownBlock ∧ k_ ≠ gb101)) (Kd.R_types (HO119.out) BK101.out (by decide)) (fun k_ hk => ⟨hk.1.2, hk.2⟩))).2.1 (Kd.R_F (Kd.R_mono (ok' := (fun k_ => some k_ ≠ (v115 : Value).ownBlock ∧ k_ ≠ gb101)) (Kd.R_types (HO119.out) BK101.out (by decide)) (fun k_ hk => ⟨hk.1.2, hk.2⟩))))) (Reps.one (show Kd.FK (Kd.slice 5 (Kd.int .u8)) _ _ t120 [.slice Ao34 t120.length co34] from (Kd.FK_slice_mk (Kd.R_reads' (Kd.R_mono (ok' := (fun k_ => some k_ ≠ (v115 : Value).ownBlock ∧ k_ ≠ gb101)) (Kd.R_types (HO122.out) BK101.out (by decide)) (fun k_ hk => ⟨hk.1.2, hk.2⟩))).2.1 (Kd.R_F (Kd.R_mono (ok' := (fun k_ => some k_ ≠ (v115 : Value).ownBlock ∧ k_ ≠ gb101)) (Kd.R_types (HO122.out) BK101.out (by decide)) (fun k_ hk => ⟨hk.1.2, hk.2⟩))))) (Reps.none _ _))))
       intro v124 w35 ho36 hb hg_ hnew_
       clear hg_ hnew_
       (first | rw [← Ny123.out] at ho36 | (simp only [Int.reduceToNat] at ho36; rw [← Ny123.out] at ho36))
       have n0_ := am (Kd.R_below (Kd.R_o HO116.out) hb)
       have n1_ := am (Kd.N_lower ho36 (below_size (by exact bl_g HB.out)))
       have n2_ := am (blk_below (blk_o BK101.out) hb)
       have n3_ := am (below_step (by exact bl_g HB.out) hb)
       clear HO116
       clear BK101
       clear HB
       clear HO119
       clear HO122
       have HO116 := n0_
       have HO125 := n1_
       have BK101 := n2_
       have HB := n3_
       clear n0_ n1_ n2_ n3_
       clear hb ho36
       refine hK.out _ _ ⟨(blk_cell BK101.out 0).trans rfl, (blk_cell BK101.out 1).trans rfl, (blk_cell BK101.out 2).trans rfl⟩ (fun hHeld => ?_)
       clear hK K
       refine norm_ (a' := ?_) ?_ ?_
       rotate_left
       ·
        show Act.put _ (some 61) _ = _
        simp only [Act.put, List.setIfInBounds_toArray, List.set_cons_zero, List.set_cons_succ, i64_w, i32_w]
        rfl
       exact norm_ (by simp only [putAll, Act.put, List.setIfInBounds_toArray, List.set_cons_zero, List.set_cons_succ]) (hCont (v115, .slice Ao33 t117.length co33, .slice Ao34 t120.length co34, v124) _ ⟨hHeld, (Kd.R_o (Kd.R_mono HO116.out (fun _ hk => trivial))), (by (with_reducible repeat (first | apply Kd.N_alloc | apply Kd.N_drewN | apply Kd.N_drew)); exact HO125.out), (blk_o BK101.out), (by exact bl_g HB.out)⟩)
      ·
       skip
       obtain ⟨Ao31, co31, eo31⟩ := Kd.R_slice HO119.out
       (first | subst eo31 | (injection eo31 with f1_ f2_ f3_; have f4_ := f1_.symm; have f5_ := f3_.symm; clear f1_ f2_ f3_; subst f4_; subst f5_))
       obtain ⟨Ao32, co32, eo32⟩ := Kd.R_slice HO122.out
       (first | subst eo32 | (injection eo32 with f1_ f2_ f3_; have f4_ := f1_.symm; have f5_ := f3_.symm; clear f1_ f2_ f3_; subst f4_; subst f5_))
       refine Kd.N_lit_step (Kd.slice 5 (Kd.int .u8)) _ 28 ?hg (N' := 61) ?hd (xs := ([t117, t120] : List (List Int))) (inner := [.slice Ao31 t117.length co31, .slice Ao32 t120.length co32]) (ok := (fun k_ => k_ ≠ gb101)) (okp := (fun k_ => k_ ≠ gb101)) ?hr ?hp (fun _ hk => hk) ((show ∀ k_, w30.heap.size ≤ k_ → (fun k_ => k_ ≠ gb101) k_ from fun k_ hk => Kd.freshB (g := gb101) (o := .cells #[.int .i64 a0_0, .int .i64 a0_1, .int .i64 a0_2] 105 (0, 0)) (blk_o BK101.out) k_ hk) _ (Nat.le_refl _)) (Below.refl _ _) (Nat.le_refl _) (by simp) ?_; (case hd => rfl); (case hg => rfl); (case hr => go_simp; try rfl); (case hp => exact (Reps.one (show Kd.FK (Kd.slice 5 (Kd.int .u8)) _ _ t117 [.slice Ao31 t117.length co31] from (Kd.FK_slice_mk (Kd.R_reads' (Kd.R_mono (ok' := (fun k_ => k_ ≠ gb101)) (Kd.R_types (HO119.out) BK101.out (by decide)) (fun k_ hk => hk.2))).2.1 (Kd.R_F (Kd.R_mono (ok' := (fun k_ => k_ ≠ gb101)) (Kd.R_types (HO119.out) BK101.out (by decide)) (fun k_ hk => hk.2))))) (Reps.one (show Kd.FK (Kd.slice 5 (Kd.int .u8)) _ _ t120 [.slice Ao32 t120.length co32] from (Kd.FK_slice_mk (Kd.R_reads' (Kd.R_mono (ok' := (fun k_ => k_ ≠ gb101)) (Kd.R_types (HO122.out) BK101.out (by decide)) (fun k_ hk => hk.2))).2.1 (Kd.R_F (Kd.R_mono (ok' := (fun k_ => k_ ≠ gb101)) (Kd.R_types (HO122.out) BK101.out (by decide)) (fun k_ hk => hk.2))))) (Reps.none _ _))))
       intro v124 w33 ho34 hb hg_ hnew_
       clear hg_ hnew_
       (first | rw [← Ny123.out] at ho34 | (simp only [Int.reduceToNat] at ho34; rw [← Ny123.out] at ho34))
       have n0_ := am (Kd.N_lower ho34 (below_size (by exact bl_g HB.out)))
       have n1_ := am (blk_below (blk_o BK101.out) hb)
       have n2_ := am (below_step (by exact bl_g HB.out) hb)
       clear BK101
       clear HB
       clear HO119
       clear HO122
       have HO125 := n0_
       have BK101 := n1_
       have HB := n2_
       clear n0_ n1_ n2_
       clear hb ho34
       refine hK.out _ _ ⟨(blk_cell BK101.out 0).trans rfl, (blk_cell BK101.out 1).trans rfl, (blk_cell BK101.out 2).trans rfl⟩ (fun hHeld => ?_)
       clear hK K
       refine norm_ (a' := ?_) ?_ ?_
       rotate_left
       ·
        show Act.put _ (some 61) _ = _
        simp only [Act.put, List.setIfInBounds_toArray, List.set_cons_zero, List.set_cons_succ, i64_w, i32_w]
        rfl
       refine one_ (i := 0) (N := some 54) #[true, true, true, true, true, true, true, true, false, false] rfl rfl (one_of HT_.out (by kernel_rfl)) (by decide) (fun K hK => ?_)
       refine Kd.R_lit_step (Kd.int .u8) _ 5 ?hg (N := 54) ?hd (xs := ([12] : List Int)) (inner := [.int .u8 12]) (ok := fun _ => True) (okp := fun _ => True) ?hr ?hp (fun _ hk => hk) trivial (Below.refl _ _) (Nat.le_refl _) (by simp) ?_; (case hd => rfl); (case hg => rfl); (case hr => go_simp; try rfl); (case hp => exact (Reps.one (show Kd.M (Kd.int .u8) _ _ _ 12 [.int .u8 12] from rfl) (Reps.none _ _)))
       intro v115 w35 ho36 hb hg_ hnew_
       clear hg_ hnew_
       (first | rw [← Ny114.out] at ho36 | (simp only [Int.reduceToNat] at ho36; rw [← Ny114.out] at ho36))
       have n0_ := am (Kd.N_elder' (by (with_reducible repeat (first | apply Kd.N_alloc | apply Kd.N_drewN | apply Kd.N_drew)); exact HO125.out) (Kd.R_base ho36) hb)
       have n1_ := am (Kd.R_lower ho36 (below_size (by exact bl_g HB.out)))
       have n2_ := am (blk_below (blk_o BK101.out) hb)
       have n3_ := am (below_step (by exact bl_g HB.out) hb)
       clear HO125
       clear BK101
       clear HB
       have HO125 := n0_
       have HO116 := n1_
       have BK101 := n2_
       have HB := n3_
       clear n0_ n1_ n2_ n3_
       clear hb ho36
       refine hK.out _ _ ⟨(blk_cell BK101.out 0).trans rfl, (blk_cell BK101.out 1).trans rfl, (blk_cell BK101.out 2).trans rfl⟩ (fun hHeld => ?_)
       clear hK K
       refine norm_ (a' := ?_) ?_ ?_
       rotate_left
       ·
        show Act.put _ (some 54) _ = _
        simp only [Act.put, List.setIfInBounds_toArray, List.set_cons_zero, List.set_cons_succ, i64_w, i32_w]
        rfl
       exact norm_ (by simp only [putAll, Act.put, List.setIfInBounds_toArray, List.set_cons_zero, List.set_cons_succ]) (hCont (v115, .slice Ao31 t117.length co31, .slice Ao32 t120.length co32, v124) _ ⟨hHeld, (Kd.R_o HO116.out), (by (with_reducible repeat (first | apply Kd.N_alloc | apply Kd.N_drewN | apply Kd.N_drew)); exact Kd.N_mono HO125.out (fun _ hk => ⟨hk.2, hk.1⟩)), (blk_o BK101.out), (by exact bl_g HB.out)⟩)
   rintro ⟨v115, v118, v121, v124⟩ w37 ⟨hS_, h0_, h1_, h2_, h3_⟩
   have n0_ : Aside0 (Kd.R (Kd.int .u8) 5 w37 w.heap.size (fun _ => True) v115 y114) := ⟨h0_⟩
   have n1_ : Aside0 (Kd.N (Kd.slice 5 (Kd.int .u8)) 28 w37 w.heap.size (fun k_ => some k_ ≠ (v115 : Value).ownBlock ∧ k_ ≠ gb101) v124 y123) := ⟨h1_⟩
   have n2_ : Aside0 (w37.heap[gb101]? = some (.cells #[.int .i64 a0_0, .int .i64 a0_1, .int .i64 a0_2] 105 (0, 0))) := ⟨h2_⟩
   have n3_ : Aside0 (Below w.heap.size w w37) := ⟨h3_⟩
   clear BK101
   clear HB
   clear h0_ h1_ h2_ h3_
   have HO116 := n0_
   have HO125 := n1_
   have BK101 := n2_
   have HB := n3_
   clear n0_ n1_ n2_ n3_
   have hHeld : w37.cell? ⟨gb101, 0, none⟩ = some (.int .i64 a0_0) ∧ w37.cell? ⟨gb101, 1, none⟩ = some (.int .i64 a0_1) ∧ w37.cell? ⟨gb101, 2, none⟩ = some (.int .i64 a0_2) := hS_
   obtain ⟨Ao38, co38, eo38⟩ := Kd.R_slice HO116.out
   (first | subst eo38 | (injection eo38 with f1_ f2_ f3_; have f4_ := f1_.symm; have f5_ := f3_.symm; clear f1_ f2_ f3_; subst f4_; subst f5_))
   obtain ⟨Ao39, co39, eo39⟩ := Kd.N_slice HO125.out
   (first | subst eo39 | (injection eo39 with f1_ f2_ f3_; have f4_ := f1_.symm; have f5_ := f3_.symm; clear f1_ f2_ f3_; subst f4_; subst f5_))
   refine norm_ (a' := ?_) ?_ ?_
   rotate_left
   ·
    simp only [c2b0, c2b1, c22b0, c22b1, putAll, Act.put, List.setIfInBounds_toArray, List.set_cons_zero, List.set_cons_succ]
    rfl
   refine one_ (i := 8) (N := some 62) #[true, true, true, true, true, true, true, true, true, false] rfl rfl (one_of HT_.out (by kernel_rfl)) (by decide) (fun K hK => ?_)
   refine goes_ Try.func79 (by kernel_rfl) rfl #[.slice Ao38 y114.length co38, .slice Ao39 y123.length co39] (by rfl) rfl rfl (by simp only [List.map_toArray, List.map_cons, List.map_nil]; try rfl) ?_
   with_reducible refine (cfa_put.calls k (fun k_ => some k_ = (.slice Ao38 y114.length co38 : Value).ownBlock) (.slice Ao38 y114.length co38) y114 _ _ y123 t126 w _ ?side1 ?side2 ?side3 ?side4 A25.out).mono ?_
   (case side1 => repeat (first | (with_reducible first | exact HB.out | apply below_alloc | apply pw_below_drewN | apply below_drew1 | refine below_set ?_ GE101.out) | exact HB.out))
   (case side2 => exact Kd.R_tight rfl HO116.out)
   (case side3 => exact Kd.C_kept_ownV (base := 0) (Kd.N_V (base := w.heap.size) (HO125.out)) (fun k_ hk_ hs_ => (hk_.1) hs_))
   (case side4 => exact (Kd.N_reads' HO125.out).2.1)
   rintro e w40 ⟨v127, rfl, ho0, hb, hkp⟩
   refine ⟨_, rfl, ?_⟩
   have n0_ := am (blk_kept (blk_o BK101.out) hkp (fun hs_ => (fun e_ => (Kd.R_ne HO116.out BK101.out (by decide)) e_) hs_))
   have n1_ := am (Kd.N_mono (ok' := fun k_ => k_ ≠ gb101 ∧ some k_ ≠ (v127 : Value).ownBlock) (Kd.N_keptB (HO125.out) hkp (fun k_ hk_ hs_ => (hk_.1) hs_)) (fun k_ hk_ => ⟨hk_.1.2, fun e_ => Or.elim (ho0.1 k_ e_.symm) (fun hs_ => hk_.2.1 hs_) (fun hn_ => Nat.not_le.2 hk_.2.2 hn_)⟩))
   have n2_ := am (Kd.R_mono (ok' := fun k_ => True) ho0 (fun k_ hk_ => trivial))
   have n3_ := am (hb)
   clear BK101
   clear HO125
   clear HB
   clear HO116
   have BK101 := n0_
   have HO125 := n1_
   have HO128 := n2_
   have HB := n3_
   clear n0_ n1_ n2_ n3_
   (try clear hb)
   (try clear hkp)
   (try clear ho0)
   refine hK.out _ _ ⟨(blk_cell BK101.out 0).trans rfl, (blk_cell BK101.out 1).trans rfl, (blk_cell BK101.out 2).trans rfl⟩ (fun hHeld => ?_)
   clear hK K
   refine norm_ (a' := ?_) ?_ ?_
   rotate_left
   ·
    show Act.put _ (some 62) _ = _
    simp only [Act.put, List.setIfInBounds_toArray, List.set_cons_zero, List.set_cons_succ, i64_w, i32_w]
    rfl
   refine pure_ (i := 9) (N := some 2) (v := ?_) (a' := ?_) #[true, true, true, true, true, true, true, true, true, true] rfl rfl (any_of HT_.out (by kernel_rfl)) (fun _ _ _ h => h) (Or.inl ⟨by rfl, ?_⟩) ?_ ?_
   rotate_left
   ·
    intro w'
    go_simp
    with_reducible rfl
   rotate_left
   ·
    simp only [Act.put, List.setIfInBounds_toArray, List.set_cons_zero, List.set_cons_succ, i64_w, i32_w]
    rfl
   refine done_ (done_of HT_.out (by kernel_rfl)) ?_
   try go_wp2
   go_ret
   exact ⟨_, rfl, by (with_reducible repeat (first | apply Kd.R_alloc | apply Kd.R_drewN | apply Kd.R_drew)); exact HO128.out, by exact bl_g HB.out⟩
  ·
   rw [if_neg c22] at H
   have c22b0 : (a0_0 == 2) = false := beq_eq_false_iff_ne.mpr c22
   have c22b1 : (a0_0 != 2) = true := bne_iff_ne.mpr c22
   by_cases c41 : a0_0 = 4
   ·
    rw [if_pos c41] at H
    have c41b0 : (a0_0 == 4) = true := beq_iff_eq.mpr c41
    have c41b1 : (a0_0 != 4) = false := bne_eq_false_iff_eq.mpr c41
    clear c41
    obtain ⟨y129, hy129⟩ : ∃ y_ : List Int, y_ = (([13] : List Int)) := ⟨_, rfl⟩
    replace H : ((leb_Uleb.f k a0_1).bind fun t132 => ((cfa_put.f k y129 (([t132] : List (List Int)))).bind fun t138 => (some t138))) = some r := by first | (rw [hy129]; with_reducible exact H) | (have H2_ := (Option.bind_some _ _).symm.trans H; rw [hy129]; with_reducible exact H2_)
    have Ny129 := am hy129
    clear hy129
    replace H := Option.bind_eq_some_iff.mp H
    obtain ⟨t132, A420, H⟩ := H
    replace H : ((cfa_put.f k y129 (([t132] : List (List Int)))).bind fun t138 => (some t138)) = some r := H
    have A42 := am A420
    clear A420
    obtain ⟨y135, hy135⟩ : ∃ y_ : List (List Int), y_ = (([t132] : List (List Int))) := ⟨_, rfl⟩
    replace H : ((cfa_put.f k y129 y135).bind fun t138 => (some t138)) = some r := by first | (rw [hy135]; with_reducible exact H) | (have H2_ := (Option.bind_some _ _).symm.trans H; rw [hy135]; with_reducible exact H2_)
    have Ny135 := am hy135
    clear hy135
    replace H := Option.bind_eq_some_iff.mp H
    obtain ⟨t138, A430, H⟩ := H
    replace H : (some t138) = some r := H
    have A43 := am A430
    clear A430
    obtain rfl := Option.some.inj H
    go_enter Try.func59, Try.ntmps59
    go_wp2_with (first | ((with_reducible refine gate_dst (N := 1) rfl ?_); refine box_event ?hg (N := 1) ?hd (cs := #[.int .i64 a0_0, .int .i64 a0_1, .int .i64 a0_2]) (t := 105) ?hr ?_; (case hd => rfl); (case hg => rfl); (case hr => go_simp; try rfl); intro gb101 hg w44 hbox hb; have n0_ := am (below_step (by exact bl_o HB.out) hb); have n1_ := am (hbox); have n2_ := lei (by rw [hg]; exact (below_size (by exact bl_o HB.out)) : w.heap.size ≤ gb101); have n3_ := n2_; clear HB; have HB := n0_; have BK101 := n1_; have GW101 := n2_; have GE101 := n3_; clear n0_ n1_ n2_ n3_; clear hb hbox hg; obtain ⟨hcz45_0, hcz45_1, hcz45_2, hfz45_0, hfz45_1, hfz45_2⟩ := cells3 BK101.out) | ((with_reducible refine gate_dst (N := 65) rfl ?_); refine Kd.R_lit (Kd.int .u8) _ 5 ?hg (N := 65) ?hd (xs := ([13] : List Int)) (inner := [.int .u8 13]) (ok := fun _ => True) (okp := fun _ => True) ?hr ?hp (fun _ hk => hk) trivial (Below.refl _ _) (Nat.le_refl _) (by simp) ?_; (case hd => rfl); (case hg => rfl); (case hr => go_simp; try rfl); (case hp => exact (Reps.one (show Kd.M (Kd.int .u8) _ _ _ 13 [.int .u8 13] from rfl) (Reps.none _ _))); intro v130 w46 ho47 hb hg_ hnew_; clear hg_ hnew_; (first | rw [← Ny129.out] at ho47 | (simp only [Int.reduceToNat] at ho47; rw [← Ny129.out] at ho47)); have n0_ := am (Kd.R_lower ho47 (below_size (by exact bl_g HB.out))); have n1_ := am (blk_below (blk_o BK101.out) hb); have n2_ := am (below_step (by exact bl_g HB.out) hb); clear BK101; clear HB; have HO131 := n0_; have BK101 := n1_; have HB := n2_; clear n0_ n1_ n2_; clear hb ho47; obtain ⟨hcz48_0, hcz48_1, hcz48_2, hfz48_0, hfz48_1, hfz48_2⟩ := cells3 BK101.out) | ((with_reducible refine gate_callee (f := 38) rfl ?_); refine goesL_ (some 68) rfl rfl Try.func38 (by kernel_rfl) rfl #[.int .i64 a0_1] rfl (by simp only [List.map_toArray, List.map_cons, List.map_nil]; try rfl) ?_; (with_reducible refine (leb_Uleb.calls k a0_1 t132 _ A42.out).mono ?_); rintro e w49 ⟨v133, rfl, ho0, hb⟩; refine ⟨_, rfl, ?_⟩; have n0_ := am (Kd.R_elder' (Kd.R_o HO131.out) (Kd.R_base ho0) hb); have n1_ := am (Kd.R_lower (Kd.R_new' ho0 (Kd.R_lt (Kd.R_o HO131.out))) (below_size (by exact bl_g HB.out))); have n2_ := am (blk_below (blk_o BK101.out) hb); have n3_ := am (below_step (by exact bl_g HB.out) hb); clear HO131; clear BK101; clear HB; have HO131 := n0_; have HO134 := n1_; have BK101 := n2_; have HB := n3_; clear n0_ n1_ n2_ n3_; (try clear hb); (try clear hb2); (try clear hk); (try clear hi); (try clear ho0); obtain ⟨Ao50, co50, eo50⟩ := Kd.R_slice HO134.out; subst eo50) | ((with_reducible refine gate_dst (N := 69) rfl ?_); refine Kd.N_lit (Kd.slice 5 (Kd.int .u8)) _ 28 ?hg (N' := 69) ?hd (xs := ([t132] : List (List Int))) (inner := [.slice Ao50 t132.length co50]) (ok := (fun k_ => some k_ ≠ (v130 : Value).ownBlock ∧ k_ ≠ gb101)) (okp := (fun k_ => some k_ ≠ (v130 : Value).ownBlock ∧ k_ ≠ gb101)) ?hr ?hp (fun _ hk => hk) ((show ∀ k_, w49.heap.size ≤ k_ → (fun k_ => some k_ ≠ (v130 : Value).ownBlock ∧ k_ ≠ gb101) k_ from fun k_ hk => ⟨Kd.fresh' (Kd.R_lt (Kd.R_o HO131.out)) k_ hk, Kd.freshB (g := gb101) (o := .cells #[.int .i64 a0_0, .int .i64 a0_1, .int .i64 a0_2] 105 (0, 0)) (blk_o BK101.out) k_ hk⟩) _ (Nat.le_refl _)) (Below.refl _ _) (Nat.le_refl _) (by simp) ?_; (case hd => rfl); (case hg => rfl); (case hr => go_simp; try rfl); (case hp => exact (Reps.one (show Kd.FK (Kd.slice 5 (Kd.int .u8)) _ _ t132 [.slice Ao50 t132.length co50] from (Kd.FK_slice_mk (Kd.R_reads' (Kd.R_mono (ok' := (fun k_ => some k_ ≠ (v130 : Value).ownBlock ∧ k_ ≠ gb101)) (Kd.R_types (HO134.out) BK101.out (by decide)) (fun k_ hk => ⟨hk.1.2, hk.2⟩))).2.1 (Kd.R_F (Kd.R_mono (ok' := (fun k_ => some k_ ≠ (v130 : Value).ownBlock ∧ k_ ≠ gb101)) (Kd.R_types (HO134.out) BK101.out (by decide)) (fun k_ hk => ⟨hk.1.2, hk.2⟩))))) (Reps.none _ _))); intro v136 w51 ho52 hb hg_ hnew_; clear hg_ hnew_; (first | rw [← Ny135.out] at ho52 | (simp only [Int.reduceToNat] at ho52; rw [← Ny135.out] at ho52)); have n0_ := am (Kd.R_below (Kd.R_o HO131.out) hb); have n1_ := am (Kd.N_lower ho52 (below_size (by exact bl_g HB.out))); have n2_ := am (blk_below (blk_o BK101.out) hb); have n3_ := am (below_step (by exact bl_g HB.out) hb); clear HO131; clear BK101; clear HB; clear HO134; have HO131 := n0_; have HO137 := n1_; have BK101 := n2_; have HB := n3_; clear n0_ n1_ n2_ n3_; clear hb ho52; obtain ⟨Ao53, co53, eo53⟩ := Kd.R_slice HO131.out; subst eo53; obtain ⟨Ao54, co54, eo54⟩ := Kd.N_slice HO137.out; subst eo54) | ((with_reducible refine gate_callee (f := 79) rfl ?_); refine goesL_ (some 70) rfl rfl Try.func79 (by kernel_rfl) rfl #[.slice Ao53 y129.length co53, .slice Ao54 y135.length co54] rfl (by simp only [List.map_toArray, List.map_cons, List.map_nil]; try rfl) ?_; (with_reducible refine (cfa_put.calls k (fun k_ => some k_ = (.slice Ao53 y129.length co53 : Value).ownBlock) (.slice Ao53 y129.length co53) y129 _ _ y135 t138 w _ ?side1 ?side2 ?side3 ?side4 A43.out).mono ?_); (case side1 => repeat (first | (with_reducible first | exact HB.out | apply below_alloc | apply pw_below_drewN | apply below_drew1 | refine below_set ?_ GE101.out) | exact HB.out)); (case side2 => exact Kd.R_tight rfl HO131.out); (case side3 => exact Kd.C_kept_ownV (base := 0) (Kd.N_V (base := w.heap.size) (HO137.out)) (fun k_ hk_ hs_ => (hk_.1) hs_)); (case side4 => exact (Kd.N_reads' HO137.out).2.1); rintro e w55 ⟨v139, rfl, ho0, hb, hkp⟩; refine ⟨_, rfl, ?_⟩; have n0_ := am (blk_kept (blk_o BK101.out) hkp (fun hs_ => (fun e_ => (Kd.R_ne HO131.out BK101.out (by decide)) e_) hs_)); have n1_ := am (Kd.N_mono (ok' := fun k_ => k_ ≠ gb101 ∧ some k_ ≠ (v139 : Value).ownBlock) (Kd.N_keptB (HO137.out) hkp (fun k_ hk_ hs_ => (hk_.1) hs_)) (fun k_ hk_ => ⟨hk_.1.2, fun e_ => Or.elim (ho0.1 k_ e_.symm) (fun hs_ => hk_.2.1 hs_) (fun hn_ => Nat.not_le.2 hk_.2.2 hn_)⟩)); have n2_ := am (Kd.R_mono (ok' := fun k_ => True) ho0 (fun k_ hk_ => trivial)); have n3_ := am (hb); clear BK101; clear HO137; clear HB; clear HO131; have BK101 := n0_; have HO137 := n1_; have HO140 := n2_; have HB := n3_; clear n0_ n1_ n2_ n3_; (try clear hb); (try clear hkp); (try clear ho0)))
    go_ret
    exact ⟨_, rfl, by (with_reducible repeat (first | apply Kd.R_alloc | apply Kd.R_drewN | apply Kd.R_drew)); exact HO140.out, by exact bl_g HB.out⟩
   ·
    rw [if_neg c41] at H
    have c41b0 : (a0_0 == 4) = false := beq_eq_false_iff_ne.mpr c41
    have c41b1 : (a0_0 != 4) = true := bne_iff_ne.mpr c41
    by_cases c56 : a0_0 = 3
    ·
     rw [if_pos c56] at H
     have c56b0 : (a0_0 == 3) = true := beq_iff_eq.mpr c56
     have c56b1 : (a0_0 != 3) = false := bne_eq_false_iff_eq.mpr c56
     clear c56
     obtain ⟨y141, hy141⟩ : ∃ y_ : List Int, y_ = (([14] : List Int)) := ⟨_, rfl⟩
     replace H : ((leb_Uleb.f k a0_2).bind fun t144 => ((cfa_put.f k y141 (([t144] : List (List Int)))).bind fun t150 => (some t150))) = some r := by first | (rw [hy141]; with_reducible exact H) | (have H2_ := (Option.bind_some _ _).symm.trans H; rw [hy141]; with_reducible exact H2_)
     have Ny141 := am hy141
     clear hy141
     replace H := Option.bind_eq_some_iff.mp H
     obtain ⟨t144, A570, H⟩ := H
     replace H : ((cfa_put.f k y141 (([t144] : List (List Int)))).bind fun t150 => (some t150)) = some r := H
     have A57 := am A570
     clear A570
     obtain ⟨y147, hy147⟩ : ∃ y_ : List (List Int), y_ = (([t144] : List (List Int))) := ⟨_, rfl⟩
     replace H : ((cfa_put.f k y141 y147).bind fun t150 => (some t150)) = some r := by first | (rw [hy147]; with_reducible exact H) | (have H2_ := (Option.bind_some _ _).symm.trans H; rw [hy147]; with_reducible exact H2_)
     have Ny147 := am hy147
     clear hy147
     replace H := Option.bind_eq_some_iff.mp H
     obtain ⟨t150, A580, H⟩ := H
     replace H : (some t150) = some r := H
     have A58 := am A580
     clear A580
     obtain rfl := Option.some.inj H
     go_enter Try.func59, Try.ntmps59
     go_wp2_with (first | ((with_reducible refine gate_dst (N := 1) rfl ?_); refine box_event ?hg (N := 1) ?hd (cs := #[.int .i64 a0_0, .int .i64 a0_1, .int .i64 a0_2]) (t := 105) ?hr ?_; (case hd => rfl); (case hg => rfl); (case hr => go_simp; try rfl); intro gb101 hg w59 hbox hb; have n0_ := am (below_step (by exact bl_o HB.out) hb); have n1_ := am (hbox); have n2_ := lei (by rw [hg]; exact (below_size (by exact bl_o HB.out)) : w.heap.size ≤ gb101); have n3_ := n2_; clear HB; have HB := n0_; have BK101 := n1_; have GW101 := n2_; have GE101 := n3_; clear n0_ n1_ n2_ n3_; clear hb hbox hg; obtain ⟨hcz60_0, hcz60_1, hcz60_2, hfz60_0, hfz60_1, hfz60_2⟩ := cells3 BK101.out) | ((with_reducible refine gate_dst (N := 73) rfl ?_); refine Kd.R_lit (Kd.int .u8) _ 5 ?hg (N := 73) ?hd (xs := ([14] : List Int)) (inner := [.int .u8 14]) (ok := fun _ => True) (okp := fun _ => True) ?hr ?hp (fun _ hk => hk) trivial (Below.refl _ _) (Nat.le_refl _) (by simp) ?_; (case hd => rfl); (case hg => rfl); (case hr => go_simp; try rfl); (case hp => exact (Reps.one (show Kd.M (Kd.int .u8) _ _ _ 14 [.int .u8 14] from rfl) (Reps.none _ _))); intro v142 w61 ho62 hb hg_ hnew_; clear hg_ hnew_; (first | rw [← Ny141.out] at ho62 | (simp only [Int.reduceToNat] at ho62; rw [← Ny141.out] at ho62)); have n0_ := am (Kd.R_lower ho62 (below_size (by exact bl_g HB.out))); have n1_ := am (blk_below (blk_o BK101.out) hb); have n2_ := am (below_step (by exact bl_g HB.out) hb); clear BK101; clear HB; have HO143 := n0_; have BK101 := n1_; have HB := n2_; clear n0_ n1_ n2_; clear hb ho62; obtain ⟨hcz63_0, hcz63_1, hcz63_2, hfz63_0, hfz63_1, hfz63_2⟩ := cells3 BK101.out) | ((with_reducible refine gate_callee (f := 38) rfl ?_); refine goesL_ (some 76) rfl rfl Try.func38 (by kernel_rfl) rfl #[.int .i64 a0_2] rfl (by simp only [List.map_toArray, List.map_cons, List.map_nil]; try rfl) ?_; (with_reducible refine (leb_Uleb.calls k a0_2 t144 _ A57.out).mono ?_); rintro e w64 ⟨v145, rfl, ho0, hb⟩; refine ⟨_, rfl, ?_⟩; have n0_ := am (Kd.R_elder' (Kd.R_o HO143.out) (Kd.R_base ho0) hb); have n1_ := am (Kd.R_lower (Kd.R_new' ho0 (Kd.R_lt (Kd.R_o HO143.out))) (below_size (by exact bl_g HB.out))); have n2_ := am (blk_below (blk_o BK101.out) hb); have n3_ := am (below_step (by exact bl_g HB.out) hb); clear HO143; clear BK101; clear HB; have HO143 := n0_; have HO146 := n1_; have BK101 := n2_; have HB := n3_; clear n0_ n1_ n2_ n3_; (try clear hb); (try clear hb2); (try clear hk); (try clear hi); (try clear ho0); obtain ⟨Ao65, co65, eo65⟩ := Kd.R_slice HO146.out; subst eo65) | ((with_reducible refine gate_dst (N := 77) rfl ?_); refine Kd.N_lit (Kd.slice 5 (Kd.int .u8)) _ 28 ?hg (N' := 77) ?hd (xs := ([t144] : List (List Int))) (inner := [.slice Ao65 t144.length co65]) (ok := (fun k_ => some k_ ≠ (v142 : Value).ownBlock ∧ k_ ≠ gb101)) (okp := (fun k_ => some k_ ≠ (v142 : Value).ownBlock ∧ k_ ≠ gb101)) ?hr ?hp (fun _ hk => hk) ((show ∀ k_, w64.heap.size ≤ k_ → (fun k_ => some k_ ≠ (v142 : Value).ownBlock ∧ k_ ≠ gb101) k_ from fun k_ hk => ⟨Kd.fresh' (Kd.R_lt (Kd.R_o HO143.out)) k_ hk, Kd.freshB (g := gb101) (o := .cells #[.int .i64 a0_0, .int .i64 a0_1, .int .i64 a0_2] 105 (0, 0)) (blk_o BK101.out) k_ hk⟩) _ (Nat.le_refl _)) (Below.refl _ _) (Nat.le_refl _) (by simp) ?_; (case hd => rfl); (case hg => rfl); (case hr => go_simp; try rfl); (case hp => exact (Reps.one (show Kd.FK (Kd.slice 5 (Kd.int .u8)) _ _ t144 [.slice Ao65 t144.length co65] from (Kd.FK_slice_mk (Kd.R_reads' (Kd.R_mono (ok' := (fun k_ => some k_ ≠ (v142 : Value).ownBlock ∧ k_ ≠ gb101)) (Kd.R_types (HO146.out) BK101.out (by decide)) (fun k_ hk => ⟨hk.1.2, hk.2⟩))).2.1 (Kd.R_F (Kd.R_mono (ok' := (fun k_ => some k_ ≠ (v142 : Value).ownBlock ∧ k_ ≠ gb101)) (Kd.R_types (HO146.out) BK101.out (by decide)) (fun k_ hk => ⟨hk.1.2, hk.2⟩))))) (Reps.none _ _))); intro v148 w66 ho67 hb hg_ hnew_; clear hg_ hnew_; (first | rw [← Ny147.out] at ho67 | (simp only [Int.reduceToNat] at ho67; rw [← Ny147.out] at ho67)); have n0_ := am (Kd.R_below (Kd.R_o HO143.out) hb); have n1_ := am (Kd.N_lower ho67 (below_size (by exact bl_g HB.out))); have n2_ := am (blk_below (blk_o BK101.out) hb); have n3_ := am (below_step (by exact bl_g HB.out) hb); clear HO143; clear BK101; clear HB; clear HO146; have HO143 := n0_; have HO149 := n1_; have BK101 := n2_; have HB := n3_; clear n0_ n1_ n2_ n3_; clear hb ho67; obtain ⟨Ao68, co68, eo68⟩ := Kd.R_slice HO143.out; subst eo68; obtain ⟨Ao69, co69, eo69⟩ := Kd.N_slice HO149.out; subst eo69) | ((with_reducible refine gate_callee (f := 79) rfl ?_); refine goesL_ (some 78) rfl rfl Try.func79 (by kernel_rfl) rfl #[.slice Ao68 y141.length co68, .slice Ao69 y147.length co69] rfl (by simp only [List.map_toArray, List.map_cons, List.map_nil]; try rfl) ?_; (with_reducible refine (cfa_put.calls k (fun k_ => some k_ = (.slice Ao68 y141.length co68 : Value).ownBlock) (.slice Ao68 y141.length co68) y141 _ _ y147 t150 w _ ?side1 ?side2 ?side3 ?side4 A58.out).mono ?_); (case side1 => repeat (first | (with_reducible first | exact HB.out | apply below_alloc | apply pw_below_drewN | apply below_drew1 | refine below_set ?_ GE101.out) | exact HB.out)); (case side2 => exact Kd.R_tight rfl HO143.out); (case side3 => exact Kd.C_kept_ownV (base := 0) (Kd.N_V (base := w.heap.size) (HO149.out)) (fun k_ hk_ hs_ => (hk_.1) hs_)); (case side4 => exact (Kd.N_reads' HO149.out).2.1); rintro e w70 ⟨v151, rfl, ho0, hb, hkp⟩; refine ⟨_, rfl, ?_⟩; have n0_ := am (blk_kept (blk_o BK101.out) hkp (fun hs_ => (fun e_ => (Kd.R_ne HO143.out BK101.out (by decide)) e_) hs_)); have n1_ := am (Kd.N_mono (ok' := fun k_ => k_ ≠ gb101 ∧ some k_ ≠ (v151 : Value).ownBlock) (Kd.N_keptB (HO149.out) hkp (fun k_ hk_ hs_ => (hk_.1) hs_)) (fun k_ hk_ => ⟨hk_.1.2, fun e_ => Or.elim (ho0.1 k_ e_.symm) (fun hs_ => hk_.2.1 hs_) (fun hn_ => Nat.not_le.2 hk_.2.2 hn_)⟩)); have n2_ := am (Kd.R_mono (ok' := fun k_ => True) ho0 (fun k_ hk_ => trivial)); have n3_ := am (hb); clear BK101; clear HO149; clear HB; clear HO143; have BK101 := n0_; have HO149 := n1_; have HO152 := n2_; have HB := n3_; clear n0_ n1_ n2_ n3_; (try clear hb); (try clear hkp); (try clear ho0)))
     go_ret
     exact ⟨_, rfl, by (with_reducible repeat (first | apply Kd.R_alloc | apply Kd.R_drewN | apply Kd.R_drew)); exact HO152.out, by exact bl_g HB.out⟩
    ·
     rw [if_neg c56] at H
     have c56b0 : (a0_0 == 3) = false := beq_eq_false_iff_ne.mpr c56
     have c56b1 : (a0_0 != 3) = true := bne_iff_ne.mpr c56
     by_cases c71 : a0_0 = 5
     ·
      rw [if_pos c71] at H
      have c71b0 : (a0_0 == 5) = true := beq_iff_eq.mpr c71
      have c71b1 : (a0_0 != 5) = false := bne_eq_false_iff_eq.mpr c71
      clear c71
      by_cases c72 : a0_2 ≤ 0
      ·
       rw [if_pos c72] at H
       have c72b0 : decide (a0_2 ≤ 0) = true := decide_eq_true c72
       clear c72
       obtain ⟨y153, hy153⟩ : ∃ y_ : List Int, y_ = (([(128 + (a0_1)) % 256] : List Int)) := ⟨_, rfl⟩
       replace H : ((leb_Uleb.f k (wrap64 (Int.tdiv (wrap64 (-a0_2)) 8))).bind fun t156 => ((cfa_put.f k y153 (([t156] : List (List Int)))).bind fun t162 => (some t162))) = some r := by first | (rw [hy153]; with_reducible exact H) | (have H2_ := (Option.bind_some _ _).symm.trans H; rw [hy153]; with_reducible exact H2_)
       have Ny153 := am hy153
       clear hy153
       replace H := Option.bind_eq_some_iff.mp H
       obtain ⟨t156, A730, H⟩ := H
       replace H : ((cfa_put.f k y153 (([t156] : List (List Int)))).bind fun t162 => (some t162)) = some r := H
       have A73 := am A730
       clear A730
       obtain ⟨y159, hy159⟩ : ∃ y_ : List (List Int), y_ = (([t156] : List (List Int))) := ⟨_, rfl⟩
       replace H : ((cfa_put.f k y153 y159).bind fun t162 => (some t162)) = some r := by first | (rw [hy159]; with_reducible exact H) | (have H2_ := (Option.bind_some _ _).symm.trans H; rw [hy159]; with_reducible exact H2_)
       have Ny159 := am hy159
       clear hy159
       replace H := Option.bind_eq_some_iff.mp H
       obtain ⟨t162, A740, H⟩ := H
       replace H : (some t162) = some r := H
       have A74 := am A740
       clear A740
       obtain rfl := Option.some.inj H
       go_enter Try.func59, Try.ntmps59
       try go_wp2_with (first | ((with_reducible refine gate_dst (N := 1) rfl ?_); refine box_event ?hg (N := 1) ?hd (cs := #[.int .i64 a0_0, .int .i64 a0_1, .int .i64 a0_2]) (t := 105) ?hr ?_; (case hd => rfl); (case hg => rfl); (case hr => go_simp; try rfl); intro gb101 hg w75 hbox hb; have n0_ := am (below_step (by exact bl_o HB.out) hb); have n1_ := am (hbox); have n2_ := lei (by rw [hg]; exact (below_size (by exact bl_o HB.out)) : w.heap.size ≤ gb101); have n3_ := n2_; clear HB; have HB := n0_; have BK101 := n1_; have GW101 := n2_; have GE101 := n3_; clear n0_ n1_ n2_ n3_; clear hb hbox hg; obtain ⟨hcz76_0, hcz76_1, hcz76_2, hfz76_0, hfz76_1, hfz76_2⟩ := cells3 BK101.out))
       have n0_ := am (blk_drew BK101.out)
       have n1_ := am (below_drew1 HB.out)
       clear BK101
       clear HB
       have BK101 := n0_
       have HB := n1_
       clear n0_ n1_
       refine start_ (n := 13) (S := fun w' => w'.cell? ⟨gb101, 0, none⟩ = some (.int .i64 a0_0) ∧ w'.cell? ⟨gb101, 1, none⟩ = some (.int .i64 a0_1) ∧ w'.cell? ⟨gb101, 2, none⟩ = some (.int .i64 a0_2)) (ds := []) #[false, false, false, false, false, false, false, false, false, false, false, false, false] (by kernel_rfl) rfl rfl ⟨(blk_cell BK101.out 0).trans rfl, (blk_cell BK101.out 1).trans rfl, (blk_cell BK101.out 2).trans rfl⟩ (fun hHeld => ?_); refine with_tabW cfa_Op_bytes.tab18 cfa_Op_bytes.bits18 (fun HT_ HW_ => ?_)
       generalize w75.drew = w77 at BK101 HB hHeld ⊢
       refine pure_ (i := 0) (N := some 84) (v := ?_) (a' := ?_) #[true, false, false, false, false, false, false, false, false, false, false, false, false] rfl rfl (any_of HT_.out (by kernel_rfl)) (fun _ _ _ h => h) (Or.inl ⟨by rfl, ?_⟩) ?_ ?_
       rotate_left
       ·
        intro w'
        go_simp
        with_reducible rfl
       rotate_left
       ·
        simp only [Act.put, List.setIfInBounds_toArray, List.set_cons_zero, List.set_cons_succ, i64_w, i32_w]
        rfl
       refine pure_ (i := 5) (N := some 89) (v := ?_) (a' := ?_) #[true, false, false, false, false, true, false, false, false, false, false, false, false] rfl rfl (any_of HT_.out (by kernel_rfl)) (fun _ _ _ h => h) (Or.inl ⟨by rfl, ?_⟩) ?_ ?_
       rotate_left
       ·
        intro w'
        go_simp
        with_reducible rfl
       rotate_left
       ·
        simp only [Act.put, List.setIfInBounds_toArray, List.set_cons_zero, List.set_cons_succ, i64_w, i32_w]
        rfl
       refine take_ (i := 1) (N := some 85) (v := ?_) (a' := ?_) #[true, true, false, false, false, true, false, false, false, false, false, false, false] rfl rfl (take_ofW HT_.out HW_.out (by kernel_rfl)) (fun _ _ _ h => h) (Or.inl ⟨by rfl, ?_⟩) hHeld ?_ ?_
       rotate_left
       ·
        rintro w' ⟨s0, s1, s2⟩
        go_simp
        with_reducible rfl
       rotate_left
       ·
        simp only [Act.put, List.setIfInBounds_toArray, List.set_cons_zero, List.set_cons_succ, i64_w, i32_w]
        rfl
       refine pure_ (i := 2) (N := some 86) (v := ?_) (a' := ?_) #[true, true, true, false, false, true, false, false, false, false, false, false, false] rfl rfl (any_of HT_.out (by kernel_rfl)) (fun _ _ _ h => h) (Or.inl ⟨by rfl, ?_⟩) ?_ ?_
       rotate_left
       ·
        intro w'
        go_simp
        with_reducible rfl
       rotate_left
       ·
        simp only [Act.put, List.setIfInBounds_toArray, List.set_cons_zero, List.set_cons_succ, i64_w, i32_w]
        rfl
       refine pure_ (i := 3) (N := some 87) (v := ?_) (a' := ?_) #[true, true, true, true, false, true, false, false, false, false, false, false, false] rfl rfl (any_of HT_.out (by kernel_rfl)) (fun _ _ _ h => h) (Or.inl ⟨by rfl, ?_⟩) ?_ ?_
       rotate_left
       ·
        intro w'
        go_simp
        with_reducible rfl
       rotate_left
       ·
        simp only [Act.put, List.setIfInBounds_toArray, List.set_cons_zero, List.set_cons_succ, i64_w, i32_w]
        rfl
       refine take_ (i := 6) (N := some 90) (v := ?_) (a' := ?_) #[true, true, true, true, false, true, true, false, false, false, false, false, false] rfl rfl (take_ofW HT_.out HW_.out (by kernel_rfl)) (fun _ _ _ h => h) (Or.inl ⟨by rfl, ?_⟩) hHeld ?_ ?_
       rotate_left
       ·
        rintro w' ⟨s0, s1, s2⟩
        go_simp
        with_reducible rfl
       rotate_left
       ·
        simp only [Act.put, List.setIfInBounds_toArray, List.set_cons_zero, List.set_cons_succ, i64_w, i32_w]
        rfl
       refine pure_ (i := 7) (N := some 91) (v := ?_) (a' := ?_) #[true, true, true, true, false, true, true, true, false, false, false, false, false] rfl rfl (any_of HT_.out (by kernel_rfl)) (fun _ _ _ h => h) (Or.inl ⟨by rfl, ?_⟩) ?_ ?_
       rotate_left
       ·
        intro w'
        go_simp
        with_reducible rfl
       rotate_left
       ·
        simp only [Act.put, List.setIfInBounds_toArray, List.set_cons_zero, List.set_cons_succ, i64_w, i32_w]
        rfl
       refine pure_ (i := 8) (N := some 92) (v := ?_) (a' := ?_) #[true, true, true, true, false, true, true, true, true, false, false, false, false] rfl rfl (any_of HT_.out (by kernel_rfl)) (fun _ _ _ h => h) (Or.inl ⟨by rfl, ?_⟩) ?_ ?_
       rotate_left
       ·
        intro w'
        go_simp
        with_reducible rfl
       rotate_left
       ·
        simp only [Act.put, List.setIfInBounds_toArray, List.set_cons_zero, List.set_cons_succ, i64_w, i32_w]
        rfl
       refine join_ (σ := Value × Value × Value) 2 #[true, true, true, true, true, true, true, true, true, true, true, false, false] (fun s_ => [(88, s_.1), (93, s_.2.1), (94, s_.2.2)]) (fun s_ w' => (w'.cell? ⟨gb101, 0, none⟩ = some (.int .i64 a0_0) ∧ w'.cell? ⟨gb101, 1, none⟩ = some (.int .i64 a0_1) ∧ w'.cell? ⟨gb101, 2, none⟩ = some (.int .i64 a0_2)) ∧ (Kd.R (Kd.int .u8) 5 w' w.heap.size (fun _ => True) s_.1 y153) ∧ (Kd.N (Kd.slice 5 (Kd.int .u8)) 28 w' w.heap.size (fun k_ => some k_ ≠ (s_.1 : Value).ownBlock ∧ k_ ≠ gb101) s_.2.2 y159) ∧ (w'.heap[gb101]? = some (.cells #[.int .i64 a0_0, .int .i64 a0_1, .int .i64 a0_2] 105 (0, 0))) ∧ (Below w.heap.size w w')) ?_ ?_
       rotate_left
       ·
        intro hCont
        refine two_ (i := 4) (j := 9) (Ni := some 88) (Nj := some 93) #[true, true, true, true, true, true, true, true, true, false, false, false, false] #[true, true, true, true, false, true, true, true, true, true, false, false, false] rfl rfl rfl rfl (two_of HT_.out (by kernel_rfl)) (by decide) (by decide) (fun K hK => ?_) (fun K hK => ?_)
        ·
         skip
         refine Kd.R_lit_step (Kd.int .u8) _ 5 ?hg (N := 88) ?hd (xs := ([(128 + (a0_1)) % 256] : List Int)) (inner := [.int .u8 ((128 + (a0_1)) % 256)]) (ok := fun _ => True) (okp := fun _ => True) ?hr ?hp (fun _ hk => hk) trivial (Below.refl _ _) (Nat.le_refl _) (by simp) ?_; (case hd => rfl); (case hg => rfl); (case hr => have hwu : IntKind.u8.wrap (128 + IntKind.u8.wrap a0_1) = (128 + a0_1) % 256 := (by rw [IntKind.wrap_u8, IntKind.wrap_u8]; omega); first | (go_simp; done) | (go_simp; rfl) | (go_simp; rw [hwu])); (case hp => exact (Reps.one (show Kd.M (Kd.int .u8) _ _ _ ((128 + (a0_1)) % 256) [.int .u8 ((128 + (a0_1)) % 256)] from rfl) (Reps.none _ _)))
         intro v154 w78 ho79 hb hg_ hnew_
         clear hg_ hnew_
         (first | rw [← Ny153.out] at ho79 | (simp only [Int.reduceToNat] at ho79; rw [← Ny153.out] at ho79))
         have n0_ := am (Kd.R_lower ho79 (below_size (by exact bl_g HB.out)))
         have n1_ := am (blk_below (blk_o BK101.out) hb)
         have n2_ := am (below_step (by exact bl_g HB.out) hb)
         clear BK101
         clear HB
         have HO155 := n0_
         have BK101 := n1_
         have HB := n2_
         clear n0_ n1_ n2_
         clear hb ho79
         refine hK.out _ _ ⟨(blk_cell BK101.out 0).trans rfl, (blk_cell BK101.out 1).trans rfl, (blk_cell BK101.out 2).trans rfl⟩ (fun hHeld => ?_)
         clear hK K
         refine norm_ (a' := ?_) ?_ ?_
         rotate_left
         ·
          show Act.put _ (some 88) _ = _
          simp only [Act.put, List.setIfInBounds_toArray, List.set_cons_zero, List.set_cons_succ, i64_w, i32_w]
          rfl
         refine one_ (i := 9) (N := some 93) #[true, true, true, true, true, true, true, true, true, true, false, false, false] rfl rfl (one_of HT_.out (by kernel_rfl)) (by decide) (fun K hK => ?_)
         refine goes_ Try.func38 (by kernel_rfl) rfl #[.int .i64 (wrap64 (Int.tdiv (wrap64 (-a0_2)) 8))] (by rfl) rfl rfl (by simp only [List.map_toArray, List.map_cons, List.map_nil]; try rfl) ?_
         with_reducible refine (leb_Uleb.calls k (wrap64 (Int.tdiv (wrap64 (-a0_2)) 8)) t156 _ A73.out).mono ?_
         rintro e w80 ⟨v157, rfl, ho0, hb⟩
         refine ⟨_, rfl, ?_⟩
         have n0_ := am (Kd.R_elder' (Kd.R_o HO155.out) (Kd.R_base ho0) hb)
         have n1_ := am (Kd.R_lower (Kd.R_new' ho0 (Kd.R_lt (Kd.R_o HO155.out))) (below_size (by exact bl_g HB.out)))
         have n2_ := am (blk_below (blk_o BK101.out) hb)
         have n3_ := am (below_step (by exact bl_g HB.out) hb)
         clear HO155
         clear BK101
         clear HB
         have HO155 := n0_
         have HO158 := n1_
         have BK101 := n2_
         have HB := n3_
         clear n0_ n1_ n2_ n3_
         (try clear hb)
         (try clear hb2)
         (try clear hk)
         (try clear hi)
         (try clear ho0)
         obtain ⟨Ao81, co81, eo81⟩ := Kd.R_slice HO158.out
         (first | subst eo81 | (injection eo81 with f1_ f2_ f3_; have f4_ := f1_.symm; have f5_ := f3_.symm; clear f1_ f2_ f3_; subst f4_; subst f5_))
         refine hK.out _ _ ⟨(blk_cell BK101.out 0).trans rfl, (blk_cell BK101.out 1).trans rfl, (blk_cell BK101.out 2).trans rfl⟩ (fun hHeld => ?_)
         clear hK K
         refine norm_ (a' := ?_) ?_ ?_
         rotate_left
         ·
          show Act.put _ (some 93) _ = _
          simp only [Act.put, List.setIfInBounds_toArray, List.set_cons_zero, List.set_cons_succ, i64_w, i32_w]
          rfl
         refine one_ (i := 10) (N := some 94) #[true, true, true, true, true, true, true, true, true, true, true, false, false] rfl rfl (one_of HT_.out (by kernel_rfl)) (by decide) (fun K hK => ?_)
         refine Kd.N_lit_step (Kd.slice 5 (Kd.int .u8)) _ 28 ?hg (N' := 94) ?hd (xs := ([t156] : List (List Int))) (inner := [.slice Ao81 t156.length co81]) (ok := (fun k_ => some k_ ≠ (v154 : Value).ownBlock ∧ k_ ≠ gb101)) (okp := (fun k_ => some k_ ≠ (v154 : Value).ownBlock ∧ k_ ≠ gb101)) ?hr ?hp (fun _ hk => hk) ((show ∀ k_, w80.heap.size ≤ k_ → (fun k_ => some k_ ≠ (v154 : Value).ownBlock ∧ k_ ≠ gb101) k_ from fun k_ hk => ⟨Kd.fresh' (Kd.R_lt (Kd.R_o HO155.out)) k_ hk, Kd.freshB (g := gb101) (o := .cells #[.int .i64 a0_0, .int .i64 a0_1, .int .i64 a0_2] 105 (0, 0)) (blk_o BK101.out) k_ hk⟩) _ (Nat.le_refl _)) (Below.refl _ _) (Nat.le_refl _) (by simp) ?_; (case hd => rfl); (case hg => rfl); (case hr => go_simp; try rfl); (case hp => exact (Reps.one (show Kd.FK (Kd.slice 5 (Kd.int .u8)) _ _ t156 [.slice Ao81 t156.length co81] from (Kd.FK_slice_mk (Kd.R_reads' (Kd.R_mono (ok' := (fun k_ => some k_ ≠ (v154 : Value).ownBlock ∧ k_ ≠ gb101)) (Kd.R_types (HO158.out) BK101.out (by decide)) (fun k_ hk => ⟨hk.1.2, hk.2⟩))).2.1 (Kd.R_F (Kd.R_mono (ok' := (fun k_ => some k_ ≠ (v154 : Value).ownBlock ∧ k_ ≠ gb101)) (Kd.R_types (HO158.out) BK101.out (by decide)) (fun k_ hk => ⟨hk.1.2, hk.2⟩))))) (Reps.none _ _)))
         intro v160 w82 ho83 hb hg_ hnew_
         clear hg_ hnew_
         (first | rw [← Ny159.out] at ho83 | (simp only [Int.reduceToNat] at ho83; rw [← Ny159.out] at ho83))
         have n0_ := am (Kd.R_below (Kd.R_o HO155.out) hb)
         have n1_ := am (Kd.N_lower ho83 (below_size (by exact bl_g HB.out)))
         have n2_ := am (blk_below (blk_o BK101.out) hb)
         have n3_ := am (below_step (by exact bl_g HB.out) hb)
         clear HO155
         clear BK101
         clear HB
         clear HO158
         have HO155 := n0_
         have HO161 := n1_
         have BK101 := n2_
         have HB := n3_
         clear n0_ n1_ n2_ n3_
         clear hb ho83
         refine hK.out _ _ ⟨(blk_cell BK101.out 0).trans rfl, (blk_cell BK101.out 1).trans rfl, (blk_cell BK101.out 2).trans rfl⟩ (fun hHeld => ?_)
         clear hK K
         refine norm_ (a' := ?_) ?_ ?_
         rotate_left
         ·
          show Act.put _ (some 94) _ = _
          simp only [Act.put, List.setIfInBounds_toArray, List.set_cons_zero, List.set_cons_succ, i64_w, i32_w]
          rfl
         exact norm_ (by simp only [putAll, Act.put, List.setIfInBounds_toArray, List.set_cons_zero, List.set_cons_succ]) (hCont (v154, .slice Ao81 t156.length co81, v160) _ ⟨hHeld, (Kd.R_o (Kd.R_mono HO155.out (fun _ hk => trivial))), (by (with_reducible repeat (first | apply Kd.N_alloc | apply Kd.N_drewN | apply Kd.N_drew)); exact HO161.out), (blk_o BK101.out), (by exact bl_g HB.out)⟩)
        ·
         skip
         refine goes_ Try.func38 (by kernel_rfl) rfl #[.int .i64 (wrap64 (Int.tdiv (wrap64 (-a0_2)) 8))] (by rfl) rfl rfl (by simp only [List.map_toArray, List.map_cons, List.map_nil]; try rfl) ?_
         with_reducible refine (leb_Uleb.calls k (wrap64 (Int.tdiv (wrap64 (-a0_2)) 8)) t156 _ A73.out).mono ?_
         rintro e w78 ⟨v157, rfl, ho0, hb⟩
         refine ⟨_, rfl, ?_⟩
         have n0_ := am (Kd.R_lower ho0 (below_size (by exact bl_g HB.out)))
         have n1_ := am (blk_below (blk_o BK101.out) hb)
         have n2_ := am (below_step (by exact bl_g HB.out) hb)
         clear BK101
         clear HB
         have HO158 := n0_
         have BK101 := n1_
         have HB := n2_
         clear n0_ n1_ n2_
         (try clear hb)
         (try clear hb2)
         (try clear hk)
         (try clear hi)
         (try clear ho0)
         refine hK.out _ _ ⟨(blk_cell BK101.out 0).trans rfl, (blk_cell BK101.out 1).trans rfl, (blk_cell BK101.out 2).trans rfl⟩ (fun hHeld => ?_)
         clear hK K
         refine norm_ (a' := ?_) ?_ ?_
         rotate_left
         ·
          show Act.put _ (some 93) _ = _
          simp only [Act.put, List.setIfInBounds_toArray, List.set_cons_zero, List.set_cons_succ, i64_w, i32_w]
          rfl
         refine two_ (i := 4) (j := 10) (Ni := some 88) (Nj := some 94) #[true, true, true, true, true, true, true, true, true, true, false, false, false] #[true, true, true, true, false, true, true, true, true, true, true, false, false] rfl rfl rfl rfl (two_of HT_.out (by kernel_rfl)) (by decide) (by decide) (fun K hK => ?_) (fun K hK => ?_)
         ·
          skip
          refine Kd.R_lit_step (Kd.int .u8) _ 5 ?hg (N := 88) ?hd (xs := ([(128 + (a0_1)) % 256] : List Int)) (inner := [.int .u8 ((128 + (a0_1)) % 256)]) (ok := fun _ => True) (okp := fun _ => True) ?hr ?hp (fun _ hk => hk) trivial (Below.refl _ _) (Nat.le_refl _) (by simp) ?_; (case hd => rfl); (case hg => rfl); (case hr => have hwu : IntKind.u8.wrap (128 + IntKind.u8.wrap a0_1) = (128 + a0_1) % 256 := (by rw [IntKind.wrap_u8, IntKind.wrap_u8]; omega); first | (go_simp; done) | (go_simp; rfl) | (go_simp; rw [hwu])); (case hp => exact (Reps.one (show Kd.M (Kd.int .u8) _ _ _ ((128 + (a0_1)) % 256) [.int .u8 ((128 + (a0_1)) % 256)] from rfl) (Reps.none _ _)))
          intro v154 w79 ho80 hb hg_ hnew_
          clear hg_ hnew_
          (first | rw [← Ny153.out] at ho80 | (simp only [Int.reduceToNat] at ho80; rw [← Ny153.out] at ho80))
          have n0_ := am (Kd.R_elder' (Kd.R_o HO158.out) (Kd.R_base ho80) hb)
          have n1_ := am (Kd.R_lower (Kd.R_new' ho80 (Kd.R_lt (Kd.R_o HO158.out))) (below_size (by exact bl_g HB.out)))
          have n2_ := am (blk_below (blk_o BK101.out) hb)
          have n3_ := am (below_step (by exact bl_g HB.out) hb)
          clear HO158
          clear BK101
          clear HB
          have HO158 := n0_
          have HO155 := n1_
          have BK101 := n2_
          have HB := n3_
          clear n0_ n1_ n2_ n3_
          clear hb ho80
          obtain ⟨Ao81, co81, eo81⟩ := Kd.R_slice HO158.out
          (first | subst eo81 | (injection eo81 with f1_ f2_ f3_; have f4_ := f1_.symm; have f5_ := f3_.symm; clear f1_ f2_ f3_; subst f4_; subst f5_))
          refine hK.out _ _ ⟨(blk_cell BK101.out 0).trans rfl, (blk_cell BK101.out 1).trans rfl, (blk_cell BK101.out 2).trans rfl⟩ (fun hHeld => ?_)
          clear hK K
          refine norm_ (a' := ?_) ?_ ?_
          rotate_left
          ·
           show Act.put _ (some 88) _ = _
           simp only [Act.put, List.setIfInBounds_toArray, List.set_cons_zero, List.set_cons_succ, i64_w, i32_w]
           rfl
          refine one_ (i := 10) (N := some 94) #[true, true, true, true, true, true, true, true, true, true, true, false, false] rfl rfl (one_of HT_.out (by kernel_rfl)) (by decide) (fun K hK => ?_)
          refine Kd.N_lit_step (Kd.slice 5 (Kd.int .u8)) _ 28 ?hg (N' := 94) ?hd (xs := ([t156] : List (List Int))) (inner := [.slice Ao81 t156.length co81]) (ok := (fun k_ => some k_ ≠ (v154 : Value).ownBlock ∧ k_ ≠ gb101)) (okp := (fun k_ => some k_ ≠ (v154 : Value).ownBlock ∧ k_ ≠ gb101)) ?hr ?hp (fun _ hk => hk) ((show ∀ k_, w79.heap.size ≤ k_ → (fun k_ => some k_ ≠ (v154 : Value).ownBlock ∧ k_ ≠ gb101) k_ from fun k_ hk => ⟨Kd.fresh' (Kd.R_lt (Kd.R_o HO155.out)) k_ hk, Kd.freshB (g := gb101) (o := .cells #[.int .i64 a0_0, .int .i64 a0_1, .int .i64 a0_2] 105 (0, 0)) (blk_o BK101.out) k_ hk⟩) _ (Nat.le_refl _)) (Below.refl _ _) (Nat.le_refl _) (by simp) ?_; (case hd => rfl); (case hg => rfl); (case hr => go_simp; try rfl); (case hp => exact (Reps.one (show Kd.FK (Kd.slice 5 (Kd.int .u8)) _ _ t156 [.slice Ao81 t156.length co81] from (Kd.FK_slice_mk (Kd.R_reads' (Kd.R_mono (ok' := (fun k_ => some k_ ≠ (v154 : Value).ownBlock ∧ k_ ≠ gb101)) (Kd.R_types (HO158.out) BK101.out (by decide)) (fun k_ hk => ⟨hk.1.2, hk.2⟩))).2.1 (Kd.R_F (Kd.R_mono (ok' := (fun k_ => some k_ ≠ (v154 : Value).ownBlock ∧ k_ ≠ gb101)) (Kd.R_types (HO158.out) BK101.out (by decide)) (fun k_ hk => ⟨hk.1.2, hk.2⟩))))) (Reps.none _ _)))
          intro v160 w82 ho83 hb hg_ hnew_
          clear hg_ hnew_
          (first | rw [← Ny159.out] at ho83 | (simp only [Int.reduceToNat] at ho83; rw [← Ny159.out] at ho83))
          have n0_ := am (Kd.R_below (Kd.R_o HO155.out) hb)
          have n1_ := am (Kd.N_lower ho83 (below_size (by exact bl_g HB.out)))
          have n2_ := am (blk_below (blk_o BK101.out) hb)
          have n3_ := am (below_step (by exact bl_g HB.out) hb)
          clear HO155
          clear BK101
          clear HB
          clear HO158
          have HO155 := n0_
          have HO161 := n1_
          have BK101 := n2_
          have HB := n3_
          clear n0_ n1_ n2_ n3_
          clear hb ho83
          refine hK.out _ _ ⟨(blk_cell BK101.out 0).trans rfl, (blk_cell BK101.out 1).trans rfl, (blk_cell BK101.out 2).trans rfl⟩ (fun hHeld => ?_)
          clear hK K
          refine norm_ (a' := ?_) ?_ ?_
          rotate_left
          ·
           show Act.put _ (some 94) _ = _
           simp only [Act.put, List.setIfInBounds_toArray, List.set_cons_zero, List.set_cons_succ, i64_w, i32_w]
           rfl
          exact norm_ (by simp only [putAll, Act.put, List.setIfInBounds_toArray, List.set_cons_zero, List.set_cons_succ]) (hCont (v154, .slice Ao81 t156.length co81, v160) _ ⟨hHeld, (Kd.R_o (Kd.R_mono HO155.out (fun _ hk => trivial))), (by (with_reducible repeat (first | apply Kd.N_alloc | apply Kd.N_drewN | apply Kd.N_drew)); exact HO161.out), (blk_o BK101.out), (by exact bl_g HB.out)⟩)
         ·
          skip
          obtain ⟨Ao79, co79, eo79⟩ := Kd.R_slice HO158.out
          (first | subst eo79 | (injection eo79 with f1_ f2_ f3_; have f4_ := f1_.symm; have f5_ := f3_.symm; clear f1_ f2_ f3_; subst f4_; subst f5_))
          refine Kd.N_lit_step (Kd.slice 5 (Kd.int .u8)) _ 28 ?hg (N' := 94) ?hd (xs := ([t156] : List (List Int))) (inner := [.slice Ao79 t156.length co79]) (ok := (fun k_ => k_ ≠ gb101)) (okp := (fun k_ => k_ ≠ gb101)) ?hr ?hp (fun _ hk => hk) ((show ∀ k_, w78.heap.size ≤ k_ → (fun k_ => k_ ≠ gb101) k_ from fun k_ hk => Kd.freshB (g := gb101) (o := .cells #[.int .i64 a0_0, .int .i64 a0_1, .int .i64 a0_2] 105 (0, 0)) (blk_o BK101.out) k_ hk) _ (Nat.le_refl _)) (Below.refl _ _) (Nat.le_refl _) (by simp) ?_; (case hd => rfl); (case hg => rfl); (case hr => go_simp; try rfl); (case hp => exact (Reps.one (show Kd.FK (Kd.slice 5 (Kd.int .u8)) _ _ t156 [.slice Ao79 t156.length co79] from (Kd.FK_slice_mk (Kd.R_reads' (Kd.R_mono (ok' := (fun k_ => k_ ≠ gb101)) (Kd.R_types (HO158.out) BK101.out (by decide)) (fun k_ hk => hk.2))).2.1 (Kd.R_F (Kd.R_mono (ok' := (fun k_ => k_ ≠ gb101)) (Kd.R_types (HO158.out) BK101.out (by decide)) (fun k_ hk => hk.2))))) (Reps.none _ _)))
          intro v160 w80 ho81 hb hg_ hnew_
          clear hg_ hnew_
          (first | rw [← Ny159.out] at ho81 | (simp only [Int.reduceToNat] at ho81; rw [← Ny159.out] at ho81))
          have n0_ := am (Kd.N_lower ho81 (below_size (by exact bl_g HB.out)))
          have n1_ := am (blk_below (blk_o BK101.out) hb)
          have n2_ := am (below_step (by exact bl_g HB.out) hb)
          clear BK101
          clear HB
          clear HO158
          have HO161 := n0_
          have BK101 := n1_
          have HB := n2_
          clear n0_ n1_ n2_
          clear hb ho81
          refine hK.out _ _ ⟨(blk_cell BK101.out 0).trans rfl, (blk_cell BK101.out 1).trans rfl, (blk_cell BK101.out 2).trans rfl⟩ (fun hHeld => ?_)
          clear hK K
          refine norm_ (a' := ?_) ?_ ?_
          rotate_left
          ·
           show Act.put _ (some 94) _ = _
           simp only [Act.put, List.setIfInBounds_toArray, List.set_cons_zero, List.set_cons_succ, i64_w, i32_w]
           rfl
          refine one_ (i := 4) (N := some 88) #[true, true, true, true, true, true, true, true, true, true, true, false, false] rfl rfl (one_of HT_.out (by kernel_rfl)) (by decide) (fun K hK => ?_)
          refine Kd.R_lit_step (Kd.int .u8) _ 5 ?hg (N := 88) ?hd (xs := ([(128 + (a0_1)) % 256] : List Int)) (inner := [.int .u8 ((128 + (a0_1)) % 256)]) (ok := fun _ => True) (okp := fun _ => True) ?hr ?hp (fun _ hk => hk) trivial (Below.refl _ _) (Nat.le_refl _) (by simp) ?_; (case hd => rfl); (case hg => rfl); (case hr => have hwu : IntKind.u8.wrap (128 + IntKind.u8.wrap a0_1) = (128 + a0_1) % 256 := (by rw [IntKind.wrap_u8, IntKind.wrap_u8]; omega); first | (go_simp; done) | (go_simp; rfl) | (go_simp; rw [hwu])); (case hp => exact (Reps.one (show Kd.M (Kd.int .u8) _ _ _ ((128 + (a0_1)) % 256) [.int .u8 ((128 + (a0_1)) % 256)] from rfl) (Reps.none _ _)))
          intro v154 w82 ho83 hb hg_ hnew_
          clear hg_ hnew_
          (first | rw [← Ny153.out] at ho83 | (simp only [Int.reduceToNat] at ho83; rw [← Ny153.out] at ho83))
          have n0_ := am (Kd.N_elder' (by (with_reducible repeat (first | apply Kd.N_alloc | apply Kd.N_drewN | apply Kd.N_drew)); exact HO161.out) (Kd.R_base ho83) hb)
          have n1_ := am (Kd.R_lower ho83 (below_size (by exact bl_g HB.out)))
          have n2_ := am (blk_below (blk_o BK101.out) hb)
          have n3_ := am (below_step (by exact bl_g HB.out) hb)
          clear HO161
          clear BK101
          clear HB
          have HO161 := n0_
          have HO155 := n1_
          have BK101 := n2_
          have HB := n3_
          clear n0_ n1_ n2_ n3_
          clear hb ho83
          refine hK.out _ _ ⟨(blk_cell BK101.out 0).trans rfl, (blk_cell BK101.out 1).trans rfl, (blk_cell BK101.out 2).trans rfl⟩ (fun hHeld => ?_)
          clear hK K
          refine norm_ (a' := ?_) ?_ ?_
          rotate_left
          ·
           show Act.put _ (some 88) _ = _
           simp only [Act.put, List.setIfInBounds_toArray, List.set_cons_zero, List.set_cons_succ, i64_w, i32_w]
           rfl
          exact norm_ (by simp only [putAll, Act.put, List.setIfInBounds_toArray, List.set_cons_zero, List.set_cons_succ]) (hCont (v154, .slice Ao79 t156.length co79, v160) _ ⟨hHeld, (Kd.R_o HO155.out), (by (with_reducible repeat (first | apply Kd.N_alloc | apply Kd.N_drewN | apply Kd.N_drew)); exact Kd.N_mono HO161.out (fun _ hk => ⟨hk.2, hk.1⟩)), (blk_o BK101.out), (by exact bl_g HB.out)⟩)
       rintro ⟨v154, v157, v160⟩ w84 ⟨hS_, h0_, h1_, h2_, h3_⟩
       have n0_ : Aside0 (Kd.R (Kd.int .u8) 5 w84 w.heap.size (fun _ => True) v154 y153) := ⟨h0_⟩
       have n1_ : Aside0 (Kd.N (Kd.slice 5 (Kd.int .u8)) 28 w84 w.heap.size (fun k_ => some k_ ≠ (v154 : Value).ownBlock ∧ k_ ≠ gb101) v160 y159) := ⟨h1_⟩
       have n2_ : Aside0 (w84.heap[gb101]? = some (.cells #[.int .i64 a0_0, .int .i64 a0_1, .int .i64 a0_2] 105 (0, 0))) := ⟨h2_⟩
       have n3_ : Aside0 (Below w.heap.size w w84) := ⟨h3_⟩
       clear BK101
       clear HB
       clear h0_ h1_ h2_ h3_
       have HO155 := n0_
       have HO161 := n1_
       have BK101 := n2_
       have HB := n3_
       clear n0_ n1_ n2_ n3_
       have hHeld : w84.cell? ⟨gb101, 0, none⟩ = some (.int .i64 a0_0) ∧ w84.cell? ⟨gb101, 1, none⟩ = some (.int .i64 a0_1) ∧ w84.cell? ⟨gb101, 2, none⟩ = some (.int .i64 a0_2) := hS_
       obtain ⟨Ao85, co85, eo85⟩ := Kd.R_slice HO155.out
       (first | subst eo85 | (injection eo85 with f1_ f2_ f3_; have f4_ := f1_.symm; have f5_ := f3_.symm; clear f1_ f2_ f3_; subst f4_; subst f5_))
       obtain ⟨Ao86, co86, eo86⟩ := Kd.N_slice HO161.out
       (first | subst eo86 | (injection eo86 with f1_ f2_ f3_; have f4_ := f1_.symm; have f5_ := f3_.symm; clear f1_ f2_ f3_; subst f4_; subst f5_))
       refine norm_ (a' := ?_) ?_ ?_
       rotate_left
       ·
        simp only [c2b0, c2b1, c22b0, c22b1, c41b0, c41b1, c56b0, c56b1, c71b0, c71b1, putAll, Act.put, List.setIfInBounds_toArray, List.set_cons_zero, List.set_cons_succ]
        rfl
       refine one_ (i := 11) (N := some 95) #[true, true, true, true, true, true, true, true, true, true, true, true, false] rfl rfl (one_of HT_.out (by kernel_rfl)) (by decide) (fun K hK => ?_)
       refine goes_ Try.func79 (by kernel_rfl) rfl #[.slice Ao85 y153.length co85, .slice Ao86 y159.length co86] (by rfl) rfl rfl (by simp only [List.map_toArray, List.map_cons, List.map_nil]; try rfl) ?_
       with_reducible refine (cfa_put.calls k (fun k_ => some k_ = (.slice Ao85 y153.length co85 : Value).ownBlock) (.slice Ao85 y153.length co85) y153 _ _ y159 t162 w _ ?side1 ?side2 ?side3 ?side4 A74.out).mono ?_
       (case side1 => repeat (first | (with_reducible first | exact HB.out | apply below_alloc | apply pw_below_drewN | apply below_drew1 | refine below_set ?_ GE101.out) | exact HB.out))
       (case side2 => exact Kd.R_tight rfl HO155.out)
       (case side3 => exact Kd.C_kept_ownV (base := 0) (Kd.N_V (base := w.heap.size) (HO161.out)) (fun k_ hk_ hs_ => (hk_.1) hs_))
       (case side4 => exact (Kd.N_reads' HO161.out).2.1)
       rintro e w87 ⟨v163, rfl, ho0, hb, hkp⟩
       refine ⟨_, rfl, ?_⟩
       have n0_ := am (blk_kept (blk_o BK101.out) hkp (fun hs_ => (fun e_ => (Kd.R_ne HO155.out BK101.out (by decide)) e_) hs_))
       have n1_ := am (Kd.N_mono (ok' := fun k_ => k_ ≠ gb101 ∧ some k_ ≠ (v163 : Value).ownBlock) (Kd.N_keptB (HO161.out) hkp (fun k_ hk_ hs_ => (hk_.1) hs_)) (fun k_ hk_ => ⟨hk_.1.2, fun e_ => Or.elim (ho0.1 k_ e_.symm) (fun hs_ => hk_.2.1 hs_) (fun hn_ => Nat.not_le.2 hk_.2.2 hn_)⟩))
       have n2_ := am (Kd.R_mono (ok' := fun k_ => True) ho0 (fun k_ hk_ => trivial))
       have n3_ := am (hb)
       clear BK101
       clear HO161
       clear HB
       clear HO155
       have BK101 := n0_
       have HO161 := n1_
       have HO164 := n2_
       have HB := n3_
       clear n0_ n1_ n2_ n3_
       (try clear hb)
       (try clear hkp)
       (try clear ho0)
       refine hK.out _ _ ⟨(blk_cell BK101.out 0).trans rfl, (blk_cell BK101.out 1).trans rfl, (blk_cell BK101.out 2).trans rfl⟩ (fun hHeld => ?_)
       clear hK K
       refine norm_ (a' := ?_) ?_ ?_
       rotate_left
       ·
        show Act.put _ (some 95) _ = _
        simp only [Act.put, List.setIfInBounds_toArray, List.set_cons_zero, List.set_cons_succ, i64_w, i32_w]
        rfl
       refine pure_ (i := 12) (N := some 2) (v := ?_) (a' := ?_) #[true, true, true, true, true, true, true, true, true, true, true, true, true] rfl rfl (any_of HT_.out (by kernel_rfl)) (fun _ _ _ h => h) (Or.inl ⟨by rfl, ?_⟩) ?_ ?_
       rotate_left
       ·
        intro w'
        go_simp
        with_reducible rfl
       rotate_left
       ·
        simp only [Act.put, List.setIfInBounds_toArray, List.set_cons_zero, List.set_cons_succ, i64_w, i32_w]
        rfl
       refine done_ (done_of HT_.out (by kernel_rfl)) ?_
       try go_wp2
       go_ret
       exact ⟨_, rfl, by (with_reducible repeat (first | apply Kd.R_alloc | apply Kd.R_drewN | apply Kd.R_drew)); exact HO164.out, by exact bl_g HB.out⟩
      ·
       rw [if_neg c72] at H
       have c72b0 : decide (a0_2 ≤ 0) = false := decide_eq_false c72
       clear c72
       obtain ⟨y165, hy165⟩ : ∃ y_ : List Int, y_ = (([17] : List Int)) := ⟨_, rfl⟩
       replace H : ((leb_Uleb.f k a0_1).bind fun t168 => ((leb_Sleb.f k (wrap64 (Int.tdiv (wrap64 (-a0_2)) 8))).bind fun t171 => ((cfa_put.f k y165 (([t168, t171] : List (List Int)))).bind fun t177 => (some t177)))) = some r := by first | (rw [hy165]; with_reducible exact H) | (have H2_ := (Option.bind_some _ _).symm.trans H; rw [hy165]; with_reducible exact H2_)
       have Ny165 := am hy165
       clear hy165
       replace H := Option.bind_eq_some_iff.mp H
       obtain ⟨t168, A880, H⟩ := H
       replace H : ((leb_Sleb.f k (wrap64 (Int.tdiv (wrap64 (-a0_2)) 8))).bind fun t171 => ((cfa_put.f k y165 (([t168, t171] : List (List Int)))).bind fun t177 => (some t177))) = some r := H
       have A88 := am A880
       clear A880
       replace H := Option.bind_eq_some_iff.mp H
       obtain ⟨t171, A890, H⟩ := H
       replace H : ((cfa_put.f k y165 (([t168, t171] : List (List Int)))).bind fun t177 => (some t177)) = some r := H
       have A89 := am A890
       clear A890
       obtain ⟨y174, hy174⟩ : ∃ y_ : List (List Int), y_ = (([t168, t171] : List (List Int))) := ⟨_, rfl⟩
       replace H : ((cfa_put.f k y165 y174).bind fun t177 => (some t177)) = some r := by first | (rw [hy174]; with_reducible exact H) | (have H2_ := (Option.bind_some _ _).symm.trans H; rw [hy174]; with_reducible exact H2_)
       have Ny174 := am hy174
       clear hy174
       replace H := Option.bind_eq_some_iff.mp H
       obtain ⟨t177, A900, H⟩ := H
       replace H : (some t177) = some r := H
       have A90 := am A900
       clear A900
       obtain rfl := Option.some.inj H
       go_enter Try.func59, Try.ntmps59
       try go_wp2_with (first | ((with_reducible refine gate_dst (N := 1) rfl ?_); refine box_event ?hg (N := 1) ?hd (cs := #[.int .i64 a0_0, .int .i64 a0_1, .int .i64 a0_2]) (t := 105) ?hr ?_; (case hd => rfl); (case hg => rfl); (case hr => go_simp; try rfl); intro gb101 hg w91 hbox hb; have n0_ := am (below_step (by exact bl_o HB.out) hb); have n1_ := am (hbox); have n2_ := lei (by rw [hg]; exact (below_size (by exact bl_o HB.out)) : w.heap.size ≤ gb101); have n3_ := n2_; clear HB; have HB := n0_; have BK101 := n1_; have GW101 := n2_; have GE101 := n3_; clear n0_ n1_ n2_ n3_; clear hb hbox hg; obtain ⟨hcz92_0, hcz92_1, hcz92_2, hfz92_0, hfz92_1, hfz92_2⟩ := cells3 BK101.out))
       have n0_ := am (blk_drew BK101.out)
       have n1_ := am (below_drew1 HB.out)
       clear BK101
       clear HB
       have BK101 := n0_
       have HB := n1_
       clear n0_ n1_
       refine start_ (n := 12) (S := fun w' => w'.cell? ⟨gb101, 0, none⟩ = some (.int .i64 a0_0) ∧ w'.cell? ⟨gb101, 1, none⟩ = some (.int .i64 a0_1) ∧ w'.cell? ⟨gb101, 2, none⟩ = some (.int .i64 a0_2)) (ds := []) #[false, false, false, false, false, false, false, false, false, false, false, false] (by kernel_rfl) rfl rfl ⟨(blk_cell BK101.out 0).trans rfl, (blk_cell BK101.out 1).trans rfl, (blk_cell BK101.out 2).trans rfl⟩ (fun hHeld => ?_); refine with_tabW cfa_Op_bytes.tab19 cfa_Op_bytes.bits19 (fun HT_ HW_ => ?_)
       generalize w91.drew = w93 at BK101 HB hHeld ⊢
       refine pure_ (i := 1) (N := some 97) (v := ?_) (a' := ?_) #[false, true, false, false, false, false, false, false, false, false, false, false] rfl rfl (any_of HT_.out (by kernel_rfl)) (fun _ _ _ h => h) (Or.inl ⟨by rfl, ?_⟩) ?_ ?_
       rotate_left
       ·
        intro w'
        go_simp
        with_reducible rfl
       rotate_left
       ·
        simp only [Act.put, List.setIfInBounds_toArray, List.set_cons_zero, List.set_cons_succ, i64_w, i32_w]
        rfl
       refine pure_ (i := 4) (N := some 100) (v := ?_) (a' := ?_) #[false, true, false, false, true, false, false, false, false, false, false, false] rfl rfl (any_of HT_.out (by kernel_rfl)) (fun _ _ _ h => h) (Or.inl ⟨by rfl, ?_⟩) ?_ ?_
       rotate_left
       ·
        intro w'
        go_simp
        with_reducible rfl
       rotate_left
       ·
        simp only [Act.put, List.setIfInBounds_toArray, List.set_cons_zero, List.set_cons_succ, i64_w, i32_w]
        rfl
       refine take_ (i := 2) (N := some 98) (v := ?_) (a' := ?_) #[false, true, true, false, true, false, false, false, false, false, false, false] rfl rfl (take_ofW HT_.out HW_.out (by kernel_rfl)) (fun _ _ _ h => h) (Or.inl ⟨by rfl, ?_⟩) hHeld ?_ ?_
       rotate_left
       ·
        rintro w' ⟨s0, s1, s2⟩
        go_simp
        with_reducible rfl
       rotate_left
       ·
        simp only [Act.put, List.setIfInBounds_toArray, List.set_cons_zero, List.set_cons_succ, i64_w, i32_w]
        rfl
       refine take_ (i := 5) (N := some 101) (v := ?_) (a' := ?_) #[false, true, true, false, true, true, false, false, false, false, false, false] rfl rfl (take_ofW HT_.out HW_.out (by kernel_rfl)) (fun _ _ _ h => h) (Or.inl ⟨by rfl, ?_⟩) hHeld ?_ ?_
       rotate_left
       ·
        rintro w' ⟨s0, s1, s2⟩
        go_simp
        with_reducible rfl
       rotate_left
       ·
        simp only [Act.put, List.setIfInBounds_toArray, List.set_cons_zero, List.set_cons_succ, i64_w, i32_w]
        rfl
       refine pure_ (i := 6) (N := some 102) (v := ?_) (a' := ?_) #[false, true, true, false, true, true, true, false, false, false, false, false] rfl rfl (any_of HT_.out (by kernel_rfl)) (fun _ _ _ h => h) (Or.inl ⟨by rfl, ?_⟩) ?_ ?_
       rotate_left
       ·
        intro w'
        go_simp
        with_reducible rfl
       rotate_left
       ·
        simp only [Act.put, List.setIfInBounds_toArray, List.set_cons_zero, List.set_cons_succ, i64_w, i32_w]
        rfl
       refine pure_ (i := 7) (N := some 103) (v := ?_) (a' := ?_) #[false, true, true, false, true, true, true, true, false, false, false, false] rfl rfl (any_of HT_.out (by kernel_rfl)) (fun _ _ _ h => h) (Or.inl ⟨by rfl, ?_⟩) ?_ ?_
       rotate_left
       ·
        intro w'
        go_simp
        with_reducible rfl
       rotate_left
       ·
        simp only [Act.put, List.setIfInBounds_toArray, List.set_cons_zero, List.set_cons_succ, i64_w, i32_w]
        rfl
       refine join_ (σ := Value × Value × Value × Value) 2 #[true, true, true, true, true, true, true, true, true, true, false, false] (fun s_ => [(96, s_.1), (99, s_.2.1), (104, s_.2.2.1), (105, s_.2.2.2)]) (fun s_ w' => (w'.cell? ⟨gb101, 0, none⟩ = some (.int .i64 a0_0) ∧ w'.cell? ⟨gb101, 1, none⟩ = some (.int .i64 a0_1) ∧ w'.cell? ⟨gb101, 2, none⟩ = some (.int .i64 a0_2)) ∧ (Kd.R (Kd.int .u8) 5 w' w.heap.size (fun _ => True) s_.1 y165) ∧ (Kd.N (Kd.slice 5 (Kd.int .u8)) 28 w' w.heap.size (fun k_ => some k_ ≠ (s_.1 : Value).ownBlock ∧ k_ ≠ gb101) s_.2.2.2 y174) ∧ (w'.heap[gb101]? = some (.cells #[.int .i64 a0_0, .int .i64 a0_1, .int .i64 a0_2] 105 (0, 0))) ∧ (Below w.heap.size w w')) ?_ ?_
       rotate_left
       ·
        intro hCont
        refine two_ (i := 0) (j := 3) (Ni := some 96) (Nj := some 99) #[true, true, true, false, true, true, true, true, false, false, false, false] #[false, true, true, true, true, true, true, true, false, false, false, false] rfl rfl rfl rfl (two_of HT_.out (by kernel_rfl)) (by decide) (by decide) (fun K hK => ?_) (fun K hK => ?_)
        ·
         skip
         refine Kd.R_lit_step (Kd.int .u8) _ 5 ?hg (N := 96) ?hd (xs := ([17] : List Int)) (inner := [.int .u8 17]) (ok := fun _ => True) (okp := fun _ => True) ?hr ?hp (fun _ hk => hk) trivial (Below.refl _ _) (Nat.le_refl _) (by simp) ?_; (case hd => rfl); (case hg => rfl); (case hr => go_simp; try rfl); (case hp => exact (Reps.one (show Kd.M (Kd.int .u8) _ _ _ 17 [.int .u8 17] from rfl) (Reps.none _ _)))
         intro v166 w94 ho95 hb hg_ hnew_
         clear hg_ hnew_
         (first | rw [← Ny165.out] at ho95 | (simp only [Int.reduceToNat] at ho95; rw [← Ny165.out] at ho95))
         have n0_ := am (Kd.R_lower ho95 (below_size (by exact bl_g HB.out)))
         have n1_ := am (blk_below (blk_o BK101.out) hb)
         have n2_ := am (below_step (by exact bl_g HB.out) hb)
         clear BK101
         clear HB
         have HO167 := n0_
         have BK101 := n1_
         have HB := n2_
         clear n0_ n1_ n2_
         clear hb ho95
         refine hK.out _ _ ⟨(blk_cell BK101.out 0).trans rfl, (blk_cell BK101.out 1).trans rfl, (blk_cell BK101.out 2).trans rfl⟩ (fun hHeld => ?_)
         clear hK K
         refine norm_ (a' := ?_) ?_ ?_
         rotate_left
         ·
          show Act.put _ (some 96) _ = _
          simp only [Act.put, List.setIfInBounds_toArray, List.set_cons_zero, List.set_cons_succ, i64_w, i32_w]
          rfl
         refine one_ (i := 3) (N := some 99) #[true, true, true, true, true, true, true, true, false, false, false, false] rfl rfl (one_of HT_.out (by kernel_rfl)) (by decide) (fun K hK => ?_)
         refine goes_ Try.func38 (by kernel_rfl) rfl #[.int .i64 a0_1] (by rfl) rfl rfl (by simp only [List.map_toArray, List.map_cons, List.map_nil]; try rfl) ?_
         with_reducible refine (leb_Uleb.calls k a0_1 t168 _ A88.out).mono ?_
         rintro e w96 ⟨v169, rfl, ho0, hb⟩
         refine ⟨_, rfl, ?_⟩
         have n0_ := am (Kd.R_elder' (Kd.R_o HO167.out) (Kd.R_base ho0) hb)
         have n1_ := am (Kd.R_lower (Kd.R_new' ho0 (Kd.R_lt (Kd.R_o HO167.out))) (below_size (by exact bl_g HB.out)))
         have n2_ := am (blk_below (blk_o BK101.out) hb)
         have n3_ := am (below_step (by exact bl_g HB.out) hb)
         clear HO167
         clear BK101
         clear HB
         have HO167 := n0_
         have HO170 := n1_
         have BK101 := n2_
         have HB := n3_
         clear n0_ n1_ n2_ n3_
         (try clear hb)
         (try clear hb2)
         (try clear hk)
         (try clear hi)
         (try clear ho0)
         refine hK.out _ _ ⟨(blk_cell BK101.out 0).trans rfl, (blk_cell BK101.out 1).trans rfl, (blk_cell BK101.out 2).trans rfl⟩ (fun hHeld => ?_)
         clear hK K
         refine norm_ (a' := ?_) ?_ ?_
         rotate_left
         ·
          show Act.put _ (some 99) _ = _
          simp only [Act.put, List.setIfInBounds_toArray, List.set_cons_zero, List.set_cons_succ, i64_w, i32_w]
          rfl
         refine one_ (i := 8) (N := some 104) #[true, true, true, true, true, true, true, true, true, false, false, false] rfl rfl (one_of HT_.out (by kernel_rfl)) (by decide) (fun K hK => ?_)
         refine goes_ Try.func37 (by kernel_rfl) rfl #[.int .i64 (wrap64 (Int.tdiv (wrap64 (-a0_2)) 8))] (by rfl) rfl rfl (by simp only [List.map_toArray, List.map_cons, List.map_nil]; try rfl) ?_
         with_reducible refine (leb_Sleb.calls k (wrap64 (Int.tdiv (wrap64 (-a0_2)) 8)) t171 _ A89.out).mono ?_
         rintro e w97 ⟨v172, rfl, ho0, hb⟩
         refine ⟨_, rfl, ?_⟩
         have n0_ := am (Kd.R_elder' (Kd.R_o HO167.out) (Kd.R_base ho0) hb)
         have n1_ := am (Kd.R_elder' (Kd.R_o HO170.out) (Kd.R_base ho0) hb)
         have n2_ := am (Kd.R_lower (Kd.R_new' (Kd.R_new' ho0 (Kd.R_lt (Kd.R_o HO167.out))) (Kd.R_lt (Kd.R_o HO170.out))) (below_size (by exact bl_g HB.out)))
         have n3_ := am (blk_below (blk_o BK101.out) hb)
         have n4_ := am (below_step (by exact bl_g HB.out) hb)
         clear HO167
         clear HO170
         clear BK101
         clear HB
         have HO167 := n0_
         have HO170 := n1_
         have HO173 := n2_
         have BK101 := n3_
         have HB := n4_
         clear n0_ n1_ n2_ n3_ n4_
         (try clear hb)
         (try clear hb2)
         (try clear hk)
         (try clear hi)
         (try clear ho0)
         obtain ⟨Ao98, co98, eo98⟩ := Kd.R_slice HO170.out
         (first | subst eo98 | (injection eo98 with f1_ f2_ f3_; have f4_ := f1_.symm; have f5_ := f3_.symm; clear f1_ f2_ f3_; subst f4_; subst f5_))
         obtain ⟨Ao99, co99, eo99⟩ := Kd.R_slice HO173.out
         (first | subst eo99 | (injection eo99 with f1_ f2_ f3_; have f4_ := f1_.symm; have f5_ := f3_.symm; clear f1_ f2_ f3_; subst f4_; subst f5_))
         refine hK.out _ _ ⟨(blk_cell BK101.out 0).trans rfl, (blk_cell BK101.out 1).trans rfl, (blk_cell BK101.out 2).trans rfl⟩ (fun hHeld => ?_)
         clear hK K
         refine norm_ (a' := ?_) ?_ ?_
         rotate_left
         ·
          show Act.put _ (some 104) _ = _
          simp only [Act.put, List.setIfInBounds_toArray, List.set_cons_zero, List.set_cons_succ, i64_w, i32_w]
          rfl
         refine one_ (i := 9) (N := some 105) #[true, true, true, true, true, true, true, true, true, true, false, false] rfl rfl (one_of HT_.out (by kernel_rfl)) (by decide) (fun K hK => ?_)
         refine Kd.N_lit_step (Kd.slice 5 (Kd.int .u8)) _ 28 ?hg (N' := 105) ?hd (xs := ([t168, t171] : List (List Int))) (inner := [.slice Ao98 t168.length co98, .slice Ao99 t171.length co99]) (ok := (fun k_ => some k_ ≠ (v166 : Value).ownBlock ∧ k_ ≠ gb101)) (okp := (fun k_ => some k_ ≠ (v166 : Value).ownBlock ∧ k_ ≠ gb101)) ?hr ?hp (fun _ hk => hk) ((show ∀ k_, w97.heap.size ≤ k_ → (fun k_ => some k_ ≠ (v166 : Value).ownBlock ∧ k_ ≠ gb101) k_ from fun k_ hk => ⟨Kd.fresh' (Kd.R_lt (Kd.R_o HO167.out)) k_ hk, Kd.freshB (g := gb101) (o := .cells #[.int .i64 a0_0, .int .i64 a0_1, .int .i64 a0_2] 105 (0, 0)) (blk_o BK101.out) k_ hk⟩) _ (Nat.le_refl _)) (Below.refl _ _) (Nat.le_refl _) (by simp) ?_; (case hd => rfl); (case hg => rfl); (case hr => go_simp; try rfl); (case hp => exact (Reps.one (show Kd.FK (Kd.slice 5 (Kd.int .u8)) _ _ t168 [.slice Ao98 t168.length co98] from (Kd.FK_slice_mk (Kd.R_reads' (Kd.R_mono (ok' := (fun k_ => some k_ ≠ (v166 : Value).ownBlock ∧ k_ ≠ gb101)) (Kd.R_types (HO170.out) BK101.out (by decide)) (fun k_ hk => ⟨hk.1.1.2, hk.2⟩))).2.1 (Kd.R_F (Kd.R_mono (ok' := (fun k_ => some k_ ≠ (v166 : Value).ownBlock ∧ k_ ≠ gb101)) (Kd.R_types (HO170.out) BK101.out (by decide)) (fun k_ hk => ⟨hk.1.1.2, hk.2⟩))))) (Reps.one (show Kd.FK (Kd.slice 5 (Kd.int .u8)) _ _ t171 [.slice Ao99 t171.length co99] from (Kd.FK_slice_mk (Kd.R_reads' (Kd.R_mono (ok' := (fun k_ => some k_ ≠ (v166 : Value).ownBlock ∧ k_ ≠ gb101)) (Kd.R_types (HO173.out) BK101.out (by decide)) (fun k_ hk => ⟨hk.1.1.2, hk.2⟩))).2.1 (Kd.R_F (Kd.R_mono (ok' := (fun k_ => some k_ ≠ (v166 : Value).ownBlock ∧ k_ ≠ gb101)) (Kd.R_types (HO173.out) BK101.out (by decide)) (fun k_ hk => ⟨hk.1.1.2, hk.2⟩))))) (Reps.none _ _))))
         intro v175 w100 ho101 hb hg_ hnew_
         clear hg_ hnew_
         (first | rw [← Ny174.out] at ho101 | (simp only [Int.reduceToNat] at ho101; rw [← Ny174.out] at ho101))
         have n0_ := am (Kd.R_below (Kd.R_o HO167.out) hb)
         have n1_ := am (Kd.N_lower ho101 (below_size (by exact bl_g HB.out)))
         have n2_ := am (blk_below (blk_o BK101.out) hb)
         have n3_ := am (below_step (by exact bl_g HB.out) hb)
         clear HO167
         clear BK101
         clear HB
         clear HO170
         clear HO173
         have HO167 := n0_
         have HO176 := n1_
         have BK101 := n2_
         have HB := n3_
         clear n0_ n1_ n2_ n3_
         clear hb ho101
         refine hK.out _ _ ⟨(blk_cell BK101.out 0).trans rfl, (blk_cell BK101.out 1).trans rfl, (blk_cell BK101.out 2).trans rfl⟩ (fun hHeld => ?_)
         clear hK K
         refine norm_ (a' := ?_) ?_ ?_
         rotate_left
         ·
          show Act.put _ (some 105) _ = _
          simp only [Act.put, List.setIfInBounds_toArray, List.set_cons_zero, List.set_cons_succ, i64_w, i32_w]
          rfl
         exact norm_ (by simp only [putAll, Act.put, List.setIfInBounds_toArray, List.set_cons_zero, List.set_cons_succ]) (hCont (v166, .slice Ao98 t168.length co98, .slice Ao99 t171.length co99, v175) _ ⟨hHeld, (Kd.R_o (Kd.R_mono HO167.out (fun _ hk => trivial))), (by (with_reducible repeat (first | apply Kd.N_alloc | apply Kd.N_drewN | apply Kd.N_drew)); exact HO176.out), (blk_o BK101.out), (by exact bl_g HB.out)⟩)
        ·
         skip
         refine goes_ Try.func38 (by kernel_rfl) rfl #[.int .i64 a0_1] (by rfl) rfl rfl (by simp only [List.map_toArray, List.map_cons, List.map_nil]; try rfl) ?_
         with_reducible refine (leb_Uleb.calls k a0_1 t168 _ A88.out).mono ?_
         rintro e w94 ⟨v169, rfl, ho0, hb⟩
         refine ⟨_, rfl, ?_⟩
         have n0_ := am (Kd.R_lower ho0 (below_size (by exact bl_g HB.out)))
         have n1_ := am (blk_below (blk_o BK101.out) hb)
         have n2_ := am (below_step (by exact bl_g HB.out) hb)
         clear BK101
         clear HB
         have HO170 := n0_
         have BK101 := n1_
         have HB := n2_
         clear n0_ n1_ n2_
         (try clear hb)
         (try clear hb2)
         (try clear hk)
         (try clear hi)
         (try clear ho0)
         refine hK.out _ _ ⟨(blk_cell BK101.out 0).trans rfl, (blk_cell BK101.out 1).trans rfl, (blk_cell BK101.out 2).trans rfl⟩ (fun hHeld => ?_)
         clear hK K
         refine norm_ (a' := ?_) ?_ ?_
         rotate_left
         ·
          show Act.put _ (some 99) _ = _
          simp only [Act.put, List.setIfInBounds_toArray, List.set_cons_zero, List.set_cons_succ, i64_w, i32_w]
          rfl
         refine two_ (i := 0) (j := 8) (Ni := some 96) (Nj := some 104) #[true, true, true, true, true, true, true, true, false, false, false, false] #[false, true, true, true, true, true, true, true, true, false, false, false] rfl rfl rfl rfl (two_of HT_.out (by kernel_rfl)) (by decide) (by decide) (fun K hK => ?_) (fun K hK => ?_)
         ·
          skip
          refine Kd.R_lit_step (Kd.int .u8) _ 5 ?hg (N := 96) ?hd (xs := ([17] : List Int)) (inner := [.int .u8 17]) (ok := fun _ => True) (okp := fun _ => True) ?hr ?hp (fun _ hk => hk) trivial (Below.refl _ _) (Nat.le_refl _) (by simp) ?_; (case hd => rfl); (case hg => rfl); (case hr => go_simp; try rfl); (case hp => exact (Reps.one (show Kd.M (Kd.int .u8) _ _ _ 17 [.int .u8 17] from rfl) (Reps.none _ _)))
          intro v166 w95 ho96 hb hg_ hnew_
          clear hg_ hnew_
          (first | rw [← Ny165.out] at ho96 | (simp only [Int.reduceToNat] at ho96; rw [← Ny165.out] at ho96))
          have n0_ := am (Kd.R_elder' (Kd.R_o HO170.out) (Kd.R_base ho96) hb)
          have n1_ := am (Kd.R_lower (Kd.R_new' ho96 (Kd.R_lt (Kd.R_o HO170.out))) (below_size (by exact bl_g HB.out)))
          have n2_ := am (blk_below (blk_o BK101.out) hb)
          have n3_ := am (below_step (by exact bl_g HB.out) hb)
          clear HO170
          clear BK101
          clear HB
          have HO170 := n0_
          have HO167 := n1_
          have BK101 := n2_
          have HB := n3_
          clear n0_ n1_ n2_ n3_
          clear hb ho96
          refine hK.out _ _ ⟨(blk_cell BK101.out 0).trans rfl, (blk_cell BK101.out 1).trans rfl, (blk_cell BK101.out 2).trans rfl⟩ (fun hHeld => ?_)
          clear hK K
          refine norm_ (a' := ?_) ?_ ?_
          rotate_left
          ·
           show Act.put _ (some 96) _ = _
           simp only [Act.put, List.setIfInBounds_toArray, List.set_cons_zero, List.set_cons_succ, i64_w, i32_w]
           rfl
          refine one_ (i := 8) (N := some 104) #[true, true, true, true, true, true, true, true, true, false, false, false] rfl rfl (one_of HT_.out (by kernel_rfl)) (by decide) (fun K hK => ?_)
          refine goes_ Try.func37 (by kernel_rfl) rfl #[.int .i64 (wrap64 (Int.tdiv (wrap64 (-a0_2)) 8))] (by rfl) rfl rfl (by simp only [List.map_toArray, List.map_cons, List.map_nil]; try rfl) ?_
          with_reducible refine (leb_Sleb.calls k (wrap64 (Int.tdiv (wrap64 (-a0_2)) 8)) t171 _ A89.out).mono ?_
          rintro e w97 ⟨v172, rfl, ho0, hb⟩
          refine ⟨_, rfl, ?_⟩
          have n0_ := am (Kd.R_elder' (Kd.R_o HO170.out) (Kd.R_base ho0) hb)
          have n1_ := am (Kd.R_elder' (Kd.R_o HO167.out) (Kd.R_base ho0) hb)
          have n2_ := am (Kd.R_lower (Kd.R_new' (Kd.R_new' ho0 (Kd.R_lt (Kd.R_o HO170.out))) (Kd.R_lt (Kd.R_o HO167.out))) (below_size (by exact bl_g HB.out)))
          have n3_ := am (blk_below (blk_o BK101.out) hb)
          have n4_ := am (below_step (by exact bl_g HB.out) hb)
          clear HO170
          clear HO167
          clear BK101
          clear HB
          have HO170 := n0_
          have HO167 := n1_
          have HO173 := n2_
          have BK101 := n3_
          have HB := n4_
          clear n0_ n1_ n2_ n3_ n4_
          (try clear hb)
          (try clear hb2)
          (try clear hk)
          (try clear hi)
          (try clear ho0)
          obtain ⟨Ao98, co98, eo98⟩ := Kd.R_slice HO170.out
          (first | subst eo98 | (injection eo98 with f1_ f2_ f3_; have f4_ := f1_.symm; have f5_ := f3_.symm; clear f1_ f2_ f3_; subst f4_; subst f5_))
          obtain ⟨Ao99, co99, eo99⟩ := Kd.R_slice HO173.out
          (first | subst eo99 | (injection eo99 with f1_ f2_ f3_; have f4_ := f1_.symm; have f5_ := f3_.symm; clear f1_ f2_ f3_; subst f4_; subst f5_))
          refine hK.out _ _ ⟨(blk_cell BK101.out 0).trans rfl, (blk_cell BK101.out 1).trans rfl, (blk_cell BK101.out 2).trans rfl⟩ (fun hHeld => ?_)
          clear hK K
          refine norm_ (a' := ?_) ?_ ?_
          rotate_left
          ·
           show Act.put _ (some 104) _ = _
           simp only [Act.put, List.setIfInBounds_toArray, List.set_cons_zero, List.set_cons_succ, i64_w, i32_w]
           rfl
          refine one_ (i := 9) (N := some 105) #[true, true, true, true, true, true, true, true, true, true, false, false] rfl rfl (one_of HT_.out (by kernel_rfl)) (by decide) (fun K hK => ?_)
          refine Kd.N_lit_step (Kd.slice 5 (Kd.int .u8)) _ 28 ?hg (N' := 105) ?hd (xs := ([t168, t171] : List (List Int))) (inner := [.slice Ao98 t168.length co98, .slice Ao99 t171.length co99]) (ok := (fun k_ => some k_ ≠ (v166 : Value).ownBlock ∧ k_ ≠ gb101)) (okp := (fun k_ => some k_ ≠ (v166 : Value).ownBlock ∧ k_ ≠ gb101)) ?hr ?hp (fun _ hk => hk) ((show ∀ k_, w97.heap.size ≤ k_ → (fun k_ => some k_ ≠ (v166 : Value).ownBlock ∧ k_ ≠ gb101) k_ from fun k_ hk => ⟨Kd.fresh' (Kd.R_lt (Kd.R_o HO167.out)) k_ hk, Kd.freshB (g := gb101) (o := .cells #[.int .i64 a0_0, .int .i64 a0_1, .int .i64 a0_2] 105 (0, 0)) (blk_o BK101.out) k_ hk⟩) _ (Nat.le_refl _)) (Below.refl _ _) (Nat.le_refl _) (by simp) ?_; (case hd => rfl); (case hg => rfl); (case hr => go_simp; try rfl); (case hp => exact (Reps.one (show Kd.FK (Kd.slice 5 (Kd.int .u8)) _ _ t168 [.slice Ao98 t168.length co98] from (Kd.FK_slice_mk (Kd.R_reads' (Kd.R_mono (ok' := (fun k_ => some k_ ≠ (v166 : Value).ownBlock ∧ k_ ≠ gb101)) (Kd.R_types (HO170.out) BK101.out (by decide)) (fun k_ hk => ⟨hk.1.1.2, hk.2⟩))).2.1 (Kd.R_F (Kd.R_mono (ok' := (fun k_ => some k_ ≠ (v166 : Value).ownBlock ∧ k_ ≠ gb101)) (Kd.R_types (HO170.out) BK101.out (by decide)) (fun k_ hk => ⟨hk.1.1.2, hk.2⟩))))) (Reps.one (show Kd.FK (Kd.slice 5 (Kd.int .u8)) _ _ t171 [.slice Ao99 t171.length co99] from (Kd.FK_slice_mk (Kd.R_reads' (Kd.R_mono (ok' := (fun k_ => some k_ ≠ (v166 : Value).ownBlock ∧ k_ ≠ gb101)) (Kd.R_types (HO173.out) BK101.out (by decide)) (fun k_ hk => ⟨hk.1.2, hk.2⟩))).2.1 (Kd.R_F (Kd.R_mono (ok' := (fun k_ => some k_ ≠ (v166 : Value).ownBlock ∧ k_ ≠ gb101)) (Kd.R_types (HO173.out) BK101.out (by decide)) (fun k_ hk => ⟨hk.1.2, hk.2⟩))))) (Reps.none _ _))))
          intro v175 w100 ho101 hb hg_ hnew_
          clear hg_ hnew_
          (first | rw [← Ny174.out] at ho101 | (simp only [Int.reduceToNat] at ho101; rw [← Ny174.out] at ho101))
          have n0_ := am (Kd.R_below (Kd.R_o HO167.out) hb)
          have n1_ := am (Kd.N_lower ho101 (below_size (by exact bl_g HB.out)))
          have n2_ := am (blk_below (blk_o BK101.out) hb)
          have n3_ := am (below_step (by exact bl_g HB.out) hb)
          clear HO167
          clear BK101
          clear HB
          clear HO170
          clear HO173
          have HO167 := n0_
          have HO176 := n1_
          have BK101 := n2_
          have HB := n3_
          clear n0_ n1_ n2_ n3_
          clear hb ho101
          refine hK.out _ _ ⟨(blk_cell BK101.out 0).trans rfl, (blk_cell BK101.out 1).trans rfl, (blk_cell BK101.out 2).trans rfl⟩ (fun hHeld => ?_)
          clear hK K
          refine norm_ (a' := ?_) ?_ ?_
          rotate_left
          ·
           show Act.put _ (some 105) _ = _
           simp only [Act.put, List.setIfInBounds_toArray, List.set_cons_zero, List.set_cons_succ, i64_w, i32_w]
           rfl
          exact norm_ (by simp only [putAll, Act.put, List.setIfInBounds_toArray, List.set_cons_zero, List.set_cons_succ]) (hCont (v166, .slice Ao98 t168.length co98, .slice Ao99 t171.length co99, v175) _ ⟨hHeld, (Kd.R_o (Kd.R_mono HO167.out (fun _ hk => trivial))), (by (with_reducible repeat (first | apply Kd.N_alloc | apply Kd.N_drewN | apply Kd.N_drew)); exact HO176.out), (blk_o BK101.out), (by exact bl_g HB.out)⟩)
         ·
          skip
          refine goes_ Try.func37 (by kernel_rfl) rfl #[.int .i64 (wrap64 (Int.tdiv (wrap64 (-a0_2)) 8))] (by rfl) rfl rfl (by simp only [List.map_toArray, List.map_cons, List.map_nil]; try rfl) ?_
          with_reducible refine (leb_Sleb.calls k (wrap64 (Int.tdiv (wrap64 (-a0_2)) 8)) t171 _ A89.out).mono ?_
          rintro e w95 ⟨v172, rfl, ho0, hb⟩
          refine ⟨_, rfl, ?_⟩
          have n0_ := am (Kd.R_elder' (Kd.R_o HO170.out) (Kd.R_base ho0) hb)
          have n1_ := am (Kd.R_lower (Kd.R_new' ho0 (Kd.R_lt (Kd.R_o HO170.out))) (below_size (by exact bl_g HB.out)))
          have n2_ := am (blk_below (blk_o BK101.out) hb)
          have n3_ := am (below_step (by exact bl_g HB.out) hb)
          clear HO170
          clear BK101
          clear HB
          have HO170 := n0_
          have HO173 := n1_
          have BK101 := n2_
          have HB := n3_
          clear n0_ n1_ n2_ n3_
          (try clear hb)
          (try clear hb2)
          (try clear hk)
          (try clear hi)
          (try clear ho0)
          refine hK.out _ _ ⟨(blk_cell BK101.out 0).trans rfl, (blk_cell BK101.out 1).trans rfl, (blk_cell BK101.out 2).trans rfl⟩ (fun hHeld => ?_)
          clear hK K
          refine norm_ (a' := ?_) ?_ ?_
          rotate_left
          ·
           show Act.put _ (some 104) _ = _
           simp only [Act.put, List.setIfInBounds_toArray, List.set_cons_zero, List.set_cons_succ, i64_w, i32_w]
           rfl
          refine two_ (i := 0) (j := 9) (Ni := some 96) (Nj := some 105) #[true, true, true, true, true, true, true, true, true, false, false, false] #[false, true, true, true, true, true, true, true, true, true, false, false] rfl rfl rfl rfl (two_of HT_.out (by kernel_rfl)) (by decide) (by decide) (fun K hK => ?_) (fun K hK => ?_)
          ·
           skip
           refine Kd.R_lit_step (Kd.int .u8) _ 5 ?hg (N := 96) ?hd (xs := ([17] : List Int)) (inner := [.int .u8 17]) (ok := fun _ => True) (okp := fun _ => True) ?hr ?hp (fun _ hk => hk) trivial (Below.refl _ _) (Nat.le_refl _) (by simp) ?_; (case hd => rfl); (case hg => rfl); (case hr => go_simp; try rfl); (case hp => exact (Reps.one (show Kd.M (Kd.int .u8) _ _ _ 17 [.int .u8 17] from rfl) (Reps.none _ _)))
           intro v166 w96 ho97 hb hg_ hnew_
           clear hg_ hnew_
           (first | rw [← Ny165.out] at ho97 | (simp only [Int.reduceToNat] at ho97; rw [← Ny165.out] at ho97))
           have n0_ := am (Kd.R_elder' (Kd.R_o HO170.out) (Kd.R_base ho97) hb)
           have n1_ := am (Kd.R_elder' (Kd.R_o HO173.out) (Kd.R_base ho97) hb)
           have n2_ := am (Kd.R_lower (Kd.R_new' (Kd.R_new' ho97 (Kd.R_lt (Kd.R_o HO170.out))) (Kd.R_lt (Kd.R_o HO173.out))) (below_size (by exact bl_g HB.out)))
           have n3_ := am (blk_below (blk_o BK101.out) hb)
           have n4_ := am (below_step (by exact bl_g HB.out) hb)
           clear HO170
           clear HO173
           clear BK101
           clear HB
           have HO170 := n0_
           have HO173 := n1_
           have HO167 := n2_
           have BK101 := n3_
           have HB := n4_
           clear n0_ n1_ n2_ n3_ n4_
           clear hb ho97
           obtain ⟨Ao98, co98, eo98⟩ := Kd.R_slice HO170.out
           (first | subst eo98 | (injection eo98 with f1_ f2_ f3_; have f4_ := f1_.symm; have f5_ := f3_.symm; clear f1_ f2_ f3_; subst f4_; subst f5_))
           obtain ⟨Ao99, co99, eo99⟩ := Kd.R_slice HO173.out
           (first | subst eo99 | (injection eo99 with f1_ f2_ f3_; have f4_ := f1_.symm; have f5_ := f3_.symm; clear f1_ f2_ f3_; subst f4_; subst f5_))
           refine hK.out _ _ ⟨(blk_cell BK101.out 0).trans rfl, (blk_cell BK101.out 1).trans rfl, (blk_cell BK101.out 2).trans rfl⟩ (fun hHeld => ?_)
           clear hK K
           refine norm_ (a' := ?_) ?_ ?_
           rotate_left
           ·
            show Act.put _ (some 96) _ = _
            simp only [Act.put, List.setIfInBounds_toArray, List.set_cons_zero, List.set_cons_succ, i64_w, i32_w]
            rfl
           refine one_ (i := 9) (N := some 105) #[true, true, true, true, true, true, true, true, true, true, false, false] rfl rfl (one_of HT_.out (by kernel_rfl)) (by decide) (fun K hK => ?_)
           refine Kd.N_lit_step (Kd.slice 5 (Kd.int .u8)) _ 28 ?hg (N' := 105) ?hd (xs := ([t168, t171] : List (List Int))) (inner := [.slice Ao98 t168.length co98, .slice Ao99 t171.length co99]) (ok := (fun k_ => some k_ ≠ (v166 : Value).ownBlock ∧ k_ ≠ gb101)) (okp := (fun k_ => some k_ ≠ (v166 : Value).ownBlock ∧ k_ ≠ gb101)) ?hr ?hp (fun _ hk => hk) ((show ∀ k_, w96.heap.size ≤ k_ → (fun k_ => some k_ ≠ (v166 : Value).ownBlock ∧ k_ ≠ gb101) k_ from fun k_ hk => ⟨Kd.fresh' (Kd.R_lt (Kd.R_o HO167.out)) k_ hk, Kd.freshB (g := gb101) (o := .cells #[.int .i64 a0_0, .int .i64 a0_1, .int .i64 a0_2] 105 (0, 0)) (blk_o BK101.out) k_ hk⟩) _ (Nat.le_refl _)) (Below.refl _ _) (Nat.le_refl _) (by simp) ?_; (case hd => rfl); (case hg => rfl); (case hr => go_simp; try rfl); (case hp => exact (Reps.one (show Kd.FK (Kd.slice 5 (Kd.int .u8)) _ _ t168 [.slice Ao98 t168.length co98] from (Kd.FK_slice_mk (Kd.R_reads' (Kd.R_mono (ok' := (fun k_ => some k_ ≠ (v166 : Value).ownBlock ∧ k_ ≠ gb101)) (Kd.R_types (HO170.out) BK101.out (by decide)) (fun k_ hk => ⟨hk.1.2, hk.2⟩))).2.1 (Kd.R_F (Kd.R_mono (ok' := (fun k_ => some k_ ≠ (v166 : Value).ownBlock ∧ k_ ≠ gb101)) (Kd.R_types (HO170.out) BK101.out (by decide)) (fun k_ hk => ⟨hk.1.2, hk.2⟩))))) (Reps.one (show Kd.FK (Kd.slice 5 (Kd.int .u8)) _ _ t171 [.slice Ao99 t171.length co99] from (Kd.FK_slice_mk (Kd.R_reads' (Kd.R_mono (ok' := (fun k_ => some k_ ≠ (v166 : Value).ownBlock ∧ k_ ≠ gb101)) (Kd.R_types (HO173.out) BK101.out (by decide)) (fun k_ hk => ⟨hk.1.2, hk.2⟩))).2.1 (Kd.R_F (Kd.R_mono (ok' := (fun k_ => some k_ ≠ (v166 : Value).ownBlock ∧ k_ ≠ gb101)) (Kd.R_types (HO173.out) BK101.out (by decide)) (fun k_ hk => ⟨hk.1.2, hk.2⟩))))) (Reps.none _ _))))
           intro v175 w100 ho101 hb hg_ hnew_
           clear hg_ hnew_
           (first | rw [← Ny174.out] at ho101 | (simp only [Int.reduceToNat] at ho101; rw [← Ny174.out] at ho101))
           have n0_ := am (Kd.R_below (Kd.R_o HO167.out) hb)
           have n1_ := am (Kd.N_lower ho101 (below_size (by exact bl_g HB.out)))
           have n2_ := am (blk_below (blk_o BK101.out) hb)
           have n3_ := am (below_step (by exact bl_g HB.out) hb)
           clear HO167
           clear BK101
           clear HB
           clear HO170
           clear HO173
           have HO167 := n0_
           have HO176 := n1_
           have BK101 := n2_
           have HB := n3_
           clear n0_ n1_ n2_ n3_
           clear hb ho101
           refine hK.out _ _ ⟨(blk_cell BK101.out 0).trans rfl, (blk_cell BK101.out 1).trans rfl, (blk_cell BK101.out 2).trans rfl⟩ (fun hHeld => ?_)
           clear hK K
           refine norm_ (a' := ?_) ?_ ?_
           rotate_left
           ·
            show Act.put _ (some 105) _ = _
            simp only [Act.put, List.setIfInBounds_toArray, List.set_cons_zero, List.set_cons_succ, i64_w, i32_w]
            rfl
           exact norm_ (by simp only [putAll, Act.put, List.setIfInBounds_toArray, List.set_cons_zero, List.set_cons_succ]) (hCont (v166, .slice Ao98 t168.length co98, .slice Ao99 t171.length co99, v175) _ ⟨hHeld, (Kd.R_o (Kd.R_mono HO167.out (fun _ hk => trivial))), (by (with_reducible repeat (first | apply Kd.N_alloc | apply Kd.N_drewN | apply Kd.N_drew)); exact HO176.out), (blk_o BK101.out), (by exact bl_g HB.out)⟩)
          ·
           skip
           obtain ⟨Ao96, co96, eo96⟩ := Kd.R_slice HO170.out
           (first | subst eo96 | (injection eo96 with f1_ f2_ f3_; have f4_ := f1_.symm; have f5_ := f3_.symm; clear f1_ f2_ f3_; subst f4_; subst f5_))
           obtain ⟨Ao97, co97, eo97⟩ := Kd.R_slice HO173.out
           (first | subst eo97 | (injection eo97 with f1_ f2_ f3_; have f4_ := f1_.symm; have f5_ := f3_.symm; clear f1_ f2_ f3_; subst f4_; subst f5_))
           refine Kd.N_lit_step (Kd.slice 5 (Kd.int .u8)) _ 28 ?hg (N' := 105) ?hd (xs := ([t168, t171] : List (List Int))) (inner := [.slice Ao96 t168.length co96, .slice Ao97 t171.length co97]) (ok := (fun k_ => k_ ≠ gb101)) (okp := (fun k_ => k_ ≠ gb101)) ?hr ?hp (fun _ hk => hk) ((show ∀ k_, w95.heap.size ≤ k_ → (fun k_ => k_ ≠ gb101) k_ from fun k_ hk => Kd.freshB (g := gb101) (o := .cells #[.int .i64 a0_0, .int .i64 a0_1, .int .i64 a0_2] 105 (0, 0)) (blk_o BK101.out) k_ hk) _ (Nat.le_refl _)) (Below.refl _ _) (Nat.le_refl _) (by simp) ?_; (case hd => rfl); (case hg => rfl); (case hr => go_simp; try rfl); (case hp => exact (Reps.one (show Kd.FK (Kd.slice 5 (Kd.int .u8)) _ _ t168 [.slice Ao96 t168.length co96] from (Kd.FK_slice_mk (Kd.R_reads' (Kd.R_mono (ok' := (fun k_ => k_ ≠ gb101)) (Kd.R_types (HO170.out) BK101.out (by decide)) (fun k_ hk => hk.2))).2.1 (Kd.R_F (Kd.R_mono (ok' := (fun k_ => k_ ≠ gb101)) (Kd.R_types (HO170.out) BK101.out (by decide)) (fun k_ hk => hk.2))))) (Reps.one (show Kd.FK (Kd.slice 5 (Kd.int .u8)) _ _ t171 [.slice Ao97 t171.length co97] from (Kd.FK_slice_mk (Kd.R_reads' (Kd.R_mono (ok' := (fun k_ => k_ ≠ gb101)) (Kd.R_types (HO173.out) BK101.out (by decide)) (fun k_ hk => hk.2))).2.1 (Kd.R_F (Kd.R_mono (ok' := (fun k_ => k_ ≠ gb101)) (Kd.R_types (HO173.out) BK101.out (by decide)) (fun k_ hk => hk.2))))) (Reps.none _ _))))
           intro v175 w98 ho99 hb hg_ hnew_
           clear hg_ hnew_
           (first | rw [← Ny174.out] at ho99 | (simp only [Int.reduceToNat] at ho99; rw [← Ny174.out] at ho99))
           have n0_ := am (Kd.N_lower ho99 (below_size (by exact bl_g HB.out)))
           have n1_ := am (blk_below (blk_o BK101.out) hb)
           have n2_ := am (below_step (by exact bl_g HB.out) hb)
           clear BK101
           clear HB
           clear HO170
           clear HO173
           have HO176 := n0_
           have BK101 := n1_
           have HB := n2_
           clear n0_ n1_ n2_
           clear hb ho99
           refine hK.out _ _ ⟨(blk_cell BK101.out 0).trans rfl, (blk_cell BK101.out 1).trans rfl, (blk_cell BK101.out 2).trans rfl⟩ (fun hHeld => ?_)
           clear hK K
           refine norm_ (a' := ?_) ?_ ?_
           rotate_left
           ·
            show Act.put _ (some 105) _ = _
            simp only [Act.put, List.setIfInBounds_toArray, List.set_cons_zero, List.set_cons_succ, i64_w, i32_w]
            rfl
           refine one_ (i := 0) (N := some 96) #[true, true, true, true, true, true, true, true, true, true, false, false] rfl rfl (one_of HT_.out (by kernel_rfl)) (by decide) (fun K hK => ?_)
           refine Kd.R_lit_step (Kd.int .u8) _ 5 ?hg (N := 96) ?hd (xs := ([17] : List Int)) (inner := [.int .u8 17]) (ok := fun _ => True) (okp := fun _ => True) ?hr ?hp (fun _ hk => hk) trivial (Below.refl _ _) (Nat.le_refl _) (by simp) ?_; (case hd => rfl); (case hg => rfl); (case hr => go_simp; try rfl); (case hp => exact (Reps.one (show Kd.M (Kd.int .u8) _ _ _ 17 [.int .u8 17] from rfl) (Reps.none _ _)))
           intro v166 w100 ho101 hb hg_ hnew_
           clear hg_ hnew_
           (first | rw [← Ny165.out] at ho101 | (simp only [Int.reduceToNat] at ho101; rw [← Ny165.out] at ho101))
           have n0_ := am (Kd.N_elder' (by (with_reducible repeat (first | apply Kd.N_alloc | apply Kd.N_drewN | apply Kd.N_drew)); exact HO176.out) (Kd.R_base ho101) hb)
           have n1_ := am (Kd.R_lower ho101 (below_size (by exact bl_g HB.out)))
           have n2_ := am (blk_below (blk_o BK101.out) hb)
           have n3_ := am (below_step (by exact bl_g HB.out) hb)
           clear HO176
           clear BK101
           clear HB
           have HO176 := n0_
           have HO167 := n1_
           have BK101 := n2_
           have HB := n3_
           clear n0_ n1_ n2_ n3_
           clear hb ho101
           refine hK.out _ _ ⟨(blk_cell BK101.out 0).trans rfl, (blk_cell BK101.out 1).trans rfl, (blk_cell BK101.out 2).trans rfl⟩ (fun hHeld => ?_)
           clear hK K
           refine norm_ (a' := ?_) ?_ ?_
           rotate_left
           ·
            show Act.put _ (some 96) _ = _
            simp only [Act.put, List.setIfInBounds_toArray, List.set_cons_zero, List.set_cons_succ, i64_w, i32_w]
            rfl
           exact norm_ (by simp only [putAll, Act.put, List.setIfInBounds_toArray, List.set_cons_zero, List.set_cons_succ]) (hCont (v166, .slice Ao96 t168.length co96, .slice Ao97 t171.length co97, v175) _ ⟨hHeld, (Kd.R_o HO167.out), (by (with_reducible repeat (first | apply Kd.N_alloc | apply Kd.N_drewN | apply Kd.N_drew)); exact Kd.N_mono HO176.out (fun _ hk => ⟨hk.2, hk.1⟩)), (blk_o BK101.out), (by exact bl_g HB.out)⟩)
       rintro ⟨v166, v169, v172, v175⟩ w102 ⟨hS_, h0_, h1_, h2_, h3_⟩
       have n0_ : Aside0 (Kd.R (Kd.int .u8) 5 w102 w.heap.size (fun _ => True) v166 y165) := ⟨h0_⟩
       have n1_ : Aside0 (Kd.N (Kd.slice 5 (Kd.int .u8)) 28 w102 w.heap.size (fun k_ => some k_ ≠ (v166 : Value).ownBlock ∧ k_ ≠ gb101) v175 y174) := ⟨h1_⟩
       have n2_ : Aside0 (w102.heap[gb101]? = some (.cells #[.int .i64 a0_0, .int .i64 a0_1, .int .i64 a0_2] 105 (0, 0))) := ⟨h2_⟩
       have n3_ : Aside0 (Below w.heap.size w w102) := ⟨h3_⟩
       clear BK101
       clear HB
       clear h0_ h1_ h2_ h3_
       have HO167 := n0_
       have HO176 := n1_
       have BK101 := n2_
       have HB := n3_
       clear n0_ n1_ n2_ n3_
       have hHeld : w102.cell? ⟨gb101, 0, none⟩ = some (.int .i64 a0_0) ∧ w102.cell? ⟨gb101, 1, none⟩ = some (.int .i64 a0_1) ∧ w102.cell? ⟨gb101, 2, none⟩ = some (.int .i64 a0_2) := hS_
       obtain ⟨Ao103, co103, eo103⟩ := Kd.R_slice HO167.out
       (first | subst eo103 | (injection eo103 with f1_ f2_ f3_; have f4_ := f1_.symm; have f5_ := f3_.symm; clear f1_ f2_ f3_; subst f4_; subst f5_))
       obtain ⟨Ao104, co104, eo104⟩ := Kd.N_slice HO176.out
       (first | subst eo104 | (injection eo104 with f1_ f2_ f3_; have f4_ := f1_.symm; have f5_ := f3_.symm; clear f1_ f2_ f3_; subst f4_; subst f5_))
       refine norm_ (a' := ?_) ?_ ?_
       rotate_left
       ·
        simp only [c2b0, c2b1, c22b0, c22b1, c41b0, c41b1, c56b0, c56b1, c71b0, c71b1, putAll, Act.put, List.setIfInBounds_toArray, List.set_cons_zero, List.set_cons_succ]
        rfl
       refine one_ (i := 10) (N := some 106) #[true, true, true, true, true, true, true, true, true, true, true, false] rfl rfl (one_of HT_.out (by kernel_rfl)) (by decide) (fun K hK => ?_)
       refine goes_ Try.func79 (by kernel_rfl) rfl #[.slice Ao103 y165.length co103, .slice Ao104 y174.length co104] (by rfl) rfl rfl (by simp only [List.map_toArray, List.map_cons, List.map_nil]; try rfl) ?_
       with_reducible refine (cfa_put.calls k (fun k_ => some k_ = (.slice Ao103 y165.length co103 : Value).ownBlock) (.slice Ao103 y165.length co103) y165 _ _ y174 t177 w _ ?side1 ?side2 ?side3 ?side4 A90.out).mono ?_
       (case side1 => repeat (first | (with_reducible first | exact HB.out | apply below_alloc | apply pw_below_drewN | apply below_drew1 | refine below_set ?_ GE101.out) | exact HB.out))
       (case side2 => exact Kd.R_tight rfl HO167.out)
       (case side3 => exact Kd.C_kept_ownV (base := 0) (Kd.N_V (base := w.heap.size) (HO176.out)) (fun k_ hk_ hs_ => (hk_.1) hs_))
       (case side4 => exact (Kd.N_reads' HO176.out).2.1)
       rintro e w105 ⟨v178, rfl, ho0, hb, hkp⟩
       refine ⟨_, rfl, ?_⟩
       have n0_ := am (blk_kept (blk_o BK101.out) hkp (fun hs_ => (fun e_ => (Kd.R_ne HO167.out BK101.out (by decide)) e_) hs_))
       have n1_ := am (Kd.N_mono (ok' := fun k_ => k_ ≠ gb101 ∧ some k_ ≠ (v178 : Value).ownBlock) (Kd.N_keptB (HO176.out) hkp (fun k_ hk_ hs_ => (hk_.1) hs_)) (fun k_ hk_ => ⟨hk_.1.2, fun e_ => Or.elim (ho0.1 k_ e_.symm) (fun hs_ => hk_.2.1 hs_) (fun hn_ => Nat.not_le.2 hk_.2.2 hn_)⟩))
       have n2_ := am (Kd.R_mono (ok' := fun k_ => True) ho0 (fun k_ hk_ => trivial))
       have n3_ := am (hb)
       clear BK101
       clear HO176
       clear HB
       clear HO167
       have BK101 := n0_
       have HO176 := n1_
       have HO179 := n2_
       have HB := n3_
       clear n0_ n1_ n2_ n3_
       (try clear hb)
       (try clear hkp)
       (try clear ho0)
       refine hK.out _ _ ⟨(blk_cell BK101.out 0).trans rfl, (blk_cell BK101.out 1).trans rfl, (blk_cell BK101.out 2).trans rfl⟩ (fun hHeld => ?_)
       clear hK K
       refine norm_ (a' := ?_) ?_ ?_
       rotate_left
       ·
        show Act.put _ (some 106) _ = _
        simp only [Act.put, List.setIfInBounds_toArray, List.set_cons_zero, List.set_cons_succ, i64_w, i32_w]
        rfl
       refine pure_ (i := 11) (N := some 2) (v := ?_) (a' := ?_) #[true, true, true, true, true, true, true, true, true, true, true, true] rfl rfl (any_of HT_.out (by kernel_rfl)) (fun _ _ _ h => h) (Or.inl ⟨by rfl, ?_⟩) ?_ ?_
       rotate_left
       ·
        intro w'
        go_simp
        with_reducible rfl
       rotate_left
       ·
        simp only [Act.put, List.setIfInBounds_toArray, List.set_cons_zero, List.set_cons_succ, i64_w, i32_w]
        rfl
       refine done_ (done_of HT_.out (by kernel_rfl)) ?_
       try go_wp2
       go_ret
       exact ⟨_, rfl, by (with_reducible repeat (first | apply Kd.R_alloc | apply Kd.R_drewN | apply Kd.R_drew)); exact HO179.out, by exact bl_g HB.out⟩
     ·
      rw [if_neg c71] at H
      have c71b0 : (a0_0 == 5) = false := beq_eq_false_iff_ne.mpr c71
      have c71b1 : (a0_0 != 5) = true := bne_iff_ne.mpr c71
      by_cases c106 : a0_0 = 6
      ·
       rw [if_pos c106] at H
       have c106b0 : (a0_0 == 6) = true := beq_iff_eq.mpr c106
       have c106b1 : (a0_0 != 6) = false := bne_eq_false_iff_eq.mpr c106
       clear c106
       obtain ⟨y180, hy180⟩ : ∃ y_ : List Int, y_ = (([(192 + (a0_1)) % 256] : List Int)) := ⟨_, rfl⟩
       replace H : (some y180) = some r := by first | (rw [hy180]; with_reducible exact H) | (have H2_ := (Option.bind_some _ _).symm.trans H; rw [hy180]; with_reducible exact H2_)
       have Ny180 := am hy180
       clear hy180
       obtain rfl := Option.some.inj H
       go_enter Try.func59, Try.ntmps59
       go_wp2_with (first | ((with_reducible refine gate_dst (N := 1) rfl ?_); refine box_event ?hg (N := 1) ?hd (cs := #[.int .i64 a0_0, .int .i64 a0_1, .int .i64 a0_2]) (t := 105) ?hr ?_; (case hd => rfl); (case hg => rfl); (case hr => go_simp; try rfl); intro gb101 hg w107 hbox hb; have n0_ := am (below_step (by exact bl_o HB.out) hb); have n1_ := am (hbox); have n2_ := lei (by rw [hg]; exact (below_size (by exact bl_o HB.out)) : w.heap.size ≤ gb101); have n3_ := n2_; clear HB; have HB := n0_; have BK101 := n1_; have GW101 := n2_; have GE101 := n3_; clear n0_ n1_ n2_ n3_; clear hb hbox hg; obtain ⟨hcz108_0, hcz108_1, hcz108_2, hfz108_0, hfz108_1, hfz108_2⟩ := cells3 BK101.out) | ((with_reducible refine gate_dst (N := 113) rfl ?_); refine Kd.R_lit (Kd.int .u8) _ 5 ?hg (N := 113) ?hd (xs := ([(192 + (a0_1)) % 256] : List Int)) (inner := [.int .u8 ((192 + (a0_1)) % 256)]) (ok := fun _ => True) (okp := fun _ => True) ?hr ?hp (fun _ hk => hk) trivial (Below.refl _ _) (Nat.le_refl _) (by simp) ?_; (case hd => rfl); (case hg => rfl); (case hr => go_simp; try rfl); (case hp => exact (Reps.one (show Kd.M (Kd.int .u8) _ _ _ ((192 + (a0_1)) % 256) [.int .u8 ((192 + (a0_1)) % 256)] from rfl) (Reps.none _ _))); intro v181 w109 ho110 hb hg_ hnew_; clear hg_ hnew_; (first | rw [← Ny180.out] at ho110 | (simp only [Int.reduceToNat] at ho110; rw [← Ny180.out] at ho110)); have n0_ := am (Kd.R_lower ho110 (below_size (by exact bl_g HB.out))); have n1_ := am (blk_below (blk_o BK101.out) hb); have n2_ := am (below_step (by exact bl_g HB.out) hb); clear BK101; clear HB; have HO182 := n0_; have BK101 := n1_; have HB := n2_; clear n0_ n1_ n2_; clear hb ho110))
       go_ret
       exact ⟨_, rfl, by (with_reducible repeat (first | apply Kd.R_alloc | apply Kd.R_drewN | apply Kd.R_drew)); exact HO182.out, by exact bl_g HB.out⟩
      ·
       rw [if_neg c106] at H
       have c106b0 : (a0_0 == 6) = false := beq_eq_false_iff_ne.mpr c106
       have c106b1 : (a0_0 != 6) = true := bne_iff_ne.mpr c106
       by_cases c111 : a0_0 = 7
       ·
        rw [if_pos c111] at H
        have c111b0 : (a0_0 == 7) = true := beq_iff_eq.mpr c111
        have c111b1 : (a0_0 != 7) = false := bne_eq_false_iff_eq.mpr c111
        clear c111
        obtain ⟨y183, hy183⟩ : ∃ y_ : List Int, y_ = (([7] : List Int)) := ⟨_, rfl⟩
        replace H : ((leb_Uleb.f k a0_1).bind fun t186 => ((cfa_put.f k y183 (([t186] : List (List Int)))).bind fun t192 => (some t192))) = some r := by first | (rw [hy183]; with_reducible exact H) | (have H2_ := (Option.bind_some _ _).symm.trans H; rw [hy183]; with_reducible exact H2_)
        have Ny183 := am hy183
        clear hy183
        replace H := Option.bind_eq_some_iff.mp H
        obtain ⟨t186, A1120, H⟩ := H
        replace H : ((cfa_put.f k y183 (([t186] : List (List Int)))).bind fun t192 => (some t192)) = some r := H
        have A112 := am A1120
        clear A1120
        obtain ⟨y189, hy189⟩ : ∃ y_ : List (List Int), y_ = (([t186] : List (List Int))) := ⟨_, rfl⟩
        replace H : ((cfa_put.f k y183 y189).bind fun t192 => (some t192)) = some r := by first | (rw [hy189]; with_reducible exact H) | (have H2_ := (Option.bind_some _ _).symm.trans H; rw [hy189]; with_reducible exact H2_)
        have Ny189 := am hy189
        clear hy189
        replace H := Option.bind_eq_some_iff.mp H
        obtain ⟨t192, A1130, H⟩ := H
        replace H : (some t192) = some r := H
        have A113 := am A1130
        clear A1130
        obtain rfl := Option.some.inj H
        go_enter Try.func59, Try.ntmps59
        go_wp2_with (first | ((with_reducible refine gate_dst (N := 1) rfl ?_); refine box_event ?hg (N := 1) ?hd (cs := #[.int .i64 a0_0, .int .i64 a0_1, .int .i64 a0_2]) (t := 105) ?hr ?_; (case hd => rfl); (case hg => rfl); (case hr => go_simp; try rfl); intro gb101 hg w114 hbox hb; have n0_ := am (below_step (by exact bl_o HB.out) hb); have n1_ := am (hbox); have n2_ := lei (by rw [hg]; exact (below_size (by exact bl_o HB.out)) : w.heap.size ≤ gb101); have n3_ := n2_; clear HB; have HB := n0_; have BK101 := n1_; have GW101 := n2_; have GE101 := n3_; clear n0_ n1_ n2_ n3_; clear hb hbox hg; obtain ⟨hcz115_0, hcz115_1, hcz115_2, hfz115_0, hfz115_1, hfz115_2⟩ := cells3 BK101.out) | ((with_reducible refine gate_dst (N := 116) rfl ?_); refine Kd.R_lit (Kd.int .u8) _ 5 ?hg (N := 116) ?hd (xs := ([7] : List Int)) (inner := [.int .u8 7]) (ok := fun _ => True) (okp := fun _ => True) ?hr ?hp (fun _ hk => hk) trivial (Below.refl _ _) (Nat.le_refl _) (by simp) ?_; (case hd => rfl); (case hg => rfl); (case hr => go_simp; try rfl); (case hp => exact (Reps.one (show Kd.M (Kd.int .u8) _ _ _ 7 [.int .u8 7] from rfl) (Reps.none _ _))); intro v184 w116 ho117 hb hg_ hnew_; clear hg_ hnew_; (first | rw [← Ny183.out] at ho117 | (simp only [Int.reduceToNat] at ho117; rw [← Ny183.out] at ho117)); have n0_ := am (Kd.R_lower ho117 (below_size (by exact bl_g HB.out))); have n1_ := am (blk_below (blk_o BK101.out) hb); have n2_ := am (below_step (by exact bl_g HB.out) hb); clear BK101; clear HB; have HO185 := n0_; have BK101 := n1_; have HB := n2_; clear n0_ n1_ n2_; clear hb ho117; obtain ⟨hcz118_0, hcz118_1, hcz118_2, hfz118_0, hfz118_1, hfz118_2⟩ := cells3 BK101.out) | ((with_reducible refine gate_callee (f := 38) rfl ?_); refine goesL_ (some 119) rfl rfl Try.func38 (by kernel_rfl) rfl #[.int .i64 a0_1] rfl (by simp only [List.map_toArray, List.map_cons, List.map_nil]; try rfl) ?_; (with_reducible refine (leb_Uleb.calls k a0_1 t186 _ A112.out).mono ?_); rintro e w119 ⟨v187, rfl, ho0, hb⟩; refine ⟨_, rfl, ?_⟩; have n0_ := am (Kd.R_elder' (Kd.R_o HO185.out) (Kd.R_base ho0) hb); have n1_ := am (Kd.R_lower (Kd.R_new' ho0 (Kd.R_lt (Kd.R_o HO185.out))) (below_size (by exact bl_g HB.out))); have n2_ := am (blk_below (blk_o BK101.out) hb); have n3_ := am (below_step (by exact bl_g HB.out) hb); clear HO185; clear BK101; clear HB; have HO185 := n0_; have HO188 := n1_; have BK101 := n2_; have HB := n3_; clear n0_ n1_ n2_ n3_; (try clear hb); (try clear hb2); (try clear hk); (try clear hi); (try clear ho0); obtain ⟨Ao120, co120, eo120⟩ := Kd.R_slice HO188.out; subst eo120) | ((with_reducible refine gate_dst (N := 120) rfl ?_); refine Kd.N_lit (Kd.slice 5 (Kd.int .u8)) _ 28 ?hg (N' := 120) ?hd (xs := ([t186] : List (List Int))) (inner := [.slice Ao120 t186.length co120]) (ok := (fun k_ => some k_ ≠ (v184 : Value).ownBlock ∧ k_ ≠ gb101)) (okp := (fun k_ => some k_ ≠ (v184 : Value).ownBlock ∧ k_ ≠ gb101)) ?hr ?hp (fun _ hk => hk) ((show ∀ k_, w119.heap.size ≤ k_ → (fun k_ => some k_ ≠ (v184 : Value).ownBlock ∧ k_ ≠ gb101) k_ from fun k_ hk => ⟨Kd.fresh' (Kd.R_lt (Kd.R_o HO185.out)) k_ hk, Kd.freshB (g := gb101) (o := .cells #[.int .i64 a0_0, .int .i64 a0_1, .int .i64 a0_2] 105 (0, 0)) (blk_o BK101.out) k_ hk⟩) _ (Nat.le_refl _)) (Below.refl _ _) (Nat.le_refl _) (by simp) ?_; (case hd => rfl); (case hg => rfl); (case hr => go_simp; try rfl); (case hp => exact (Reps.one (show Kd.FK (Kd.slice 5 (Kd.int .u8)) _ _ t186 [.slice Ao120 t186.length co120] from (Kd.FK_slice_mk (Kd.R_reads' (Kd.R_mono (ok' := (fun k_ => some k_ ≠ (v184 : Value).ownBlock ∧ k_ ≠ gb101)) (Kd.R_types (HO188.out) BK101.out (by decide)) (fun k_ hk => ⟨hk.1.2, hk.2⟩))).2.1 (Kd.R_F (Kd.R_mono (ok' := (fun k_ => some k_ ≠ (v184 : Value).ownBlock ∧ k_ ≠ gb101)) (Kd.R_types (HO188.out) BK101.out (by decide)) (fun k_ hk => ⟨hk.1.2, hk.2⟩))))) (Reps.none _ _))); intro v190 w121 ho122 hb hg_ hnew_; clear hg_ hnew_; (first | rw [← Ny189.out] at ho122 | (simp only [Int.reduceToNat] at ho122; rw [← Ny189.out] at ho122)); have n0_ := am (Kd.R_below (Kd.R_o HO185.out) hb); have n1_ := am (Kd.N_lower ho122 (below_size (by exact bl_g HB.out))); have n2_ := am (blk_below (blk_o BK101.out) hb); have n3_ := am (below_step (by exact bl_g HB.out) hb); clear HO185; clear BK101; clear HB; clear HO188; have HO185 := n0_; have HO191 := n1_; have BK101 := n2_; have HB := n3_; clear n0_ n1_ n2_ n3_; clear hb ho122; obtain ⟨Ao123, co123, eo123⟩ := Kd.R_slice HO185.out; subst eo123; obtain ⟨Ao124, co124, eo124⟩ := Kd.N_slice HO191.out; subst eo124) | ((with_reducible refine gate_callee (f := 79) rfl ?_); refine goesL_ (some 121) rfl rfl Try.func79 (by kernel_rfl) rfl #[.slice Ao123 y183.length co123, .slice Ao124 y189.length co124] rfl (by simp only [List.map_toArray, List.map_cons, List.map_nil]; try rfl) ?_; (with_reducible refine (cfa_put.calls k (fun k_ => some k_ = (.slice Ao123 y183.length co123 : Value).ownBlock) (.slice Ao123 y183.length co123) y183 _ _ y189 t192 w _ ?side1 ?side2 ?side3 ?side4 A113.out).mono ?_); (case side1 => repeat (first | (with_reducible first | exact HB.out | apply below_alloc | apply pw_below_drewN | apply below_drew1 | refine below_set ?_ GE101.out) | exact HB.out)); (case side2 => exact Kd.R_tight rfl HO185.out); (case side3 => exact Kd.C_kept_ownV (base := 0) (Kd.N_V (base := w.heap.size) (HO191.out)) (fun k_ hk_ hs_ => (hk_.1) hs_)); (case side4 => exact (Kd.N_reads' HO191.out).2.1); rintro e w125 ⟨v193, rfl, ho0, hb, hkp⟩; refine ⟨_, rfl, ?_⟩; have n0_ := am (blk_kept (blk_o BK101.out) hkp (fun hs_ => (fun e_ => (Kd.R_ne HO185.out BK101.out (by decide)) e_) hs_)); have n1_ := am (Kd.N_mono (ok' := fun k_ => k_ ≠ gb101 ∧ some k_ ≠ (v193 : Value).ownBlock) (Kd.N_keptB (HO191.out) hkp (fun k_ hk_ hs_ => (hk_.1) hs_)) (fun k_ hk_ => ⟨hk_.1.2, fun e_ => Or.elim (ho0.1 k_ e_.symm) (fun hs_ => hk_.2.1 hs_) (fun hn_ => Nat.not_le.2 hk_.2.2 hn_)⟩)); have n2_ := am (Kd.R_mono (ok' := fun k_ => True) ho0 (fun k_ hk_ => trivial)); have n3_ := am (hb); clear BK101; clear HO191; clear HB; clear HO185; have BK101 := n0_; have HO191 := n1_; have HO194 := n2_; have HB := n3_; clear n0_ n1_ n2_ n3_; (try clear hb); (try clear hkp); (try clear ho0)))
        go_ret
        exact ⟨_, rfl, by (with_reducible repeat (first | apply Kd.R_alloc | apply Kd.R_drewN | apply Kd.R_drew)); exact HO194.out, by exact bl_g HB.out⟩
       ·
        rw [if_neg c111] at H
        have c111b0 : (a0_0 == 7) = false := beq_eq_false_iff_ne.mpr c111
        have c111b1 : (a0_0 != 7) = true := bne_iff_ne.mpr c111
        by_cases c126 : a0_0 = 8
        ·
         rw [if_pos c126] at H
         have c126b0 : (a0_0 == 8) = true := beq_iff_eq.mpr c126
         have c126b1 : (a0_0 != 8) = false := bne_eq_false_iff_eq.mpr c126
         clear c126
         obtain ⟨y195, hy195⟩ : ∃ y_ : List Int, y_ = (([8] : List Int)) := ⟨_, rfl⟩
         replace H : ((leb_Uleb.f k a0_1).bind fun t198 => ((cfa_put.f k y195 (([t198] : List (List Int)))).bind fun t204 => (some t204))) = some r := by first | (rw [hy195]; with_reducible exact H) | (have H2_ := (Option.bind_some _ _).symm.trans H; rw [hy195]; with_reducible exact H2_)
         have Ny195 := am hy195
         clear hy195
         replace H := Option.bind_eq_some_iff.mp H
         obtain ⟨t198, A1270, H⟩ := H
         replace H : ((cfa_put.f k y195 (([t198] : List (List Int)))).bind fun t204 => (some t204)) = some r := H
         have A127 := am A1270
         clear A1270
         obtain ⟨y201, hy201⟩ : ∃ y_ : List (List Int), y_ = (([t198] : List (List Int))) := ⟨_, rfl⟩
         replace H : ((cfa_put.f k y195 y201).bind fun t204 => (some t204)) = some r := by first | (rw [hy201]; with_reducible exact H) | (have H2_ := (Option.bind_some _ _).symm.trans H; rw [hy201]; with_reducible exact H2_)
         have Ny201 := am hy201
         clear hy201
         replace H := Option.bind_eq_some_iff.mp H
         obtain ⟨t204, A1280, H⟩ := H
         replace H : (some t204) = some r := H
         have A128 := am A1280
         clear A1280
         obtain rfl := Option.some.inj H
         go_enter Try.func59, Try.ntmps59
         go_wp2_with (first | ((with_reducible refine gate_dst (N := 1) rfl ?_); refine box_event ?hg (N := 1) ?hd (cs := #[.int .i64 a0_0, .int .i64 a0_1, .int .i64 a0_2]) (t := 105) ?hr ?_; (case hd => rfl); (case hg => rfl); (case hr => go_simp; try rfl); intro gb101 hg w129 hbox hb; have n0_ := am (below_step (by exact bl_o HB.out) hb); have n1_ := am (hbox); have n2_ := lei (by rw [hg]; exact (below_size (by exact bl_o HB.out)) : w.heap.size ≤ gb101); have n3_ := n2_; clear HB; have HB := n0_; have BK101 := n1_; have GW101 := n2_; have GE101 := n3_; clear n0_ n1_ n2_ n3_; clear hb hbox hg; obtain ⟨hcz130_0, hcz130_1, hcz130_2, hfz130_0, hfz130_1, hfz130_2⟩ := cells3 BK101.out) | ((with_reducible refine gate_dst (N := 124) rfl ?_); refine Kd.R_lit (Kd.int .u8) _ 5 ?hg (N := 124) ?hd (xs := ([8] : List Int)) (inner := [.int .u8 8]) (ok := fun _ => True) (okp := fun _ => True) ?hr ?hp (fun _ hk => hk) trivial (Below.refl _ _) (Nat.le_refl _) (by simp) ?_; (case hd => rfl); (case hg => rfl); (case hr => go_simp; try rfl); (case hp => exact (Reps.one (show Kd.M (Kd.int .u8) _ _ _ 8 [.int .u8 8] from rfl) (Reps.none _ _))); intro v196 w131 ho132 hb hg_ hnew_; clear hg_ hnew_; (first | rw [← Ny195.out] at ho132 | (simp only [Int.reduceToNat] at ho132; rw [← Ny195.out] at ho132)); have n0_ := am (Kd.R_lower ho132 (below_size (by exact bl_g HB.out))); have n1_ := am (blk_below (blk_o BK101.out) hb); have n2_ := am (below_step (by exact bl_g HB.out) hb); clear BK101; clear HB; have HO197 := n0_; have BK101 := n1_; have HB := n2_; clear n0_ n1_ n2_; clear hb ho132; obtain ⟨hcz133_0, hcz133_1, hcz133_2, hfz133_0, hfz133_1, hfz133_2⟩ := cells3 BK101.out) | ((with_reducible refine gate_callee (f := 38) rfl ?_); refine goesL_ (some 127) rfl rfl Try.func38 (by kernel_rfl) rfl #[.int .i64 a0_1] rfl (by simp only [List.map_toArray, List.map_cons, List.map_nil]; try rfl) ?_; (with_reducible refine (leb_Uleb.calls k a0_1 t198 _ A127.out).mono ?_); rintro e w134 ⟨v199, rfl, ho0, hb⟩; refine ⟨_, rfl, ?_⟩; have n0_ := am (Kd.R_elder' (Kd.R_o HO197.out) (Kd.R_base ho0) hb); have n1_ := am (Kd.R_lower (Kd.R_new' ho0 (Kd.R_lt (Kd.R_o HO197.out))) (below_size (by exact bl_g HB.out))); have n2_ := am (blk_below (blk_o BK101.out) hb); have n3_ := am (below_step (by exact bl_g HB.out) hb); clear HO197; clear BK101; clear HB; have HO197 := n0_; have HO200 := n1_; have BK101 := n2_; have HB := n3_; clear n0_ n1_ n2_ n3_; (try clear hb); (try clear hb2); (try clear hk); (try clear hi); (try clear ho0); obtain ⟨Ao135, co135, eo135⟩ := Kd.R_slice HO200.out; subst eo135) | ((with_reducible refine gate_dst (N := 128) rfl ?_); refine Kd.N_lit (Kd.slice 5 (Kd.int .u8)) _ 28 ?hg (N' := 128) ?hd (xs := ([t198] : List (List Int))) (inner := [.slice Ao135 t198.length co135]) (ok := (fun k_ => some k_ ≠ (v196 : Value).ownBlock ∧ k_ ≠ gb101)) (okp := (fun k_ => some k_ ≠ (v196 : Value).ownBlock ∧ k_ ≠ gb101)) ?hr ?hp (fun _ hk => hk) ((show ∀ k_, w134.heap.size ≤ k_ → (fun k_ => some k_ ≠ (v196 : Value).ownBlock ∧ k_ ≠ gb101) k_ from fun k_ hk => ⟨Kd.fresh' (Kd.R_lt (Kd.R_o HO197.out)) k_ hk, Kd.freshB (g := gb101) (o := .cells #[.int .i64 a0_0, .int .i64 a0_1, .int .i64 a0_2] 105 (0, 0)) (blk_o BK101.out) k_ hk⟩) _ (Nat.le_refl _)) (Below.refl _ _) (Nat.le_refl _) (by simp) ?_; (case hd => rfl); (case hg => rfl); (case hr => go_simp; try rfl); (case hp => exact (Reps.one (show Kd.FK (Kd.slice 5 (Kd.int .u8)) _ _ t198 [.slice Ao135 t198.length co135] from (Kd.FK_slice_mk (Kd.R_reads' (Kd.R_mono (ok' := (fun k_ => some k_ ≠ (v196 : Value).ownBlock ∧ k_ ≠ gb101)) (Kd.R_types (HO200.out) BK101.out (by decide)) (fun k_ hk => ⟨hk.1.2, hk.2⟩))).2.1 (Kd.R_F (Kd.R_mono (ok' := (fun k_ => some k_ ≠ (v196 : Value).ownBlock ∧ k_ ≠ gb101)) (Kd.R_types (HO200.out) BK101.out (by decide)) (fun k_ hk => ⟨hk.1.2, hk.2⟩))))) (Reps.none _ _))); intro v202 w136 ho137 hb hg_ hnew_; clear hg_ hnew_; (first | rw [← Ny201.out] at ho137 | (simp only [Int.reduceToNat] at ho137; rw [← Ny201.out] at ho137)); have n0_ := am (Kd.R_below (Kd.R_o HO197.out) hb); have n1_ := am (Kd.N_lower ho137 (below_size (by exact bl_g HB.out))); have n2_ := am (blk_below (blk_o BK101.out) hb); have n3_ := am (below_step (by exact bl_g HB.out) hb); clear HO197; clear BK101; clear HB; clear HO200; have HO197 := n0_; have HO203 := n1_; have BK101 := n2_; have HB := n3_; clear n0_ n1_ n2_ n3_; clear hb ho137; obtain ⟨Ao138, co138, eo138⟩ := Kd.R_slice HO197.out; subst eo138; obtain ⟨Ao139, co139, eo139⟩ := Kd.N_slice HO203.out; subst eo139) | ((with_reducible refine gate_callee (f := 79) rfl ?_); refine goesL_ (some 129) rfl rfl Try.func79 (by kernel_rfl) rfl #[.slice Ao138 y195.length co138, .slice Ao139 y201.length co139] rfl (by simp only [List.map_toArray, List.map_cons, List.map_nil]; try rfl) ?_; (with_reducible refine (cfa_put.calls k (fun k_ => some k_ = (.slice Ao138 y195.length co138 : Value).ownBlock) (.slice Ao138 y195.length co138) y195 _ _ y201 t204 w _ ?side1 ?side2 ?side3 ?side4 A128.out).mono ?_); (case side1 => repeat (first | (with_reducible first | exact HB.out | apply below_alloc | apply pw_below_drewN | apply below_drew1 | refine below_set ?_ GE101.out) | exact HB.out)); (case side2 => exact Kd.R_tight rfl HO197.out); (case side3 => exact Kd.C_kept_ownV (base := 0) (Kd.N_V (base := w.heap.size) (HO203.out)) (fun k_ hk_ hs_ => (hk_.1) hs_)); (case side4 => exact (Kd.N_reads' HO203.out).2.1); rintro e w140 ⟨v205, rfl, ho0, hb, hkp⟩; refine ⟨_, rfl, ?_⟩; have n0_ := am (blk_kept (blk_o BK101.out) hkp (fun hs_ => (fun e_ => (Kd.R_ne HO197.out BK101.out (by decide)) e_) hs_)); have n1_ := am (Kd.N_mono (ok' := fun k_ => k_ ≠ gb101 ∧ some k_ ≠ (v205 : Value).ownBlock) (Kd.N_keptB (HO203.out) hkp (fun k_ hk_ hs_ => (hk_.1) hs_)) (fun k_ hk_ => ⟨hk_.1.2, fun e_ => Or.elim (ho0.1 k_ e_.symm) (fun hs_ => hk_.2.1 hs_) (fun hn_ => Nat.not_le.2 hk_.2.2 hn_)⟩)); have n2_ := am (Kd.R_mono (ok' := fun k_ => True) ho0 (fun k_ hk_ => trivial)); have n3_ := am (hb); clear BK101; clear HO203; clear HB; clear HO197; have BK101 := n0_; have HO203 := n1_; have HO206 := n2_; have HB := n3_; clear n0_ n1_ n2_ n3_; (try clear hb); (try clear hkp); (try clear ho0)))
         go_ret
         exact ⟨_, rfl, by (with_reducible repeat (first | apply Kd.R_alloc | apply Kd.R_drewN | apply Kd.R_drew)); exact HO206.out, by exact bl_g HB.out⟩
        ·
         rw [if_neg c126] at H
         have c126b0 : (a0_0 == 8) = false := beq_eq_false_iff_ne.mpr c126
         have c126b1 : (a0_0 != 8) = true := bne_iff_ne.mpr c126
         by_cases c141 : a0_0 = 9
         ·
          rw [if_pos c141] at H
          have c141b0 : (a0_0 == 9) = true := beq_iff_eq.mpr c141
          have c141b1 : (a0_0 != 9) = false := bne_eq_false_iff_eq.mpr c141
          clear c141
          obtain ⟨y207, hy207⟩ : ∃ y_ : List Int, y_ = (([10] : List Int)) := ⟨_, rfl⟩
          replace H : (some y207) = some r := by first | (rw [hy207]; with_reducible exact H) | (have H2_ := (Option.bind_some _ _).symm.trans H; rw [hy207]; with_reducible exact H2_)
          have Ny207 := am hy207
          clear hy207
          obtain rfl := Option.some.inj H
          go_enter Try.func59, Try.ntmps59
          go_wp2_with (first | ((with_reducible refine gate_dst (N := 1) rfl ?_); refine box_event ?hg (N := 1) ?hd (cs := #[.int .i64 a0_0, .int .i64 a0_1, .int .i64 a0_2]) (t := 105) ?hr ?_; (case hd => rfl); (case hg => rfl); (case hr => go_simp; try rfl); intro gb101 hg w142 hbox hb; have n0_ := am (below_step (by exact bl_o HB.out) hb); have n1_ := am (hbox); have n2_ := lei (by rw [hg]; exact (below_size (by exact bl_o HB.out)) : w.heap.size ≤ gb101); have n3_ := n2_; clear HB; have HB := n0_; have BK101 := n1_; have GW101 := n2_; have GE101 := n3_; clear n0_ n1_ n2_ n3_; clear hb hbox hg; obtain ⟨hcz143_0, hcz143_1, hcz143_2, hfz143_0, hfz143_1, hfz143_2⟩ := cells3 BK101.out) | ((with_reducible refine gate_dst (N := 132) rfl ?_); refine Kd.R_lit (Kd.int .u8) _ 5 ?hg (N := 132) ?hd (xs := ([10] : List Int)) (inner := [.int .u8 10]) (ok := fun _ => True) (okp := fun _ => True) ?hr ?hp (fun _ hk => hk) trivial (Below.refl _ _) (Nat.le_refl _) (by simp) ?_; (case hd => rfl); (case hg => rfl); (case hr => go_simp; try rfl); (case hp => exact (Reps.one (show Kd.M (Kd.int .u8) _ _ _ 10 [.int .u8 10] from rfl) (Reps.none _ _))); intro v208 w144 ho145 hb hg_ hnew_; clear hg_ hnew_; (first | rw [← Ny207.out] at ho145 | (simp only [Int.reduceToNat] at ho145; rw [← Ny207.out] at ho145)); have n0_ := am (Kd.R_lower ho145 (below_size (by exact bl_g HB.out))); have n1_ := am (blk_below (blk_o BK101.out) hb); have n2_ := am (below_step (by exact bl_g HB.out) hb); clear BK101; clear HB; have HO209 := n0_; have BK101 := n1_; have HB := n2_; clear n0_ n1_ n2_; clear hb ho145))
          go_ret
          exact ⟨_, rfl, by (with_reducible repeat (first | apply Kd.R_alloc | apply Kd.R_drewN | apply Kd.R_drew)); exact HO209.out, by exact bl_g HB.out⟩
         ·
          rw [if_neg c141] at H
          have c141b0 : (a0_0 == 9) = false := beq_eq_false_iff_ne.mpr c141
          have c141b1 : (a0_0 != 9) = true := bne_iff_ne.mpr c141
          by_cases c146 : a0_0 = 10
          ·
           rw [if_pos c146] at H
           have c146b0 : (a0_0 == 10) = true := beq_iff_eq.mpr c146
           have c146b1 : (a0_0 != 10) = false := bne_eq_false_iff_eq.mpr c146
           clear c146
           obtain ⟨y210, hy210⟩ : ∃ y_ : List Int, y_ = (([11] : List Int)) := ⟨_, rfl⟩
           replace H : (some y210) = some r := by first | (rw [hy210]; with_reducible exact H) | (have H2_ := (Option.bind_some _ _).symm.trans H; rw [hy210]; with_reducible exact H2_)
           have Ny210 := am hy210
           clear hy210
           obtain rfl := Option.some.inj H
           go_enter Try.func59, Try.ntmps59
           go_wp2_with (first | ((with_reducible refine gate_dst (N := 1) rfl ?_); refine box_event ?hg (N := 1) ?hd (cs := #[.int .i64 a0_0, .int .i64 a0_1, .int .i64 a0_2]) (t := 105) ?hr ?_; (case hd => rfl); (case hg => rfl); (case hr => go_simp; try rfl); intro gb101 hg w147 hbox hb; have n0_ := am (below_step (by exact bl_o HB.out) hb); have n1_ := am (hbox); have n2_ := lei (by rw [hg]; exact (below_size (by exact bl_o HB.out)) : w.heap.size ≤ gb101); have n3_ := n2_; clear HB; have HB := n0_; have BK101 := n1_; have GW101 := n2_; have GE101 := n3_; clear n0_ n1_ n2_ n3_; clear hb hbox hg; obtain ⟨hcz148_0, hcz148_1, hcz148_2, hfz148_0, hfz148_1, hfz148_2⟩ := cells3 BK101.out) | ((with_reducible refine gate_dst (N := 135) rfl ?_); refine Kd.R_lit (Kd.int .u8) _ 5 ?hg (N := 135) ?hd (xs := ([11] : List Int)) (inner := [.int .u8 11]) (ok := fun _ => True) (okp := fun _ => True) ?hr ?hp (fun _ hk => hk) trivial (Below.refl _ _) (Nat.le_refl _) (by simp) ?_; (case hd => rfl); (case hg => rfl); (case hr => go_simp; try rfl); (case hp => exact (Reps.one (show Kd.M (Kd.int .u8) _ _ _ 11 [.int .u8 11] from rfl) (Reps.none _ _))); intro v211 w149 ho150 hb hg_ hnew_; clear hg_ hnew_; (first | rw [← Ny210.out] at ho150 | (simp only [Int.reduceToNat] at ho150; rw [← Ny210.out] at ho150)); have n0_ := am (Kd.R_lower ho150 (below_size (by exact bl_g HB.out))); have n1_ := am (blk_below (blk_o BK101.out) hb); have n2_ := am (below_step (by exact bl_g HB.out) hb); clear BK101; clear HB; have HO212 := n0_; have BK101 := n1_; have HB := n2_; clear n0_ n1_ n2_; clear hb ho150))
           go_ret
           exact ⟨_, rfl, by (with_reducible repeat (first | apply Kd.R_alloc | apply Kd.R_drewN | apply Kd.R_drew)); exact HO212.out, by exact bl_g HB.out⟩
          ·
           rw [if_neg c146] at H
           have c146b0 : (a0_0 == 10) = false := beq_eq_false_iff_ne.mpr c146
           have c146b1 : (a0_0 != 10) = true := bne_iff_ne.mpr c146
           obtain ⟨y213, hy213⟩ : ∃ y_ : List Int, y_ = (([0] : List Int)) := ⟨_, rfl⟩
           replace H : (some y213) = some r := by first | (rw [hy213]; with_reducible exact H) | (have H2_ := (Option.bind_some _ _).symm.trans H; rw [hy213]; with_reducible exact H2_)
           have Ny213 := am hy213
           clear hy213
           obtain rfl := Option.some.inj H
           go_enter Try.func59, Try.ntmps59
           go_wp2_with (first | ((with_reducible refine gate_dst (N := 1) rfl ?_); refine box_event ?hg (N := 1) ?hd (cs := #[.int .i64 a0_0, .int .i64 a0_1, .int .i64 a0_2]) (t := 105) ?hr ?_; (case hd => rfl); (case hg => rfl); (case hr => go_simp; try rfl); intro gb101 hg w151 hbox hb; have n0_ := am (below_step (by exact bl_o HB.out) hb); have n1_ := am (hbox); have n2_ := lei (by rw [hg]; exact (below_size (by exact bl_o HB.out)) : w.heap.size ≤ gb101); have n3_ := n2_; clear HB; have HB := n0_; have BK101 := n1_; have GW101 := n2_; have GE101 := n3_; clear n0_ n1_ n2_ n3_; clear hb hbox hg; obtain ⟨hcz152_0, hcz152_1, hcz152_2, hfz152_0, hfz152_1, hfz152_2⟩ := cells3 BK101.out) | ((with_reducible refine gate_dst (N := 136) rfl ?_); refine Kd.R_lit (Kd.int .u8) _ 5 ?hg (N := 136) ?hd (xs := ([0] : List Int)) (inner := [.int .u8 0]) (ok := fun _ => True) (okp := fun _ => True) ?hr ?hp (fun _ hk => hk) trivial (Below.refl _ _) (Nat.le_refl _) (by simp) ?_; (case hd => rfl); (case hg => rfl); (case hr => go_simp; try rfl); (case hp => exact (Reps.one (show Kd.M (Kd.int .u8) _ _ _ 0 [.int .u8 0] from rfl) (Reps.none _ _))); intro v214 w153 ho154 hb hg_ hnew_; clear hg_ hnew_; (first | rw [← Ny213.out] at ho154 | (simp only [Int.reduceToNat] at ho154; rw [← Ny213.out] at ho154)); have n0_ := am (Kd.R_lower ho154 (below_size (by exact bl_g HB.out))); have n1_ := am (blk_below (blk_o BK101.out) hb); have n2_ := am (below_step (by exact bl_g HB.out) hb); clear BK101; clear HB; have HO215 := n0_; have BK101 := n1_; have HB := n2_; clear n0_ n1_ n2_; clear hb ho154))
           go_ret
           exact ⟨_, rfl, by (with_reducible repeat (first | apply Kd.R_alloc | apply Kd.R_drewN | apply Kd.R_drew)); exact HO215.out, by exact bl_g HB.out⟩
end Go.Proofs.Ytfgfnflhdabmcaa.G
end
section
namespace Go.Proofs.Ytfgfnflhdabmcaa.G
open Go.RowKit Go.Proofs.YtfgfnflhdabmcaaW.PrintWords Go.Proofs.YtfgfnflhdabmcaaW.PrintLast Go.Proofs.YtfgfnflhdabmcaaW.PrintMore
attribute [local go_sem] max2_int min2_int max_two min_two max_three min_three max_four min_four   -- for this text's walks alone
set_option linter.unusedVariables false
set_option linter.unusedSimpArgs false
def cfa_Write.l0 : Nat → List Int → List (S105) → Int → Int → Option (List Int × Int)
 | 0, _, _, _, _ => none
 | k + 1, x4, x10, x11, x12 => if x12 < x11 then (if 0 ≤ x12 then (if x12 < (x10.length : Int) then ((cfa_Op_may.f ((rd_T105 x10 x12).f0) ((rd_T105 x10 x12).f1) ((rd_T105 x10 x12).f2)).bind fun t103 => (if t103 = true then ((cfa_Op_bytes.f k ((rd_T105 x10 x12).f0) ((rd_T105 x10 x12).f1) ((rd_T105 x10 x12).f2)).bind fun t104 => (if x4.length + t104.length < 140737488355328 then (cfa_Write.l0 k (x4 ++ t104) x10 x11 (wrap64 (x12 + 1))) else (none))) else (some (([] : List Int), 130)))) else (none)) else (none)) else (some (x4, 0))
def cfa_Write.f (k : Nat) (l0 : List (S105)) : Option (List Int × Int) := if (l0.length : Int) > 4000 then (some (([] : List Int), 6)) else (cfa_Write.l0 k ([] : List Int) l0 (l0.length : Int) 0)
theorem cfa_Write.mono_l : ∀ k, (∀ y0 y1 y2 y3, LeO (cfa_Write.l0 k y0 y1 y2 y3) (cfa_Write.l0 (k + 1) y0 y1 y2 y3))
 | 0 => fun _ _ _ _ r h => by simp [cfa_Write.l0] at h
 | k + 1 => by
  have ih0 := cfa_Write.mono_l k
  ·
   intro y0 y1 y2 y3
   unfold cfa_Write.l0
   repeat' first
   | (with_reducible exact ih0 _ _ _ _)
   | (with_reducible exact cfa_Op_bytes.mono _ _ _ _)
   | (with_reducible exact LeO.refl _)
   | (with_reducible exact LeO.none _)
   | (with_reducible refine LeO.ite ?_ ?_)
   | (with_reducible refine LeO.bind ?_ (fun _ => ?_))
   | exact ih0 _ _ _ _
   | exact cfa_Op_bytes.mono _ _ _ _
   | exact LeO.none _
   | refine LeO.ite ?_ ?_
   | refine LeO.bind ?_ (fun _ => ?_)
theorem cfa_Write.mono : ∀ a0 k, LeO (cfa_Write.f k a0) (cfa_Write.f (k + 1) a0) := by
 intro a0 k
 have ih0 := cfa_Write.mono_l k
 unfold cfa_Write.f
 repeat' first
   | (with_reducible exact ih0 _ _ _ _)
   | (with_reducible exact cfa_Op_bytes.mono _ _ _ _)
   | (with_reducible exact LeO.refl _)
   | (with_reducible exact LeO.none _)
   | (with_reducible refine LeO.ite ?_ ?_)
   | (with_reducible refine LeO.bind ?_ (fun _ => ?_))
   | exact ih0 _ _ _ _
   | exact cfa_Op_bytes.mono _ _ _ _
   | exact LeO.none _
   | refine LeO.ite ?_ ?_
   | refine LeO.bind ?_ (fun _ => ?_)
set_option maxHeartbeats 8000000 in
set_option maxRecDepth 100000 in
theorem cfa_Write.calls (k : Nat) (A0 : Option Addr) (c0 : Nat) (l0 : List (S105)) (r1 : List Int) (r2 : Int) (w : World) (hr0 : Kd.C k105 w A0 l0.length l0) (hc0 : l0.length ≤ c0) (h : cfa_Write.f k l0 = some (r1, r2)) :
  Calls Try.prog 23 #[.slice A0 l0.length c0] w fun e w' => ∃ v0_ : Value, e = .returned (.tuple #[v0_, .int .i64 r2]) ∧ Kd.R (Kd.int .u8) 5 w' w.heap.size (fun _ => True) v0_ r1 ∧ Below w.heap.size w w' := by
 have hu105 := Try.underlying105
 have HR0 := am hr0
 have HC0 := am hc0
 clear hr0 hc0
 have HB := am (Below.refl w.heap.size w)
 have H : (if (l0.length : Int) > 4000 then (some (([] : List Int), 6)) else (cfa_Write.l0 k ([] : List Int) l0 (l0.length : Int) 0)) = some (r1, r2) := h
 clear h
 by_cases c2 : (l0.length : Int) > 4000
 ·
  rw [if_pos c2] at H
  have c2b0 : decide (4000 < (l0.length : Int)) = true := decide_eq_true c2
  have c2b1 : decide (4000 < l0.length) = true := decide_eq_true (by omega)
  clear c2
  simp only [Option.some.injEq, Prod.mk.injEq] at H
  obtain ⟨rfl, rfl⟩ := H
  go_enter Try.func23, Try.ntmps23
  go_wp2
  go_ret2
  exact ⟨_, rfl, by first | exact Kd.R_nil _ _ _ _ _ | exact Kd.N_nil _ _ _ _ _ | exact Kd.V_nil _ _ _ _ _ | exact Kd.Q_nil _ _ _ _ _ | exact Kd.S_nil _ _ _ _ _, by exact bl_g HB.out⟩
 ·
  rw [if_neg c2] at H
  have c2b0 : decide (4000 < (l0.length : Int)) = false := decide_eq_false c2
  have c2b1 : decide (4000 < l0.length) = false := decide_eq_false (by omega)
  clear c2
  have H' := am H
  clear H
  go_enter Try.func23, Try.ntmps23
  go_wp2
  go_loopg [4, 12] k (fun kq v4 v12 w' => ∃ (x4_1 : List Int) (x12_1 : Int), v12 = .int .i64 x12_1 ∧ Aside0 (cfa_Write.l0 kq x4_1 l0 (l0.length : Int) x12_1 = some (r1, r2)) ∧ Aside0 (kq ≤ k) ∧ Aside0 (Kd.R (Kd.int .u8) 5 w' w.heap.size (fun _ => True) v4 x4_1) ∧ Aside0 (Below w.heap.size w w'))
  case atStart => exact ⟨(([] : List Int)), (0), (by first | rfl | (simp; done) | (simp [*]; done)), H', ⟨Nat.le_refl _⟩, ⟨by first | exact Kd.R_nil _ _ _ _ _ | exact Kd.N_nil _ _ _ _ _ | exact Kd.V_nil _ _ _ _ _ | exact Kd.Q_nil _ _ _ _ _ | exact Kd.S_nil _ _ _ _ _⟩, ⟨by exact bl_g HB.out⟩⟩
  case round =>
   clear H'
   try clear c2
   try clear c2b0
   try clear c2b1
   try clear p2
   obtain ⟨x4_1, x12_1, rfl, HA, HK1, HO_4, HB⟩ := hrel
   cases gk with
   | zero => exact absurd HA.out (by simp [cfa_Write.l0])
   | succ k1 =>
    have H := HA.out
    clear HA
    simp only [cfa_Write.l0] at H
    by_cases c3 : x12_1 < (l0.length : Int)
    ·
     rw [if_pos c3] at H
     have c3b0 : decide (x12_1 < (l0.length : Int)) = true := decide_eq_true c3
     clear c3
     by_cases c4 : 0 ≤ x12_1
     ·
      rw [if_pos c4] at H
      have c4b0 : decide (0 ≤ x12_1) = true := decide_eq_true c4
      clear c4
      by_cases c5 : x12_1 < (l0.length : Int)
      ·
       rw [if_pos c5] at H
       have c5b0 : decide (x12_1 < (l0.length : Int)) = true := decide_eq_true c5
       clear c5
       replace H := Option.bind_eq_some_iff.mp H
       obtain ⟨t103, A60, H⟩ := H
       replace H : (if t103 = true then ((cfa_Op_bytes.f k1 ((rd_T105 l0 x12_1).f0) ((rd_T105 l0 x12_1).f1) ((rd_T105 l0 x12_1).f2)).bind fun t104 => (if x4_1.length + t104.length < 140737488355328 then (cfa_Write.l0 k1 (x4_1 ++ t104) l0 (l0.length : Int) (wrap64 (x12_1 + 1))) else (none))) else (some (([] : List Int), 130))) = some (r1, r2) := H
       have A6 := am A60
       clear A60
       by_cases c7 : t103 = true
       ·
        subst c7
        have H1 : ((cfa_Op_bytes.f k1 ((rd_T105 l0 x12_1).f0) ((rd_T105 l0 x12_1).f1) ((rd_T105 l0 x12_1).f2)).bind fun t104 => (if x4_1.length + t104.length < 140737488355328 then (cfa_Write.l0 k1 (x4_1 ++ t104) l0 (l0.length : Int) (wrap64 (x12_1 + 1))) else (none))) = some (r1, r2) := by rw [if_pos rfl] at H; exact H
        clear H
        have H := H1
        clear H1
        replace H := Option.bind_eq_some_iff.mp H
        obtain ⟨t104, A80, H⟩ := H
        replace H : (if x4_1.length + t104.length < 140737488355328 then (cfa_Write.l0 k1 (x4_1 ++ t104) l0 (l0.length : Int) (wrap64 (x12_1 + 1))) else (none)) = some (r1, r2) := H
        have A8 := am A80
        clear A80
        by_cases c9 : x4_1.length + t104.length < 140737488355328
        ·
         rw [if_pos c9] at H
         have LMc9 := am c9
         clear c9
         obtain ⟨y107, hy107⟩ : ∃ y_ : List Int, y_ = (x4_1 ++ t104) := ⟨_, rfl⟩
         replace H : (cfa_Write.l0 k1 y107 l0 (l0.length : Int) (wrap64 (x12_1 + 1))) = some (r1, r2) := by first | (rw [hy107]; with_reducible exact H) | (have H2_ := (Option.bind_some _ _).symm.trans H; rw [hy107]; with_reducible exact H2_)
         have Ny107 := am hy107
         clear hy107
         have H' := am H
         clear H
         have p101 : 0 ≤ (x12_1 : Int) := of_decide_eq_true (by first | (with_reducible assumption) | assumption)
         have q101 : x12_1 < (l0.length : Int) := of_decide_eq_true (by first | (with_reducible assumption) | assumption)
         obtain ⟨ad101, e101, hx101_0, hx101_1, hx101_2⟩ := at_T105 HR0.out x12_1 p101 q101
         cases e101
         replace hx101_0 := (HB.out.cell (World.block_lt_of_cell? w _ hx101_0)).trans hx101_0
         replace hx101_1 := (HB.out.cell (World.block_lt_of_cell? w _ hx101_1)).trans hx101_1
         replace hx101_2 := (HB.out.cell (World.block_lt_of_cell? w _ hx101_2)).trans hx101_2
         replace p101 := eq_true p101
         replace q101 := eq_true q101
         go_wp2_with (first | ((with_reducible refine gate_dst (N := 6) rfl ?_); refine box_event ?hg (N := 6) ?hd (cs := #[.int .i64 0, .int .i64 0, .int .i64 0]) (t := 105) ?hr ?_; (case hd => rfl); (case hg => rfl); (case hr => go_simp; try rfl); intro gb102 hg w10 hbox hb; have n0_ := am (Kd.R_below (Kd.R_o HO_4.out) hb); have n1_ := am (below_step (by exact bl_o HB.out) hb); have n2_ := am (hbox); have n3_ := lei (by rw [hg]; exact (below_size (by exact bl_o HB.out)) : w.heap.size ≤ gb102); have n4_ := n3_; clear HO_4; clear HB; have HO_4 := n0_; have HB := n1_; have BK102 := n2_; have GW102 := n3_; have GE102 := n4_; clear n0_ n1_ n2_ n3_ n4_; clear hb hbox hg; obtain ⟨hcz11_0, hcz11_1, hcz11_2, hfz11_0, hfz11_1, hfz11_2⟩ := cells3 BK102.out) | ((with_reducible refine gate_callee (f := 58) rfl ?_); refine goesL_ (some 17) rfl rfl Try.func58 (by kernel_rfl) rfl #[.agg #[.int .i64 ((rd_T105 l0 x12_1).f0), .int .i64 ((rd_T105 l0 x12_1).f1), .int .i64 ((rd_T105 l0 x12_1).f2)]] rfl (by simp only [List.map_toArray, List.map_cons, List.map_nil]; try rfl) ?_; (with_reducible refine (cfa_Op_may.calls ((rd_T105 l0 x12_1).f0) ((rd_T105 l0 x12_1).f1) ((rd_T105 l0 x12_1).f2) true _ A6.out).mono ?_); rintro e w12 ⟨rfl, hb⟩; refine ⟨_, rfl, ?_⟩; have n0_ := am (Kd.R_below (Kd.R_o (Kd.R_mono (Kd.R_far (p := ⟨gb102, 2, none⟩) (Kd.R_far (p := ⟨gb102, 1, none⟩) (Kd.R_far (p := ⟨gb102, 0, none⟩) (Kd.R_types HO_4.out BK102.out (by decide)) (fun _ hk => hk.2) (.int .i64 ((rd_T105 l0 x12_1).f0))) (fun _ hk => hk.2) (.int .i64 ((rd_T105 l0 x12_1).f1))) (fun _ hk => hk.2) (.int .i64 ((rd_T105 l0 x12_1).f2))) (fun _ h_ => h_.1))) hb); have n1_ := am (blk_below (g := gb102) (o := .cells #[.int .i64 ((rd_T105 l0 x12_1).f0), .int .i64 ((rd_T105 l0 x12_1).f1), .int .i64 ((rd_T105 l0 x12_1).f2)] 105 (0, 0)) (by (with_reducible repeat (first | refine blk_drewN ?_ _ | refine blk_drew ?_ | refine blk_alloc ?_ _)); refine blk_put (cs := #[.int .i64 ((rd_T105 l0 x12_1).f0), .int .i64 ((rd_T105 l0 x12_1).f1), .int .i64 0]) ?_ 2 _ rfl; (with_reducible repeat (first | refine blk_drewN ?_ _ | refine blk_drew ?_ | refine blk_alloc ?_ _)); refine blk_put (cs := #[.int .i64 ((rd_T105 l0 x12_1).f0), .int .i64 0, .int .i64 0]) ?_ 1 _ rfl; (with_reducible repeat (first | refine blk_drewN ?_ _ | refine blk_drew ?_ | refine blk_alloc ?_ _)); refine blk_put (cs := #[.int .i64 0, .int .i64 0, .int .i64 0]) ?_ 0 _ rfl; (with_reducible repeat (first | refine blk_drewN ?_ _ | refine blk_drew ?_ | refine blk_alloc ?_ _)); exact BK102.out) hb); have n2_ := am (below_step (by exact bl_g HB.out) hb); clear HO_4; clear BK102; clear HB; have HO_4 := n0_; have BK102 := n1_; have HB := n2_; clear n0_ n1_ n2_; (try clear hb); (try clear hb2); (try clear hk); (try clear hi); obtain ⟨hcz13_0, hcz13_1, hcz13_2, hfz13_0, hfz13_1, hfz13_2⟩ := cells3 BK102.out) | ((with_reducible refine gate_callee (f := 59) rfl ?_); refine goesL_ (some 21) rfl rfl Try.func59 (by kernel_rfl) rfl #[.agg #[.int .i64 ((rd_T105 l0 x12_1).f0), .int .i64 ((rd_T105 l0 x12_1).f1), .int .i64 ((rd_T105 l0 x12_1).f2)]] rfl (by simp only [List.map_toArray, List.map_cons, List.map_nil]; try rfl) ?_; (with_reducible refine (cfa_Op_bytes.calls k1 ((rd_T105 l0 x12_1).f0) ((rd_T105 l0 x12_1).f1) ((rd_T105 l0 x12_1).f2) t104 _ A8.out).mono ?_); rintro e w14 ⟨v105, rfl, ho0, hb⟩; refine ⟨_, rfl, ?_⟩; have n0_ := am (Kd.R_elder' (Kd.R_o HO_4.out) (Kd.R_base ho0) hb); have n1_ := am (Kd.R_lower (Kd.R_new' ho0 (Kd.R_lt (Kd.R_o HO_4.out))) (below_size (by exact bl_g HB.out))); have n2_ := am (blk_below (blk_o BK102.out) hb); have n3_ := am (below_step (by exact bl_g HB.out) hb); clear HO_4; clear BK102; clear HB; have HO_4 := n0_; have HO106 := n1_; have BK102 := n2_; have HB := n3_; clear n0_ n1_ n2_ n3_; (try clear hb); (try clear hb2); (try clear hk); (try clear hi); (try clear ho0); obtain ⟨Ao16, co16, eo16⟩ := Kd.R_slice HO106.out; subst eo16) | ((with_reducible refine gate_builtin (b := .append) (xs := #[.tmp 19, .tmp 21]) rfl ?_); at_builtin; refine Kd.R_append_rows (Kd.int .u8) (w0 := w) w.heap.size rfl (.tmp 19) (.tmp 21) 28 5 (.int .u8 0) 1 rfl Try.underlying28 info5 rfl (by decide) (by omega) u4 x4_1 t104 _ _ _ (fun k_ => some k_ ≠ (.slice Ao16 t104.length co16 : Value).ownBlock) (fun _ => False) rfl rfl ?aO ?aR (fun _ _ h => h) (fun _ h => h.elim) ?aF ?aB ?aS ?aL ?_; (case aR => exact Kd.C_o ((Kd.R_reads' HO106.out).2.2)); (case aB => exact (by exact bl_g HB.out)); (case aF => exact (fun k_ hk => Kd.fresh' (Kd.R_lt (Kd.R_o HO106.out)) k_ hk)); (case aO => exact (Kd.R_o (Kd.R_mono HO_4.out (fun _ hk => hk.2)))); (case aS => exact (below_size (by exact bl_g HB.out))); (case aL => have := LMc9.out; omega); intro v108 w15 ho hb hg hat; rw [← Ny107.out] at ho; have n0_ := am (blk_grown (g := gb102) (o := .cells #[.int .i64 ((rd_T105 l0 x12_1).f0), .int .i64 ((rd_T105 l0 x12_1).f1), .int .i64 ((rd_T105 l0 x12_1).f2)] 105 (0, 0)) (blk_o BK102.out) hg (Kd.R_ne HO_4.out BK102.out (by decide))); have n1_ := am (Kd.R_after (ok := (fun _ => True)) (Kd.R_o HO106.out) hg hat); have n2_ := am (hb); have n3_ := am (ho); clear BK102; clear HO106; clear HB; clear HO_4; have BK102 := n0_; have HO106 := n1_; have HB := n2_; have HO109 := n3_; clear n0_ n1_ n2_ n3_; clear ho hb hg hat))
         go_roundg k1
         case measure => have := HK1.out; omega
         case rel => exact ⟨(y107), (wrap64 (x12_1 + 1)), (by first | rfl | (simp; done) | (simp [*]; done)), H', ⟨by have := HK1.out; omega⟩, ⟨by (with_reducible repeat (first | apply Kd.R_alloc | apply Kd.R_drewN | apply Kd.R_drew)); exact Kd.R_mono HO109.out (fun _ hk => trivial)⟩, ⟨by exact bl_g HB.out⟩⟩
        ·
         rw [if_neg c9] at H
         exact absurd H (by simp)
       ·
        replace c7 := Bool.eq_false_iff.mpr c7
        subst c7
        have H1 : (some (([] : List Int), 130)) = some (r1, r2) := by rw [if_neg (show ¬ (false = true) by decide)] at H; exact H
        clear H
        have H := H1
        clear H1
        simp only [Option.some.injEq, Prod.mk.injEq] at H
        obtain ⟨rfl, rfl⟩ := H
        have p101 : 0 ≤ (x12_1 : Int) := of_decide_eq_true (by first | (with_reducible assumption) | assumption)
        have q101 : x12_1 < (l0.length : Int) := of_decide_eq_true (by first | (with_reducible assumption) | assumption)
        obtain ⟨ad101, e101, hx101_0, hx101_1, hx101_2⟩ := at_T105 HR0.out x12_1 p101 q101
        cases e101
        replace hx101_0 := (HB.out.cell (World.block_lt_of_cell? w _ hx101_0)).trans hx101_0
        replace hx101_1 := (HB.out.cell (World.block_lt_of_cell? w _ hx101_1)).trans hx101_1
        replace hx101_2 := (HB.out.cell (World.block_lt_of_cell? w _ hx101_2)).trans hx101_2
        replace p101 := eq_true p101
        replace q101 := eq_true q101
        go_wp2_with (first | ((with_reducible refine gate_dst (N := 6) rfl ?_); refine box_event ?hg (N := 6) ?hd (cs := #[.int .i64 0, .int .i64 0, .int .i64 0]) (t := 105) ?hr ?_; (case hd => rfl); (case hg => rfl); (case hr => go_simp; try rfl); intro gb102 hg w17 hbox hb; have n0_ := am (Kd.R_below (Kd.R_o HO_4.out) hb); have n1_ := am (below_step (by exact bl_o HB.out) hb); have n2_ := am (hbox); have n3_ := lei (by rw [hg]; exact (below_size (by exact bl_o HB.out)) : w.heap.size ≤ gb102); have n4_ := n3_; clear HO_4; clear HB; have HO_4 := n0_; have HB := n1_; have BK102 := n2_; have GW102 := n3_; have GE102 := n4_; clear n0_ n1_ n2_ n3_ n4_; clear hb hbox hg; obtain ⟨hcz18_0, hcz18_1, hcz18_2, hfz18_0, hfz18_1, hfz18_2⟩ := cells3 BK102.out) | ((with_reducible refine gate_callee (f := 58) rfl ?_); refine goesL_ (some 17) rfl rfl Try.func58 (by kernel_rfl) rfl #[.agg #[.int .i64 ((rd_T105 l0 x12_1).f0), .int .i64 ((rd_T105 l0 x12_1).f1), .int .i64 ((rd_T105 l0 x12_1).f2)]] rfl (by simp only [List.map_toArray, List.map_cons, List.map_nil]; try rfl) ?_; (with_reducible refine (cfa_Op_may.calls ((rd_T105 l0 x12_1).f0) ((rd_T105 l0 x12_1).f1) ((rd_T105 l0 x12_1).f2) false _ A6.out).mono ?_); rintro e w19 ⟨rfl, hb⟩; refine ⟨_, rfl, ?_⟩; have n0_ := am (Kd.R_below (Kd.R_o (Kd.R_mono (Kd.R_far (p := ⟨gb102, 2, none⟩) (Kd.R_far (p := ⟨gb102, 1, none⟩) (Kd.R_far (p := ⟨gb102, 0, none⟩) (Kd.R_types HO_4.out BK102.out (by decide)) (fun _ hk => hk.2) (.int .i64 ((rd_T105 l0 x12_1).f0))) (fun _ hk => hk.2) (.int .i64 ((rd_T105 l0 x12_1).f1))) (fun _ hk => hk.2) (.int .i64 ((rd_T105 l0 x12_1).f2))) (fun _ h_ => h_.1))) hb); have n1_ := am (blk_below (g := gb102) (o := .cells #[.int .i64 ((rd_T105 l0 x12_1).f0), .int .i64 ((rd_T105 l0 x12_1).f1), .int .i64 ((rd_T105 l0 x12_1).f2)] 105 (0, 0)) (by (with_reducible repeat (first | refine blk_drewN ?_ _ | refine blk_drew ?_ | refine blk_alloc ?_ _)); refine blk_put (cs := #[.int .i64 ((rd_T105 l0 x12_1).f0), .int .i64 ((rd_T105 l0 x12_1).f1), .int .i64 0]) ?_ 2 _ rfl; (with_reducible repeat (first | refine blk_drewN ?_ _ | refine blk_drew ?_ | refine blk_alloc ?_ _)); refine blk_put (cs := #[.int .i64 ((rd_T105 l0 x12_1).f0), .int .i64 0, .int .i64 0]) ?_ 1 _ rfl; (with_reducible repeat (first | refine blk_drewN ?_ _ | refine blk_drew ?_ | refine blk_alloc ?_ _)); refine blk_put (cs := #[.int .i64 0, .int .i64 0, .int .i64 0]) ?_ 0 _ rfl; (with_reducible repeat (first | refine blk_drewN ?_ _ | refine blk_drew ?_ | refine blk_alloc ?_ _)); exact BK102.out) hb); have n2_ := am (below_step (by exact bl_g HB.out) hb); clear HO_4; clear BK102; clear HB; have HO_4 := n0_; have BK102 := n1_; have HB := n2_; clear n0_ n1_ n2_; (try clear hb); (try clear hb2); (try clear hk); (try clear hi)))
        go_ret2
        exact ⟨_, rfl, by first | exact Kd.R_nil _ _ _ _ _ | exact Kd.N_nil _ _ _ _ _ | exact Kd.V_nil _ _ _ _ _ | exact Kd.Q_nil _ _ _ _ _ | exact Kd.S_nil _ _ _ _ _, by exact bl_g HB.out⟩
      ·
       rw [if_neg c5] at H
       exact absurd H (by simp)
     ·
      rw [if_neg c4] at H
      exact absurd H (by simp)
    ·
     rw [if_neg c3] at H
     have c3b0 : decide (x12_1 < (l0.length : Int)) = false := decide_eq_false c3
     clear c3
     simp only [Option.some.injEq, Prod.mk.injEq] at H
     obtain ⟨rfl, rfl⟩ := H
     go_wp2
     go_ret2
     exact ⟨_, rfl, by (with_reducible repeat (first | apply Kd.R_alloc | apply Kd.R_drewN | apply Kd.R_drew)); exact HO_4.out, by exact bl_g HB.out⟩
end Go.Proofs.Ytfgfnflhdabmcaa.G
end
section
namespace Go.Proofs.Ytfgfnflhdabmcaa.G
open Go.RowKit Go.Proofs.YtfgfnflhdabmcaaW.PrintWords Go.Proofs.YtfgfnflhdabmcaaW.PrintLast Go.Proofs.YtfgfnflhdabmcaaW.PrintMore
attribute [local go_sem] max2_int min2_int max_two min_two max_three min_three max_four min_four   -- for this text's walks alone
set_option linter.unusedVariables false
set_option linter.unusedSimpArgs false
def ehframe_low.f (k : Nat) (a0 : Int) : Option (List Int) := (leb_Put.f k a0 8).bind fun bt101 => (if 4 ≤ (bt101.1.length : Int) then (some (bt101.1.take (4 : Int).toNat)) else (none))
theorem ehframe_low.mono : ∀ a0 k, LeO (ehframe_low.f k a0) (ehframe_low.f (k + 1) a0) := by
 intro a0 k
 unfold ehframe_low.f
 repeat' first
   | (with_reducible exact leb_Put.mono _ _ _)
   | (with_reducible exact LeO.refl _)
   | (with_reducible exact LeO.none _)
   | (with_reducible refine LeO.ite ?_ ?_)
   | (with_reducible refine LeO.bind ?_ (fun _ => ?_))
   | exact leb_Put.mono _ _ _
   | exact LeO.none _
   | refine LeO.ite ?_ ?_
   | refine LeO.bind ?_ (fun _ => ?_)
set_option maxHeartbeats 8000000 in
set_option maxRecDepth 100000 in
theorem ehframe_low.calls (k : Nat) (a0 : Int) (r : List Int) (w : World) (h : ehframe_low.f k a0 = some r) :
  Calls Try.prog 26 #[.int .i64 a0] w fun e w' => ∃ v0_ : Value, e = .returned (v0_) ∧ Kd.R (Kd.int .u8) 5 w' w.heap.size (fun _ => True) v0_ r ∧ Below w.heap.size w w' := by
 have HB := am (Below.refl w.heap.size w)
 have H : ((leb_Put.f k a0 8).bind fun bt101 => (if 4 ≤ (bt101.1.length : Int) then (some (bt101.1.take (4 : Int).toNat)) else (none))) = some r := h
 clear h
 replace H := Option.bind_eq_some_iff.mp H
 obtain ⟨⟨t101, t102⟩, A20, H⟩ := H
 replace H : (if 4 ≤ (t101.length : Int) then (some (t101.take (4 : Int).toNat)) else (none)) = some r := H
 have A2 := am A20
 clear A20
 by_cases c3 : 4 ≤ (t101.length : Int)
 ·
  rw [if_pos c3] at H
  have c3b0 := eq_true c3
  have c3b1 : decide (4 ≤ (t101.length : Int)) = true := decide_eq_true c3
  clear c3
  obtain ⟨y105, hy105⟩ : ∃ y_ : List Int, y_ = (t101.take (4 : Int).toNat) := ⟨_, rfl⟩
  replace H : (some y105) = some r := by first | (rw [hy105]; with_reducible exact H) | (have H2_ := (Option.bind_some _ _).symm.trans H; rw [hy105]; with_reducible exact H2_)
  have Ny105 := am hy105
  clear hy105
  obtain rfl := Option.some.inj H
  go_enter Try.func26, Try.ntmps26
  go_wp2_with (first | ((with_reducible refine gate_callee (f := 40) rfl ?_); refine goesL_ (some 7) rfl rfl Try.func40 (by kernel_rfl) rfl #[.int .i64 a0, .int .i64 8] rfl (by simp only [List.map_toArray, List.map_cons, List.map_nil]; try rfl) ?_; (with_reducible refine (leb_Put.calls k a0 8 t101 t102 _ A2.out).mono ?_); rintro e w4 ⟨v103, rfl, ho0, hb⟩; refine ⟨_, rfl, ?_⟩; have n0_ := am (Kd.R_lower ho0 (below_size (by exact bl_o HB.out))); have n1_ := am (below_step (by exact bl_o HB.out) hb); clear HB; have HO104 := n0_; have HB := n1_; clear n0_ n1_; (try clear hb); (try clear hb2); (try clear hk); (try clear hi); (try clear ho0); obtain ⟨Ao5, co5, eo5⟩ := Kd.R_slice HO104.out; subst eo5; have q6 : (4 : Int) ≤ ((t101.length : Int) : Int) := of_decide_eq_true (by first | (with_reducible assumption) | assumption); obtain ⟨i06, hi06, _, hsz6, _⟩ := info_parts info5; have hcut6 := cut_to (P := Try.prog) 28 5 .i64 Try.underlying28 hi06 Ao5 t101.length co5 4 (by omega) q6 (Kd.R_reads' HO104.out).2.1; have hr6 := Kd.R_take (m := (4 : Int).toNat) HO104.out (by omega); have hy6 : y105.length = (4 : Int).toNat := (by rw [Ny105.out, List.length_take]; omega); rw [← Ny105.out] at hr6; rw [← hy6] at hr6 hcut6; clear hy6 hi06 hsz6 HO104; have HO107 := am hr6; clear hr6; replace q6 := eq_true q6))
  go_ret
  exact ⟨_, rfl, by (with_reducible repeat (first | apply Kd.R_alloc | apply Kd.R_drewN | apply Kd.R_drew)); exact HO107.out, by exact bl_g HB.out⟩
 ·
  rw [if_neg c3] at H
  exact absurd H (by simp)
end Go.Proofs.Ytfgfnflhdabmcaa.G
end
section
namespace Go.Proofs.Ytfgfnflhdabmcaa.G
open Go.RowKit Go.Proofs.YtfgfnflhdabmcaaW.PrintWords Go.Proofs.YtfgfnflhdabmcaaW.PrintLast Go.Proofs.YtfgfnflhdabmcaaW.PrintMore
attribute [local go_sem] max2_int min2_int max_two min_two max_three min_three max_four min_four   -- for this text's walks alone
set_option linter.unusedVariables false
set_option linter.unusedSimpArgs false
def ehframe_record.l0 : Nat → List Int → Option (List Int)
 | 0, _ => none
 | k + 1, x0 => if ((x0.length : Int) % 8) = 4 then ((ehframe_low.f k (x0.length : Int)).bind fun t101 => (if t101.length + x0.length < 140737488355328 then (some (t101 ++ x0)) else (none))) else (if x0.length < 140737488355328 then (ehframe_record.l0 k (x0 ++ [0])) else (none))
def ehframe_record.f (k : Nat) (l0 : List Int) : Option (List Int) := ehframe_record.l0 k l0
theorem ehframe_record.mono_l : ∀ k, (∀ y0, LeO (ehframe_record.l0 k y0) (ehframe_record.l0 (k + 1) y0))
 | 0 => fun _ r h => by simp [ehframe_record.l0] at h
 | k + 1 => by
  have ih0 := ehframe_record.mono_l k
  ·
   intro y0
   unfold ehframe_record.l0
   repeat' first
   | (with_reducible exact ih0 _)
   | (with_reducible exact ehframe_low.mono _ _)
   | (with_reducible exact LeO.refl _)
   | (with_reducible exact LeO.none _)
   | (with_reducible refine LeO.ite ?_ ?_)
   | (with_reducible refine LeO.bind ?_ (fun _ => ?_))
   | exact ih0 _
   | exact ehframe_low.mono _ _
   | exact LeO.none _
   | refine LeO.ite ?_ ?_
   | refine LeO.bind ?_ (fun _ => ?_)
theorem ehframe_record.mono : ∀ a0 k, LeO (ehframe_record.f k a0) (ehframe_record.f (k + 1) a0) := by
 intro a0 k
 have ih0 := ehframe_record.mono_l k
 unfold ehframe_record.f
 repeat' first
   | (with_reducible exact ih0 _)
   | (with_reducible exact ehframe_low.mono _ _)
   | (with_reducible exact LeO.refl _)
   | (with_reducible exact LeO.none _)
   | (with_reducible refine LeO.ite ?_ ?_)
   | (with_reducible refine LeO.bind ?_ (fun _ => ?_))
   | exact ih0 _
   | exact ehframe_low.mono _ _
   | exact LeO.none _
   | refine LeO.ite ?_ ?_
   | refine LeO.bind ?_ (fun _ => ?_)
set_option maxHeartbeats 8000000 in
set_option maxRecDepth 100000 in
theorem ehframe_record.calls (k : Nat) (P0_ : Nat → Prop) (u9000_ : Value) (l0 : List Int) (r : List Int) (w0 w : World) (hB : Below w0.heap.size w0 w) (ho0 : Kd.R (Kd.int .u8) 5 w w0.heap.size P0_ u9000_ l0) (h : ehframe_record.f k l0 = some r) :
  Calls Try.prog 24 #[u9000_] w fun e w' => ∃ v0_ : Value, e = .returned (v0_) ∧ Kd.R (Kd.int .u8) 5 w' w0.heap.size (fun k_ => (P0_ k_ ∨ w.heap.size ≤ k_)) v0_ r ∧ Below w0.heap.size w0 w' ∧ Kept w w' (fun k_ => P0_ k_) := by
 have HO0 := am (show Kd.R (Kd.int .u8) 5 w w0.heap.size (fun k_ => (P0_ k_ ∨ w.heap.size ≤ k_)) u9000_ l0 from Kd.R_mono ho0 (fun k_ hk => (.inl hk)))
 have HK := am (Kept.refl w (fun k_ => P0_ k_))
 have HW0 := am hB.size
 have HB := am hB
 clear hB
 have H : (ehframe_record.l0 k l0) = some r := h
 clear h
 have H' := am H
 clear H
 go_enter Try.func24, Try.ntmps24
 go_wp2
 go_loopg [0] k (fun kq v0 w' => ∃ (x0_1 : List Int), Aside0 (ehframe_record.l0 kq x0_1 = some r) ∧ Aside0 (kq ≤ k) ∧ Aside0 (Kd.R (Kd.int .u8) 5 w' w0.heap.size (fun k_ => (P0_ k_ ∨ w.heap.size ≤ k_)) v0 x0_1) ∧ Aside0 (Kept w w' (fun k_ => P0_ k_)) ∧ Aside0 (Below w0.heap.size w0 w'))
 case atStart => exact ⟨(l0), H', ⟨Nat.le_refl _⟩, ⟨by (with_reducible repeat (first | apply Kd.R_alloc | apply Kd.R_drewN | apply Kd.R_drew)); exact HO0.out⟩, ⟨by repeat (first | (with_reducible first | exact HK.out | apply Kept.alloc | apply Kept.drewN | apply Kept.drew) | exact HK.out)⟩, ⟨by exact bl_g HB.out⟩⟩
 case round =>
  clear H'
  obtain ⟨x0_1, HA, HK1, HO_0, HK, HB⟩ := hrel
  cases gk with
  | zero => exact absurd HA.out (by simp [ehframe_record.l0])
  | succ k1 =>
   have H := HA.out
   clear HA
   simp only [ehframe_record.l0] at H
   by_cases c2 : ((x0_1.length : Int) % 8) = 4
   ·
    rw [if_pos c2] at H
    have c2b0 : (((x0_1.length : Int) % 8) == 4) = true := beq_iff_eq.mpr c2
    have c2b1 : (((x0_1.length : Int) % 8) != 4) = false := bne_eq_false_iff_eq.mpr c2
    clear c2
    replace H := Option.bind_eq_some_iff.mp H
    obtain ⟨t101, A30, H⟩ := H
    replace H : (if t101.length + x0_1.length < 140737488355328 then (some (t101 ++ x0_1)) else (none)) = some r := H
    have A3 := am A30
    clear A30
    by_cases c4 : t101.length + x0_1.length < 140737488355328
    ·
     rw [if_pos c4] at H
     have LMc4 := am c4
     clear c4
     obtain ⟨y104, hy104⟩ : ∃ y_ : List Int, y_ = (t101 ++ x0_1) := ⟨_, rfl⟩
     replace H : (some y104) = some r := by first | (rw [hy104]; with_reducible exact H) | (have H2_ := (Option.bind_some _ _).symm.trans H; rw [hy104]; with_reducible exact H2_)
     have Ny104 := am hy104
     clear hy104
     obtain rfl := Option.some.inj H
     obtain ⟨Ao5, co5, eo5⟩ := Kd.R_slice HO_0.out
     subst eo5
     go_wp2_with (first | ((with_reducible refine gate_callee (f := 26) rfl ?_); refine goesL_ (some 12) rfl rfl Try.func26 (by kernel_rfl) rfl #[.int .i64 (x0_1.length : Int)] rfl (by simp only [List.map_toArray, List.map_cons, List.map_nil]; try rfl) ?_; (with_reducible refine (ehframe_low.calls k1 (x0_1.length : Int) t101 _ A3.out).mono ?_); rintro e w6 ⟨v102, rfl, ho0, hb⟩; refine ⟨_, rfl, ?_⟩; have n0_ := am (Kd.R_elder' (Kd.R_o HO_0.out) (Kd.R_base ho0) hb); have n1_ := am (Kd.R_lower (Kd.R_new' (Kd.R_newM (M := fun k_ => (P0_ k_ ∨ w.heap.size ≤ k_)) ho0 (by first | exact HK.out.1 | exact (show Kept w _ (fun k_ => P0_ k_) from by repeat (first | (with_reducible first | exact HK.out | apply Kept.alloc | apply Kept.drewN | apply Kept.drew) | exact HK.out)).1) (fun k_ h_ => .inr h_)) (Kd.R_lt (Kd.R_o HO_0.out))) (below_size (by exact bl_o HB.out))); have n2_ := am (Kept.below (S := (fun k_ => P0_ k_)) (by repeat (first | (with_reducible first | exact HK.out | apply Kept.alloc | apply Kept.drewN | apply Kept.drew) | exact HK.out)) hb); have n3_ := am (below_step (by exact bl_o HB.out) hb); clear HO_0; clear HK; clear HB; have HO_0 := n0_; have HO103 := n1_; have HK := n2_; have HB := n3_; clear n0_ n1_ n2_ n3_; (try clear hb); (try clear hb2); (try clear hk); (try clear hi); (try clear ho0)) | ((with_reducible refine gate_builtin (b := .append) (xs := #[.tmp 12, .tmp 13]) rfl ?_); at_builtin; refine Kd.R_append_rows (Kd.int .u8) (w0 := w0) w0.heap.size rfl (.tmp 12) (.tmp 13) 28 5 (.int .u8 0) 1 rfl Try.underlying28 info5 rfl (by decide) (by omega) v102 t101 x0_1 _ _ _ (fun k_ => (P0_ k_ ∨ w.heap.size ≤ k_) ∧ some k_ ≠ (.slice Ao5 x0_1.length co5 : Value).ownBlock) (fun _ => False) rfl rfl ?aO ?aR (fun _ _ h => h) (fun _ h => h.elim) ?aF ?aB ?aS ?aL ?_; (case aR => exact Kd.C_o ((Kd.R_reads' HO_0.out).2.2)); (case aB => exact (by exact bl_o HB.out)); (case aF => exact (fun k_ hk => ⟨(.inr (Nat.le_trans (by first | exact HK.out.1 | exact (show Kept w _ (fun k_ => P0_ k_) from by repeat (first | (with_reducible first | exact HK.out | apply Kept.alloc | apply Kept.drewN | apply Kept.drew) | exact HK.out)).1) hk)), Kd.fresh' (Kd.R_lt (Kd.R_o HO_0.out)) k_ hk⟩)); (case aO => exact (Kd.R_o (Kd.R_mono HO103.out (fun _ hk => ⟨hk.1.1, hk.2⟩)))); (case aS => exact (below_size (by exact bl_o HB.out))); (case aL => have := LMc4.out; omega); intro v105 w7 ho hb hg hat; rw [← Ny104.out] at ho; have n0_ := am (Kd.R_after (ok := (fun k_ => (P0_ k_ ∨ w.heap.size ≤ k_))) (Kd.R_o HO_0.out) hg hat); have n1_ := am (hb); have n2_ := am (Kept.of_grown (S := (fun k_ => P0_ k_)) hg (by repeat (first | (with_reducible first | exact HK.out | apply Kept.alloc | apply Kept.drewN | apply Kept.drew) | exact HK.out)) (fun k_ e_ => (HO103.out.1 k_ e_).1.1)); have n3_ := am (ho); clear HO_0; clear HB; clear HK; clear HO103; have HO_0 := n0_; have HB := n1_; have HK := n2_; have HO106 := n3_; clear n0_ n1_ n2_ n3_; clear ho hb hg hat))
     go_ret
     exact ⟨_, rfl, by (with_reducible repeat (first | apply Kd.R_alloc | apply Kd.R_drewN | apply Kd.R_drew)); exact Kd.R_mono HO106.out (fun _ hk => hk.1), by exact bl_g HB.out, by repeat (first | (with_reducible first | exact HK.out | apply Kept.alloc | apply Kept.drewN | apply Kept.drew) | exact HK.out)⟩
    ·
     rw [if_neg c4] at H
     exact absurd H (by simp)
   ·
    rw [if_neg c2] at H
    have c2b0 : (((x0_1.length : Int) % 8) == 4) = false := beq_eq_false_iff_ne.mpr c2
    have c2b1 : (((x0_1.length : Int) % 8) != 4) = true := bne_iff_ne.mpr c2
    by_cases c8 : x0_1.length < 140737488355328
    ·
     rw [if_pos c8] at H
     have LMc8 := am c8
     clear c8
     obtain ⟨y107, hy107⟩ : ∃ y_ : List Int, y_ = (x0_1 ++ [0]) := ⟨_, rfl⟩
     replace H : (ehframe_record.l0 k1 y107) = some r := by first | (rw [hy107]; with_reducible exact H) | (have H2_ := (Option.bind_some _ _).symm.trans H; rw [hy107]; with_reducible exact H2_)
     have Ny107 := am hy107
     clear hy107
     have H' := am H
     clear H
     obtain ⟨Ao9, co9, eo9⟩ := Kd.R_slice HO_0.out
     subst eo9
     go_wp2_with (first | ((with_reducible refine gate_builtin (b := .append) (xs := #[.tmp 7, .tmp 8]) rfl ?_); at_builtin; refine Kd.R_append (Kd.int .u8) (w0 := w0) w0.heap.size rfl (.tmp 7) (.tmp 8) 28 5 (.int .u8 0) 1 rfl Try.underlying28 info5 rfl (by decide) (by omega) (.slice Ao9 x0_1.length co9) x0_1 0 [.int .u8 0] (fun k_ => (P0_ k_ ∨ w.heap.size ≤ k_)) (fun _ => False) rfl rfl ?aP (fun _ hk => hk.elim) ?aF ?aO ?aB ?aS ?aL ?_; (case aP => exact rfl); (case aB => exact (by exact bl_o HB.out)); (case aF => exact (fun k_ hk => (.inr (Nat.le_trans (by first | exact HK.out.1 | exact (show Kept w _ (fun k_ => P0_ k_) from by repeat (first | (with_reducible first | exact HK.out | apply Kept.alloc | apply Kept.drewN | apply Kept.drew) | exact HK.out)).1) hk)))); (case aO => exact (Kd.R_o HO_0.out)); (case aS => exact (below_size (by exact bl_o HB.out))); (case aL => have := LMc8.out; omega); intro v108 w10 ho hb hg hat; rw [← Ny107.out] at ho; have n0_ := am (hb); have n1_ := am (Kept.of_grown (S := (fun k_ => P0_ k_)) hg (by repeat (first | (with_reducible first | exact HK.out | apply Kept.alloc | apply Kept.drewN | apply Kept.drew) | exact HK.out)) (fun k_ e_ => (HO_0.out.1 k_ e_))); have n2_ := am (ho); clear HB; clear HK; clear HO_0; have HB := n0_; have HK := n1_; have HO109 := n2_; clear n0_ n1_ n2_; clear ho hb hg hat))
     go_roundg k1
     case measure => have := HK1.out; omega
     case rel => exact ⟨(y107), H', ⟨by have := HK1.out; omega⟩, ⟨by (with_reducible repeat (first | apply Kd.R_alloc | apply Kd.R_drewN | apply Kd.R_drew)); exact HO109.out⟩, ⟨by repeat (first | (with_reducible first | exact HK.out | apply Kept.alloc | apply Kept.drewN | apply Kept.drew) | exact HK.out)⟩, ⟨by exact bl_g HB.out⟩⟩
    ·
     rw [if_neg c8] at H
     exact absurd H (by simp)
end Go.Proofs.Ytfgfnflhdabmcaa.G
end
section
namespace Go.Proofs.Ytfgfnflhdabmcaa.G
open Go.RowKit Go.Proofs.YtfgfnflhdabmcaaW.PrintWords Go.Proofs.YtfgfnflhdabmcaaW.PrintLast Go.Proofs.YtfgfnflhdabmcaaW.PrintMore
attribute [local go_sem] max2_int min2_int max_two min_two max_three min_three max_four min_four   -- for this text's walks alone
set_option linter.unusedVariables false
set_option linter.unusedSimpArgs false
def ehframe_head.f (a0 : Int) : Option (List Int) := some (([0, 0, 0, 0, 1, 122, 82, 0, 1, 120, 16, 1, (a0) % 256] : List Int))
set_option maxHeartbeats 8000000 in
set_option maxRecDepth 100000 in
theorem ehframe_head.calls (a0 : Int) (r : List Int) (w : World) (h : ehframe_head.f a0 = some r) :
  Calls Try.prog 25 #[.int .i64 a0] w fun e w' => ∃ v0_ : Value, e = .returned (v0_) ∧ Kd.R (Kd.int .u8) 5 w' w.heap.size (fun _ => True) v0_ r ∧ Below w.heap.size w w' := by
 have HB := am (Below.refl w.heap.size w)
 have H : (some (([0, 0, 0, 0, 1, 122, 82, 0, 1, 120, 16, 1, (a0) % 256] : List Int))) = some r := h
 clear h
 obtain ⟨y101, hy101⟩ : ∃ y_ : List Int, y_ = (([0, 0, 0, 0, 1, 122, 82, 0, 1, 120, 16, 1, (a0) % 256] : List Int)) := ⟨_, rfl⟩
 replace H : (some y101) = some r := by first | (rw [hy101]; with_reducible exact H) | (have H2_ := (Option.bind_some _ _).symm.trans H; rw [hy101]; with_reducible exact H2_)
 have Ny101 := am hy101
 clear hy101
 obtain rfl := Option.some.inj H
 go_enter Try.func25, Try.ntmps25
 go_wp2_with (first | ((with_reducible refine gate_dst (N := 5) rfl ?_); refine Kd.R_lit (Kd.int .u8) _ 5 ?hg (N := 5) ?hd (xs := ([0, 0, 0, 0, 1, 122, 82, 0, 1, 120, 16, 1, (a0) % 256] : List Int)) (inner := [.int .u8 0, .int .u8 0, .int .u8 0, .int .u8 0, .int .u8 1, .int .u8 122, .int .u8 82, .int .u8 0, .int .u8 1, .int .u8 120, .int .u8 16, .int .u8 1, .int .u8 ((a0) % 256)]) (ok := fun _ => True) (okp := fun _ => True) ?hr ?hp (fun _ hk => hk) trivial (Below.refl _ _) (Nat.le_refl _) (by simp) ?_; (case hd => rfl); (case hg => rfl); (case hr => go_simp; try rfl); (case hp => exact (Reps.one (show Kd.M (Kd.int .u8) _ _ _ 0 [.int .u8 0] from rfl) (Reps.one (show Kd.M (Kd.int .u8) _ _ _ 0 [.int .u8 0] from rfl) (Reps.one (show Kd.M (Kd.int .u8) _ _ _ 0 [.int .u8 0] from rfl) (Reps.one (show Kd.M (Kd.int .u8) _ _ _ 0 [.int .u8 0] from rfl) (Reps.one (show Kd.M (Kd.int .u8) _ _ _ 1 [.int .u8 1] from rfl) (Reps.one (show Kd.M (Kd.int .u8) _ _ _ 122 [.int .u8 122] from rfl) (Reps.one (show Kd.M (Kd.int .u8) _ _ _ 82 [.int .u8 82] from rfl) (Reps.one (show Kd.M (Kd.int .u8) _ _ _ 0 [.int .u8 0] from rfl) (Reps.one (show Kd.M (Kd.int .u8) _ _ _ 1 [.int .u8 1] from rfl) (Reps.one (show Kd.M (Kd.int .u8) _ _ _ 120 [.int .u8 120] from rfl) (Reps.one (show Kd.M (Kd.int .u8) _ _ _ 16 [.int .u8 16] from rfl) (Reps.one (show Kd.M (Kd.int .u8) _ _ _ 1 [.int .u8 1] from rfl) (Reps.one (show Kd.M (Kd.int .u8) _ _ _ ((a0) % 256) [.int .u8 ((a0) % 256)] from rfl) (Reps.none _ _))))))))))))))); intro v102 w2 ho3 hb hg_ hnew_; clear hg_ hnew_; (first | rw [← Ny101.out] at ho3 | (simp only [Int.reduceToNat] at ho3; rw [← Ny101.out] at ho3)); have n0_ := am (Kd.R_lower ho3 (below_size (by exact bl_o HB.out))); have n1_ := am (below_step (by exact bl_o HB.out) hb); clear HB; have HO103 := n0_; have HB := n1_; clear n0_ n1_; clear hb ho3))
 go_ret
 exact ⟨_, rfl, by (with_reducible repeat (first | apply Kd.R_alloc | apply Kd.R_drewN | apply Kd.R_drew)); exact HO103.out, by exact bl_g HB.out⟩
end Go.Proofs.Ytfgfnflhdabmcaa.G
end
