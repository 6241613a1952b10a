/- Lemmas and contracts, one text behind the other: what the row of this claim needs; no conditions beyond those that each theorem names. -/
import Derived.Outline
import Derived.Lib.Bytealg
import Derived.WideKeyEntry
import Derived.DeepKeys4
import Derived.Great.Frames
import Derived.Test.YtibkcnlcmempgaaVJ2
section
namespace Go.Proofs.Ytibkcnlcmempgaa.G
open Go.RowKit Go.Proofs.YtibkcnlcmempgaaW.PrintWords Go.Proofs.YtibkcnlcmempgaaW.PrintLast Go.Proofs.YtibkcnlcmempgaaW.PrintMore
attribute [local go_sem] max2_int min2_int max_two min_two max_three min_three max_four min_four   -- for this text's walks alone
set_option linter.unusedVariables false
set_option linter.unusedSimpArgs false
def resolve_section.j0 : Nat → Int → Bool → ByteArray → Int → Int → Int → List Int → Int → List (S146) → Option (Bool)
 | 0, _, _, _, _, _, _, _, _, _ => none
 | k + 1, x4, x5, x102000, x102001, x102002, x102003, x102004, x102005, x102006 => if x5 = true then (if x102005 = (x102004.length : Int) then (if x102002 ≥ 0 then (if (Go.bits .andNot .i64 x102002 1031) = 0 then (if x102003 ≥ 1 then (if x102003 ≤ 4096 then (some ((Go.bits .and .i64 x102003 (wrap64 (x102003 - 1))) == 0)) else (some false)) else (some false)) else (some false)) else (some false)) else (some false)) else (if x4 = 8 then (if (x102004.length : Int) > 0 then (some false) else (if x102005 < 0 then (some false) else (if x102005 > 1073741824 then (some false) else (if x102002 ≥ 0 then (if (Go.bits .andNot .i64 x102002 1031) = 0 then (if x102003 ≥ 1 then (if x102003 ≤ 4096 then (some ((Go.bits .and .i64 x102003 (wrap64 (x102003 - 1))) == 0)) else (some false)) else (some false)) else (some false)) else (some false))))) else (some false))
def resolve_section.f (k : Nat) (a0_0 : ByteArray) (a0_1 : Int) (a0_2 : Int) (a0_3 : Int) (l0_4 : List Int) (a0_5 : Int) (l0_6 : List (S146)) : Option (Bool) := if a0_1 = 1 then (resolve_section.j0 k a0_1 (a0_1 == 1) a0_0 a0_1 a0_2 a0_3 l0_4 a0_5 l0_6) else (if a0_1 = 14 then (resolve_section.j0 k a0_1 (a0_1 == 14) a0_0 a0_1 a0_2 a0_3 l0_4 a0_5 l0_6) else (resolve_section.j0 k a0_1 (a0_1 == 15) a0_0 a0_1 a0_2 a0_3 l0_4 a0_5 l0_6))
set_option maxHeartbeats 8000000 in
set_option maxRecDepth 100000 in
theorem resolve_section.calls (k : Nat) (a0_0 : ByteArray) (a0_1 : Int) (a0_2 : Int) (a0_3 : Int) (A0_4 : Option Addr) (c0_4 : Nat) (l0_4 : List Int) (a0_5 : Int) (A0_6 : Option Addr) (c0_6 : Nat) (l0_6 : List (S146)) (r : Bool) (w : World) (hr0_4 : Kd.C (Kd.int .u8) w A0_4 l0_4.length l0_4) (hc0_4 : l0_4.length ≤ c0_4) (hr0_6 : Kd.C k146 w A0_6 l0_6.length l0_6) (hc0_6 : l0_6.length ≤ c0_6) (h : resolve_section.f k a0_0 a0_1 a0_2 a0_3 l0_4 a0_5 l0_6 = some r) :
  Calls Try.prog 28 #[.agg #[.string a0_0, .int .i64 a0_1, .int .i64 a0_2, .int .i64 a0_3, .slice A0_4 l0_4.length c0_4, .int .i64 a0_5, .slice A0_6 l0_6.length c0_6]] w fun e w' => e = .returned (.bool r) ∧ Below w.heap.size w w' := by
 have hu72 := Try.underlying72
 have HR0_4 := Aside0.mk hr0_4
 have HC0_4 := Aside0.mk hc0_4
 clear hr0_4 hc0_4
 have HR0_6 := Aside0.mk hr0_6
 have HC0_6 := Aside0.mk hc0_6
 clear hr0_6 hc0_6
 have HB := Aside0.mk (Below.refl w.heap.size w)
 have H : (if a0_1 = 1 then (resolve_section.j0 k a0_1 (a0_1 == 1) a0_0 a0_1 a0_2 a0_3 l0_4 a0_5 l0_6) else (if a0_1 = 14 then (resolve_section.j0 k a0_1 (a0_1 == 14) a0_0 a0_1 a0_2 a0_3 l0_4 a0_5 l0_6) else (resolve_section.j0 k a0_1 (a0_1 == 15) a0_0 a0_1 a0_2 a0_3 l0_4 a0_5 l0_6))) = some r := h
 clear h
 have HC2 := Aside0.mk H
 clear H
 go_enter Try.func28, Try.ntmps28
 go_upto_if 5 with (first | ((with_reducible refine gate_dst (N := 1) rfl ?_); refine box_event ?hg (N := 1) ?hd (cs := #[.string a0_0, .int .i64 a0_1, .int .i64 a0_2, .int .i64 a0_3, .slice A0_4 l0_4.length c0_4, .int .i64 a0_5, .slice A0_6 l0_6.length c0_6]) (t := 72) ?hr ?_; (case hd => rfl); (case hg => rfl); (case hr => first | (go_simp; done) | (go_simp; rfl)); intro gb101 hg w3 hbox hb; have n0_ := Aside0.mk (below_step (by repeat (first | (with_reducible first | exact HB.out | apply below_alloc | apply pw_below_drewN | apply below_drew1) | exact HB.out)) hb); have n1_ := Aside0.mk (hbox); have n2_ := Aside0.mk ((by rw [hg]; exact (below_size (by repeat (first | (with_reducible first | exact HB.out | apply below_alloc | apply pw_below_drewN | apply below_drew1) | exact HB.out))) : w.heap.size ≤ gb101)); have n3_ := Aside0.mk ((by rw [hg]; exact (below_size (by repeat (first | (with_reducible first | exact HB.out | apply below_alloc | apply pw_below_drewN | apply below_drew1) | exact HB.out))) : w.heap.size ≤ gb101)); clear HB; have HB := n0_; have BK101 := n1_; have GW101 := n2_; have GE101 := n3_; clear n0_ n1_ n2_ n3_; clear hb hbox hg; have hcz4_0 : w3.cell? ⟨gb101, 0, none⟩ = some (.string a0_0) := (blk_cell BK101.out 0).trans rfl; have hcz4_1 : w3.cell? ⟨gb101, 1, none⟩ = some (.int .i64 a0_1) := (blk_cell BK101.out 1).trans rfl; have hcz4_2 : w3.cell? ⟨gb101, 2, none⟩ = some (.int .i64 a0_2) := (blk_cell BK101.out 2).trans rfl; have hcz4_3 : w3.cell? ⟨gb101, 3, none⟩ = some (.int .i64 a0_3) := (blk_cell BK101.out 3).trans rfl; have hcz4_4 : w3.cell? ⟨gb101, 4, none⟩ = some (.slice A0_4 l0_4.length c0_4) := (blk_cell BK101.out 4).trans rfl; have hcz4_5 : w3.cell? ⟨gb101, 5, none⟩ = some (.int .i64 a0_5) := (blk_cell BK101.out 5).trans rfl; have hcz4_6 : w3.cell? ⟨gb101, 6, none⟩ = some (.slice A0_6 l0_6.length c0_6) := (blk_cell BK101.out 6).trans rfl; have hfz4_0 := blk_frozen BK101.out 0; have hfz4_1 := blk_frozen BK101.out 1; have hfz4_2 := blk_frozen BK101.out 2; have hfz4_3 := blk_frozen BK101.out 3; have hfz4_4 := blk_frozen BK101.out 4; have hfz4_5 := blk_frozen BK101.out 5; have hfz4_6 := blk_frozen BK101.out 6))
 (try simp only [Act.put, List.setIfInBounds_toArray, List.set_cons_zero, List.set_cons_succ])
 go_cut [5] (fun v5 wc => ∃ (kq : Nat) (x5_1 : Bool), v5 = .bool x5_1 ∧ Aside0 (resolve_section.j0 kq a0_1 x5_1 a0_0 a0_1 a0_2 a0_3 l0_4 a0_5 l0_6 = some r) ∧ Aside0 (kq ≤ k) ∧ Aside0 (wc.heap[gb101]? = some (.cells #[.string a0_0, .int .i64 a0_1, .int .i64 a0_2, .int .i64 a0_3, (.slice A0_4 l0_4.length c0_4), .int .i64 a0_5, (.slice A0_6 l0_6.length c0_6)] 72 (0, 0))) ∧ Aside0 (Below w.heap.size w wc))
 case first =>
  have H := HC2.out
  clear HC2
  by_cases c5 : a0_1 = 1
  ·
   rw [if_pos c5] at H
   have c5b0 : (a0_1 == 1) = true := beq_iff_eq.mpr c5
   have c5b1 : (a0_1 != 1) = false := bne_eq_false_iff_eq.mpr c5
   clear c5
   (first | rw [c5b0] | (simp only [i64_w, i32_w]; rw [c5b0]) | skip)
   have H' := Aside0.mk H
   clear H
   go_wp2
   go_meet
   case rel => exact ⟨_, ((a0_1 == 1)), (by first | rfl | (simp; done) | (simp [*]; done) | (simp [show ∀ l_ : List UInt8, (l_ != []) = !l_.isEmpty from fun l_ => by cases l_ <;> rfl]; done) | (congr 1; refine congr (congrArg (Go.bits _ _) ?_) ?_ <;> omega)), H', ⟨by first | omega | exact Nat.le_refl _⟩, ⟨by (with_reducible repeat (first | refine blk_drewN ?_ _ | refine blk_drew ?_ | refine blk_alloc ?_ _)); exact BK101.out⟩, ⟨by repeat (first | (with_reducible first | exact HB.out | apply below_alloc | apply pw_below_drewN | apply below_drew1 | refine below_set ?_ GE101.out) | exact HB.out)⟩⟩
  ·
   rw [if_neg c5] at H
   have c5b0 : (a0_1 == 1) = false := beq_eq_false_iff_ne.mpr c5
   have c5b1 : (a0_1 != 1) = true := bne_iff_ne.mpr c5
   (first | rw [c5b0] | (simp only [i64_w, i32_w]; rw [c5b0]) | skip)
   by_cases c6 : a0_1 = 14
   ·
    rw [if_pos c6] at H
    have c6b0 : (a0_1 == 14) = true := beq_iff_eq.mpr c6
    have c6b1 : (a0_1 != 14) = false := bne_eq_false_iff_eq.mpr c6
    clear c6
    have H' := Aside0.mk H
    clear H
    go_wp2
    go_meet
    case rel => exact ⟨_, ((a0_1 == 14)), (by first | rfl | (simp; done) | (simp [*]; done) | (simp [show ∀ l_ : List UInt8, (l_ != []) = !l_.isEmpty from fun l_ => by cases l_ <;> rfl]; done) | (congr 1; refine congr (congrArg (Go.bits _ _) ?_) ?_ <;> omega)), H', ⟨by first | omega | exact Nat.le_refl _⟩, ⟨by (with_reducible repeat (first | refine blk_drewN ?_ _ | refine blk_drew ?_ | refine blk_alloc ?_ _)); exact BK101.out⟩, ⟨by repeat (first | (with_reducible first | exact HB.out | apply below_alloc | apply pw_below_drewN | apply below_drew1 | refine below_set ?_ GE101.out) | exact HB.out)⟩⟩
   ·
    rw [if_neg c6] at H
    have c6b0 : (a0_1 == 14) = false := beq_eq_false_iff_ne.mpr c6
    have c6b1 : (a0_1 != 14) = true := bne_iff_ne.mpr c6
    have H' := Aside0.mk H
    clear H
    go_wp2
    go_meet
    case rel => exact ⟨_, ((a0_1 == 15)), (by first | rfl | (simp; done) | (simp [*]; done) | (simp [show ∀ l_ : List UInt8, (l_ != []) = !l_.isEmpty from fun l_ => by cases l_ <;> rfl]; done) | (congr 1; refine congr (congrArg (Go.bits _ _) ?_) ?_ <;> omega)), H', ⟨by first | omega | exact Nat.le_refl _⟩, ⟨by (with_reducible repeat (first | refine blk_drewN ?_ _ | refine blk_drew ?_ | refine blk_alloc ?_ _)); exact BK101.out⟩, ⟨by repeat (first | (with_reducible first | exact HB.out | apply below_alloc | apply pw_below_drewN | apply below_drew1 | refine below_set ?_ GE101.out) | exact HB.out)⟩⟩
 case rest =>
  clear HC2
  try clear c2
  try clear p2
  try clear c5
  try clear c5b0
  try clear c5b1
  try clear c6
  try clear c6b0
  try clear c6b1
  try clear hcz4_0
  try clear hcz4_1
  try clear hcz4_2
  try clear hcz4_3
  try clear hcz4_4
  try clear hcz4_5
  try clear hcz4_6
  try clear hfz4_0
  try clear hfz4_1
  try clear hfz4_2
  try clear hfz4_3
  try clear hfz4_4
  try clear hfz4_5
  try clear hfz4_6
  obtain ⟨kq, x5_1, rfl, HA, HJ1, BK101, HB⟩ := hcut
  cases kq with
  | zero => exact absurd HA.out (by simp [resolve_section.j0])
  | succ kj1 =>
   have H := HA.out
   clear HA
   simp only [resolve_section.j0] at H
   by_cases c7 : x5_1 = true
   ·
    subst c7
    have H1 : (if a0_5 = (l0_4.length : Int) then (if a0_2 ≥ 0 then (if (Go.bits .andNot .i64 a0_2 1031) = 0 then (if a0_3 ≥ 1 then (if a0_3 ≤ 4096 then (some ((Go.bits .and .i64 a0_3 (wrap64 (a0_3 - 1))) == 0)) else (some false)) else (some false)) else (some false)) else (some false)) else (some false)) = some r := by rw [if_pos rfl] at H; exact H
    clear H
    have H := H1
    clear H1
    by_cases c8 : a0_5 = (l0_4.length : Int)
    ·
     rw [if_pos c8] at H
     have c8b0 : (a0_5 == (l0_4.length : Int)) = true := beq_iff_eq.mpr c8
     have c8b1 : (a0_5 != (l0_4.length : Int)) = false := bne_eq_false_iff_eq.mpr c8
     clear c8
     by_cases c9 : a0_2 ≥ 0
     ·
      rw [if_pos c9] at H
      have c9b0 : decide (0 ≤ a0_2) = true := decide_eq_true c9
      clear c9
      by_cases c10 : (Go.bits .andNot .i64 a0_2 1031) = 0
      ·
       rw [if_pos c10] at H
       have c10b0 : ((Go.bits .andNot .i64 a0_2 1031) == 0) = true := beq_iff_eq.mpr c10
       have c10b1 : ((Go.bits .andNot .i64 a0_2 1031) != 0) = false := bne_eq_false_iff_eq.mpr c10
       clear c10
       by_cases c11 : a0_3 ≥ 1
       ·
        rw [if_pos c11] at H
        have c11b0 : decide (1 ≤ a0_3) = true := decide_eq_true c11
        clear c11
        by_cases c12 : a0_3 ≤ 4096
        ·
         rw [if_pos c12] at H
         have c12b0 : decide (a0_3 ≤ 4096) = true := decide_eq_true c12
         clear c12
         obtain rfl := Option.some.inj H
         have hcz13_0 : wc.cell? ⟨gb101, 0, none⟩ = some (.string a0_0) := (blk_cell BK101.out 0).trans rfl
         have hcz13_1 : wc.cell? ⟨gb101, 1, none⟩ = some (.int .i64 a0_1) := (blk_cell BK101.out 1).trans rfl
         have hcz13_2 : wc.cell? ⟨gb101, 2, none⟩ = some (.int .i64 a0_2) := (blk_cell BK101.out 2).trans rfl
         have hcz13_3 : wc.cell? ⟨gb101, 3, none⟩ = some (.int .i64 a0_3) := (blk_cell BK101.out 3).trans rfl
         have hcz13_4 : wc.cell? ⟨gb101, 4, none⟩ = some (.slice A0_4 l0_4.length c0_4) := (blk_cell BK101.out 4).trans rfl
         have hcz13_5 : wc.cell? ⟨gb101, 5, none⟩ = some (.int .i64 a0_5) := (blk_cell BK101.out 5).trans rfl
         have hcz13_6 : wc.cell? ⟨gb101, 6, none⟩ = some (.slice A0_6 l0_6.length c0_6) := (blk_cell BK101.out 6).trans rfl
         have hfz13_0 := blk_frozen BK101.out 0
         have hfz13_1 := blk_frozen BK101.out 1
         have hfz13_2 := blk_frozen BK101.out 2
         have hfz13_3 := blk_frozen BK101.out 3
         have hfz13_4 := blk_frozen BK101.out 4
         have hfz13_5 := blk_frozen BK101.out 5
         have hfz13_6 := blk_frozen BK101.out 6
         go_wp2
         go_ret
         exact ⟨by first | rfl | (simp [errW_none, errW_some] <;> rfl) | (simp [*, errW_none, errW_some] <;> rfl), by repeat (first | (with_reducible first | exact HB.out | apply below_alloc | apply pw_below_drewN | apply below_drew1 | refine below_set ?_ GE101.out) | exact HB.out)⟩
        ·
         rw [if_neg c12] at H
         have c12b0 : decide (a0_3 ≤ 4096) = false := decide_eq_false c12
         clear c12
         obtain rfl := Option.some.inj H
         have hcz14_0 : wc.cell? ⟨gb101, 0, none⟩ = some (.string a0_0) := (blk_cell BK101.out 0).trans rfl
         have hcz14_1 : wc.cell? ⟨gb101, 1, none⟩ = some (.int .i64 a0_1) := (blk_cell BK101.out 1).trans rfl
         have hcz14_2 : wc.cell? ⟨gb101, 2, none⟩ = some (.int .i64 a0_2) := (blk_cell BK101.out 2).trans rfl
         have hcz14_3 : wc.cell? ⟨gb101, 3, none⟩ = some (.int .i64 a0_3) := (blk_cell BK101.out 3).trans rfl
         have hcz14_4 : wc.cell? ⟨gb101, 4, none⟩ = some (.slice A0_4 l0_4.length c0_4) := (blk_cell BK101.out 4).trans rfl
         have hcz14_5 : wc.cell? ⟨gb101, 5, none⟩ = some (.int .i64 a0_5) := (blk_cell BK101.out 5).trans rfl
         have hcz14_6 : wc.cell? ⟨gb101, 6, none⟩ = some (.slice A0_6 l0_6.length c0_6) := (blk_cell BK101.out 6).trans rfl
         have hfz14_0 := blk_frozen BK101.out 0
         have hfz14_1 := blk_frozen BK101.out 1
         have hfz14_2 := blk_frozen BK101.out 2
         have hfz14_3 := blk_frozen BK101.out 3
         have hfz14_4 := blk_frozen BK101.out 4
         have hfz14_5 := blk_frozen BK101.out 5
         have hfz14_6 := blk_frozen BK101.out 6
         go_wp2
         go_ret
         exact ⟨by first | rfl | (simp [errW_none, errW_some] <;> rfl) | (simp [*, errW_none, errW_some] <;> rfl), by repeat (first | (with_reducible first | exact HB.out | apply below_alloc | apply pw_below_drewN | apply below_drew1 | refine below_set ?_ GE101.out) | exact HB.out)⟩
       ·
        rw [if_neg c11] at H
        have c11b0 : decide (1 ≤ a0_3) = false := decide_eq_false c11
        clear c11
        obtain rfl := Option.some.inj H
        have hcz15_0 : wc.cell? ⟨gb101, 0, none⟩ = some (.string a0_0) := (blk_cell BK101.out 0).trans rfl
        have hcz15_1 : wc.cell? ⟨gb101, 1, none⟩ = some (.int .i64 a0_1) := (blk_cell BK101.out 1).trans rfl
        have hcz15_2 : wc.cell? ⟨gb101, 2, none⟩ = some (.int .i64 a0_2) := (blk_cell BK101.out 2).trans rfl
        have hcz15_3 : wc.cell? ⟨gb101, 3, none⟩ = some (.int .i64 a0_3) := (blk_cell BK101.out 3).trans rfl
        have hcz15_4 : wc.cell? ⟨gb101, 4, none⟩ = some (.slice A0_4 l0_4.length c0_4) := (blk_cell BK101.out 4).trans rfl
        have hcz15_5 : wc.cell? ⟨gb101, 5, none⟩ = some (.int .i64 a0_5) := (blk_cell BK101.out 5).trans rfl
        have hcz15_6 : wc.cell? ⟨gb101, 6, none⟩ = some (.slice A0_6 l0_6.length c0_6) := (blk_cell BK101.out 6).trans rfl
        have hfz15_0 := blk_frozen BK101.out 0
        have hfz15_1 := blk_frozen BK101.out 1
        have hfz15_2 := blk_frozen BK101.out 2
        have hfz15_3 := blk_frozen BK101.out 3
        have hfz15_4 := blk_frozen BK101.out 4
        have hfz15_5 := blk_frozen BK101.out 5
        have hfz15_6 := blk_frozen BK101.out 6
        go_wp2
        go_ret
        exact ⟨by first | rfl | (simp [errW_none, errW_some] <;> rfl) | (simp [*, errW_none, errW_some] <;> rfl), by repeat (first | (with_reducible first | exact HB.out | apply below_alloc | apply pw_below_drewN | apply below_drew1 | refine below_set ?_ GE101.out) | exact HB.out)⟩
      ·
       rw [if_neg c10] at H
       have c10b0 : ((Go.bits .andNot .i64 a0_2 1031) == 0) = false := beq_eq_false_iff_ne.mpr c10
       have c10b1 : ((Go.bits .andNot .i64 a0_2 1031) != 0) = true := bne_iff_ne.mpr c10
       obtain rfl := Option.some.inj H
       have hcz16_0 : wc.cell? ⟨gb101, 0, none⟩ = some (.string a0_0) := (blk_cell BK101.out 0).trans rfl
       have hcz16_1 : wc.cell? ⟨gb101, 1, none⟩ = some (.int .i64 a0_1) := (blk_cell BK101.out 1).trans rfl
       have hcz16_2 : wc.cell? ⟨gb101, 2, none⟩ = some (.int .i64 a0_2) := (blk_cell BK101.out 2).trans rfl
       have hcz16_3 : wc.cell? ⟨gb101, 3, none⟩ = some (.int .i64 a0_3) := (blk_cell BK101.out 3).trans rfl
       have hcz16_4 : wc.cell? ⟨gb101, 4, none⟩ = some (.slice A0_4 l0_4.length c0_4) := (blk_cell BK101.out 4).trans rfl
       have hcz16_5 : wc.cell? ⟨gb101, 5, none⟩ = some (.int .i64 a0_5) := (blk_cell BK101.out 5).trans rfl
       have hcz16_6 : wc.cell? ⟨gb101, 6, none⟩ = some (.slice A0_6 l0_6.length c0_6) := (blk_cell BK101.out 6).trans rfl
       have hfz16_0 := blk_frozen BK101.out 0
       have hfz16_1 := blk_frozen BK101.out 1
       have hfz16_2 := blk_frozen BK101.out 2
       have hfz16_3 := blk_frozen BK101.out 3
       have hfz16_4 := blk_frozen BK101.out 4
       have hfz16_5 := blk_frozen BK101.out 5
       have hfz16_6 := blk_frozen BK101.out 6
       go_wp2
       go_ret
       exact ⟨by first | rfl | (simp [errW_none, errW_some] <;> rfl) | (simp [*, errW_none, errW_some] <;> rfl), by repeat (first | (with_reducible first | exact HB.out | apply below_alloc | apply pw_below_drewN | apply below_drew1 | refine below_set ?_ GE101.out) | exact HB.out)⟩
     ·
      rw [if_neg c9] at H
      have c9b0 : decide (0 ≤ a0_2) = false := decide_eq_false c9
      clear c9
      obtain rfl := Option.some.inj H
      have hcz17_0 : wc.cell? ⟨gb101, 0, none⟩ = some (.string a0_0) := (blk_cell BK101.out 0).trans rfl
      have hcz17_1 : wc.cell? ⟨gb101, 1, none⟩ = some (.int .i64 a0_1) := (blk_cell BK101.out 1).trans rfl
      have hcz17_2 : wc.cell? ⟨gb101, 2, none⟩ = some (.int .i64 a0_2) := (blk_cell BK101.out 2).trans rfl
      have hcz17_3 : wc.cell? ⟨gb101, 3, none⟩ = some (.int .i64 a0_3) := (blk_cell BK101.out 3).trans rfl
      have hcz17_4 : wc.cell? ⟨gb101, 4, none⟩ = some (.slice A0_4 l0_4.length c0_4) := (blk_cell BK101.out 4).trans rfl
      have hcz17_5 : wc.cell? ⟨gb101, 5, none⟩ = some (.int .i64 a0_5) := (blk_cell BK101.out 5).trans rfl
      have hcz17_6 : wc.cell? ⟨gb101, 6, none⟩ = some (.slice A0_6 l0_6.length c0_6) := (blk_cell BK101.out 6).trans rfl
      have hfz17_0 := blk_frozen BK101.out 0
      have hfz17_1 := blk_frozen BK101.out 1
      have hfz17_2 := blk_frozen BK101.out 2
      have hfz17_3 := blk_frozen BK101.out 3
      have hfz17_4 := blk_frozen BK101.out 4
      have hfz17_5 := blk_frozen BK101.out 5
      have hfz17_6 := blk_frozen BK101.out 6
      go_wp2
      go_ret
      exact ⟨by first | rfl | (simp [errW_none, errW_some] <;> rfl) | (simp [*, errW_none, errW_some] <;> rfl), by repeat (first | (with_reducible first | exact HB.out | apply below_alloc | apply pw_below_drewN | apply below_drew1 | refine below_set ?_ GE101.out) | exact HB.out)⟩
    ·
     rw [if_neg c8] at H
     have c8b0 : (a0_5 == (l0_4.length : Int)) = false := beq_eq_false_iff_ne.mpr c8
     have c8b1 : (a0_5 != (l0_4.length : Int)) = true := bne_iff_ne.mpr c8
     obtain rfl := Option.some.inj H
     have hcz18_0 : wc.cell? ⟨gb101, 0, none⟩ = some (.string a0_0) := (blk_cell BK101.out 0).trans rfl
     have hcz18_1 : wc.cell? ⟨gb101, 1, none⟩ = some (.int .i64 a0_1) := (blk_cell BK101.out 1).trans rfl
     have hcz18_2 : wc.cell? ⟨gb101, 2, none⟩ = some (.int .i64 a0_2) := (blk_cell BK101.out 2).trans rfl
     have hcz18_3 : wc.cell? ⟨gb101, 3, none⟩ = some (.int .i64 a0_3) := (blk_cell BK101.out 3).trans rfl
     have hcz18_4 : wc.cell? ⟨gb101, 4, none⟩ = some (.slice A0_4 l0_4.length c0_4) := (blk_cell BK101.out 4).trans rfl
     have hcz18_5 : wc.cell? ⟨gb101, 5, none⟩ = some (.int .i64 a0_5) := (blk_cell BK101.out 5).trans rfl
     have hcz18_6 : wc.cell? ⟨gb101, 6, none⟩ = some (.slice A0_6 l0_6.length c0_6) := (blk_cell BK101.out 6).trans rfl
     have hfz18_0 := blk_frozen BK101.out 0
     have hfz18_1 := blk_frozen BK101.out 1
     have hfz18_2 := blk_frozen BK101.out 2
     have hfz18_3 := blk_frozen BK101.out 3
     have hfz18_4 := blk_frozen BK101.out 4
     have hfz18_5 := blk_frozen BK101.out 5
     have hfz18_6 := blk_frozen BK101.out 6
     go_wp2
     go_ret
     exact ⟨by first | rfl | (simp [errW_none, errW_some] <;> rfl) | (simp [*, errW_none, errW_some] <;> rfl), by repeat (first | (with_reducible first | exact HB.out | apply below_alloc | apply pw_below_drewN | apply below_drew1 | refine below_set ?_ GE101.out) | exact HB.out)⟩
   ·
    replace c7 := Bool.eq_false_iff.mpr c7
    subst c7
    have H1 : (if a0_1 = 8 then (if (l0_4.length : Int) > 0 then (some false) else (if a0_5 < 0 then (some false) else (if a0_5 > 1073741824 then (some false) else (if a0_2 ≥ 0 then (if (Go.bits .andNot .i64 a0_2 1031) = 0 then (if a0_3 ≥ 1 then (if a0_3 ≤ 4096 then (some ((Go.bits .and .i64 a0_3 (wrap64 (a0_3 - 1))) == 0)) else (some false)) else (some false)) else (some false)) else (some false))))) else (some false)) = some r := by rw [if_neg (show ¬ (false = true) by decide)] at H; exact H
    clear H
    have H := H1
    clear H1
    by_cases c19 : a0_1 = 8
    ·
     rw [if_pos c19] at H
     have c19b0 : (a0_1 == 8) = true := beq_iff_eq.mpr c19
     have c19b1 : (a0_1 != 8) = false := bne_eq_false_iff_eq.mpr c19
     clear c19
     by_cases c20 : (l0_4.length : Int) > 0
     ·
      rw [if_pos c20] at H
      have c20b0 : decide (0 < (l0_4.length : Int)) = true := decide_eq_true c20
      have c20b1 : decide (0 < l0_4.length) = true := decide_eq_true (by omega)
      clear c20
      obtain rfl := Option.some.inj H
      have hcz21_0 : wc.cell? ⟨gb101, 0, none⟩ = some (.string a0_0) := (blk_cell BK101.out 0).trans rfl
      have hcz21_1 : wc.cell? ⟨gb101, 1, none⟩ = some (.int .i64 a0_1) := (blk_cell BK101.out 1).trans rfl
      have hcz21_2 : wc.cell? ⟨gb101, 2, none⟩ = some (.int .i64 a0_2) := (blk_cell BK101.out 2).trans rfl
      have hcz21_3 : wc.cell? ⟨gb101, 3, none⟩ = some (.int .i64 a0_3) := (blk_cell BK101.out 3).trans rfl
      have hcz21_4 : wc.cell? ⟨gb101, 4, none⟩ = some (.slice A0_4 l0_4.length c0_4) := (blk_cell BK101.out 4).trans rfl
      have hcz21_5 : wc.cell? ⟨gb101, 5, none⟩ = some (.int .i64 a0_5) := (blk_cell BK101.out 5).trans rfl
      have hcz21_6 : wc.cell? ⟨gb101, 6, none⟩ = some (.slice A0_6 l0_6.length c0_6) := (blk_cell BK101.out 6).trans rfl
      have hfz21_0 := blk_frozen BK101.out 0
      have hfz21_1 := blk_frozen BK101.out 1
      have hfz21_2 := blk_frozen BK101.out 2
      have hfz21_3 := blk_frozen BK101.out 3
      have hfz21_4 := blk_frozen BK101.out 4
      have hfz21_5 := blk_frozen BK101.out 5
      have hfz21_6 := blk_frozen BK101.out 6
      go_wp2
      go_ret
      exact ⟨by first | rfl | (simp [errW_none, errW_some] <;> rfl) | (simp [*, errW_none, errW_some] <;> rfl), by repeat (first | (with_reducible first | exact HB.out | apply below_alloc | apply pw_below_drewN | apply below_drew1 | refine below_set ?_ GE101.out) | exact HB.out)⟩
     ·
      rw [if_neg c20] at H
      have c20b0 : decide (0 < (l0_4.length : Int)) = false := decide_eq_false c20
      have c20b1 : decide (0 < l0_4.length) = false := decide_eq_false (by omega)
      clear c20
      by_cases c22 : a0_5 < 0
      ·
       rw [if_pos c22] at H
       have c22b0 : decide (a0_5 < 0) = true := decide_eq_true c22
       clear c22
       obtain rfl := Option.some.inj H
       have hcz23_0 : wc.cell? ⟨gb101, 0, none⟩ = some (.string a0_0) := (blk_cell BK101.out 0).trans rfl
       have hcz23_1 : wc.cell? ⟨gb101, 1, none⟩ = some (.int .i64 a0_1) := (blk_cell BK101.out 1).trans rfl
       have hcz23_2 : wc.cell? ⟨gb101, 2, none⟩ = some (.int .i64 a0_2) := (blk_cell BK101.out 2).trans rfl
       have hcz23_3 : wc.cell? ⟨gb101, 3, none⟩ = some (.int .i64 a0_3) := (blk_cell BK101.out 3).trans rfl
       have hcz23_4 : wc.cell? ⟨gb101, 4, none⟩ = some (.slice A0_4 l0_4.length c0_4) := (blk_cell BK101.out 4).trans rfl
       have hcz23_5 : wc.cell? ⟨gb101, 5, none⟩ = some (.int .i64 a0_5) := (blk_cell BK101.out 5).trans rfl
       have hcz23_6 : wc.cell? ⟨gb101, 6, none⟩ = some (.slice A0_6 l0_6.length c0_6) := (blk_cell BK101.out 6).trans rfl
       have hfz23_0 := blk_frozen BK101.out 0
       have hfz23_1 := blk_frozen BK101.out 1
       have hfz23_2 := blk_frozen BK101.out 2
       have hfz23_3 := blk_frozen BK101.out 3
       have hfz23_4 := blk_frozen BK101.out 4
       have hfz23_5 := blk_frozen BK101.out 5
       have hfz23_6 := blk_frozen BK101.out 6
       go_wp2
       go_ret
       exact ⟨by first | rfl | (simp [errW_none, errW_some] <;> rfl) | (simp [*, errW_none, errW_some] <;> rfl), by repeat (first | (with_reducible first | exact HB.out | apply below_alloc | apply pw_below_drewN | apply below_drew1 | refine below_set ?_ GE101.out) | exact HB.out)⟩
      ·
       rw [if_neg c22] at H
       have c22b0 : decide (a0_5 < 0) = false := decide_eq_false c22
       clear c22
       by_cases c24 : a0_5 > 1073741824
       ·
        rw [if_pos c24] at H
        have c24b0 : decide (1073741824 < a0_5) = true := decide_eq_true c24
        clear c24
        obtain rfl := Option.some.inj H
        have hcz25_0 : wc.cell? ⟨gb101, 0, none⟩ = some (.string a0_0) := (blk_cell BK101.out 0).trans rfl
        have hcz25_1 : wc.cell? ⟨gb101, 1, none⟩ = some (.int .i64 a0_1) := (blk_cell BK101.out 1).trans rfl
        have hcz25_2 : wc.cell? ⟨gb101, 2, none⟩ = some (.int .i64 a0_2) := (blk_cell BK101.out 2).trans rfl
        have hcz25_3 : wc.cell? ⟨gb101, 3, none⟩ = some (.int .i64 a0_3) := (blk_cell BK101.out 3).trans rfl
        have hcz25_4 : wc.cell? ⟨gb101, 4, none⟩ = some (.slice A0_4 l0_4.length c0_4) := (blk_cell BK101.out 4).trans rfl
        have hcz25_5 : wc.cell? ⟨gb101, 5, none⟩ = some (.int .i64 a0_5) := (blk_cell BK101.out 5).trans rfl
        have hcz25_6 : wc.cell? ⟨gb101, 6, none⟩ = some (.slice A0_6 l0_6.length c0_6) := (blk_cell BK101.out 6).trans rfl
        have hfz25_0 := blk_frozen BK101.out 0
        have hfz25_1 := blk_frozen BK101.out 1
        have hfz25_2 := blk_frozen BK101.out 2
        have hfz25_3 := blk_frozen BK101.out 3
        have hfz25_4 := blk_frozen BK101.out 4
        have hfz25_5 := blk_frozen BK101.out 5
        have hfz25_6 := blk_frozen BK101.out 6
        go_wp2
        go_ret
        exact ⟨by first | rfl | (simp [errW_none, errW_some] <;> rfl) | (simp [*, errW_none, errW_some] <;> rfl), by repeat (first | (with_reducible first | exact HB.out | apply below_alloc | apply pw_below_drewN | apply below_drew1 | refine below_set ?_ GE101.out) | exact HB.out)⟩
       ·
        rw [if_neg c24] at H
        have c24b0 : decide (1073741824 < a0_5) = false := decide_eq_false c24
        clear c24
        by_cases c26 : a0_2 ≥ 0
        ·
         rw [if_pos c26] at H
         have c26b0 : decide (0 ≤ a0_2) = true := decide_eq_true c26
         clear c26
         by_cases c27 : (Go.bits .andNot .i64 a0_2 1031) = 0
         ·
          rw [if_pos c27] at H
          have c27b0 : ((Go.bits .andNot .i64 a0_2 1031) == 0) = true := beq_iff_eq.mpr c27
          have c27b1 : ((Go.bits .andNot .i64 a0_2 1031) != 0) = false := bne_eq_false_iff_eq.mpr c27
          clear c27
          by_cases c28 : a0_3 ≥ 1
          ·
           rw [if_pos c28] at H
           have c28b0 : decide (1 ≤ a0_3) = true := decide_eq_true c28
           clear c28
           by_cases c29 : a0_3 ≤ 4096
           ·
            rw [if_pos c29] at H
            have c29b0 : decide (a0_3 ≤ 4096) = true := decide_eq_true c29
            clear c29
            obtain rfl := Option.some.inj H
            have hcz30_0 : wc.cell? ⟨gb101, 0, none⟩ = some (.string a0_0) := (blk_cell BK101.out 0).trans rfl
            have hcz30_1 : wc.cell? ⟨gb101, 1, none⟩ = some (.int .i64 a0_1) := (blk_cell BK101.out 1).trans rfl
            have hcz30_2 : wc.cell? ⟨gb101, 2, none⟩ = some (.int .i64 a0_2) := (blk_cell BK101.out 2).trans rfl
            have hcz30_3 : wc.cell? ⟨gb101, 3, none⟩ = some (.int .i64 a0_3) := (blk_cell BK101.out 3).trans rfl
            have hcz30_4 : wc.cell? ⟨gb101, 4, none⟩ = some (.slice A0_4 l0_4.length c0_4) := (blk_cell BK101.out 4).trans rfl
            have hcz30_5 : wc.cell? ⟨gb101, 5, none⟩ = some (.int .i64 a0_5) := (blk_cell BK101.out 5).trans rfl
            have hcz30_6 : wc.cell? ⟨gb101, 6, none⟩ = some (.slice A0_6 l0_6.length c0_6) := (blk_cell BK101.out 6).trans rfl
            have hfz30_0 := blk_frozen BK101.out 0
            have hfz30_1 := blk_frozen BK101.out 1
            have hfz30_2 := blk_frozen BK101.out 2
            have hfz30_3 := blk_frozen BK101.out 3
            have hfz30_4 := blk_frozen BK101.out 4
            have hfz30_5 := blk_frozen BK101.out 5
            have hfz30_6 := blk_frozen BK101.out 6
            go_wp2
            go_ret
            exact ⟨by first | rfl | (simp [errW_none, errW_some] <;> rfl) | (simp [*, errW_none, errW_some] <;> rfl), by repeat (first | (with_reducible first | exact HB.out | apply below_alloc | apply pw_below_drewN | apply below_drew1 | refine below_set ?_ GE101.out) | exact HB.out)⟩
           ·
            rw [if_neg c29] at H
            have c29b0 : decide (a0_3 ≤ 4096) = false := decide_eq_false c29
            clear c29
            obtain rfl := Option.some.inj H
            have hcz31_0 : wc.cell? ⟨gb101, 0, none⟩ = some (.string a0_0) := (blk_cell BK101.out 0).trans rfl
            have hcz31_1 : wc.cell? ⟨gb101, 1, none⟩ = some (.int .i64 a0_1) := (blk_cell BK101.out 1).trans rfl
            have hcz31_2 : wc.cell? ⟨gb101, 2, none⟩ = some (.int .i64 a0_2) := (blk_cell BK101.out 2).trans rfl
            have hcz31_3 : wc.cell? ⟨gb101, 3, none⟩ = some (.int .i64 a0_3) := (blk_cell BK101.out 3).trans rfl
            have hcz31_4 : wc.cell? ⟨gb101, 4, none⟩ = some (.slice A0_4 l0_4.length c0_4) := (blk_cell BK101.out 4).trans rfl
            have hcz31_5 : wc.cell? ⟨gb101, 5, none⟩ = some (.int .i64 a0_5) := (blk_cell BK101.out 5).trans rfl
            have hcz31_6 : wc.cell? ⟨gb101, 6, none⟩ = some (.slice A0_6 l0_6.length c0_6) := (blk_cell BK101.out 6).trans rfl
            have hfz31_0 := blk_frozen BK101.out 0
            have hfz31_1 := blk_frozen BK101.out 1
            have hfz31_2 := blk_frozen BK101.out 2
            have hfz31_3 := blk_frozen BK101.out 3
            have hfz31_4 := blk_frozen BK101.out 4
            have hfz31_5 := blk_frozen BK101.out 5
            have hfz31_6 := blk_frozen BK101.out 6
            go_wp2
            go_ret
            exact ⟨by first | rfl | (simp [errW_none, errW_some] <;> rfl) | (simp [*, errW_none, errW_some] <;> rfl), by repeat (first | (with_reducible first | exact HB.out | apply below_alloc | apply pw_below_drewN | apply below_drew1 | refine below_set ?_ GE101.out) | exact HB.out)⟩
          ·
           rw [if_neg c28] at H
           have c28b0 : decide (1 ≤ a0_3) = false := decide_eq_false c28
           clear c28
           obtain rfl := Option.some.inj H
           have hcz32_0 : wc.cell? ⟨gb101, 0, none⟩ = some (.string a0_0) := (blk_cell BK101.out 0).trans rfl
           have hcz32_1 : wc.cell? ⟨gb101, 1, none⟩ = some (.int .i64 a0_1) := (blk_cell BK101.out 1).trans rfl
           have hcz32_2 : wc.cell? ⟨gb101, 2, none⟩ = some (.int .i64 a0_2) := (blk_cell BK101.out 2).trans rfl
           have hcz32_3 : wc.cell? ⟨gb101, 3, none⟩ = some (.int .i64 a0_3) := (blk_cell BK101.out 3).trans rfl
           have hcz32_4 : wc.cell? ⟨gb101, 4, none⟩ = some (.slice A0_4 l0_4.length c0_4) := (blk_cell BK101.out 4).trans rfl
           have hcz32_5 : wc.cell? ⟨gb101, 5, none⟩ = some (.int .i64 a0_5) := (blk_cell BK101.out 5).trans rfl
           have hcz32_6 : wc.cell? ⟨gb101, 6, none⟩ = some (.slice A0_6 l0_6.length c0_6) := (blk_cell BK101.out 6).trans rfl
           have hfz32_0 := blk_frozen BK101.out 0
           have hfz32_1 := blk_frozen BK101.out 1
           have hfz32_2 := blk_frozen BK101.out 2
           have hfz32_3 := blk_frozen BK101.out 3
           have hfz32_4 := blk_frozen BK101.out 4
           have hfz32_5 := blk_frozen BK101.out 5
           have hfz32_6 := blk_frozen BK101.out 6
           go_wp2
           go_ret
           exact ⟨by first | rfl | (simp [errW_none, errW_some] <;> rfl) | (simp [*, errW_none, errW_some] <;> rfl), by repeat (first | (with_reducible first | exact HB.out | apply below_alloc | apply pw_below_drewN | apply below_drew1 | refine below_set ?_ GE101.out) | exact HB.out)⟩
         ·
          rw [if_neg c27] at H
          have c27b0 : ((Go.bits .andNot .i64 a0_2 1031) == 0) = false := beq_eq_false_iff_ne.mpr c27
          have c27b1 : ((Go.bits .andNot .i64 a0_2 1031) != 0) = true := bne_iff_ne.mpr c27
          obtain rfl := Option.some.inj H
          have hcz33_0 : wc.cell? ⟨gb101, 0, none⟩ = some (.string a0_0) := (blk_cell BK101.out 0).trans rfl
          have hcz33_1 : wc.cell? ⟨gb101, 1, none⟩ = some (.int .i64 a0_1) := (blk_cell BK101.out 1).trans rfl
          have hcz33_2 : wc.cell? ⟨gb101, 2, none⟩ = some (.int .i64 a0_2) := (blk_cell BK101.out 2).trans rfl
          have hcz33_3 : wc.cell? ⟨gb101, 3, none⟩ = some (.int .i64 a0_3) := (blk_cell BK101.out 3).trans rfl
          have hcz33_4 : wc.cell? ⟨gb101, 4, none⟩ = some (.slice A0_4 l0_4.length c0_4) := (blk_cell BK101.out 4).trans rfl
          have hcz33_5 : wc.cell? ⟨gb101, 5, none⟩ = some (.int .i64 a0_5) := (blk_cell BK101.out 5).trans rfl
          have hcz33_6 : wc.cell? ⟨gb101, 6, none⟩ = some (.slice A0_6 l0_6.length c0_6) := (blk_cell BK101.out 6).trans rfl
          have hfz33_0 := blk_frozen BK101.out 0
          have hfz33_1 := blk_frozen BK101.out 1
          have hfz33_2 := blk_frozen BK101.out 2
          have hfz33_3 := blk_frozen BK101.out 3
          have hfz33_4 := blk_frozen BK101.out 4
          have hfz33_5 := blk_frozen BK101.out 5
          have hfz33_6 := blk_frozen BK101.out 6
          go_wp2
          go_ret
          exact ⟨by first | rfl | (simp [errW_none, errW_some] <;> rfl) | (simp [*, errW_none, errW_some] <;> rfl), by repeat (first | (with_reducible first | exact HB.out | apply below_alloc | apply pw_below_drewN | apply below_drew1 | refine below_set ?_ GE101.out) | exact HB.out)⟩
        ·
         rw [if_neg c26] at H
         have c26b0 : decide (0 ≤ a0_2) = false := decide_eq_false c26
         clear c26
         obtain rfl := Option.some.inj H
         have hcz34_0 : wc.cell? ⟨gb101, 0, none⟩ = some (.string a0_0) := (blk_cell BK101.out 0).trans rfl
         have hcz34_1 : wc.cell? ⟨gb101, 1, none⟩ = some (.int .i64 a0_1) := (blk_cell BK101.out 1).trans rfl
         have hcz34_2 : wc.cell? ⟨gb101, 2, none⟩ = some (.int .i64 a0_2) := (blk_cell BK101.out 2).trans rfl
         have hcz34_3 : wc.cell? ⟨gb101, 3, none⟩ = some (.int .i64 a0_3) := (blk_cell BK101.out 3).trans rfl
         have hcz34_4 : wc.cell? ⟨gb101, 4, none⟩ = some (.slice A0_4 l0_4.length c0_4) := (blk_cell BK101.out 4).trans rfl
         have hcz34_5 : wc.cell? ⟨gb101, 5, none⟩ = some (.int .i64 a0_5) := (blk_cell BK101.out 5).trans rfl
         have hcz34_6 : wc.cell? ⟨gb101, 6, none⟩ = some (.slice A0_6 l0_6.length c0_6) := (blk_cell BK101.out 6).trans rfl
         have hfz34_0 := blk_frozen BK101.out 0
         have hfz34_1 := blk_frozen BK101.out 1
         have hfz34_2 := blk_frozen BK101.out 2
         have hfz34_3 := blk_frozen BK101.out 3
         have hfz34_4 := blk_frozen BK101.out 4
         have hfz34_5 := blk_frozen BK101.out 5
         have hfz34_6 := blk_frozen BK101.out 6
         go_wp2
         go_ret
         exact ⟨by first | rfl | (simp [errW_none, errW_some] <;> rfl) | (simp [*, errW_none, errW_some] <;> rfl), by repeat (first | (with_reducible first | exact HB.out | apply below_alloc | apply pw_below_drewN | apply below_drew1 | refine below_set ?_ GE101.out) | exact HB.out)⟩
    ·
     rw [if_neg c19] at H
     have c19b0 : (a0_1 == 8) = false := beq_eq_false_iff_ne.mpr c19
     have c19b1 : (a0_1 != 8) = true := bne_iff_ne.mpr c19
     obtain rfl := Option.some.inj H
     go_wp2
     go_ret
     exact ⟨by first | rfl | (simp [errW_none, errW_some] <;> rfl) | (simp [*, errW_none, errW_some] <;> rfl), by repeat (first | (with_reducible first | exact HB.out | apply below_alloc | apply pw_below_drewN | apply below_drew1 | refine below_set ?_ GE101.out) | exact HB.out)⟩
end Go.Proofs.Ytibkcnlcmempgaa.G
end
section
namespace Go.Proofs.Ytibkcnlcmempgaa.Res
set_option linter.unusedVariables false
set_option linter.unusedSimpArgs false
open Go.RowKit Go.Proofs.Ytibkcnlcmempgaa.G Go.Proofs.YtibkcnlcmempgaaW.PrintWords Go.Proofs.YtibkcnlcmempgaaW.PrintLast Go.Proofs.YtibkcnlcmempgaaW.PrintMore Go.Proofs.Ytibkcnlcmempgaa.Raw
set_option maxRecDepth 100000 in
theorem name_pred (s : S38) (gb : Nat) (l : List S72) (w : World) (hb : w.heap[gb]? = some (.cells (symCells s) 38 (0, 0))) : PredSec 48 #[.pointer (some ⟨gb, 0, none⟩)] (fun x => x.f0.toList == s.f1.toList) l w := by
  intro W x cs hx hB hK
  obtain ⟨A4, c4, A6, c6, rfl, _, _, _, _⟩ := k72_open hK
  have hlt : gb < w.heap.size := blk_lt hb
  have hb1 := blk_below hb hB
  have q1 : W.cell? ⟨gb, 1, none⟩ = some (.string s.f1) := (blk_cell hb1 1).trans rfl
  have hgb : gb < W.heap.size := blk_lt hb1
  clear hK hb hb1 hlt
  show Calls _ _ #[_, _] _ _
  go_enter Try.func48, Try.ntmps48
  go_wp2
  go_ret
  exact ⟨rfl, below_alloc (Below.refl _ _) _⟩
/-- does a symbol agree with its section? -/
def agreeF (x : S72) (s : S38) : Bool :=
  if s.f2 > x.f5 then false else if s.f3 > x.f5 - s.f2 then false
  else ((s.f5 == 6) == (bits BinOp.and .i64 x.f2 1024 != 0)) && ((s.f5 != 10) || (bits BinOp.and .i64 x.f2 4 != 0))
def symF (secs : List S72) (s : S38) : Bool :=
  if s.f1.toList = [] then true else if s.f1.toList = [42] then (s.f5 != 6) && (s.f5 != 10)
  else agreeF (rd_T72 secs (idxOf (fun x : S72 => x.f0.toList == s.f1.toList) secs)) s
theorem idxOf_found {α : Type} (p : α → Bool) (l : List α) (h : l.any p = true) : ∃ k, idxOf p l = (k : Nat) ∧ k < l.length := by
  refine ⟨l.findIdx p, by unfold idxOf; rw [if_pos h], ?_⟩
  obtain ⟨x, hx, hp⟩ := List.any_eq_true.1 h
  exact List.findIdx_lt_length_of_exists ⟨x, hx, hp⟩
set_option maxHeartbeats 4000000 in
set_option maxRecDepth 100000 in
theorem symbol_calls (A0 : Option Addr) (c0 : Nat) (secs : List S72) (A1 : Option Addr) (n1 c1 : Nat) (s : S38) (w : World) (hr : Kd.C k72 w A0 secs.length secs) (hc : secs.length ≤ c0)
    (hin : s.f1.toList = [] ∨ s.f1.toList = [42] ∨ secs.any (fun x => x.f0.toList == s.f1.toList) = true) (hs2 : 0 ≤ s.f2 ∧ s.f2 ≤ 4611686018427387904) (hx5 : ∀ x ∈ secs, 0 ≤ x.f5 ∧ x.f5 ≤ 9223372036854775807) :
    Calls Try.prog 31 #[.agg #[.slice A0 secs.length c0, .slice A1 n1 c1], .agg (symCells s)] w fun e w' => e = .returned (.bool (symF secs s)) ∧ Below w.heap.size w w' := by
  have HR := Aside0.mk hr
  have HX5 := Aside0.mk hx5
  have hmax := Kd.C_max hr
  clear hr hx5
  by_cases h1 : s.f1.toList = []
  · have h1b : s.f1.toList.isEmpty = true := by simp [h1]
    have E := Aside0.mk (show symF secs s = true from if_pos h1)
    clear hin h1
    unfold symCells
    go_enter Try.func31, Try.ntmps31
    go_wp2
    go_ret
    exact ⟨by rw [E.out]; rfl, below_alloc (below_alloc (Below.refl _ _) _) _⟩
  · have h1b : s.f1.toList.isEmpty = false := ie_false h1
    by_cases h2 : s.f1.toList = [42]
    · have h2b : (s.f1.toList == [42]) = true := beq_iff_eq.mpr h2
      have E := Aside0.mk (show symF secs s = ((s.f5 != 6) && (s.f5 != 10)) from by unfold symF; rw [if_neg h1, if_pos h2])
      clear hin h1 h2
      cases h6 : (s.f5 != 6) <;> cases h10 : (s.f5 != 10)
      all_goals
        have EE := Aside0.mk (And.intro h6 h10)
        unfold symCells
        go_enter Try.func31, Try.ntmps31
        go_wp2
        go_ret
        exact ⟨by rw [E.out, EE.out.1, EE.out.2]; rfl, below_alloc (below_alloc (Below.refl _ _) _) _⟩
    · have h2b : (s.f1.toList == [42]) = false := beq_eq_false_iff_ne.mpr h2
      obtain ⟨k, hk, hlt⟩ := idxOf_found (fun x : S72 => x.f0.toList == s.f1.toList) secs (by rcases hin with h | h | h <;> first | exact absurd h h1 | exact absurd h h2 | exact h)
      have E := Aside0.mk (show symF secs s = agreeF (rd_T72 secs (k : Int)) s from by unfold symF; rw [if_neg h1, if_neg h2, hk])
      have HK := Aside0.mk hk
      have hxm : rd_T72 secs (k : Int) ∈ secs := by
        unfold rd_T72
        rw [Int.toNat_natCast, List.getD_eq_getElem?_getD, List.getElem?_eq_getElem hlt]
        exact List.getElem_mem _
      have hx5 := HX5.out _ hxm
      obtain ⟨x, hxe⟩ : ∃ x, x = rd_T72 secs (k : Int) := ⟨_, rfl⟩
      have HXE := Aside0.mk hxe
      rw [← hxe] at E hx5
      clear hin h1 h2 hk hxm hxe
      have hltb : decide ((k : Int) < (secs.length : Int)) = true := by simp; omega
      have hx5a := hx5.1
      have hx5b := hx5.2
      have hs2a := hs2.1
      have hs2b := hs2.2
      clear hx5 hs2
      have hcases : (x.f5 < s.f2 ∧ symF secs s = false) ∨ (¬ x.f5 < s.f2 ∧ x.f5 - s.f2 < s.f3 ∧ symF secs s = false) ∨ (¬ x.f5 < s.f2 ∧ ¬ x.f5 - s.f2 < s.f3 ∧ symF secs s = (((s.f5 == 6) == (bits BinOp.and .i64 x.f2 1024 != 0)) && ((s.f5 != 10) || (bits BinOp.and .i64 x.f2 4 != 0)))) := by
        rw [E.out]
        unfold agreeF
        by_cases a : x.f5 < s.f2
        · exact .inl ⟨a, if_pos a⟩
        · by_cases b : x.f5 - s.f2 < s.f3
          · exact .inr (.inl ⟨a, b, by rw [if_neg (show ¬ s.f2 > x.f5 from a), if_pos (show s.f3 > x.f5 - s.f2 from b)]⟩)
          · exact .inr (.inr ⟨a, b, by rw [if_neg (show ¬ s.f2 > x.f5 from a), if_neg (show ¬ s.f3 > x.f5 - s.f2 from b)]⟩)
      unfold symCells
      go_enter Try.func31, Try.ntmps31
      go_wp2_with fail
      have hb0 := blk_new w (.cells #[.slice A0 secs.length c0, .slice A1 n1 c1] 36)
      have hb1 := blk_new (w.alloc (.cells #[.slice A0 secs.length c0, .slice A1 n1 c1] 36)) (.cells (symCells s) 38)
      have hsz : (w.alloc (.cells #[.slice A0 secs.length c0, .slice A1 n1 c1] 36)).heap.size = w.heap.size + 1 := by simp
      rw [hsz] at hb1
      have hb0' := blk_alloc hb0 (.cells (symCells s) 38)
      have HBW := Aside0.mk (below_alloc (below_alloc (Below.refl w.heap.size w) (.cells #[.slice A0 secs.length c0, .slice A1 n1 c1] 36)) (.cells (symCells s) 38))
      refine (indexSec_calls A0 c0 secs _ (Kd.C_below HR.out HBW.out) 48 #[.pointer (some ⟨w.heap.size + 1, 0, none⟩)] _ (name_pred s _ secs _ hb1) (enters_of Try.func48 (by kernel_rfl) rfl)).mono ?_
      rintro e w1 ⟨rfl, hb⟩
      rw [HK.out]
      have hd0 := blk_below hb0' hb
      have hd1 := blk_below hb1 hb
      have HB1 := Aside0.mk (below_step HBW.out hb)
      clear hb0 hb1 hb0' hsz hb
      obtain ⟨ad, A4, c4, A6, c6, rfl, y0, y1, y2, y3, y4, y5, y6, _, _, _, _⟩ := at_T72 (Kd.C_below HR.out HB1.out) (k : Int) (by omega) (by omega)
      rw [← HXE.out, Int.toNat_natCast] at y0 y1 y2 y3 y4 y5 y6
      have z0 : w1.cell? ⟨w.heap.size, 0, none⟩ = some (.slice (some ad) secs.length c0) := (blk_cell hd0 0).trans rfl
      have z2 : w1.cell? ⟨w.heap.size + 1, 2, none⟩ = some (.int .i64 s.f2) := (blk_cell hd1 2).trans rfl
      have z3 : w1.cell? ⟨w.heap.size + 1, 3, none⟩ = some (.int .i64 s.f3) := (blk_cell hd1 3).trans rfl
      have z5 : w1.cell? ⟨w.heap.size + 1, 5, none⟩ = some (.int .i64 s.f5) := (blk_cell hd1 5).trans rfl
      have hg0 : w.heap.size < w1.heap.size := blk_lt hd0
      have hg1 : w.heap.size + 1 < w1.heap.size := blk_lt hd1
      clear hd0 hd1 HXE HX5 E
      rcases hcases with ⟨a, e⟩ | ⟨a, b, e⟩ | ⟨a, b, e⟩
      · have ab : decide (x.f5 < s.f2) = true := decide_eq_true a
        have EE := Aside0.mk e
        clear e a
        go_wp2
        go_ret
        exact ⟨by rw [EE.out]; rfl, below_alloc HB1.out _⟩
      · have ab : decide (x.f5 < s.f2) = false := decide_eq_false (by omega)
        have bb : decide (x.f5 - s.f2 < s.f3) = true := decide_eq_true b
        have EE := Aside0.mk e
        clear e b
        go_wp2
        go_ret
        exact ⟨by rw [EE.out]; rfl, below_alloc HB1.out _⟩
      · have ab : decide (x.f5 < s.f2) = false := decide_eq_false (by omega)
        have bb : decide (x.f5 - s.f2 < s.f3) = false := decide_eq_false (by omega)
        have EE := Aside0.mk e
        clear e b
        cases g6 : (s.f5 == 6) <;> cases g1 : (bits BinOp.and .i64 x.f2 1024 != 0) <;> cases g10 : (s.f5 != 10) <;> cases g4 : (bits BinOp.and .i64 x.f2 4 != 0)
        all_goals
          have GG := Aside0.mk (And.intro g6 (And.intro g1 (And.intro g10 g4)))
          go_wp2
          go_ret
          exact ⟨by rw [EE.out, GG.out.1, GG.out.2.1, GG.out.2.2.1, GG.out.2.2.2]; rfl, below_alloc HB1.out _⟩
end Go.Proofs.Ytibkcnlcmempgaa.Res
end
section
namespace Go.Proofs.Ytibkcnlcmempgaa.G
open Go.RowKit Go.Proofs.YtibkcnlcmempgaaW.PrintWords Go.Proofs.YtibkcnlcmempgaaW.PrintLast Go.Proofs.YtibkcnlcmempgaaW.PrintMore
attribute [local go_sem] max2_int min2_int max_two min_two max_three min_three max_four min_four   -- for this text's walks alone
set_option linter.unusedVariables false
set_option linter.unusedSimpArgs false
def strings_IndexByte.f (a0 : ByteArray) (a1 : Int) : Option Int := some (Lib.indexByte a0.data.toList a1.toNat.toUInt8)
theorem strings_IndexByte.inner (a0 : ByteArray) (a1 : Int) (w : World) :
  Calls Try.prog 64 #[.string a0, .int .u8 a1] w fun e w' => e = .returned (.int .i64 (Lib.indexByte a0.data.toList a1.toNat.toUInt8)) ∧ w = w' := by
 go_enter Try.func64, Try.ntmps64
 go_wp2
 rw [run_callFunc_extern Try.func71 (by kernel_rfl) (by kernel_rfl) (by kernel_rfl) (e := Extern.BytealgIndexByte.indexByte) (by kernel_rfl), Lib.run_indexByteString]
 simp only [Result.andThen]
 rw [Oper.upon_value]
 go_wp2
 go_ret
 exact ⟨rfl, rfl⟩
theorem strings_IndexByte.same (a0 : ByteArray) (a1 : Int) (w : World) :
  Calls Try.prog 51 #[.string a0, .int .u8 a1] w fun e w' => e = .returned (.int .i64 (Lib.indexByte a0.data.toList a1.toNat.toUInt8)) ∧ w = w' := by
 go_enter Try.func51, Try.ntmps51
 go_wp2_with fail
 refine (strings_IndexByte.inner a0 a1 _).mono ?_
 rintro e w' ⟨rfl, rfl⟩
 go_wp2
 go_ret
 exact ⟨rfl, rfl⟩
theorem strings_IndexByte.calls (a0 : ByteArray) (a1 : Int) (r : Int) (w : World) (h : strings_IndexByte.f a0 a1 = some r) :
  Calls Try.prog 51 #[.string a0, .int .u8 a1] w fun e w' => e = .returned (.int .i64 r) ∧ Drawn0 w w' := by
 obtain rfl := Option.some.inj h
 refine (strings_IndexByte.same a0 a1 w).mono ?_
 rintro e w' ⟨rfl, rfl⟩
 exact ⟨rfl, Drawn0.refl _⟩
end Go.Proofs.Ytibkcnlcmempgaa.G
end
section
namespace Go.Proofs.Ytibkcnlcmempgaa.G
open Go.RowKit Go.Proofs.YtibkcnlcmempgaaW.PrintWords Go.Proofs.YtibkcnlcmempgaaW.PrintLast Go.Proofs.YtibkcnlcmempgaaW.PrintMore
attribute [local go_sem] max2_int min2_int max_two min_two max_three min_three max_four min_four   -- for this text's walks alone
set_option linter.unusedVariables false
set_option linter.unusedSimpArgs false
def symtab_plain.f (a0 : ByteArray) : Option (Bool) := (strings_IndexByte.f a0 0).bind fun t101 => (some (decide (t101 < 0)))
set_option maxHeartbeats 8000000 in
set_option maxRecDepth 100000 in
theorem symtab_plain.calls (a0 : ByteArray) (r : Bool) (w : World) (h : symtab_plain.f a0 = some r) :
  Calls Try.prog 43 #[.string a0] w fun e w' => e = .returned (.bool r) ∧ Drawn0 w w' := by
 have H : ((strings_IndexByte.f a0 0).bind fun t101 => (some (decide (t101 < 0)))) = some r := h
 clear h
 replace H := Option.bind_eq_some_iff.mp H
 obtain ⟨t101, A20, H⟩ := H
 replace H : (some (decide (t101 < 0))) = some r := H
 have A2 := Aside0.mk A20
 clear A20
 obtain rfl := Option.some.inj H
 go_enter Try.func43, Try.ntmps43
 go_wp2_with (first | ((with_reducible refine gate_callee (f := 51) rfl ?_); refine goesL_ (some 4) rfl rfl Try.func51 (by kernel_rfl) rfl #[.string a0, .int .u8 0] rfl (by (try simp only [List.map_toArray, List.map_cons, List.map_nil]); first | done | rfl | (simp only [List.length_drop, List.length_take]; rfl)) ?_; (with_reducible refine (strings_IndexByte.calls a0 0 t101 _ A2.out).mono ?_); rintro e w' ⟨rfl, ⟨nd, rfl⟩⟩; refine ⟨_, rfl, ?_⟩))
 go_ret
 exact ⟨by first | rfl | (simp; done) | (simp [*]; done), by repeat (first | exact Drawn0.refl _ | apply Drawn0.step)⟩
end Go.Proofs.Ytibkcnlcmempgaa.G
end
section
namespace Go.Proofs.Ytibkcnlcmempgaa.G
open Go.RowKit Go.Proofs.YtibkcnlcmempgaaW.PrintWords Go.Proofs.YtibkcnlcmempgaaW.PrintLast Go.Proofs.YtibkcnlcmempgaaW.PrintMore
attribute [local go_sem] max2_int min2_int max_two min_two max_three min_three max_four min_four   -- for this text's walks alone
set_option linter.unusedVariables false
set_option linter.unusedSimpArgs false
def slices_Index_string_string.l0 : Nat → List ByteArray → ByteArray → Int → Int → Option (Int)
 | 0, _, _, _, _ => none
 | k + 1, x0, x1, x7, x8 => if x8 < x7 then (if 0 ≤ x8 then (if x8 < (x0.length : Int) then (if x1.toList = (rdOf ByteArray.empty x0 x8).toList then (some x8) else (slices_Index_string_string.l0 k x0 x1 x7 (wrap64 (x8 + 1)))) else (none)) else (none)) else (some (-1))
def slices_Index_string_string.f (k : Nat) (l0 : List ByteArray) (a1 : ByteArray) : Option (Int) := slices_Index_string_string.l0 k l0 a1 (l0.length : Int) 0
set_option maxHeartbeats 8000000 in
set_option maxRecDepth 100000 in
theorem slices_Index_string_string.calls (k : Nat) (A0 : Option Addr) (c0 : Nat) (l0 : List ByteArray) (a1 : ByteArray) (r : Int) (w : World) (hr0 : Kd.C Kd.string w A0 l0.length l0) (hc0 : l0.length ≤ c0) (h : slices_Index_string_string.f k l0 a1 = some r) :
  Calls Try.prog 52 #[.slice A0 l0.length c0, .string a1] w fun e w' => e = .returned (.int .i64 r) ∧ Drawn0 w w' := by
 have HR0 := Aside0.mk hr0
 have HC0 := Aside0.mk hc0
 clear hr0 hc0
 have H : (slices_Index_string_string.l0 k l0 a1 (l0.length : Int) 0) = some r := h
 clear h
 have H' := Aside0.mk H
 clear H
 go_enter Try.func52, Try.ntmps52
 go_wp2
 go_loopg [8] k (fun kq v8 w' => ∃ (x8_1 : Int), v8 = .int .i64 x8_1 ∧ Aside0 (slices_Index_string_string.l0 kq l0 a1 (l0.length : Int) x8_1 = some r) ∧ Aside0 (kq ≤ k) ∧ Drawn0 w w')
 case atStart => exact ⟨(0), (by first | rfl | (simp; done) | (simp [*]; done) | (simp [show ∀ l_ : List UInt8, (l_ != []) = !l_.isEmpty from fun l_ => by cases l_ <;> rfl]; done) | (congr 1; refine congr (congrArg (Go.bits _ _) ?_) ?_ <;> omega)), H', ⟨Nat.le_refl _⟩, by repeat (first | exact Drawn0.refl _ | apply Drawn0.step)⟩
 case round =>
  clear H'
  try clear p2
  obtain ⟨x8_1, rfl, HA, HK1, ⟨m1, rfl⟩⟩ := hrel
  cases gk with
  | zero => exact absurd HA.out (by simp [slices_Index_string_string.l0])
  | succ k1 =>
   have H := HA.out
   clear HA
   simp only [slices_Index_string_string.l0] at H
   by_cases c3 : x8_1 < (l0.length : Int)
   ·
    rw [if_pos c3] at H
    have c3b0 : decide (x8_1 < (l0.length : Int)) = true := decide_eq_true c3
    clear c3
    by_cases c4 : 0 ≤ x8_1
    ·
     rw [if_pos c4] at H
     have c4b0 : decide (0 ≤ x8_1) = true := decide_eq_true c4
     clear c4
     by_cases c5 : x8_1 < (l0.length : Int)
     ·
      rw [if_pos c5] at H
      have c5b0 : decide (x8_1 < (l0.length : Int)) = true := decide_eq_true c5
      clear c5
      by_cases c6 : a1.toList = (rdOf ByteArray.empty l0 x8_1).toList
      ·
       rw [if_pos c6] at H
       have c6b0 : (a1.toList == (rdOf ByteArray.empty l0 x8_1).toList) = true := beq_iff_eq.mpr c6
       have c6b1 : (a1.toList != (rdOf ByteArray.empty l0 x8_1).toList) = false := bne_eq_false_iff_eq.mpr c6
       clear c6
       obtain rfl := Option.some.inj H
       have p101 : 0 ≤ (x8_1 : Int) := of_decide_eq_true (by first | (with_reducible assumption) | assumption)
       have q101 : x8_1 < (l0.length : Int) := of_decide_eq_true (by first | (with_reducible assumption) | assumption)
       obtain ⟨ad101, e101, hx101_0⟩ := Kd.at_string HR0.out x8_1 p101 q101
       cases e101
       replace p101 := eq_true p101
       replace q101 := eq_true q101
       go_wp2
       go_ret
       exact ⟨by first | rfl | (simp; done) | (simp [*]; done), by repeat (first | exact Drawn0.refl _ | apply Drawn0.step)⟩
      ·
       rw [if_neg c6] at H
       have c6b0 : (a1.toList == (rdOf ByteArray.empty l0 x8_1).toList) = false := beq_eq_false_iff_ne.mpr c6
       have c6b1 : (a1.toList != (rdOf ByteArray.empty l0 x8_1).toList) = true := bne_iff_ne.mpr c6
       have H' := Aside0.mk H
       clear H
       have p101 : 0 ≤ (x8_1 : Int) := of_decide_eq_true (by first | (with_reducible assumption) | assumption)
       have q101 : x8_1 < (l0.length : Int) := of_decide_eq_true (by first | (with_reducible assumption) | assumption)
       obtain ⟨ad101, e101, hx101_0⟩ := Kd.at_string HR0.out x8_1 p101 q101
       cases e101
       replace p101 := eq_true p101
       replace q101 := eq_true q101
       go_wp2
       go_roundg k1
       case measure => have := HK1.out; omega
       case rel => exact ⟨(wrap64 (x8_1 + 1)), (by first | rfl | (simp; done) | (simp [*]; done) | (simp [show ∀ l_ : List UInt8, (l_ != []) = !l_.isEmpty from fun l_ => by cases l_ <;> rfl]; done) | (congr 1; refine congr (congrArg (Go.bits _ _) ?_) ?_ <;> omega)), H', ⟨by have := HK1.out; omega⟩, by repeat (first | exact Drawn0.refl _ | apply Drawn0.step)⟩
     ·
      rw [if_neg c5] at H
      exact absurd H (by simp)
    ·
     rw [if_neg c4] at H
     exact absurd H (by simp)
   ·
    rw [if_neg c3] at H
    have c3b0 : decide (x8_1 < (l0.length : Int)) = false := decide_eq_false c3
    clear c3
    obtain rfl := Option.some.inj H
    go_wp2
    go_ret
    exact ⟨by first | rfl | (simp; done) | (simp [*]; done), by repeat (first | exact Drawn0.refl _ | apply Drawn0.step)⟩
end Go.Proofs.Ytibkcnlcmempgaa.G
end
section
namespace Go.Proofs.Ytibkcnlcmempgaa.G
open Go.RowKit Go.Proofs.YtibkcnlcmempgaaW.PrintWords Go.Proofs.YtibkcnlcmempgaaW.PrintLast Go.Proofs.YtibkcnlcmempgaaW.PrintMore
attribute [local go_sem] max2_int min2_int max_two min_two max_three min_three max_four min_four   -- for this text's walks alone
set_option linter.unusedVariables false
set_option linter.unusedSimpArgs false
def slices_Contains_string_string.f (k : Nat) (l0 : List ByteArray) (a1 : ByteArray) : Option (Bool) := (slices_Index_string_string.f k l0 a1).bind fun t101 => (some (decide (t101 ≥ 0)))
set_option maxHeartbeats 8000000 in
set_option maxRecDepth 100000 in
theorem slices_Contains_string_string.calls (k : Nat) (A0 : Option Addr) (c0 : Nat) (l0 : List ByteArray) (a1 : ByteArray) (r : Bool) (w : World) (hr0 : Kd.C Kd.string w A0 l0.length l0) (hc0 : l0.length ≤ c0) (h : slices_Contains_string_string.f k l0 a1 = some r) :
  Calls Try.prog 44 #[.slice A0 l0.length c0, .string a1] w fun e w' => e = .returned (.bool r) ∧ Drawn0 w w' := by
 have HR0 := Aside0.mk hr0
 have HC0 := Aside0.mk hc0
 clear hr0 hc0
 have H : ((slices_Index_string_string.f k l0 a1).bind fun t101 => (some (decide (t101 ≥ 0)))) = some r := h
 clear h
 replace H := Option.bind_eq_some_iff.mp H
 obtain ⟨t101, A30, H⟩ := H
 replace H : (some (decide (t101 ≥ 0))) = some r := H
 have A3 := Aside0.mk A30
 clear A30
 obtain rfl := Option.some.inj H
 go_enter Try.func44, Try.ntmps44
 go_wp2_with (first | ((with_reducible refine gate_callee (f := 52) rfl ?_); refine goesL_ (some 7) rfl rfl Try.func52 (by kernel_rfl) rfl #[.slice A0 l0.length c0, .string a1] rfl (by (try simp only [List.map_toArray, List.map_cons, List.map_nil]); first | done | rfl | (simp only [List.length_drop, List.length_take]; rfl)) ?_; (with_reducible refine (slices_Index_string_string.calls k _ _ l0 a1 t101 _ ?side1 ?side2 A3.out).mono ?_); (case side1 => repeat (first | exact HR0.out | (with_reducible refine Kd.C_alloc ?_ _) | (with_reducible refine Kd.C_drewN ?_ _) | (with_reducible refine Kd.C_drew ?_))); (case side2 => exact HC0.out); rintro e w' ⟨rfl, ⟨nd, rfl⟩⟩; refine ⟨_, rfl, ?_⟩))
 go_ret
 exact ⟨by first | rfl | (simp; done) | (simp [*]; done), by repeat (first | exact Drawn0.refl _ | apply Drawn0.step)⟩
end Go.Proofs.Ytibkcnlcmempgaa.G
end
section
namespace Go.Proofs.Ytibkcnlcmempgaa.G
open Go.RowKit Go.Proofs.YtibkcnlcmempgaaW.PrintWords Go.Proofs.YtibkcnlcmempgaaW.PrintLast Go.Proofs.YtibkcnlcmempgaaW.PrintMore
attribute [local go_sem] max2_int min2_int max_two min_two max_three min_three max_four min_four   -- for this text's walks alone
set_option linter.unusedVariables false
set_option linter.unusedSimpArgs false
mutual
def symtab_right.j0 : Nat → Bool → ByteArray → ByteArray → Int → Int → Int → Int → Option (Bool)
 | 0, _, _, _, _, _, _, _ => none
 | k + 1, x25, x102000, x102001, x102002, x102003, x102004, x102005 => if x25 = true then (some false) else (if x102002 < 0 then (symtab_right.j1 k true x102000 x102001 x102002 x102003 x102004 x102005) else (if x102002 > 4611686018427387904 then (symtab_right.j1 k true x102000 x102001 x102002 x102003 x102004 x102005) else (if x102003 < 0 then (symtab_right.j1 k true x102000 x102001 x102002 x102003 x102004 x102005) else (if x102003 > 4611686018427387904 then (symtab_right.j1 k true x102000 x102001 x102002 x102003 x102004 x102005) else (if x102004 < 0 then (symtab_right.j1 k true x102000 x102001 x102002 x102003 x102004 x102005) else (symtab_right.j1 k (decide (x102004 > 2)) x102000 x102001 x102002 x102003 x102004 x102005))))))
def symtab_right.j1 : Nat → Bool → ByteArray → ByteArray → Int → Int → Int → Int → Option (Bool)
 | 0, _, _, _, _, _, _, _ => none
 | k + 1, x53, x102000, x102001, x102002, x102003, x102004, x102005 => if x53 = true then (some false) else (if x102005 = 0 then (symtab_right.j2 k (x102005 == 0) x102000 x102001 x102002 x102003 x102004 x102005) else (if x102005 = 1 then (symtab_right.j2 k (x102005 == 1) x102000 x102001 x102002 x102003 x102004 x102005) else (if x102005 = 2 then (symtab_right.j2 k (x102005 == 2) x102000 x102001 x102002 x102003 x102004 x102005) else (if x102005 = 6 then (symtab_right.j2 k (x102005 == 6) x102000 x102001 x102002 x102003 x102004 x102005) else (symtab_right.j2 k (x102005 == 10) x102000 x102001 x102002 x102003 x102004 x102005)))))
def symtab_right.j2 : Nat → Bool → ByteArray → ByteArray → Int → Int → Int → Int → Option (Bool)
 | 0, _, _, _, _, _, _, _ => none
 | k + 1, x56, x102000, x102001, x102002, x102003, x102004, x102005 => if x56 = true then (if x102001.toList = ([] : List UInt8) then (if x102004 = 0 then (some false) else (if x102002 = 0 then (if x102003 = 0 then (if x102000.toList = ([] : List UInt8) then (some (x102004 == 0)) else (some true)) else (some false)) else (some false))) else (if x102000.toList = ([] : List UInt8) then (some (x102004 == 0)) else (some true))) else (some false)
end
def symtab_right.f (k : Nat) (a0_0 : ByteArray) (a0_1 : ByteArray) (a0_2 : Int) (a0_3 : Int) (a0_4 : Int) (a0_5 : Int) (l1 : List ByteArray) : Option (Bool) := (symtab_plain.f a0_0).bind fun t102 => (if t102 = true then (if a0_1.toList = ([] : List UInt8) then (symtab_right.j0 k false a0_0 a0_1 a0_2 a0_3 a0_4 a0_5) else (if a0_1.toList = ([42] : List UInt8) then (symtab_right.j0 k false a0_0 a0_1 a0_2 a0_3 a0_4 a0_5) else ((slices_Contains_string_string.f k l1 a0_1).bind fun t103 => (symtab_right.j0 k (!t103) a0_0 a0_1 a0_2 a0_3 a0_4 a0_5)))) else (symtab_right.j0 k true a0_0 a0_1 a0_2 a0_3 a0_4 a0_5))
set_option maxHeartbeats 8000000 in
set_option maxRecDepth 100000 in
theorem symtab_right.calls (k : Nat) (a0_0 : ByteArray) (a0_1 : ByteArray) (a0_2 : Int) (a0_3 : Int) (a0_4 : Int) (a0_5 : Int) (A1 : Option Addr) (c1 : Nat) (l1 : List ByteArray) (r : Bool) (w : World) (hr1 : Kd.C Kd.string w A1 l1.length l1) (hc1 : l1.length ≤ c1) (h : symtab_right.f k a0_0 a0_1 a0_2 a0_3 a0_4 a0_5 l1 = some r) :
  Calls Try.prog 45 #[.agg #[.string a0_0, .string a0_1, .int .i64 a0_2, .int .i64 a0_3, .int .i64 a0_4, .int .i64 a0_5], .slice A1 l1.length c1] w fun e w' => e = .returned (.bool r) ∧ Below w.heap.size w w' := by
 have hu38 := Try.underlying38
 have HR1 := Aside0.mk hr1
 have HC1 := Aside0.mk hc1
 clear hr1 hc1
 have HB := Aside0.mk (Below.refl w.heap.size w)
 have H : ((symtab_plain.f a0_0).bind fun t102 => (if t102 = true then (if a0_1.toList = ([] : List UInt8) then (symtab_right.j0 k false a0_0 a0_1 a0_2 a0_3 a0_4 a0_5) else (if a0_1.toList = ([42] : List UInt8) then (symtab_right.j0 k false a0_0 a0_1 a0_2 a0_3 a0_4 a0_5) else ((slices_Contains_string_string.f k l1 a0_1).bind fun t103 => (symtab_right.j0 k (!t103) a0_0 a0_1 a0_2 a0_3 a0_4 a0_5)))) else (symtab_right.j0 k true a0_0 a0_1 a0_2 a0_3 a0_4 a0_5))) = some r := h
 clear h
 have HC3 := Aside0.mk H
 clear H
 go_enter Try.func45, Try.ntmps45
 go_upto_region 1 with (first | ((with_reducible refine gate_dst (N := 2) rfl ?_); refine box_event ?hg (N := 2) ?hd (cs := #[.string a0_0, .string a0_1, .int .i64 a0_2, .int .i64 a0_3, .int .i64 a0_4, .int .i64 a0_5]) (t := 38) ?hr ?_; (case hd => rfl); (case hg => rfl); (case hr => first | (go_simp; done) | (go_simp; rfl)); intro gb101 hg w4 hbox hb; have n0_ := Aside0.mk (below_step (by repeat (first | (with_reducible first | exact HB.out | apply below_alloc | apply pw_below_drewN | apply below_drew1) | exact HB.out)) hb); have n1_ := Aside0.mk (hbox); have n2_ := Aside0.mk ((by rw [hg]; exact (below_size (by repeat (first | (with_reducible first | exact HB.out | apply below_alloc | apply pw_below_drewN | apply below_drew1) | exact HB.out))) : w.heap.size ≤ gb101)); have n3_ := Aside0.mk ((by rw [hg]; exact (below_size (by repeat (first | (with_reducible first | exact HB.out | apply below_alloc | apply pw_below_drewN | apply below_drew1) | exact HB.out))) : w.heap.size ≤ gb101)); clear HB; have HB := n0_; have BK101 := n1_; have GW101 := n2_; have GE101 := n3_; clear n0_ n1_ n2_ n3_; clear hb hbox hg))
 (try simp only [Act.put, List.setIfInBounds_toArray, List.set_cons_zero, List.set_cons_succ])
 go_cut [25] (fun v25 wc => ∃ (kq : Nat) (x25_2 : Bool), v25 = .bool x25_2 ∧ Aside0 (symtab_right.j0 kq x25_2 a0_0 a0_1 a0_2 a0_3 a0_4 a0_5 = some r) ∧ Aside0 (kq ≤ k) ∧ Aside0 (wc.heap[gb101]? = some (.cells #[.string a0_0, .string a0_1, .int .i64 a0_2, .int .i64 a0_3, .int .i64 a0_4, .int .i64 a0_5] 38 (0, 0))) ∧ Aside0 (Below w.heap.size w wc))
 case first =>
  have H := HC3.out
  clear HC3
  replace H := Option.bind_eq_some_iff.mp H
  obtain ⟨t102, A50, H⟩ := H
  replace H : (if t102 = true then (if a0_1.toList = ([] : List UInt8) then (symtab_right.j0 k false a0_0 a0_1 a0_2 a0_3 a0_4 a0_5) else (if a0_1.toList = ([42] : List UInt8) then (symtab_right.j0 k false a0_0 a0_1 a0_2 a0_3 a0_4 a0_5) else ((slices_Contains_string_string.f k l1 a0_1).bind fun t103 => (symtab_right.j0 k (!t103) a0_0 a0_1 a0_2 a0_3 a0_4 a0_5)))) else (symtab_right.j0 k true a0_0 a0_1 a0_2 a0_3 a0_4 a0_5)) = some r := H
  have A5 := Aside0.mk A50
  clear A50
  by_cases c6 : t102 = true
  ·
   subst c6
   have H1 : (if a0_1.toList = ([] : List UInt8) then (symtab_right.j0 k false a0_0 a0_1 a0_2 a0_3 a0_4 a0_5) else (if a0_1.toList = ([42] : List UInt8) then (symtab_right.j0 k false a0_0 a0_1 a0_2 a0_3 a0_4 a0_5) else ((slices_Contains_string_string.f k l1 a0_1).bind fun t103 => (symtab_right.j0 k (!t103) a0_0 a0_1 a0_2 a0_3 a0_4 a0_5)))) = some r := by rw [if_pos rfl] at H; exact H
   clear H
   have H := H1
   clear H1
   by_cases c7 : a0_1.toList = ([] : List UInt8)
   ·
    rw [if_pos c7] at H
    have c7b0 : (a0_1.toList == ([] : List UInt8)) = true := beq_iff_eq.mpr c7
    have c7b1 : (a0_1.toList != ([] : List UInt8)) = false := bne_eq_false_iff_eq.mpr c7
    clear c7
    (first | rw [c7b0] | (simp only [i64_w, i32_w]; rw [c7b0]) | skip)
    have H' := Aside0.mk H
    clear H
    have hcz8_0 : w4.cell? ⟨gb101, 0, none⟩ = some (.string a0_0) := (blk_cell BK101.out 0).trans rfl
    have hcz8_1 : w4.cell? ⟨gb101, 1, none⟩ = some (.string a0_1) := (blk_cell BK101.out 1).trans rfl
    have hcz8_2 : w4.cell? ⟨gb101, 2, none⟩ = some (.int .i64 a0_2) := (blk_cell BK101.out 2).trans rfl
    have hcz8_3 : w4.cell? ⟨gb101, 3, none⟩ = some (.int .i64 a0_3) := (blk_cell BK101.out 3).trans rfl
    have hcz8_4 : w4.cell? ⟨gb101, 4, none⟩ = some (.int .i64 a0_4) := (blk_cell BK101.out 4).trans rfl
    have hcz8_5 : w4.cell? ⟨gb101, 5, none⟩ = some (.int .i64 a0_5) := (blk_cell BK101.out 5).trans rfl
    have hfz8_0 := blk_frozen BK101.out 0
    have hfz8_1 := blk_frozen BK101.out 1
    have hfz8_2 := blk_frozen BK101.out 2
    have hfz8_3 := blk_frozen BK101.out 3
    have hfz8_4 := blk_frozen BK101.out 4
    have hfz8_5 := blk_frozen BK101.out 5
    go_wp2_with (first | ((with_reducible refine gate_callee (f := 43) rfl ?_); refine goesL_ (some 7) rfl rfl Try.func43 (by kernel_rfl) rfl #[.string a0_0] rfl (by (try simp only [List.map_toArray, List.map_cons, List.map_nil]); first | done | rfl | (simp only [List.length_drop, List.length_take]; rfl)) ?_; (with_reducible refine (symtab_plain.calls a0_0 true _ A5.out).mono ?_); rintro e w' ⟨rfl, ⟨nd, rfl⟩⟩; refine ⟨_, rfl, ?_⟩))
    go_meet
    case rel => exact ⟨_, (false), (by first | rfl | (simp; done) | (simp [*]; done) | (simp [show ∀ l_ : List UInt8, (l_ != []) = !l_.isEmpty from fun l_ => by cases l_ <;> rfl]; done) | (congr 1; refine congr (congrArg (Go.bits _ _) ?_) ?_ <;> omega)), H', ⟨by first | omega | exact Nat.le_refl _⟩, ⟨by (with_reducible repeat (first | refine blk_drewN ?_ _ | refine blk_drew ?_ | refine blk_alloc ?_ _)); exact BK101.out⟩, ⟨by repeat (first | (with_reducible first | exact HB.out | apply below_alloc | apply pw_below_drewN | apply below_drew1 | refine below_set ?_ GE101.out) | exact HB.out)⟩⟩
   ·
    rw [if_neg c7] at H
    have c7b0 : (a0_1.toList == ([] : List UInt8)) = false := beq_eq_false_iff_ne.mpr c7
    have c7b1 : (a0_1.toList != ([] : List UInt8)) = true := bne_iff_ne.mpr c7
    (first | rw [c7b0] | (simp only [i64_w, i32_w]; rw [c7b0]) | skip)
    by_cases c9 : a0_1.toList = ([42] : List UInt8)
    ·
     rw [if_pos c9] at H
     have c9b0 : (a0_1.toList == ([42] : List UInt8)) = true := beq_iff_eq.mpr c9
     have c9b1 : (a0_1.toList != ([42] : List UInt8)) = false := bne_eq_false_iff_eq.mpr c9
     clear c9
     have H' := Aside0.mk H
     clear H
     have hcz10_0 : w4.cell? ⟨gb101, 0, none⟩ = some (.string a0_0) := (blk_cell BK101.out 0).trans rfl
     have hcz10_1 : w4.cell? ⟨gb101, 1, none⟩ = some (.string a0_1) := (blk_cell BK101.out 1).trans rfl
     have hcz10_2 : w4.cell? ⟨gb101, 2, none⟩ = some (.int .i64 a0_2) := (blk_cell BK101.out 2).trans rfl
     have hcz10_3 : w4.cell? ⟨gb101, 3, none⟩ = some (.int .i64 a0_3) := (blk_cell BK101.out 3).trans rfl
     have hcz10_4 : w4.cell? ⟨gb101, 4, none⟩ = some (.int .i64 a0_4) := (blk_cell BK101.out 4).trans rfl
     have hcz10_5 : w4.cell? ⟨gb101, 5, none⟩ = some (.int .i64 a0_5) := (blk_cell BK101.out 5).trans rfl
     have hfz10_0 := blk_frozen BK101.out 0
     have hfz10_1 := blk_frozen BK101.out 1
     have hfz10_2 := blk_frozen BK101.out 2
     have hfz10_3 := blk_frozen BK101.out 3
     have hfz10_4 := blk_frozen BK101.out 4
     have hfz10_5 := blk_frozen BK101.out 5
     go_wp2_with (first | ((with_reducible refine gate_callee (f := 43) rfl ?_); refine goesL_ (some 7) rfl rfl Try.func43 (by kernel_rfl) rfl #[.string a0_0] rfl (by (try simp only [List.map_toArray, List.map_cons, List.map_nil]); first | done | rfl | (simp only [List.length_drop, List.length_take]; rfl)) ?_; (with_reducible refine (symtab_plain.calls a0_0 true _ A5.out).mono ?_); rintro e w' ⟨rfl, ⟨nd, rfl⟩⟩; refine ⟨_, rfl, ?_⟩))
     go_meet
     case rel => exact ⟨_, (false), (by first | rfl | (simp; done) | (simp [*]; done) | (simp [show ∀ l_ : List UInt8, (l_ != []) = !l_.isEmpty from fun l_ => by cases l_ <;> rfl]; done) | (congr 1; refine congr (congrArg (Go.bits _ _) ?_) ?_ <;> omega)), H', ⟨by first | omega | exact Nat.le_refl _⟩, ⟨by (with_reducible repeat (first | refine blk_drewN ?_ _ | refine blk_drew ?_ | refine blk_alloc ?_ _)); exact BK101.out⟩, ⟨by repeat (first | (with_reducible first | exact HB.out | apply below_alloc | apply pw_below_drewN | apply below_drew1 | refine below_set ?_ GE101.out) | exact HB.out)⟩⟩
    ·
     rw [if_neg c9] at H
     have c9b0 : (a0_1.toList == ([42] : List UInt8)) = false := beq_eq_false_iff_ne.mpr c9
     have c9b1 : (a0_1.toList != ([42] : List UInt8)) = true := bne_iff_ne.mpr c9
     replace H := Option.bind_eq_some_iff.mp H
     obtain ⟨t103, A110, H⟩ := H
     replace H : (symtab_right.j0 k (!t103) a0_0 a0_1 a0_2 a0_3 a0_4 a0_5) = some r := H
     have A11 := Aside0.mk A110
     clear A110
     have H' := Aside0.mk H
     clear H
     have hcz12_0 : w4.cell? ⟨gb101, 0, none⟩ = some (.string a0_0) := (blk_cell BK101.out 0).trans rfl
     have hcz12_1 : w4.cell? ⟨gb101, 1, none⟩ = some (.string a0_1) := (blk_cell BK101.out 1).trans rfl
     have hcz12_2 : w4.cell? ⟨gb101, 2, none⟩ = some (.int .i64 a0_2) := (blk_cell BK101.out 2).trans rfl
     have hcz12_3 : w4.cell? ⟨gb101, 3, none⟩ = some (.int .i64 a0_3) := (blk_cell BK101.out 3).trans rfl
     have hcz12_4 : w4.cell? ⟨gb101, 4, none⟩ = some (.int .i64 a0_4) := (blk_cell BK101.out 4).trans rfl
     have hcz12_5 : w4.cell? ⟨gb101, 5, none⟩ = some (.int .i64 a0_5) := (blk_cell BK101.out 5).trans rfl
     have hfz12_0 := blk_frozen BK101.out 0
     have hfz12_1 := blk_frozen BK101.out 1
     have hfz12_2 := blk_frozen BK101.out 2
     have hfz12_3 := blk_frozen BK101.out 3
     have hfz12_4 := blk_frozen BK101.out 4
     have hfz12_5 := blk_frozen BK101.out 5
     go_wp2_with (first | ((with_reducible refine gate_callee (f := 43) rfl ?_); refine goesL_ (some 7) rfl rfl Try.func43 (by kernel_rfl) rfl #[.string a0_0] rfl (by (try simp only [List.map_toArray, List.map_cons, List.map_nil]); first | done | rfl | (simp only [List.length_drop, List.length_take]; rfl)) ?_; (with_reducible refine (symtab_plain.calls a0_0 true _ A5.out).mono ?_); rintro e w' ⟨rfl, ⟨nd, rfl⟩⟩; refine ⟨_, rfl, ?_⟩) | (go_at_call 44; (with_reducible refine (slices_Contains_string_string.calls k _ _ l1 a0_1 t103 _ ?side1 ?side2 A11.out).mono ?_); (case side1 => repeat (first | exact (Kd.C_below HR1.out (by repeat (first | (with_reducible first | exact HB.out | apply below_alloc | apply pw_below_drewN | apply below_drew1 | refine below_set ?_ GE101.out) | exact HB.out))) | (with_reducible refine Kd.C_alloc ?_ _) | (with_reducible refine Kd.C_drewN ?_ _) | (with_reducible refine Kd.C_drew ?_))); (case side2 => exact HC1.out); rintro e w' ⟨rfl, ⟨nd, rfl⟩⟩))
     go_meet
     case rel => exact ⟨_, (!t103), (by first | rfl | (simp; done) | (simp [*]; done) | (simp [show ∀ l_ : List UInt8, (l_ != []) = !l_.isEmpty from fun l_ => by cases l_ <;> rfl]; done) | (congr 1; refine congr (congrArg (Go.bits _ _) ?_) ?_ <;> omega)), H', ⟨by first | omega | exact Nat.le_refl _⟩, ⟨by (with_reducible repeat (first | refine blk_drewN ?_ _ | refine blk_drew ?_ | refine blk_alloc ?_ _)); exact BK101.out⟩, ⟨by repeat (first | (with_reducible first | exact HB.out | apply below_alloc | apply pw_below_drewN | apply below_drew1 | refine below_set ?_ GE101.out) | exact HB.out)⟩⟩
  ·
   replace c6 := Bool.eq_false_iff.mpr c6
   subst c6
   have H1 : (symtab_right.j0 k true a0_0 a0_1 a0_2 a0_3 a0_4 a0_5) = some r := by rw [if_neg (show ¬ (false = true) by decide)] at H; exact H
   clear H
   have H := H1
   clear H1
   have H' := Aside0.mk H
   clear H
   have hcz13_0 : w4.cell? ⟨gb101, 0, none⟩ = some (.string a0_0) := (blk_cell BK101.out 0).trans rfl
   have hcz13_1 : w4.cell? ⟨gb101, 1, none⟩ = some (.string a0_1) := (blk_cell BK101.out 1).trans rfl
   have hcz13_2 : w4.cell? ⟨gb101, 2, none⟩ = some (.int .i64 a0_2) := (blk_cell BK101.out 2).trans rfl
   have hcz13_3 : w4.cell? ⟨gb101, 3, none⟩ = some (.int .i64 a0_3) := (blk_cell BK101.out 3).trans rfl
   have hcz13_4 : w4.cell? ⟨gb101, 4, none⟩ = some (.int .i64 a0_4) := (blk_cell BK101.out 4).trans rfl
   have hcz13_5 : w4.cell? ⟨gb101, 5, none⟩ = some (.int .i64 a0_5) := (blk_cell BK101.out 5).trans rfl
   have hfz13_0 := blk_frozen BK101.out 0
   have hfz13_1 := blk_frozen BK101.out 1
   have hfz13_2 := blk_frozen BK101.out 2
   have hfz13_3 := blk_frozen BK101.out 3
   have hfz13_4 := blk_frozen BK101.out 4
   have hfz13_5 := blk_frozen BK101.out 5
   go_wp2_with (first | ((with_reducible refine gate_callee (f := 43) rfl ?_); refine goesL_ (some 7) rfl rfl Try.func43 (by kernel_rfl) rfl #[.string a0_0] rfl (by (try simp only [List.map_toArray, List.map_cons, List.map_nil]); first | done | rfl | (simp only [List.length_drop, List.length_take]; rfl)) ?_; (with_reducible refine (symtab_plain.calls a0_0 false _ A5.out).mono ?_); rintro e w' ⟨rfl, ⟨nd, rfl⟩⟩; refine ⟨_, rfl, ?_⟩))
   go_meet
   case rel => exact ⟨_, (true), (by first | rfl | (simp; done) | (simp [*]; done) | (simp [show ∀ l_ : List UInt8, (l_ != []) = !l_.isEmpty from fun l_ => by cases l_ <;> rfl]; done) | (congr 1; refine congr (congrArg (Go.bits _ _) ?_) ?_ <;> omega)), H', ⟨by first | omega | exact Nat.le_refl _⟩, ⟨by (with_reducible repeat (first | refine blk_drewN ?_ _ | refine blk_drew ?_ | refine blk_alloc ?_ _)); exact BK101.out⟩, ⟨by repeat (first | (with_reducible first | exact HB.out | apply below_alloc | apply pw_below_drewN | apply below_drew1 | refine below_set ?_ GE101.out) | exact HB.out)⟩⟩
 case rest =>
  clear HC3
  try clear c1
  try clear p2
  try clear c4
  try clear c6
  try clear c7
  try clear c7b0
  try clear c7b1
  try clear c9
  try clear c9b0
  try clear c9b1
  try clear hcz10_0
  try clear hcz10_1
  try clear hcz10_2
  try clear hcz10_3
  try clear hcz10_4
  try clear hcz10_5
  try clear hcz12_0
  try clear hcz12_1
  try clear hcz12_2
  try clear hcz12_3
  try clear hcz12_4
  try clear hcz12_5
  try clear hcz13_0
  try clear hcz13_1
  try clear hcz13_2
  try clear hcz13_3
  try clear hcz13_4
  try clear hcz13_5
  try clear hcz8_0
  try clear hcz8_1
  try clear hcz8_2
  try clear hcz8_3
  try clear hcz8_4
  try clear hcz8_5
  try clear hfz10_0
  try clear hfz10_1
  try clear hfz10_2
  try clear hfz10_3
  try clear hfz10_4
  try clear hfz10_5
  try clear hfz12_0
  try clear hfz12_1
  try clear hfz12_2
  try clear hfz12_3
  try clear hfz12_4
  try clear hfz12_5
  try clear hfz13_0
  try clear hfz13_1
  try clear hfz13_2
  try clear hfz13_3
  try clear hfz13_4
  try clear hfz13_5
  try clear hfz8_0
  try clear hfz8_1
  try clear hfz8_2
  try clear hfz8_3
  try clear hfz8_4
  try clear hfz8_5
  obtain ⟨kq, x25_2, rfl, HA, HJ2, BK101, HB⟩ := hcut
  cases kq with
  | zero => exact absurd HA.out (by simp [symtab_right.j0])
  | succ kj2 =>
   have H := HA.out
   clear HA
   simp only [symtab_right.j0] at H
   by_cases c14 : x25_2 = true
   ·
    subst c14
    have H1 : (some false) = some r := by rw [if_pos rfl] at H; exact H
    clear H
    have H := H1
    clear H1
    obtain rfl := Option.some.inj H
    go_wp2
    go_ret
    exact ⟨by first | rfl | (simp [errW_none, errW_some] <;> rfl) | (simp [*, errW_none, errW_some] <;> rfl), by repeat (first | (with_reducible first | exact HB.out | apply below_alloc | apply pw_below_drewN | apply below_drew1 | refine below_set ?_ GE101.out) | exact HB.out)⟩
   ·
    replace c14 := Bool.eq_false_iff.mpr c14
    subst c14
    have H1 : (if a0_2 < 0 then (symtab_right.j1 kj2 true a0_0 a0_1 a0_2 a0_3 a0_4 a0_5) else (if a0_2 > 4611686018427387904 then (symtab_right.j1 kj2 true a0_0 a0_1 a0_2 a0_3 a0_4 a0_5) else (if a0_3 < 0 then (symtab_right.j1 kj2 true a0_0 a0_1 a0_2 a0_3 a0_4 a0_5) else (if a0_3 > 4611686018427387904 then (symtab_right.j1 kj2 true a0_0 a0_1 a0_2 a0_3 a0_4 a0_5) else (if a0_4 < 0 then (symtab_right.j1 kj2 true a0_0 a0_1 a0_2 a0_3 a0_4 a0_5) else (symtab_right.j1 kj2 (decide (a0_4 > 2)) a0_0 a0_1 a0_2 a0_3 a0_4 a0_5)))))) = some r := by rw [if_neg (show ¬ (false = true) by decide)] at H; exact H
    clear H
    have H := H1
    clear H1
    have HC15 := Aside0.mk H
    clear H
    go_upto_region 3 with (fail)
    go_cut [53] (fun v53 wc => ∃ (kq : Nat) (x53_14 : Bool), v53 = .bool x53_14 ∧ Aside0 (symtab_right.j1 kq x53_14 a0_0 a0_1 a0_2 a0_3 a0_4 a0_5 = some r) ∧ Aside0 (kq ≤ kj2) ∧ Aside0 (wc.heap[gb101]? = some (.cells #[.string a0_0, .string a0_1, .int .i64 a0_2, .int .i64 a0_3, .int .i64 a0_4, .int .i64 a0_5] 38 (0, 0))) ∧ Aside0 (Below w.heap.size w wc))
    case first =>
     have H := HC15.out
     clear HC15
     by_cases c16 : a0_2 < 0
     ·
      rw [if_pos c16] at H
      have c16b0 : decide (a0_2 < 0) = true := decide_eq_true c16
      clear c16
      (first | rw [c16b0] | (simp only [i64_w, i32_w]; rw [c16b0]) | skip)
      have H' := Aside0.mk H
      clear H
      have hcz17_0 : wc.cell? ⟨gb101, 0, none⟩ = some (.string a0_0) := (blk_cell BK101.out 0).trans rfl
      have hcz17_1 : wc.cell? ⟨gb101, 1, none⟩ = some (.string a0_1) := (blk_cell BK101.out 1).trans rfl
      have hcz17_2 : wc.cell? ⟨gb101, 2, none⟩ = some (.int .i64 a0_2) := (blk_cell BK101.out 2).trans rfl
      have hcz17_3 : wc.cell? ⟨gb101, 3, none⟩ = some (.int .i64 a0_3) := (blk_cell BK101.out 3).trans rfl
      have hcz17_4 : wc.cell? ⟨gb101, 4, none⟩ = some (.int .i64 a0_4) := (blk_cell BK101.out 4).trans rfl
      have hcz17_5 : wc.cell? ⟨gb101, 5, none⟩ = some (.int .i64 a0_5) := (blk_cell BK101.out 5).trans rfl
      have hfz17_0 := blk_frozen BK101.out 0
      have hfz17_1 := blk_frozen BK101.out 1
      have hfz17_2 := blk_frozen BK101.out 2
      have hfz17_3 := blk_frozen BK101.out 3
      have hfz17_4 := blk_frozen BK101.out 4
      have hfz17_5 := blk_frozen BK101.out 5
      go_wp2
      go_meet
      case rel => exact ⟨_, (true), (by first | rfl | (simp; done) | (simp [*]; done) | (simp [show ∀ l_ : List UInt8, (l_ != []) = !l_.isEmpty from fun l_ => by cases l_ <;> rfl]; done) | (congr 1; refine congr (congrArg (Go.bits _ _) ?_) ?_ <;> omega)), H', ⟨by have := HJ2.out; first | omega | exact Nat.le_refl _⟩, ⟨by (with_reducible repeat (first | refine blk_drewN ?_ _ | refine blk_drew ?_ | refine blk_alloc ?_ _)); exact BK101.out⟩, ⟨by repeat (first | (with_reducible first | exact HB.out | apply below_alloc | apply pw_below_drewN | apply below_drew1 | refine below_set ?_ GE101.out) | exact HB.out)⟩⟩
     ·
      rw [if_neg c16] at H
      have c16b0 : decide (a0_2 < 0) = false := decide_eq_false c16
      clear c16
      (first | rw [c16b0] | (simp only [i64_w, i32_w]; rw [c16b0]) | skip)
      by_cases c18 : a0_2 > 4611686018427387904
      ·
       rw [if_pos c18] at H
       have c18b0 : decide (4611686018427387904 < a0_2) = true := decide_eq_true c18
       clear c18
       have H' := Aside0.mk H
       clear H
       have hcz19_0 : wc.cell? ⟨gb101, 0, none⟩ = some (.string a0_0) := (blk_cell BK101.out 0).trans rfl
       have hcz19_1 : wc.cell? ⟨gb101, 1, none⟩ = some (.string a0_1) := (blk_cell BK101.out 1).trans rfl
       have hcz19_2 : wc.cell? ⟨gb101, 2, none⟩ = some (.int .i64 a0_2) := (blk_cell BK101.out 2).trans rfl
       have hcz19_3 : wc.cell? ⟨gb101, 3, none⟩ = some (.int .i64 a0_3) := (blk_cell BK101.out 3).trans rfl
       have hcz19_4 : wc.cell? ⟨gb101, 4, none⟩ = some (.int .i64 a0_4) := (blk_cell BK101.out 4).trans rfl
       have hcz19_5 : wc.cell? ⟨gb101, 5, none⟩ = some (.int .i64 a0_5) := (blk_cell BK101.out 5).trans rfl
       have hfz19_0 := blk_frozen BK101.out 0
       have hfz19_1 := blk_frozen BK101.out 1
       have hfz19_2 := blk_frozen BK101.out 2
       have hfz19_3 := blk_frozen BK101.out 3
       have hfz19_4 := blk_frozen BK101.out 4
       have hfz19_5 := blk_frozen BK101.out 5
       go_wp2
       go_meet
       case rel => exact ⟨_, (true), (by first | rfl | (simp; done) | (simp [*]; done) | (simp [show ∀ l_ : List UInt8, (l_ != []) = !l_.isEmpty from fun l_ => by cases l_ <;> rfl]; done) | (congr 1; refine congr (congrArg (Go.bits _ _) ?_) ?_ <;> omega)), H', ⟨by have := HJ2.out; first | omega | exact Nat.le_refl _⟩, ⟨by (with_reducible repeat (first | refine blk_drewN ?_ _ | refine blk_drew ?_ | refine blk_alloc ?_ _)); exact BK101.out⟩, ⟨by repeat (first | (with_reducible first | exact HB.out | apply below_alloc | apply pw_below_drewN | apply below_drew1 | refine below_set ?_ GE101.out) | exact HB.out)⟩⟩
      ·
       rw [if_neg c18] at H
       have c18b0 : decide (4611686018427387904 < a0_2) = false := decide_eq_false c18
       clear c18
       by_cases c20 : a0_3 < 0
       ·
        rw [if_pos c20] at H
        have c20b0 : decide (a0_3 < 0) = true := decide_eq_true c20
        clear c20
        have H' := Aside0.mk H
        clear H
        have hcz21_0 : wc.cell? ⟨gb101, 0, none⟩ = some (.string a0_0) := (blk_cell BK101.out 0).trans rfl
        have hcz21_1 : wc.cell? ⟨gb101, 1, none⟩ = some (.string a0_1) := (blk_cell BK101.out 1).trans rfl
        have hcz21_2 : wc.cell? ⟨gb101, 2, none⟩ = some (.int .i64 a0_2) := (blk_cell BK101.out 2).trans rfl
        have hcz21_3 : wc.cell? ⟨gb101, 3, none⟩ = some (.int .i64 a0_3) := (blk_cell BK101.out 3).trans rfl
        have hcz21_4 : wc.cell? ⟨gb101, 4, none⟩ = some (.int .i64 a0_4) := (blk_cell BK101.out 4).trans rfl
        have hcz21_5 : wc.cell? ⟨gb101, 5, none⟩ = some (.int .i64 a0_5) := (blk_cell BK101.out 5).trans rfl
        have hfz21_0 := blk_frozen BK101.out 0
        have hfz21_1 := blk_frozen BK101.out 1
        have hfz21_2 := blk_frozen BK101.out 2
        have hfz21_3 := blk_frozen BK101.out 3
        have hfz21_4 := blk_frozen BK101.out 4
        have hfz21_5 := blk_frozen BK101.out 5
        go_wp2
        go_meet
        case rel => exact ⟨_, (true), (by first | rfl | (simp; done) | (simp [*]; done) | (simp [show ∀ l_ : List UInt8, (l_ != []) = !l_.isEmpty from fun l_ => by cases l_ <;> rfl]; done) | (congr 1; refine congr (congrArg (Go.bits _ _) ?_) ?_ <;> omega)), H', ⟨by have := HJ2.out; first | omega | exact Nat.le_refl _⟩, ⟨by (with_reducible repeat (first | refine blk_drewN ?_ _ | refine blk_drew ?_ | refine blk_alloc ?_ _)); exact BK101.out⟩, ⟨by repeat (first | (with_reducible first | exact HB.out | apply below_alloc | apply pw_below_drewN | apply below_drew1 | refine below_set ?_ GE101.out) | exact HB.out)⟩⟩
       ·
        rw [if_neg c20] at H
        have c20b0 : decide (a0_3 < 0) = false := decide_eq_false c20
        clear c20
        by_cases c22 : a0_3 > 4611686018427387904
        ·
         rw [if_pos c22] at H
         have c22b0 : decide (4611686018427387904 < a0_3) = true := decide_eq_true c22
         clear c22
         have H' := Aside0.mk H
         clear H
         have hcz23_0 : wc.cell? ⟨gb101, 0, none⟩ = some (.string a0_0) := (blk_cell BK101.out 0).trans rfl
         have hcz23_1 : wc.cell? ⟨gb101, 1, none⟩ = some (.string a0_1) := (blk_cell BK101.out 1).trans rfl
         have hcz23_2 : wc.cell? ⟨gb101, 2, none⟩ = some (.int .i64 a0_2) := (blk_cell BK101.out 2).trans rfl
         have hcz23_3 : wc.cell? ⟨gb101, 3, none⟩ = some (.int .i64 a0_3) := (blk_cell BK101.out 3).trans rfl
         have hcz23_4 : wc.cell? ⟨gb101, 4, none⟩ = some (.int .i64 a0_4) := (blk_cell BK101.out 4).trans rfl
         have hcz23_5 : wc.cell? ⟨gb101, 5, none⟩ = some (.int .i64 a0_5) := (blk_cell BK101.out 5).trans rfl
         have hfz23_0 := blk_frozen BK101.out 0
         have hfz23_1 := blk_frozen BK101.out 1
         have hfz23_2 := blk_frozen BK101.out 2
         have hfz23_3 := blk_frozen BK101.out 3
         have hfz23_4 := blk_frozen BK101.out 4
         have hfz23_5 := blk_frozen BK101.out 5
         go_wp2
         go_meet
         case rel => exact ⟨_, (true), (by first | rfl | (simp; done) | (simp [*]; done) | (simp [show ∀ l_ : List UInt8, (l_ != []) = !l_.isEmpty from fun l_ => by cases l_ <;> rfl]; done) | (congr 1; refine congr (congrArg (Go.bits _ _) ?_) ?_ <;> omega)), H', ⟨by have := HJ2.out; first | omega | exact Nat.le_refl _⟩, ⟨by (with_reducible repeat (first | refine blk_drewN ?_ _ | refine blk_drew ?_ | refine blk_alloc ?_ _)); exact BK101.out⟩, ⟨by repeat (first | (with_reducible first | exact HB.out | apply below_alloc | apply pw_below_drewN | apply below_drew1 | refine below_set ?_ GE101.out) | exact HB.out)⟩⟩
        ·
         rw [if_neg c22] at H
         have c22b0 : decide (4611686018427387904 < a0_3) = false := decide_eq_false c22
         clear c22
         by_cases c24 : a0_4 < 0
         ·
          rw [if_pos c24] at H
          have c24b0 : decide (a0_4 < 0) = true := decide_eq_true c24
          clear c24
          have H' := Aside0.mk H
          clear H
          have hcz25_0 : wc.cell? ⟨gb101, 0, none⟩ = some (.string a0_0) := (blk_cell BK101.out 0).trans rfl
          have hcz25_1 : wc.cell? ⟨gb101, 1, none⟩ = some (.string a0_1) := (blk_cell BK101.out 1).trans rfl
          have hcz25_2 : wc.cell? ⟨gb101, 2, none⟩ = some (.int .i64 a0_2) := (blk_cell BK101.out 2).trans rfl
          have hcz25_3 : wc.cell? ⟨gb101, 3, none⟩ = some (.int .i64 a0_3) := (blk_cell BK101.out 3).trans rfl
          have hcz25_4 : wc.cell? ⟨gb101, 4, none⟩ = some (.int .i64 a0_4) := (blk_cell BK101.out 4).trans rfl
          have hcz25_5 : wc.cell? ⟨gb101, 5, none⟩ = some (.int .i64 a0_5) := (blk_cell BK101.out 5).trans rfl
          have hfz25_0 := blk_frozen BK101.out 0
          have hfz25_1 := blk_frozen BK101.out 1
          have hfz25_2 := blk_frozen BK101.out 2
          have hfz25_3 := blk_frozen BK101.out 3
          have hfz25_4 := blk_frozen BK101.out 4
          have hfz25_5 := blk_frozen BK101.out 5
          go_wp2
          go_meet
          case rel => exact ⟨_, (true), (by first | rfl | (simp; done) | (simp [*]; done) | (simp [show ∀ l_ : List UInt8, (l_ != []) = !l_.isEmpty from fun l_ => by cases l_ <;> rfl]; done) | (congr 1; refine congr (congrArg (Go.bits _ _) ?_) ?_ <;> omega)), H', ⟨by have := HJ2.out; first | omega | exact Nat.le_refl _⟩, ⟨by (with_reducible repeat (first | refine blk_drewN ?_ _ | refine blk_drew ?_ | refine blk_alloc ?_ _)); exact BK101.out⟩, ⟨by repeat (first | (with_reducible first | exact HB.out | apply below_alloc | apply pw_below_drewN | apply below_drew1 | refine below_set ?_ GE101.out) | exact HB.out)⟩⟩
         ·
          rw [if_neg c24] at H
          have c24b0 : decide (a0_4 < 0) = false := decide_eq_false c24
          clear c24
          have H' := Aside0.mk H
          clear H
          have hcz26_0 : wc.cell? ⟨gb101, 0, none⟩ = some (.string a0_0) := (blk_cell BK101.out 0).trans rfl
          have hcz26_1 : wc.cell? ⟨gb101, 1, none⟩ = some (.string a0_1) := (blk_cell BK101.out 1).trans rfl
          have hcz26_2 : wc.cell? ⟨gb101, 2, none⟩ = some (.int .i64 a0_2) := (blk_cell BK101.out 2).trans rfl
          have hcz26_3 : wc.cell? ⟨gb101, 3, none⟩ = some (.int .i64 a0_3) := (blk_cell BK101.out 3).trans rfl
          have hcz26_4 : wc.cell? ⟨gb101, 4, none⟩ = some (.int .i64 a0_4) := (blk_cell BK101.out 4).trans rfl
          have hcz26_5 : wc.cell? ⟨gb101, 5, none⟩ = some (.int .i64 a0_5) := (blk_cell BK101.out 5).trans rfl
          have hfz26_0 := blk_frozen BK101.out 0
          have hfz26_1 := blk_frozen BK101.out 1
          have hfz26_2 := blk_frozen BK101.out 2
          have hfz26_3 := blk_frozen BK101.out 3
          have hfz26_4 := blk_frozen BK101.out 4
          have hfz26_5 := blk_frozen BK101.out 5
          go_wp2
          go_meet
          case rel => exact ⟨_, (decide (a0_4 > 2)), (by first | rfl | (simp; done) | (simp [*]; done) | (simp [show ∀ l_ : List UInt8, (l_ != []) = !l_.isEmpty from fun l_ => by cases l_ <;> rfl]; done) | (congr 1; refine congr (congrArg (Go.bits _ _) ?_) ?_ <;> omega)), H', ⟨by have := HJ2.out; first | omega | exact Nat.le_refl _⟩, ⟨by (with_reducible repeat (first | refine blk_drewN ?_ _ | refine blk_drew ?_ | refine blk_alloc ?_ _)); exact BK101.out⟩, ⟨by repeat (first | (with_reducible first | exact HB.out | apply below_alloc | apply pw_below_drewN | apply below_drew1 | refine below_set ?_ GE101.out) | exact HB.out)⟩⟩
    case rest =>
     clear HC15
     try clear c1
     try clear c2
     try clear p2
     try clear c4
     try clear c6
     try clear c7
     try clear c7b0
     try clear c7b1
     try clear c9
     try clear c9b0
     try clear c9b1
     try clear c14
     try clear c16
     try clear c16b0
     try clear c18
     try clear c18b0
     try clear c20
     try clear c20b0
     try clear c22
     try clear c22b0
     try clear c24
     try clear c24b0
     try clear hcz10_0
     try clear hcz10_1
     try clear hcz10_2
     try clear hcz10_3
     try clear hcz10_4
     try clear hcz10_5
     try clear hcz12_0
     try clear hcz12_1
     try clear hcz12_2
     try clear hcz12_3
     try clear hcz12_4
     try clear hcz12_5
     try clear hcz13_0
     try clear hcz13_1
     try clear hcz13_2
     try clear hcz13_3
     try clear hcz13_4
     try clear hcz13_5
     try clear hcz17_0
     try clear hcz17_1
     try clear hcz17_2
     try clear hcz17_3
     try clear hcz17_4
     try clear hcz17_5
     try clear hcz19_0
     try clear hcz19_1
     try clear hcz19_2
     try clear hcz19_3
     try clear hcz19_4
     try clear hcz19_5
     try clear hcz21_0
     try clear hcz21_1
     try clear hcz21_2
     try clear hcz21_3
     try clear hcz21_4
     try clear hcz21_5
     try clear hcz23_0
     try clear hcz23_1
     try clear hcz23_2
     try clear hcz23_3
     try clear hcz23_4
     try clear hcz23_5
     try clear hcz25_0
     try clear hcz25_1
     try clear hcz25_2
     try clear hcz25_3
     try clear hcz25_4
     try clear hcz25_5
     try clear hcz26_0
     try clear hcz26_1
     try clear hcz26_2
     try clear hcz26_3
     try clear hcz26_4
     try clear hcz26_5
     try clear hcz8_0
     try clear hcz8_1
     try clear hcz8_2
     try clear hcz8_3
     try clear hcz8_4
     try clear hcz8_5
     try clear hfz10_0
     try clear hfz10_1
     try clear hfz10_2
     try clear hfz10_3
     try clear hfz10_4
     try clear hfz10_5
     try clear hfz12_0
     try clear hfz12_1
     try clear hfz12_2
     try clear hfz12_3
     try clear hfz12_4
     try clear hfz12_5
     try clear hfz13_0
     try clear hfz13_1
     try clear hfz13_2
     try clear hfz13_3
     try clear hfz13_4
     try clear hfz13_5
     try clear hfz17_0
     try clear hfz17_1
     try clear hfz17_2
     try clear hfz17_3
     try clear hfz17_4
     try clear hfz17_5
     try clear hfz19_0
     try clear hfz19_1
     try clear hfz19_2
     try clear hfz19_3
     try clear hfz19_4
     try clear hfz19_5
     try clear hfz21_0
     try clear hfz21_1
     try clear hfz21_2
     try clear hfz21_3
     try clear hfz21_4
     try clear hfz21_5
     try clear hfz23_0
     try clear hfz23_1
     try clear hfz23_2
     try clear hfz23_3
     try clear hfz23_4
     try clear hfz23_5
     try clear hfz25_0
     try clear hfz25_1
     try clear hfz25_2
     try clear hfz25_3
     try clear hfz25_4
     try clear hfz25_5
     try clear hfz26_0
     try clear hfz26_1
     try clear hfz26_2
     try clear hfz26_3
     try clear hfz26_4
     try clear hfz26_5
     try clear hfz8_0
     try clear hfz8_1
     try clear hfz8_2
     try clear hfz8_3
     try clear hfz8_4
     try clear hfz8_5
     try clear p2
     obtain ⟨kq, x53_14, rfl, HA, HJ14, BK101, HB⟩ := hcut
     cases kq with
     | zero => exact absurd HA.out (by simp [symtab_right.j1])
     | succ kj14 =>
      have H := HA.out
      clear HA
      simp only [symtab_right.j1] at H
      by_cases c27 : x53_14 = true
      ·
       subst c27
       have H1 : (some false) = some r := by rw [if_pos rfl] at H; exact H
       clear H
       have H := H1
       clear H1
       obtain rfl := Option.some.inj H
       go_wp2
       go_ret
       exact ⟨by first | rfl | (simp [errW_none, errW_some] <;> rfl) | (simp [*, errW_none, errW_some] <;> rfl), by repeat (first | (with_reducible first | exact HB.out | apply below_alloc | apply pw_below_drewN | apply below_drew1 | refine below_set ?_ GE101.out) | exact HB.out)⟩
      ·
       replace c27 := Bool.eq_false_iff.mpr c27
       subst c27
       have H1 : (if a0_5 = 0 then (symtab_right.j2 kj14 (a0_5 == 0) a0_0 a0_1 a0_2 a0_3 a0_4 a0_5) else (if a0_5 = 1 then (symtab_right.j2 kj14 (a0_5 == 1) a0_0 a0_1 a0_2 a0_3 a0_4 a0_5) else (if a0_5 = 2 then (symtab_right.j2 kj14 (a0_5 == 2) a0_0 a0_1 a0_2 a0_3 a0_4 a0_5) else (if a0_5 = 6 then (symtab_right.j2 kj14 (a0_5 == 6) a0_0 a0_1 a0_2 a0_3 a0_4 a0_5) else (symtab_right.j2 kj14 (a0_5 == 10) a0_0 a0_1 a0_2 a0_3 a0_4 a0_5))))) = some r := by rw [if_neg (show ¬ (false = true) by decide)] at H; exact H
       clear H
       have H := H1
       clear H1
       have HC28 := Aside0.mk H
       clear H
       have hcz29_0 : wc.cell? ⟨gb101, 0, none⟩ = some (.string a0_0) := (blk_cell BK101.out 0).trans rfl
       have hcz29_1 : wc.cell? ⟨gb101, 1, none⟩ = some (.string a0_1) := (blk_cell BK101.out 1).trans rfl
       have hcz29_2 : wc.cell? ⟨gb101, 2, none⟩ = some (.int .i64 a0_2) := (blk_cell BK101.out 2).trans rfl
       have hcz29_3 : wc.cell? ⟨gb101, 3, none⟩ = some (.int .i64 a0_3) := (blk_cell BK101.out 3).trans rfl
       have hcz29_4 : wc.cell? ⟨gb101, 4, none⟩ = some (.int .i64 a0_4) := (blk_cell BK101.out 4).trans rfl
       have hcz29_5 : wc.cell? ⟨gb101, 5, none⟩ = some (.int .i64 a0_5) := (blk_cell BK101.out 5).trans rfl
       have hfz29_0 := blk_frozen BK101.out 0
       have hfz29_1 := blk_frozen BK101.out 1
       have hfz29_2 := blk_frozen BK101.out 2
       have hfz29_3 := blk_frozen BK101.out 3
       have hfz29_4 := blk_frozen BK101.out 4
       have hfz29_5 := blk_frozen BK101.out 5
       go_upto_if 56 with (fail)
       go_cut [56] (fun v56 wc => ∃ (kq : Nat) (x56_27 : Bool), v56 = .bool x56_27 ∧ Aside0 (symtab_right.j2 kq x56_27 a0_0 a0_1 a0_2 a0_3 a0_4 a0_5 = some r) ∧ Aside0 (kq ≤ kj14) ∧ Aside0 (wc.heap[gb101]? = some (.cells #[.string a0_0, .string a0_1, .int .i64 a0_2, .int .i64 a0_3, .int .i64 a0_4, .int .i64 a0_5] 38 (0, 0))) ∧ Aside0 (Below w.heap.size w wc))
       case first =>
        have H := HC28.out
        clear HC28
        by_cases c30 : a0_5 = 0
        ·
         rw [if_pos c30] at H
         have c30b0 : (a0_5 == 0) = true := beq_iff_eq.mpr c30
         have c30b1 : (a0_5 != 0) = false := bne_eq_false_iff_eq.mpr c30
         clear c30
         (first | rw [c30b0] | (simp only [i64_w, i32_w]; rw [c30b0]) | skip)
         have H' := Aside0.mk H
         clear H
         go_wp2
         go_meet
         case rel => exact ⟨_, ((a0_5 == 0)), (by first | rfl | (simp; done) | (simp [*]; done) | (simp [show ∀ l_ : List UInt8, (l_ != []) = !l_.isEmpty from fun l_ => by cases l_ <;> rfl]; done) | (congr 1; refine congr (congrArg (Go.bits _ _) ?_) ?_ <;> omega)), H', ⟨by have := HJ2.out; have := HJ14.out; first | omega | exact Nat.le_refl _⟩, ⟨by (with_reducible repeat (first | refine blk_drewN ?_ _ | refine blk_drew ?_ | refine blk_alloc ?_ _)); exact BK101.out⟩, ⟨by repeat (first | (with_reducible first | exact HB.out | apply below_alloc | apply pw_below_drewN | apply below_drew1 | refine below_set ?_ GE101.out) | exact HB.out)⟩⟩
        ·
         rw [if_neg c30] at H
         have c30b0 : (a0_5 == 0) = false := beq_eq_false_iff_ne.mpr c30
         have c30b1 : (a0_5 != 0) = true := bne_iff_ne.mpr c30
         (first | rw [c30b0] | (simp only [i64_w, i32_w]; rw [c30b0]) | skip)
         by_cases c31 : a0_5 = 1
         ·
          rw [if_pos c31] at H
          have c31b0 : (a0_5 == 1) = true := beq_iff_eq.mpr c31
          have c31b1 : (a0_5 != 1) = false := bne_eq_false_iff_eq.mpr c31
          clear c31
          have H' := Aside0.mk H
          clear H
          go_wp2
          go_meet
          case rel => exact ⟨_, ((a0_5 == 1)), (by first | rfl | (simp; done) | (simp [*]; done) | (simp [show ∀ l_ : List UInt8, (l_ != []) = !l_.isEmpty from fun l_ => by cases l_ <;> rfl]; done) | (congr 1; refine congr (congrArg (Go.bits _ _) ?_) ?_ <;> omega)), H', ⟨by have := HJ2.out; have := HJ14.out; first | omega | exact Nat.le_refl _⟩, ⟨by (with_reducible repeat (first | refine blk_drewN ?_ _ | refine blk_drew ?_ | refine blk_alloc ?_ _)); exact BK101.out⟩, ⟨by repeat (first | (with_reducible first | exact HB.out | apply below_alloc | apply pw_below_drewN | apply below_drew1 | refine below_set ?_ GE101.out) | exact HB.out)⟩⟩
         ·
          rw [if_neg c31] at H
          have c31b0 : (a0_5 == 1) = false := beq_eq_false_iff_ne.mpr c31
          have c31b1 : (a0_5 != 1) = true := bne_iff_ne.mpr c31
          by_cases c32 : a0_5 = 2
          ·
           rw [if_pos c32] at H
           have c32b0 : (a0_5 == 2) = true := beq_iff_eq.mpr c32
           have c32b1 : (a0_5 != 2) = false := bne_eq_false_iff_eq.mpr c32
           clear c32
           have H' := Aside0.mk H
           clear H
           go_wp2
           go_meet
           case rel => exact ⟨_, ((a0_5 == 2)), (by first | rfl | (simp; done) | (simp [*]; done) | (simp [show ∀ l_ : List UInt8, (l_ != []) = !l_.isEmpty from fun l_ => by cases l_ <;> rfl]; done) | (congr 1; refine congr (congrArg (Go.bits _ _) ?_) ?_ <;> omega)), H', ⟨by have := HJ2.out; have := HJ14.out; first | omega | exact Nat.le_refl _⟩, ⟨by (with_reducible repeat (first | refine blk_drewN ?_ _ | refine blk_drew ?_ | refine blk_alloc ?_ _)); exact BK101.out⟩, ⟨by repeat (first | (with_reducible first | exact HB.out | apply below_alloc | apply pw_below_drewN | apply below_drew1 | refine below_set ?_ GE101.out) | exact HB.out)⟩⟩
          ·
           rw [if_neg c32] at H
           have c32b0 : (a0_5 == 2) = false := beq_eq_false_iff_ne.mpr c32
           have c32b1 : (a0_5 != 2) = true := bne_iff_ne.mpr c32
           by_cases c33 : a0_5 = 6
           ·
            rw [if_pos c33] at H
            have c33b0 : (a0_5 == 6) = true := beq_iff_eq.mpr c33
            have c33b1 : (a0_5 != 6) = false := bne_eq_false_iff_eq.mpr c33
            clear c33
            have H' := Aside0.mk H
            clear H
            go_wp2
            go_meet
            case rel => exact ⟨_, ((a0_5 == 6)), (by first | rfl | (simp; done) | (simp [*]; done) | (simp [show ∀ l_ : List UInt8, (l_ != []) = !l_.isEmpty from fun l_ => by cases l_ <;> rfl]; done) | (congr 1; refine congr (congrArg (Go.bits _ _) ?_) ?_ <;> omega)), H', ⟨by have := HJ2.out; have := HJ14.out; first | omega | exact Nat.le_refl _⟩, ⟨by (with_reducible repeat (first | refine blk_drewN ?_ _ | refine blk_drew ?_ | refine blk_alloc ?_ _)); exact BK101.out⟩, ⟨by repeat (first | (with_reducible first | exact HB.out | apply below_alloc | apply pw_below_drewN | apply below_drew1 | refine below_set ?_ GE101.out) | exact HB.out)⟩⟩
           ·
            rw [if_neg c33] at H
            have c33b0 : (a0_5 == 6) = false := beq_eq_false_iff_ne.mpr c33
            have c33b1 : (a0_5 != 6) = true := bne_iff_ne.mpr c33
            have H' := Aside0.mk H
            clear H
            go_wp2
            go_meet
            case rel => exact ⟨_, ((a0_5 == 10)), (by first | rfl | (simp; done) | (simp [*]; done) | (simp [show ∀ l_ : List UInt8, (l_ != []) = !l_.isEmpty from fun l_ => by cases l_ <;> rfl]; done) | (congr 1; refine congr (congrArg (Go.bits _ _) ?_) ?_ <;> omega)), H', ⟨by have := HJ2.out; have := HJ14.out; first | omega | exact Nat.le_refl _⟩, ⟨by (with_reducible repeat (first | refine blk_drewN ?_ _ | refine blk_drew ?_ | refine blk_alloc ?_ _)); exact BK101.out⟩, ⟨by repeat (first | (with_reducible first | exact HB.out | apply below_alloc | apply pw_below_drewN | apply below_drew1 | refine below_set ?_ GE101.out) | exact HB.out)⟩⟩
       case rest =>
        clear HC28
        try clear c1
        try clear c2
        try clear p2
        try clear c3
        try clear c4
        try clear c6
        try clear c7
        try clear c7b0
        try clear c7b1
        try clear c9
        try clear c9b0
        try clear c9b1
        try clear c14
        try clear c16
        try clear c16b0
        try clear c18
        try clear c18b0
        try clear c20
        try clear c20b0
        try clear c22
        try clear c22b0
        try clear c24
        try clear c24b0
        try clear c27
        try clear c30
        try clear c30b0
        try clear c30b1
        try clear c31
        try clear c31b0
        try clear c31b1
        try clear c32
        try clear c32b0
        try clear c32b1
        try clear c33
        try clear c33b0
        try clear c33b1
        try clear hcz10_0
        try clear hcz10_1
        try clear hcz10_2
        try clear hcz10_3
        try clear hcz10_4
        try clear hcz10_5
        try clear hcz12_0
        try clear hcz12_1
        try clear hcz12_2
        try clear hcz12_3
        try clear hcz12_4
        try clear hcz12_5
        try clear hcz13_0
        try clear hcz13_1
        try clear hcz13_2
        try clear hcz13_3
        try clear hcz13_4
        try clear hcz13_5
        try clear hcz17_0
        try clear hcz17_1
        try clear hcz17_2
        try clear hcz17_3
        try clear hcz17_4
        try clear hcz17_5
        try clear hcz19_0
        try clear hcz19_1
        try clear hcz19_2
        try clear hcz19_3
        try clear hcz19_4
        try clear hcz19_5
        try clear hcz21_0
        try clear hcz21_1
        try clear hcz21_2
        try clear hcz21_3
        try clear hcz21_4
        try clear hcz21_5
        try clear hcz23_0
        try clear hcz23_1
        try clear hcz23_2
        try clear hcz23_3
        try clear hcz23_4
        try clear hcz23_5
        try clear hcz25_0
        try clear hcz25_1
        try clear hcz25_2
        try clear hcz25_3
        try clear hcz25_4
        try clear hcz25_5
        try clear hcz26_0
        try clear hcz26_1
        try clear hcz26_2
        try clear hcz26_3
        try clear hcz26_4
        try clear hcz26_5
        try clear hcz29_0
        try clear hcz29_1
        try clear hcz29_2
        try clear hcz29_3
        try clear hcz29_4
        try clear hcz29_5
        try clear hcz8_0
        try clear hcz8_1
        try clear hcz8_2
        try clear hcz8_3
        try clear hcz8_4
        try clear hcz8_5
        try clear hfz10_0
        try clear hfz10_1
        try clear hfz10_2
        try clear hfz10_3
        try clear hfz10_4
        try clear hfz10_5
        try clear hfz12_0
        try clear hfz12_1
        try clear hfz12_2
        try clear hfz12_3
        try clear hfz12_4
        try clear hfz12_5
        try clear hfz13_0
        try clear hfz13_1
        try clear hfz13_2
        try clear hfz13_3
        try clear hfz13_4
        try clear hfz13_5
        try clear hfz17_0
        try clear hfz17_1
        try clear hfz17_2
        try clear hfz17_3
        try clear hfz17_4
        try clear hfz17_5
        try clear hfz19_0
        try clear hfz19_1
        try clear hfz19_2
        try clear hfz19_3
        try clear hfz19_4
        try clear hfz19_5
        try clear hfz21_0
        try clear hfz21_1
        try clear hfz21_2
        try clear hfz21_3
        try clear hfz21_4
        try clear hfz21_5
        try clear hfz23_0
        try clear hfz23_1
        try clear hfz23_2
        try clear hfz23_3
        try clear hfz23_4
        try clear hfz23_5
        try clear hfz25_0
        try clear hfz25_1
        try clear hfz25_2
        try clear hfz25_3
        try clear hfz25_4
        try clear hfz25_5
        try clear hfz26_0
        try clear hfz26_1
        try clear hfz26_2
        try clear hfz26_3
        try clear hfz26_4
        try clear hfz26_5
        try clear hfz29_0
        try clear hfz29_1
        try clear hfz29_2
        try clear hfz29_3
        try clear hfz29_4
        try clear hfz29_5
        try clear hfz8_0
        try clear hfz8_1
        try clear hfz8_2
        try clear hfz8_3
        try clear hfz8_4
        try clear hfz8_5
        try clear p2
        obtain ⟨kq, x56_27, rfl, HA, HJ27, BK101, HB⟩ := hcut
        cases kq with
        | zero => exact absurd HA.out (by simp [symtab_right.j2])
        | succ kj27 =>
         have H := HA.out
         clear HA
         simp only [symtab_right.j2] at H
         by_cases c34 : x56_27 = true
         ·
          subst c34
          have H1 : (if a0_1.toList = ([] : List UInt8) then (if a0_4 = 0 then (some false) else (if a0_2 = 0 then (if a0_3 = 0 then (if a0_0.toList = ([] : List UInt8) then (some (a0_4 == 0)) else (some true)) else (some false)) else (some false))) else (if a0_0.toList = ([] : List UInt8) then (some (a0_4 == 0)) else (some true))) = some r := by rw [if_pos rfl] at H; exact H
          clear H
          have H := H1
          clear H1
          by_cases c35 : a0_1.toList = ([] : List UInt8)
          ·
           rw [if_pos c35] at H
           have c35b0 : (a0_1.toList == ([] : List UInt8)) = true := beq_iff_eq.mpr c35
           have c35b1 : (a0_1.toList != ([] : List UInt8)) = false := bne_eq_false_iff_eq.mpr c35
           clear c35
           by_cases c36 : a0_4 = 0
           ·
            rw [if_pos c36] at H
            have c36b0 : (a0_4 == 0) = true := beq_iff_eq.mpr c36
            have c36b1 : (a0_4 != 0) = false := bne_eq_false_iff_eq.mpr c36
            clear c36
            obtain rfl := Option.some.inj H
            have hcz37_0 : wc.cell? ⟨gb101, 0, none⟩ = some (.string a0_0) := (blk_cell BK101.out 0).trans rfl
            have hcz37_1 : wc.cell? ⟨gb101, 1, none⟩ = some (.string a0_1) := (blk_cell BK101.out 1).trans rfl
            have hcz37_2 : wc.cell? ⟨gb101, 2, none⟩ = some (.int .i64 a0_2) := (blk_cell BK101.out 2).trans rfl
            have hcz37_3 : wc.cell? ⟨gb101, 3, none⟩ = some (.int .i64 a0_3) := (blk_cell BK101.out 3).trans rfl
            have hcz37_4 : wc.cell? ⟨gb101, 4, none⟩ = some (.int .i64 a0_4) := (blk_cell BK101.out 4).trans rfl
            have hcz37_5 : wc.cell? ⟨gb101, 5, none⟩ = some (.int .i64 a0_5) := (blk_cell BK101.out 5).trans rfl
            have hfz37_0 := blk_frozen BK101.out 0
            have hfz37_1 := blk_frozen BK101.out 1
            have hfz37_2 := blk_frozen BK101.out 2
            have hfz37_3 := blk_frozen BK101.out 3
            have hfz37_4 := blk_frozen BK101.out 4
            have hfz37_5 := blk_frozen BK101.out 5
            go_wp2
            go_ret
            exact ⟨by first | rfl | (simp [errW_none, errW_some] <;> rfl) | (simp [*, errW_none, errW_some] <;> rfl), by repeat (first | (with_reducible first | exact HB.out | apply below_alloc | apply pw_below_drewN | apply below_drew1 | refine below_set ?_ GE101.out) | exact HB.out)⟩
           ·
            rw [if_neg c36] at H
            have c36b0 : (a0_4 == 0) = false := beq_eq_false_iff_ne.mpr c36
            have c36b1 : (a0_4 != 0) = true := bne_iff_ne.mpr c36
            by_cases c38 : a0_2 = 0
            ·
             rw [if_pos c38] at H
             have c38b0 : (a0_2 == 0) = true := beq_iff_eq.mpr c38
             have c38b1 : (a0_2 != 0) = false := bne_eq_false_iff_eq.mpr c38
             clear c38
             by_cases c39 : a0_3 = 0
             ·
              rw [if_pos c39] at H
              have c39b0 : (a0_3 == 0) = true := beq_iff_eq.mpr c39
              have c39b1 : (a0_3 != 0) = false := bne_eq_false_iff_eq.mpr c39
              clear c39
              by_cases c40 : a0_0.toList = ([] : List UInt8)
              ·
               rw [if_pos c40] at H
               have c40b0 : (a0_0.toList == ([] : List UInt8)) = true := beq_iff_eq.mpr c40
               have c40b1 : (a0_0.toList != ([] : List UInt8)) = false := bne_eq_false_iff_eq.mpr c40
               clear c40
               obtain rfl := Option.some.inj H
               have hcz41_0 : wc.cell? ⟨gb101, 0, none⟩ = some (.string a0_0) := (blk_cell BK101.out 0).trans rfl
               have hcz41_1 : wc.cell? ⟨gb101, 1, none⟩ = some (.string a0_1) := (blk_cell BK101.out 1).trans rfl
               have hcz41_2 : wc.cell? ⟨gb101, 2, none⟩ = some (.int .i64 a0_2) := (blk_cell BK101.out 2).trans rfl
               have hcz41_3 : wc.cell? ⟨gb101, 3, none⟩ = some (.int .i64 a0_3) := (blk_cell BK101.out 3).trans rfl
               have hcz41_4 : wc.cell? ⟨gb101, 4, none⟩ = some (.int .i64 a0_4) := (blk_cell BK101.out 4).trans rfl
               have hcz41_5 : wc.cell? ⟨gb101, 5, none⟩ = some (.int .i64 a0_5) := (blk_cell BK101.out 5).trans rfl
               have hfz41_0 := blk_frozen BK101.out 0
               have hfz41_1 := blk_frozen BK101.out 1
               have hfz41_2 := blk_frozen BK101.out 2
               have hfz41_3 := blk_frozen BK101.out 3
               have hfz41_4 := blk_frozen BK101.out 4
               have hfz41_5 := blk_frozen BK101.out 5
               go_wp2
               go_ret
               exact ⟨by first | rfl | (simp [errW_none, errW_some] <;> rfl) | (simp [*, errW_none, errW_some] <;> rfl), by repeat (first | (with_reducible first | exact HB.out | apply below_alloc | apply pw_below_drewN | apply below_drew1 | refine below_set ?_ GE101.out) | exact HB.out)⟩
              ·
               rw [if_neg c40] at H
               have c40b0 : (a0_0.toList == ([] : List UInt8)) = false := beq_eq_false_iff_ne.mpr c40
               have c40b1 : (a0_0.toList != ([] : List UInt8)) = true := bne_iff_ne.mpr c40
               obtain rfl := Option.some.inj H
               have hcz42_0 : wc.cell? ⟨gb101, 0, none⟩ = some (.string a0_0) := (blk_cell BK101.out 0).trans rfl
               have hcz42_1 : wc.cell? ⟨gb101, 1, none⟩ = some (.string a0_1) := (blk_cell BK101.out 1).trans rfl
               have hcz42_2 : wc.cell? ⟨gb101, 2, none⟩ = some (.int .i64 a0_2) := (blk_cell BK101.out 2).trans rfl
               have hcz42_3 : wc.cell? ⟨gb101, 3, none⟩ = some (.int .i64 a0_3) := (blk_cell BK101.out 3).trans rfl
               have hcz42_4 : wc.cell? ⟨gb101, 4, none⟩ = some (.int .i64 a0_4) := (blk_cell BK101.out 4).trans rfl
               have hcz42_5 : wc.cell? ⟨gb101, 5, none⟩ = some (.int .i64 a0_5) := (blk_cell BK101.out 5).trans rfl
               have hfz42_0 := blk_frozen BK101.out 0
               have hfz42_1 := blk_frozen BK101.out 1
               have hfz42_2 := blk_frozen BK101.out 2
               have hfz42_3 := blk_frozen BK101.out 3
               have hfz42_4 := blk_frozen BK101.out 4
               have hfz42_5 := blk_frozen BK101.out 5
               go_wp2
               go_ret
               exact ⟨by first | rfl | (simp [errW_none, errW_some] <;> rfl) | (simp [*, errW_none, errW_some] <;> rfl), by repeat (first | (with_reducible first | exact HB.out | apply below_alloc | apply pw_below_drewN | apply below_drew1 | refine below_set ?_ GE101.out) | exact HB.out)⟩
             ·
              rw [if_neg c39] at H
              have c39b0 : (a0_3 == 0) = false := beq_eq_false_iff_ne.mpr c39
              have c39b1 : (a0_3 != 0) = true := bne_iff_ne.mpr c39
              obtain rfl := Option.some.inj H
              have hcz43_0 : wc.cell? ⟨gb101, 0, none⟩ = some (.string a0_0) := (blk_cell BK101.out 0).trans rfl
              have hcz43_1 : wc.cell? ⟨gb101, 1, none⟩ = some (.string a0_1) := (blk_cell BK101.out 1).trans rfl
              have hcz43_2 : wc.cell? ⟨gb101, 2, none⟩ = some (.int .i64 a0_2) := (blk_cell BK101.out 2).trans rfl
              have hcz43_3 : wc.cell? ⟨gb101, 3, none⟩ = some (.int .i64 a0_3) := (blk_cell BK101.out 3).trans rfl
              have hcz43_4 : wc.cell? ⟨gb101, 4, none⟩ = some (.int .i64 a0_4) := (blk_cell BK101.out 4).trans rfl
              have hcz43_5 : wc.cell? ⟨gb101, 5, none⟩ = some (.int .i64 a0_5) := (blk_cell BK101.out 5).trans rfl
              have hfz43_0 := blk_frozen BK101.out 0
              have hfz43_1 := blk_frozen BK101.out 1
              have hfz43_2 := blk_frozen BK101.out 2
              have hfz43_3 := blk_frozen BK101.out 3
              have hfz43_4 := blk_frozen BK101.out 4
              have hfz43_5 := blk_frozen BK101.out 5
              go_wp2
              go_ret
              exact ⟨by first | rfl | (simp [errW_none, errW_some] <;> rfl) | (simp [*, errW_none, errW_some] <;> rfl), by repeat (first | (with_reducible first | exact HB.out | apply below_alloc | apply pw_below_drewN | apply below_drew1 | refine below_set ?_ GE101.out) | exact HB.out)⟩
            ·
             rw [if_neg c38] at H
             have c38b0 : (a0_2 == 0) = false := beq_eq_false_iff_ne.mpr c38
             have c38b1 : (a0_2 != 0) = true := bne_iff_ne.mpr c38
             obtain rfl := Option.some.inj H
             have hcz44_0 : wc.cell? ⟨gb101, 0, none⟩ = some (.string a0_0) := (blk_cell BK101.out 0).trans rfl
             have hcz44_1 : wc.cell? ⟨gb101, 1, none⟩ = some (.string a0_1) := (blk_cell BK101.out 1).trans rfl
             have hcz44_2 : wc.cell? ⟨gb101, 2, none⟩ = some (.int .i64 a0_2) := (blk_cell BK101.out 2).trans rfl
             have hcz44_3 : wc.cell? ⟨gb101, 3, none⟩ = some (.int .i64 a0_3) := (blk_cell BK101.out 3).trans rfl
             have hcz44_4 : wc.cell? ⟨gb101, 4, none⟩ = some (.int .i64 a0_4) := (blk_cell BK101.out 4).trans rfl
             have hcz44_5 : wc.cell? ⟨gb101, 5, none⟩ = some (.int .i64 a0_5) := (blk_cell BK101.out 5).trans rfl
             have hfz44_0 := blk_frozen BK101.out 0
             have hfz44_1 := blk_frozen BK101.out 1
             have hfz44_2 := blk_frozen BK101.out 2
             have hfz44_3 := blk_frozen BK101.out 3
             have hfz44_4 := blk_frozen BK101.out 4
             have hfz44_5 := blk_frozen BK101.out 5
             go_wp2
             go_ret
             exact ⟨by first | rfl | (simp [errW_none, errW_some] <;> rfl) | (simp [*, errW_none, errW_some] <;> rfl), by repeat (first | (with_reducible first | exact HB.out | apply below_alloc | apply pw_below_drewN | apply below_drew1 | refine below_set ?_ GE101.out) | exact HB.out)⟩
          ·
           rw [if_neg c35] at H
           have c35b0 : (a0_1.toList == ([] : List UInt8)) = false := beq_eq_false_iff_ne.mpr c35
           have c35b1 : (a0_1.toList != ([] : List UInt8)) = true := bne_iff_ne.mpr c35
           by_cases c45 : a0_0.toList = ([] : List UInt8)
           ·
            rw [if_pos c45] at H
            have c45b0 : (a0_0.toList == ([] : List UInt8)) = true := beq_iff_eq.mpr c45
            have c45b1 : (a0_0.toList != ([] : List UInt8)) = false := bne_eq_false_iff_eq.mpr c45
            clear c45
            obtain rfl := Option.some.inj H
            have hcz46_0 : wc.cell? ⟨gb101, 0, none⟩ = some (.string a0_0) := (blk_cell BK101.out 0).trans rfl
            have hcz46_1 : wc.cell? ⟨gb101, 1, none⟩ = some (.string a0_1) := (blk_cell BK101.out 1).trans rfl
            have hcz46_2 : wc.cell? ⟨gb101, 2, none⟩ = some (.int .i64 a0_2) := (blk_cell BK101.out 2).trans rfl
            have hcz46_3 : wc.cell? ⟨gb101, 3, none⟩ = some (.int .i64 a0_3) := (blk_cell BK101.out 3).trans rfl
            have hcz46_4 : wc.cell? ⟨gb101, 4, none⟩ = some (.int .i64 a0_4) := (blk_cell BK101.out 4).trans rfl
            have hcz46_5 : wc.cell? ⟨gb101, 5, none⟩ = some (.int .i64 a0_5) := (blk_cell BK101.out 5).trans rfl
            have hfz46_0 := blk_frozen BK101.out 0
            have hfz46_1 := blk_frozen BK101.out 1
            have hfz46_2 := blk_frozen BK101.out 2
            have hfz46_3 := blk_frozen BK101.out 3
            have hfz46_4 := blk_frozen BK101.out 4
            have hfz46_5 := blk_frozen BK101.out 5
            go_wp2
            go_ret
            exact ⟨by first | rfl | (simp [errW_none, errW_some] <;> rfl) | (simp [*, errW_none, errW_some] <;> rfl), by repeat (first | (with_reducible first | exact HB.out | apply below_alloc | apply pw_below_drewN | apply below_drew1 | refine below_set ?_ GE101.out) | exact HB.out)⟩
           ·
            rw [if_neg c45] at H
            have c45b0 : (a0_0.toList == ([] : List UInt8)) = false := beq_eq_false_iff_ne.mpr c45
            have c45b1 : (a0_0.toList != ([] : List UInt8)) = true := bne_iff_ne.mpr c45
            obtain rfl := Option.some.inj H
            have hcz47_0 : wc.cell? ⟨gb101, 0, none⟩ = some (.string a0_0) := (blk_cell BK101.out 0).trans rfl
            have hcz47_1 : wc.cell? ⟨gb101, 1, none⟩ = some (.string a0_1) := (blk_cell BK101.out 1).trans rfl
            have hcz47_2 : wc.cell? ⟨gb101, 2, none⟩ = some (.int .i64 a0_2) := (blk_cell BK101.out 2).trans rfl
            have hcz47_3 : wc.cell? ⟨gb101, 3, none⟩ = some (.int .i64 a0_3) := (blk_cell BK101.out 3).trans rfl
            have hcz47_4 : wc.cell? ⟨gb101, 4, none⟩ = some (.int .i64 a0_4) := (blk_cell BK101.out 4).trans rfl
            have hcz47_5 : wc.cell? ⟨gb101, 5, none⟩ = some (.int .i64 a0_5) := (blk_cell BK101.out 5).trans rfl
            have hfz47_0 := blk_frozen BK101.out 0
            have hfz47_1 := blk_frozen BK101.out 1
            have hfz47_2 := blk_frozen BK101.out 2
            have hfz47_3 := blk_frozen BK101.out 3
            have hfz47_4 := blk_frozen BK101.out 4
            have hfz47_5 := blk_frozen BK101.out 5
            go_wp2
            go_ret
            exact ⟨by first | rfl | (simp [errW_none, errW_some] <;> rfl) | (simp [*, errW_none, errW_some] <;> rfl), by repeat (first | (with_reducible first | exact HB.out | apply below_alloc | apply pw_below_drewN | apply below_drew1 | refine below_set ?_ GE101.out) | exact HB.out)⟩
         ·
          replace c34 := Bool.eq_false_iff.mpr c34
          subst c34
          have H1 : (some false) = some r := by rw [if_neg (show ¬ (false = true) by decide)] at H; exact H
          clear H
          have H := H1
          clear H1
          obtain rfl := Option.some.inj H
          go_wp2
          go_ret
          exact ⟨by first | rfl | (simp [errW_none, errW_some] <;> rfl) | (simp [*, errW_none, errW_some] <;> rfl), by repeat (first | (with_reducible first | exact HB.out | apply below_alloc | apply pw_below_drewN | apply below_drew1 | refine below_set ?_ GE101.out) | exact HB.out)⟩
end Go.Proofs.Ytibkcnlcmempgaa.G
end
section
namespace Go.Proofs.Ytibkcnlcmempgaa.Sym
set_option linter.unusedVariables false
set_option linter.unusedSimpArgs false
open Go.RowKit Go.Proofs.Ytibkcnlcmempgaa.G Go.Proofs.YtibkcnlcmempgaaW.PrintWords Go.Proofs.YtibkcnlcmempgaaW.PrintLast Go.Proofs.YtibkcnlcmempgaaW.PrintMore
/-- is the name among these? -/
def among (l : List ByteArray) (s : ByteArray) : Bool := l.any fun x => x.data.toList == s.data.toList
/-- the place of a name, -1 for none -/
def placeOf (l : List ByteArray) (s : ByteArray) : Int := if among l s then (l.findIdx fun x => x.data.toList == s.data.toList : Nat) else -1
theorem index_l0 (l : List ByteArray) (s : ByteArray) (hm : l.length ≤ 140737488355328) (d : Nat) : ∀ (k i : Nat), i + d = l.length → d < k →
    slices_Index_string_string.l0 k l s (l.length : Int) (i : Int) = some (if among (l.drop i) s then ((i + (l.drop i).findIdx (fun x => x.data.toList == s.data.toList) : Nat) : Int) else -1) := by
  induction d with
  | zero =>
    intro k i h1 h2
    obtain ⟨k, rfl⟩ : ∃ m, k = m + 1 := ⟨k - 1, by omega⟩
    simp only [slices_Index_string_string.l0]
    rw [if_neg (by omega), List.drop_of_length_le (by omega)]
    rfl
  | succ d ih =>
    intro k i h1 h2
    obtain ⟨k, rfl⟩ : ∃ m, k = m + 1 := ⟨k - 1, by omega⟩
    have hlt : i < l.length := by omega
    have hrd : rdOf ByteArray.empty l (i : Int) = l[i] := by simp [rdOf, List.getD, hlt]
    have h64 : wrap64 ((i : Int) + 1) = ((i + 1 : Nat) : Int) := by unfold wrap64; omega
    simp only [slices_Index_string_string.l0]
    rw [if_pos (by omega), if_pos (by omega), if_pos (by omega), hrd, h64, ih k (i + 1) (by omega) (by omega), List.drop_eq_getElem_cons hlt]
    rw [show among (l[i] :: l.drop (i + 1)) s = (l[i].data.toList == s.data.toList || among (l.drop (i + 1)) s) from rfl]
    simp only [List.findIdx_cons, ByteArray.toList_eq]
    by_cases c : l[i].data.toList = s.data.toList
    · rw [if_pos c.symm, show (l[i].data.toList == s.data.toList) = true from by simpa using c]
      simp
    · rw [if_neg (fun e => c e.symm), show (l[i].data.toList == s.data.toList) = false from by simpa using c]
      simp only [Bool.false_or, cond_false]
      by_cases c2 : among (l.drop (i + 1)) s = true
      · rw [if_pos c2, if_pos c2]
        congr 2
        omega
      · rw [if_neg c2, if_neg c2]
theorem sindex_f (l : List ByteArray) (s : ByteArray) (hm : l.length ≤ 140737488355328) (k : Nat) (hk : l.length < k) : slices_Index_string_string.f k l s = some (placeOf l s) := by
  have := index_l0 l s hm l.length k 0 (by omega) hk
  unfold slices_Index_string_string.f placeOf
  simpa using this
theorem contains_f (l : List ByteArray) (s : ByteArray) (hm : l.length ≤ 140737488355328) (k : Nat) (hk : l.length < k) : slices_Contains_string_string.f k l s = some (among l s) := by
  unfold slices_Contains_string_string.f
  rw [sindex_f l s hm k hk, Option.bind_some]
  unfold placeOf
  split
  · rename_i h
    rw [h, decide_eq_true (by omega)]
  · rename_i h
    rw [Bool.eq_false_iff.2 h, decide_eq_false (by omega)]
/-- has the name no byte 0? -/
def plainOf (s : ByteArray) : Bool := decide (Lib.indexByte s.data.toList 0 < 0)
theorem plain_f (s : ByteArray) : symtab_plain.f s = some (plainOf s) := rfl
/-- may a symbol be? -/
def rightOf (x : S38) (secs : List ByteArray) : Bool :=
  plainOf x.f0 && (x.f1.toList == [] || x.f1.toList == [42] || among secs x.f1) && decide (0 ≤ x.f2 ∧ x.f2 ≤ 4611686018427387904 ∧ 0 ≤ x.f3 ∧ x.f3 ≤ 4611686018427387904 ∧ 0 ≤ x.f4 ∧ x.f4 ≤ 2) &&
    decide (x.f5 = 0 ∨ x.f5 = 1 ∨ x.f5 = 2 ∨ x.f5 = 6 ∨ x.f5 = 10) && (x.f1.toList != [] || decide (x.f4 ≠ 0 ∧ x.f2 = 0 ∧ x.f3 = 0)) && (x.f0.toList != [] || decide (x.f4 = 0))
theorem right_j2 (k : Nat) (c : Bool) (x : S38) : symtab_right.j2 (k + 1) c x.f0 x.f1 x.f2 x.f3 x.f4 x.f5 = some (c && (x.f1.toList != [] || decide (x.f4 ≠ 0 ∧ x.f2 = 0 ∧ x.f3 = 0)) && (x.f0.toList != [] || decide (x.f4 = 0))) := by
  simp only [symtab_right.j2]
  cases c
  · simp
  · by_cases h1 : x.f1.toList = [] <;> by_cases h0 : x.f0.toList = [] <;> by_cases h4 : x.f4 = 0 <;> by_cases h2 : x.f2 = 0 <;> by_cases h3 : x.f3 = 0 <;> simp [h1, h0, h4, h2, h3]
theorem right_j1 (k : Nat) (c : Bool) (x : S38) : symtab_right.j1 (k + 2) c x.f0 x.f1 x.f2 x.f3 x.f4 x.f5 = some (!c && decide (x.f5 = 0 ∨ x.f5 = 1 ∨ x.f5 = 2 ∨ x.f5 = 6 ∨ x.f5 = 10) && (x.f1.toList != [] || decide (x.f4 ≠ 0 ∧ x.f2 = 0 ∧ x.f3 = 0)) && (x.f0.toList != [] || decide (x.f4 = 0))) := by
  simp only [symtab_right.j1]
  simp only [right_j2]
  generalize (x.f1.toList != [] || decide (x.f4 ≠ 0 ∧ x.f2 = 0 ∧ x.f3 = 0)) = p
  generalize (x.f0.toList != [] || decide (x.f4 = 0)) = q
  cases c
  · by_cases h0 : x.f5 = 0
    · simp [h0]
    · by_cases h1 : x.f5 = 1
      · simp [h1]
      · by_cases h2 : x.f5 = 2
        · simp [h2]
        · by_cases h6 : x.f5 = 6
          · simp [h6]
          · by_cases h10 : x.f5 = 10
            · simp [h10]
            · simp [h0, h1, h2, h6, h10]
  · simp
theorem right_j0 (k : Nat) (c : Bool) (x : S38) : symtab_right.j0 (k + 3) c x.f0 x.f1 x.f2 x.f3 x.f4 x.f5 = some (!c && decide (0 ≤ x.f2 ∧ x.f2 ≤ 4611686018427387904 ∧ 0 ≤ x.f3 ∧ x.f3 ≤ 4611686018427387904 ∧ 0 ≤ x.f4 ∧ x.f4 ≤ 2) && decide (x.f5 = 0 ∨ x.f5 = 1 ∨ x.f5 = 2 ∨ x.f5 = 6 ∨ x.f5 = 10) && (x.f1.toList != [] || decide (x.f4 ≠ 0 ∧ x.f2 = 0 ∧ x.f3 = 0)) && (x.f0.toList != [] || decide (x.f4 = 0))) := by
  simp only [symtab_right.j0]
  simp only [right_j1]
  generalize (x.f1.toList != [] || decide (x.f4 ≠ 0 ∧ x.f2 = 0 ∧ x.f3 = 0)) = p
  generalize (x.f0.toList != [] || decide (x.f4 = 0)) = q
  generalize (decide (x.f5 = 0 ∨ x.f5 = 1 ∨ x.f5 = 2 ∨ x.f5 = 6 ∨ x.f5 = 10)) = r
  cases c
  · have key : ∀ b : Bool, b = decide (0 ≤ x.f2 ∧ x.f2 ≤ 4611686018427387904 ∧ 0 ≤ x.f3 ∧ x.f3 ≤ 4611686018427387904 ∧ 0 ≤ x.f4 ∧ x.f4 ≤ 2) → True := fun _ _ => trivial
    rw [if_neg (by decide)]
    by_cases a1 : x.f2 < 0
    · rw [if_pos a1, decide_eq_false (by omega)]; simp
    · rw [if_neg a1]
      by_cases a2 : x.f2 > 4611686018427387904
      · rw [if_pos a2, decide_eq_false (by omega)]; simp
      · rw [if_neg a2]
        by_cases a3 : x.f3 < 0
        · rw [if_pos a3, decide_eq_false (by omega)]; simp
        · rw [if_neg a3]
          by_cases a4 : x.f3 > 4611686018427387904
          · rw [if_pos a4, decide_eq_false (by omega)]; simp
          · rw [if_neg a4]
            by_cases a5 : x.f4 < 0
            · rw [if_pos a5, decide_eq_false (by omega)]; simp
            · rw [if_neg a5]
              by_cases a6 : x.f4 > 2
              · rw [decide_eq_true a6, decide_eq_false (by omega)]; simp
              · rw [decide_eq_false a6, decide_eq_true (by omega)]; simp
  · simp
theorem right_f (x : S38) (secs : List ByteArray) (hm : secs.length ≤ 140737488355328) (k : Nat) (hk : secs.length + 3 ≤ k) : symtab_right.f k x.f0 x.f1 x.f2 x.f3 x.f4 x.f5 secs = some (rightOf x secs) := by
  unfold symtab_right.f rightOf
  rw [plain_f, Option.bind_some]
  obtain ⟨m, rfl⟩ : ∃ m, k = m + 3 := ⟨k - 3, by omega⟩
  simp only [right_j0]
  cases plainOf x.f0
  · simp
  · by_cases h1 : x.f1.toList = []
    · simp [h1]
    · by_cases h2 : x.f1.toList = [42]
      · simp [h1, h2]
      · rw [if_pos rfl, if_neg h1, if_neg h2]
        rw [contains_f secs x.f1 hm _ (by omega), Option.bind_some]
        have e1 : (x.f1.toList == []) = false := by simpa using h1
        have e2 : (x.f1.toList == [42]) = false := by simpa using h2
        rw [e1, e2]
        cases among secs x.f1 <;> simp
end Go.Proofs.Ytibkcnlcmempgaa.Sym
end
section
namespace Go.Proofs.Ytibkcnlcmempgaa.Own
set_option linter.unusedVariables false
set_option linter.unusedSimpArgs false
open Go.ChangeMaps Go.MapKept Go.WideShapes
open Go.Maps (Keyed IsMap)
open Go.WideMaps (KeyLaw)
theorem MapF.of_block {P : Program} {k e : TypeId} {w w' : World} {b n : Nat} {f : Lit → Option Int} (h : MapF P k e w b n f) (hb : w'.heap[b]? = w.heap[b]?) : MapF P k e w' b n f := by
  obtain ⟨D, ⟨es, clock, h1, h2⟩, h3⟩ := h
  exact ⟨D, ⟨es, clock, hb.trans h1, h2⟩, h3⟩
theorem MapF.entry {P : Program} {t k e : TypeId} {w : World} {b n : Nat} {f : Lit → Option Int} (h : MapF P k e w b n f) (K : KeyLaw P k) (ht : P.underlying t = some (.map k e)) (he : P.underlying e = some (.int .i64))
    (hz : ∀ u : World, (zeroValue e).run P u = .ok (.int .i64 0) u) (hn : n < maxLen) {key : Value} {kl : Lit} (hkey : keyOf P k key = some kl) :
    ∃ (v0 : Value) (st : Nat) (w1 : World), (Instr.mapEntry t (.map (some b)) key).run P w = .ok (.tuple #[v0, goInt st]) w1 ∧ w.grownBy w1 (some b) ∧
      (∀ w2 : World, w2.heap[b]? = w1.heap[b]? → (Instr.lookup t (.map (some b)) key false).run P w2 = .ok (.int .i64 ((f kl).getD 0)) w2) ∧
      ∀ (c : Int), (Lit.int .i64 c).wf = true → ∀ w2 : World, w2.heap[b]? = w1.heap[b]? → ∃ w3, (Instr.entryStore t (.map (some b)) (goInt st) (.int .i64 c)).run P w2 = .ok () w3 ∧ MapF P k e w3 b (n + 1) (putF f kl c) ∧ w2.grownBy w3 (some b) := by
  have K2 := Keyed.of_law K
  have hM := h
  obtain ⟨D, ⟨es, clock, hb, F, hs, hD⟩, hf1, hf2⟩ := h
  obtain ⟨v0, st, es1, clock1, hrun, hv0, hstore⟩ := WideElems.entry_then_store K ht hz hb F hkey
  have hblk : (setBlock w b (.map es1 clock1)).heap[b]? = some (.map es1 clock1) := heap_setBlock_same hb _
  refine ⟨v0, st, _, hrun, ⟨rfl, rfl, rfl, by simp [setBlock], fun i _ hi => heap_setBlock_other hb _ (fun e => hi (by rw [e]))⟩, fun w2 hw2 => ?_, fun c hc w2 hw2 => ?_⟩
  · rcases K.find w hkey es.toList F.keys with ⟨h1, h2⟩ | ⟨j, e0, h1, h2, h3⟩
    · have hmine : (Instr.mapEntry t (.map (some b)) key).run P w = .ok (.tuple #[.int .i64 0, goInt clock]) (setBlock w b (.map (es.push ⟨key, .int .i64 0, clock⟩) (clock + 1))) := by
        simp [Instr.mapEntry, run_underlying ht, MapKept.run_getObj_map hb, K.check w false hkey, h1, hz, MapKept.run_setObj_map _ hb, Result.andThen, setBlock]
      have hup : (Instr.mapUpdate t (.map (some b)) key (.int .i64 0)).run P w = .ok () (setBlock w b (.map (es.push ⟨key, .int .i64 0, clock⟩) (clock + 1))) := by
        simp [Instr.mapUpdate, run_underlying ht, MapKept.run_getObj_map hb, K.check w false hkey, h1, MapKept.run_setObj_map _ hb, Result.andThen, setBlock]
      obtain ⟨w', hr', hM', _⟩ := hM.put K2 ht he hn hkey (c := 0) (by decide)
      rw [hup] at hr'
      have e1 := (Result.ok.inj hr').2
      rw [hrun] at hmine
      have e2 := (Result.ok.inj hmine).2
      have hM2 : MapF P k e w2 b (n + 1) (putF f kl 0) := hM'.of_block (by rw [hw2, e2, e1])
      have hlook := hM2.look K2 ht he (hz w2) hkey
      have hnone : f kl = none := by
        have h4 := hM.look_ok K2 ht he (hz w) hkey
        have h5 := hf1 kl
        cases hfk : f kl with
        | none => rfl
        | some c0 =>
          exfalso
          rw [hfk] at h4
          simp [Instr.lookup, run_underlying ht, MapKept.run_getObj_map hb, K.check w _ hkey, h1, hz, Result.andThen] at h4
      rw [hlook, hnone]
      simp [putF]
    · have hj : es[j]? = some e0 := by simpa using h2
      have hsame : es.modify j (fun e => { e with key := key }) = es := by
        apply Array.ext'
        rw [Array.toList_modify, modify_eq_set _ _ _ _ h2]
        have : ({ e0 with key := key } : MapEntry) = e0 := by rw [← h3]
        rw [this]
        exact WideElems.set_self _ _ _ h2
      have hmine : (Instr.mapEntry t (.map (some b)) key).run P w = .ok (.tuple #[e0.val, goInt e0.born]) (setBlock w b (.map es clock)) := by
        simp [Instr.mapEntry, run_underlying ht, MapKept.run_getObj_map hb, K.check w false hkey, h1, hj, h3, K.stays w hkey, hsame, MapKept.run_setObj_map _ hb, Result.andThen, setBlock]
      rw [hrun] at hmine
      have e2 := (Result.ok.inj hmine).2
      have hM2 : MapF P k e w2 b n f := hM.of_block (by rw [hw2, e2, heap_setBlock_same hb, hb])
      exact hM2.look K2 ht he (hz w2) hkey
  · obtain ⟨es', clock', hr1, hr2⟩ := hstore w2 (.int .i64 c) (hw2.trans hblk)
    obtain ⟨w', hr', hM', _⟩ := hM.put K2 ht he hn hkey hc
    rw [hr2] at hr'
    have e1 := (Result.ok.inj hr').2
    have hb2 : w2.heap[b]? = some (.map es1 clock1) := hw2.trans hblk
    refine ⟨_, hr1, hM'.of_block ?_, ⟨rfl, rfl, rfl, by simp [setBlock], fun i _ hi => heap_setBlock_other hb2 _ (fun e => hi (by rw [e]))⟩⟩
    rw [heap_setBlock_same hb2, ← e1, heap_setBlock_same hb]
theorem skip_step {P : Program} {ops : Array Oper} {o : Oper} {a : Act} {Q : Exit → Act → World → Prop} {Kc : Act → World → Prop} {W w1 : World} (hw : Region.wanted o (yielded ops a.tmps) = true) (hrun : (execOp a.eval o).run P W = .ok .skip w1) (h : Kc (a.put o.dst undef) w1) :
    if Region.wanted o (yielded ops a.tmps) = true then Oper.wp P o a W Kc Q else Kc (a.put o.dst undef) W := by
  rw [if_pos hw]
  unfold Oper.wp
  rw [hrun]
  exact h
end Go.Proofs.Ytibkcnlcmempgaa.Own
end
section
namespace Go.Proofs.Ytibkcnlcmempgaa.G
open Go.RowKit Go.Proofs.YtibkcnlcmempgaaW.PrintWords Go.Proofs.YtibkcnlcmempgaaW.PrintLast Go.Proofs.YtibkcnlcmempgaaW.PrintMore
attribute [local go_sem] max2_int min2_int max_two min_two max_three min_three max_four min_four   -- for this text's walks alone
set_option linter.unusedVariables false
set_option linter.unusedSimpArgs false
/-- is the section's name at place i wrong? -/
def secBad (l : List ByteArray) (i : Nat) : Bool := (rdOf ByteArray.empty l (i : Int)).toList == [] || (rdOf ByteArray.empty l (i : Int)).toList == [42] || !Sym.plainOf (rdOf ByteArray.empty l (i : Int)) || Sym.among (l.take i) (rdOf ByteArray.empty l (i : Int))
/-- what a symbol is met by -/
def symKey (x : S38) : List UInt8 × Int := (x.f0.data.toList, if 1 < x.f4 then 1 else x.f4)
/-- is the symbol at place i wrong, or met before? -/
def symBad (l : List S38) (secs : List ByteArray) (i : Nat) : Bool := !Sym.rightOf (rd_T38 l (i : Int)) secs || ((rd_T38 l (i : Int)).f0.toList != [] && decide (0 < ((l.take i).map symKey).count (symKey (rd_T38 l (i : Int)))))
def longName (l : List S38) (i : Nat) : Bool := decide ((rd_T38 l (i : Int)).f0.size > 255)
def longSec (l : List ByteArray) (i : Nat) : Bool := decide ((rdOf ByteArray.empty l (i : Int)).size > 255)
def someOf (p : Nat → Bool) (n : Nat) : Bool := (List.range n).any p
theorem someOf_true {p : Nat → Bool} {n i : Nat} (hi : i < n) (h : p i = true) : someOf p n = true := List.any_eq_true.2 ⟨i, List.mem_range.2 hi, h⟩
theorem someOf_false {p : Nat → Bool} {n : Nat} (h : ∀ i, i < n → p i = false) : someOf p n = false := List.any_eq_false.2 fun i hi => by rw [h i (List.mem_range.1 hi)]; decide
theorem none_succ {p : Nat → Bool} {n : Nat} (h : ∀ i, i < n → p i = false) (hn : p n = false) : ∀ i, i < n + 1 → p i = false := fun i hi => by
 rcases Nat.lt_or_ge i n with c | c
 ·
  exact h i c
 ·
  obtain rfl : i = n := by omega
  exact hn
def symCheck (l : List S38) (secs : List ByteArray) : Int :=
 if l.length > 2000 ∨ secs.length > 64 then 6
 else if someOf (longName l) l.length || someOf (longSec secs) secs.length then 6
 else if someOf (secBad secs) secs.length then 80
 else if someOf (symBad l secs) l.length then 80 else 0
def symtab_Check.f (l0 : List S38) (l1 : List ByteArray) : Option Int := some (symCheck l0 l1)
theorem symtab_Check.laid : laidOutB Try.prog = true := by kernel_rfl
theorem symtab_Check.keys : WideMaps.KeyLaw Try.prog 100 := deep_law_laid symtab_Check.laid (m := 2) (by omega) (of_decide_eq_true (by kernel_rfl)) (by kernel_rfl) (by rw [Try.underlying100])
theorem symtab_Check.zero (w : World) : (zeroValue 3).run Try.prog w = .ok (.int .i64 0) w := by kernel_rfl
theorem symtab_Check.key (s : ByteArray) (a : Int) (hs : s.size ≤ 255) (h0 : 0 ≤ a) (h1 : a ≤ 1) : ∃ kl, keyOf Try.prog 100 (.agg #[.string s, .int .i64 a]) = some kl := by
 have hk : Try.prog.keyType 100 = true := by kernel_rfl
 have hc : Try.prog.cellsOf 100 = 2 := by kernel_rfl
 have hc9 : Try.prog.cellsOf 9 = 1 := by kernel_rfl
 have hc3 : Try.prog.cellsOf 3 = 1 := by kernel_rfl
 have hsz : ∃ d, Try.prog.types.size = d + 1 := ⟨Try.prog.types.size - 1, by
  have : 1 ≤ Try.prog.types.size := of_decide_eq_true (by kernel_rfl)
  omega⟩
 obtain ⟨d, hd⟩ := hsz
 have hstr : Try.prog.keyLits (d + 1) 9 [.string s] = some [.string s.data.toList] := by
  simp only [Program.keyLits, Try.underlying9]
  rw [if_pos (by simp only [maxLen]; omega)]
 have hint : Try.prog.keyLits (d + 1) 3 [.int .i64 a] = some [.int .i64 a] := by
  simp only [Program.keyLits, Try.underlying3]
  rw [if_pos ⟨trivial, Own.wf64 (by omega) (by omega)⟩]
 have hall : Try.prog.keyLits (d + 1 + 1) 100 [.string s, .int .i64 a] = some [.string s.data.toList, .int .i64 a] := by
  unfold Program.keyLits
  rw [Try.underlying100]
  simp [hc, hc9, hc3, hstr, hint]
 unfold keyOf
 rw [Try.underlying100]
 simp only [hk, Value.formed, Try.underlying100, hc, Value.cells, hd]
 simp [hall]
theorem symtab_Check.cells1 (w : World) (cs1 cs2 : Array Value) (t1 t2 : TypeId) (j : Nat) (v : Value) (h : cs1[j]? = some v) : ((w.alloc (.cells cs1 t1)).alloc (.cells cs2 t2)).cell? ⟨w.heap.size, j, none⟩ = some v := by
 have h1 : ((w.alloc (.cells cs1 t1)).alloc (.cells cs2 t2)).heap[w.heap.size]? = some (.cells cs1 t1) := by
  rw [(MapKept.heap_alloc _ _).2 _ (by simp), (MapKept.heap_alloc w _).1]
 unfold World.cell?
 rw [h1]
 exact h
theorem symtab_Check.cells2 (w : World) (cs1 cs2 : Array Value) (t1 t2 : TypeId) (j : Nat) (v : Value) (h : cs2[j]? = some v) : ((w.alloc (.cells cs1 t1)).alloc (.cells cs2 t2)).cell? ⟨w.heap.size + 1, j, none⟩ = some v := by
 have h1 : ((w.alloc (.cells cs1 t1)).alloc (.cells cs2 t2)).heap[w.heap.size + 1]? = some (.cells cs2 t2) := by
  have := (MapKept.heap_alloc (w.alloc (.cells cs1 t1)) (.cells cs2 t2)).1
  simpa using this
 unfold World.cell?
 rw [h1]
 exact h
/-- the region of 'met[k]++' -/
def symtab_Check.ops : Array Oper := #[{ dst := some 98, op := Op.move (Operand.tmp 11), type := 98, pos := "symtab.go:107", after := #[], guard := none },
 { dst := some 99, op := Op.load 100 (Operand.tmp 14), type := 100, pos := "symtab.go:107", after := #[], guard := none },
 { dst := some 100, op := Op.lookup 98 (Operand.tmp 98) (Operand.tmp 99) false, type := 3, pos := "symtab.go:107", after := #[{ on := 0, ground := Ground.data }, { on := 1, ground := Ground.data }], guard := none },
 { dst := some 101, op := Op.binOp BinOp.add 3 (Operand.tmp 100) (Operand.const (Value.int IntKind.i64 1)) 3, type := 3, pos := "symtab.go:107", after := #[{ on := 2, ground := Ground.data }], guard := none },
 { dst := some 102, op := Op.mapEntry 98 (Operand.tmp 98) (Operand.tmp 99), type := 0, pos := "symtab.go:107", after := #[{ on := 0, ground := Ground.data }, { on := 1, ground := Ground.data }, { on := 0, ground := Ground.phase }, { on := 1, ground := Ground.phase }, { on := 2, ground := Ground.textOnly Departure.mapOpAssignEntry }, { on := 3, ground := Ground.textOnly Departure.mapOpAssignEntry }], guard := none },
 { dst := some 103, op := Op.extract (Operand.tmp 102) 1, type := 3, pos := "symtab.go:107", after := #[{ on := 4, ground := Ground.data }], guard := none },
 { dst := none, op := Op.entryStore 98 (Operand.tmp 98) (Operand.tmp 103) (Operand.tmp 101), type := 0, pos := "symtab.go:107", after := #[{ on := 0, ground := Ground.data }, { on := 5, ground := Ground.data }, { on := 3, ground := Ground.data }, { on := 4, ground := Ground.chain }, { on := 0, ground := Ground.phase }, { on := 1, ground := Ground.phase }, { on := 2, ground := Ground.phase }, { on := 3, ground := Ground.phase }, { on := 4, ground := Ground.phase }, { on := 5, ground := Ground.phase }], guard := none }]
set_option maxRecDepth 100000 in
theorem symtab_Check.inc {Q : Exit → Act → World → Prop} (a : Act) (W : World) (mb b n cnt : Nat) (f : Lit → Option Int) (s : ByteArray) (k : Int) (kl : Lit) (hsz : 104 ≤ a.tmps.size) (h11 : a.eval (.tmp 11) = .map (some mb)) (h14 : a.eval (.tmp 14) = .pointer (some ⟨b, 0, none⟩))
  (hq0 : W.cell? ⟨b, 0, none⟩ = some (.string s)) (hq1 : W.cell? ⟨b, 1, none⟩ = some (.int .i64 k)) (hM : Own.MapF Try.prog 100 3 W mb n f) (hkl : keyOf Try.prog 100 (.agg #[.string s, .int .i64 k]) = some kl) (hcnt : (f kl).getD 0 = (cnt : Int)) (hn : n < maxLen) (hc : cnt ≤ 1099511627776) (hne : b ≠ mb)
  (hQ : ∀ d v c a w, Q (.panic c) (a.put d v) w → Q (.panic c) a w)
  (h : ∀ v0 v1 w1 w3, Own.MapF Try.prog 100 3 w3 mb (n + 1) (Own.putF f kl ((cnt : Int) + 1)) → W.drew.grownBy w1 (some mb) → w1.grownBy w3 (some mb) →
   Q .normal ((((((a.put (some 98) (.map (some mb))).put (some 99) (.agg #[.string s, .int .i64 k])).put (some 100) (.int .i64 (cnt : Int))).put (some 101) (.int .i64 ((cnt : Int) + 1))).put (some 102) (.tuple #[v0, v1])).put (some 103) v1) w3) :
  (Code.region 28 symtab_Check.ops true).wp Try.prog Q a W := by
 have hu := Try.underlying100
 have hw1 : wrap64 ((cnt : Int) + 1) = (cnt : Int) + 1 := by unfold wrap64; omega
 have hMd : Own.MapF Try.prog 100 3 W.drew mb n f := hM.of_block rfl
 obtain ⟨v0, st, w1, hent, hgr, hlk, hst⟩ := hMd.entry symtab_Check.keys Try.underlying98 Try.underlying3 symtab_Check.zero hn hkl
 have hlk0 : ∀ u : World, u.heap[mb]? = W.heap[mb]? ∨ u.heap[mb]? = w1.heap[mb]? → (Instr.lookup 98 (.map (some mb)) (.agg #[.string s, .int .i64 k]) false).run Try.prog u = .ok (.int .i64 (cnt : Int)) u := fun u hu => by
  rw [← hcnt]
  rcases hu with hu | hu
  ·
   exact (hM.of_block hu).look (Go.Maps.Keyed.of_law symtab_Check.keys) Try.underlying98 Try.underlying3 (symtab_Check.zero u) hkl
  ·
   exact hlk u hu
 have hcell1 : ∀ j, w1.cell? ⟨b, j, none⟩ = W.cell? ⟨b, j, none⟩ := fun j => by
  have hlt := World.block_lt_of_cell? W _ hq0
  unfold World.cell?
  rw [hgr.block _ hlt (fun e => hne (by injection e))]
  rfl
 obtain ⟨w3, hst3, hM3, hg3⟩ := hst ((cnt : Int) + 1) (Own.wf64 (by omega) (by omega)) w1 rfl
 refine start_ (n := 7) (S := fun u => u.cell? ⟨b, 0, none⟩ = some (.string s) ∧ u.cell? ⟨b, 1, none⟩ = some (.int .i64 k) ∧ (u.heap[mb]? = W.heap[mb]? ∨ u.heap[mb]? = w1.heap[mb]?)) (ds := [6]) #[false, false, false, false, false, false, false] (by kernel_rfl) rfl rfl ⟨hq0, hq1, .inl rfl⟩ (fun hHeld => ?_)
 refine pure_ (i := 0) (N := some 98) (v := .map (some mb)) (a' := a.put (some 98) (.map (some mb))) #[true, false, false, false, false, false, false] rfl rfl (by kernel_rfl) (hQ _ _) (Or.inl ⟨by rfl, ?_⟩) rfl ?_
 ·
  intro u
  simp [execOp, symtab_Check.ops, h11]
 generalize ha1 : a.put (some 98) (.map (some mb)) = a1 at *
 have g98 : a1.eval (.tmp 98) = .map (some mb) := by rw [← ha1]; exact Act.eval_put_same _ _ _ (by omega)
 have g14 : a1.eval (.tmp 14) = .pointer (some ⟨b, 0, none⟩) := by rw [← ha1, Act.eval_put_ne _ _ _ _ (by decide)]; exact h14
 refine take_ (i := 1) (N := some 99) (v := .agg #[.string s, .int .i64 k]) (a' := a1.put (some 99) (.agg #[.string s, .int .i64 k])) #[true, true, false, false, false, false, false] rfl rfl (by kernel_rfl) (hQ _ _) (Or.inl ⟨by rfl, ?_⟩) hHeld rfl ?_
 ·
  rintro u ⟨s0, s1, s2⟩
  simp only [execOp, symtab_Check.ops, List.getElem_toArray, List.getElem_cons_succ, List.getElem_cons_zero, g14]
  go_simp
 obtain ⟨a2, ha2⟩ : ∃ a2, a1.put (some 99) (.agg #[.string s, .int .i64 k]) = a2 := ⟨_, rfl⟩
 rw [ha2]
 have z1 : a1.tmps.size = a.tmps.size := by rw [← ha1]; simp [Act.put]
 have z2 : a2.tmps.size = a.tmps.size := by rw [← ha2, ← z1]; simp [Act.put]
 have k98 : a2.eval (.tmp 98) = .map (some mb) := by rw [← ha2, Act.eval_put_ne _ _ _ _ (by decide)]; exact g98
 have k99 : a2.eval (.tmp 99) = .agg #[.string s, .int .i64 k] := by rw [← ha2]; exact Act.eval_put_same _ _ _ (by omega)
 refine take_ (i := 2) (N := some 100) (v := .int .i64 (cnt : Int)) (a' := a2.put (some 100) (.int .i64 (cnt : Int))) #[true, true, true, false, false, false, false] rfl rfl (by kernel_rfl) (hQ _ _) (Or.inl ⟨by rfl, ?_⟩) hHeld rfl ?_
 ·
  rintro u ⟨s0, s1, s2⟩
  have hl_ := hlk0 u s2
  simp only [execOp, symtab_Check.ops, List.getElem_toArray, List.getElem_cons_succ, List.getElem_cons_zero, k98, k99]
  go_simp
 obtain ⟨a3, ha3⟩ : ∃ a3, a2.put (some 100) (.int .i64 (cnt : Int)) = a3 := ⟨_, rfl⟩
 rw [ha3]
 have z3 : a3.tmps.size = a.tmps.size := by rw [← ha3, ← z2]; simp [Act.put]
 have m98 : a3.eval (.tmp 98) = .map (some mb) := by rw [← ha3, Act.eval_put_ne _ _ _ _ (by decide)]; exact k98
 have m99 : a3.eval (.tmp 99) = .agg #[.string s, .int .i64 k] := by rw [← ha3, Act.eval_put_ne _ _ _ _ (by decide)]; exact k99
 have m100 : a3.eval (.tmp 100) = .int .i64 (cnt : Int) := by rw [← ha3]; exact Act.eval_put_same _ _ _ (by omega)
 refine pure_ (i := 3) (N := some 101) (v := .int .i64 ((cnt : Int) + 1)) (a' := a3.put (some 101) (.int .i64 ((cnt : Int) + 1))) #[true, true, true, true, false, false, false] rfl rfl (by kernel_rfl) (hQ _ _) (Or.inl ⟨by rfl, ?_⟩) rfl ?_
 ·
  intro u
  simp only [execOp, symtab_Check.ops, List.getElem_toArray, List.getElem_cons_succ, List.getElem_cons_zero, m100]
  go_simp
  rw [IntKind.wrap_i64]
  omega
 obtain ⟨a4, ha4⟩ : ∃ a4, a3.put (some 101) (.int .i64 ((cnt : Int) + 1)) = a4 := ⟨_, rfl⟩
 rw [ha4]
 have z4 : a4.tmps.size = a.tmps.size := by rw [← ha4, ← z3]; simp [Act.put]
 have n98 : a4.eval (.tmp 98) = .map (some mb) := by rw [← ha4, Act.eval_put_ne _ _ _ _ (by decide)]; exact m98
 have n99 : a4.eval (.tmp 99) = .agg #[.string s, .int .i64 k] := by rw [← ha4, Act.eval_put_ne _ _ _ _ (by decide)]; exact m99
 have n101 : a4.eval (.tmp 101) = .int .i64 ((cnt : Int) + 1) := by rw [← ha4]; exact Act.eval_put_same _ _ _ (by omega)
 refine one_ (i := 4) (N := some 102) #[true, true, true, true, true, false, false] rfl rfl (by kernel_rfl) (by decide) (fun K hK => ?_)
 refine event_step (w1 := w1) (v := .tuple #[v0, goInt st]) (by rfl) ?_ ?_
 ·
  simp only [execOp, symtab_Check.ops, List.getElem_toArray, List.getElem_cons_succ, List.getElem_cons_zero, n98, n99]
  go_simp
 refine hK.out _ _ ⟨(hcell1 0).trans hq0, (hcell1 1).trans hq1, .inr rfl⟩ (fun hHeld => ?_)
 clear hK K
 show wpAnyLast _ _ _ _ _ _ _ _ (a4.put (some 102) (.tuple #[v0, goInt st])) _
 obtain ⟨a5, ha5⟩ : ∃ a5, a4.put (some 102) (.tuple #[v0, goInt st]) = a5 := ⟨_, rfl⟩
 rw [ha5]
 have z5 : a5.tmps.size = a.tmps.size := by rw [← ha5, ← z4]; simp [Act.put]
 have o98 : a5.eval (.tmp 98) = .map (some mb) := by rw [← ha5, Act.eval_put_ne _ _ _ _ (by decide)]; exact n98
 have o101 : a5.eval (.tmp 101) = .int .i64 ((cnt : Int) + 1) := by rw [← ha5, Act.eval_put_ne _ _ _ _ (by decide)]; exact n101
 have o102 : a5.eval (.tmp 102) = .tuple #[v0, goInt st] := by rw [← ha5]; exact Act.eval_put_same _ _ _ (by omega)
 refine pure_ (i := 5) (N := some 103) (v := goInt st) (a' := a5.put (some 103) (goInt st)) #[true, true, true, true, true, true, false] rfl rfl (by kernel_rfl) (hQ _ _) (Or.inl ⟨by rfl, ?_⟩) rfl ?_
 ·
  intro u
  simp only [execOp, symtab_Check.ops, List.getElem_toArray, List.getElem_cons_succ, List.getElem_cons_zero, o102]
  go_simp
  first | done | rfl
 obtain ⟨a6, ha6⟩ : ∃ a6, a5.put (some 103) (goInt st) = a6 := ⟨_, rfl⟩
 rw [ha6]
 have p98 : a6.eval (.tmp 98) = .map (some mb) := by rw [← ha6, Act.eval_put_ne _ _ _ _ (by decide)]; exact o98
 have p101 : a6.eval (.tmp 101) = .int .i64 ((cnt : Int) + 1) := by rw [← ha6, Act.eval_put_ne _ _ _ _ (by decide)]; exact o101
 have p103 : a6.eval (.tmp 103) = goInt st := by rw [← ha6]; exact Act.eval_put_same _ _ _ (by omega)
 refine last_ (i := 6) (N := none) #[true, true, true, true, true, true, true] rfl rfl (by kernel_rfl) (by decide) (fun K hK => ?_)
 refine Own.skip_step (w1 := w3) (by rfl) ?_ ?_
 ·
  simp only [execOp, symtab_Check.ops, List.getElem_toArray, List.getElem_cons_succ, List.getElem_cons_zero, p98, p101, p103]
  simp [hst3, Result.andThen]
 refine hK.out _ _ ?_
 clear hK K
 refine done_ (by kernel_rfl) ?_
 have := h v0 (goInt st) w1 w3 hM3 hgr hg3
 rw [ha2, ha3, ha4, ha5, ha6] at this
 exact this
theorem symtab_Check.plain (a0 : ByteArray) (w : World) :
  Calls Try.prog 43 #[.string a0] w fun e w' => e = .returned (.bool (Sym.plainOf a0)) ∧ w = w' := by
 go_enter Try.func43, Try.ntmps43
 go_wp2_with fail
 refine (strings_IndexByte.same a0 0 _).mono ?_
 rintro e w' ⟨rfl, rfl⟩
 go_wp2
 go_ret
 exact ⟨rfl, rfl⟩
set_option maxHeartbeats 16000000 in
set_option maxRecDepth 100000 in
theorem symtab_Check.calls (A0 : Option Addr) (c0 : Nat) (l0 : List S38) (A1 : Option Addr) (c1 : Nat) (l1 : List ByteArray) (r : Int) (w : World) (hr0 : Kd.C k38 w A0 l0.length l0) (hc0 : l0.length ≤ c0) (hr1 : Kd.C Kd.string w A1 l1.length l1) (hc1 : l1.length ≤ c1) (h : symtab_Check.f l0 l1 = some r) :
  Calls Try.prog 25 #[.slice A0 l0.length c0, .slice A1 l1.length c1] w fun e w' => e = .returned (.int .i64 r) ∧ Below w.heap.size w w' := by
 obtain rfl := Option.some.inj h
 clear h
 have hu58 := Try.underlying38
 have HR0 := Aside0.mk hr0
 have HR1 := Aside0.mk hr1
 clear hr0 hr1
 have HB := Aside0.mk (Below.refl w.heap.size w)
 by_cases hg : l0.length > 2000 ∨ l1.length > 64
 ·
  have hres : symCheck l0 l1 = 6 := by unfold symCheck; rw [if_pos hg]
  rw [hres]
  clear hres
  rcases hg with hg | hg
  ·
   have hgb : decide ((l0.length : Int) > 2000) = true := by simp; omega
   go_enter Try.func25, Try.ntmps25
   go_wp2
   go_ret
   exact ⟨rfl, HB.out⟩
  ·
   have hgb : decide ((l1.length : Int) > 64) = true := by simp; omega
   by_cases hg2 : (l0.length : Int) > 2000
   ·
    have hgb2 : decide ((l0.length : Int) > 2000) = true := decide_eq_true hg2
    go_enter Try.func25, Try.ntmps25
    go_wp2
    go_ret
    exact ⟨rfl, HB.out⟩
   ·
    have hgb2 : decide ((l0.length : Int) > 2000) = false := decide_eq_false hg2
    go_enter Try.func25, Try.ntmps25
    go_wp2
    go_ret
    exact ⟨rfl, HB.out⟩
 have hgb1 : decide ((l0.length : Int) > 2000) = false := by simp; omega
 have hgb2 : decide ((l1.length : Int) > 64) = false := by simp; omega
 have hres : symCheck l0 l1 = if someOf (longName l0) l0.length || someOf (longSec l1) l1.length then 6 else if someOf (secBad l1) l1.length then 80 else if someOf (symBad l0 l1) l0.length then 80 else 0 := by unfold symCheck; rw [if_neg hg]
 have HRES := Aside0.mk hres
 clear hres
 have hmm := @run_makeMap Try.prog
 go_enter Try.func25, Try.ntmps25
 go_wp2
 go_loopg [25] l0.length (fun kq i w' => ∃ n : Nat, n + kq = l0.length ∧ i = .int .i64 (n : Int) ∧ Aside0 (∀ j, j < n → longName l0 j = false) ∧ Aside0 (Below w.heap.size w w'))
 case atStart => exact ⟨0, by omega, rfl, ⟨fun j hj => absurd hj (by omega)⟩, HB⟩
 case round =>
  clear HB
  obtain ⟨n, hn, rfl, HN, HB⟩ := hrel
  cases gk with
  | succ gk =>
   have hltb : decide ((n : Int) < (l0.length : Int)) = true := by simp; omega
   obtain ⟨ad, rfl, hx0, hx1, hx2, hx3, hx4, hx5⟩ := at_T38 HR0.out (n : Int) (by omega) (by omega)
   rw [Int.toNat_natCast] at hx0 hx1 hx2 hx3 hx4 hx5
   replace hx0 := (HB.out.cell (World.block_lt_of_cell? w _ hx0)).trans hx0
   replace hx1 := (HB.out.cell (World.block_lt_of_cell? w _ hx1)).trans hx1
   replace hx2 := (HB.out.cell (World.block_lt_of_cell? w _ hx2)).trans hx2
   replace hx3 := (HB.out.cell (World.block_lt_of_cell? w _ hx3)).trans hx3
   replace hx4 := (HB.out.cell (World.block_lt_of_cell? w _ hx4)).trans hx4
   replace hx5 := (HB.out.cell (World.block_lt_of_cell? w _ hx5)).trans hx5
   by_cases hc : (rd_T38 l0 (n : Int)).f0.size > 255
   ·
    have hcb : decide (((rd_T38 l0 (n : Int)).f0.size : Int) > 255) = true := by simp; omega
    go_wp2
    go_ret
    refine ⟨?_, ?_⟩
    ·
     rw [HRES.out, someOf_true (p := longName l0) (i := n) (by omega) (decide_eq_true hc)]
     rfl
    ·
     exact below_alloc HB.out _
   ·
    have hcb : decide (((rd_T38 l0 (n : Int)).f0.size : Int) > 255) = false := by simp; omega
    go_wp2
    go_roundg gk
    case measure => omega
    case rel => exact ⟨n + 1, by omega, by go_num, ⟨none_succ HN.out (decide_eq_false hc)⟩, ⟨below_alloc HB.out _⟩⟩
  | zero =>
   have hltb : decide ((n : Int) < (l0.length : Int)) = false := by simp; omega
   obtain rfl : n = l0.length := by omega
   go_wp2
   clear hltb
   go_loopg [36] l1.length (fun kq i w' => ∃ m : Nat, m + kq = l1.length ∧ i = .int .i64 (m : Int) ∧ Aside0 (∀ j, j < m → longSec l1 j = false) ∧ Aside0 (Below w.heap.size w w'))
   case atStart => exact ⟨0, by omega, rfl, ⟨fun j hj => absurd hj (by omega)⟩, HB⟩
   case round =>
    clear HB
    obtain ⟨m, hm, rfl, HM, HB⟩ := hrel
    cases gk with
    | succ gk =>
     have hltb : decide ((m : Int) < (l1.length : Int)) = true := by simp; omega
     obtain ⟨ad, rfl, hx⟩ := Kd.at_string HR1.out (m : Int) (by omega) (by omega)
     rw [Int.toNat_natCast] at hx
     replace hx := (HB.out.cell (World.block_lt_of_cell? w _ hx)).trans hx
     by_cases hc : (rdOf ByteArray.empty l1 (m : Int)).size > 255
     ·
      have hcb : decide (((rdOf ByteArray.empty l1 (m : Int)).size : Int) > 255) = true := by simp; omega
      go_wp2
      go_ret
      refine ⟨?_, HB.out⟩
      rw [HRES.out, someOf_true (p := longSec l1) (i := m) (by omega) (decide_eq_true hc), Bool.or_true]
      rfl
     ·
      have hcb : decide (((rdOf ByteArray.empty l1 (m : Int)).size : Int) > 255) = false := by simp; omega
      go_wp2
      go_roundg gk
      case measure => omega
      case rel => exact ⟨m + 1, by omega, by go_num, ⟨none_succ HM.out (decide_eq_false hc)⟩, HB⟩
    | zero =>
     have hltb : decide ((m : Int) < (l1.length : Int)) = false := by simp; omega
     obtain rfl : m = l1.length := by omega
     have hres := HRES.out
     rw [someOf_false HN.out, someOf_false HM.out] at hres
     rw [if_neg (by decide)] at hres
     clear HRES
     have HRES := Aside0.mk hres
     clear hres
     go_wp2
     clear hltb
     go_loopg [46] l1.length (fun kq i w' => ∃ m : Nat, m + kq = l1.length ∧ i = .int .i64 (m : Int) ∧ Aside0 (∀ j, j < m → secBad l1 j = false) ∧ Aside0 (Below w.heap.size w w'))
     case atStart => exact ⟨0, by omega, rfl, ⟨fun j hj => absurd hj (by omega)⟩, HB⟩
     case round =>
      clear HB
      obtain ⟨m, hm, rfl, HS, HB⟩ := hrel
      cases gk with
      | succ gk =>
       have hltb : decide ((m : Int) < (l1.length : Int)) = true := by simp; omega
       obtain ⟨ad, rfl, hx⟩ := Kd.at_string HR1.out (m : Int) (by omega) (by omega)
       rw [Int.toNat_natCast] at hx
       replace hx := (HB.out.cell (World.block_lt_of_cell? w _ hx)).trans hx
       have hbad : secBad l1 m = ((rdOf ByteArray.empty l1 (m : Int)).toList == [] || (rdOf ByteArray.empty l1 (m : Int)).toList == [42] || !Sym.plainOf (rdOf ByteArray.empty l1 (m : Int)) || Sym.among (l1.take m) (rdOf ByteArray.empty l1 (m : Int))) := rfl
       have HBAD := Aside0.mk hbad
       clear hbad
       have hfin : secBad l1 m = true → symCheck l0 l1 = 80 := fun h => by rw [HRES.out, someOf_true (p := secBad l1) (by omega) h]; rfl
       have HFIN := Aside0.mk hfin
       clear hfin
       generalize rdOf ByteArray.empty l1 (m : Int) = s at hx HBAD
       by_cases c4 : s.toList = []
       ·
        have c4b0 : (s.toList == ([] : List UInt8)) = true := beq_iff_eq.mpr c4
        have c4b1 : (s.toList != ([] : List UInt8)) = false := bne_eq_false_iff_eq.mpr c4
        go_wp2
        go_ret
        refine ⟨?_, HB.out⟩
        rw [HFIN.out (by rw [HBAD.out, c4b0]; rfl)]
        rfl
       ·
        have c4b0 : (s.toList == ([] : List UInt8)) = false := beq_eq_false_iff_ne.mpr c4
        have c4b1 : (s.toList != ([] : List UInt8)) = true := bne_iff_ne.mpr c4
        by_cases c5 : s.toList = [42]
        ·
         have c5b0 : (s.toList == ([42] : List UInt8)) = true := beq_iff_eq.mpr c5
         have c5b1 : (s.toList != ([42] : List UInt8)) = false := bne_eq_false_iff_eq.mpr c5
         go_wp2
         go_ret
         refine ⟨?_, HB.out⟩
         rw [HFIN.out (by rw [HBAD.out, c5b0, Bool.or_true]; rfl)]
         rfl
        ·
         have c5b0 : (s.toList == ([42] : List UInt8)) = false := beq_eq_false_iff_ne.mpr c5
         have c5b1 : (s.toList != ([42] : List UInt8)) = true := bne_iff_ne.mpr c5
         have hbad : secBad l1 m = (!Sym.plainOf s || Sym.among (l1.take m) s) := by rw [HBAD.out, c4b0, c5b0]; rfl
         clear HBAD
         cases hp : Sym.plainOf s with
         | false =>
          rw [hp] at hbad
          have HBAD := Aside0.mk hbad
          clear hbad
          go_wp2_with fail
          refine (symtab_Check.plain s _).mono ?_
          rintro e w' ⟨rfl, rfl⟩
          rw [hp]
          go_wp2
          go_ret
          refine ⟨?_, HB.out⟩
          rw [HFIN.out HBAD.out]
          rfl
         | true =>
          rw [hp] at hbad
          have HBAD := Aside0.mk hbad
          clear hbad
          have hR1 := Kd.C_take (m := m) HR1.out (by omega)
          have hlt : (l1.take m).length = m := by rw [List.length_take]; omega
          go_wp2_with fail
          refine (symtab_Check.plain s _).mono ?_
          rintro e w' ⟨rfl, rfl⟩
          rw [hp]
          cases ha : Sym.among (l1.take m) s with
          | true =>
           rw [ha] at HBAD
           have hcall := slices_Contains_string_string.calls 1000 _ c1 (l1.take m) s true wr (Kd.C_below hR1 HB.out) (by rw [hlt]; omega) (by rw [Sym.contains_f _ _ (by omega) _ (by omega), ha])
           rw [hlt] at hcall
           go_wp2_with fail
           refine hcall.mono ?_
           rintro e w' ⟨rfl, ⟨nd, rfl⟩⟩
           go_wp2
           go_ret
           refine ⟨?_, pw_below_drewN HB.out _⟩
           rw [HFIN.out (by rw [HBAD.out]; rfl)]
           rfl
          | false =>
           rw [ha] at HBAD
           have hcall := slices_Contains_string_string.calls 1000 _ c1 (l1.take m) s false wr (Kd.C_below hR1 HB.out) (by rw [hlt]; omega) (by rw [Sym.contains_f _ _ (by omega) _ (by omega), ha])
           rw [hlt] at hcall
           go_wp2_with fail
           refine hcall.mono ?_
           rintro e w' ⟨rfl, ⟨nd, rfl⟩⟩
           go_wp2
           go_roundg gk
           case measure => omega
           case rel => exact ⟨m + 1, by omega, by go_num, ⟨none_succ HS.out HBAD.out⟩, ⟨pw_below_drewN HB.out _⟩⟩
      | zero =>
       have hltb : decide ((m : Int) < (l1.length : Int)) = false := by simp; omega
       obtain rfl : m = l1.length := by omega
       have hres := HRES.out
       rw [someOf_false HS.out, if_neg (by decide)] at hres
       clear HRES
       have HRES := Aside0.mk hres
       clear hres
       go_wp2
       clear hltb
       have hle : w.heap.size ≤ wr.heap.size := below_size HB.out
       have hB2 := below_alloc HB.out (.map #[] 0)
       have hM2 := Own.MapF.made Try.prog 100 3 wr
       generalize wr.alloc (.map #[] 0) = w5 at *
       generalize wr.heap.size = mb at *
       clear HB
       have HM := Aside0.mk hM2
       have HB := Aside0.mk hB2
       clear hM2 hB2
       go_loopg [73] l0.length (fun kq i w' => ∃ (n : Nat) (f : Lit → Option Int), n + kq = l0.length ∧ i = .int .i64 (n : Int) ∧ Aside0 (∀ j, j < n → symBad l0 l1 j = false) ∧ Aside0 (Own.MapF Try.prog 100 3 w' mb n f) ∧ Aside0 (∀ (s : ByteArray) (a : Int) (kl : Lit), keyOf Try.prog 100 (.agg #[.string s, .int .i64 a]) = some kl → (f kl).getD 0 = ((((l0.take n).map symKey).count (s.data.toList, a) : Nat) : Int)) ∧ Aside0 (Below w.heap.size w w'))
       case atStart => exact ⟨0, fun _ => none, by omega, rfl, ⟨fun j hj => absurd hj (by omega)⟩, HM, ⟨fun s a kl _ => by simp⟩, HB⟩
       case round =>
        clear HB HM
        obtain ⟨n, f, hn, rfl, HQ, HM, HF, HB⟩ := hrel
        cases gk with
        | zero =>
         have hltb : decide ((n : Int) < (l0.length : Int)) = false := by simp; omega
         obtain rfl : n = l0.length := by omega
         have hres := HRES.out
         rw [someOf_false HQ.out, if_neg (by decide)] at hres
         go_wp2
         go_ret
         refine ⟨?_, HB.out⟩
         rw [hres]
         rfl
        | succ gk =>
         have hn2 : n ≤ 2000 := by omega
         have hltb : decide ((n : Int) < (l0.length : Int)) = true := by simp; omega
         obtain ⟨ad, rfl, hx0, hx1, hx2, hx3, hx4, hx5⟩ := at_T38 HR0.out (n : Int) (by omega) (by omega)
         rw [Int.toNat_natCast] at hx0 hx1 hx2 hx3 hx4 hx5
         replace hx0 := (HB.out.cell (World.block_lt_of_cell? w _ hx0)).trans hx0
         replace hx1 := (HB.out.cell (World.block_lt_of_cell? w _ hx1)).trans hx1
         replace hx2 := (HB.out.cell (World.block_lt_of_cell? w _ hx2)).trans hx2
         replace hx3 := (HB.out.cell (World.block_lt_of_cell? w _ hx3)).trans hx3
         replace hx4 := (HB.out.cell (World.block_lt_of_cell? w _ hx4)).trans hx4
         replace hx5 := (HB.out.cell (World.block_lt_of_cell? w _ hx5)).trans hx5
         have hbad : symBad l0 l1 n = (!Sym.rightOf (rd_T38 l0 (n : Int)) l1 || ((rd_T38 l0 (n : Int)).f0.toList != [] && decide (0 < ((l0.take n).map symKey).count (symKey (rd_T38 l0 (n : Int)))))) := rfl
         have HBAD := Aside0.mk hbad
         clear hbad
         have hfin : symBad l0 l1 n = true → symCheck l0 l1 = 80 := fun h => by rw [HRES.out, someOf_true (p := symBad l0 l1) (by omega) h]; rfl
         have HFIN := Aside0.mk hfin
         clear hfin
         have hlong : (rd_T38 l0 (n : Int)).f0.size ≤ 255 := by
          have := HN.out n (by omega)
          simp only [longName, decide_eq_false_iff_not] at this
          omega
         have htake : (l0.take (n + 1)).map symKey = (l0.take n).map symKey ++ [symKey (rd_T38 l0 (n : Int))] := by
          rw [List.take_succ_eq_append_getElem (by omega), List.map_append]
          have : rd_T38 l0 (n : Int) = l0[n]'(by omega) := by simp [rd_T38, List.getD, show n < l0.length by omega]
          rw [this]
          rfl
         have HTAKE := Aside0.mk htake
         clear htake
         generalize rd_T38 l0 (n : Int) = x at *
         have hRS : Kd.C Kd.string wr A1 l1.length l1 := Kd.C_below HR1.out HB.out
         have hkey2 : symKey x = (x.f0.data.toList, if 1 < x.f4 then 1 else x.f4) := rfl
         obtain ⟨a, hmin⟩ : ∃ a : Int, (if 1 < x.f4 then (1 : Int) else x.f4) = a := ⟨_, rfl⟩
         rw [hmin] at hkey2
         have ha : a ≤ 1 ∧ (0 ≤ x.f4 → 0 ≤ a) := by rw [← hmin]; split <;> omega
         have HA := Aside0.mk ha
         have HKEY := Aside0.mk hkey2
         clear hkey2 ha
         cases hri : Sym.rightOf x l1 with
         | false =>
          rw [hri] at HBAD
          have hsf := Sym.right_f x l1 (by omega) 1000 (by omega)
          rw [hri] at hsf
          have HSF := Aside0.mk hsf
          clear hsf hri
          go_wp2_with fail
          refine (symtab_right.calls 1000 x.f0 x.f1 x.f2 x.f3 x.f4 x.f5 A1 c1 l1 false _ (Kd.C_alloc (Kd.C_alloc hRS _) _) hc1 HSF.out).mono ?_
          rintro e w' ⟨rfl, hb⟩
          go_wp2
          go_ret
          refine ⟨?_, below_step (below_alloc (below_alloc HB.out _) _) hb⟩
          rw [HFIN.out (by rw [HBAD.out]; rfl)]
          rfl
         | true =>
          rw [hri] at HBAD
          have hsf := Sym.right_f x l1 (by omega) 1000 (by omega)
          rw [hri] at hsf
          have HSF := Aside0.mk hsf
          clear hsf
          go_wp2_with fail
          refine (symtab_right.calls 1000 x.f0 x.f1 x.f2 x.f3 x.f4 x.f5 A1 c1 l1 true _ (Kd.C_alloc (Kd.C_alloc hRS _) _) hc1 HSF.out).mono ?_
          rintro e w' ⟨rfl, hb⟩
          have hsize : ((wr.alloc (.cells #[.string x.f0, .string x.f1, .int .i64 x.f2, .int .i64 x.f3, .int .i64 x.f4, .int .i64 x.f5] 38)).alloc (.cells #[.string x.f0, .int .i64 a] 100)).heap.size = wr.heap.size + 2 := by simp
          have e0 := (hb.cell (p := ⟨wr.heap.size, 0, none⟩) (by rw [hsize]; show wr.heap.size < _; omega)).trans (symtab_Check.cells1 wr _ _ _ _ 0 (.string x.f0) rfl)
          have q0 := (hb.cell (p := ⟨wr.heap.size + 1, 0, none⟩) (by rw [hsize]; show wr.heap.size + 1 < _; omega)).trans (symtab_Check.cells2 wr _ _ _ _ 0 (.string x.f0) rfl)
          have q1 := (hb.cell (p := ⟨wr.heap.size + 1, 1, none⟩) (by rw [hsize]; show wr.heap.size + 1 < _; omega)).trans (symtab_Check.cells2 wr _ _ _ _ 1 (.int .i64 a) rfl)
          have hmlt := HM.out.lt
          have hmb1 : wr.heap.size + 1 ≠ mb := fun e => absurd (e ▸ hmlt : wr.heap.size + 1 < wr.heap.size) (Nat.not_lt.2 (Nat.le_succ _))
          have hM3 := ((HM.out.kept (World.grownBy_alloc wr _ none) (fun h => by cases h)).kept (World.grownBy_alloc _ _ none) (fun h => by cases h)).kept (grown_of_below hb none) (fun h => by cases h)
          have hB3 := below_step (below_alloc (below_alloc HB.out _) _) hb
          clear HM HB hb hsize
          have HM := Aside0.mk hM3
          have HB := Aside0.mk hB3
          clear hM3 hB3
          have hf4 : 0 ≤ x.f4 := by
           unfold Sym.rightOf at hri
           simp only [Bool.and_eq_true, decide_eq_true_eq] at hri
           omega
          obtain ⟨kl, hkl⟩ := symtab_Check.key x.f0 a hlong (HA.out.2 hf4) HA.out.1
          have hcnt := HF.out x.f0 a kl hkl
          have hlook := HM.out.look (Go.Maps.Keyed.of_law symtab_Check.keys) Try.underlying98 Try.underlying3 (symtab_Check.zero w') hkl
          rw [hcnt] at hlook
          have hkeyed : ((l0.take n).map symKey).count (symKey x) = ((l0.take n).map symKey).count (x.f0.data.toList, a) := by rw [HKEY.out]
          rw [hkeyed] at HBAD
          clear hkeyed
          have HCNT := Aside0.mk hcnt
          clear hcnt
          have hcl : ((l0.take n).map symKey).count (x.f0.data.toList, a) ≤ n := Nat.le_trans List.count_le_length (by rw [List.length_map, List.length_take]; omega)
          have hcons : ∀ (s : ByteArray) (a' : Int) (kl' : Lit), keyOf Try.prog 100 (.agg #[.string s, .int .i64 a']) = some kl' → (Own.putF f kl (((((l0.take n).map symKey).count (x.f0.data.toList, a) : Nat) : Int) + 1) kl').getD 0 = ((((l0.take (n + 1)).map symKey).count (s.data.toList, a') : Nat) : Int) := fun s a' kl' hk' => by
           rw [HTAKE.out, HKEY.out, List.count_append, List.count_singleton]
           by_cases e1 : kl' = kl
           ·
            subst e1
            have e2 := symtab_Check.keys.inj hk' hkl
            injection e2 with e2
            have e3 := congrArg (fun v => v[0]?) e2
            have e4 := congrArg (fun v => v[1]?) e2
            simp only [List.getElem?_toArray, List.getElem?_cons_zero, List.getElem?_cons_succ, Option.some.injEq, Value.string.injEq, Value.int.injEq, true_and] at e3 e4
            subst e3
            subst e4
            simp [Own.putF]
           ·
            have e2 : ((x.f0.data.toList, a) == (s.data.toList, a')) = false := by
             rw [beq_eq_false_iff_ne]
             intro e3
             injection e3 with e3 e4
             apply e1
             have e5 : x.f0 = s := ByteArray.ext (Array.toList_inj.mp e3)
             rw [← e5, ← e4, hkl] at hk'
             exact (Option.some.inj hk').symm
            rw [e2, if_neg (by decide), Nat.add_zero, ← HF.out s a' kl' hk']
            simp [Own.putF, e1]
          have HCONS := Aside0.mk hcons
          clear hcons
          generalize ((l0.take n).map symKey).count (x.f0.data.toList, a) = cnt at *
          have hw1 : wrap64 ((cnt : Int) + 1) = (cnt : Int) + 1 := by unfold wrap64; omega
          by_cases c4 : x.f0.toList = []
          ·
           have c4b0 : (x.f0.toList == ([] : List UInt8)) = true := beq_iff_eq.mpr c4
           have c4b1 : (x.f0.toList != ([] : List UInt8)) = false := bne_eq_false_iff_eq.mpr c4
           go_wp2_with fail
           refine symtab_Check.inc _ _ mb (wr.heap.size + 1) n cnt f x.f0 a kl (by simp) rfl rfl q0 q1 HM.out hkl HCNT.out (Nat.lt_of_le_of_lt hn2 (by decide)) (Nat.le_trans hcl (Nat.le_trans hn2 (by decide))) hmb1 (fun d _ _ _ _ h => by cases d <;> exact h) ?_
           intro v0 v1 w1 w3 hM3 hgr hg3
           have hB1 := (below_drew1 HB.out).grown hgr (below_size (below_drew1 HB.out)) (fun k hk => by cases hk; exact hle)
           have hB4 : Below w.heap.size w w3 := hB1.grown hg3 (below_size hB1) (fun k hk => by cases hk; exact hle)
           simp only [Act.put, List.setIfInBounds_toArray, List.set_cons_zero, List.set_cons_succ]
           go_wp2
           go_roundg gk
           case measure => omega
           case rel => exact ⟨n + 1, _, by omega, by go_num, ⟨none_succ HQ.out (by rw [HBAD.out]; simp [c4b1])⟩, ⟨hM3⟩, HCONS, ⟨hB4⟩⟩
          ·
           have c4b0 : (x.f0.toList == ([] : List UInt8)) = false := beq_eq_false_iff_ne.mpr c4
           have c4b1 : (x.f0.toList != ([] : List UInt8)) = true := bne_iff_ne.mpr c4
           by_cases c6 : 0 < cnt
           ·
            have c6b : decide ((cnt : Int) > 0) = true := decide_eq_true (Int.ofNat_lt.mpr c6)
            go_wp2
            go_ret
            refine ⟨?_, HB.out⟩
            rw [HFIN.out (by rw [HBAD.out, c4b1, decide_eq_true c6]; rfl)]
            rfl
           ·
            have c6b : decide ((cnt : Int) > 0) = false := decide_eq_false (fun h => c6 (Int.ofNat_lt.mp h))
            go_wp2_with fail
            refine symtab_Check.inc _ _ mb (wr.heap.size + 1) n cnt f x.f0 a kl (by simp) rfl rfl q0 q1 HM.out hkl HCNT.out (Nat.lt_of_le_of_lt hn2 (by decide)) (Nat.le_trans hcl (Nat.le_trans hn2 (by decide))) hmb1 (fun d _ _ _ _ h => by cases d <;> exact h) ?_
            intro v0 v1 w1 w3 hM3 hgr hg3
            have hB1 := (below_drew1 HB.out).grown hgr (below_size (below_drew1 HB.out)) (fun k hk => by cases hk; exact hle)
            have hB4 : Below w.heap.size w w3 := hB1.grown hg3 (below_size hB1) (fun k hk => by cases hk; exact hle)
            simp only [Act.put, List.setIfInBounds_toArray, List.set_cons_zero, List.set_cons_succ]
            go_wp2
            go_roundg gk
            case measure => omega
            case rel => exact ⟨n + 1, _, by omega, by go_num, ⟨none_succ HQ.out (by rw [HBAD.out]; simp [c4b1, c6])⟩, ⟨hM3⟩, HCONS, ⟨hB4⟩⟩
end Go.Proofs.Ytibkcnlcmempgaa.G
end
section
namespace Go.Proofs.Ytibkcnlcmempgaa.Res
set_option linter.unusedVariables false
set_option linter.unusedSimpArgs false
open Go.RowKit Go.Proofs.Ytibkcnlcmempgaa.G Go.Proofs.YtibkcnlcmempgaaW.PrintWords Go.Proofs.YtibkcnlcmempgaaW.PrintLast Go.Proofs.YtibkcnlcmempgaaW.PrintMore Go.Proofs.Ytibkcnlcmempgaa.Raw
theorem ite_and (c : Prop) [Decidable c] (b : Bool) : (if c then some b else some false) = some (decide c && b) := by by_cases h : c <;> simp [h]
theorem ite_not (c : Prop) [Decidable c] (b : Bool) : (if c then some false else some b) = some (!decide c && b) := by by_cases h : c <;> simp [h]
theorem ite_ite (c d : Prop) [Decidable c] [Decidable d] (a b : Bool) : (if c then some a else if d then some b else some false) = some (if c then a else (decide d && b)) := by by_cases h : c <;> by_cases k : d <;> simp [h, k]
def tailS (x : S72) : Bool := decide (x.f2 ≥ 0) && (decide (bits BinOp.andNot .i64 x.f2 1031 = 0) && (decide (x.f3 ≥ 1) && (decide (x.f3 ≤ 4096) && (bits BinOp.and .i64 x.f3 (wrap64 (x.f3 - 1)) == 0))))
def bodyS (x : S72) (b : Bool) : Bool := if b = true then decide (x.f5 = (x.f4.length : Int)) && tailS x else decide (x.f1 = 8) && (!decide ((x.f4.length : Int) > 0) && (!decide (x.f5 < 0) && (!decide (x.f5 > 1073741824) && tailS x)))
/-- may a section be? -/
def sectionF (x : S72) : Bool := if x.f1 = 1 then bodyS x (x.f1 == 1) else if x.f1 = 14 then bodyS x (x.f1 == 14) else bodyS x (x.f1 == 15)
theorem body_some (x : S72) (b : Bool) : resolve_section.j0 1 x.f1 b x.f0 x.f1 x.f2 x.f3 x.f4 x.f5 x.f6 = some (bodyS x b) := by
  simp only [resolve_section.j0]
  have ht : (if x.f2 ≥ 0 then (if (bits BinOp.andNot .i64 x.f2 1031) = 0 then (if x.f3 ≥ 1 then (if x.f3 ≤ 4096 then (some ((bits BinOp.and .i64 x.f3 (wrap64 (x.f3 - 1))) == 0)) else (some false)) else (some false)) else (some false)) else (some false)) = some (tailS x) := by
    rw [ite_and (x.f3 ≤ 4096), ite_and (x.f3 ≥ 1), ite_and (bits BinOp.andNot .i64 x.f2 1031 = 0), ite_and (x.f2 ≥ 0)]
    rfl
  rw [ht, ite_and (x.f5 = _), ite_not (x.f5 > _), ite_not (x.f5 < 0), ite_not ((x.f4.length : Int) > 0), ite_ite]
  rfl
theorem section_some (x : S72) : resolve_section.f 1 x.f0 x.f1 x.f2 x.f3 x.f4 x.f5 x.f6 = some (sectionF x) := by
  unfold resolve_section.f sectionF
  rw [body_some, body_some, body_some]
  split
  · rfl
  · split <;> rfl
theorem section_size (x : S72) (h : sectionF x = true) : x.f5 = x.f4.length ∨ (0 ≤ x.f5 ∧ x.f5 ≤ 1073741824) := by
  have hb : ∃ b, bodyS x b = true := by
    unfold sectionF at h
    split at h
    · exact ⟨_, h⟩
    · split at h <;> exact ⟨_, h⟩
  obtain ⟨b, hb⟩ := hb
  unfold bodyS at hb
  split at hb
  · simp only [Bool.and_eq_true, decide_eq_true_eq] at hb
    exact .inl hb.1
  · simp only [Bool.and_eq_true, Bool.not_eq_true', decide_eq_false_iff_not] at hb
    exact .inr (by omega)
def namesOf (f : S36) : List ByteArray := f.f0.map (·.f0)
def checkFile (f : S36) : Int :=
  if symCheck f.f1 (namesOf f) ≠ 0 then symCheck f.f1 (namesOf f)
  else if f.f0.any (fun s => !sectionF s) then 80 else if f.f1.any (fun s => !symF f.f0 s) then 80 else 0
/-- the first error of the files from k on -/
def checkFrom : List S36 → Int
  | [] => 0
  | f :: l => if checkFile f ≠ 0 then checkFile f else checkFrom l
def checkR (l : List S36) : Int := if l.length > 16 then 6 else checkFrom l
theorem symCheck_ok {l : List S38} {secs : List ByteArray} (h : symCheck l secs = 0) : l.length ≤ 2000 ∧ secs.length ≤ 64 ∧ (∀ i, i < l.length → longName l i = false) ∧ (∀ i, i < secs.length → longSec secs i = false) ∧ (∀ i, i < secs.length → secBad secs i = false) ∧ ∀ i, i < l.length → symBad l secs i = false := by
  unfold symCheck at h
  have so : ∀ (p : Nat → Bool) (n : Nat), someOf p n = false → ∀ i, i < n → p i = false := fun p n hp i hi => by
    by_cases c : p i = true
    · rw [someOf_true hi c] at hp
      cases hp
    · simpa using c
  repeat' split at h
  all_goals first | cases h | skip
  rename_i h1 h2 h3 h4
  have h2' : someOf (longName l) l.length = false ∧ someOf (longSec secs) secs.length = false := by simpa using h2
  exact ⟨by omega, by omega, so _ _ h2'.1, so _ _ h2'.2, so _ _ (by simpa using h3), so _ _ (by simpa using h4)⟩
set_option maxRecDepth 100000 in
theorem sec_pred (l : List S72) (w : World) : PredSec 27 #[] (fun x => !sectionF x) l w := by
  intro W x cs hx hB hK
  obtain ⟨A4, c4, A6, c6, rfl, l4, g4, l6, g6⟩ := k72_open hK
  have HB := Aside0.mk (below_alloc (Below.refl W.heap.size W) (.cells #[.string x.f0, .int .i64 x.f1, .int .i64 x.f2, .int .i64 x.f3, .slice A4 x.f4.length c4, .int .i64 x.f5, .slice A6 x.f6.length c6] 72))
  have HC := Aside0.mk (resolve_section.calls 1 x.f0 x.f1 x.f2 x.f3 A4 c4 x.f4 x.f5 A6 c6 x.f6 (sectionF x) _ (Kd.C_below g4 HB.out) l4 (Kd.C_below g6 HB.out) l6 (section_some x))
  clear hK g4 g6 l4 l6
  show Calls _ _ #[_] _ _
  go_enter Try.func27, Try.ntmps27
  go_wp2_with fail
  refine HC.out.mono ?_
  rintro e w' ⟨rfl, hb⟩
  go_wp2
  go_ret
  exact ⟨rfl, below_step HB.out hb⟩
set_option maxRecDepth 100000 in
theorem sym_pred (A0 : Option Addr) (c0 : Nat) (secs : List S72) (A1 : Option Addr) (n1 c1 gf : Nat) (l : List S38) (w : World) (hr : Kd.C k72 w A0 secs.length secs) (hc : secs.length ≤ c0) (hb : w.heap[gf]? = some (.cells #[.slice A0 secs.length c0, .slice A1 n1 c1] 36 (0, 0)))
    (hin : ∀ s ∈ l, (s.f1.toList = [] ∨ s.f1.toList = [42] ∨ secs.any (fun x => x.f0.toList == s.f1.toList) = true) ∧ (0 ≤ s.f2 ∧ s.f2 ≤ 4611686018427387904)) (hx5 : ∀ x ∈ secs, 0 ≤ x.f5 ∧ x.f5 ≤ 9223372036854775807) :
    PredSym 30 #[.pointer (some ⟨gf, 0, none⟩)] (fun s => !symF secs s) l w := by
  intro W s cs hs hB hK
  obtain rfl := k38_open hK
  have hb1 := blk_below hb hB
  have q0 : W.cell? ⟨gf, 0, none⟩ = some (.slice A0 secs.length c0) := (blk_cell hb1 0).trans rfl
  have q1 : W.cell? ⟨gf, 1, none⟩ = some (.slice A1 n1 c1) := (blk_cell hb1 1).trans rfl
  have hgf : gf < W.heap.size := blk_lt hb1
  have HB := Aside0.mk (below_alloc (Below.refl W.heap.size W) (.cells #[.string s.f0, .string s.f1, .int .i64 s.f2, .int .i64 s.f3, .int .i64 s.f4, .int .i64 s.f5] 38))
  have HC := Aside0.mk (symbol_calls A0 c0 secs A1 n1 c1 s _ (Kd.C_below (Kd.C_below hr hB) HB.out) hc (hin s hs).1 (hin s hs).2 hx5)
  clear hK hb hb1 hr hin hx5
  show Calls _ _ #[_, _] _ _
  go_enter Try.func30, Try.ntmps30
  go_wp2_with fail
  refine HC.out.mono ?_
  rintro e w' ⟨rfl, hb⟩
  go_wp2
  go_ret
  exact ⟨rfl, below_step HB.out hb⟩
theorem any_names (f : S36) (n : ByteArray) : Sym.among (namesOf f) n = f.f0.any (fun x => x.f0.toList == n.toList) := by
  unfold Sym.among namesOf
  rw [List.any_map]
  congr 1
  funext x
  simp [ByteArray.toList_eq]
theorem sym_in {f : S36} (h : symCheck f.f1 (namesOf f) = 0) : ∀ s ∈ f.f1, (s.f1.toList = [] ∨ s.f1.toList = [42] ∨ f.f0.any (fun x => x.f0.toList == s.f1.toList) = true) ∧ (0 ≤ s.f2 ∧ s.f2 ≤ 4611686018427387904) := by
  intro s hs
  obtain ⟨i, hi, rfl⟩ := List.getElem_of_mem hs
  have hb := (symCheck_ok h).2.2.2.2.2 i hi
  have he : rd_T38 f.f1 (i : Int) = f.f1[i] := by simp [rd_T38, List.getD, hi]
  unfold symBad at hb
  rw [he] at hb
  have hr : Sym.rightOf f.f1[i] (namesOf f) = true := by
    cases h : Sym.rightOf f.f1[i] (namesOf f)
    · rw [h] at hb
      simp at hb
    · rfl
  unfold Sym.rightOf at hr
  simp only [Bool.and_eq_true, Bool.or_eq_true, beq_iff_eq, decide_eq_true_eq] at hr
  rw [any_names] at hr
  obtain ⟨⟨⟨⟨⟨_, h1⟩, h2⟩, _⟩, _⟩, _⟩ := hr
  refine ⟨?_, by omega⟩
  rcases h1 with (h1 | h1) | h1
  · exact .inl h1
  · exact .inr (.inl h1)
  · exact .inr (.inr h1)
theorem fits_of {l : List S36} (h : checkR l = 0) : Fits l ∧ ∀ f ∈ l, checkFile f = 0 := by
  unfold checkR at h
  split at h
  · cases h
  · have all : ∀ l : List S36, checkFrom l = 0 → ∀ f ∈ l, checkFile f = 0 := by
      intro l
      induction l with
      | nil => exact fun _ f hf => by cases hf
      | cons g l ih =>
        intro h f hf
        unfold checkFrom at h
        split at h
        · contradiction
        · rename_i hg
          rcases List.mem_cons.1 hf with rfl | hf
          · simpa using hg
          · exact ih h f hf
    have ha := all l h
    refine ⟨⟨by omega, fun i hi => ?_⟩, ha⟩
    have hm : rd_T36 l (i : Int) ∈ l := by
      unfold rd_T36
      rw [Int.toNat_natCast, List.getD_eq_getElem?_getD, List.getElem?_eq_getElem hi]
      exact List.getElem_mem _
    have hc := ha _ hm
    generalize rd_T36 l (i : Int) = f at hc
    have hs : symCheck f.f1 (namesOf f) = 0 := by
      unfold checkFile at hc
      split at hc
      · contradiction
      · rename_i h
        simpa using h
    obtain ⟨h1, h2, h3, h4, _, _⟩ := symCheck_ok hs
    have hln : (namesOf f).length = f.f0.length := by simp [namesOf]
    refine ⟨h1, by omega, fun k hk => ?_, fun k hk => ?_⟩
    · have := h3 k hk
      simp only [longName, decide_eq_false_iff_not] at this
      omega
    · have := h4 k (by omega)
      simp only [longSec, decide_eq_false_iff_not] at this
      have he : rdOf ByteArray.empty (namesOf f) (k : Int) = (rd_T72 f.f0 (k : Int)).f0 := by
        simp [rdOf, rd_T72, namesOf, List.getD, hk]
      rw [he] at this
      omega
end Go.Proofs.Ytibkcnlcmempgaa.Res
end
section
namespace Go.Proofs.Ytibkcnlcmempgaa.Res
set_option linter.unusedVariables false
set_option linter.unusedSimpArgs false
open Go.RowKit Go.Proofs.Ytibkcnlcmempgaa.G Go.Proofs.YtibkcnlcmempgaaW.PrintWords Go.Proofs.YtibkcnlcmempgaaW.PrintLast Go.Proofs.YtibkcnlcmempgaaW.PrintMore Go.Proofs.Ytibkcnlcmempgaa.Raw
theorem check_drop (l : List S36) (n : Nat) (h : n < l.length) : checkFrom (l.drop n) = if checkFile (rd_T36 l (n : Int)) ≠ 0 then checkFile (rd_T36 l (n : Int)) else checkFrom (l.drop (n + 1)) := by
  have he : rd_T36 l (n : Int) = l[n] := by simp [rd_T36, List.getD, h]
  rw [List.drop_eq_getElem_cons h, he]
  rfl
set_option maxHeartbeats 8000000 in
set_option maxRecDepth 100000 in
theorem check_calls (A : Option Addr) (c : Nat) (l : List S36) (w : World) (hr : Kd.C k36 w A l.length l) (hc : l.length ≤ c) (hsz : ∀ f ∈ l, f.f0.length * 96 ≤ 140737488351232) :
    Calls Try.prog 9 #[.slice A l.length c] w fun e w' => e = .returned (.int .i64 (checkR l)) ∧ Below w.heap.size w w' := by
  have HR := Aside0.mk hr
  have hmax := Kd.C_max hr
  have HS := Aside0.mk hsz
  clear hr hsz
  by_cases hl : 16 < l.length
  · have E := Aside0.mk (show checkR l = 6 from if_pos hl)
    clear HR
    go_enter Try.func9, Try.ntmps9
    go_wp2
    go_ret
    exact ⟨by rw [E.out]; rfl, Below.refl _ _⟩
  have E := Aside0.mk (show checkR l = checkFrom l from if_neg hl)
  have hl16 : l.length ≤ 16 := by omega
  clear hl
  go_enter Try.func9, Try.ntmps9
  go_wp2
  go_loopg [14] l.length (fun kq v14 wr => ∃ n : Nat, n + kq = l.length ∧ v14 = .int .i64 (n : Int) ∧ Aside0 (Below w.heap.size w wr) ∧ Aside0 (checkR l = checkFrom (l.drop n)))
  case atStart => exact ⟨0, by omega, rfl, ⟨Below.refl _ _⟩, E⟩
  case round =>
    clear E
    obtain ⟨n, hn, rfl, HB, HE⟩ := hrel
    cases gk with
    | zero =>
      have hltb : decide ((n : Int) < (l.length : Int)) = false := by simp; omega
      have hne : n = l.length := by omega
      subst hne
      go_wp2
      go_ret
      exact ⟨by rw [HE.out, List.drop_length]; rfl, HB.out⟩
    | succ gko =>
      have hltb : decide ((n : Int) < (l.length : Int)) = true := by simp; omega
      obtain ⟨wo, rfl⟩ : ∃ wo : World, wo = wr := ⟨_, rfl⟩
      obtain ⟨ad, A0, c0, A1, c1, rfl, hx0, hx1, hl0, hk0, hl1, hk1⟩ := at_T36 HR.out (n : Int) (by omega) (by omega)
      rw [Int.toNat_natCast] at hx0 hx1
      replace hx0 := (HB.out.cell (World.block_lt_of_cell? w _ hx0)).trans hx0
      replace hx1 := (HB.out.cell (World.block_lt_of_cell? w _ hx1)).trans hx1
      have hdr := check_drop l n (by omega)
      have hfz : (rd_T36 l (n : Int)).f0.length * 96 ≤ 140737488351232 := HS.out _ (by unfold rd_T36; rw [Int.toNat_natCast, List.getD_eq_getElem?_getD, List.getElem?_eq_getElem (by omega)]; exact List.getElem_mem _)
      obtain ⟨f, hfe⟩ : ∃ f, f = rd_T36 l (n : Int) := ⟨_, rfl⟩
      rw [← hfe] at hx0 hx1 hl0 hk0 hl1 hk1 hdr hfz
      have HD := Aside0.mk (HE.out.trans hdr)
      have HK0 := Aside0.mk hk0
      have HK1 := Aside0.mk hk1
      have hm0 := Kd.C_max hk0
      have hm1 := Kd.C_max hk1
      have hln : (namesOf f).length = f.f0.length := by simp [namesOf]
      have HLN := Aside0.mk hln
      clear hfe hk0 hk1 hdr HE hln
      go_wp2
      have hB1 := blk_new wo (.cells #[.slice A0 f.f0.length c0, .slice A1 f.f1.length c1] 36)
      have hb1 := below_step HB.out (below_alloc (Below.refl wo.heap.size wo) (.cells #[.slice A0 f.f0.length c0, .slice A1 f.f1.length c1] 36))
      generalize wo.alloc (.cells #[.slice A0 f.f0.length c0, .slice A1 f.f1.length c1] 36) = w1 at hB1 hb1 ⊢
      have HB1 := Aside0.mk hB1
      have HBE := Aside0.mk hb1
      generalize wo.heap.size = gf at hB1 HB1 ⊢
      clear hB1 hb1 HB hx0 hx1
      have hltn : decide (n < l.length) = true := by simp; omega
      rw [hltn]
      clear hltn
      go_loopg [5, 21] f.f0.length (fun kq v5 v21 wr => ∃ k : Nat, k + kq = f.f0.length ∧ v21 = .int .i64 (k : Int) ∧ Aside0 (Kd.R Kd.string 9 wr w.heap.size (fun _ => True) v5 ((namesOf f).take k)) ∧ Aside0 (Below w.heap.size w wr) ∧ Aside0 (wr.heap[gf]? = some (.cells #[.slice A0 f.f0.length c0, .slice A1 f.f1.length c1] 36 (0, 0))))
      case atStart => exact ⟨0, by omega, rfl, ⟨Kd.R_nil _ _ _ _ _⟩, HBE, HB1⟩
      case round =>
        clear HBE HB1
        obtain ⟨k, hk, rfl, HRN, HB, HG⟩ := hrel
        cases gk with
        | succ gk =>
          have hkb : decide ((k : Int) < (f.f0.length : Int)) = true := by simp; omega
          obtain ⟨ad2, A4, c4, A6, c6, rfl, y0, y1, y2, y3, y4, y5, y6, _, _, _, _⟩ := at_T72 HK0.out (k : Int) (by omega) (by omega)
          rw [Int.toNat_natCast] at y0 y1 y2 y3 y4 y5 y6
          replace y0 := (HB.out.cell (World.block_lt_of_cell? w _ y0)).trans y0
          replace y1 := (HB.out.cell (World.block_lt_of_cell? w _ y1)).trans y1
          replace y2 := (HB.out.cell (World.block_lt_of_cell? w _ y2)).trans y2
          replace y3 := (HB.out.cell (World.block_lt_of_cell? w _ y3)).trans y3
          replace y4 := (HB.out.cell (World.block_lt_of_cell? w _ y4)).trans y4
          replace y5 := (HB.out.cell (World.block_lt_of_cell? w _ y5)).trans y5
          replace y6 := (HB.out.cell (World.block_lt_of_cell? w _ y6)).trans y6
          have htk : (namesOf f).take (k + 1) = (namesOf f).take k ++ [(rd_T72 f.f0 (k : Int)).f0] := by
            rw [List.take_succ_eq_append_getElem (by rw [HLN.out]; omega)]
            simp [namesOf, rd_T72, List.getD, show k < f.f0.length by omega]
          have htl : ((namesOf f).take k).length = k := by rw [List.length_take, HLN.out]; omega
          obtain ⟨s, hse⟩ : ∃ s, s = rd_T72 f.f0 (k : Int) := ⟨_, rfl⟩
          rw [← hse] at y0 y1 y2 y3 y4 y5 y6 htk
          have HTK := Aside0.mk (And.intro htk htl)
          obtain ⟨An, cn, rfl⟩ := Kd.R_slice HRN.out
          rw [htl] at HRN ⊢
          clear hse htk htl
          have hkm : (k + 1) * 16 ≤ 140737488355328 := by omega
          have hob := below_alloc (Below.refl wr.heap.size wr) (.cells #[.string s.f0, .int .i64 s.f1, .int .i64 s.f2, .int .i64 s.f3, .slice A4 s.f4.length c4, .int .i64 s.f5, .slice A6 s.f6.length c6] 72)
          have HB2 := Aside0.mk (below_step HB.out hob)
          have HG2 := Aside0.mk (blk_below HG.out hob)
          have HRN2 := Aside0.mk (Kd.R_below HRN.out hob)
          have HSZ := Aside0.mk (show (wr.alloc (.cells #[.string s.f0, .int .i64 s.f1, .int .i64 s.f2, .int .i64 s.f3, .slice A4 s.f4.length c4, .int .i64 s.f5, .slice A6 s.f6.length c6] 72)).heap.size = wr.heap.size + 1 by simp)
          clear hob
          go_wp2_with ((with_reducible refine gate_dst (N := 29) rfl ?_); refine Kd.R_append Kd.string (w0 := w) w.heap.size rfl (.tmp 25) (.tmp 28) 63 9 (.string ⟨#[]⟩) 16 rfl Try.underlying63 info9 rfl (by decide) (by decide) _ _ s.f0 [.string s.f0] _ (fun _ => False) rfl (by rw [HSZ.out]; rfl) rfl (fun _ hk => hk.elim) (fun k hk => trivial) HRN2.out HB2.out HB2.out.size (by rw [HTK.out.2]; exact hkm) ?_; intro v1 w2 hR2 hB2 hg2 hat2)
          have hg3 := blk_grown HG2.out hg2 (Kd.R_ne HRN2.out HG2.out (by decide))
          go_roundg gk
          case measure => omega
          case rel => exact ⟨k + 1, by omega, by go_num, ⟨by rw [HTK.out.1]; exact hR2⟩, ⟨hB2⟩, ⟨hg3⟩⟩
        | zero =>
          have hkb : decide ((k : Int) < (f.f0.length : Int)) = false := by simp; omega
          have hke : k = f.f0.length := by omega
          subst hke
          have htk : (namesOf f).take f.f0.length = namesOf f := List.take_of_length_le (by rw [HLN.out]; exact Nat.le_refl _)
          rw [htk] at HRN
          obtain ⟨An, cn, rfl⟩ := Kd.R_slice HRN.out
          obtain ⟨_, hcn, hCn⟩ := Kd.R_reads' HRN.out
          have HCN := Aside0.mk hCn
          have d0 : wr.cell? ⟨gf, 0, none⟩ = some (.slice A0 f.f0.length c0) := (blk_cell HG.out 0).trans rfl
          have d1 : wr.cell? ⟨gf, 1, none⟩ = some (.slice A1 f.f1.length c1) := (blk_cell HG.out 1).trans rfl
          clear hCn htk HRN
          obtain ⟨nl, hnl⟩ : ∃ nl, nl = namesOf f := ⟨_, rfl⟩
          rw [← hnl] at hcn HCN ⊢
          obtain ⟨r, hre⟩ : ∃ r, r = symCheck f.f1 nl := ⟨_, rfl⟩
          have HS1 := Aside0.mk (hre.trans (by rw [hnl]) : r = symCheck f.f1 (namesOf f))
          have HCC := Aside0.mk (symtab_Check.calls A1 c1 f.f1 An cn nl r wr (Kd.C_below HK1.out HB.out) hl1 HCN.out hcn (by rw [hre]; rfl))
          have hnm : nl.length ≤ 9223372036854775807 := Kd.C_max HCN.out
          clear hnl hre HCN hcn
          go_wp2_with fail
          refine HCC.out.mono ?_
          rintro e w2 ⟨rfl, hb2⟩
          clear HCC d0 d1
          have HB2 := Aside0.mk (below_step HB.out hb2)
          have hg2 := blk_below HG.out hb2
          have HG2 := Aside0.mk hg2
          have d0 : w2.cell? ⟨gf, 0, none⟩ = some (.slice A0 f.f0.length c0) := (blk_cell hg2 0).trans rfl
          have d1 : w2.cell? ⟨gf, 1, none⟩ = some (.slice A1 f.f1.length c1) := (blk_cell hg2 1).trans rfl
          clear hb2 hg2 HB HG
          by_cases h0 : r = 0
          · have h0b : (r != 0) = false := bne_eq_false_iff_eq.mpr h0
            have HOK := Aside0.mk (HS1.out.symm.trans h0)
            clear h0 HS1
            go_wp2_with fail
            refine (containsSec_calls A0 c0 f.f0 w2 (Kd.C_below HK0.out HB2.out) 27 #[] _ (sec_pred f.f0 w2) (enters_of Try.func27 (by kernel_rfl) rfl)).mono ?_
            rintro e w3 ⟨rfl, hb3⟩
            have HB3 := Aside0.mk (below_step HB2.out hb3)
            have hg3 := blk_below HG2.out hb3
            have HG3 := Aside0.mk hg3
            clear d0 d1
            have d0 : w3.cell? ⟨gf, 0, none⟩ = some (.slice A0 f.f0.length c0) := (blk_cell hg3 0).trans rfl
            have d1 : w3.cell? ⟨gf, 1, none⟩ = some (.slice A1 f.f1.length c1) := (blk_cell hg3 1).trans rfl
            clear hb3 hg3 HB2 HG2
            cases hbs : (f.f0.any fun s => !sectionF s) with
            | true =>
              have HE := Aside0.mk (show checkFile f = 80 from by unfold checkFile; rw [if_neg (by rw [HOK.out]; simp), if_pos hbs])
              clear hbs
              go_wp2
              go_ret
              exact ⟨by rw [HD.out, HE.out]; rfl, HB3.out⟩
            | false =>
              have hx5 : ∀ x ∈ f.f0, 0 ≤ x.f5 ∧ x.f5 ≤ 9223372036854775807 := by
                intro x hx
                have h1 := List.any_eq_false.1 hbs x hx
                have h2 : sectionF x = true := by simpa using h1
                obtain ⟨i, hi, rfl⟩ := List.getElem_of_mem hx
                obtain ⟨ad, cs, e, _, hK, hcell⟩ := Kd.C_get HK0.out z72 (i : Int) (by omega) (by omega)
                rw [Int.toNat_natCast, List.getD_eq_getElem?_getD, List.getElem?_eq_getElem hi] at hK
                obtain ⟨A4, c4, A6, c6, _, _, g4, _, _⟩ := k72_open hK
                have hm := Kd.C_max g4
                rcases section_size _ h2 with h | h
                · rw [h]
                  exact ⟨by omega, by simp only [Option.getD_some] at hm; omega⟩
                · exact ⟨h.1, by omega⟩
              have HBS := Aside0.mk hbs
              clear hbs
              go_wp2_with fail
              refine (containsSym_calls A1 c1 f.f1 w3 (Kd.C_below HK1.out HB3.out) 30 #[.pointer (some ⟨gf, 0, none⟩)] _ (sym_pred A0 c0 f.f0 A1 f.f1.length c1 gf f.f1 w3 (Kd.C_below HK0.out HB3.out) hl0 HG3.out (sym_in HOK.out) hx5) (enters_of Try.func30 (by kernel_rfl) rfl)).mono ?_
              rintro e w4 ⟨rfl, hb4⟩
              have HB4 := Aside0.mk (below_step HB3.out hb4)
              clear hb4 d0 d1 hx5
              cases hbt : (f.f1.any fun s => !symF f.f0 s) with
              | true =>
                have HE := Aside0.mk (show checkFile f = 80 from by unfold checkFile; rw [if_neg (by rw [HOK.out]; simp), if_neg (by rw [HBS.out]; simp), if_pos hbt])
                clear hbt
                go_wp2
                go_ret
                exact ⟨by rw [HD.out, HE.out]; rfl, HB4.out⟩
              | false =>
                have HE := Aside0.mk (show checkFile f = 0 from by unfold checkFile; rw [if_neg (by rw [HOK.out]; simp), if_neg (by rw [HBS.out]; simp), if_neg (by rw [hbt]; simp)])
                clear hbt
                go_wp2
                go_roundg gko
                case measure => omega
                case rel => exact ⟨n + 1, by omega, by go_num, HB4, ⟨by rw [HD.out, HE.out]; rfl⟩⟩
          · have h0b : (r != 0) = true := bne_iff_ne.mpr h0
            have HE := Aside0.mk (show checkFile f = r from by unfold checkFile; rw [← HS1.out, if_pos h0])
            have HN0 := Aside0.mk h0
            clear h0
            go_wp2
            go_ret
            exact ⟨by rw [HD.out, HE.out, if_pos HN0.out]; rfl, HB2.out⟩
end Go.Proofs.Ytibkcnlcmempgaa.Res
end
section
namespace Go.Proofs.Ytibkcnlcmempgaa.Res
set_option linter.unusedVariables false
set_option linter.unusedSimpArgs false
open Go.RowKit Go.Proofs.Ytibkcnlcmempgaa.G Go.Proofs.YtibkcnlcmempgaaW.PrintWords Go.Proofs.YtibkcnlcmempgaaW.PrintLast Go.Proofs.YtibkcnlcmempgaaW.PrintMore Go.Proofs.Ytibkcnlcmempgaa.Raw
theorem info42' : (Try.prog.info? 42).map (fun i => (i.zero, i.size, i.bytes)) = some (some (.agg #[.string ⟨#[]⟩, .int .i64 0, .int .i64 0, .int .i64 0, .int .i64 0]), 5, 48) := by kernel_rfl
theorem keys_of {α : Type} (z : α) (k : Key) (hk : k.length ≤ 255) (tb : List (Key × α)) (h : KeysLe tb) : KeysLe (ofT z k tb) := by
  unfold ofT KeysLe
  intro x hx
  split at hx
  · exact h x hx
  · simp only [List.map_append, List.map_cons, List.map_nil, List.mem_append, List.mem_singleton] at hx
    rcases hx with hx | rfl
    · exact h x hx
    · exact hk
theorem keys_up {α : Type} (k : Key) (f : α → α) (tb : List (Key × α)) (h : KeysLe tb) : KeysLe (upT k f tb) := by
  unfold KeysLe
  rw [upT_keys]
  exact h
theorem keys_names (l : List S36) (h : Fits l) (n : Nat) (hn : n ≤ l.length) : KeysLe (namesAt l n) := by
  induction n with
  | zero => intro k hk; cases hk
  | succ n ih =>
    rw [namesAt_succ]
    have hs := (h.2 n (by omega)).2.2.1
    have : ∀ k, k ≤ (rd_T36 l (n : Int)).f1.length → KeysLe (symsAt n (rd_T36 l (n : Int)).f1 k (namesAt l n)) := by
      intro k
      induction k with
      | zero => intro _; exact ih (by omega)
      | succ k ihk =>
        intro hk
        rw [symsAt_succ]
        unfold stepSym
        split
        · exact ihk (by omega)
        · exact keys_up _ _ _ (keys_of _ _ (by rw [Array.length_toList]; exact hs k (by omega)) _ (ihk (by omega)))
    exact this _ (Nat.le_refl _)
theorem keys_kinds (l : List S36) (h : Fits l) (n : Nat) (hn : n ≤ l.length) : KeysLe (kindsAt l n) := by
  induction n with
  | zero => intro k hk; cases hk
  | succ n ih =>
    rw [kindsAt_succ]
    have hs := (h.2 n (by omega)).2.2.2
    have : ∀ k, k ≤ (rd_T36 l (n : Int)).f0.length → KeysLe (secsAt (rd_T36 l (n : Int)).f0 k (kindsAt l n)) := by
      intro k
      induction k with
      | zero => intro _; exact ih (by omega)
      | succ k ihk =>
        intro hk
        rw [secsAt_succ]
        exact keys_up _ _ _ (keys_of _ _ (by rw [Array.length_toList]; exact hs k (by omega)) _ (ihk (by omega)))
    exact this _ (Nat.le_refl _)
theorem names_32 (l : List S36) (h : Fits l) : Small 32000 (namesAt l l.length) := (small_names l h _ (Nat.le_refl _)).mono (by have := h.1; omega)
theorem kinds_32 (l : List S36) (h : Fits l) : SmallK 1024 (kindsAt l l.length) := by
  have h1 := small_kinds l h _ (Nat.le_refl _)
  exact ⟨by have := h1.1; have := h.1; omega, h1.2⟩
/-- all that is wrong with objects -/
def faultsOf (l : List S36) : List (List Value) := if checkR l ≠ 0 then [] else faultsF (namesAt l l.length) (kindsAt l l.length)
def entryF (n : ByteArray) (m : Mean) : S42 := if 0 < m.strong then m.first else if 0 < m.weak then m.second else ⟨n, -1, -1, 2, 0⟩
def entriesF (tm : List (Key × Mean)) : List S42 := (rise tm).map fun n => entryF n (lk zM tm n)
def allR (l : List S36) : List Value × List S42 :=
  if checkR l ≠ 0 then ([.int .i64 (checkR l), .string ⟨#[]⟩], []) else
  match faultsOf l with
  | f :: _ => (f, [])
  | [] => ([.int .i64 0, .string ⟨#[]⟩], entriesF (namesAt l l.length))
theorem fault_form {l : List S36} {f : List Value} (h : f ∈ faultsOf l) : ∃ (e : Int) (n : ByteArray), f = fault e n := by
  unfold faultsOf at h
  split at h
  · cases h
  · unfold faultsF wrongs at h
    simp only [List.mem_append, List.mem_map] at h
    rcases h with ((⟨n, _, rfl⟩ | ⟨n, _, rfl⟩) | ⟨n, _, rfl⟩) | ⟨n, _, rfl⟩ <;> exact ⟨_, _, rfl⟩
theorem fault_size : (Try.prog.info? 26).map (·.size) = some 2 := by kernel_rfl
set_option maxHeartbeats 8000000 in
set_option maxRecDepth 100000 in
theorem all_calls (A : Option Addr) (c : Nat) (l : List S36) (w : World) (hr : Kd.C k36 w A l.length l) (hc : l.length ≤ c) (hsz : ∀ f ∈ l, f.f0.length * 96 ≤ 140737488351232) :
    Calls Try.prog 7 #[.slice A l.length c] w fun e w' => ∃ v, e = .returned (.tuple #[v, .agg (allR l).1.toArray]) ∧ Kd.R k42 42 w' w.heap.size (fun _ => True) v (allR l).2 ∧ Below w.heap.size w w' := by
  have HR := Aside0.mk hr
  have HS := Aside0.mk hsz
  clear hr hsz
  go_enter Try.func7, Try.ntmps7
  go_wp2_with fail
  have hb0 := blk_new w (.cells #[.int .i64 0, .string ⟨#[]⟩] 26)
  have hB0 := below_alloc (Below.refl w.heap.size w) (.cells #[.int .i64 0, .string ⟨#[]⟩] 26)
  obtain ⟨w0, hw0⟩ : ∃ w0, w0 = w.alloc (.cells #[.int .i64 0, .string ⟨#[]⟩] 26) := ⟨_, rfl⟩
  rw [← hw0] at hb0 hB0 ⊢
  have hz0 : w0.heap.size = w.heap.size + 1 := by rw [hw0]; simp
  refine (check_calls A c l w0 (Kd.C_below HR.out hB0) hc HS.out).mono ?_
  rintro e w1 ⟨rfl, hB1⟩
  have hB1' : Below w0.heap.size w0 w1 := hB1
  have HG1 := Aside0.mk (blk_below hb0 hB1')
  have HB1 := Aside0.mk (below_then hB0 hB0.size hB1')
  have hs1 : w.heap.size + 1 ≤ w1.heap.size := by have := hB1'.size; omega
  clear hw0 hb0 hB0 hB1 hB1' hz0
  by_cases h0 : checkR l = 0
  · have hF := (fits_of h0).1
    have hfo : faultsOf l = faultsF (namesAt l l.length) (kindsAt l l.length) := by unfold faultsOf; rw [if_neg (by simp [h0])]
    have hal : allR l = (match faultsOf l with | f :: _ => (f, []) | [] => ([.int .i64 0, .string ⟨#[]⟩], entriesF (namesAt l l.length))) := by unfold allR; rw [if_neg (by simp [h0])]
    have HFO := Aside0.mk hfo
    have HAL := Aside0.mk hal
    have HF := Aside0.mk hF
    rw [h0]
    clear hF hfo h0 hal
    go_wp2_with fail
    refine (gather_calls A c l w1 (Kd.C_below HR.out HB1.out) hc HF.out).mono ?_
    rintro e w2 ⟨g1, g2, rfl, hG⟩
    have HG := Aside0.mk hG
    have HG2 := Aside0.mk (blk_below HG1.out hG.lt.2)
    have HB2 := Aside0.mk (below_then HB1.out HB1.out.size hG.lt.2)
    have hs2 := hG.lt.2.size
    clear hG
    go_wp2_with fail
    refine (faults_calls _ _ g1 g2 _ w2 _ _ HG.out (names_32 l HF.out) (kinds_32 l HF.out) (keys_names l HF.out _ (Nat.le_refl _)) (keys_kinds l HF.out _ (Nat.le_refl _))).mono ?_
    rintro e w3 ⟨v, rfl, hR, hB3⟩
    have HG3 := Aside0.mk (blk_below HG2.out hB3)
    have HI := Aside0.mk (HG.out.below hB3)
    have HB3 := Aside0.mk (below_then HB2.out HB2.out.size hB3)
    have hs3 := hB3.size
    have hff : ∀ f ∈ faultsOf l, ∃ (e : Int) (n : ByteArray), f = fault e n := fun f hf => fault_form hf
    rw [← HFO.out] at hR
    clear hB3 HG HG2 HG1 HB2 HFO
    cases hf : faultsOf l with
    | cons f fs =>
      rw [hf] at hR HAL hff
      obtain ⟨ef, nf, rfl⟩ := hff f (List.mem_cons_self ..)
      obtain ⟨gf, cf, rfl, hgf, hgs⟩ := Kd.R_form hR (by simp)
      obtain ⟨_, hcs, hfz⟩ := raw_cell hR 0 (by simp)
      have y0 : w3.cell? ⟨gf, 0, none⟩ = some (.int .i64 ef) := by have := hcs 0 _ rfl; simpa using this
      have y1 : w3.cell? ⟨gf, 1, none⟩ = some (.string nf) := by have := hcs 1 _ rfl; simpa using this
      have HY := Aside0.mk (And.intro y0 y1)
      clear hR hcs hfz hff hf
      have hlf : ((fault ef nf :: fs).length) = fs.length + 1 := rfl
      rw [hlf]
      have hlt : decide (0 < ((fs.length + 1 : Nat) : Int)) = true := by simp
      go_wp2_with fail
      have hs3w : w.heap.size < w3.heap.size := by omega
      refine start_ (n := 5) (S := fun u => u.cell? ⟨gf, 0, none⟩ = some (.int .i64 ef) ∧ u.cell? ⟨gf, 1, none⟩ = some (.string nf) ∧ u.frozen? ⟨w.heap.size, 0, none⟩ = false ∧ u.frozen? ⟨w.heap.size, 1, none⟩ = false ∧ u.cell? ⟨w.heap.size, 0, none⟩ = some (.int .i64 0) ∧ u.cell? ⟨w.heap.size, 1, none⟩ = some (.string ⟨#[]⟩)) (ds := [4]) #[false, false, false, false, false] (by kernel_rfl) rfl rfl ?_ (fun hHeld => ?_)
      case refine_1 => exact ⟨y0, y1, blk_frozen HG3.out 0, blk_frozen HG3.out 1, (blk_cell HG3.out 0).trans rfl, (blk_cell HG3.out 1).trans rfl⟩
      refine pure_ (i := 0) (N := some 29) (v := ?_) (a' := ?_) #[true, false, false, false, false] rfl rfl (by kernel_rfl) (fun _ _ _ h => h) (Or.inl ⟨by rfl, ?_⟩) ?_ ?_
      rotate_left
      · intro u
        go_simp
        with_reducible rfl
      rotate_left
      · simp only [Act.put, List.setIfInBounds_toArray, List.set_cons_zero, List.set_cons_succ, i64_w, i32_w]
        rfl
      refine pure_ (i := 1) (N := some 30) (v := ?_) (a' := ?_) #[true, true, false, false, false] rfl rfl (by kernel_rfl) (fun _ _ _ h => h) (Or.inl ⟨by rfl, ?_⟩) ?_ ?_
      rotate_left
      · intro u
        go_simp
        with_reducible rfl
      rotate_left
      · simp only [Act.put, List.setIfInBounds_toArray, List.set_cons_zero, List.set_cons_succ, i64_w, i32_w]
        rfl
      refine take_ (i := 2) (N := some 31) (v := ?_) (a' := ?_) #[true, true, true, false, false] rfl rfl (by kernel_rfl) (fun _ _ _ h => h) (Or.inl ⟨by rfl, ?_⟩) hHeld ?_ ?_
      rotate_left
      · rintro u ⟨q0, q1, q2, q3, q4, q5⟩
        go_simp
        with_reducible rfl
      rotate_left
      · simp only [Act.put, List.setIfInBounds_toArray, List.set_cons_zero, List.set_cons_succ, i64_w, i32_w]
        rfl
      refine pure_ (i := 3) (N := some 2) (v := ?_) (a' := ?_) #[true, true, true, true, false] rfl rfl (by kernel_rfl) (fun _ _ _ h => h) (Or.inl ⟨by rfl, ?_⟩) ?_ ?_
      rotate_left
      · intro u
        go_simp
        with_reducible rfl
      rotate_left
      · simp only [Act.put, List.setIfInBounds_toArray, List.set_cons_zero, List.set_cons_succ, i64_w, i32_w]
        rfl
      refine last_ (i := 4) (N := none) #[true, true, true, true, true] rfl rfl (by kernel_rfl) (by decide) (fun K hK => ?_)
      obtain ⟨q0, q1, q2, q3, q4, q5⟩ := hHeld
      have q6 : w3.cell? ⟨w.heap.size, 1, none⟩ = some (.string ⟨#[]⟩) := (blk_cell HG3.out 1).trans rfl
      have q7 : w3.frozen? ⟨w.heap.size, 1, none⟩ = false := blk_frozen HG3.out 1
      rw [if_pos (by rfl)]
      go_simp
      refine hK.out _ _ ?_
      clear hK K
      refine done_ (by kernel_rfl) ?_
      go_wp2
      have hb2 := blk_put (blk_put (blk_drew HG3.out) 0 (.int .i64 ef) rfl) 1 (.string nf) rfl
      refine bodyPost_ret (v := .tuple #[.slice none 0 0, .agg #[.int .i64 ef, .string nf]]) (results_tc (p := 3) (u := 2) (ty := 26) rfl _ _ w.heap.size _ _ (0, 0) _ rfl hb2 Try.underlying26 rfl fault_size) rfl ⟨_, by rw [HAL.out]; rfl, by rw [HAL.out]; exact Kd.R_nil _ _ _ _ _, ?_⟩
      exact below_set (below_set (below_drew HB3.out) (Nat.le_refl _)) (Nat.le_refl _)
    | nil =>
      rw [hf] at hR HAL
      clear hff hf
      obtain ⟨Af, cf, rfl⟩ := Kd.R_slice hR
      clear hR
      go_wp2_with fail
      obtain ⟨F1, F2, o1, o2, hT1, hT2, _, _, _⟩ := HI.out
      have hsm := names_32 l HF.out
      have hkl := keys_names l HF.out _ (Nat.le_refl _)
      obtain ⟨tm, htm⟩ : ∃ tm, tm = namesAt l l.length := ⟨_, rfl⟩
      rw [← htm] at hT1 hsm hkl HAL
      refine (risingM_calls w3 _ g1 F1 _ o1 hT1 (by have := hsm.1; rw [encT, List.length_map]; omega)).mono ?_
      rintro e w4 ⟨v, rfl, hN, hB4⟩
      rw [rise_enc] at hN
      have hw3 := hB4.size
      have HT1 := Aside0.mk (hT1.below hB4)
      have HSM := Aside0.mk (And.intro hsm hkl)
      have HG4 := Aside0.mk (blk_below HG3.out hB4)
      have HB4 := Aside0.mk (below_then HB3.out HB3.out.size hB4)
      obtain ⟨A2, c2, rfl⟩ := Kd.R_slice hN
      have HN := Aside0.mk (Kd.R_reads' hN).2.2
      have hll : (rise tm).length ≤ 32000 := by rw [rise_len]; exact hsm.1
      have HLE := Aside0.mk hll
      have hel : (entriesF tm).length = (rise tm).length := List.length_map _
      have HEL := Aside0.mk hel
      clear hT1 hT2 hsm hkl htm hN hB4 HI HG3 HB3 hel
      go_wp2
      go_loopg [8, 35] (rise tm).length (fun kq v8 v35 wr => ∃ k : Nat, k + kq = (rise tm).length ∧ v35 = .int .i64 (k : Int) ∧ Aside0 (Kd.R k42 42 wr w4.heap.size (fun _ => True) v8 ((entriesF tm).take k)) ∧ Aside0 (Below w4.heap.size w4 wr))
      case atStart => exact ⟨0, by omega, rfl, ⟨Kd.R_nil _ _ _ _ _⟩, ⟨Below.refl _ _⟩⟩
      case round =>
        obtain ⟨k, hk, rfl, HV, HB⟩ := hrel
        cases gk with
        | zero =>
          have hltb : decide ((k : Int) < ((rise tm).length : Int)) = false := by simp; omega
          have hke : k = (rise tm).length := by omega
          have htk : (entriesF tm).take k = entriesF tm := List.take_of_length_le (by rw [HEL.out]; omega)
          rw [htk] at HV
          have HGW := Aside0.mk (blk_below HG4.out HB.out)
          have hsw := HB.out.size
          have hs4 := HB4.out.size
          have d0 : wr.frozen? ⟨w.heap.size, 0, none⟩ = false := blk_frozen HGW.out 0
          have d1 : wr.frozen? ⟨w.heap.size, 1, none⟩ = false := blk_frozen HGW.out 1
          have d2 : wr.cell? ⟨w.heap.size, 0, none⟩ = some (.int .i64 0) := (blk_cell HGW.out 0).trans rfl
          have d3 : wr.cell? ⟨w.heap.size, 1, none⟩ = some (.string ⟨#[]⟩) := (blk_cell HGW.out 1).trans rfl
          have HBW := Aside0.mk (below_then HB4.out hs4 HB.out)
          clear hke htk
          go_wp2
          have hb2 := blk_put (blk_put HGW.out 0 (.int .i64 0) rfl) 1 (.string ⟨#[]⟩) rfl
          refine bodyPost_ret (results_tc (p := 3) (u := 2) (ty := 26) rfl _ _ w.heap.size _ _ (0, 0) _ rfl hb2 Try.underlying26 rfl fault_size) rfl ⟨u8, by rw [HAL.out]; rfl, ?_, ?_⟩
          · rw [HAL.out]
            show Kd.R k42 42 _ w.heap.size (fun _ => True) u8 (entriesF tm)
            have hq := Kd.R_mono (Kd.R_bound HV.out) (ok' := fun j => w4.heap.size ≤ j) (fun _ hk => hk.2.1)
            refine Kd.R_mono (Kd.R_lower (Kd.R_step hq (fun j hj _ => ?_)) hs4) (fun _ _ => trivial)
            have hj' : j ≠ w.heap.size := by omega
            exact (RowKit.Below.heap_setCell _ _ _ _ hj').trans (RowKit.Below.heap_setCell _ _ _ _ hj')
          · exact below_set (below_set HBW.out (Nat.le_refl _)) (Nat.le_refl _)
        | succ gk =>
          have hltb : decide ((k : Int) < ((rise tm).length : Int)) = true := by simp; omega
          obtain ⟨ad, rfl, y0⟩ := Kd.at_string (Kd.C_below HN.out HB.out) (k : Int) (by omega) (by omega)
          rw [Int.toNat_natCast] at y0
          have hel : (rise tm)[k]? = some (rdOf ByteArray.empty (rise tm) (k : Int)) := by
            unfold rdOf
            rw [Int.toNat_natCast, List.getD_eq_getElem?_getD, List.getElem?_eq_getElem (by omega)]
            rfl
          generalize rdOf ByteArray.empty (rise tm) (k : Int) = n at y0 hel
          have hmem := List.mem_of_getElem? hel
          obtain ⟨i, hi⟩ := lk_at zM (rise_mem hmem)
          have htk : (entriesF tm).take (k + 1) = (entriesF tm).take k ++ [entryF n (lk zM tm n)] := by
            unfold entriesF
            rw [← List.map_take, ← List.map_take, List.take_add_one, hel, List.map_append]
            rfl
          generalize lk zM tm n = m at hi htk
          have htl : ((entriesF tm).take k).length = k := by rw [List.length_take, HEL.out]; omega
          have HTK := Aside0.mk (And.intro htk htl)
          obtain ⟨gt, hgt, hcc, hcall⟩ := there_M (HT1.out.below HB.out) n (key_size HSM.out.2 hmem) hi (by have := HSM.out.1.1; omega)
          have HCALL := Aside0.mk (hcall wr rfl)
          have c0 : wr.cell? ⟨gt, i * 15, none⟩ = some (.int .i64 m.strong) := hcc 0 _ rfl
          have c1 : wr.cell? ⟨gt, i * 15 + 1, none⟩ = some (.int .i64 m.weak) := hcc 1 _ rfl
          have c3 : wr.cell? ⟨gt, i * 15 + 3, none⟩ = some (.string m.first.f0) := hcc 3 _ rfl
          have c4 : wr.cell? ⟨gt, i * 15 + 4, none⟩ = some (.int .i64 m.first.f1) := hcc 4 _ rfl
          have c5 : wr.cell? ⟨gt, i * 15 + 5, none⟩ = some (.int .i64 m.first.f2) := hcc 5 _ rfl
          have c6 : wr.cell? ⟨gt, i * 15 + 6, none⟩ = some (.int .i64 m.first.f3) := hcc 6 _ rfl
          have c7 : wr.cell? ⟨gt, i * 15 + 7, none⟩ = some (.int .i64 m.first.f4) := hcc 7 _ rfl
          have c8 : wr.cell? ⟨gt, i * 15 + 8, none⟩ = some (.string m.second.f0) := hcc 8 _ rfl
          have c9 : wr.cell? ⟨gt, i * 15 + 9, none⟩ = some (.int .i64 m.second.f1) := hcc 9 _ rfl
          have c10 : wr.cell? ⟨gt, i * 15 + 10, none⟩ = some (.int .i64 m.second.f2) := hcc 10 _ rfl
          have c11 : wr.cell? ⟨gt, i * 15 + 11, none⟩ = some (.int .i64 m.second.f3) := hcc 11 _ rfl
          have c12 : wr.cell? ⟨gt, i * 15 + 12, none⟩ = some (.int .i64 m.second.f4) := hcc 12 _ rfl
          obtain ⟨Av, cv, rfl⟩ := Kd.R_slice HV.out
          rw [htl] at HV ⊢
          clear hi htk htl hcc hcall hmem hel
          go_wp2_with fail
          refine HCALL.out.mono ?_
          rintro e w' ⟨rfl, rfl⟩
          by_cases hsp : 0 < m.strong
          · have hd1 : decide (0 < m.strong) = true := by simp [hsp]
            have HEN : Aside0 (entryF n m = m.first) := ⟨if_pos hsp⟩
            have HL1 : Aside0 ((List.take k (entriesF tm) ++ [m.first]).length = k + 1) := ⟨by rw [List.length_append, HTK.out.2]; rfl⟩
            clear hsp HCALL c8 c9 c10 c11 c12 c1
            go_wp2_with ((with_reducible refine gate_dst (N := 59) rfl ?_); refine stopHere ?stop)
            case stop =>
              unfold Stop
              refine Kd.R_append k42 (w0 := w4) w4.heap.size rfl (.tmp 53) (.tmp 58) 23 42 (.agg #[.string ⟨#[]⟩, .int .i64 0, .int .i64 0, .int .i64 0, .int .i64 0]) 48 rfl Try.underlying23 info42' rfl (by decide) (by decide) _ _ (m.first) [.string m.first.f0, .int .i64 m.first.f1, .int .i64 m.first.f2, .int .i64 m.first.f3, .int .i64 m.first.f4] (fun _ => True) (fun _ => False) rfl rfl (k42_mkM _ _ _ (m.first)) (fun _ hk => hk.elim) (fun k hk => trivial) HV.out HB.out HB.out.size (by have := HTK.out.2; have := HLE.out; omega) ?_
              intro v1 w5 hR5 hB5 hg5 hat5
              obtain ⟨A5, k5, rfl⟩ := Kd.R_slice hR5
              rw [HL1.out] at hR5 ⊢
              have HR5 := Aside0.mk hR5
              have HB5 := Aside0.mk hB5
              clear hR5 hB5 hg5 hat5
              go_wp2
              go_roundg gk
              case measure => omega
              case rel => exact ⟨k + 1, by omega, by go_num, ⟨by rw [HTK.out.1, HEN.out]; exact HR5.out⟩, HB5⟩
          · have hd1 : decide (0 < m.strong) = false := by simp only [hsp, decide_false]
            by_cases hwp : 0 < m.weak
            · have hd2 : decide (0 < m.weak) = true := by simp [hwp]
              have HEN : Aside0 (entryF n m = m.second) := ⟨(if_neg hsp).trans (if_pos hwp)⟩
              have HL1 : Aside0 ((List.take k (entriesF tm) ++ [m.second]).length = k + 1) := ⟨by rw [List.length_append, HTK.out.2]; rfl⟩
              clear hsp hwp HCALL c3 c4 c5 c6 c7
              go_wp2_with ((with_reducible refine gate_dst (N := 72) rfl ?_); refine stopHere ?stop)
              case stop =>
                unfold Stop
                refine Kd.R_append k42 (w0 := w4) w4.heap.size rfl (.tmp 66) (.tmp 71) 23 42 (.agg #[.string ⟨#[]⟩, .int .i64 0, .int .i64 0, .int .i64 0, .int .i64 0]) 48 rfl Try.underlying23 info42' rfl (by decide) (by decide) _ _ (m.second) [.string m.second.f0, .int .i64 m.second.f1, .int .i64 m.second.f2, .int .i64 m.second.f3, .int .i64 m.second.f4] (fun _ => True) (fun _ => False) rfl rfl (k42_mkM _ _ _ (m.second)) (fun _ hk => hk.elim) (fun k hk => trivial) HV.out HB.out HB.out.size (by have := HTK.out.2; have := HLE.out; omega) ?_
                intro v1 w5 hR5 hB5 hg5 hat5
                obtain ⟨A5, k5, rfl⟩ := Kd.R_slice hR5
                rw [HL1.out] at hR5 ⊢
                have HR5 := Aside0.mk hR5
                have HB5 := Aside0.mk hB5
                clear hR5 hB5 hg5 hat5
                go_wp2
                go_roundg gk
                case measure => omega
                case rel => exact ⟨k + 1, by omega, by go_num, ⟨by rw [HTK.out.1, HEN.out]; exact HR5.out⟩, HB5⟩
            · have hd2 : decide (0 < m.weak) = false := by simp only [hwp, decide_false]
              have HEN : Aside0 (entryF n m = ⟨n, -1, -1, 2, 0⟩) := ⟨(if_neg hsp).trans (if_neg hwp)⟩
              have HL1 : Aside0 ((List.take k (entriesF tm) ++ [(⟨n, -1, -1, 2, 0⟩ : S42)]).length = k + 1) := ⟨by rw [List.length_append, HTK.out.2]; rfl⟩
              clear hsp hwp HCALL c3 c4 c5 c6 c7 c8 c9 c10 c11 c12
              go_wp2_with ((with_reducible refine gate_dst (N := 46) rfl ?_); refine stopHere ?stop)
              case stop =>
                unfold Stop
                refine Kd.R_append k42 (w0 := w4) w4.heap.size rfl (.tmp 42) (.tmp 45) 23 42 (.agg #[.string ⟨#[]⟩, .int .i64 0, .int .i64 0, .int .i64 0, .int .i64 0]) 48 rfl Try.underlying23 info42' rfl (by decide) (by decide) _ _ (⟨n, -1, -1, 2, 0⟩) [.string n, .int .i64 (-1), .int .i64 (-1), .int .i64 2, .int .i64 0] (fun _ => True) (fun _ => False) rfl rfl (k42_mkM _ _ _ (⟨n, -1, -1, 2, 0⟩)) (fun _ hk => hk.elim) (fun k hk => trivial) HV.out HB.out HB.out.size (by have := HTK.out.2; have := HLE.out; omega) ?_
                intro v1 w5 hR5 hB5 hg5 hat5
                obtain ⟨A5, k5, rfl⟩ := Kd.R_slice hR5
                rw [HL1.out] at hR5 ⊢
                have HR5 := Aside0.mk hR5
                have HB5 := Aside0.mk hB5
                clear hR5 hB5 hg5 hat5
                go_wp2
                go_roundg gk
                case measure => omega
                case rel => exact ⟨k + 1, by omega, by go_num, ⟨by rw [HTK.out.1, HEN.out]; exact HR5.out⟩, HB5⟩
  · have hal : allR l = ([.int .i64 (checkR l), .string ⟨#[]⟩], []) := if_pos h0
    have HAL := Aside0.mk hal
    have hb : (checkR l != 0) = true := by simp [h0]
    have hd : decide (checkR l ≠ 0) = true := by simp [h0]
    obtain ⟨r, hre⟩ : ∃ r, r = checkR l := ⟨_, rfl⟩
    rw [← hre] at h0 hb hd HAL ⊢
    clear hal hre
    have d0 : w1.frozen? ⟨w.heap.size, 0, none⟩ = false := blk_frozen HG1.out 0
    have d1 : w1.frozen? ⟨w.heap.size, 1, none⟩ = false := blk_frozen HG1.out 1
    have d2 : w1.cell? ⟨w.heap.size, 0, none⟩ = some (.int .i64 0) := (blk_cell HG1.out 0).trans rfl
    have d3 : w1.cell? ⟨w.heap.size, 1, none⟩ = some (.string ⟨#[]⟩) := (blk_cell HG1.out 1).trans rfl
    go_wp2
    have hb2 := blk_put (blk_put HG1.out 0 (.int .i64 r) rfl) 1 (.string ⟨#[]⟩) rfl
    refine bodyPost_ret (v := .tuple #[.slice none 0 0, .agg #[.int .i64 r, .string ⟨#[]⟩]]) (results_tc (p := 3) (u := 2) (ty := 26) rfl _ _ w.heap.size _ _ (0, 0) _ rfl hb2 Try.underlying26 rfl fault_size) rfl ⟨_, by rw [HAL.out], by rw [HAL.out]; exact Kd.R_nil _ _ _ _ _, ?_⟩
    exact below_set (below_set HB1.out (Nat.le_refl _)) (Nat.le_refl _)
end Go.Proofs.Ytibkcnlcmempgaa.Res
end
section
namespace Go.Proofs.Ytibkcnlcmempgaa.Res
set_option linter.unusedVariables false
set_option linter.unusedSimpArgs false
open Go.RowKit Go.Proofs.Ytibkcnlcmempgaa.G Go.Proofs.YtibkcnlcmempgaaW.PrintWords Go.Proofs.YtibkcnlcmempgaaW.PrintLast Go.Proofs.YtibkcnlcmempgaaW.PrintMore Go.Proofs.Ytibkcnlcmempgaa.Raw
def smallB (l : List S36) : Bool := l.all fun f => decide (f.f0.length * 96 ≤ 140737488351232)
theorem smallB_of {l : List S36} (h : smallB l = true) : ∀ f ∈ l, f.f0.length * 96 ≤ 140737488351232 := by
  unfold smallB at h
  rw [List.all_eq_true] at h
  exact fun f hf => by simpa using h f hf
def encF (x : S26) : List Value := fault x.f0 x.f1
def wrongS (e : Int) {α : Type} (z : α) (p : α → Bool) (tb : List (Key × α)) : List S26 := ((rise tb).filter fun n => p (lk z tb n)).map fun n => ⟨e, n⟩
theorem wrongS_enc (e : Int) {α : Type} (z : α) (p : α → Bool) (tb : List (Key × α)) : wrongs e z p tb = (wrongS e z p tb).map encF := by
  unfold wrongs wrongS
  rw [List.map_map]
  rfl
def faultsFS (tm : List (Key × Mean)) (tk : List (Key × Knd)) : List S26 :=
  wrongS 180 zM twice tm ++ wrongS 181 zM lacks tm ++ wrongS 182 zM mixed tm ++ wrongS 182 zK Knd.clash tk
def faultsS (l : List S36) : List S26 := if checkR l ≠ 0 then [] else faultsFS (namesAt l l.length) (kindsAt l l.length)
theorem faultsS_enc (l : List S36) : faultsOf l = (faultsS l).map encF := by
  unfold faultsOf faultsS
  split
  · rfl
  · simp only [faultsF, faultsFS, List.map_append, wrongS_enc]
def allP (l : List S36) : List S42 × Int × ByteArray :=
  if checkR l ≠ 0 then ([], checkR l, ⟨#[]⟩) else
  match faultsS l with
  | f :: _ => ([], f.f0, f.f1)
  | [] => (entriesF (namesAt l l.length), 0, ⟨#[]⟩)
theorem allP_enc (l : List S36) : allR l = ([.int .i64 (allP l).2.1, .string (allP l).2.2], (allP l).1) := by
  unfold allR allP
  split
  · rfl
  · rw [faultsS_enc]
    cases faultsS l with
    | nil => rfl
    | cons f fs => rfl
end Go.Proofs.Ytibkcnlcmempgaa.Res
end
section
namespace Go.Proofs.Ytibkcnlcmempgaa.G
open Go.RowKit Go.Proofs.YtibkcnlcmempgaaW.PrintWords Go.Proofs.YtibkcnlcmempgaaW.PrintLast Go.Proofs.YtibkcnlcmempgaaW.PrintMore
attribute [local go_sem] max2_int min2_int max_two min_two max_three min_three max_four min_four   -- for this text's walks alone
set_option linter.unusedVariables false
set_option linter.unusedSimpArgs false
def resolve_All.f (l0 : List S36) : Option (List S42 × Int × ByteArray) := if Res.smallB l0 = true then some (Res.allP l0) else none
theorem resolve_All.calls (A0 : Option Addr) (c0 : Nat) (l0 : List S36) (r1 : List S42) (r2 : Int) (r3 : ByteArray) (w : World) (hr0 : Kd.C k36 w A0 l0.length l0) (hc0 : l0.length ≤ c0) (h : resolve_All.f l0 = some (r1, r2, r3)) :
  Calls Try.prog 7 #[.slice A0 l0.length c0] w fun e w' => ∃ v0_ : Value, e = .returned (.tuple #[v0_, .agg #[.int .i64 r2, .string r3]]) ∧ Kd.R k42 42 w' w.heap.size (fun _ => True) v0_ r1 ∧ Below w.heap.size w w' := by
 unfold resolve_All.f at h
 split at h
 ·
  rename_i hs
  have h1 := Option.some.inj h
  refine (Res.all_calls A0 c0 l0 w hr0 hc0 (Res.smallB_of hs)).mono ?_
  rintro e w' ⟨v, rfl, hR, hB⟩
  rw [Res.allP_enc, h1] at hR ⊢
  exact ⟨v, rfl, hR, hB⟩
 ·
  cases h
end Go.Proofs.Ytibkcnlcmempgaa.G
end
section
namespace Go.Proofs.Ytibkcnlcmempgaa.G
open Go.RowKit Go.Proofs.YtibkcnlcmempgaaW.PrintWords Go.Proofs.YtibkcnlcmempgaaW.PrintLast Go.Proofs.YtibkcnlcmempgaaW.PrintMore
attribute [local go_sem] max2_int min2_int max_two min_two max_three min_three max_four min_four   -- for this text's walks alone
set_option linter.unusedVariables false
set_option linter.unusedSimpArgs false
def gangwaylaw18_num.f (a0 : Int) : Option (Int) := some a0
set_option maxHeartbeats 8000000 in
set_option maxRecDepth 100000 in
theorem gangwaylaw18_num.calls (a0 : Int) (r : Int) (w : World) (h : gangwaylaw18_num.f a0 = some r) :
  Calls Try.prog 8 #[.int .i64 a0] w fun e w' => e = .returned (.int .i64 r) ∧ Drawn0 w w' := by
 have H : (some a0) = some r := h
 clear h
 obtain rfl := Option.some.inj H
 go_enter Try.func8, Try.ntmps8
 go_wp2
 go_ret
 exact ⟨by first | rfl | (simp; done) | (simp [*]; done), by repeat (first | exact Drawn0.refl _ | apply Drawn0.step)⟩
end Go.Proofs.Ytibkcnlcmempgaa.G
end
section
namespace Go.Proofs.Ytibkcnlcmempgaa.G
open Go.RowKit Go.Proofs.YtibkcnlcmempgaaW.PrintWords Go.Proofs.YtibkcnlcmempgaaW.PrintLast Go.Proofs.YtibkcnlcmempgaaW.PrintMore
attribute [local go_sem] max2_int min2_int max_two min_two max_three min_three max_four min_four   -- for this text's walks alone
set_option linter.unusedVariables false
set_option linter.unusedSimpArgs false
def resolve_Check.f (l0 : List S36) : Option Int := if Res.smallB l0 = true then some (Res.checkR l0) else none
theorem resolve_Check.calls (A0 : Option Addr) (c0 : Nat) (l0 : List S36) (r : Int) (w : World) (hr0 : Kd.C k36 w A0 l0.length l0) (hc0 : l0.length ≤ c0) (h : resolve_Check.f l0 = some r) :
  Calls Try.prog 9 #[.slice A0 l0.length c0] w fun e w' => e = .returned (.int .i64 r) ∧ Below w.heap.size w w' := by
 unfold resolve_Check.f at h
 split at h
 ·
  rename_i hs
  obtain rfl := Option.some.inj h
  exact Res.check_calls A0 c0 l0 w hr0 hc0 (Res.smallB_of hs)
 ·
  cases h
end Go.Proofs.Ytibkcnlcmempgaa.G
end
section
namespace Go.Proofs.Ytibkcnlcmempgaa.Res
set_option linter.unusedVariables false
set_option linter.unusedSimpArgs false
open Go.RowKit Go.Proofs.Ytibkcnlcmempgaa.G Go.Proofs.YtibkcnlcmempgaaW.PrintWords Go.Proofs.YtibkcnlcmempgaaW.PrintLast Go.Proofs.YtibkcnlcmempgaaW.PrintMore Go.Proofs.Ytibkcnlcmempgaa.Raw
theorem C_blk {α : Type} (d : Kd α) {w : World} {g e : Nat} {cs : Array Value} {xs : List α} (h : w.heap[g]? = some (.cells cs e (0, 0))) (hr : Reps (d.K w) d.sz xs cs.toList) (hm : xs.length ≤ 9223372036854775807) : d.C w (some ⟨g, 0, none⟩) xs.length xs := by
  refine ⟨rfl, hm, fun _ => ⟨_, rfl, fun j p hj => ⟨_, ?_, hr.2 j p hj, fun i u hu => ?_⟩⟩⟩
  · exact d.K_len (hr.2 j p hj)
  · have hc := blk_cell h (j * d.sz + i)
    have hl := d.K_len (hr.2 j p hj)
    have hi : i < d.sz := by rw [← hl]; exact (List.getElem?_eq_some_iff.1 hu).1
    have e1 : (⟨g, 0, none⟩ : Addr).add (j * d.sz + i) = ⟨g, j * d.sz + i, none⟩ := by
      unfold Addr.add
      split
      · rename_i h0; rw [h0]
      · simp only [Nat.zero_add]
    rw [e1, hc, ← hu]
    rw [List.getElem?_take_of_lt hi, List.getElem?_drop, Array.getElem?_toList]
def textS : S72 := ⟨⟨#[46, 116, 101, 120, 116]⟩, 1, 6, 16, [195], 1, []⟩
def file0 : S36 := ⟨[textS], [⟨⟨#[102]⟩, ⟨#[]⟩, 0, 0, 1, 0⟩]⟩
def file1 : S36 := ⟨[textS], [⟨⟨#[102]⟩, ⟨#[46, 116, 101, 120, 116]⟩, 0, 0, 1, 2⟩]⟩
theorem blk_at {w : World} (o : Obj) {n : Nat} (h : w.heap.size = n) : (w.alloc o).heap[n]? = some o := h ▸ blk_new w o
theorem small_text : ∀ f ∈ [file0, file1], f.f0.length * 96 ≤ 140737488351232 := by
  intro f hf
  simp only [List.mem_cons, List.not_mem_nil, or_false] at hf
  rcases hf with rfl | rfl <;> decide
set_option maxRecDepth 100000 in
theorem two_calls (w : World) : Calls Try.prog 32 #[] w fun e w' => ∃ g, e = .returned (.slice (some ⟨g, 0, none⟩) 2 2) ∧ Kd.C k36 w' (some ⟨g, 0, none⟩) 2 [file0, file1] ∧ Below w.heap.size w w' := by
  go_enter Try.func32, Try.ntmps32
  go_wp2
  go_ret
  refine ⟨_, rfl, ?_, below_alloc (below_alloc (below_alloc (below_alloc (below_alloc (below_alloc (below_alloc (Below.refl _ _) _) _) _) _) _) _) _⟩
  have h0 := fun (a b c d e f : Obj) => blk_alloc (blk_alloc (blk_alloc (blk_alloc (blk_alloc (blk_alloc (blk_new w (.cells #[.int .u8 195] 5)) a) b) c) d) e) f
  refine C_blk k36 (xs := [file0, file1]) (blk_at _ (by simp)) (((Reps.none _ _).snoc (k36_mk _ file0 (c0 := 1) (by decide) ?a0 (c1 := 1) (by decide) ?a1) rfl).snoc (k36_mk _ file1 (c0 := 1) (by decide) ?a2 (c1 := 1) (by decide) ?a3) rfl) (by decide)
  case a0 => exact C_blk k72 (xs := [textS]) (blk_alloc (blk_alloc (blk_alloc (blk_alloc (blk_at _ (by simp)) _) _) _) _) ((Reps.none _ _).snoc (k72_mk _ textS (c4 := 1) (by decide) (C_blk (Kd.int .u8) (xs := [195]) (h0 _ _ _ _ _ _) ((Reps.none _ _).snoc rfl rfl) (by decide)) (c6 := 0) (by decide) (Kd.C_nil _ _)) rfl) (by decide)
  case a1 => exact C_blk k38 (xs := file0.f1) (blk_alloc (blk_alloc (blk_alloc (blk_at _ (by simp)) _) _) _) ((Reps.none _ _).snoc (k38_mk _ ⟨⟨#[102]⟩, ⟨#[]⟩, 0, 0, 1, 0⟩) rfl) (by decide)
  case a2 => exact C_blk k72 (xs := [textS]) (blk_alloc (blk_alloc (blk_at _ (by simp)) _) _) ((Reps.none _ _).snoc (k72_mk _ textS (c4 := 1) (by decide) (C_blk (Kd.int .u8) (xs := [195]) (h0 _ _ _ _ _ _) ((Reps.none _ _).snoc rfl rfl) (by decide)) (c6 := 0) (by decide) (Kd.C_nil _ _)) rfl) (by decide)
  case a3 => exact C_blk k38 (xs := file1.f1) (blk_alloc (blk_at _ (by simp)) _) ((Reps.none _ _).snoc (k38_mk _ ⟨⟨#[102]⟩, ⟨#[46, 116, 101, 120, 116]⟩, 0, 0, 1, 2⟩) rfl) (by decide)
theorem all_two : allR [file0, file1] = ([.int .i64 0, .string ⟨#[]⟩], [⟨⟨#[102]⟩, 1, 0, 1, 2⟩]) := by
  kernel_rfl
theorem all_one : allR [file0] = ([.int .i64 181, .string ⟨#[102]⟩], []) := by
  kernel_rfl
set_option maxHeartbeats 4000000 in
set_option maxRecDepth 100000 in
theorem live_calls (w : World) : Calls Try.prog 10 #[] w fun e w' => e = .returned (.bool true) ∧ Below w.heap.size w w' := by
  go_enter Try.func10, Try.ntmps10
  go_wp2_with fail
  refine (two_calls w).mono ?_
  rintro e w1 ⟨g, rfl, hC1, hB1⟩
  have HC1 := Aside0.mk hC1
  have HB1 := Aside0.mk hB1
  clear hC1 hB1
  go_wp2_with fail
  refine (all_calls (some ⟨g, 0, none⟩) 2 [file0, file1] w1 HC1.out (by decide) small_text).mono ?_
  rintro e w2 ⟨v, rfl, hR2, hB2⟩
  have HB2 := Aside0.mk (below_then HB1.out HB1.out.size hB2)
  have HR2 := Aside0.mk hR2
  rw [all_two] at HR2 ⊢
  clear hR2 hB2 HC1
  go_wp2_with fail
  have hG3 := blk_new w2 (.cells #[.int .i64 0, .string ⟨#[]⟩] 26)
  have hB3 := below_alloc (Below.refl w2.heap.size w2) (.cells #[.int .i64 0, .string ⟨#[]⟩] 26)
  obtain ⟨w3, hw3⟩ : ∃ w3, w3 = w2.alloc (.cells #[.int .i64 0, .string ⟨#[]⟩] 26) := ⟨_, rfl⟩
  rw [← hw3] at hG3 hB3 ⊢
  clear hw3
  refine (two_calls w3).mono ?_
  rintro e w4 ⟨g4, rfl, hC4, hB4⟩
  have HC4 := Aside0.mk hC4
  have hB34 := below_then hB3 hB3.size hB4
  have hG4 := blk_below hG3 hB4
  clear hC4 hB4 hB3 hG3
  go_wp2_with fail
  refine (all_calls (some ⟨g4, 0, none⟩) 2 [file0] w4 (Kd.C_take (m := 1) HC4.out (by decide)) (by decide) (fun f hf => small_text f (by simp only [List.mem_singleton] at hf; subst hf; exact List.mem_cons_self ..))).mono ?_
  rintro e w5 ⟨v5, rfl, hR5, hB5⟩
  rw [all_one] at hR5 ⊢
  have hB35 := below_then hB34 hB34.size hB5
  have HG5 := Aside0.mk (blk_below hG4 hB5)
  have HR5 := Aside0.mk (Kd.R_below HR2.out hB35)
  have HB5 := Aside0.mk (below_then HB2.out HB2.out.size hB35)
  clear hR5 hB5 hB34 hG4 hB35 HC4 HB1 HR2 HB2
  obtain ⟨gv, cv, rfl, hgv, hgl⟩ := Kd.R_form HR5.out (by decide)
  have hc := (Kd.R_reads' HR5.out).2.2
  obtain ⟨ad, hadd, q0, q1, q2, q3, q4⟩ := at_T42 hc (0 : Int) (by decide) (by decide)
  obtain rfl := Option.some.inj hadd
  have p1 : w5.cell? ⟨gv, 1, none⟩ = some (.int .i64 1) := q1
  have f0 : w5.cell? ⟨w2.heap.size, 0, none⟩ = some (.int .i64 0) := (blk_cell HG5.out 0).trans rfl
  have hgl1 := hgl.1
  have hws := blk_lt HG5.out
  have hlen : [(⟨⟨#[102]⟩, 1, 0, 1, 2⟩ : S42)].length = 1 := rfl
  rw [hlen]
  clear hadd q0 q1 q2 q3 q4 hgl hc HR5 hlen
  go_wp2_with fail
  have hG6 := blk_new w5 (.cells #[.int .i64 181, .string ⟨#[102]⟩] 26)
  have hB6 := below_alloc (Below.refl w5.heap.size w5) (.cells #[.int .i64 181, .string ⟨#[102]⟩] 26)
  obtain ⟨w6, hw6⟩ : ∃ w6, w6 = w5.alloc (.cells #[.int .i64 181, .string ⟨#[102]⟩] 26) := ⟨_, rfl⟩
  rw [← hw6] at hG6 hB6 ⊢
  have p2 := pw_cell_below hB6 p1
  have HB6 := Aside0.mk (below_then HB5.out HB5.out.size hB6)
  have r0 : w6.cell? ⟨w5.heap.size, 0, none⟩ = some (.int .i64 181) := (blk_cell hG6 0).trans rfl
  have r1 : w6.cell? ⟨w5.heap.size, 1, none⟩ = some (.string ⟨#[102]⟩) := (blk_cell hG6 1).trans rfl
  clear hw6 hG6 hB6 p1 f0
  refine (gangwaylaw18_num.calls 0 0 w6 rfl).mono ?_
  rintro e w7 ⟨rfl, q, rfl⟩
  go_wp2_with fail
  refine (gangwaylaw18_num.calls 181 181 _ rfl).mono ?_
  rintro e w7 ⟨rfl, q2, rfl⟩
  go_wp2
  go_ret
  exact ⟨rfl, pw_below_drewN HB6.out _⟩
end Go.Proofs.Ytibkcnlcmempgaa.Res
end
section
namespace Go.Proofs.Ytibkcnlcmempgaa.G
open Go.RowKit Go.Proofs.YtibkcnlcmempgaaW.PrintWords Go.Proofs.YtibkcnlcmempgaaW.PrintLast Go.Proofs.YtibkcnlcmempgaaW.PrintMore
attribute [local go_sem] max2_int min2_int max_two min_two max_three min_three max_four min_four   -- for this text's walks alone
set_option linter.unusedVariables false
set_option linter.unusedSimpArgs false
def gangwaylaw18_live.f : Option Bool := some true
theorem gangwaylaw18_live.calls (r : Bool) (w : World) (h : gangwaylaw18_live.f = some r) :
  Calls Try.prog 10 #[] w fun e w' => e = .returned (.bool r) ∧ Below w.heap.size w w' := by
 obtain rfl := Option.some.inj h
 exact Res.live_calls w
end Go.Proofs.Ytibkcnlcmempgaa.G
end
