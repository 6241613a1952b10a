/- Lemmas and contracts, one text behind the other: what the row of this claim needs; no conditions beyond those that each theorem names. -/
import Derived.WideKeyEntry
import Derived.DeepKeys4
import Derived.Great.Frames
import Derived.Test.YtejdnanhnkjaoaaV1
section
namespace Go.Proofs.Ytejdnanhnkjaoaa.G
open Go.RowKit Go.Proofs.YtejdnanhnkjaoaaW.PrintWords Go.Proofs.YtejdnanhnkjaoaaW.PrintLast Go.Proofs.YtejdnanhnkjaoaaW.PrintMore
attribute [local go_sem] max2_int min2_int max_two min_two max_three min_three max_four min_four   -- for this text's walks alone
set_option linter.unusedVariables false
set_option linter.unusedSimpArgs false
mutual
def symtab_right.j0 : Nat → Bool → ByteArray → ByteArray → Int → Int → Int → Int → Option (Bool)
 | 0, _, _, _, _, _, _, _ => none
 | k + 1, x25, x102000, x102001, x102002, x102003, x102004, x102005 => if x25 = true then (some false) else (if x102002 < 0 then (symtab_right.j1 k true x102000 x102001 x102002 x102003 x102004 x102005) else (if x102002 > 4611686018427387904 then (symtab_right.j1 k true x102000 x102001 x102002 x102003 x102004 x102005) else (if x102003 < 0 then (symtab_right.j1 k true x102000 x102001 x102002 x102003 x102004 x102005) else (if x102003 > 4611686018427387904 then (symtab_right.j1 k true x102000 x102001 x102002 x102003 x102004 x102005) else (if x102004 < 0 then (symtab_right.j1 k true x102000 x102001 x102002 x102003 x102004 x102005) else (symtab_right.j1 k (decide (x102004 > 2)) x102000 x102001 x102002 x102003 x102004 x102005))))))
def symtab_right.j1 : Nat → Bool → ByteArray → ByteArray → Int → Int → Int → Int → Option (Bool)
 | 0, _, _, _, _, _, _, _ => none
 | k + 1, x53, x102000, x102001, x102002, x102003, x102004, x102005 => if x53 = true then (some false) else (if x102005 = 0 then (symtab_right.j2 k (x102005 == 0) x102000 x102001 x102002 x102003 x102004 x102005) else (if x102005 = 1 then (symtab_right.j2 k (x102005 == 1) x102000 x102001 x102002 x102003 x102004 x102005) else (if x102005 = 2 then (symtab_right.j2 k (x102005 == 2) x102000 x102001 x102002 x102003 x102004 x102005) else (if x102005 = 6 then (symtab_right.j2 k (x102005 == 6) x102000 x102001 x102002 x102003 x102004 x102005) else (symtab_right.j2 k (x102005 == 10) x102000 x102001 x102002 x102003 x102004 x102005)))))
def symtab_right.j2 : Nat → Bool → ByteArray → ByteArray → Int → Int → Int → Int → Option (Bool)
 | 0, _, _, _, _, _, _, _ => none
 | k + 1, x56, x102000, x102001, x102002, x102003, x102004, x102005 => if x56 = true then (if x102001.toList = ([] : List UInt8) then (if x102004 = 0 then (some false) else (if x102002 = 0 then (if x102003 = 0 then (if x102000.toList = ([] : List UInt8) then (some (x102004 == 0)) else (some true)) else (some false)) else (some false))) else (if x102000.toList = ([] : List UInt8) then (some (x102004 == 0)) else (some true))) else (some false)
end
def symtab_right.f (k : Nat) (a0_0 : ByteArray) (a0_1 : ByteArray) (a0_2 : Int) (a0_3 : Int) (a0_4 : Int) (a0_5 : Int) (l1 : List ByteArray) : Option (Bool) := (symtab_plain.f a0_0).bind fun t102 => (if t102 = true then (if a0_1.toList = ([] : List UInt8) then (symtab_right.j0 k false a0_0 a0_1 a0_2 a0_3 a0_4 a0_5) else (if a0_1.toList = ([42] : List UInt8) then (symtab_right.j0 k false a0_0 a0_1 a0_2 a0_3 a0_4 a0_5) else ((slices_Contains_string_string.f k l1 a0_1).bind fun t103 => (symtab_right.j0 k (!t103) a0_0 a0_1 a0_2 a0_3 a0_4 a0_5)))) else (symtab_right.j0 k true a0_0 a0_1 a0_2 a0_3 a0_4 a0_5))
theorem symtab_right.mono_l : ∀ k, (∀ y0 y1 y2 y3 y4 y5 y6, LeO (symtab_right.j0 k y0 y1 y2 y3 y4 y5 y6) (symtab_right.j0 (k + 1) y0 y1 y2 y3 y4 y5 y6)) ∧ (∀ y0 y1 y2 y3 y4 y5 y6, LeO (symtab_right.j1 k y0 y1 y2 y3 y4 y5 y6) (symtab_right.j1 (k + 1) y0 y1 y2 y3 y4 y5 y6)) ∧ (∀ y0 y1 y2 y3 y4 y5 y6, LeO (symtab_right.j2 k y0 y1 y2 y3 y4 y5 y6) (symtab_right.j2 (k + 1) y0 y1 y2 y3 y4 y5 y6))
 | 0 => ⟨fun _ _ _ _ _ _ _ r h => by simp [symtab_right.j0] at h, fun _ _ _ _ _ _ _ r h => by simp [symtab_right.j1] at h, fun _ _ _ _ _ _ _ r h => by simp [symtab_right.j2] at h⟩
 | k + 1 => by
  obtain ⟨ih0, ih1, ih2⟩ := symtab_right.mono_l k
  refine ⟨?_, ?_, ?_⟩
  ·
   intro y0 y1 y2 y3 y4 y5 y6
   unfold symtab_right.j0
   repeat' first
   | (with_reducible exact ih0 _ _ _ _ _ _ _)
   | (with_reducible exact ih1 _ _ _ _ _ _ _)
   | (with_reducible exact ih2 _ _ _ _ _ _ _)
   | (with_reducible exact slices_Contains_string_string.mono _ _ _)
   | (with_reducible exact LeO.refl _)
   | (with_reducible exact LeO.none _)
   | (with_reducible refine LeO.ite ?_ ?_)
   | (with_reducible refine LeO.bind ?_ (fun _ => ?_))
   | exact ih0 _ _ _ _ _ _ _
   | exact ih1 _ _ _ _ _ _ _
   | exact ih2 _ _ _ _ _ _ _
   | exact slices_Contains_string_string.mono _ _ _
   | exact LeO.none _
   | refine LeO.ite ?_ ?_
   | refine LeO.bind ?_ (fun _ => ?_)
  ·
   intro y0 y1 y2 y3 y4 y5 y6
   unfold symtab_right.j1
   repeat' first
   | (with_reducible exact ih0 _ _ _ _ _ _ _)
   | (with_reducible exact ih1 _ _ _ _ _ _ _)
   | (with_reducible exact ih2 _ _ _ _ _ _ _)
   | (with_reducible exact slices_Contains_string_string.mono _ _ _)
   | (with_reducible exact LeO.refl _)
   | (with_reducible exact LeO.none _)
   | (with_reducible refine LeO.ite ?_ ?_)
   | (with_reducible refine LeO.bind ?_ (fun _ => ?_))
   | exact ih0 _ _ _ _ _ _ _
   | exact ih1 _ _ _ _ _ _ _
   | exact ih2 _ _ _ _ _ _ _
   | exact slices_Contains_string_string.mono _ _ _
   | exact LeO.none _
   | refine LeO.ite ?_ ?_
   | refine LeO.bind ?_ (fun _ => ?_)
  ·
   intro y0 y1 y2 y3 y4 y5 y6
   unfold symtab_right.j2
   repeat' first
   | (with_reducible exact ih0 _ _ _ _ _ _ _)
   | (with_reducible exact ih1 _ _ _ _ _ _ _)
   | (with_reducible exact ih2 _ _ _ _ _ _ _)
   | (with_reducible exact slices_Contains_string_string.mono _ _ _)
   | (with_reducible exact LeO.refl _)
   | (with_reducible exact LeO.none _)
   | (with_reducible refine LeO.ite ?_ ?_)
   | (with_reducible refine LeO.bind ?_ (fun _ => ?_))
   | exact ih0 _ _ _ _ _ _ _
   | exact ih1 _ _ _ _ _ _ _
   | exact ih2 _ _ _ _ _ _ _
   | exact slices_Contains_string_string.mono _ _ _
   | exact LeO.none _
   | refine LeO.ite ?_ ?_
   | refine LeO.bind ?_ (fun _ => ?_)
theorem symtab_right.mono : ∀ a0 a1 a2 a3 a4 a5 a6 k, LeO (symtab_right.f k a0 a1 a2 a3 a4 a5 a6) (symtab_right.f (k + 1) a0 a1 a2 a3 a4 a5 a6) := by
 intro a0 a1 a2 a3 a4 a5 a6 k
 obtain ⟨ih0, ih1, ih2⟩ := symtab_right.mono_l k
 unfold symtab_right.f
 repeat' first
   | (with_reducible exact ih0 _ _ _ _ _ _ _)
   | (with_reducible exact ih1 _ _ _ _ _ _ _)
   | (with_reducible exact ih2 _ _ _ _ _ _ _)
   | (with_reducible exact slices_Contains_string_string.mono _ _ _)
   | (with_reducible exact LeO.refl _)
   | (with_reducible exact LeO.none _)
   | (with_reducible refine LeO.ite ?_ ?_)
   | (with_reducible refine LeO.bind ?_ (fun _ => ?_))
   | exact ih0 _ _ _ _ _ _ _
   | exact ih1 _ _ _ _ _ _ _
   | exact ih2 _ _ _ _ _ _ _
   | exact slices_Contains_string_string.mono _ _ _
   | exact LeO.none _
   | refine LeO.ite ?_ ?_
   | refine LeO.bind ?_ (fun _ => ?_)
set_option maxHeartbeats 8000000 in
set_option maxRecDepth 100000 in
theorem symtab_right.calls (k : Nat) (a0_0 : ByteArray) (a0_1 : ByteArray) (a0_2 : Int) (a0_3 : Int) (a0_4 : Int) (a0_5 : Int) (A1 : Option Addr) (c1 : Nat) (l1 : List ByteArray) (r : Bool) (w : World) (hr1 : Kd.C Kd.string w A1 l1.length l1) (hc1 : l1.length ≤ c1) (h : symtab_right.f k a0_0 a0_1 a0_2 a0_3 a0_4 a0_5 l1 = some r) :
  Calls Try.prog 39 #[.agg #[.string a0_0, .string a0_1, .int .i64 a0_2, .int .i64 a0_3, .int .i64 a0_4, .int .i64 a0_5], .slice A1 l1.length c1] w fun e w' => e = .returned (.bool r) ∧ Below w.heap.size w w' := by
 have hu58 := Try.underlying58
 have HR1 := Aside0.mk hr1
 have HC1 := Aside0.mk hc1
 clear hr1 hc1
 have HB := Aside0.mk (Below.refl w.heap.size w)
 have H : ((symtab_plain.f a0_0).bind fun t102 => (if t102 = true then (if a0_1.toList = ([] : List UInt8) then (symtab_right.j0 k false a0_0 a0_1 a0_2 a0_3 a0_4 a0_5) else (if a0_1.toList = ([42] : List UInt8) then (symtab_right.j0 k false a0_0 a0_1 a0_2 a0_3 a0_4 a0_5) else ((slices_Contains_string_string.f k l1 a0_1).bind fun t103 => (symtab_right.j0 k (!t103) a0_0 a0_1 a0_2 a0_3 a0_4 a0_5)))) else (symtab_right.j0 k true a0_0 a0_1 a0_2 a0_3 a0_4 a0_5))) = some r := h
 clear h
 have HC3 := Aside0.mk H
 clear H
 go_enter Try.func39, Try.ntmps39
 go_upto_region 1 with (first | ((with_reducible refine gate_dst (N := 2) rfl ?_); refine box_event ?hg (N := 2) ?hd (cs := #[.string a0_0, .string a0_1, .int .i64 a0_2, .int .i64 a0_3, .int .i64 a0_4, .int .i64 a0_5]) (t := 58) ?hr ?_; (case hd => rfl); (case hg => rfl); (case hr => first | (go_simp; done) | (go_simp; rfl)); intro gb101 hg w4 hbox hb; have n0_ := Aside0.mk (below_step (by repeat (with_reducible first | exact HB.out | apply below_alloc | apply pw_below_drewN | apply below_drew1)) hb); have n1_ := Aside0.mk (hbox); have n2_ := Aside0.mk ((by rw [hg]; exact (below_size (by repeat (with_reducible first | exact HB.out | apply below_alloc | apply pw_below_drewN | apply below_drew1))) : w.heap.size ≤ gb101)); have n3_ := Aside0.mk ((by rw [hg]; exact (below_size (by repeat (with_reducible first | exact HB.out | apply below_alloc | apply pw_below_drewN | apply below_drew1))) : w.heap.size ≤ gb101)); clear HB; have HB := n0_; have BK101 := n1_; have GW101 := n2_; have GE101 := n3_; clear n0_ n1_ n2_ n3_; clear hb hbox hg))
 (try simp only [Act.put, List.setIfInBounds_toArray, List.set_cons_zero, List.set_cons_succ])
 go_cut [25] (fun v25 wc => ∃ (kq : Nat) (x25_2 : Bool), v25 = .bool x25_2 ∧ Aside0 (symtab_right.j0 kq x25_2 a0_0 a0_1 a0_2 a0_3 a0_4 a0_5 = some r) ∧ Aside0 (kq ≤ k) ∧ Aside0 (wc.heap[gb101]? = some (.cells #[.string a0_0, .string a0_1, .int .i64 a0_2, .int .i64 a0_3, .int .i64 a0_4, .int .i64 a0_5] 58 (0, 0))) ∧ Aside0 (Below w.heap.size w wc))
 case first =>
  have H := HC3.out
  clear HC3
  replace H := Option.bind_eq_some_iff.mp H
  obtain ⟨t102, A50, H⟩ := H
  replace H : (if t102 = true then (if a0_1.toList = ([] : List UInt8) then (symtab_right.j0 k false a0_0 a0_1 a0_2 a0_3 a0_4 a0_5) else (if a0_1.toList = ([42] : List UInt8) then (symtab_right.j0 k false a0_0 a0_1 a0_2 a0_3 a0_4 a0_5) else ((slices_Contains_string_string.f k l1 a0_1).bind fun t103 => (symtab_right.j0 k (!t103) a0_0 a0_1 a0_2 a0_3 a0_4 a0_5)))) else (symtab_right.j0 k true a0_0 a0_1 a0_2 a0_3 a0_4 a0_5)) = some r := H
  have A5 := Aside0.mk A50
  clear A50
  by_cases c6 : t102 = true
  ·
   subst c6
   have H1 : (if a0_1.toList = ([] : List UInt8) then (symtab_right.j0 k false a0_0 a0_1 a0_2 a0_3 a0_4 a0_5) else (if a0_1.toList = ([42] : List UInt8) then (symtab_right.j0 k false a0_0 a0_1 a0_2 a0_3 a0_4 a0_5) else ((slices_Contains_string_string.f k l1 a0_1).bind fun t103 => (symtab_right.j0 k (!t103) a0_0 a0_1 a0_2 a0_3 a0_4 a0_5)))) = some r := by rw [if_pos rfl] at H; exact H
   clear H
   have H := H1
   clear H1
   by_cases c7 : a0_1.toList = ([] : List UInt8)
   ·
    rw [if_pos c7] at H
    have c7b0 : (a0_1.toList == ([] : List UInt8)) = true := beq_iff_eq.mpr c7
    have c7b1 : (a0_1.toList != ([] : List UInt8)) = false := bne_eq_false_iff_eq.mpr c7
    clear c7
    (first | rw [c7b0] | (simp only [i64_w, i32_w]; rw [c7b0]) | skip)
    have H' := Aside0.mk H
    clear H
    have hcz8_0 : w4.cell? ⟨gb101, 0, none⟩ = some (.string a0_0) := (blk_cell BK101.out 0).trans rfl
    have hcz8_1 : w4.cell? ⟨gb101, 1, none⟩ = some (.string a0_1) := (blk_cell BK101.out 1).trans rfl
    have hcz8_2 : w4.cell? ⟨gb101, 2, none⟩ = some (.int .i64 a0_2) := (blk_cell BK101.out 2).trans rfl
    have hcz8_3 : w4.cell? ⟨gb101, 3, none⟩ = some (.int .i64 a0_3) := (blk_cell BK101.out 3).trans rfl
    have hcz8_4 : w4.cell? ⟨gb101, 4, none⟩ = some (.int .i64 a0_4) := (blk_cell BK101.out 4).trans rfl
    have hcz8_5 : w4.cell? ⟨gb101, 5, none⟩ = some (.int .i64 a0_5) := (blk_cell BK101.out 5).trans rfl
    have hfz8_0 := blk_frozen BK101.out 0
    have hfz8_1 := blk_frozen BK101.out 1
    have hfz8_2 := blk_frozen BK101.out 2
    have hfz8_3 := blk_frozen BK101.out 3
    have hfz8_4 := blk_frozen BK101.out 4
    have hfz8_5 := blk_frozen BK101.out 5
    go_wp2_with (first | ((with_reducible refine gate_callee (f := 37) rfl ?_); refine goesL_ (some 7) rfl rfl Try.func37 (by kernel_rfl) rfl #[.string a0_0] rfl (by (try simp only [List.map_toArray, List.map_cons, List.map_nil]); first | done | rfl | (simp only [List.length_drop, List.length_take]; rfl)) ?_; (with_reducible refine (symtab_plain.calls a0_0 true _ A5.out).mono ?_); rintro e w' ⟨rfl, ⟨nd, rfl⟩⟩; refine ⟨_, rfl, ?_⟩))
    go_meet
    case rel => exact ⟨_, (false), (by first | rfl | (simp; done) | (simp [*]; done) | (simp [show ∀ l_ : List UInt8, (l_ != []) = !l_.isEmpty from fun l_ => by cases l_ <;> rfl]; done) | (congr 1; refine congr (congrArg (Go.bits _ _) ?_) ?_ <;> omega)), H', ⟨by first | omega | exact Nat.le_refl _⟩, ⟨by (with_reducible repeat (first | refine blk_drewN ?_ _ | refine blk_drew ?_ | refine blk_alloc ?_ _)); exact BK101.out⟩, ⟨by repeat (with_reducible first | exact HB.out | apply below_alloc | apply pw_below_drewN | apply below_drew1)⟩⟩
   ·
    rw [if_neg c7] at H
    have c7b0 : (a0_1.toList == ([] : List UInt8)) = false := beq_eq_false_iff_ne.mpr c7
    have c7b1 : (a0_1.toList != ([] : List UInt8)) = true := bne_iff_ne.mpr c7
    (first | rw [c7b0] | (simp only [i64_w, i32_w]; rw [c7b0]) | skip)
    by_cases c9 : a0_1.toList = ([42] : List UInt8)
    ·
     rw [if_pos c9] at H
     have c9b0 : (a0_1.toList == ([42] : List UInt8)) = true := beq_iff_eq.mpr c9
     have c9b1 : (a0_1.toList != ([42] : List UInt8)) = false := bne_eq_false_iff_eq.mpr c9
     clear c9
     have H' := Aside0.mk H
     clear H
     have hcz10_0 : w4.cell? ⟨gb101, 0, none⟩ = some (.string a0_0) := (blk_cell BK101.out 0).trans rfl
     have hcz10_1 : w4.cell? ⟨gb101, 1, none⟩ = some (.string a0_1) := (blk_cell BK101.out 1).trans rfl
     have hcz10_2 : w4.cell? ⟨gb101, 2, none⟩ = some (.int .i64 a0_2) := (blk_cell BK101.out 2).trans rfl
     have hcz10_3 : w4.cell? ⟨gb101, 3, none⟩ = some (.int .i64 a0_3) := (blk_cell BK101.out 3).trans rfl
     have hcz10_4 : w4.cell? ⟨gb101, 4, none⟩ = some (.int .i64 a0_4) := (blk_cell BK101.out 4).trans rfl
     have hcz10_5 : w4.cell? ⟨gb101, 5, none⟩ = some (.int .i64 a0_5) := (blk_cell BK101.out 5).trans rfl
     have hfz10_0 := blk_frozen BK101.out 0
     have hfz10_1 := blk_frozen BK101.out 1
     have hfz10_2 := blk_frozen BK101.out 2
     have hfz10_3 := blk_frozen BK101.out 3
     have hfz10_4 := blk_frozen BK101.out 4
     have hfz10_5 := blk_frozen BK101.out 5
     go_wp2_with (first | ((with_reducible refine gate_callee (f := 37) rfl ?_); refine goesL_ (some 7) rfl rfl Try.func37 (by kernel_rfl) rfl #[.string a0_0] rfl (by (try simp only [List.map_toArray, List.map_cons, List.map_nil]); first | done | rfl | (simp only [List.length_drop, List.length_take]; rfl)) ?_; (with_reducible refine (symtab_plain.calls a0_0 true _ A5.out).mono ?_); rintro e w' ⟨rfl, ⟨nd, rfl⟩⟩; refine ⟨_, rfl, ?_⟩))
     go_meet
     case rel => exact ⟨_, (false), (by first | rfl | (simp; done) | (simp [*]; done) | (simp [show ∀ l_ : List UInt8, (l_ != []) = !l_.isEmpty from fun l_ => by cases l_ <;> rfl]; done) | (congr 1; refine congr (congrArg (Go.bits _ _) ?_) ?_ <;> omega)), H', ⟨by first | omega | exact Nat.le_refl _⟩, ⟨by (with_reducible repeat (first | refine blk_drewN ?_ _ | refine blk_drew ?_ | refine blk_alloc ?_ _)); exact BK101.out⟩, ⟨by repeat (with_reducible first | exact HB.out | apply below_alloc | apply pw_below_drewN | apply below_drew1)⟩⟩
    ·
     rw [if_neg c9] at H
     have c9b0 : (a0_1.toList == ([42] : List UInt8)) = false := beq_eq_false_iff_ne.mpr c9
     have c9b1 : (a0_1.toList != ([42] : List UInt8)) = true := bne_iff_ne.mpr c9
     replace H := Option.bind_eq_some_iff.mp H
     obtain ⟨t103, A110, H⟩ := H
     replace H : (symtab_right.j0 k (!t103) a0_0 a0_1 a0_2 a0_3 a0_4 a0_5) = some r := H
     have A11 := Aside0.mk A110
     clear A110
     have H' := Aside0.mk H
     clear H
     have hcz12_0 : w4.cell? ⟨gb101, 0, none⟩ = some (.string a0_0) := (blk_cell BK101.out 0).trans rfl
     have hcz12_1 : w4.cell? ⟨gb101, 1, none⟩ = some (.string a0_1) := (blk_cell BK101.out 1).trans rfl
     have hcz12_2 : w4.cell? ⟨gb101, 2, none⟩ = some (.int .i64 a0_2) := (blk_cell BK101.out 2).trans rfl
     have hcz12_3 : w4.cell? ⟨gb101, 3, none⟩ = some (.int .i64 a0_3) := (blk_cell BK101.out 3).trans rfl
     have hcz12_4 : w4.cell? ⟨gb101, 4, none⟩ = some (.int .i64 a0_4) := (blk_cell BK101.out 4).trans rfl
     have hcz12_5 : w4.cell? ⟨gb101, 5, none⟩ = some (.int .i64 a0_5) := (blk_cell BK101.out 5).trans rfl
     have hfz12_0 := blk_frozen BK101.out 0
     have hfz12_1 := blk_frozen BK101.out 1
     have hfz12_2 := blk_frozen BK101.out 2
     have hfz12_3 := blk_frozen BK101.out 3
     have hfz12_4 := blk_frozen BK101.out 4
     have hfz12_5 := blk_frozen BK101.out 5
     go_wp2_with (first | ((with_reducible refine gate_callee (f := 37) rfl ?_); refine goesL_ (some 7) rfl rfl Try.func37 (by kernel_rfl) rfl #[.string a0_0] rfl (by (try simp only [List.map_toArray, List.map_cons, List.map_nil]); first | done | rfl | (simp only [List.length_drop, List.length_take]; rfl)) ?_; (with_reducible refine (symtab_plain.calls a0_0 true _ A5.out).mono ?_); rintro e w' ⟨rfl, ⟨nd, rfl⟩⟩; refine ⟨_, rfl, ?_⟩) | (go_at_call 38; (with_reducible refine (slices_Contains_string_string.calls k _ _ l1 a0_1 t103 _ ?side1 ?side2 A11.out).mono ?_); (case side1 => repeat (first | exact (Kd.C_below HR1.out (by repeat (with_reducible first | exact HB.out | apply below_alloc | apply pw_below_drewN | apply below_drew1))) | (with_reducible refine Kd.C_alloc ?_ _) | (with_reducible refine Kd.C_drewN ?_ _) | (with_reducible refine Kd.C_drew ?_))); (case side2 => exact HC1.out); rintro e w' ⟨rfl, ⟨nd, rfl⟩⟩))
     go_meet
     case rel => exact ⟨_, (!t103), (by first | rfl | (simp; done) | (simp [*]; done) | (simp [show ∀ l_ : List UInt8, (l_ != []) = !l_.isEmpty from fun l_ => by cases l_ <;> rfl]; done) | (congr 1; refine congr (congrArg (Go.bits _ _) ?_) ?_ <;> omega)), H', ⟨by first | omega | exact Nat.le_refl _⟩, ⟨by (with_reducible repeat (first | refine blk_drewN ?_ _ | refine blk_drew ?_ | refine blk_alloc ?_ _)); exact BK101.out⟩, ⟨by repeat (with_reducible first | exact HB.out | apply below_alloc | apply pw_below_drewN | apply below_drew1)⟩⟩
  ·
   replace c6 := Bool.eq_false_iff.mpr c6
   subst c6
   have H1 : (symtab_right.j0 k true a0_0 a0_1 a0_2 a0_3 a0_4 a0_5) = some r := by rw [if_neg (show ¬ (false = true) by decide)] at H; exact H
   clear H
   have H := H1
   clear H1
   have H' := Aside0.mk H
   clear H
   have hcz13_0 : w4.cell? ⟨gb101, 0, none⟩ = some (.string a0_0) := (blk_cell BK101.out 0).trans rfl
   have hcz13_1 : w4.cell? ⟨gb101, 1, none⟩ = some (.string a0_1) := (blk_cell BK101.out 1).trans rfl
   have hcz13_2 : w4.cell? ⟨gb101, 2, none⟩ = some (.int .i64 a0_2) := (blk_cell BK101.out 2).trans rfl
   have hcz13_3 : w4.cell? ⟨gb101, 3, none⟩ = some (.int .i64 a0_3) := (blk_cell BK101.out 3).trans rfl
   have hcz13_4 : w4.cell? ⟨gb101, 4, none⟩ = some (.int .i64 a0_4) := (blk_cell BK101.out 4).trans rfl
   have hcz13_5 : w4.cell? ⟨gb101, 5, none⟩ = some (.int .i64 a0_5) := (blk_cell BK101.out 5).trans rfl
   have hfz13_0 := blk_frozen BK101.out 0
   have hfz13_1 := blk_frozen BK101.out 1
   have hfz13_2 := blk_frozen BK101.out 2
   have hfz13_3 := blk_frozen BK101.out 3
   have hfz13_4 := blk_frozen BK101.out 4
   have hfz13_5 := blk_frozen BK101.out 5
   go_wp2_with (first | ((with_reducible refine gate_callee (f := 37) rfl ?_); refine goesL_ (some 7) rfl rfl Try.func37 (by kernel_rfl) rfl #[.string a0_0] rfl (by (try simp only [List.map_toArray, List.map_cons, List.map_nil]); first | done | rfl | (simp only [List.length_drop, List.length_take]; rfl)) ?_; (with_reducible refine (symtab_plain.calls a0_0 false _ A5.out).mono ?_); rintro e w' ⟨rfl, ⟨nd, rfl⟩⟩; refine ⟨_, rfl, ?_⟩))
   go_meet
   case rel => exact ⟨_, (true), (by first | rfl | (simp; done) | (simp [*]; done) | (simp [show ∀ l_ : List UInt8, (l_ != []) = !l_.isEmpty from fun l_ => by cases l_ <;> rfl]; done) | (congr 1; refine congr (congrArg (Go.bits _ _) ?_) ?_ <;> omega)), H', ⟨by first | omega | exact Nat.le_refl _⟩, ⟨by (with_reducible repeat (first | refine blk_drewN ?_ _ | refine blk_drew ?_ | refine blk_alloc ?_ _)); exact BK101.out⟩, ⟨by repeat (with_reducible first | exact HB.out | apply below_alloc | apply pw_below_drewN | apply below_drew1)⟩⟩
 case rest =>
  clear HC3
  try clear c1
  try clear p2
  try clear c3
  try clear c6
  try clear c7
  try clear c7b0
  try clear c7b1
  try clear c9
  try clear c9b0
  try clear c9b1
  try clear hcz10_0
  try clear hcz10_1
  try clear hcz10_2
  try clear hcz10_3
  try clear hcz10_4
  try clear hcz10_5
  try clear hcz12_0
  try clear hcz12_1
  try clear hcz12_2
  try clear hcz12_3
  try clear hcz12_4
  try clear hcz12_5
  try clear hcz13_0
  try clear hcz13_1
  try clear hcz13_2
  try clear hcz13_3
  try clear hcz13_4
  try clear hcz13_5
  try clear hcz8_0
  try clear hcz8_1
  try clear hcz8_2
  try clear hcz8_3
  try clear hcz8_4
  try clear hcz8_5
  try clear hfz10_0
  try clear hfz10_1
  try clear hfz10_2
  try clear hfz10_3
  try clear hfz10_4
  try clear hfz10_5
  try clear hfz12_0
  try clear hfz12_1
  try clear hfz12_2
  try clear hfz12_3
  try clear hfz12_4
  try clear hfz12_5
  try clear hfz13_0
  try clear hfz13_1
  try clear hfz13_2
  try clear hfz13_3
  try clear hfz13_4
  try clear hfz13_5
  try clear hfz8_0
  try clear hfz8_1
  try clear hfz8_2
  try clear hfz8_3
  try clear hfz8_4
  try clear hfz8_5
  obtain ⟨kq, x25_2, rfl, HA, HJ2, BK101, HB⟩ := hcut
  cases kq with
  | zero => exact absurd HA.out (by simp [symtab_right.j0])
  | succ kj2 =>
   have H := HA.out
   clear HA
   simp only [symtab_right.j0] at H
   by_cases c14 : x25_2 = true
   ·
    subst c14
    have H1 : (some false) = some r := by rw [if_pos rfl] at H; exact H
    clear H
    have H := H1
    clear H1
    obtain rfl := Option.some.inj H
    go_wp2
    go_ret
    exact ⟨rfl, by repeat (with_reducible first | exact HB.out | apply below_alloc | apply pw_below_drewN | apply below_drew1)⟩
   ·
    replace c14 := Bool.eq_false_iff.mpr c14
    subst c14
    have H1 : (if a0_2 < 0 then (symtab_right.j1 kj2 true a0_0 a0_1 a0_2 a0_3 a0_4 a0_5) else (if a0_2 > 4611686018427387904 then (symtab_right.j1 kj2 true a0_0 a0_1 a0_2 a0_3 a0_4 a0_5) else (if a0_3 < 0 then (symtab_right.j1 kj2 true a0_0 a0_1 a0_2 a0_3 a0_4 a0_5) else (if a0_3 > 4611686018427387904 then (symtab_right.j1 kj2 true a0_0 a0_1 a0_2 a0_3 a0_4 a0_5) else (if a0_4 < 0 then (symtab_right.j1 kj2 true a0_0 a0_1 a0_2 a0_3 a0_4 a0_5) else (symtab_right.j1 kj2 (decide (a0_4 > 2)) a0_0 a0_1 a0_2 a0_3 a0_4 a0_5)))))) = some r := by rw [if_neg (show ¬ (false = true) by decide)] at H; exact H
    clear H
    have H := H1
    clear H1
    have HC15 := Aside0.mk H
    clear H
    go_upto_region 3 with (fail)
    go_cut [53] (fun v53 wc => ∃ (kq : Nat) (x53_14 : Bool), v53 = .bool x53_14 ∧ Aside0 (symtab_right.j1 kq x53_14 a0_0 a0_1 a0_2 a0_3 a0_4 a0_5 = some r) ∧ Aside0 (kq ≤ kj2) ∧ Aside0 (wc.heap[gb101]? = some (.cells #[.string a0_0, .string a0_1, .int .i64 a0_2, .int .i64 a0_3, .int .i64 a0_4, .int .i64 a0_5] 58 (0, 0))) ∧ Aside0 (Below w.heap.size w wc))
    case first =>
     have H := HC15.out
     clear HC15
     by_cases c16 : a0_2 < 0
     ·
      rw [if_pos c16] at H
      have c16b0 : decide (a0_2 < 0) = true := decide_eq_true c16
      clear c16
      (first | rw [c16b0] | (simp only [i64_w, i32_w]; rw [c16b0]) | skip)
      have H' := Aside0.mk H
      clear H
      have hcz17_0 : wc.cell? ⟨gb101, 0, none⟩ = some (.string a0_0) := (blk_cell BK101.out 0).trans rfl
      have hcz17_1 : wc.cell? ⟨gb101, 1, none⟩ = some (.string a0_1) := (blk_cell BK101.out 1).trans rfl
      have hcz17_2 : wc.cell? ⟨gb101, 2, none⟩ = some (.int .i64 a0_2) := (blk_cell BK101.out 2).trans rfl
      have hcz17_3 : wc.cell? ⟨gb101, 3, none⟩ = some (.int .i64 a0_3) := (blk_cell BK101.out 3).trans rfl
      have hcz17_4 : wc.cell? ⟨gb101, 4, none⟩ = some (.int .i64 a0_4) := (blk_cell BK101.out 4).trans rfl
      have hcz17_5 : wc.cell? ⟨gb101, 5, none⟩ = some (.int .i64 a0_5) := (blk_cell BK101.out 5).trans rfl
      have hfz17_0 := blk_frozen BK101.out 0
      have hfz17_1 := blk_frozen BK101.out 1
      have hfz17_2 := blk_frozen BK101.out 2
      have hfz17_3 := blk_frozen BK101.out 3
      have hfz17_4 := blk_frozen BK101.out 4
      have hfz17_5 := blk_frozen BK101.out 5
      go_wp2
      go_meet
      case rel => exact ⟨_, (true), (by first | rfl | (simp; done) | (simp [*]; done) | (simp [show ∀ l_ : List UInt8, (l_ != []) = !l_.isEmpty from fun l_ => by cases l_ <;> rfl]; done) | (congr 1; refine congr (congrArg (Go.bits _ _) ?_) ?_ <;> omega)), H', ⟨by have := HJ2.out; first | omega | exact Nat.le_refl _⟩, ⟨by (with_reducible repeat (first | refine blk_drewN ?_ _ | refine blk_drew ?_ | refine blk_alloc ?_ _)); exact BK101.out⟩, ⟨by repeat (with_reducible first | exact HB.out | apply below_alloc | apply pw_below_drewN | apply below_drew1)⟩⟩
     ·
      rw [if_neg c16] at H
      have c16b0 : decide (a0_2 < 0) = false := decide_eq_false c16
      clear c16
      (first | rw [c16b0] | (simp only [i64_w, i32_w]; rw [c16b0]) | skip)
      by_cases c18 : a0_2 > 4611686018427387904
      ·
       rw [if_pos c18] at H
       have c18b0 : decide (4611686018427387904 < a0_2) = true := decide_eq_true c18
       clear c18
       have H' := Aside0.mk H
       clear H
       have hcz19_0 : wc.cell? ⟨gb101, 0, none⟩ = some (.string a0_0) := (blk_cell BK101.out 0).trans rfl
       have hcz19_1 : wc.cell? ⟨gb101, 1, none⟩ = some (.string a0_1) := (blk_cell BK101.out 1).trans rfl
       have hcz19_2 : wc.cell? ⟨gb101, 2, none⟩ = some (.int .i64 a0_2) := (blk_cell BK101.out 2).trans rfl
       have hcz19_3 : wc.cell? ⟨gb101, 3, none⟩ = some (.int .i64 a0_3) := (blk_cell BK101.out 3).trans rfl
       have hcz19_4 : wc.cell? ⟨gb101, 4, none⟩ = some (.int .i64 a0_4) := (blk_cell BK101.out 4).trans rfl
       have hcz19_5 : wc.cell? ⟨gb101, 5, none⟩ = some (.int .i64 a0_5) := (blk_cell BK101.out 5).trans rfl
       have hfz19_0 := blk_frozen BK101.out 0
       have hfz19_1 := blk_frozen BK101.out 1
       have hfz19_2 := blk_frozen BK101.out 2
       have hfz19_3 := blk_frozen BK101.out 3
       have hfz19_4 := blk_frozen BK101.out 4
       have hfz19_5 := blk_frozen BK101.out 5
       go_wp2
       go_meet
       case rel => exact ⟨_, (true), (by first | rfl | (simp; done) | (simp [*]; done) | (simp [show ∀ l_ : List UInt8, (l_ != []) = !l_.isEmpty from fun l_ => by cases l_ <;> rfl]; done) | (congr 1; refine congr (congrArg (Go.bits _ _) ?_) ?_ <;> omega)), H', ⟨by have := HJ2.out; first | omega | exact Nat.le_refl _⟩, ⟨by (with_reducible repeat (first | refine blk_drewN ?_ _ | refine blk_drew ?_ | refine blk_alloc ?_ _)); exact BK101.out⟩, ⟨by repeat (with_reducible first | exact HB.out | apply below_alloc | apply pw_below_drewN | apply below_drew1)⟩⟩
      ·
       rw [if_neg c18] at H
       have c18b0 : decide (4611686018427387904 < a0_2) = false := decide_eq_false c18
       clear c18
       by_cases c20 : a0_3 < 0
       ·
        rw [if_pos c20] at H
        have c20b0 : decide (a0_3 < 0) = true := decide_eq_true c20
        clear c20
        have H' := Aside0.mk H
        clear H
        have hcz21_0 : wc.cell? ⟨gb101, 0, none⟩ = some (.string a0_0) := (blk_cell BK101.out 0).trans rfl
        have hcz21_1 : wc.cell? ⟨gb101, 1, none⟩ = some (.string a0_1) := (blk_cell BK101.out 1).trans rfl
        have hcz21_2 : wc.cell? ⟨gb101, 2, none⟩ = some (.int .i64 a0_2) := (blk_cell BK101.out 2).trans rfl
        have hcz21_3 : wc.cell? ⟨gb101, 3, none⟩ = some (.int .i64 a0_3) := (blk_cell BK101.out 3).trans rfl
        have hcz21_4 : wc.cell? ⟨gb101, 4, none⟩ = some (.int .i64 a0_4) := (blk_cell BK101.out 4).trans rfl
        have hcz21_5 : wc.cell? ⟨gb101, 5, none⟩ = some (.int .i64 a0_5) := (blk_cell BK101.out 5).trans rfl
        have hfz21_0 := blk_frozen BK101.out 0
        have hfz21_1 := blk_frozen BK101.out 1
        have hfz21_2 := blk_frozen BK101.out 2
        have hfz21_3 := blk_frozen BK101.out 3
        have hfz21_4 := blk_frozen BK101.out 4
        have hfz21_5 := blk_frozen BK101.out 5
        go_wp2
        go_meet
        case rel => exact ⟨_, (true), (by first | rfl | (simp; done) | (simp [*]; done) | (simp [show ∀ l_ : List UInt8, (l_ != []) = !l_.isEmpty from fun l_ => by cases l_ <;> rfl]; done) | (congr 1; refine congr (congrArg (Go.bits _ _) ?_) ?_ <;> omega)), H', ⟨by have := HJ2.out; first | omega | exact Nat.le_refl _⟩, ⟨by (with_reducible repeat (first | refine blk_drewN ?_ _ | refine blk_drew ?_ | refine blk_alloc ?_ _)); exact BK101.out⟩, ⟨by repeat (with_reducible first | exact HB.out | apply below_alloc | apply pw_below_drewN | apply below_drew1)⟩⟩
       ·
        rw [if_neg c20] at H
        have c20b0 : decide (a0_3 < 0) = false := decide_eq_false c20
        clear c20
        by_cases c22 : a0_3 > 4611686018427387904
        ·
         rw [if_pos c22] at H
         have c22b0 : decide (4611686018427387904 < a0_3) = true := decide_eq_true c22
         clear c22
         have H' := Aside0.mk H
         clear H
         have hcz23_0 : wc.cell? ⟨gb101, 0, none⟩ = some (.string a0_0) := (blk_cell BK101.out 0).trans rfl
         have hcz23_1 : wc.cell? ⟨gb101, 1, none⟩ = some (.string a0_1) := (blk_cell BK101.out 1).trans rfl
         have hcz23_2 : wc.cell? ⟨gb101, 2, none⟩ = some (.int .i64 a0_2) := (blk_cell BK101.out 2).trans rfl
         have hcz23_3 : wc.cell? ⟨gb101, 3, none⟩ = some (.int .i64 a0_3) := (blk_cell BK101.out 3).trans rfl
         have hcz23_4 : wc.cell? ⟨gb101, 4, none⟩ = some (.int .i64 a0_4) := (blk_cell BK101.out 4).trans rfl
         have hcz23_5 : wc.cell? ⟨gb101, 5, none⟩ = some (.int .i64 a0_5) := (blk_cell BK101.out 5).trans rfl
         have hfz23_0 := blk_frozen BK101.out 0
         have hfz23_1 := blk_frozen BK101.out 1
         have hfz23_2 := blk_frozen BK101.out 2
         have hfz23_3 := blk_frozen BK101.out 3
         have hfz23_4 := blk_frozen BK101.out 4
         have hfz23_5 := blk_frozen BK101.out 5
         go_wp2
         go_meet
         case rel => exact ⟨_, (true), (by first | rfl | (simp; done) | (simp [*]; done) | (simp [show ∀ l_ : List UInt8, (l_ != []) = !l_.isEmpty from fun l_ => by cases l_ <;> rfl]; done) | (congr 1; refine congr (congrArg (Go.bits _ _) ?_) ?_ <;> omega)), H', ⟨by have := HJ2.out; first | omega | exact Nat.le_refl _⟩, ⟨by (with_reducible repeat (first | refine blk_drewN ?_ _ | refine blk_drew ?_ | refine blk_alloc ?_ _)); exact BK101.out⟩, ⟨by repeat (with_reducible first | exact HB.out | apply below_alloc | apply pw_below_drewN | apply below_drew1)⟩⟩
        ·
         rw [if_neg c22] at H
         have c22b0 : decide (4611686018427387904 < a0_3) = false := decide_eq_false c22
         clear c22
         by_cases c24 : a0_4 < 0
         ·
          rw [if_pos c24] at H
          have c24b0 : decide (a0_4 < 0) = true := decide_eq_true c24
          clear c24
          have H' := Aside0.mk H
          clear H
          have hcz25_0 : wc.cell? ⟨gb101, 0, none⟩ = some (.string a0_0) := (blk_cell BK101.out 0).trans rfl
          have hcz25_1 : wc.cell? ⟨gb101, 1, none⟩ = some (.string a0_1) := (blk_cell BK101.out 1).trans rfl
          have hcz25_2 : wc.cell? ⟨gb101, 2, none⟩ = some (.int .i64 a0_2) := (blk_cell BK101.out 2).trans rfl
          have hcz25_3 : wc.cell? ⟨gb101, 3, none⟩ = some (.int .i64 a0_3) := (blk_cell BK101.out 3).trans rfl
          have hcz25_4 : wc.cell? ⟨gb101, 4, none⟩ = some (.int .i64 a0_4) := (blk_cell BK101.out 4).trans rfl
          have hcz25_5 : wc.cell? ⟨gb101, 5, none⟩ = some (.int .i64 a0_5) := (blk_cell BK101.out 5).trans rfl
          have hfz25_0 := blk_frozen BK101.out 0
          have hfz25_1 := blk_frozen BK101.out 1
          have hfz25_2 := blk_frozen BK101.out 2
          have hfz25_3 := blk_frozen BK101.out 3
          have hfz25_4 := blk_frozen BK101.out 4
          have hfz25_5 := blk_frozen BK101.out 5
          go_wp2
          go_meet
          case rel => exact ⟨_, (true), (by first | rfl | (simp; done) | (simp [*]; done) | (simp [show ∀ l_ : List UInt8, (l_ != []) = !l_.isEmpty from fun l_ => by cases l_ <;> rfl]; done) | (congr 1; refine congr (congrArg (Go.bits _ _) ?_) ?_ <;> omega)), H', ⟨by have := HJ2.out; first | omega | exact Nat.le_refl _⟩, ⟨by (with_reducible repeat (first | refine blk_drewN ?_ _ | refine blk_drew ?_ | refine blk_alloc ?_ _)); exact BK101.out⟩, ⟨by repeat (with_reducible first | exact HB.out | apply below_alloc | apply pw_below_drewN | apply below_drew1)⟩⟩
         ·
          rw [if_neg c24] at H
          have c24b0 : decide (a0_4 < 0) = false := decide_eq_false c24
          clear c24
          have H' := Aside0.mk H
          clear H
          have hcz26_0 : wc.cell? ⟨gb101, 0, none⟩ = some (.string a0_0) := (blk_cell BK101.out 0).trans rfl
          have hcz26_1 : wc.cell? ⟨gb101, 1, none⟩ = some (.string a0_1) := (blk_cell BK101.out 1).trans rfl
          have hcz26_2 : wc.cell? ⟨gb101, 2, none⟩ = some (.int .i64 a0_2) := (blk_cell BK101.out 2).trans rfl
          have hcz26_3 : wc.cell? ⟨gb101, 3, none⟩ = some (.int .i64 a0_3) := (blk_cell BK101.out 3).trans rfl
          have hcz26_4 : wc.cell? ⟨gb101, 4, none⟩ = some (.int .i64 a0_4) := (blk_cell BK101.out 4).trans rfl
          have hcz26_5 : wc.cell? ⟨gb101, 5, none⟩ = some (.int .i64 a0_5) := (blk_cell BK101.out 5).trans rfl
          have hfz26_0 := blk_frozen BK101.out 0
          have hfz26_1 := blk_frozen BK101.out 1
          have hfz26_2 := blk_frozen BK101.out 2
          have hfz26_3 := blk_frozen BK101.out 3
          have hfz26_4 := blk_frozen BK101.out 4
          have hfz26_5 := blk_frozen BK101.out 5
          go_wp2
          go_meet
          case rel => exact ⟨_, (decide (a0_4 > 2)), (by first | rfl | (simp; done) | (simp [*]; done) | (simp [show ∀ l_ : List UInt8, (l_ != []) = !l_.isEmpty from fun l_ => by cases l_ <;> rfl]; done) | (congr 1; refine congr (congrArg (Go.bits _ _) ?_) ?_ <;> omega)), H', ⟨by have := HJ2.out; first | omega | exact Nat.le_refl _⟩, ⟨by (with_reducible repeat (first | refine blk_drewN ?_ _ | refine blk_drew ?_ | refine blk_alloc ?_ _)); exact BK101.out⟩, ⟨by repeat (with_reducible first | exact HB.out | apply below_alloc | apply pw_below_drewN | apply below_drew1)⟩⟩
    case rest =>
     clear HC15
     try clear c1
     try clear c2
     try clear p2
     try clear c3
     try clear c6
     try clear c7
     try clear c7b0
     try clear c7b1
     try clear c9
     try clear c9b0
     try clear c9b1
     try clear c14
     try clear c16
     try clear c16b0
     try clear c18
     try clear c18b0
     try clear c20
     try clear c20b0
     try clear c22
     try clear c22b0
     try clear c24
     try clear c24b0
     try clear hcz10_0
     try clear hcz10_1
     try clear hcz10_2
     try clear hcz10_3
     try clear hcz10_4
     try clear hcz10_5
     try clear hcz12_0
     try clear hcz12_1
     try clear hcz12_2
     try clear hcz12_3
     try clear hcz12_4
     try clear hcz12_5
     try clear hcz13_0
     try clear hcz13_1
     try clear hcz13_2
     try clear hcz13_3
     try clear hcz13_4
     try clear hcz13_5
     try clear hcz17_0
     try clear hcz17_1
     try clear hcz17_2
     try clear hcz17_3
     try clear hcz17_4
     try clear hcz17_5
     try clear hcz19_0
     try clear hcz19_1
     try clear hcz19_2
     try clear hcz19_3
     try clear hcz19_4
     try clear hcz19_5
     try clear hcz21_0
     try clear hcz21_1
     try clear hcz21_2
     try clear hcz21_3
     try clear hcz21_4
     try clear hcz21_5
     try clear hcz23_0
     try clear hcz23_1
     try clear hcz23_2
     try clear hcz23_3
     try clear hcz23_4
     try clear hcz23_5
     try clear hcz25_0
     try clear hcz25_1
     try clear hcz25_2
     try clear hcz25_3
     try clear hcz25_4
     try clear hcz25_5
     try clear hcz26_0
     try clear hcz26_1
     try clear hcz26_2
     try clear hcz26_3
     try clear hcz26_4
     try clear hcz26_5
     try clear hcz8_0
     try clear hcz8_1
     try clear hcz8_2
     try clear hcz8_3
     try clear hcz8_4
     try clear hcz8_5
     try clear hfz10_0
     try clear hfz10_1
     try clear hfz10_2
     try clear hfz10_3
     try clear hfz10_4
     try clear hfz10_5
     try clear hfz12_0
     try clear hfz12_1
     try clear hfz12_2
     try clear hfz12_3
     try clear hfz12_4
     try clear hfz12_5
     try clear hfz13_0
     try clear hfz13_1
     try clear hfz13_2
     try clear hfz13_3
     try clear hfz13_4
     try clear hfz13_5
     try clear hfz17_0
     try clear hfz17_1
     try clear hfz17_2
     try clear hfz17_3
     try clear hfz17_4
     try clear hfz17_5
     try clear hfz19_0
     try clear hfz19_1
     try clear hfz19_2
     try clear hfz19_3
     try clear hfz19_4
     try clear hfz19_5
     try clear hfz21_0
     try clear hfz21_1
     try clear hfz21_2
     try clear hfz21_3
     try clear hfz21_4
     try clear hfz21_5
     try clear hfz23_0
     try clear hfz23_1
     try clear hfz23_2
     try clear hfz23_3
     try clear hfz23_4
     try clear hfz23_5
     try clear hfz25_0
     try clear hfz25_1
     try clear hfz25_2
     try clear hfz25_3
     try clear hfz25_4
     try clear hfz25_5
     try clear hfz26_0
     try clear hfz26_1
     try clear hfz26_2
     try clear hfz26_3
     try clear hfz26_4
     try clear hfz26_5
     try clear hfz8_0
     try clear hfz8_1
     try clear hfz8_2
     try clear hfz8_3
     try clear hfz8_4
     try clear hfz8_5
     try clear p2
     obtain ⟨kq, x53_14, rfl, HA, HJ14, BK101, HB⟩ := hcut
     cases kq with
     | zero => exact absurd HA.out (by simp [symtab_right.j1])
     | succ kj14 =>
      have H := HA.out
      clear HA
      simp only [symtab_right.j1] at H
      by_cases c27 : x53_14 = true
      ·
       subst c27
       have H1 : (some false) = some r := by rw [if_pos rfl] at H; exact H
       clear H
       have H := H1
       clear H1
       obtain rfl := Option.some.inj H
       go_wp2
       go_ret
       exact ⟨rfl, by repeat (with_reducible first | exact HB.out | apply below_alloc | apply pw_below_drewN | apply below_drew1)⟩
      ·
       replace c27 := Bool.eq_false_iff.mpr c27
       subst c27
       have H1 : (if a0_5 = 0 then (symtab_right.j2 kj14 (a0_5 == 0) a0_0 a0_1 a0_2 a0_3 a0_4 a0_5) else (if a0_5 = 1 then (symtab_right.j2 kj14 (a0_5 == 1) a0_0 a0_1 a0_2 a0_3 a0_4 a0_5) else (if a0_5 = 2 then (symtab_right.j2 kj14 (a0_5 == 2) a0_0 a0_1 a0_2 a0_3 a0_4 a0_5) else (if a0_5 = 6 then (symtab_right.j2 kj14 (a0_5 == 6) a0_0 a0_1 a0_2 a0_3 a0_4 a0_5) else (symtab_right.j2 kj14 (a0_5 == 10) a0_0 a0_1 a0_2 a0_3 a0_4 a0_5))))) = some r := by rw [if_neg (show ¬ (false = true) by decide)] at H; exact H
       clear H
       have H := H1
       clear H1
       have HC28 := Aside0.mk H
       clear H
       have hcz29_0 : wc.cell? ⟨gb101, 0, none⟩ = some (.string a0_0) := (blk_cell BK101.out 0).trans rfl
       have hcz29_1 : wc.cell? ⟨gb101, 1, none⟩ = some (.string a0_1) := (blk_cell BK101.out 1).trans rfl
       have hcz29_2 : wc.cell? ⟨gb101, 2, none⟩ = some (.int .i64 a0_2) := (blk_cell BK101.out 2).trans rfl
       have hcz29_3 : wc.cell? ⟨gb101, 3, none⟩ = some (.int .i64 a0_3) := (blk_cell BK101.out 3).trans rfl
       have hcz29_4 : wc.cell? ⟨gb101, 4, none⟩ = some (.int .i64 a0_4) := (blk_cell BK101.out 4).trans rfl
       have hcz29_5 : wc.cell? ⟨gb101, 5, none⟩ = some (.int .i64 a0_5) := (blk_cell BK101.out 5).trans rfl
       have hfz29_0 := blk_frozen BK101.out 0
       have hfz29_1 := blk_frozen BK101.out 1
       have hfz29_2 := blk_frozen BK101.out 2
       have hfz29_3 := blk_frozen BK101.out 3
       have hfz29_4 := blk_frozen BK101.out 4
       have hfz29_5 := blk_frozen BK101.out 5
       go_upto_if 56 with (fail)
       go_cut [56] (fun v56 wc => ∃ (kq : Nat) (x56_27 : Bool), v56 = .bool x56_27 ∧ Aside0 (symtab_right.j2 kq x56_27 a0_0 a0_1 a0_2 a0_3 a0_4 a0_5 = some r) ∧ Aside0 (kq ≤ kj14) ∧ Aside0 (wc.heap[gb101]? = some (.cells #[.string a0_0, .string a0_1, .int .i64 a0_2, .int .i64 a0_3, .int .i64 a0_4, .int .i64 a0_5] 58 (0, 0))) ∧ Aside0 (Below w.heap.size w wc))
       case first =>
        have H := HC28.out
        clear HC28
        by_cases c30 : a0_5 = 0
        ·
         rw [if_pos c30] at H
         have c30b0 : (a0_5 == 0) = true := beq_iff_eq.mpr c30
         have c30b1 : (a0_5 != 0) = false := bne_eq_false_iff_eq.mpr c30
         clear c30
         (first | rw [c30b0] | (simp only [i64_w, i32_w]; rw [c30b0]) | skip)
         have H' := Aside0.mk H
         clear H
         go_wp2
         go_meet
         case rel => exact ⟨_, ((a0_5 == 0)), (by first | rfl | (simp; done) | (simp [*]; done) | (simp [show ∀ l_ : List UInt8, (l_ != []) = !l_.isEmpty from fun l_ => by cases l_ <;> rfl]; done) | (congr 1; refine congr (congrArg (Go.bits _ _) ?_) ?_ <;> omega)), H', ⟨by have := HJ2.out; have := HJ14.out; first | omega | exact Nat.le_refl _⟩, ⟨by (with_reducible repeat (first | refine blk_drewN ?_ _ | refine blk_drew ?_ | refine blk_alloc ?_ _)); exact BK101.out⟩, ⟨by repeat (with_reducible first | exact HB.out | apply below_alloc | apply pw_below_drewN | apply below_drew1)⟩⟩
        ·
         rw [if_neg c30] at H
         have c30b0 : (a0_5 == 0) = false := beq_eq_false_iff_ne.mpr c30
         have c30b1 : (a0_5 != 0) = true := bne_iff_ne.mpr c30
         (first | rw [c30b0] | (simp only [i64_w, i32_w]; rw [c30b0]) | skip)
         by_cases c31 : a0_5 = 1
         ·
          rw [if_pos c31] at H
          have c31b0 : (a0_5 == 1) = true := beq_iff_eq.mpr c31
          have c31b1 : (a0_5 != 1) = false := bne_eq_false_iff_eq.mpr c31
          clear c31
          have H' := Aside0.mk H
          clear H
          go_wp2
          go_meet
          case rel => exact ⟨_, ((a0_5 == 1)), (by first | rfl | (simp; done) | (simp [*]; done) | (simp [show ∀ l_ : List UInt8, (l_ != []) = !l_.isEmpty from fun l_ => by cases l_ <;> rfl]; done) | (congr 1; refine congr (congrArg (Go.bits _ _) ?_) ?_ <;> omega)), H', ⟨by have := HJ2.out; have := HJ14.out; first | omega | exact Nat.le_refl _⟩, ⟨by (with_reducible repeat (first | refine blk_drewN ?_ _ | refine blk_drew ?_ | refine blk_alloc ?_ _)); exact BK101.out⟩, ⟨by repeat (with_reducible first | exact HB.out | apply below_alloc | apply pw_below_drewN | apply below_drew1)⟩⟩
         ·
          rw [if_neg c31] at H
          have c31b0 : (a0_5 == 1) = false := beq_eq_false_iff_ne.mpr c31
          have c31b1 : (a0_5 != 1) = true := bne_iff_ne.mpr c31
          by_cases c32 : a0_5 = 2
          ·
           rw [if_pos c32] at H
           have c32b0 : (a0_5 == 2) = true := beq_iff_eq.mpr c32
           have c32b1 : (a0_5 != 2) = false := bne_eq_false_iff_eq.mpr c32
           clear c32
           have H' := Aside0.mk H
           clear H
           go_wp2
           go_meet
           case rel => exact ⟨_, ((a0_5 == 2)), (by first | rfl | (simp; done) | (simp [*]; done) | (simp [show ∀ l_ : List UInt8, (l_ != []) = !l_.isEmpty from fun l_ => by cases l_ <;> rfl]; done) | (congr 1; refine congr (congrArg (Go.bits _ _) ?_) ?_ <;> omega)), H', ⟨by have := HJ2.out; have := HJ14.out; first | omega | exact Nat.le_refl _⟩, ⟨by (with_reducible repeat (first | refine blk_drewN ?_ _ | refine blk_drew ?_ | refine blk_alloc ?_ _)); exact BK101.out⟩, ⟨by repeat (with_reducible first | exact HB.out | apply below_alloc | apply pw_below_drewN | apply below_drew1)⟩⟩
          ·
           rw [if_neg c32] at H
           have c32b0 : (a0_5 == 2) = false := beq_eq_false_iff_ne.mpr c32
           have c32b1 : (a0_5 != 2) = true := bne_iff_ne.mpr c32
           by_cases c33 : a0_5 = 6
           ·
            rw [if_pos c33] at H
            have c33b0 : (a0_5 == 6) = true := beq_iff_eq.mpr c33
            have c33b1 : (a0_5 != 6) = false := bne_eq_false_iff_eq.mpr c33
            clear c33
            have H' := Aside0.mk H
            clear H
            go_wp2
            go_meet
            case rel => exact ⟨_, ((a0_5 == 6)), (by first | rfl | (simp; done) | (simp [*]; done) | (simp [show ∀ l_ : List UInt8, (l_ != []) = !l_.isEmpty from fun l_ => by cases l_ <;> rfl]; done) | (congr 1; refine congr (congrArg (Go.bits _ _) ?_) ?_ <;> omega)), H', ⟨by have := HJ2.out; have := HJ14.out; first | omega | exact Nat.le_refl _⟩, ⟨by (with_reducible repeat (first | refine blk_drewN ?_ _ | refine blk_drew ?_ | refine blk_alloc ?_ _)); exact BK101.out⟩, ⟨by repeat (with_reducible first | exact HB.out | apply below_alloc | apply pw_below_drewN | apply below_drew1)⟩⟩
           ·
            rw [if_neg c33] at H
            have c33b0 : (a0_5 == 6) = false := beq_eq_false_iff_ne.mpr c33
            have c33b1 : (a0_5 != 6) = true := bne_iff_ne.mpr c33
            have H' := Aside0.mk H
            clear H
            go_wp2
            go_meet
            case rel => exact ⟨_, ((a0_5 == 10)), (by first | rfl | (simp; done) | (simp [*]; done) | (simp [show ∀ l_ : List UInt8, (l_ != []) = !l_.isEmpty from fun l_ => by cases l_ <;> rfl]; done) | (congr 1; refine congr (congrArg (Go.bits _ _) ?_) ?_ <;> omega)), H', ⟨by have := HJ2.out; have := HJ14.out; first | omega | exact Nat.le_refl _⟩, ⟨by (with_reducible repeat (first | refine blk_drewN ?_ _ | refine blk_drew ?_ | refine blk_alloc ?_ _)); exact BK101.out⟩, ⟨by repeat (with_reducible first | exact HB.out | apply below_alloc | apply pw_below_drewN | apply below_drew1)⟩⟩
       case rest =>
        clear HC28
        try clear c1
        try clear c2
        try clear p2
        try clear c3
        try clear c6
        try clear c7
        try clear c7b0
        try clear c7b1
        try clear c9
        try clear c9b0
        try clear c9b1
        try clear c14
        try clear c16
        try clear c16b0
        try clear c18
        try clear c18b0
        try clear c20
        try clear c20b0
        try clear c22
        try clear c22b0
        try clear c24
        try clear c24b0
        try clear c27
        try clear c30
        try clear c30b0
        try clear c30b1
        try clear c31
        try clear c31b0
        try clear c31b1
        try clear c32
        try clear c32b0
        try clear c32b1
        try clear c33
        try clear c33b0
        try clear c33b1
        try clear hcz10_0
        try clear hcz10_1
        try clear hcz10_2
        try clear hcz10_3
        try clear hcz10_4
        try clear hcz10_5
        try clear hcz12_0
        try clear hcz12_1
        try clear hcz12_2
        try clear hcz12_3
        try clear hcz12_4
        try clear hcz12_5
        try clear hcz13_0
        try clear hcz13_1
        try clear hcz13_2
        try clear hcz13_3
        try clear hcz13_4
        try clear hcz13_5
        try clear hcz17_0
        try clear hcz17_1
        try clear hcz17_2
        try clear hcz17_3
        try clear hcz17_4
        try clear hcz17_5
        try clear hcz19_0
        try clear hcz19_1
        try clear hcz19_2
        try clear hcz19_3
        try clear hcz19_4
        try clear hcz19_5
        try clear hcz21_0
        try clear hcz21_1
        try clear hcz21_2
        try clear hcz21_3
        try clear hcz21_4
        try clear hcz21_5
        try clear hcz23_0
        try clear hcz23_1
        try clear hcz23_2
        try clear hcz23_3
        try clear hcz23_4
        try clear hcz23_5
        try clear hcz25_0
        try clear hcz25_1
        try clear hcz25_2
        try clear hcz25_3
        try clear hcz25_4
        try clear hcz25_5
        try clear hcz26_0
        try clear hcz26_1
        try clear hcz26_2
        try clear hcz26_3
        try clear hcz26_4
        try clear hcz26_5
        try clear hcz29_0
        try clear hcz29_1
        try clear hcz29_2
        try clear hcz29_3
        try clear hcz29_4
        try clear hcz29_5
        try clear hcz8_0
        try clear hcz8_1
        try clear hcz8_2
        try clear hcz8_3
        try clear hcz8_4
        try clear hcz8_5
        try clear hfz10_0
        try clear hfz10_1
        try clear hfz10_2
        try clear hfz10_3
        try clear hfz10_4
        try clear hfz10_5
        try clear hfz12_0
        try clear hfz12_1
        try clear hfz12_2
        try clear hfz12_3
        try clear hfz12_4
        try clear hfz12_5
        try clear hfz13_0
        try clear hfz13_1
        try clear hfz13_2
        try clear hfz13_3
        try clear hfz13_4
        try clear hfz13_5
        try clear hfz17_0
        try clear hfz17_1
        try clear hfz17_2
        try clear hfz17_3
        try clear hfz17_4
        try clear hfz17_5
        try clear hfz19_0
        try clear hfz19_1
        try clear hfz19_2
        try clear hfz19_3
        try clear hfz19_4
        try clear hfz19_5
        try clear hfz21_0
        try clear hfz21_1
        try clear hfz21_2
        try clear hfz21_3
        try clear hfz21_4
        try clear hfz21_5
        try clear hfz23_0
        try clear hfz23_1
        try clear hfz23_2
        try clear hfz23_3
        try clear hfz23_4
        try clear hfz23_5
        try clear hfz25_0
        try clear hfz25_1
        try clear hfz25_2
        try clear hfz25_3
        try clear hfz25_4
        try clear hfz25_5
        try clear hfz26_0
        try clear hfz26_1
        try clear hfz26_2
        try clear hfz26_3
        try clear hfz26_4
        try clear hfz26_5
        try clear hfz29_0
        try clear hfz29_1
        try clear hfz29_2
        try clear hfz29_3
        try clear hfz29_4
        try clear hfz29_5
        try clear hfz8_0
        try clear hfz8_1
        try clear hfz8_2
        try clear hfz8_3
        try clear hfz8_4
        try clear hfz8_5
        try clear p2
        obtain ⟨kq, x56_27, rfl, HA, HJ27, BK101, HB⟩ := hcut
        cases kq with
        | zero => exact absurd HA.out (by simp [symtab_right.j2])
        | succ kj27 =>
         have H := HA.out
         clear HA
         simp only [symtab_right.j2] at H
         by_cases c34 : x56_27 = true
         ·
          subst c34
          have H1 : (if a0_1.toList = ([] : List UInt8) then (if a0_4 = 0 then (some false) else (if a0_2 = 0 then (if a0_3 = 0 then (if a0_0.toList = ([] : List UInt8) then (some (a0_4 == 0)) else (some true)) else (some false)) else (some false))) else (if a0_0.toList = ([] : List UInt8) then (some (a0_4 == 0)) else (some true))) = some r := by rw [if_pos rfl] at H; exact H
          clear H
          have H := H1
          clear H1
          by_cases c35 : a0_1.toList = ([] : List UInt8)
          ·
           rw [if_pos c35] at H
           have c35b0 : (a0_1.toList == ([] : List UInt8)) = true := beq_iff_eq.mpr c35
           have c35b1 : (a0_1.toList != ([] : List UInt8)) = false := bne_eq_false_iff_eq.mpr c35
           clear c35
           by_cases c36 : a0_4 = 0
           ·
            rw [if_pos c36] at H
            have c36b0 : (a0_4 == 0) = true := beq_iff_eq.mpr c36
            have c36b1 : (a0_4 != 0) = false := bne_eq_false_iff_eq.mpr c36
            clear c36
            obtain rfl := Option.some.inj H
            have hcz37_0 : wc.cell? ⟨gb101, 0, none⟩ = some (.string a0_0) := (blk_cell BK101.out 0).trans rfl
            have hcz37_1 : wc.cell? ⟨gb101, 1, none⟩ = some (.string a0_1) := (blk_cell BK101.out 1).trans rfl
            have hcz37_2 : wc.cell? ⟨gb101, 2, none⟩ = some (.int .i64 a0_2) := (blk_cell BK101.out 2).trans rfl
            have hcz37_3 : wc.cell? ⟨gb101, 3, none⟩ = some (.int .i64 a0_3) := (blk_cell BK101.out 3).trans rfl
            have hcz37_4 : wc.cell? ⟨gb101, 4, none⟩ = some (.int .i64 a0_4) := (blk_cell BK101.out 4).trans rfl
            have hcz37_5 : wc.cell? ⟨gb101, 5, none⟩ = some (.int .i64 a0_5) := (blk_cell BK101.out 5).trans rfl
            have hfz37_0 := blk_frozen BK101.out 0
            have hfz37_1 := blk_frozen BK101.out 1
            have hfz37_2 := blk_frozen BK101.out 2
            have hfz37_3 := blk_frozen BK101.out 3
            have hfz37_4 := blk_frozen BK101.out 4
            have hfz37_5 := blk_frozen BK101.out 5
            go_wp2
            go_ret
            exact ⟨rfl, by repeat (with_reducible first | exact HB.out | apply below_alloc | apply pw_below_drewN | apply below_drew1)⟩
           ·
            rw [if_neg c36] at H
            have c36b0 : (a0_4 == 0) = false := beq_eq_false_iff_ne.mpr c36
            have c36b1 : (a0_4 != 0) = true := bne_iff_ne.mpr c36
            by_cases c38 : a0_2 = 0
            ·
             rw [if_pos c38] at H
             have c38b0 : (a0_2 == 0) = true := beq_iff_eq.mpr c38
             have c38b1 : (a0_2 != 0) = false := bne_eq_false_iff_eq.mpr c38
             clear c38
             by_cases c39 : a0_3 = 0
             ·
              rw [if_pos c39] at H
              have c39b0 : (a0_3 == 0) = true := beq_iff_eq.mpr c39
              have c39b1 : (a0_3 != 0) = false := bne_eq_false_iff_eq.mpr c39
              clear c39
              by_cases c40 : a0_0.toList = ([] : List UInt8)
              ·
               rw [if_pos c40] at H
               have c40b0 : (a0_0.toList == ([] : List UInt8)) = true := beq_iff_eq.mpr c40
               have c40b1 : (a0_0.toList != ([] : List UInt8)) = false := bne_eq_false_iff_eq.mpr c40
               clear c40
               obtain rfl := Option.some.inj H
               have hcz41_0 : wc.cell? ⟨gb101, 0, none⟩ = some (.string a0_0) := (blk_cell BK101.out 0).trans rfl
               have hcz41_1 : wc.cell? ⟨gb101, 1, none⟩ = some (.string a0_1) := (blk_cell BK101.out 1).trans rfl
               have hcz41_2 : wc.cell? ⟨gb101, 2, none⟩ = some (.int .i64 a0_2) := (blk_cell BK101.out 2).trans rfl
               have hcz41_3 : wc.cell? ⟨gb101, 3, none⟩ = some (.int .i64 a0_3) := (blk_cell BK101.out 3).trans rfl
               have hcz41_4 : wc.cell? ⟨gb101, 4, none⟩ = some (.int .i64 a0_4) := (blk_cell BK101.out 4).trans rfl
               have hcz41_5 : wc.cell? ⟨gb101, 5, none⟩ = some (.int .i64 a0_5) := (blk_cell BK101.out 5).trans rfl
               have hfz41_0 := blk_frozen BK101.out 0
               have hfz41_1 := blk_frozen BK101.out 1
               have hfz41_2 := blk_frozen BK101.out 2
               have hfz41_3 := blk_frozen BK101.out 3
               have hfz41_4 := blk_frozen BK101.out 4
               have hfz41_5 := blk_frozen BK101.out 5
               go_wp2
               go_ret
               exact ⟨rfl, by repeat (with_reducible first | exact HB.out | apply below_alloc | apply pw_below_drewN | apply below_drew1)⟩
              ·
               rw [if_neg c40] at H
               have c40b0 : (a0_0.toList == ([] : List UInt8)) = false := beq_eq_false_iff_ne.mpr c40
               have c40b1 : (a0_0.toList != ([] : List UInt8)) = true := bne_iff_ne.mpr c40
               obtain rfl := Option.some.inj H
               have hcz42_0 : wc.cell? ⟨gb101, 0, none⟩ = some (.string a0_0) := (blk_cell BK101.out 0).trans rfl
               have hcz42_1 : wc.cell? ⟨gb101, 1, none⟩ = some (.string a0_1) := (blk_cell BK101.out 1).trans rfl
               have hcz42_2 : wc.cell? ⟨gb101, 2, none⟩ = some (.int .i64 a0_2) := (blk_cell BK101.out 2).trans rfl
               have hcz42_3 : wc.cell? ⟨gb101, 3, none⟩ = some (.int .i64 a0_3) := (blk_cell BK101.out 3).trans rfl
               have hcz42_4 : wc.cell? ⟨gb101, 4, none⟩ = some (.int .i64 a0_4) := (blk_cell BK101.out 4).trans rfl
               have hcz42_5 : wc.cell? ⟨gb101, 5, none⟩ = some (.int .i64 a0_5) := (blk_cell BK101.out 5).trans rfl
               have hfz42_0 := blk_frozen BK101.out 0
               have hfz42_1 := blk_frozen BK101.out 1
               have hfz42_2 := blk_frozen BK101.out 2
               have hfz42_3 := blk_frozen BK101.out 3
               have hfz42_4 := blk_frozen BK101.out 4
               have hfz42_5 := blk_frozen BK101.out 5
               go_wp2
               go_ret
               exact ⟨rfl, by repeat (with_reducible first | exact HB.out | apply below_alloc | apply pw_below_drewN | apply below_drew1)⟩
             ·
              rw [if_neg c39] at H
              have c39b0 : (a0_3 == 0) = false := beq_eq_false_iff_ne.mpr c39
              have c39b1 : (a0_3 != 0) = true := bne_iff_ne.mpr c39
              obtain rfl := Option.some.inj H
              have hcz43_0 : wc.cell? ⟨gb101, 0, none⟩ = some (.string a0_0) := (blk_cell BK101.out 0).trans rfl
              have hcz43_1 : wc.cell? ⟨gb101, 1, none⟩ = some (.string a0_1) := (blk_cell BK101.out 1).trans rfl
              have hcz43_2 : wc.cell? ⟨gb101, 2, none⟩ = some (.int .i64 a0_2) := (blk_cell BK101.out 2).trans rfl
              have hcz43_3 : wc.cell? ⟨gb101, 3, none⟩ = some (.int .i64 a0_3) := (blk_cell BK101.out 3).trans rfl
              have hcz43_4 : wc.cell? ⟨gb101, 4, none⟩ = some (.int .i64 a0_4) := (blk_cell BK101.out 4).trans rfl
              have hcz43_5 : wc.cell? ⟨gb101, 5, none⟩ = some (.int .i64 a0_5) := (blk_cell BK101.out 5).trans rfl
              have hfz43_0 := blk_frozen BK101.out 0
              have hfz43_1 := blk_frozen BK101.out 1
              have hfz43_2 := blk_frozen BK101.out 2
              have hfz43_3 := blk_frozen BK101.out 3
              have hfz43_4 := blk_frozen BK101.out 4
              have hfz43_5 := blk_frozen BK101.out 5
              go_wp2
              go_ret
              exact ⟨rfl, by repeat (with_reducible first | exact HB.out | apply below_alloc | apply pw_below_drewN | apply below_drew1)⟩
            ·
             rw [if_neg c38] at H
             have c38b0 : (a0_2 == 0) = false := beq_eq_false_iff_ne.mpr c38
             have c38b1 : (a0_2 != 0) = true := bne_iff_ne.mpr c38
             obtain rfl := Option.some.inj H
             have hcz44_0 : wc.cell? ⟨gb101, 0, none⟩ = some (.string a0_0) := (blk_cell BK101.out 0).trans rfl
             have hcz44_1 : wc.cell? ⟨gb101, 1, none⟩ = some (.string a0_1) := (blk_cell BK101.out 1).trans rfl
             have hcz44_2 : wc.cell? ⟨gb101, 2, none⟩ = some (.int .i64 a0_2) := (blk_cell BK101.out 2).trans rfl
             have hcz44_3 : wc.cell? ⟨gb101, 3, none⟩ = some (.int .i64 a0_3) := (blk_cell BK101.out 3).trans rfl
             have hcz44_4 : wc.cell? ⟨gb101, 4, none⟩ = some (.int .i64 a0_4) := (blk_cell BK101.out 4).trans rfl
             have hcz44_5 : wc.cell? ⟨gb101, 5, none⟩ = some (.int .i64 a0_5) := (blk_cell BK101.out 5).trans rfl
             have hfz44_0 := blk_frozen BK101.out 0
             have hfz44_1 := blk_frozen BK101.out 1
             have hfz44_2 := blk_frozen BK101.out 2
             have hfz44_3 := blk_frozen BK101.out 3
             have hfz44_4 := blk_frozen BK101.out 4
             have hfz44_5 := blk_frozen BK101.out 5
             go_wp2
             go_ret
             exact ⟨rfl, by repeat (with_reducible first | exact HB.out | apply below_alloc | apply pw_below_drewN | apply below_drew1)⟩
          ·
           rw [if_neg c35] at H
           have c35b0 : (a0_1.toList == ([] : List UInt8)) = false := beq_eq_false_iff_ne.mpr c35
           have c35b1 : (a0_1.toList != ([] : List UInt8)) = true := bne_iff_ne.mpr c35
           by_cases c45 : a0_0.toList = ([] : List UInt8)
           ·
            rw [if_pos c45] at H
            have c45b0 : (a0_0.toList == ([] : List UInt8)) = true := beq_iff_eq.mpr c45
            have c45b1 : (a0_0.toList != ([] : List UInt8)) = false := bne_eq_false_iff_eq.mpr c45
            clear c45
            obtain rfl := Option.some.inj H
            have hcz46_0 : wc.cell? ⟨gb101, 0, none⟩ = some (.string a0_0) := (blk_cell BK101.out 0).trans rfl
            have hcz46_1 : wc.cell? ⟨gb101, 1, none⟩ = some (.string a0_1) := (blk_cell BK101.out 1).trans rfl
            have hcz46_2 : wc.cell? ⟨gb101, 2, none⟩ = some (.int .i64 a0_2) := (blk_cell BK101.out 2).trans rfl
            have hcz46_3 : wc.cell? ⟨gb101, 3, none⟩ = some (.int .i64 a0_3) := (blk_cell BK101.out 3).trans rfl
            have hcz46_4 : wc.cell? ⟨gb101, 4, none⟩ = some (.int .i64 a0_4) := (blk_cell BK101.out 4).trans rfl
            have hcz46_5 : wc.cell? ⟨gb101, 5, none⟩ = some (.int .i64 a0_5) := (blk_cell BK101.out 5).trans rfl
            have hfz46_0 := blk_frozen BK101.out 0
            have hfz46_1 := blk_frozen BK101.out 1
            have hfz46_2 := blk_frozen BK101.out 2
            have hfz46_3 := blk_frozen BK101.out 3
            have hfz46_4 := blk_frozen BK101.out 4
            have hfz46_5 := blk_frozen BK101.out 5
            go_wp2
            go_ret
            exact ⟨rfl, by repeat (with_reducible first | exact HB.out | apply below_alloc | apply pw_below_drewN | apply below_drew1)⟩
           ·
            rw [if_neg c45] at H
            have c45b0 : (a0_0.toList == ([] : List UInt8)) = false := beq_eq_false_iff_ne.mpr c45
            have c45b1 : (a0_0.toList != ([] : List UInt8)) = true := bne_iff_ne.mpr c45
            obtain rfl := Option.some.inj H
            have hcz47_0 : wc.cell? ⟨gb101, 0, none⟩ = some (.string a0_0) := (blk_cell BK101.out 0).trans rfl
            have hcz47_1 : wc.cell? ⟨gb101, 1, none⟩ = some (.string a0_1) := (blk_cell BK101.out 1).trans rfl
            have hcz47_2 : wc.cell? ⟨gb101, 2, none⟩ = some (.int .i64 a0_2) := (blk_cell BK101.out 2).trans rfl
            have hcz47_3 : wc.cell? ⟨gb101, 3, none⟩ = some (.int .i64 a0_3) := (blk_cell BK101.out 3).trans rfl
            have hcz47_4 : wc.cell? ⟨gb101, 4, none⟩ = some (.int .i64 a0_4) := (blk_cell BK101.out 4).trans rfl
            have hcz47_5 : wc.cell? ⟨gb101, 5, none⟩ = some (.int .i64 a0_5) := (blk_cell BK101.out 5).trans rfl
            have hfz47_0 := blk_frozen BK101.out 0
            have hfz47_1 := blk_frozen BK101.out 1
            have hfz47_2 := blk_frozen BK101.out 2
            have hfz47_3 := blk_frozen BK101.out 3
            have hfz47_4 := blk_frozen BK101.out 4
            have hfz47_5 := blk_frozen BK101.out 5
            go_wp2
            go_ret
            exact ⟨rfl, by repeat (with_reducible first | exact HB.out | apply below_alloc | apply pw_below_drewN | apply below_drew1)⟩
         ·
          replace c34 := Bool.eq_false_iff.mpr c34
          subst c34
          have H1 : (some false) = some r := by rw [if_neg (show ¬ (false = true) by decide)] at H; exact H
          clear H
          have H := H1
          clear H1
          obtain rfl := Option.some.inj H
          go_wp2
          go_ret
          exact ⟨rfl, by repeat (with_reducible first | exact HB.out | apply below_alloc | apply pw_below_drewN | apply below_drew1)⟩
end Go.Proofs.Ytejdnanhnkjaoaa.G
end
section
namespace Go.Proofs.Ytejdnanhnkjaoaa.Own
set_option linter.unusedVariables false
set_option linter.unusedSimpArgs false
open Go.ChangeMaps Go.MapKept Go.WideShapes
open Go.Maps (Keyed IsMap)
open Go.WideMaps (KeyLaw)
theorem MapF.of_block {P : Program} {k e : TypeId} {w w' : World} {b n : Nat} {f : Lit → Option Int} (h : MapF P k e w b n f) (hb : w'.heap[b]? = w.heap[b]?) : MapF P k e w' b n f := by
  obtain ⟨D, ⟨es, clock, h1, h2⟩, h3⟩ := h
  exact ⟨D, ⟨es, clock, hb.trans h1, h2⟩, h3⟩
theorem MapF.entry {P : Program} {t k e : TypeId} {w : World} {b n : Nat} {f : Lit → Option Int} (h : MapF P k e w b n f) (K : KeyLaw P k) (ht : P.underlying t = some (.map k e)) (he : P.underlying e = some (.int .i64))
    (hz : ∀ u : World, (zeroValue e).run P u = .ok (.int .i64 0) u) (hn : n < maxLen) {key : Value} {kl : Lit} (hkey : keyOf P k key = some kl) :
    ∃ (v0 : Value) (st : Nat) (w1 : World), (Instr.mapEntry t (.map (some b)) key).run P w = .ok (.tuple #[v0, goInt st]) w1 ∧ w.grownBy w1 (some b) ∧
      (∀ w2 : World, w2.heap[b]? = w1.heap[b]? → (Instr.lookup t (.map (some b)) key false).run P w2 = .ok (.int .i64 ((f kl).getD 0)) w2) ∧
      ∀ (c : Int), (Lit.int .i64 c).wf = true → ∀ w2 : World, w2.heap[b]? = w1.heap[b]? → ∃ w3, (Instr.entryStore t (.map (some b)) (goInt st) (.int .i64 c)).run P w2 = .ok () w3 ∧ MapF P k e w3 b (n + 1) (putF f kl c) ∧ w2.grownBy w3 (some b) := by
  have K2 := Keyed.of_law K
  have hM := h
  obtain ⟨D, ⟨es, clock, hb, F, hs, hD⟩, hf1, hf2⟩ := h
  obtain ⟨v0, st, es1, clock1, hrun, hv0, hstore⟩ := WideElems.entry_then_store K ht hz hb F hkey
  have hblk : (setBlock w b (.map es1 clock1)).heap[b]? = some (.map es1 clock1) := heap_setBlock_same hb _
  refine ⟨v0, st, _, hrun, ⟨rfl, rfl, rfl, by simp [setBlock], fun i _ hi => heap_setBlock_other hb _ (fun e => hi (by rw [e]))⟩, fun w2 hw2 => ?_, fun c hc w2 hw2 => ?_⟩
  · rcases K.find w hkey es.toList F.keys with ⟨h1, h2⟩ | ⟨j, e0, h1, h2, h3⟩
    · have hmine : (Instr.mapEntry t (.map (some b)) key).run P w = .ok (.tuple #[.int .i64 0, goInt clock]) (setBlock w b (.map (es.push ⟨key, .int .i64 0, clock⟩) (clock + 1))) := by
        simp [Instr.mapEntry, run_underlying ht, MapKept.run_getObj_map hb, K.check w false hkey, h1, hz, MapKept.run_setObj_map _ hb, Result.andThen, setBlock]
      have hup : (Instr.mapUpdate t (.map (some b)) key (.int .i64 0)).run P w = .ok () (setBlock w b (.map (es.push ⟨key, .int .i64 0, clock⟩) (clock + 1))) := by
        simp [Instr.mapUpdate, run_underlying ht, MapKept.run_getObj_map hb, K.check w false hkey, h1, MapKept.run_setObj_map _ hb, Result.andThen, setBlock]
      obtain ⟨w', hr', hM', _⟩ := hM.put K2 ht he hn hkey (c := 0) (by decide)
      rw [hup] at hr'
      have e1 := (Result.ok.inj hr').2
      rw [hrun] at hmine
      have e2 := (Result.ok.inj hmine).2
      have hM2 : MapF P k e w2 b (n + 1) (putF f kl 0) := hM'.of_block (by rw [hw2, e2, e1])
      have hlook := hM2.look K2 ht he (hz w2) hkey
      have hnone : f kl = none := by
        have h4 := hM.look_ok K2 ht he (hz w) hkey
        have h5 := hf1 kl
        cases hfk : f kl with
        | none => rfl
        | some c0 =>
          exfalso
          rw [hfk] at h4
          simp [Instr.lookup, run_underlying ht, MapKept.run_getObj_map hb, K.check w _ hkey, h1, hz, Result.andThen] at h4
      rw [hlook, hnone]
      simp [putF]
    · have hj : es[j]? = some e0 := by simpa using h2
      have hsame : es.modify j (fun e => { e with key := key }) = es := by
        apply Array.ext'
        rw [Array.toList_modify, modify_eq_set _ _ _ _ h2]
        have : ({ e0 with key := key } : MapEntry) = e0 := by rw [← h3]
        rw [this]
        exact WideElems.set_self _ _ _ h2
      have hmine : (Instr.mapEntry t (.map (some b)) key).run P w = .ok (.tuple #[e0.val, goInt e0.born]) (setBlock w b (.map es clock)) := by
        simp [Instr.mapEntry, run_underlying ht, MapKept.run_getObj_map hb, K.check w false hkey, h1, hj, h3, K.stays w hkey, hsame, MapKept.run_setObj_map _ hb, Result.andThen, setBlock]
      rw [hrun] at hmine
      have e2 := (Result.ok.inj hmine).2
      have hM2 : MapF P k e w2 b n f := hM.of_block (by rw [hw2, e2, heap_setBlock_same hb, hb])
      exact hM2.look K2 ht he (hz w2) hkey
  · obtain ⟨es', clock', hr1, hr2⟩ := hstore w2 (.int .i64 c) (hw2.trans hblk)
    obtain ⟨w', hr', hM', _⟩ := hM.put K2 ht he hn hkey hc
    rw [hr2] at hr'
    have e1 := (Result.ok.inj hr').2
    have hb2 : w2.heap[b]? = some (.map es1 clock1) := hw2.trans hblk
    refine ⟨_, hr1, hM'.of_block ?_, ⟨rfl, rfl, rfl, by simp [setBlock], fun i _ hi => heap_setBlock_other hb2 _ (fun e => hi (by rw [e]))⟩⟩
    rw [heap_setBlock_same hb2, ← e1, heap_setBlock_same hb]
theorem skip_step {P : Program} {ops : Array Oper} {o : Oper} {a : Act} {Q : Exit → Act → World → Prop} {Kc : Act → World → Prop} {W w1 : World} (hw : Region.wanted o (yielded ops a.tmps) = true) (hrun : (execOp a.eval o).run P W = .ok .skip w1) (h : Kc (a.put o.dst undef) w1) :
    if Region.wanted o (yielded ops a.tmps) = true then Oper.wp P o a W Kc Q else Kc (a.put o.dst undef) W := by
  rw [if_pos hw]
  unfold Oper.wp
  rw [hrun]
  exact h
end Go.Proofs.Ytejdnanhnkjaoaa.Own
end
section
namespace Go.Proofs.Ytejdnanhnkjaoaa.Sym
set_option linter.unusedVariables false
set_option linter.unusedSimpArgs false
open Go.RowKit Go.Proofs.Ytejdnanhnkjaoaa.G Go.Proofs.YtejdnanhnkjaoaaW.PrintWords Go.Proofs.YtejdnanhnkjaoaaW.PrintLast Go.Proofs.YtejdnanhnkjaoaaW.PrintMore
/-- is the name among these? -/
def among (l : List ByteArray) (s : ByteArray) : Bool := l.any fun x => x.data.toList == s.data.toList
/-- the place of a name, -1 for none -/
def placeOf (l : List ByteArray) (s : ByteArray) : Int := if among l s then (l.findIdx fun x => x.data.toList == s.data.toList : Nat) else -1
theorem index_l0 (l : List ByteArray) (s : ByteArray) (hm : l.length ≤ 140737488355328) (d : Nat) : ∀ (k i : Nat), i + d = l.length → d < k →
    slices_Index_string_string.l0 k l s (l.length : Int) (i : Int) = some (if among (l.drop i) s then ((i + (l.drop i).findIdx (fun x => x.data.toList == s.data.toList) : Nat) : Int) else -1) := by
  induction d with
  | zero =>
    intro k i h1 h2
    obtain ⟨k, rfl⟩ : ∃ m, k = m + 1 := ⟨k - 1, by omega⟩
    simp only [slices_Index_string_string.l0]
    rw [if_neg (by omega), List.drop_of_length_le (by omega)]
    rfl
  | succ d ih =>
    intro k i h1 h2
    obtain ⟨k, rfl⟩ : ∃ m, k = m + 1 := ⟨k - 1, by omega⟩
    have hlt : i < l.length := by omega
    have hrd : rdOf ByteArray.empty l (i : Int) = l[i] := by simp [rdOf, List.getD, hlt]
    have h64 : wrap64 ((i : Int) + 1) = ((i + 1 : Nat) : Int) := by unfold wrap64; omega
    simp only [slices_Index_string_string.l0]
    rw [if_pos (by omega), if_pos (by omega), if_pos (by omega), hrd, h64, ih k (i + 1) (by omega) (by omega), List.drop_eq_getElem_cons hlt]
    rw [show among (l[i] :: l.drop (i + 1)) s = (l[i].data.toList == s.data.toList || among (l.drop (i + 1)) s) from rfl]
    simp only [List.findIdx_cons, ByteArray.toList_eq]
    by_cases c : l[i].data.toList = s.data.toList
    · rw [if_pos c.symm, show (l[i].data.toList == s.data.toList) = true from by simpa using c]
      simp
    · rw [if_neg (fun e => c e.symm), show (l[i].data.toList == s.data.toList) = false from by simpa using c]
      simp only [Bool.false_or, cond_false]
      by_cases c2 : among (l.drop (i + 1)) s = true
      · rw [if_pos c2, if_pos c2]
        congr 2
        omega
      · rw [if_neg c2, if_neg c2]
theorem sindex_f (l : List ByteArray) (s : ByteArray) (hm : l.length ≤ 140737488355328) (k : Nat) (hk : l.length < k) : slices_Index_string_string.f k l s = some (placeOf l s) := by
  have := index_l0 l s hm l.length k 0 (by omega) hk
  unfold slices_Index_string_string.f placeOf
  simpa using this
theorem contains_f (l : List ByteArray) (s : ByteArray) (hm : l.length ≤ 140737488355328) (k : Nat) (hk : l.length < k) : slices_Contains_string_string.f k l s = some (among l s) := by
  unfold slices_Contains_string_string.f
  rw [sindex_f l s hm k hk, Option.bind_some]
  unfold placeOf
  split
  · rename_i h
    rw [h, decide_eq_true (by omega)]
  · rename_i h
    rw [Bool.eq_false_iff.2 h, decide_eq_false (by omega)]
/-- has the name no byte 0? -/
def plainOf (s : ByteArray) : Bool := decide (Lib.indexByte s.data.toList 0 < 0)
theorem plain_f (s : ByteArray) : symtab_plain.f s = some (plainOf s) := rfl
/-- may a symbol be? -/
def rightOf (x : S58) (secs : List ByteArray) : Bool :=
  plainOf x.f0 && (x.f1.toList == [] || x.f1.toList == [42] || among secs x.f1) && decide (0 ≤ x.f2 ∧ x.f2 ≤ 4611686018427387904 ∧ 0 ≤ x.f3 ∧ x.f3 ≤ 4611686018427387904 ∧ 0 ≤ x.f4 ∧ x.f4 ≤ 2) &&
    decide (x.f5 = 0 ∨ x.f5 = 1 ∨ x.f5 = 2 ∨ x.f5 = 6 ∨ x.f5 = 10) && (x.f1.toList != [] || decide (x.f4 ≠ 0 ∧ x.f2 = 0 ∧ x.f3 = 0)) && (x.f0.toList != [] || decide (x.f4 = 0))
theorem right_j2 (k : Nat) (c : Bool) (x : S58) : symtab_right.j2 (k + 1) c x.f0 x.f1 x.f2 x.f3 x.f4 x.f5 = some (c && (x.f1.toList != [] || decide (x.f4 ≠ 0 ∧ x.f2 = 0 ∧ x.f3 = 0)) && (x.f0.toList != [] || decide (x.f4 = 0))) := by
  simp only [symtab_right.j2]
  cases c
  · simp
  · by_cases h1 : x.f1.toList = [] <;> by_cases h0 : x.f0.toList = [] <;> by_cases h4 : x.f4 = 0 <;> by_cases h2 : x.f2 = 0 <;> by_cases h3 : x.f3 = 0 <;> simp [h1, h0, h4, h2, h3]
theorem right_j1 (k : Nat) (c : Bool) (x : S58) : symtab_right.j1 (k + 2) c x.f0 x.f1 x.f2 x.f3 x.f4 x.f5 = some (!c && decide (x.f5 = 0 ∨ x.f5 = 1 ∨ x.f5 = 2 ∨ x.f5 = 6 ∨ x.f5 = 10) && (x.f1.toList != [] || decide (x.f4 ≠ 0 ∧ x.f2 = 0 ∧ x.f3 = 0)) && (x.f0.toList != [] || decide (x.f4 = 0))) := by
  simp only [symtab_right.j1]
  simp only [right_j2]
  generalize (x.f1.toList != [] || decide (x.f4 ≠ 0 ∧ x.f2 = 0 ∧ x.f3 = 0)) = p
  generalize (x.f0.toList != [] || decide (x.f4 = 0)) = q
  cases c
  · by_cases h0 : x.f5 = 0
    · simp [h0]
    · by_cases h1 : x.f5 = 1
      · simp [h1]
      · by_cases h2 : x.f5 = 2
        · simp [h2]
        · by_cases h6 : x.f5 = 6
          · simp [h6]
          · by_cases h10 : x.f5 = 10
            · simp [h10]
            · simp [h0, h1, h2, h6, h10]
  · simp
theorem right_j0 (k : Nat) (c : Bool) (x : S58) : symtab_right.j0 (k + 3) c x.f0 x.f1 x.f2 x.f3 x.f4 x.f5 = some (!c && decide (0 ≤ x.f2 ∧ x.f2 ≤ 4611686018427387904 ∧ 0 ≤ x.f3 ∧ x.f3 ≤ 4611686018427387904 ∧ 0 ≤ x.f4 ∧ x.f4 ≤ 2) && decide (x.f5 = 0 ∨ x.f5 = 1 ∨ x.f5 = 2 ∨ x.f5 = 6 ∨ x.f5 = 10) && (x.f1.toList != [] || decide (x.f4 ≠ 0 ∧ x.f2 = 0 ∧ x.f3 = 0)) && (x.f0.toList != [] || decide (x.f4 = 0))) := by
  simp only [symtab_right.j0]
  simp only [right_j1]
  generalize (x.f1.toList != [] || decide (x.f4 ≠ 0 ∧ x.f2 = 0 ∧ x.f3 = 0)) = p
  generalize (x.f0.toList != [] || decide (x.f4 = 0)) = q
  generalize (decide (x.f5 = 0 ∨ x.f5 = 1 ∨ x.f5 = 2 ∨ x.f5 = 6 ∨ x.f5 = 10)) = r
  cases c
  · have key : ∀ b : Bool, b = decide (0 ≤ x.f2 ∧ x.f2 ≤ 4611686018427387904 ∧ 0 ≤ x.f3 ∧ x.f3 ≤ 4611686018427387904 ∧ 0 ≤ x.f4 ∧ x.f4 ≤ 2) → True := fun _ _ => trivial
    rw [if_neg (by decide)]
    by_cases a1 : x.f2 < 0
    · rw [if_pos a1, decide_eq_false (by omega)]; simp
    · rw [if_neg a1]
      by_cases a2 : x.f2 > 4611686018427387904
      · rw [if_pos a2, decide_eq_false (by omega)]; simp
      · rw [if_neg a2]
        by_cases a3 : x.f3 < 0
        · rw [if_pos a3, decide_eq_false (by omega)]; simp
        · rw [if_neg a3]
          by_cases a4 : x.f3 > 4611686018427387904
          · rw [if_pos a4, decide_eq_false (by omega)]; simp
          · rw [if_neg a4]
            by_cases a5 : x.f4 < 0
            · rw [if_pos a5, decide_eq_false (by omega)]; simp
            · rw [if_neg a5]
              by_cases a6 : x.f4 > 2
              · rw [decide_eq_true a6, decide_eq_false (by omega)]; simp
              · rw [decide_eq_false a6, decide_eq_true (by omega)]; simp
  · simp
theorem right_f (x : S58) (secs : List ByteArray) (hm : secs.length ≤ 140737488355328) (k : Nat) (hk : secs.length + 3 ≤ k) : symtab_right.f k x.f0 x.f1 x.f2 x.f3 x.f4 x.f5 secs = some (rightOf x secs) := by
  unfold symtab_right.f rightOf
  rw [plain_f, Option.bind_some]
  obtain ⟨m, rfl⟩ : ∃ m, k = m + 3 := ⟨k - 3, by omega⟩
  simp only [right_j0]
  cases plainOf x.f0
  · simp
  · by_cases h1 : x.f1.toList = []
    · simp [h1]
    · by_cases h2 : x.f1.toList = [42]
      · simp [h1, h2]
      · rw [if_pos rfl, if_neg h1, if_neg h2]
        rw [contains_f secs x.f1 hm _ (by omega), Option.bind_some]
        have e1 : (x.f1.toList == []) = false := by simpa using h1
        have e2 : (x.f1.toList == [42]) = false := by simpa using h2
        rw [e1, e2]
        cases among secs x.f1 <;> simp
end Go.Proofs.Ytejdnanhnkjaoaa.Sym
end
section
namespace Go.Proofs.Ytejdnanhnkjaoaa.G
open Go.RowKit Go.Proofs.YtejdnanhnkjaoaaW.PrintWords Go.Proofs.YtejdnanhnkjaoaaW.PrintLast Go.Proofs.YtejdnanhnkjaoaaW.PrintMore
attribute [local go_sem] max2_int min2_int max_two min_two max_three min_three max_four min_four   -- for this text's walks alone
set_option linter.unusedVariables false
set_option linter.unusedSimpArgs false
/-- is the section's name at place i wrong? -/
def secBad (l : List ByteArray) (i : Nat) : Bool := (rdOf ByteArray.empty l (i : Int)).toList == [] || (rdOf ByteArray.empty l (i : Int)).toList == [42] || !Sym.plainOf (rdOf ByteArray.empty l (i : Int)) || Sym.among (l.take i) (rdOf ByteArray.empty l (i : Int))
/-- what a symbol is met by -/
def symKey (x : S58) : List UInt8 × Int := (x.f0.data.toList, if 1 < x.f4 then 1 else x.f4)
/-- is the symbol at place i wrong, or met before? -/
def symBad (l : List S58) (secs : List ByteArray) (i : Nat) : Bool := !Sym.rightOf (rd_T58 l (i : Int)) secs || ((rd_T58 l (i : Int)).f0.toList != [] && decide (0 < ((l.take i).map symKey).count (symKey (rd_T58 l (i : Int)))))
def longName (l : List S58) (i : Nat) : Bool := decide ((rd_T58 l (i : Int)).f0.size > 255)
def longSec (l : List ByteArray) (i : Nat) : Bool := decide ((rdOf ByteArray.empty l (i : Int)).size > 255)
def someOf (p : Nat → Bool) (n : Nat) : Bool := (List.range n).any p
theorem someOf_true {p : Nat → Bool} {n i : Nat} (hi : i < n) (h : p i = true) : someOf p n = true := List.any_eq_true.2 ⟨i, List.mem_range.2 hi, h⟩
theorem someOf_false {p : Nat → Bool} {n : Nat} (h : ∀ i, i < n → p i = false) : someOf p n = false := List.any_eq_false.2 fun i hi => by rw [h i (List.mem_range.1 hi)]; decide
theorem none_succ {p : Nat → Bool} {n : Nat} (h : ∀ i, i < n → p i = false) (hn : p n = false) : ∀ i, i < n + 1 → p i = false := fun i hi => by
 rcases Nat.lt_or_ge i n with c | c
 ·
  exact h i c
 ·
  obtain rfl : i = n := by omega
  exact hn
def symCheck (l : List S58) (secs : List ByteArray) : Int :=
 if l.length > 2000 ∨ secs.length > 64 then 6
 else if someOf (longName l) l.length || someOf (longSec secs) secs.length then 6
 else if someOf (secBad secs) secs.length then 80
 else if someOf (symBad l secs) l.length then 80 else 0
def symtab_Check.f (l0 : List S58) (l1 : List ByteArray) : Option Int := some (symCheck l0 l1)
theorem symtab_Check.laid : laidOutB Try.prog = true := by kernel_rfl
theorem symtab_Check.keys : WideMaps.KeyLaw Try.prog 75 := deep_law_laid symtab_Check.laid (m := 2) (by omega) (of_decide_eq_true (by kernel_rfl)) (by kernel_rfl) (by rw [Try.underlying75])
theorem symtab_Check.zero (w : World) : (zeroValue 3).run Try.prog w = .ok (.int .i64 0) w := by kernel_rfl
theorem symtab_Check.key (s : ByteArray) (a : Int) (hs : s.size ≤ 255) (h0 : 0 ≤ a) (h1 : a ≤ 1) : ∃ kl, keyOf Try.prog 75 (.agg #[.string s, .int .i64 a]) = some kl := by
 have hk : Try.prog.keyType 75 = true := by kernel_rfl
 have hc : Try.prog.cellsOf 75 = 2 := by kernel_rfl
 have hc9 : Try.prog.cellsOf 9 = 1 := by kernel_rfl
 have hc3 : Try.prog.cellsOf 3 = 1 := by kernel_rfl
 have hsz : ∃ d, Try.prog.types.size = d + 1 := ⟨Try.prog.types.size - 1, by
  have : 1 ≤ Try.prog.types.size := of_decide_eq_true (by kernel_rfl)
  omega⟩
 obtain ⟨d, hd⟩ := hsz
 have hstr : Try.prog.keyLits (d + 1) 9 [.string s] = some [.string s.data.toList] := by
  simp only [Program.keyLits, Try.underlying9]
  rw [if_pos (by simp only [maxLen]; omega)]
 have hint : Try.prog.keyLits (d + 1) 3 [.int .i64 a] = some [.int .i64 a] := by
  simp only [Program.keyLits, Try.underlying3]
  rw [if_pos ⟨trivial, Own.wf64 (by omega) (by omega)⟩]
 have hall : Try.prog.keyLits (d + 1 + 1) 75 [.string s, .int .i64 a] = some [.string s.data.toList, .int .i64 a] := by
  unfold Program.keyLits
  rw [Try.underlying75]
  simp [hc, hc9, hc3, hstr, hint]
 unfold keyOf
 rw [Try.underlying75]
 simp only [hk, Value.formed, Try.underlying75, hc, Value.cells, hd]
 simp [hall]
theorem symtab_Check.cells1 (w : World) (cs1 cs2 : Array Value) (t1 t2 : TypeId) (j : Nat) (v : Value) (h : cs1[j]? = some v) : ((w.alloc (.cells cs1 t1)).alloc (.cells cs2 t2)).cell? ⟨w.heap.size, j, none⟩ = some v := by
 have h1 : ((w.alloc (.cells cs1 t1)).alloc (.cells cs2 t2)).heap[w.heap.size]? = some (.cells cs1 t1) := by
  rw [(MapKept.heap_alloc _ _).2 _ (by simp), (MapKept.heap_alloc w _).1]
 unfold World.cell?
 rw [h1]
 exact h
theorem symtab_Check.cells2 (w : World) (cs1 cs2 : Array Value) (t1 t2 : TypeId) (j : Nat) (v : Value) (h : cs2[j]? = some v) : ((w.alloc (.cells cs1 t1)).alloc (.cells cs2 t2)).cell? ⟨w.heap.size + 1, j, none⟩ = some v := by
 have h1 : ((w.alloc (.cells cs1 t1)).alloc (.cells cs2 t2)).heap[w.heap.size + 1]? = some (.cells cs2 t2) := by
  have := (MapKept.heap_alloc (w.alloc (.cells cs1 t1)) (.cells cs2 t2)).1
  simpa using this
 unfold World.cell?
 rw [h1]
 exact h
/-- the region of 'met[k]++' -/
def symtab_Check.ops : Array Oper := #[{ dst := some 98, op := Op.move (Operand.tmp 11), type := 73, pos := "symtab.go:107", after := #[], guard := none },
 { dst := some 99, op := Op.load 75 (Operand.tmp 14), type := 75, pos := "symtab.go:107", after := #[], guard := none },
 { dst := some 100, op := Op.lookup 73 (Operand.tmp 98) (Operand.tmp 99) false, type := 3, pos := "symtab.go:107", after := #[{ on := 0, ground := Ground.data }, { on := 1, ground := Ground.data }], guard := none },
 { dst := some 101, op := Op.binOp BinOp.add 3 (Operand.tmp 100) (Operand.const (Value.int IntKind.i64 1)) 3, type := 3, pos := "symtab.go:107", after := #[{ on := 2, ground := Ground.data }], guard := none },
 { dst := some 102, op := Op.mapEntry 73 (Operand.tmp 98) (Operand.tmp 99), type := 0, pos := "symtab.go:107", after := #[{ on := 0, ground := Ground.data }, { on := 1, ground := Ground.data }, { on := 0, ground := Ground.phase }, { on := 1, ground := Ground.phase }, { on := 2, ground := Ground.textOnly Departure.mapOpAssignEntry }, { on := 3, ground := Ground.textOnly Departure.mapOpAssignEntry }], guard := none },
 { dst := some 103, op := Op.extract (Operand.tmp 102) 1, type := 3, pos := "symtab.go:107", after := #[{ on := 4, ground := Ground.data }], guard := none },
 { dst := none, op := Op.entryStore 73 (Operand.tmp 98) (Operand.tmp 103) (Operand.tmp 101), type := 0, pos := "symtab.go:107", after := #[{ on := 0, ground := Ground.data }, { on := 5, ground := Ground.data }, { on := 3, ground := Ground.data }, { on := 4, ground := Ground.chain }, { on := 0, ground := Ground.phase }, { on := 1, ground := Ground.phase }, { on := 2, ground := Ground.phase }, { on := 3, ground := Ground.phase }, { on := 4, ground := Ground.phase }, { on := 5, ground := Ground.phase }], guard := none }]
theorem symtab_Check.inc {Q : Exit → Act → World → Prop} (a : Act) (W : World) (mb b n cnt : Nat) (f : Lit → Option Int) (s : ByteArray) (k : Int) (kl : Lit) (hsz : 104 ≤ a.tmps.size) (h11 : a.eval (.tmp 11) = .map (some mb)) (h14 : a.eval (.tmp 14) = .pointer (some ⟨b, 0, none⟩))
  (hq0 : W.cell? ⟨b, 0, none⟩ = some (.string s)) (hq1 : W.cell? ⟨b, 1, none⟩ = some (.int .i64 k)) (hM : Own.MapF Try.prog 75 3 W mb n f) (hkl : keyOf Try.prog 75 (.agg #[.string s, .int .i64 k]) = some kl) (hcnt : (f kl).getD 0 = (cnt : Int)) (hn : n < maxLen) (hc : cnt ≤ 1099511627776) (hne : b ≠ mb)
  (hQ : ∀ d v c a w, Q (.panic c) (a.put d v) w → Q (.panic c) a w)
  (h : ∀ v0 v1 w1 w3, Own.MapF Try.prog 75 3 w3 mb (n + 1) (Own.putF f kl ((cnt : Int) + 1)) → W.drew.grownBy w1 (some mb) → w1.grownBy w3 (some mb) →
   Q .normal ((((((a.put (some 98) (.map (some mb))).put (some 99) (.agg #[.string s, .int .i64 k])).put (some 100) (.int .i64 (cnt : Int))).put (some 101) (.int .i64 ((cnt : Int) + 1))).put (some 102) (.tuple #[v0, v1])).put (some 103) v1) w3) :
  (Code.region 28 symtab_Check.ops true).wp Try.prog Q a W := by
 have hu := Try.underlying75
 have hw1 : wrap64 ((cnt : Int) + 1) = (cnt : Int) + 1 := by unfold wrap64; omega
 have hMd : Own.MapF Try.prog 75 3 W.drew mb n f := hM.of_block rfl
 obtain ⟨v0, st, w1, hent, hgr, hlk, hst⟩ := hMd.entry symtab_Check.keys Try.underlying73 Try.underlying3 symtab_Check.zero hn hkl
 have hlk0 : ∀ u : World, u.heap[mb]? = W.heap[mb]? ∨ u.heap[mb]? = w1.heap[mb]? → (Instr.lookup 73 (.map (some mb)) (.agg #[.string s, .int .i64 k]) false).run Try.prog u = .ok (.int .i64 (cnt : Int)) u := fun u hu => by
  rw [← hcnt]
  rcases hu with hu | hu
  ·
   exact (hM.of_block hu).look (Go.Maps.Keyed.of_law symtab_Check.keys) Try.underlying73 Try.underlying3 (symtab_Check.zero u) hkl
  ·
   exact hlk u hu
 have hcell1 : ∀ j, w1.cell? ⟨b, j, none⟩ = W.cell? ⟨b, j, none⟩ := fun j => by
  have hlt := World.block_lt_of_cell? W _ hq0
  unfold World.cell?
  rw [hgr.block _ hlt (fun e => hne (by injection e))]
  rfl
 obtain ⟨w3, hst3, hM3, hg3⟩ := hst ((cnt : Int) + 1) (Own.wf64 (by omega) (by omega)) w1 rfl
 refine start_ (n := 7) (S := fun u => u.cell? ⟨b, 0, none⟩ = some (.string s) ∧ u.cell? ⟨b, 1, none⟩ = some (.int .i64 k) ∧ (u.heap[mb]? = W.heap[mb]? ∨ u.heap[mb]? = w1.heap[mb]?)) (ds := [6]) #[false, false, false, false, false, false, false] (by kernel_rfl) rfl rfl ⟨hq0, hq1, .inl rfl⟩ (fun hHeld => ?_)
 refine pure_ (i := 0) (N := some 98) (v := .map (some mb)) (a' := a.put (some 98) (.map (some mb))) #[true, false, false, false, false, false, false] rfl rfl (by kernel_rfl) (hQ _ _) (Or.inl ⟨by rfl, ?_⟩) rfl ?_
 ·
  intro u
  simp [execOp, symtab_Check.ops, h11]
 generalize ha1 : a.put (some 98) (.map (some mb)) = a1 at *
 have g98 : a1.eval (.tmp 98) = .map (some mb) := by rw [← ha1]; exact Act.eval_put_same _ _ _ (by omega)
 have g14 : a1.eval (.tmp 14) = .pointer (some ⟨b, 0, none⟩) := by rw [← ha1, Act.eval_put_ne _ _ _ _ (by decide)]; exact h14
 refine take_ (i := 1) (N := some 99) (v := .agg #[.string s, .int .i64 k]) (a' := a1.put (some 99) (.agg #[.string s, .int .i64 k])) #[true, true, false, false, false, false, false] rfl rfl (by kernel_rfl) (hQ _ _) (Or.inl ⟨by rfl, ?_⟩) hHeld rfl ?_
 ·
  rintro u ⟨s0, s1, s2⟩
  simp only [execOp, symtab_Check.ops, List.getElem_toArray, List.getElem_cons_succ, List.getElem_cons_zero, g14]
  go_simp
 obtain ⟨a2, ha2⟩ : ∃ a2, a1.put (some 99) (.agg #[.string s, .int .i64 k]) = a2 := ⟨_, rfl⟩
 rw [ha2]
 have z1 : a1.tmps.size = a.tmps.size := by rw [← ha1]; simp [Act.put]
 have z2 : a2.tmps.size = a.tmps.size := by rw [← ha2, ← z1]; simp [Act.put]
 have k98 : a2.eval (.tmp 98) = .map (some mb) := by rw [← ha2, Act.eval_put_ne _ _ _ _ (by decide)]; exact g98
 have k99 : a2.eval (.tmp 99) = .agg #[.string s, .int .i64 k] := by rw [← ha2]; exact Act.eval_put_same _ _ _ (by omega)
 refine take_ (i := 2) (N := some 100) (v := .int .i64 (cnt : Int)) (a' := a2.put (some 100) (.int .i64 (cnt : Int))) #[true, true, true, false, false, false, false] rfl rfl (by kernel_rfl) (hQ _ _) (Or.inl ⟨by rfl, ?_⟩) hHeld rfl ?_
 ·
  rintro u ⟨s0, s1, s2⟩
  have hl_ := hlk0 u s2
  simp only [execOp, symtab_Check.ops, List.getElem_toArray, List.getElem_cons_succ, List.getElem_cons_zero, k98, k99]
  go_simp
 obtain ⟨a3, ha3⟩ : ∃ a3, a2.put (some 100) (.int .i64 (cnt : Int)) = a3 := ⟨_, rfl⟩
 rw [ha3]
 have z3 : a3.tmps.size = a.tmps.size := by rw [← ha3, ← z2]; simp [Act.put]
 have m98 : a3.eval (.tmp 98) = .map (some mb) := by rw [← ha3, Act.eval_put_ne _ _ _ _ (by decide)]; exact k98
 have m99 : a3.eval (.tmp 99) = .agg #[.string s, .int .i64 k] := by rw [← ha3, Act.eval_put_ne _ _ _ _ (by decide)]; exact k99
 have m100 : a3.eval (.tmp 100) = .int .i64 (cnt : Int) := by rw [← ha3]; exact Act.eval_put_same _ _ _ (by omega)
 refine pure_ (i := 3) (N := some 101) (v := .int .i64 ((cnt : Int) + 1)) (a' := a3.put (some 101) (.int .i64 ((cnt : Int) + 1))) #[true, true, true, true, false, false, false] rfl rfl (by kernel_rfl) (hQ _ _) (Or.inl ⟨by rfl, ?_⟩) rfl ?_
 ·
  intro u
  simp only [execOp, symtab_Check.ops, List.getElem_toArray, List.getElem_cons_succ, List.getElem_cons_zero, m100]
  go_simp
  rw [IntKind.wrap_i64]
  omega
 obtain ⟨a4, ha4⟩ : ∃ a4, a3.put (some 101) (.int .i64 ((cnt : Int) + 1)) = a4 := ⟨_, rfl⟩
 rw [ha4]
 have z4 : a4.tmps.size = a.tmps.size := by rw [← ha4, ← z3]; simp [Act.put]
 have n98 : a4.eval (.tmp 98) = .map (some mb) := by rw [← ha4, Act.eval_put_ne _ _ _ _ (by decide)]; exact m98
 have n99 : a4.eval (.tmp 99) = .agg #[.string s, .int .i64 k] := by rw [← ha4, Act.eval_put_ne _ _ _ _ (by decide)]; exact m99
 have n101 : a4.eval (.tmp 101) = .int .i64 ((cnt : Int) + 1) := by rw [← ha4]; exact Act.eval_put_same _ _ _ (by omega)
 refine one_ (i := 4) (N := some 102) #[true, true, true, true, true, false, false] rfl rfl (by kernel_rfl) (by decide) (fun K hK => ?_)
 refine event_step (w1 := w1) (v := .tuple #[v0, goInt st]) (by rfl) ?_ ?_
 ·
  simp only [execOp, symtab_Check.ops, List.getElem_toArray, List.getElem_cons_succ, List.getElem_cons_zero, n98, n99]
  go_simp
 refine hK.out _ _ ⟨(hcell1 0).trans hq0, (hcell1 1).trans hq1, .inr rfl⟩ (fun hHeld => ?_)
 clear hK K
 show wpAnyLast _ _ _ _ _ _ _ _ (a4.put (some 102) (.tuple #[v0, goInt st])) _
 obtain ⟨a5, ha5⟩ : ∃ a5, a4.put (some 102) (.tuple #[v0, goInt st]) = a5 := ⟨_, rfl⟩
 rw [ha5]
 have z5 : a5.tmps.size = a.tmps.size := by rw [← ha5, ← z4]; simp [Act.put]
 have o98 : a5.eval (.tmp 98) = .map (some mb) := by rw [← ha5, Act.eval_put_ne _ _ _ _ (by decide)]; exact n98
 have o101 : a5.eval (.tmp 101) = .int .i64 ((cnt : Int) + 1) := by rw [← ha5, Act.eval_put_ne _ _ _ _ (by decide)]; exact n101
 have o102 : a5.eval (.tmp 102) = .tuple #[v0, goInt st] := by rw [← ha5]; exact Act.eval_put_same _ _ _ (by omega)
 refine pure_ (i := 5) (N := some 103) (v := goInt st) (a' := a5.put (some 103) (goInt st)) #[true, true, true, true, true, true, false] rfl rfl (by kernel_rfl) (hQ _ _) (Or.inl ⟨by rfl, ?_⟩) rfl ?_
 ·
  intro u
  simp only [execOp, symtab_Check.ops, List.getElem_toArray, List.getElem_cons_succ, List.getElem_cons_zero, o102]
  go_simp
  first | done | rfl
 obtain ⟨a6, ha6⟩ : ∃ a6, a5.put (some 103) (goInt st) = a6 := ⟨_, rfl⟩
 rw [ha6]
 have p98 : a6.eval (.tmp 98) = .map (some mb) := by rw [← ha6, Act.eval_put_ne _ _ _ _ (by decide)]; exact o98
 have p101 : a6.eval (.tmp 101) = .int .i64 ((cnt : Int) + 1) := by rw [← ha6, Act.eval_put_ne _ _ _ _ (by decide)]; exact o101
 have p103 : a6.eval (.tmp 103) = goInt st := by rw [← ha6]; exact Act.eval_put_same _ _ _ (by omega)
 refine last_ (i := 6) (N := none) #[true, true, true, true, true, true, true] rfl rfl (by kernel_rfl) (by decide) (fun K hK => ?_)
 refine Own.skip_step (w1 := w3) (by rfl) ?_ ?_
 ·
  simp only [execOp, symtab_Check.ops, List.getElem_toArray, List.getElem_cons_succ, List.getElem_cons_zero, p98, p101, p103]
  simp [hst3, Result.andThen]
 refine hK.out _ _ ?_
 clear hK K
 refine done_ (by kernel_rfl) ?_
 have := h v0 (goInt st) w1 w3 hM3 hgr hg3
 rw [ha2, ha3, ha4, ha5, ha6] at this
 exact this
theorem symtab_Check.plain (a0 : ByteArray) (w : World) :
  Calls Try.prog 37 #[.string a0] w fun e w' => e = .returned (.bool (Sym.plainOf a0)) ∧ w = w' := by
 go_enter Try.func37, Try.ntmps37
 go_wp2_with fail
 refine (strings_IndexByte.same a0 0 _).mono ?_
 rintro e w' ⟨rfl, rfl⟩
 go_wp2
 go_ret
 exact ⟨rfl, rfl⟩
set_option maxHeartbeats 16000000 in
set_option maxRecDepth 100000 in
theorem symtab_Check.calls (A0 : Option Addr) (c0 : Nat) (l0 : List S58) (A1 : Option Addr) (c1 : Nat) (l1 : List ByteArray) (r : Int) (w : World) (hr0 : Kd.C k58 w A0 l0.length l0) (hc0 : l0.length ≤ c0) (hr1 : Kd.C Kd.string w A1 l1.length l1) (hc1 : l1.length ≤ c1) (h : symtab_Check.f l0 l1 = some r) :
  Calls Try.prog 23 #[.slice A0 l0.length c0, .slice A1 l1.length c1] w fun e w' => e = .returned (.int .i64 r) ∧ Below w.heap.size w w' := by
 obtain rfl := Option.some.inj h
 clear h
 have hu58 := Try.underlying58
 have HR0 := Aside0.mk hr0
 have HR1 := Aside0.mk hr1
 clear hr0 hr1
 have HB := Aside0.mk (Below.refl w.heap.size w)
 by_cases hg : l0.length > 2000 ∨ l1.length > 64
 ·
  have hres : symCheck l0 l1 = 6 := by unfold symCheck; rw [if_pos hg]
  rw [hres]
  clear hres
  rcases hg with hg | hg
  ·
   have hgb : decide ((l0.length : Int) > 2000) = true := by simp; omega
   go_enter Try.func23, Try.ntmps23
   go_wp2
   go_ret
   exact ⟨rfl, HB.out⟩
  ·
   have hgb : decide ((l1.length : Int) > 64) = true := by simp; omega
   by_cases hg2 : (l0.length : Int) > 2000
   ·
    have hgb2 : decide ((l0.length : Int) > 2000) = true := decide_eq_true hg2
    go_enter Try.func23, Try.ntmps23
    go_wp2
    go_ret
    exact ⟨rfl, HB.out⟩
   ·
    have hgb2 : decide ((l0.length : Int) > 2000) = false := decide_eq_false hg2
    go_enter Try.func23, Try.ntmps23
    go_wp2
    go_ret
    exact ⟨rfl, HB.out⟩
 have hgb1 : decide ((l0.length : Int) > 2000) = false := by simp; omega
 have hgb2 : decide ((l1.length : Int) > 64) = false := by simp; omega
 have hres : symCheck l0 l1 = if someOf (longName l0) l0.length || someOf (longSec l1) l1.length then 6 else if someOf (secBad l1) l1.length then 80 else if someOf (symBad l0 l1) l0.length then 80 else 0 := by unfold symCheck; rw [if_neg hg]
 have HRES := Aside0.mk hres
 clear hres
 have hmm := @run_makeMap Try.prog
 go_enter Try.func23, Try.ntmps23
 go_wp2
 go_loopg [25] l0.length (fun kq i w' => ∃ n : Nat, n + kq = l0.length ∧ i = .int .i64 (n : Int) ∧ Aside0 (∀ j, j < n → longName l0 j = false) ∧ Aside0 (Below w.heap.size w w'))
 case atStart => exact ⟨0, by omega, rfl, ⟨fun j hj => absurd hj (by omega)⟩, HB⟩
 case round =>
  clear HB
  obtain ⟨n, hn, rfl, HN, HB⟩ := hrel
  cases gk with
  | succ gk =>
   have hltb : decide ((n : Int) < (l0.length : Int)) = true := by simp; omega
   obtain ⟨ad, rfl, hx0, hx1, hx2, hx3, hx4, hx5⟩ := at_T58 HR0.out (n : Int) (by omega) (by omega)
   rw [Int.toNat_natCast] at hx0 hx1 hx2 hx3 hx4 hx5
   replace hx0 := (HB.out.cell (World.block_lt_of_cell? w _ hx0)).trans hx0
   replace hx1 := (HB.out.cell (World.block_lt_of_cell? w _ hx1)).trans hx1
   replace hx2 := (HB.out.cell (World.block_lt_of_cell? w _ hx2)).trans hx2
   replace hx3 := (HB.out.cell (World.block_lt_of_cell? w _ hx3)).trans hx3
   replace hx4 := (HB.out.cell (World.block_lt_of_cell? w _ hx4)).trans hx4
   replace hx5 := (HB.out.cell (World.block_lt_of_cell? w _ hx5)).trans hx5
   by_cases hc : (rd_T58 l0 (n : Int)).f0.size > 255
   ·
    have hcb : decide (((rd_T58 l0 (n : Int)).f0.size : Int) > 255) = true := by simp; omega
    go_wp2
    go_ret
    refine ⟨?_, ?_⟩
    ·
     rw [HRES.out, someOf_true (p := longName l0) (i := n) (by omega) (decide_eq_true hc)]
     rfl
    ·
     exact below_alloc HB.out _
   ·
    have hcb : decide (((rd_T58 l0 (n : Int)).f0.size : Int) > 255) = false := by simp; omega
    go_wp2
    go_roundg gk
    case measure => omega
    case rel => exact ⟨n + 1, by omega, by go_num, ⟨none_succ HN.out (decide_eq_false hc)⟩, ⟨below_alloc HB.out _⟩⟩
  | zero =>
   have hltb : decide ((n : Int) < (l0.length : Int)) = false := by simp; omega
   obtain rfl : n = l0.length := by omega
   go_wp2
   clear hltb
   go_loopg [36] l1.length (fun kq i w' => ∃ m : Nat, m + kq = l1.length ∧ i = .int .i64 (m : Int) ∧ Aside0 (∀ j, j < m → longSec l1 j = false) ∧ Aside0 (Below w.heap.size w w'))
   case atStart => exact ⟨0, by omega, rfl, ⟨fun j hj => absurd hj (by omega)⟩, HB⟩
   case round =>
    clear HB
    obtain ⟨m, hm, rfl, HM, HB⟩ := hrel
    cases gk with
    | succ gk =>
     have hltb : decide ((m : Int) < (l1.length : Int)) = true := by simp; omega
     obtain ⟨ad, rfl, hx⟩ := Kd.at_string HR1.out (m : Int) (by omega) (by omega)
     rw [Int.toNat_natCast] at hx
     replace hx := (HB.out.cell (World.block_lt_of_cell? w _ hx)).trans hx
     by_cases hc : (rdOf ByteArray.empty l1 (m : Int)).size > 255
     ·
      have hcb : decide (((rdOf ByteArray.empty l1 (m : Int)).size : Int) > 255) = true := by simp; omega
      go_wp2
      go_ret
      refine ⟨?_, HB.out⟩
      rw [HRES.out, someOf_true (p := longSec l1) (i := m) (by omega) (decide_eq_true hc), Bool.or_true]
      rfl
     ·
      have hcb : decide (((rdOf ByteArray.empty l1 (m : Int)).size : Int) > 255) = false := by simp; omega
      go_wp2
      go_roundg gk
      case measure => omega
      case rel => exact ⟨m + 1, by omega, by go_num, ⟨none_succ HM.out (decide_eq_false hc)⟩, HB⟩
    | zero =>
     have hltb : decide ((m : Int) < (l1.length : Int)) = false := by simp; omega
     obtain rfl : m = l1.length := by omega
     have hres := HRES.out
     rw [someOf_false HN.out, someOf_false HM.out] at hres
     rw [if_neg (by decide)] at hres
     clear HRES
     have HRES := Aside0.mk hres
     clear hres
     go_wp2
     clear hltb
     go_loopg [46] l1.length (fun kq i w' => ∃ m : Nat, m + kq = l1.length ∧ i = .int .i64 (m : Int) ∧ Aside0 (∀ j, j < m → secBad l1 j = false) ∧ Aside0 (Below w.heap.size w w'))
     case atStart => exact ⟨0, by omega, rfl, ⟨fun j hj => absurd hj (by omega)⟩, HB⟩
     case round =>
      clear HB
      obtain ⟨m, hm, rfl, HS, HB⟩ := hrel
      cases gk with
      | succ gk =>
       have hltb : decide ((m : Int) < (l1.length : Int)) = true := by simp; omega
       obtain ⟨ad, rfl, hx⟩ := Kd.at_string HR1.out (m : Int) (by omega) (by omega)
       rw [Int.toNat_natCast] at hx
       replace hx := (HB.out.cell (World.block_lt_of_cell? w _ hx)).trans hx
       have hbad : secBad l1 m = ((rdOf ByteArray.empty l1 (m : Int)).toList == [] || (rdOf ByteArray.empty l1 (m : Int)).toList == [42] || !Sym.plainOf (rdOf ByteArray.empty l1 (m : Int)) || Sym.among (l1.take m) (rdOf ByteArray.empty l1 (m : Int))) := rfl
       have HBAD := Aside0.mk hbad
       clear hbad
       have hfin : secBad l1 m = true → symCheck l0 l1 = 80 := fun h => by rw [HRES.out, someOf_true (p := secBad l1) (by omega) h]; rfl
       have HFIN := Aside0.mk hfin
       clear hfin
       generalize rdOf ByteArray.empty l1 (m : Int) = s at hx HBAD
       by_cases c4 : s.toList = []
       ·
        have c4b0 : (s.toList == ([] : List UInt8)) = true := beq_iff_eq.mpr c4
        have c4b1 : (s.toList != ([] : List UInt8)) = false := bne_eq_false_iff_eq.mpr c4
        go_wp2
        go_ret
        refine ⟨?_, HB.out⟩
        rw [HFIN.out (by rw [HBAD.out, c4b0]; rfl)]
        rfl
       ·
        have c4b0 : (s.toList == ([] : List UInt8)) = false := beq_eq_false_iff_ne.mpr c4
        have c4b1 : (s.toList != ([] : List UInt8)) = true := bne_iff_ne.mpr c4
        by_cases c5 : s.toList = [42]
        ·
         have c5b0 : (s.toList == ([42] : List UInt8)) = true := beq_iff_eq.mpr c5
         have c5b1 : (s.toList != ([42] : List UInt8)) = false := bne_eq_false_iff_eq.mpr c5
         go_wp2
         go_ret
         refine ⟨?_, HB.out⟩
         rw [HFIN.out (by rw [HBAD.out, c5b0, Bool.or_true]; rfl)]
         rfl
        ·
         have c5b0 : (s.toList == ([42] : List UInt8)) = false := beq_eq_false_iff_ne.mpr c5
         have c5b1 : (s.toList != ([42] : List UInt8)) = true := bne_iff_ne.mpr c5
         have hbad : secBad l1 m = (!Sym.plainOf s || Sym.among (l1.take m) s) := by rw [HBAD.out, c4b0, c5b0]; rfl
         clear HBAD
         cases hp : Sym.plainOf s with
         | false =>
          rw [hp] at hbad
          have HBAD := Aside0.mk hbad
          clear hbad
          go_wp2_with fail
          refine (symtab_Check.plain s _).mono ?_
          rintro e w' ⟨rfl, rfl⟩
          rw [hp]
          go_wp2
          go_ret
          refine ⟨?_, HB.out⟩
          rw [HFIN.out HBAD.out]
          rfl
         | true =>
          rw [hp] at hbad
          have HBAD := Aside0.mk hbad
          clear hbad
          have hR1 := Kd.C_take (m := m) HR1.out (by omega)
          have hlt : (l1.take m).length = m := by rw [List.length_take]; omega
          go_wp2_with fail
          refine (symtab_Check.plain s _).mono ?_
          rintro e w' ⟨rfl, rfl⟩
          rw [hp]
          cases ha : Sym.among (l1.take m) s with
          | true =>
           rw [ha] at HBAD
           have hcall := slices_Contains_string_string.calls 1000 _ c1 (l1.take m) s true wr (Kd.C_below hR1 HB.out) (by rw [hlt]; omega) (by rw [Sym.contains_f _ _ (by omega) _ (by omega), ha])
           rw [hlt] at hcall
           go_wp2_with fail
           refine hcall.mono ?_
           rintro e w' ⟨rfl, ⟨nd, rfl⟩⟩
           go_wp2
           go_ret
           refine ⟨?_, pw_below_drewN HB.out _⟩
           rw [HFIN.out (by rw [HBAD.out]; rfl)]
           rfl
          | false =>
           rw [ha] at HBAD
           have hcall := slices_Contains_string_string.calls 1000 _ c1 (l1.take m) s false wr (Kd.C_below hR1 HB.out) (by rw [hlt]; omega) (by rw [Sym.contains_f _ _ (by omega) _ (by omega), ha])
           rw [hlt] at hcall
           go_wp2_with fail
           refine hcall.mono ?_
           rintro e w' ⟨rfl, ⟨nd, rfl⟩⟩
           go_wp2
           go_roundg gk
           case measure => omega
           case rel => exact ⟨m + 1, by omega, by go_num, ⟨none_succ HS.out HBAD.out⟩, ⟨pw_below_drewN HB.out _⟩⟩
      | zero =>
       have hltb : decide ((m : Int) < (l1.length : Int)) = false := by simp; omega
       obtain rfl : m = l1.length := by omega
       have hres := HRES.out
       rw [someOf_false HS.out, if_neg (by decide)] at hres
       clear HRES
       have HRES := Aside0.mk hres
       clear hres
       go_wp2
       clear hltb
       have hle : w.heap.size ≤ wr.heap.size := below_size HB.out
       have hB2 := below_alloc HB.out (.map #[] 0)
       have hM2 := Own.MapF.made Try.prog 75 3 wr
       generalize wr.alloc (.map #[] 0) = w5 at *
       generalize wr.heap.size = mb at *
       clear HB
       have HM := Aside0.mk hM2
       have HB := Aside0.mk hB2
       clear hM2 hB2
       go_loopg [73] l0.length (fun kq i w' => ∃ (n : Nat) (f : Lit → Option Int), n + kq = l0.length ∧ i = .int .i64 (n : Int) ∧ Aside0 (∀ j, j < n → symBad l0 l1 j = false) ∧ Aside0 (Own.MapF Try.prog 75 3 w' mb n f) ∧ Aside0 (∀ (s : ByteArray) (a : Int) (kl : Lit), keyOf Try.prog 75 (.agg #[.string s, .int .i64 a]) = some kl → (f kl).getD 0 = ((((l0.take n).map symKey).count (s.data.toList, a) : Nat) : Int)) ∧ Aside0 (Below w.heap.size w w'))
       case atStart => exact ⟨0, fun _ => none, by omega, rfl, ⟨fun j hj => absurd hj (by omega)⟩, HM, ⟨fun s a kl _ => by simp⟩, HB⟩
       case round =>
        clear HB HM
        obtain ⟨n, f, hn, rfl, HQ, HM, HF, HB⟩ := hrel
        cases gk with
        | zero =>
         have hltb : decide ((n : Int) < (l0.length : Int)) = false := by simp; omega
         obtain rfl : n = l0.length := by omega
         have hres := HRES.out
         rw [someOf_false HQ.out, if_neg (by decide)] at hres
         go_wp2
         go_ret
         refine ⟨?_, HB.out⟩
         rw [hres]
         rfl
        | succ gk =>
         have hn2 : n ≤ 2000 := by omega
         have hltb : decide ((n : Int) < (l0.length : Int)) = true := by simp; omega
         obtain ⟨ad, rfl, hx0, hx1, hx2, hx3, hx4, hx5⟩ := at_T58 HR0.out (n : Int) (by omega) (by omega)
         rw [Int.toNat_natCast] at hx0 hx1 hx2 hx3 hx4 hx5
         replace hx0 := (HB.out.cell (World.block_lt_of_cell? w _ hx0)).trans hx0
         replace hx1 := (HB.out.cell (World.block_lt_of_cell? w _ hx1)).trans hx1
         replace hx2 := (HB.out.cell (World.block_lt_of_cell? w _ hx2)).trans hx2
         replace hx3 := (HB.out.cell (World.block_lt_of_cell? w _ hx3)).trans hx3
         replace hx4 := (HB.out.cell (World.block_lt_of_cell? w _ hx4)).trans hx4
         replace hx5 := (HB.out.cell (World.block_lt_of_cell? w _ hx5)).trans hx5
         have hbad : symBad l0 l1 n = (!Sym.rightOf (rd_T58 l0 (n : Int)) l1 || ((rd_T58 l0 (n : Int)).f0.toList != [] && decide (0 < ((l0.take n).map symKey).count (symKey (rd_T58 l0 (n : Int)))))) := rfl
         have HBAD := Aside0.mk hbad
         clear hbad
         have hfin : symBad l0 l1 n = true → symCheck l0 l1 = 80 := fun h => by rw [HRES.out, someOf_true (p := symBad l0 l1) (by omega) h]; rfl
         have HFIN := Aside0.mk hfin
         clear hfin
         have hlong : (rd_T58 l0 (n : Int)).f0.size ≤ 255 := by
          have := HN.out n (by omega)
          simp only [longName, decide_eq_false_iff_not] at this
          omega
         have htake : (l0.take (n + 1)).map symKey = (l0.take n).map symKey ++ [symKey (rd_T58 l0 (n : Int))] := by
          rw [List.take_succ_eq_append_getElem (by omega), List.map_append]
          have : rd_T58 l0 (n : Int) = l0[n]'(by omega) := by simp [rd_T58, List.getD, show n < l0.length by omega]
          rw [this]
          rfl
         have HTAKE := Aside0.mk htake
         clear htake
         generalize rd_T58 l0 (n : Int) = x at *
         have hRS : Kd.C Kd.string wr A1 l1.length l1 := Kd.C_below HR1.out HB.out
         have hkey2 : symKey x = (x.f0.data.toList, if 1 < x.f4 then 1 else x.f4) := rfl
         obtain ⟨a, hmin⟩ : ∃ a : Int, (if 1 < x.f4 then (1 : Int) else x.f4) = a := ⟨_, rfl⟩
         rw [hmin] at hkey2
         have ha : a ≤ 1 ∧ (0 ≤ x.f4 → 0 ≤ a) := by rw [← hmin]; split <;> omega
         have HA := Aside0.mk ha
         have HKEY := Aside0.mk hkey2
         clear hkey2 ha
         cases hri : Sym.rightOf x l1 with
         | false =>
          rw [hri] at HBAD
          have hsf := Sym.right_f x l1 (by omega) 1000 (by omega)
          rw [hri] at hsf
          have HSF := Aside0.mk hsf
          clear hsf hri
          go_wp2_with fail
          refine (symtab_right.calls 1000 x.f0 x.f1 x.f2 x.f3 x.f4 x.f5 A1 c1 l1 false _ (Kd.C_alloc (Kd.C_alloc hRS _) _) hc1 HSF.out).mono ?_
          rintro e w' ⟨rfl, hb⟩
          go_wp2
          go_ret
          refine ⟨?_, below_step (below_alloc (below_alloc HB.out _) _) hb⟩
          rw [HFIN.out (by rw [HBAD.out]; rfl)]
          rfl
         | true =>
          rw [hri] at HBAD
          have hsf := Sym.right_f x l1 (by omega) 1000 (by omega)
          rw [hri] at hsf
          have HSF := Aside0.mk hsf
          clear hsf
          go_wp2_with fail
          refine (symtab_right.calls 1000 x.f0 x.f1 x.f2 x.f3 x.f4 x.f5 A1 c1 l1 true _ (Kd.C_alloc (Kd.C_alloc hRS _) _) hc1 HSF.out).mono ?_
          rintro e w' ⟨rfl, hb⟩
          have hsize : ((wr.alloc (.cells #[.string x.f0, .string x.f1, .int .i64 x.f2, .int .i64 x.f3, .int .i64 x.f4, .int .i64 x.f5] 58)).alloc (.cells #[.string x.f0, .int .i64 a] 75)).heap.size = wr.heap.size + 2 := by simp
          have e0 := (hb.cell (p := ⟨wr.heap.size, 0, none⟩) (by rw [hsize]; show wr.heap.size < _; omega)).trans (symtab_Check.cells1 wr _ _ _ _ 0 (.string x.f0) rfl)
          have q0 := (hb.cell (p := ⟨wr.heap.size + 1, 0, none⟩) (by rw [hsize]; show wr.heap.size + 1 < _; omega)).trans (symtab_Check.cells2 wr _ _ _ _ 0 (.string x.f0) rfl)
          have q1 := (hb.cell (p := ⟨wr.heap.size + 1, 1, none⟩) (by rw [hsize]; show wr.heap.size + 1 < _; omega)).trans (symtab_Check.cells2 wr _ _ _ _ 1 (.int .i64 a) rfl)
          have hmlt := HM.out.lt
          have hmb1 : wr.heap.size + 1 ≠ mb := fun e => absurd (e ▸ hmlt : wr.heap.size + 1 < wr.heap.size) (Nat.not_lt.2 (Nat.le_succ _))
          have hM3 := ((HM.out.kept (World.grownBy_alloc wr _ none) (fun h => by cases h)).kept (World.grownBy_alloc _ _ none) (fun h => by cases h)).kept (grown_of_below hb none) (fun h => by cases h)
          have hB3 := below_step (below_alloc (below_alloc HB.out _) _) hb
          clear HM HB hb hsize
          have HM := Aside0.mk hM3
          have HB := Aside0.mk hB3
          clear hM3 hB3
          have hf4 : 0 ≤ x.f4 := by
           unfold Sym.rightOf at hri
           simp only [Bool.and_eq_true, decide_eq_true_eq] at hri
           omega
          obtain ⟨kl, hkl⟩ := symtab_Check.key x.f0 a hlong (HA.out.2 hf4) HA.out.1
          have hcnt := HF.out x.f0 a kl hkl
          have hlook := HM.out.look (Go.Maps.Keyed.of_law symtab_Check.keys) Try.underlying73 Try.underlying3 (symtab_Check.zero w') hkl
          rw [hcnt] at hlook
          have hkeyed : ((l0.take n).map symKey).count (symKey x) = ((l0.take n).map symKey).count (x.f0.data.toList, a) := by rw [HKEY.out]
          rw [hkeyed] at HBAD
          clear hkeyed
          have HCNT := Aside0.mk hcnt
          clear hcnt
          have hcl : ((l0.take n).map symKey).count (x.f0.data.toList, a) ≤ n := Nat.le_trans List.count_le_length (by rw [List.length_map, List.length_take]; omega)
          have hcons : ∀ (s : ByteArray) (a' : Int) (kl' : Lit), keyOf Try.prog 75 (.agg #[.string s, .int .i64 a']) = some kl' → (Own.putF f kl (((((l0.take n).map symKey).count (x.f0.data.toList, a) : Nat) : Int) + 1) kl').getD 0 = ((((l0.take (n + 1)).map symKey).count (s.data.toList, a') : Nat) : Int) := fun s a' kl' hk' => by
           rw [HTAKE.out, HKEY.out, List.count_append, List.count_singleton]
           by_cases e1 : kl' = kl
           ·
            subst e1
            have e2 := symtab_Check.keys.inj hk' hkl
            injection e2 with e2
            have e3 := congrArg (fun v => v[0]?) e2
            have e4 := congrArg (fun v => v[1]?) e2
            simp only [List.getElem?_toArray, List.getElem?_cons_zero, List.getElem?_cons_succ, Option.some.injEq, Value.string.injEq, Value.int.injEq, true_and] at e3 e4
            subst e3
            subst e4
            simp [Own.putF]
           ·
            have e2 : ((x.f0.data.toList, a) == (s.data.toList, a')) = false := by
             rw [beq_eq_false_iff_ne]
             intro e3
             injection e3 with e3 e4
             apply e1
             have e5 : x.f0 = s := ByteArray.ext (Array.toList_inj.mp e3)
             rw [← e5, ← e4, hkl] at hk'
             exact (Option.some.inj hk').symm
            rw [e2, if_neg (by decide), Nat.add_zero, ← HF.out s a' kl' hk']
            simp [Own.putF, e1]
          have HCONS := Aside0.mk hcons
          clear hcons
          generalize ((l0.take n).map symKey).count (x.f0.data.toList, a) = cnt at *
          have hw1 : wrap64 ((cnt : Int) + 1) = (cnt : Int) + 1 := by unfold wrap64; omega
          by_cases c4 : x.f0.toList = []
          ·
           have c4b0 : (x.f0.toList == ([] : List UInt8)) = true := beq_iff_eq.mpr c4
           have c4b1 : (x.f0.toList != ([] : List UInt8)) = false := bne_eq_false_iff_eq.mpr c4
           go_wp2_with fail
           refine symtab_Check.inc _ _ mb (wr.heap.size + 1) n cnt f x.f0 a kl (by simp) rfl rfl q0 q1 HM.out hkl HCNT.out (Nat.lt_of_le_of_lt hn2 (by decide)) (Nat.le_trans hcl (Nat.le_trans hn2 (by decide))) hmb1 (fun d _ _ _ _ h => by cases d <;> exact h) ?_
           intro v0 v1 w1 w3 hM3 hgr hg3
           have hB1 := (below_drew1 HB.out).grown hgr (below_size (below_drew1 HB.out)) (fun k hk => by cases hk; exact hle)
           have hB4 : Below w.heap.size w w3 := hB1.grown hg3 (below_size hB1) (fun k hk => by cases hk; exact hle)
           simp only [Act.put, List.setIfInBounds_toArray, List.set_cons_zero, List.set_cons_succ]
           go_wp2
           go_roundg gk
           case measure => omega
           case rel => exact ⟨n + 1, _, by omega, by go_num, ⟨none_succ HQ.out (by rw [HBAD.out]; simp [c4b1])⟩, ⟨hM3⟩, HCONS, ⟨hB4⟩⟩
          ·
           have c4b0 : (x.f0.toList == ([] : List UInt8)) = false := beq_eq_false_iff_ne.mpr c4
           have c4b1 : (x.f0.toList != ([] : List UInt8)) = true := bne_iff_ne.mpr c4
           by_cases c6 : 0 < cnt
           ·
            have c6b : decide ((cnt : Int) > 0) = true := decide_eq_true (Int.ofNat_lt.mpr c6)
            go_wp2
            go_ret
            refine ⟨?_, HB.out⟩
            rw [HFIN.out (by rw [HBAD.out, c4b1, decide_eq_true c6]; rfl)]
            rfl
           ·
            have c6b : decide ((cnt : Int) > 0) = false := decide_eq_false (fun h => c6 (Int.ofNat_lt.mp h))
            go_wp2_with fail
            refine symtab_Check.inc _ _ mb (wr.heap.size + 1) n cnt f x.f0 a kl (by simp) rfl rfl q0 q1 HM.out hkl HCNT.out (Nat.lt_of_le_of_lt hn2 (by decide)) (Nat.le_trans hcl (Nat.le_trans hn2 (by decide))) hmb1 (fun d _ _ _ _ h => by cases d <;> exact h) ?_
            intro v0 v1 w1 w3 hM3 hgr hg3
            have hB1 := (below_drew1 HB.out).grown hgr (below_size (below_drew1 HB.out)) (fun k hk => by cases hk; exact hle)
            have hB4 : Below w.heap.size w w3 := hB1.grown hg3 (below_size hB1) (fun k hk => by cases hk; exact hle)
            simp only [Act.put, List.setIfInBounds_toArray, List.set_cons_zero, List.set_cons_succ]
            go_wp2
            go_roundg gk
            case measure => omega
            case rel => exact ⟨n + 1, _, by omega, by go_num, ⟨none_succ HQ.out (by rw [HBAD.out]; simp [c4b1, c6])⟩, ⟨hM3⟩, HCONS, ⟨hB4⟩⟩
end Go.Proofs.Ytejdnanhnkjaoaa.G
end
section
namespace Go.Proofs.Ytejdnanhnkjaoaa.SymW
set_option linter.unusedVariables false
set_option linter.unusedSimpArgs false
open Go.RowKit Go.Proofs.Ytejdnanhnkjaoaa.G Go.Proofs.YtejdnanhnkjaoaaW.PrintWords Go.Proofs.YtejdnanhnkjaoaaW.PrintLast Go.Proofs.YtejdnanhnkjaoaaW.PrintMore
open Go.Proofs.Ytejdnanhnkjaoaa.Bit
theorem results4 {fn : Func} {p t u v : Tmp} {ty e : TypeId} (h : fn.results = #[.cell p ty, .tmp t, .tmp u, .tmp v]) (tmps : Array Value) (P : Program) (w : World) (a : Addr) (x : Value) (hp : tmps.getD p undef = .pointer (some a)) (hu : P.underlying ty = some (.slice e)) (hc : w.cell? a = some x) :
  (results fn tmps).run P w = .ok (.tuple #[x, tmps.getD t undef, tmps.getD u undef, tmps.getD v undef]) w := by
 have hag : (isAgg ty).run P w = .ok false w := by simp [isAgg, underlying, hu]
 simp [results, h, loadVar]
 simp at hp
 rw [hp]
 simp [asAddr, hag, hc]
/-- where a name stands among names; -1: nowhere -/
def idxL : List ByteArray → ByteArray → Int → Int
 | [], _, _ => -1
 | x :: r, s, i => if s.toList = x.toList then i else idxL r s (i + 1)
theorem index_l0 (l : List ByteArray) (hl : l.length ≤ 1000000) (s : ByteArray) (d : Nat) : ∀ (k i : Nat), i + d = l.length → d < k → slices_Index_string_string.l0 k l s (l.length : Int) (i : Int) = some (idxL (l.drop i) s (i : Int)) := by
 induction d with
 | zero =>
  intro k i h hk
  obtain ⟨k, rfl⟩ : ∃ m, k = m + 1 := ⟨k - 1, by omega⟩
  rw [slices_Index_string_string.l0, if_neg (by omega), List.drop_of_length_le (by omega)]
  rfl
 | succ d ih =>
  intro k i h hk
  obtain ⟨k, rfl⟩ : ∃ m, k = m + 1 := ⟨k - 1, by omega⟩
  have hi : i < l.length := by omega
  have hrd : rdOf ByteArray.empty l (i : Int) = l[i] := by simp [rdOf, List.getD, hi]
  rw [slices_Index_string_string.l0, if_pos (by omega), if_pos (by omega), if_pos (by omega), hrd, List.drop_eq_getElem_cons hi, show wrap64 ((i : Int) + 1) = ((i + 1 : Nat) : Int) from by unfold wrap64; omega, ih k (i + 1) (by omega) (by omega)]
  simp only [idxL]
  rw [show ((i + 1 : Nat) : Int) = (i : Int) + 1 from by omega]
  split <;> rfl
theorem index_f (l : List ByteArray) (hl : l.length ≤ 1000000) (s : ByteArray) (k : Nat) (hk : l.length < k) : slices_Index_string_string.f k l s = some (idxL l s 0) := by
 have := index_l0 l hl s l.length k 0 (by omega) hk
 exact this
/-- the number of a symbol's section -/
def placeOf (secs : List ByteArray) (s : ByteArray) : Int := if s.toList = [] then 0 else if s.toList = [42] then 65521 else wrap64 (1 + idxL secs s 0)
def entryB (secs : List ByteArray) (x : S58) (at_ : Int) : List Int :=
 putL at_ 4 ++ putL (wrap64 (wrap64 (16 * x.f4) + x.f5)) 1 ++ putL 0 1 ++ putL (placeOf secs x.f1) 2 ++ putL x.f2 8 ++ putL x.f3 8
def symsOf (secs : List ByteArray) : List S58 → List Int → List Int
 | x :: xs, a :: ys => entryB secs x a ++ symsOf secs xs ys
 | _, _ => []
def locals (l : List S58) : List S58 := l.filter (fun x => decide (x.f4 = 0))
def globals (l : List S58) : List S58 := l.filter (fun x => !decide (x.f4 = 0))
def ordered (l : List S58) : List S58 := locals l ++ globals l
def namesOf (l : List S58) : List ByteArray := l.map (·.f0)
def writeF (l : List S58) (secs : List ByteArray) : Option (List Int × List Int × Int × Int) :=
 if symCheck l secs ≠ 0 then some ([], [], 0, symCheck l secs)
 else if l.length ≤ 2000 ∧ secs.length ≤ 64 then
  (match symtab_Strings.f (namesOf (ordered l)) with
  | none => none
  | some (strs, at_, e) => if e ≠ 0 then some ([], [], 0, e) else if at_.length = l.length then some (List.replicate 24 0 ++ symsOf secs (ordered l) at_, strs, 1 + ((locals l).length : Int), 0) else none)
 else none
theorem ordered_length (l : List S58) : (ordered l).length = l.length := by
 unfold ordered locals globals
 rw [List.length_append]
 induction l with
 | nil => rfl
 | cons x l ih =>
  simp only [List.filter_cons]
  cases decide (x.f4 = 0) <;> simp <;> omega
theorem symsOf_step (secs : List ByteArray) : ∀ (o : List S58) (a : List Int) (i : Nat) (hi : i < o.length) (hj : i < a.length), symsOf secs (o.take (i + 1)) (a.take (i + 1)) = symsOf secs (o.take i) (a.take i) ++ entryB secs o[i] a[i]
 | [], _, i, hi, _ => by simp at hi
 | _ :: _, [], i, _, hj => by simp at hj
 | x :: o, y :: a, 0, _, _ => by simp [symsOf]
 | x :: o, y :: a, i + 1, hi, hj => by
  have := symsOf_step secs o a i (by simpa using hi) (by simpa using hj)
  simp only [List.take_succ_cons, symsOf, List.getElem_cons_succ]
  rw [this, List.append_assoc]
theorem entryB_le (secs : List ByteArray) (x : S58) (a : Int) : (entryB secs x a).length ≤ 48 := by
 unfold entryB
 simp only [List.length_append]
 have h1 := putL_le a 4
 have h2 := putL_le (wrap64 (wrap64 (16 * x.f4) + x.f5)) 1
 have h3 := putL_le 0 1
 have h4 := putL_le (placeOf secs x.f1) 2
 have h5 := putL_le x.f2 8
 have h6 := putL_le x.f3 8
 omega
theorem symsOf_le (secs : List ByteArray) : ∀ (o : List S58) (a : List Int), (symsOf secs o a).length ≤ 48 * o.length
 | [], _ => by simp [symsOf]
 | _ :: _, [] => by simp [symsOf]
 | x :: o, y :: a => by
  have := symsOf_le secs o a
  have := entryB_le secs x y
  simp only [symsOf, List.length_append, List.length_cons]
  omega
set_option maxHeartbeats 4000000 in
set_option maxRecDepth 100000 in
theorem write_calls (A0 : Option Addr) (c0 : Nat) (l0 : List S58) (A1 : Option Addr) (c1 : Nat) (l1 : List ByteArray) (r1 : List Int) (r2 : List Int) (r3 : Int) (r4 : Int) (w : World) (hr0 : Kd.C k58 w A0 l0.length l0) (hc0 : l0.length ≤ c0) (hr1 : Kd.C Kd.string w A1 l1.length l1) (hc1 : l1.length ≤ c1) (h : writeF l0 l1 = some (r1, r2, r3, r4)) :
  Calls Try.prog 21 #[.slice A0 l0.length c0, .slice A1 l1.length c1] w fun e w' => ∃ v0_ v1_ : Value, e = .returned (.tuple #[v0_, v1_, .int .i64 r3, .int .i64 r4]) ∧ Kd.R (Kd.int .u8) 5 w' w.heap.size (fun k_ => some k_ ≠ (v1_ : Value).ownBlock) v0_ r1 ∧ Kd.R (Kd.int .u8) 5 w' w.heap.size (fun k_ => some k_ ≠ (v0_ : Value).ownBlock) v1_ r2 ∧ Below w.heap.size w w' := by
 have HR0 := Aside0.mk hr0
 have HC0 := Aside0.mk hc0
 have HR1 := Aside0.mk hr1
 have HC1 := Aside0.mk hc1
 have HH := Aside0.mk h
 clear hr0 hc0 hr1 hc1 h
 have hix0 : ∀ W : World, Sem.run Try.prog (Instr.index 66 (.agg #[.bool true, .bool false]) (.int .i64 0)) W = .ok (.bool true) W := fun W => by kernel_rfl
 have hix1 : ∀ W : World, Sem.run Try.prog (Instr.index 66 (.agg #[.bool true, .bool false]) (.int .i64 1)) W = .ok (.bool false) W := fun W => by kernel_rfl
 go_enter Try.func21, Try.ntmps21
 go_wp2_with fail
 refine (symtab_Check.calls A0 c0 l0 A1 c1 l1 (symCheck l0 l1) _ (Kd.C_below HR0.out (below_alloc (Below.refl _ _) _)) HC0.out (Kd.C_below HR1.out (below_alloc (Below.refl _ _) _)) HC1.out rfl).mono ?_
 rintro e w1 ⟨rfl, hb1⟩
 have HB := Aside0.mk (below_step (below_alloc (Below.refl w.heap.size w) (.cells #[.slice none 0 0] 24)) hb1)
 have hpc : w1.heap[w.heap.size]? = some (.cells #[.slice none 0 0] 24 (0, 0)) := blk_below (blk_new w _) hb1
 have HPC := Aside0.mk hpc
 have q0 := blk_frozen hpc 0
 clear hb1 hpc
 by_cases ce : symCheck l0 l1 = 0
 case neg =>
  have H := HH.out
  unfold writeF at H
  rw [if_pos ce] at H
  simp only [Option.some.injEq, Prod.mk.injEq] at H
  obtain ⟨rfl, rfl, rfl, her⟩ := H
  rw [her] at ce ⊢
  clear HH
  have d1 : (r4 == 0) = false := beq_eq_false_iff_ne.mpr ce
  have d2 : (r4 != 0) = true := bne_iff_ne.mpr ce
  have hc0 : w1.cell? ⟨w.heap.size, 0, none⟩ = some (.slice none 0 0) := (blk_cell HPC.out 0).trans rfl
  go_wp2
  exact bodyPost_ret (v := .tuple #[.slice none 0 0, .slice none 0 0, .int .i64 0, .int .i64 r4]) (results4 (p := 4) (t := 5) (u := 6) (v := 7) rfl _ _ _ ⟨w.heap.size, 0, none⟩ (.slice none 0 0) rfl Try.underlying24 ((blk_cell (blk_put HPC.out 0 _ rfl) 0).trans rfl)) rfl ⟨.slice none 0 0, .slice none 0 0, rfl, Kd.R_nil _ _ _ _ _, Kd.R_nil _ _ _ _ _, HB.out.setCell (Nat.le_refl _) _⟩
 have H := HH.out
 unfold writeF at H
 rw [if_neg (fun h => h ce)] at H
 rw [ce]
 by_cases cl : l0.length ≤ 2000 ∧ l1.length ≤ 64
 case neg => rw [if_neg cl] at H; cases H
 rw [if_pos cl] at H
 have HH := Aside0.mk H
 have HL := Aside0.mk cl.1
 have HL1 := Aside0.mk cl.2
 clear H ce cl HC0
 go_wp2
 go_loopg [6, 9, 29] 2 (fun kq v6 v9 v29 w' => ∃ (n : Nat), n + kq = 2 ∧ v29 = .int .i64 (n : Int) ∧ v6 = .int .i64 (if n = 0 then 0 else 1 + ((locals l0).length : Int)) ∧ Aside0 (Kd.R k58 58 w' w.heap.size (fun k => k ≠ w.heap.size) v9 (if n = 0 then [] else if n = 1 then locals l0 else ordered l0)) ∧ Aside0 (Below w.heap.size w w') ∧ Aside0 (w'.heap[w.heap.size]? = some (.cells #[.slice none 0 0] 24 (0, 0))))
 case atStart => exact ⟨0, rfl, rfl, rfl, ⟨Kd.R_nil _ _ _ _ _⟩, HB, HPC⟩
 case round =>
  clear HB HPC q0
  obtain ⟨n, hn, rfl, rfl, HO, HB, HPC⟩ := hrel
  cases gk with
  | zero =>
   obtain rfl : n = 2 := by omega
   rw [if_neg (by decide), if_neg (by decide)] at HO
   obtain ⟨A9, c9, rfl⟩ := Kd.R_slice HO.out
   have hol := ordered_length l0
   have HOL := Aside0.mk hol
   have hcap := (Kd.R_reads' HO.out).2.1
   rw [hol] at HO hcap
   have HCAP := Aside0.mk hcap
   rw [hol]
   clear hol hcap
   go_wp2
   go_loopg [14, 55] l0.length (fun kq v14 v55 w' => ∃ (m : Nat), m + kq = l0.length ∧ v55 = .int .i64 (m : Int) ∧ Aside0 (Kd.R Kd.string 9 w' w.heap.size (fun k => k ≠ w.heap.size ∧ some k ≠ (Value.slice A9 l0.length c9).ownBlock) v14 (namesOf ((ordered l0).take m))) ∧ Aside0 (Kd.R k58 58 w' w.heap.size (fun k => k ≠ w.heap.size) (.slice A9 l0.length c9) (ordered l0)) ∧ Aside0 (Below w.heap.size w w') ∧ Aside0 (w'.heap[w.heap.size]? = some (.cells #[.slice none 0 0] 24 (0, 0))))
   case atStart => exact ⟨0, by omega, rfl, ⟨Kd.R_nil _ _ _ _ _⟩, HO, HB, HPC⟩
   case round =>
    clear HO HB HPC
    obtain ⟨m, hm, rfl, HN, HO, HB, HPC⟩ := hrel
    cases gk with
    | zero =>
     obtain rfl : m = l0.length := by omega
     rw [List.take_of_length_le (by rw [HOL.out]; omega)] at HN
     have dm : decide ((l0.length : Int) < (l0.length : Int)) = false := decide_eq_false (by omega)
     obtain ⟨A14, c14, rfl⟩ := Kd.R_slice HN.out
     go_wp2_with fail
     have H := HH.out
     cases hst : symtab_Strings.f (namesOf (ordered l0)) with
     | none => rw [hst] at H; cases H
     | some p =>
     obtain ⟨strs, at_, er⟩ := p
     rw [hst] at H
     refine (symtab_Strings.calls A14 c14 (namesOf (ordered l0)) strs at_ er _ (Kd.R_reads' HN.out).2.2 (Kd.R_reads' HN.out).2.1 hst).mono ?_
     rintro e w2 ⟨sv, av, rfl, hs, ha, hb⟩
     have H2 : (if er ≠ 0 then some ([], [], 0, er) else if at_.length = l0.length then some (List.replicate 24 0 ++ symsOf l1 (ordered l0) at_, strs, 1 + ((locals l0).length : Int), 0) else none) = some (r1, r2, r3, r4) := H
     have HO2 := Aside0.mk (Kd.R_below HO.out hb)
     have HB2 := Aside0.mk (below_step HB.out hb)
     have hlt : w.heap.size < wr.heap.size := blk_lt HPC.out
     have HLT := Aside0.mk hlt
     have HPC2 : Aside0 (w2.heap[w.heap.size]? = some (.cells #[.slice none 0 0] 24 (0, 0))) := ⟨blk_below HPC.out hb⟩
     have HS := Aside0.mk hs
     have HA := Aside0.mk ha
     have HSZ := Aside0.mk hb.size
     have q0 := blk_frozen HPC2.out 0
     clear hb hs ha H HO HB HPC HN hlt HH hst
     by_cases ce : er = 0
     case neg =>
      rw [if_pos ce] at H2
      simp only [Option.some.injEq, Prod.mk.injEq] at H2
      obtain ⟨rfl, rfl, rfl, rfl⟩ := H2
      have d1 : (er == 0) = false := beq_eq_false_iff_ne.mpr ce
      have d2 : (er != 0) = true := bne_iff_ne.mpr ce
      have hc0 : w2.cell? ⟨w.heap.size, 0, none⟩ = some (.slice none 0 0) := (blk_cell HPC2.out 0).trans rfl
      go_wp2
      exact bodyPost_ret (v := .tuple #[.slice none 0 0, .slice none 0 0, .int .i64 0, .int .i64 er]) (results4 (p := 4) (t := 5) (u := 6) (v := 7) rfl _ _ _ ⟨w.heap.size, 0, none⟩ (.slice none 0 0) rfl Try.underlying24 ((blk_cell (blk_put HPC2.out 0 _ rfl) 0).trans rfl)) rfl ⟨.slice none 0 0, .slice none 0 0, rfl, Kd.R_nil _ _ _ _ _, Kd.R_nil _ _ _ _ _, HB2.out.setCell (Nat.le_refl _) _⟩
     subst ce
     rw [if_neg (fun h => h rfl)] at H2
     by_cases cl : at_.length = l0.length
     case neg => rw [if_neg cl] at H2; cases H2
     rw [if_pos cl] at H2
     simp only [Option.some.injEq, Prod.mk.injEq] at H2
     obtain ⟨hr1e, rfl, rfl, rfl⟩ := H2
     have HRE := Aside0.mk hr1e
     clear hr1e
     have HAL := Aside0.mk cl
     clear cl
     go_wp2_with ((with_reducible refine gate_dst (N := 74) rfl ?_); refine Kd.R_make (Kd.int .u8) w.heap.size 5 rfl (N := 74) rfl 24 _ _ rfl 24 rfl rfl Try.underlying24 (.int .u8 0) 1 info5 rfl (by decide) (by decide) 0 (ok := fun k => w2.heap.size ≤ k) (okp := fun k => w2.heap.size ≤ k) rfl (fun _ hk => hk) (Nat.le_refl _) (by decide) (by decide) HB2.out HB2.out.size ?_; intro v3 w3 ho hb hg hnew; obtain ⟨A3, c3, rfl⟩ := Kd.R_slice ho; have HV := Aside0.mk ho; have HB3 := Aside0.mk hb; have HG3 := Aside0.mk hg; have q1 : w3.frozen? ⟨w.heap.size, 0, none⟩ = false := blk_frozen (blk_grown HPC2.out hg (Option.some_ne_none _)) 0; have q2 : w3.cell? ⟨w.heap.size, 0, none⟩ = some (.slice none 0 0) := (blk_cell (blk_grown HPC2.out hg (Option.some_ne_none _)) 0).trans rfl; clear ho hb hg hnew)
     have HLP : Aside0 (w.heap.size < w2.heap.size) := ⟨Nat.lt_of_lt_of_le HLT.out HSZ.out⟩
     have hout : Out (fun j => j < w2.heap.size ∧ j ≠ w.heap.size) w2 w.heap.size w.heap.size (w3.setCell ⟨w.heap.size, 0, none⟩ (.slice A3 (List.replicate (Int.toNat 24) (0 : Int)).length c3)) (List.replicate (Int.toNat 24) 0) := by
      refine ⟨_, blk_put (blk_grown HPC2.out HG3.out (Option.some_ne_none _)) 0 _ rfl, Kd.R_mono (Kd.R_far HV.out (p := ⟨w.heap.size, 0, none⟩) (fun k hk => ?_) _) (fun k hk => ⟨?_, fun h => ?_⟩), fun j hj => ?_, ?_⟩
      ·
       have := HLP.out; show k ≠ w.heap.size; omega
      ·
       have := HLP.out; omega
      ·
       omega
      ·
       exact (RowKit.Below.heap_setCell _ _ _ _ hj.2).trans (HG3.out.block j hj.1 (by simp))
      ·
       exact Below.setCell ((Below.refl _ _).grown HG3.out HB2.out.size (fun k hk => nomatch hk)) (Nat.le_refl _) _
     have HOUT := Aside0.mk hout
     clear hout HPC2 HV HB3 HG3 q0 q1 q2
     obtain ⟨A17, c17, rfl⟩ := Kd.R_slice HA.out
     have hcap := (Kd.R_reads' HA.out).2.1
     rw [HAL.out] at HA hcap
     have HCA := Aside0.mk hcap
     rw [HAL.out]
     clear hcap
     go_loopg [78] l0.length (fun kq v78 w' => ∃ (m : Nat), m + kq = l0.length ∧ v78 = .int .i64 (m : Int) ∧ Aside0 (Out (fun j => j < w2.heap.size ∧ j ≠ w.heap.size) w2 w.heap.size w.heap.size w' (List.replicate 24 0 ++ symsOf l1 ((ordered l0).take m) (at_.take m))))
     case atStart => exact ⟨0, by omega, rfl, ⟨by rw [List.take_zero, List.take_zero]; simp only [symsOf, List.append_nil]; exact HOUT.out⟩⟩
     case round =>
      clear HOUT
      obtain ⟨m, hm, rfl, HOUT⟩ := hrel
      cases gk with
      | zero =>
       obtain rfl : m = l0.length := by omega
       rw [List.take_of_length_le (by rw [HOL.out]; omega), List.take_of_length_le (by rw [HAL.out]; omega)] at HOUT
       have dm : decide ((l0.length : Int) < (l0.length : Int)) = false := decide_eq_false (by omega)
       rw [HRE.out] at HOUT
       obtain ⟨v, hv0, hv1, hv2, hv3⟩ := HOUT.out
       have q1 : wr.frozen? ⟨w.heap.size, 0, none⟩ = false := blk_frozen hv0 0
       have q2 : wr.cell? ⟨w.heap.size, 0, none⟩ = some v := (blk_cell hv0 0).trans rfl
       have HV0 := Aside0.mk hv0
       have HV1 := Aside0.mk hv1
       have HV2 := Aside0.mk hv2
       have HV3 := Aside0.mk hv3
       obtain ⟨AV, cV, rfl⟩ := Kd.R_slice hv1
       clear hv0 hv1 hv2 hv3 HOUT
       go_wp2
       have hpq : ∀ k, sv.ownBlock = some k → k < w2.heap.size ∧ k ≠ w.heap.size ∧ w.heap.size ≤ k := fun k hk => ⟨Kd.R_lt HS.out k hk, by have := HLT.out; have := Kd.R_base HS.out k hk; omega, by have := HLT.out; have := Kd.R_base HS.out k hk; omega⟩
       refine bodyPost_ret (v := .tuple #[.slice AV r1.length cV, sv, .int .i64 (1 + ((locals l0).length : Int)), .int .i64 0]) (results4 (p := 4) (t := 5) (u := 6) (v := 7) rfl _ _ _ ⟨w.heap.size, 0, none⟩ (.slice AV r1.length cV) rfl Try.underlying24 ((blk_cell (blk_put HV0.out 0 _ rfl) 0).trans rfl)) rfl ⟨.slice AV r1.length cV, sv, rfl, ?_, ?_, (HB2.out.trans HV3.out).setCell (Nat.le_refl _) _⟩
       ·
        refine Kd.R_mono (Kd.R_far HV1.out (p := ⟨w.heap.size, 0, none⟩) (fun k hk => hk.1) _) (fun k hk e => ?_)
        have := hpq k e.symm
        exact hk.2 ⟨this.1, this.2.1⟩
       ·
        have h1 := Kd.R_lower (Kd.R_tight rfl HS.out) (Nat.le_of_lt HLT.out)
        refine Kd.R_mono (Kd.R_step h1 (fun k hk hlt => ?_)) (fun k hk e => ?_)
        ·
         have hq := hpq k hk.symm
         exact (RowKit.Below.heap_setCell _ _ _ _ hq.2.1).trans (HV2.out k ⟨hq.1, hq.2.1⟩)
        ·
         have hq := hpq k hk.symm
         exact (HV1.out.1 k e.symm).2 ⟨hq.1, hq.2.1⟩
      | succ k2 =>
       have dm : decide ((m : Int) < (l0.length : Int)) = true := decide_eq_true (by omega)
       have d0 : decide (0 ≤ (m : Int)) = true := decide_eq_true (by omega)
       have hBW : Below w.heap.size w wr := HB2.out.trans HOUT.out.choose_spec.2.2.2
       have hKW := HOUT.out.choose_spec.2.2.1
       have hC := (Kd.R_reads' HO2.out).2.2
       have hCA := (Kd.R_reads' HA.out).2.2
       have hox : ∀ k, (Value.slice A9 l0.length c9).ownBlock = some k → k < w2.heap.size ∧ k ≠ w.heap.size := fun k hk => ⟨Kd.R_lt HO2.out k hk, HO2.out.1 k hk⟩
       have hax : ∀ k, (Value.slice A17 l0.length c17).ownBlock = some k → k < w2.heap.size ∧ k ≠ w.heap.size := fun k hk => ⟨Kd.R_lt HA.out k hk, by have := HLT.out; have := Kd.R_base HA.out k hk; omega⟩
       have hOR := Kd.R_step (Kd.R_tight rfl HO2.out) (w1 := wr) (fun k hk _ => hKW k (hox k hk.symm))
       have hAR := Kd.R_step (Kd.R_tight rfl HA.out) (w1 := wr) (fun k hk _ => hKW k (hax k hk.symm))
       have hC := (Kd.R_reads' hOR).2.2
       have hCA := (Kd.R_reads' hAR).2.2
       rw [HOL.out] at hC
       rw [HAL.out] at hCA
       have HBW := Aside0.mk hBW
       clear hox hax hOR hAR hKW hBW
       obtain ⟨ad, e1, hx0, hx1, hx2, hx3, hx4, hx5⟩ := at_T58 hC (m : Int) (by omega) (by omega)
       obtain ⟨ad2, e2, hy0⟩ := Kd.at_int hCA (m : Int) (by omega) (by omega)
       have hy3 : ∀ W : World, (∀ j, (j < w2.heap.size ∧ j ≠ w.heap.size) → W.heap[j]? = w2.heap[j]?) → W.cell? (ad2.add m) = some (.int .i64 (rd at_ (m : Int))) := by
        intro W hW
        have hR2 := Kd.R_step (Kd.R_tight rfl HA.out) (w1 := W) (fun k hk _ => hW k ⟨Kd.R_lt HA.out k hk.symm, by have := HLT.out; have := Kd.R_base HA.out k hk.symm; omega⟩)
        have hC2 := (Kd.R_reads' hR2).2.2
        rw [HAL.out] at hC2
        obtain ⟨ad3, e3, hy3⟩ := Kd.at_int hC2 (m : Int) (by omega) (by omega)
        rw [e2] at e3
        obtain rfl := Option.some.inj e3
        rw [Int.toNat_natCast] at hy3
        exact hy3
       have HY3 := Aside0.mk hy3
       clear hy3
       subst e1 e2
       rw [Int.toNat_natCast] at hx0 hx1 hx2 hx3 hx4 hx5 hy0
       have HX2 : Aside0 ((ordered l0)[m]'(by rw [HOL.out]; omega) = rd_T58 (ordered l0) (m : Int)) := ⟨by simp [rd_T58, List.getD, show m < (ordered l0).length by rw [HOL.out]; omega]⟩
       have HY2 : Aside0 (at_[m]'(by rw [HAL.out]; omega) = rd at_ (m : Int)) := ⟨by simp [rd, List.getD, show m < at_.length by rw [HAL.out]; omega]⟩
       clear hC hCA
       generalize rd_T58 (ordered l0) (m : Int) = x at *
       generalize rd at_ (m : Int) = y at *
       have hwm : wrap64 ((m : Int) + 1) = ((m + 1 : Nat) : Int) := by have := HL.out; unfold wrap64; omega
       have hwi : IntKind.i64.wrap ((m : Int) + 1) = ((m + 1 : Nat) : Int) := by have := HL.out; rw [IntKind.wrap_i64]; omega
       have hop : ∀ k, (l1.length < k) → slices_Index_string_string.f k l1 x.f1 = some (idxL l1 x.f1 0) := fun k hk => index_f l1 (by have := HL1.out; omega) x.f1 k hk
       have hW0 := (HOUT.out.choose_spec.1)
       have hlen : (List.replicate 24 (0 : Int) ++ symsOf l1 ((ordered l0).take m) (at_.take m)).length ≤ 200000 := by
        have h1 := symsOf_le l1 ((ordered l0).take m) (at_.take m)
        have h2 : ((ordered l0).take m).length ≤ m := by rw [List.length_take]; omega
        have h3 := HL.out
        rw [List.length_append, List.length_replicate]
        omega
       have HLEN := Aside0.mk hlen
       obtain ⟨XS, hXS⟩ : ∃ XS, XS = List.replicate 24 (0 : Int) ++ symsOf l1 ((ordered l0).take m) (at_.take m) := ⟨_, rfl⟩
       rw [← hXS] at HOUT HLEN
       have HXS := Aside0.mk hXS
       have hpcw : w.heap.size < wr.heap.size := (Array.getElem?_eq_some_iff.1 hW0).1
       clear hW0 hlen hXS
       have hix : w2.heap.size ≤ wr.heap.size := HOUT.out.choose_spec.2.2.2.size
       have HIX := Aside0.mk hix
       have HPW := Aside0.mk hpcw
       clear hix hpcw
       have HMO : Aside0 (m < (ordered l0).length) := ⟨by rw [HOL.out]; omega⟩
       have HMA : Aside0 (m < at_.length) := ⟨by rw [HAL.out]; omega⟩
       have HMS := Aside0.mk (show k2 < k2 + 1 by omega)
       have HME := Aside0.mk (show (m + 1) + k2 = l0.length by omega)
       have HIDX := hop (l1.length + 1) (by omega)
       clear hop
       have HIDX := Aside0.mk HIDX
       go_wp2_with fail
       refine (slices_Index_string_string.calls (l1.length + 1) A1 c1 l1 x.f1 (idxL l1 x.f1 0) _ (Kd.C_below HR1.out (below_alloc HBW.out _)) HC1.out HIDX.out).mono ?_
       rintro e W0 ⟨rfl, hd⟩
       have hb := hd.below
       have hbW : Below wr.heap.size wr W0 := below_step (below_alloc (Below.refl _ _) (.cells #[.string x.f0, .string x.f1, .int .i64 x.f2, .int .i64 x.f3, .int .i64 x.f4, .int .i64 x.f5] 58)) hb
       have hout := HOUT.out.round hbW wr.heap.size (Nat.le_refl _)
       have hbk : W0.heap[wr.heap.size]? = some (.cells #[.string x.f0, .string x.f1, .int .i64 x.f2, .int .i64 x.f3, .int .i64 x.f4, .int .i64 x.f5] 58 (0, 0)) := blk_below (blk_new wr _) hb
       have hsz : wr.heap.size < W0.heap.size := blk_lt hbk
       have HBK := Aside0.mk hbk
       have HKP : Aside0 (∀ j, ((j < w2.heap.size ∧ j ≠ w.heap.size) ∨ j = wr.heap.size) → j < W0.heap.size ∧ j ≠ w.heap.size) := ⟨fun j hj => by
        have := HIX.out
        have := HPW.out
        rcases hj with hj | hj
        ·
         exact ⟨by omega, hj.2⟩
        ·
         exact ⟨by omega, by omega⟩⟩
       have HAW : Aside0 (w.heap.size ≤ W0.heap.size) := ⟨by have := HPW.out; omega⟩
       have HKB : Aside0 (∀ j, (j < w2.heap.size ∧ j ≠ w.heap.size) → W0.heap[j]? = w2.heap[j]?) := ⟨fun j hj => (hbW.block j (by have := HIX.out; omega)).trans (HOUT.out.choose_spec.2.2.1 j hj)⟩
       have HBB : Aside0 (Below w.heap.size w2 W0) := ⟨HOUT.out.choose_spec.2.2.2.trans (hbW.mono (Nat.le_of_lt HPW.out))⟩
       clear HOUT
       have HOUT := Aside0.mk hout
       clear hout hb hd hbW hsz
       have k1 : W0.cell? ⟨wr.heap.size, 1, none⟩ = some (.string x.f1) := (blk_cell hbk 1).trans rfl
       have k2_ : W0.cell? ⟨wr.heap.size, 2, none⟩ = some (.int .i64 x.f2) := (blk_cell hbk 2).trans rfl
       have k3 : W0.cell? ⟨wr.heap.size, 3, none⟩ = some (.int .i64 x.f3) := (blk_cell hbk 3).trans rfl
       have k4 : W0.cell? ⟨wr.heap.size, 4, none⟩ = some (.int .i64 x.f4) := (blk_cell hbk 4).trans rfl
       have k5 : W0.cell? ⟨wr.heap.size, 5, none⟩ = some (.int .i64 x.f5) := (blk_cell hbk 5).trans rfl
       have hy1 : W0.cell? (ad2.add m) = some (.int .i64 y) := HY3.out W0 HKB.out
       clear hbk
       obtain ⟨b1, da⟩ : ∃ b, (x.f1.toList == ([] : List UInt8)) = b := ⟨_, rfl⟩
       obtain ⟨b2, db⟩ : ∃ b, (x.f1.toList == ([42] : List UInt8)) = b := ⟨_, rfl⟩
       have HPL : Aside0 (placeOf l1 x.f1 = if b1 = true then 0 else if b2 = true then 65521 else wrap64 (1 + idxL l1 x.f1 0)) := ⟨by rw [← da, ← db]; unfold placeOf; simp only [beq_iff_eq]⟩
       obtain ⟨PP, hpp⟩ : ∃ PP : Int, PP = if b1 = true then 0 else if b2 = true then 65521 else wrap64 (1 + idxL l1 x.f1 0) := ⟨_, rfl⟩
       rw [← hpp] at HPL
       have HPP := Aside0.mk hpp
       clear hpp
       have hbb : (b1 = true ∧ b2 = false) ∨ (b1 = false ∧ b2 = true) ∨ (b1 = false ∧ b2 = false) := by
        cases b1
        ·
         cases b2 <;> simp
        ·
         left; refine ⟨rfl, ?_⟩; rw [← db, beq_iff_eq.1 da]; rfl
       obtain ⟨rfl, rfl⟩ | ⟨rfl, rfl⟩ | ⟨rfl, rfl⟩ := hbb
       all_goals
        go_wp2_with fail
        refine (put_calls (fun j => (j < w2.heap.size ∧ j ≠ w.heap.size) ∨ j = wr.heap.size) W0 w.heap.size w.heap.size (Nat.le_refl _) HAW.out HKP.out y 4 (by decide) _ (XS) (Nat.le_trans HLEN.out (by decide)) HOUT.out).mono ?_
        rintro e W1 ⟨rfl, hout⟩
        clear HOUT k1 k2_ k3 k4 k5 hy1
        have HLEN1 := Aside0.mk (putL_len HLEN.out y 4)
        have HOUT := Aside0.mk hout
        have hbk : W1.heap[wr.heap.size]? = some (.cells #[.string x.f0, .string x.f1, .int .i64 x.f2, .int .i64 x.f3, .int .i64 x.f4, .int .i64 x.f5] 58 (0, 0)) := hout.blk HBK.out
        clear hout
        have k2_ : W1.cell? ⟨wr.heap.size, 2, none⟩ = some (.int .i64 x.f2) := (blk_cell hbk 2).trans rfl
        have k3 : W1.cell? ⟨wr.heap.size, 3, none⟩ = some (.int .i64 x.f3) := (blk_cell hbk 3).trans rfl
        have k4 : W1.cell? ⟨wr.heap.size, 4, none⟩ = some (.int .i64 x.f4) := (blk_cell hbk 4).trans rfl
        have k5 : W1.cell? ⟨wr.heap.size, 5, none⟩ = some (.int .i64 x.f5) := (blk_cell hbk 5).trans rfl
        clear hbk
        go_wp2_with fail
        refine (put_calls (fun j => (j < w2.heap.size ∧ j ≠ w.heap.size) ∨ j = wr.heap.size) W0 w.heap.size w.heap.size (Nat.le_refl _) HAW.out HKP.out (wrap64 (wrap64 (16 * x.f4) + x.f5)) 1 (by decide) _ (XS ++ putL y 4) (Nat.le_trans HLEN1.out (by decide)) HOUT.out).mono ?_
        rintro e W2 ⟨rfl, hout⟩
        clear HOUT k2_ k3 k4 k5
        have HLEN2 := Aside0.mk (putL_len HLEN1.out (wrap64 (wrap64 (16 * x.f4) + x.f5)) 1)
        have HOUT := Aside0.mk hout
        have hbk : W2.heap[wr.heap.size]? = some (.cells #[.string x.f0, .string x.f1, .int .i64 x.f2, .int .i64 x.f3, .int .i64 x.f4, .int .i64 x.f5] 58 (0, 0)) := hout.blk HBK.out
        clear hout
        have k2_ : W2.cell? ⟨wr.heap.size, 2, none⟩ = some (.int .i64 x.f2) := (blk_cell hbk 2).trans rfl
        have k3 : W2.cell? ⟨wr.heap.size, 3, none⟩ = some (.int .i64 x.f3) := (blk_cell hbk 3).trans rfl
        have k4 : W2.cell? ⟨wr.heap.size, 4, none⟩ = some (.int .i64 x.f4) := (blk_cell hbk 4).trans rfl
        have k5 : W2.cell? ⟨wr.heap.size, 5, none⟩ = some (.int .i64 x.f5) := (blk_cell hbk 5).trans rfl
        clear hbk
        go_wp2_with fail
        refine (put_calls (fun j => (j < w2.heap.size ∧ j ≠ w.heap.size) ∨ j = wr.heap.size) W0 w.heap.size w.heap.size (Nat.le_refl _) HAW.out HKP.out 0 1 (by decide) _ (XS ++ putL y 4 ++ putL (wrap64 (wrap64 (16 * x.f4) + x.f5)) 1) (Nat.le_trans HLEN2.out (by decide)) HOUT.out).mono ?_
        rintro e W3 ⟨rfl, hout⟩
        clear HOUT k2_ k3 k4 k5
        have HLEN3 := Aside0.mk (putL_len HLEN2.out 0 1)
        have HOUT := Aside0.mk hout
        have hbk : W3.heap[wr.heap.size]? = some (.cells #[.string x.f0, .string x.f1, .int .i64 x.f2, .int .i64 x.f3, .int .i64 x.f4, .int .i64 x.f5] 58 (0, 0)) := hout.blk HBK.out
        clear hout
        have k2_ : W3.cell? ⟨wr.heap.size, 2, none⟩ = some (.int .i64 x.f2) := (blk_cell hbk 2).trans rfl
        have k3 : W3.cell? ⟨wr.heap.size, 3, none⟩ = some (.int .i64 x.f3) := (blk_cell hbk 3).trans rfl
        have k4 : W3.cell? ⟨wr.heap.size, 4, none⟩ = some (.int .i64 x.f4) := (blk_cell hbk 4).trans rfl
        have k5 : W3.cell? ⟨wr.heap.size, 5, none⟩ = some (.int .i64 x.f5) := (blk_cell hbk 5).trans rfl
        clear hbk
        go_wp2_with fail
        refine (put_calls_lit (fun j => (j < w2.heap.size ∧ j ≠ w.heap.size) ∨ j = wr.heap.size) W0 w.heap.size w.heap.size (Nat.le_refl _) HAW.out HKP.out PP _ HPP.out 2 (by decide) _ (XS ++ putL y 4 ++ putL (wrap64 (wrap64 (16 * x.f4) + x.f5)) 1 ++ putL 0 1) (Nat.le_trans HLEN3.out (by decide)) HOUT.out).mono ?_
        rintro e W4 ⟨rfl, hout⟩
        clear HOUT k2_ k3 k4 k5
        have HLEN4 := Aside0.mk (putL_len HLEN3.out PP 2)
        have HOUT := Aside0.mk hout
        have hbk : W4.heap[wr.heap.size]? = some (.cells #[.string x.f0, .string x.f1, .int .i64 x.f2, .int .i64 x.f3, .int .i64 x.f4, .int .i64 x.f5] 58 (0, 0)) := hout.blk HBK.out
        clear hout
        have k2_ : W4.cell? ⟨wr.heap.size, 2, none⟩ = some (.int .i64 x.f2) := (blk_cell hbk 2).trans rfl
        have k3 : W4.cell? ⟨wr.heap.size, 3, none⟩ = some (.int .i64 x.f3) := (blk_cell hbk 3).trans rfl
        have k4 : W4.cell? ⟨wr.heap.size, 4, none⟩ = some (.int .i64 x.f4) := (blk_cell hbk 4).trans rfl
        have k5 : W4.cell? ⟨wr.heap.size, 5, none⟩ = some (.int .i64 x.f5) := (blk_cell hbk 5).trans rfl
        clear hbk
        go_wp2_with fail
        refine (put_calls (fun j => (j < w2.heap.size ∧ j ≠ w.heap.size) ∨ j = wr.heap.size) W0 w.heap.size w.heap.size (Nat.le_refl _) HAW.out HKP.out x.f2 8 (by decide) _ (XS ++ putL y 4 ++ putL (wrap64 (wrap64 (16 * x.f4) + x.f5)) 1 ++ putL 0 1 ++ putL PP 2) (Nat.le_trans HLEN4.out (by decide)) HOUT.out).mono ?_
        rintro e W5 ⟨rfl, hout⟩
        clear HOUT k2_ k3 k4 k5
        have HLEN5 := Aside0.mk (putL_len HLEN4.out x.f2 8)
        have HOUT := Aside0.mk hout
        have hbk : W5.heap[wr.heap.size]? = some (.cells #[.string x.f0, .string x.f1, .int .i64 x.f2, .int .i64 x.f3, .int .i64 x.f4, .int .i64 x.f5] 58 (0, 0)) := hout.blk HBK.out
        clear hout
        have k2_ : W5.cell? ⟨wr.heap.size, 2, none⟩ = some (.int .i64 x.f2) := (blk_cell hbk 2).trans rfl
        have k3 : W5.cell? ⟨wr.heap.size, 3, none⟩ = some (.int .i64 x.f3) := (blk_cell hbk 3).trans rfl
        have k4 : W5.cell? ⟨wr.heap.size, 4, none⟩ = some (.int .i64 x.f4) := (blk_cell hbk 4).trans rfl
        have k5 : W5.cell? ⟨wr.heap.size, 5, none⟩ = some (.int .i64 x.f5) := (blk_cell hbk 5).trans rfl
        clear hbk
        go_wp2_with fail
        refine (put_calls (fun j => (j < w2.heap.size ∧ j ≠ w.heap.size) ∨ j = wr.heap.size) W0 w.heap.size w.heap.size (Nat.le_refl _) HAW.out HKP.out x.f3 8 (by decide) _ (XS ++ putL y 4 ++ putL (wrap64 (wrap64 (16 * x.f4) + x.f5)) 1 ++ putL 0 1 ++ putL PP 2 ++ putL x.f2 8) (Nat.le_trans HLEN5.out (by decide)) HOUT.out).mono ?_
        rintro e W6 ⟨rfl, hout⟩
        clear HOUT k2_ k3 k4 k5
        have HLEN6 := Aside0.mk (putL_len HLEN5.out x.f3 8)
        have HOUT := Aside0.mk hout
        have hbk : W6.heap[wr.heap.size]? = some (.cells #[.string x.f0, .string x.f1, .int .i64 x.f2, .int .i64 x.f3, .int .i64 x.f4, .int .i64 x.f5] 58 (0, 0)) := hout.blk HBK.out
        clear hout
        have k2_ : W6.cell? ⟨wr.heap.size, 2, none⟩ = some (.int .i64 x.f2) := (blk_cell hbk 2).trans rfl
        have k3 : W6.cell? ⟨wr.heap.size, 3, none⟩ = some (.int .i64 x.f3) := (blk_cell hbk 3).trans rfl
        have k4 : W6.cell? ⟨wr.heap.size, 4, none⟩ = some (.int .i64 x.f4) := (blk_cell hbk 4).trans rfl
        have k5 : W6.cell? ⟨wr.heap.size, 5, none⟩ = some (.int .i64 x.f5) := (blk_cell hbk 5).trans rfl
        clear hbk
        go_wp2
        go_roundg k2
        case measure => exact HMS.out
        case rel =>
         have he : (XS ++ putL y 4 ++ putL (wrap64 (wrap64 (16 * x.f4) + x.f5)) 1 ++ putL 0 1 ++ putL PP 2 ++ putL x.f2 8 ++ putL x.f3 8) = List.replicate 24 (0 : Int) ++ symsOf l1 ((ordered l0).take (m + 1)) (at_.take (m + 1)) := by
          rw [symsOf_step l1 (ordered l0) at_ m HMO.out HMA.out, HX2.out, HY2.out, HXS.out]
          unfold entryB
          rw [HPL.out]
          simp only [List.append_assoc]
         have hfin := HOUT.out.back HKB.out HBB.out
         rw [he] at hfin
         exact ⟨m + 1, HME.out, by rfl, ⟨hfin⟩⟩
    | succ k2 =>
     have dm : decide ((m : Int) < (l0.length : Int)) = true := decide_eq_true (by omega)
     have hC := (Kd.R_reads' HO.out).2.2
     rw [HOL.out] at hC
     obtain ⟨ad, rfl, hx0, hx1, hx2, hx3, hx4, hx5⟩ := at_T58 hC (m : Int) (by omega) (by omega)
     rw [Int.toNat_natCast] at hx0 hx1 hx2 hx3 hx4 hx5
     have HX2 : Aside0 ([(ordered l0)[m]'(by rw [HOL.out]; omega)] = [rd_T58 (ordered l0) (m : Int)]) := ⟨by simp [rd_T58, List.getD, show m < (ordered l0).length by rw [HOL.out]; omega]⟩
     clear hC
     generalize rd_T58 (ordered l0) (m : Int) = x at *
     have hlt : w.heap.size < (wr.alloc (.cells #[.string x.f0, .string x.f1, .int .i64 x.f2, .int .i64 x.f3, .int .i64 x.f4, .int .i64 x.f5] 58)).heap.size := by have := blk_lt HPC.out; simp; omega
     have HGL := Aside0.mk hlt
     have HSZ : Aside0 ((wr.alloc (.cells #[.string x.f0, .string x.f1, .int .i64 x.f2, .int .i64 x.f3, .int .i64 x.f4, .int .i64 x.f5] 58)).heap.size = wr.heap.size + 1) := ⟨by simp⟩
     have HLE := Aside0.mk (Nat.le_of_lt hlt)
     have hal : ((namesOf ((ordered l0).take m)).length + 1) * 16 ≤ 140737488355328 := by
      have e3 := HL.out
      have e5 := HOL.out
      simp only [namesOf, List.length_map, List.length_take]
      omega
     have HAL := Aside0.mk hal
     have hfr : ∀ k, (wr.alloc (.cells #[.string x.f0, .string x.f1, .int .i64 x.f2, .int .i64 x.f3, .int .i64 x.f4, .int .i64 x.f5] 58)).heap.size ≤ k → k ≠ w.heap.size ∧ some k ≠ (Value.slice (some ad) l0.length c9).ownBlock := fun k hk => ⟨by omega, fun e => by have := Kd.R_lt HO.out k e.symm; have := HSZ.out; omega⟩
     have HFR := Aside0.mk hfr
     clear hlt hal hfr
     have hwm : wrap64 ((m : Int) + 1) = ((m + 1 : Nat) : Int) := by have := HL.out; unfold wrap64; omega
     have hwi : IntKind.i64.wrap ((m : Int) + 1) = ((m + 1 : Nat) : Int) := by have := HL.out; rw [IntKind.wrap_i64]; omega
     go_wp2_with ((with_reducible refine gate_dst (N := 63) rfl ?_); refine Kd.R_append Kd.string (w0 := w) w.heap.size (by rfl) (.tmp 59) (.tmp 62) 27 9 (.string ⟨#[]⟩) 16 rfl Try.underlying27 info9 rfl (by decide) (by decide) u14 (namesOf ((ordered l0).take m)) x.f0 [.string x.f0] (fun k => k ≠ w.heap.size ∧ some k ≠ (Value.slice (some ad) l0.length c9).ownBlock) (fun _ => False) rfl (by rw [HSZ.out]; rfl) rfl (fun _ hk => hk.elim) HFR.out (Kd.R_alloc HN.out _) (below_alloc HB.out _) HLE.out HAL.out ?_; intro v1 w4 ho hb hg hat; have HN4 := Aside0.mk ho; have HB4 := Aside0.mk hb; have HO4 := Aside0.mk (Kd.R_grown2 (Kd.R_alloc HO.out _) rfl hg (fun k hk e => (HN.out.1 k hk).2 e)); have HPC4 : Aside0 (w4.heap[w.heap.size]? = some (.cells #[.slice none 0 0] 24 (0, 0))) := ⟨blk_grown (blk_alloc HPC.out _) hg (fun e => (HN.out.1 _ e.symm).1 rfl)⟩; clear ho hb hg hat HO HPC HN HB)
     go_roundg k2
     case measure => omega
     case rel =>
      have he : namesOf ((ordered l0).take m) ++ [x.f0] = namesOf ((ordered l0).take (m + 1)) := by
       rw [← List.take_append_getElem (l := ordered l0) (i := m) (by rw [HOL.out]; omega), HX2.out]
       simp [namesOf]
      rw [he] at HN4
      exact ⟨m + 1, by omega, by rfl, HN4, HO4, HB4, HPC4⟩
  | succ k1 =>
   obtain rfl | rfl : n = 0 ∨ n = 1 := by omega
   ·
    rw [if_pos rfl] at HO
    go_wp2
    go_loopg [9, 34] l0.length (fun kq v9 v34 w' => ∃ (m : Nat), m + kq = l0.length ∧ v34 = .int .i64 (m : Int) ∧ Aside0 (Kd.R k58 58 w' w.heap.size (fun k => k ≠ w.heap.size) v9 ((l0.take m).filter (fun x => decide (x.f4 = 0)))) ∧ Aside0 (Below w.heap.size w w') ∧ Aside0 (w'.heap[w.heap.size]? = some (.cells #[.slice none 0 0] 24 (0, 0))))
    case atStart => exact ⟨0, by omega, rfl, ⟨HO.out⟩, HB, HPC⟩
    case round =>
     clear HO HB HPC
     obtain ⟨m, hm, rfl, HO, HB, HPC⟩ := hrel
     cases gk with
     | zero =>
      obtain rfl : m = l0.length := by omega
      rw [List.take_length] at HO
      have dm : decide ((l0.length : Int) < (l0.length : Int)) = false := decide_eq_false (by omega)
      obtain ⟨A9, c9, rfl⟩ := Kd.R_slice HO.out
      have HO2 : Aside0 (Kd.R k58 58 wr w.heap.size (fun k => k ≠ w.heap.size) (.slice A9 (locals l0).length c9) (locals l0)) := HO
      have hw6 : wrap64 (1 + ((locals l0).length : Int)) = 1 + ((locals l0).length : Int) := by
       have e2 := List.length_filter_le (fun x : S58 => decide (x.f4 = 0)) l0
       have e3 := HL.out
       have e4 : (locals l0).length = (l0.filter (fun x : S58 => decide (x.f4 = 0))).length := rfl
       unfold wrap64; omega
      rw [show (List.filter (fun x : S58 => decide (x.f4 = 0)) l0).length = (locals l0).length from rfl]
      go_wp2
      go_roundg k1
      case measure => omega
      case rel => exact ⟨1, by omega, by rfl, by rw [hw6]; rfl, HO2, HB, HPC⟩
     | succ k2 =>
      have dm : decide ((m : Int) < (l0.length : Int)) = true := decide_eq_true (by omega)
      obtain ⟨ad, rfl, hx0, hx1, hx2, hx3, hx4, hx5⟩ := at_T58 (Kd.C_below HR0.out HB.out) (m : Int) (by omega) (by omega)
      rw [Int.toNat_natCast] at hx0 hx1 hx2 hx3 hx4 hx5
      have HX2 : Aside0 ([l0[m]'(by omega)] = [rd_T58 l0 (m : Int)]) := ⟨by simp [rd_T58, List.getD, show m < l0.length by omega]⟩
      generalize rd_T58 l0 (m : Int) = x at *
      have hlt : w.heap.size < (wr.alloc (.cells #[.string x.f0, .string x.f1, .int .i64 x.f2, .int .i64 x.f3, .int .i64 x.f4, .int .i64 x.f5] 58)).heap.size := by have := blk_lt HPC.out; simp; omega
      have HGL := Aside0.mk hlt
      have HSZ : Aside0 ((wr.alloc (.cells #[.string x.f0, .string x.f1, .int .i64 x.f2, .int .i64 x.f3, .int .i64 x.f4, .int .i64 x.f5] 58)).heap.size = wr.heap.size + 1) := ⟨by simp⟩
      have HLE := Aside0.mk (Nat.le_of_lt hlt)
      have hal : (((l0.take m).filter (fun x => decide (x.f4 = 0))).length + 1) * 64 ≤ 140737488355328 := by
       have e1 := List.length_filter_le (fun x : S58 => decide (x.f4 = 0)) (l0.take m)
       have e2 := List.length_filter_le (fun x : S58 => decide (x.f4 = 0)) l0
       have e3 := HL.out
       have e4 : (l0.take m).length ≤ l0.length := by rw [List.length_take]; omega
       omega
      have HAL := Aside0.mk hal
      clear hlt hal
      have hwm : wrap64 ((m : Int) + 1) = ((m + 1 : Nat) : Int) := by have := HL.out; unfold wrap64; omega
      have hwi : IntKind.i64.wrap ((m : Int) + 1) = ((m + 1 : Nat) : Int) := by have := HL.out; rw [IntKind.wrap_i64]; omega
      by_cases c : x.f4 = 0
      ·
       have d1 : (x.f4 == 0) = true := beq_iff_eq.mpr c
       have HCC := Aside0.mk c
       clear c
       go_wp2_with ((with_reducible refine gate_dst (N := 46) rfl ?_); refine Kd.R_append k58 (w0 := w) w.heap.size (by rfl) (.tmp 43) (.tmp 45) 43 58 (.agg #[(.string ⟨#[]⟩), (.string ⟨#[]⟩), (.int .i64 0), (.int .i64 0), (.int .i64 0), (.int .i64 0)]) 64 rfl Try.underlying43 info58 rfl (by decide) (by decide) u9 ((l0.take m).filter (fun x => decide (x.f4 = 0))) x [.string x.f0, .string x.f1, .int .i64 x.f2, .int .i64 x.f3, .int .i64 x.f4, .int .i64 x.f5] (fun k => k ≠ w.heap.size) (fun _ => False) rfl (by rw [HSZ.out]; rfl) (k58_mkM _ _ _ x) (fun _ hk => hk.elim) (fun k hk e => absurd HGL.out (by rw [e] at hk; exact Nat.not_lt.2 hk)) (Kd.R_alloc HO.out _) (below_alloc HB.out _) HLE.out HAL.out ?_; intro v1 w4 ho hb hg hat; have HO4 := Aside0.mk ho; have HB4 := Aside0.mk hb; have HPC4 : Aside0 (w4.heap[w.heap.size]? = some (.cells #[.slice none 0 0] 24 (0, 0))) := ⟨blk_grown (blk_alloc HPC.out _) hg (fun e => (HO.out.1 _ e.symm) rfl)⟩; clear ho hb hg hat HO HPC)
       go_roundg k2
       case measure => omega
       case rel =>
        have he : ((l0.take m).filter (fun x => decide (x.f4 = 0))) ++ [x] = (l0.take (m + 1)).filter (fun x => decide (x.f4 = 0)) := by
         rw [← List.take_append_getElem (l := l0) (i := m) (by omega), List.filter_append, HX2.out]
         simp [HCC.out]
        rw [he] at HO4
        exact ⟨m + 1, by omega, by rfl, HO4, HB4, HPC4⟩
      ·
       have d1 : (x.f4 == 0) = false := beq_eq_false_iff_ne.mpr c
       have HCC := Aside0.mk c
       clear c
       go_wp2
       go_roundg k2
       case measure => omega
       case rel =>
        have he : ((l0.take m).filter (fun x => decide (x.f4 = 0))) = (l0.take (m + 1)).filter (fun x => decide (x.f4 = 0)) := by
         rw [← List.take_append_getElem (l := l0) (i := m) (by omega), List.filter_append, HX2.out]
         simp [HCC.out]
        have HO5 := Aside0.mk (Kd.R_alloc HO.out (.cells #[.string x.f0, .string x.f1, .int .i64 x.f2, .int .i64 x.f3, .int .i64 x.f4, .int .i64 x.f5] 58))
        rw [he] at HO5
        exact ⟨m + 1, by omega, by rfl, HO5, ⟨below_alloc HB.out _⟩, ⟨blk_alloc HPC.out _⟩⟩
   ·
    rw [if_neg (by decide), if_pos rfl] at HO
    go_wp2
    go_loopg [9, 34] l0.length (fun kq v9 v34 w' => ∃ (m : Nat), m + kq = l0.length ∧ v34 = .int .i64 (m : Int) ∧ Aside0 (Kd.R k58 58 w' w.heap.size (fun k => k ≠ w.heap.size) v9 (locals l0 ++ (l0.take m).filter (fun x => !decide (x.f4 = 0)))) ∧ Aside0 (Below w.heap.size w w') ∧ Aside0 (w'.heap[w.heap.size]? = some (.cells #[.slice none 0 0] 24 (0, 0))))
    case atStart => exact ⟨0, by omega, rfl, ⟨by rw [List.take_zero, List.filter_nil, List.append_nil]; exact HO.out⟩, HB, HPC⟩
    case round =>
     clear HO HB HPC
     obtain ⟨m, hm, rfl, HO, HB, HPC⟩ := hrel
     cases gk with
     | zero =>
      obtain rfl : m = l0.length := by omega
      rw [List.take_length] at HO
      have dm : decide ((l0.length : Int) < (l0.length : Int)) = false := decide_eq_false (by omega)
      obtain ⟨A9, c9, rfl⟩ := Kd.R_slice HO.out
      have HO2 : Aside0 (Kd.R k58 58 wr w.heap.size (fun k => k ≠ w.heap.size) (.slice A9 (ordered l0).length c9) (ordered l0)) := HO
      rw [show (locals l0 ++ List.filter (fun x : S58 => !decide (x.f4 = 0)) l0).length = (ordered l0).length from rfl]
      go_wp2
      go_roundg k1
      case measure => omega
      case rel => exact ⟨2, by omega, by rfl, by rfl, HO2, HB, HPC⟩
     | succ k2 =>
      have dm : decide ((m : Int) < (l0.length : Int)) = true := decide_eq_true (by omega)
      obtain ⟨ad, rfl, hx0, hx1, hx2, hx3, hx4, hx5⟩ := at_T58 (Kd.C_below HR0.out HB.out) (m : Int) (by omega) (by omega)
      rw [Int.toNat_natCast] at hx0 hx1 hx2 hx3 hx4 hx5
      have HX2 : Aside0 ([l0[m]'(by omega)] = [rd_T58 l0 (m : Int)]) := ⟨by simp [rd_T58, List.getD, show m < l0.length by omega]⟩
      generalize rd_T58 l0 (m : Int) = x at *
      have hlt : w.heap.size < (wr.alloc (.cells #[.string x.f0, .string x.f1, .int .i64 x.f2, .int .i64 x.f3, .int .i64 x.f4, .int .i64 x.f5] 58)).heap.size := by have := blk_lt HPC.out; simp; omega
      have HGL := Aside0.mk hlt
      have HSZ : Aside0 ((wr.alloc (.cells #[.string x.f0, .string x.f1, .int .i64 x.f2, .int .i64 x.f3, .int .i64 x.f4, .int .i64 x.f5] 58)).heap.size = wr.heap.size + 1) := ⟨by simp⟩
      have HLE := Aside0.mk (Nat.le_of_lt hlt)
      have hal : ((locals l0 ++ (l0.take m).filter (fun x => !decide (x.f4 = 0))).length + 1) * 64 ≤ 140737488355328 := by
       have e1 := List.length_filter_le (fun x : S58 => !decide (x.f4 = 0)) (l0.take m)
       have e2 := List.length_filter_le (fun x : S58 => decide (x.f4 = 0)) l0
       have e3 := HL.out
       have e4 : (l0.take m).length ≤ l0.length := by rw [List.length_take]; omega
       rw [List.length_append]; unfold locals; omega
      have HAL := Aside0.mk hal
      clear hlt hal
      have hwm : wrap64 ((m : Int) + 1) = ((m + 1 : Nat) : Int) := by have := HL.out; unfold wrap64; omega
      have hwi : IntKind.i64.wrap ((m : Int) + 1) = ((m + 1 : Nat) : Int) := by have := HL.out; rw [IntKind.wrap_i64]; omega
      by_cases c : x.f4 = 0
      ·
       have d1 : (x.f4 == 0) = true := beq_iff_eq.mpr c
       have HCC := Aside0.mk c
       clear c
       go_wp2
       go_roundg k2
       case measure => omega
       case rel =>
        have he : (locals l0 ++ (l0.take m).filter (fun x => !decide (x.f4 = 0))) = locals l0 ++ (l0.take (m + 1)).filter (fun x => !decide (x.f4 = 0)) := by
         rw [← List.take_append_getElem (l := l0) (i := m) (by omega), List.filter_append, HX2.out]
         simp [HCC.out]
        have HO5 := Aside0.mk (Kd.R_alloc HO.out (.cells #[.string x.f0, .string x.f1, .int .i64 x.f2, .int .i64 x.f3, .int .i64 x.f4, .int .i64 x.f5] 58))
        rw [he] at HO5
        exact ⟨m + 1, by omega, by rfl, HO5, ⟨below_alloc HB.out _⟩, ⟨blk_alloc HPC.out _⟩⟩
      ·
       have d1 : (x.f4 == 0) = false := beq_eq_false_iff_ne.mpr c
       have HCC := Aside0.mk c
       clear c
       go_wp2_with ((with_reducible refine gate_dst (N := 46) rfl ?_); refine Kd.R_append k58 (w0 := w) w.heap.size (by rfl) (.tmp 43) (.tmp 45) 43 58 (.agg #[(.string ⟨#[]⟩), (.string ⟨#[]⟩), (.int .i64 0), (.int .i64 0), (.int .i64 0), (.int .i64 0)]) 64 rfl Try.underlying43 info58 rfl (by decide) (by decide) u9 (locals l0 ++ (l0.take m).filter (fun x => !decide (x.f4 = 0))) x [.string x.f0, .string x.f1, .int .i64 x.f2, .int .i64 x.f3, .int .i64 x.f4, .int .i64 x.f5] (fun k => k ≠ w.heap.size) (fun _ => False) rfl (by rw [HSZ.out]; rfl) (k58_mkM _ _ _ x) (fun _ hk => hk.elim) (fun k hk e => absurd HGL.out (by rw [e] at hk; exact Nat.not_lt.2 hk)) (Kd.R_alloc HO.out _) (below_alloc HB.out _) HLE.out HAL.out ?_; intro v1 w4 ho hb hg hat; have HO4 := Aside0.mk ho; have HB4 := Aside0.mk hb; have HPC4 : Aside0 (w4.heap[w.heap.size]? = some (.cells #[.slice none 0 0] 24 (0, 0))) := ⟨blk_grown (blk_alloc HPC.out _) hg (fun e => (HO.out.1 _ e.symm) rfl)⟩; clear ho hb hg hat HO HPC)
       go_roundg k2
       case measure => omega
       case rel =>
        have he : (locals l0 ++ (l0.take m).filter (fun x => !decide (x.f4 = 0))) ++ [x] = locals l0 ++ (l0.take (m + 1)).filter (fun x => !decide (x.f4 = 0)) := by
         rw [← List.take_append_getElem (l := l0) (i := m) (by omega), List.filter_append, HX2.out]
         simp [HCC.out]
        rw [he] at HO4
        exact ⟨m + 1, by omega, by rfl, HO4, HB4, HPC4⟩
end Go.Proofs.Ytejdnanhnkjaoaa.SymW
end
section
namespace Go.Proofs.Ytejdnanhnkjaoaa.G
open Go.RowKit Go.Proofs.YtejdnanhnkjaoaaW.PrintWords Go.Proofs.YtejdnanhnkjaoaaW.PrintLast Go.Proofs.YtejdnanhnkjaoaaW.PrintMore
attribute [local go_sem] max2_int min2_int max_two min_two max_three min_three max_four min_four   -- for this text's walks alone
set_option linter.unusedVariables false
set_option linter.unusedSimpArgs false
def slices_Equal_byte_byte.l0 : Nat → List Int → List Int → Int → Int → Option (Bool)
 | 0, _, _, _, _ => none
 | k + 1, x0, x1, x12, x13 => if x13 < x12 then (if 0 ≤ x13 then (if x13 < (x0.length : Int) then (if x13 < (x1.length : Int) then (if (rd x0 x13) = (rd x1 x13) then (slices_Equal_byte_byte.l0 k x0 x1 x12 (wrap64 (x13 + 1))) else (some false)) else (none)) else (none)) else (none)) else (some true)
def slices_Equal_byte_byte.f (k : Nat) (l0 : List Int) (l1 : List Int) : Option (Bool) := if (l0.length : Int) = (l1.length : Int) then (slices_Equal_byte_byte.l0 k l0 l1 (l0.length : Int) 0) else (some false)
theorem slices_Equal_byte_byte.mono_l : ∀ k, (∀ y0 y1 y2 y3, LeO (slices_Equal_byte_byte.l0 k y0 y1 y2 y3) (slices_Equal_byte_byte.l0 (k + 1) y0 y1 y2 y3))
 | 0 => fun _ _ _ _ r h => by simp [slices_Equal_byte_byte.l0] at h
 | k + 1 => by
  have ih0 := slices_Equal_byte_byte.mono_l k
  ·
   intro y0 y1 y2 y3
   unfold slices_Equal_byte_byte.l0
   repeat' first
   | (with_reducible exact ih0 _ _ _ _)
   | (with_reducible exact LeO.refl _)
   | (with_reducible exact LeO.none _)
   | (with_reducible refine LeO.ite ?_ ?_)
   | (with_reducible refine LeO.bind ?_ (fun _ => ?_))
   | exact ih0 _ _ _ _
   | exact LeO.none _
   | refine LeO.ite ?_ ?_
   | refine LeO.bind ?_ (fun _ => ?_)
theorem slices_Equal_byte_byte.mono : ∀ a0 a1 k, LeO (slices_Equal_byte_byte.f k a0 a1) (slices_Equal_byte_byte.f (k + 1) a0 a1) := by
 intro a0 a1 k
 have ih0 := slices_Equal_byte_byte.mono_l k
 unfold slices_Equal_byte_byte.f
 repeat' first
   | (with_reducible exact ih0 _ _ _ _)
   | (with_reducible exact LeO.refl _)
   | (with_reducible exact LeO.none _)
   | (with_reducible refine LeO.ite ?_ ?_)
   | (with_reducible refine LeO.bind ?_ (fun _ => ?_))
   | exact ih0 _ _ _ _
   | exact LeO.none _
   | refine LeO.ite ?_ ?_
   | refine LeO.bind ?_ (fun _ => ?_)
set_option maxHeartbeats 8000000 in
set_option maxRecDepth 100000 in
theorem slices_Equal_byte_byte.calls (k : Nat) (A0 : Option Addr) (c0 : Nat) (l0 : List Int) (A1 : Option Addr) (c1 : Nat) (l1 : List Int) (r : Bool) (w : World) (hr0 : Kd.C (Kd.int .u8) w A0 l0.length l0) (hc0 : l0.length ≤ c0) (hr1 : Kd.C (Kd.int .u8) w A1 l1.length l1) (hc1 : l1.length ≤ c1) (h : slices_Equal_byte_byte.f k l0 l1 = some r) :
  Calls Try.prog 45 #[.slice A0 l0.length c0, .slice A1 l1.length c1] w fun e w' => e = .returned (.bool r) ∧ Drawn0 w w' := by
 have HR0 := Aside0.mk hr0
 have HC0 := Aside0.mk hc0
 clear hr0 hc0
 have HR1 := Aside0.mk hr1
 have HC1 := Aside0.mk hc1
 clear hr1 hc1
 have H : (if (l0.length : Int) = (l1.length : Int) then (slices_Equal_byte_byte.l0 k l0 l1 (l0.length : Int) 0) else (some false)) = some r := h
 clear h
 by_cases c3 : (l0.length : Int) = (l1.length : Int)
 ·
  rw [if_pos c3] at H
  have c3b0 : ((l0.length : Int) == (l1.length : Int)) = true := beq_iff_eq.mpr c3
  have c3b1 : ((l0.length : Int) != (l1.length : Int)) = false := bne_eq_false_iff_eq.mpr c3
  have c3b2 : (l0.length == l1.length) = true := by first | simpa using c3 | (simp at c3 ⊢; omega)
  clear c3
  have H' := Aside0.mk H
  clear H
  go_enter Try.func45, Try.ntmps45
  go_wp2
  repeat (go_quiet (fail); try go_wp2)
  go_loopg [13] k (fun kq v13 w' => ∃ (x13_1 : Int), v13 = .int .i64 x13_1 ∧ Aside0 (slices_Equal_byte_byte.l0 kq l0 l1 (l0.length : Int) x13_1 = some r) ∧ Aside0 (kq ≤ k) ∧ Drawn0 w w')
  case atStart => exact ⟨(0), (by first | rfl | (simp; done) | (simp [*]; done) | (simp [show ∀ l_ : List UInt8, (l_ != []) = !l_.isEmpty from fun l_ => by cases l_ <;> rfl]; done) | (congr 1; refine congr (congrArg (Go.bits _ _) ?_) ?_ <;> omega)), H', ⟨Nat.le_refl _⟩, by repeat (first | exact Drawn0.refl _ | apply Drawn0.step)⟩
  case round =>
   clear H'
   try clear c1
   try clear p2
   try clear c3
   try clear c3b0
   try clear c3b1
   try clear c3b2
   obtain ⟨x13_1, rfl, HA, HK1, ⟨m1, rfl⟩⟩ := hrel
   cases gk with
   | zero => exact absurd HA.out (by simp [slices_Equal_byte_byte.l0])
   | succ k1 =>
    have H := HA.out
    clear HA
    simp only [slices_Equal_byte_byte.l0] at H
    by_cases c4 : x13_1 < (l0.length : Int)
    ·
     rw [if_pos c4] at H
     have c4b0 : decide (x13_1 < (l0.length : Int)) = true := decide_eq_true c4
     clear c4
     by_cases c5 : 0 ≤ x13_1
     ·
      rw [if_pos c5] at H
      have c5b0 : decide (0 ≤ x13_1) = true := decide_eq_true c5
      clear c5
      by_cases c6 : x13_1 < (l0.length : Int)
      ·
       rw [if_pos c6] at H
       have c6b0 : decide (x13_1 < (l0.length : Int)) = true := decide_eq_true c6
       clear c6
       by_cases c7 : x13_1 < (l1.length : Int)
       ·
        rw [if_pos c7] at H
        have c7b0 : decide (x13_1 < (l1.length : Int)) = true := decide_eq_true c7
        clear c7
        by_cases c8 : (rd l0 x13_1) = (rd l1 x13_1)
        ·
         rw [if_pos c8] at H
         have c8b0 : ((rd l0 x13_1) == (rd l1 x13_1)) = true := beq_iff_eq.mpr c8
         have c8b1 : ((rd l0 x13_1) != (rd l1 x13_1)) = false := bne_eq_false_iff_eq.mpr c8
         clear c8
         have H' := Aside0.mk H
         clear H
         have p101 : 0 ≤ (x13_1 : Int) := of_decide_eq_true (by first | (with_reducible assumption) | assumption)
         have q101 : x13_1 < (l0.length : Int) := of_decide_eq_true (by first | (with_reducible assumption) | assumption)
         obtain ⟨ad101, e101, hx101_0⟩ := Kd.at_int HR0.out x13_1 p101 q101
         cases e101
         replace p101 := eq_true p101
         replace q101 := eq_true q101
         have p102 : 0 ≤ (x13_1 : Int) := of_decide_eq_true (by first | (with_reducible assumption) | assumption)
         have q102 : x13_1 < (l1.length : Int) := of_decide_eq_true (by first | (with_reducible assumption) | assumption)
         obtain ⟨ad102, e102, hx102_0⟩ := Kd.at_int HR1.out x13_1 p102 q102
         cases e102
         replace p102 := eq_true p102
         replace q102 := eq_true q102
         go_wp2
         repeat (go_quiet (fail); try go_wp2)
         go_roundg k1
         case measure => have := HK1.out; omega
         case rel => exact ⟨(wrap64 (x13_1 + 1)), (by first | rfl | (simp; done) | (simp [*]; done) | (simp [show ∀ l_ : List UInt8, (l_ != []) = !l_.isEmpty from fun l_ => by cases l_ <;> rfl]; done) | (congr 1; refine congr (congrArg (Go.bits _ _) ?_) ?_ <;> omega)), H', ⟨by have := HK1.out; omega⟩, by repeat (first | exact Drawn0.refl _ | apply Drawn0.step)⟩
        ·
         rw [if_neg c8] at H
         have c8b0 : ((rd l0 x13_1) == (rd l1 x13_1)) = false := beq_eq_false_iff_ne.mpr c8
         have c8b1 : ((rd l0 x13_1) != (rd l1 x13_1)) = true := bne_iff_ne.mpr c8
         obtain rfl := Option.some.inj H
         have p101 : 0 ≤ (x13_1 : Int) := of_decide_eq_true (by first | (with_reducible assumption) | assumption)
         have q101 : x13_1 < (l0.length : Int) := of_decide_eq_true (by first | (with_reducible assumption) | assumption)
         obtain ⟨ad101, e101, hx101_0⟩ := Kd.at_int HR0.out x13_1 p101 q101
         cases e101
         replace p101 := eq_true p101
         replace q101 := eq_true q101
         have p102 : 0 ≤ (x13_1 : Int) := of_decide_eq_true (by first | (with_reducible assumption) | assumption)
         have q102 : x13_1 < (l1.length : Int) := of_decide_eq_true (by first | (with_reducible assumption) | assumption)
         obtain ⟨ad102, e102, hx102_0⟩ := Kd.at_int HR1.out x13_1 p102 q102
         cases e102
         replace p102 := eq_true p102
         replace q102 := eq_true q102
         go_wp2
         repeat (go_quiet (fail); try go_wp2)
         go_ret
         exact ⟨by first | rfl | (simp; done) | (simp [*]; done), by repeat (first | exact Drawn0.refl _ | apply Drawn0.step)⟩
       ·
        rw [if_neg c7] at H
        exact absurd H (by simp)
      ·
       rw [if_neg c6] at H
       exact absurd H (by simp)
     ·
      rw [if_neg c5] at H
      exact absurd H (by simp)
    ·
     rw [if_neg c4] at H
     have c4b0 : decide (x13_1 < (l0.length : Int)) = false := decide_eq_false c4
     clear c4
     obtain rfl := Option.some.inj H
     go_wp2
     repeat (go_quiet (fail); try go_wp2)
     go_ret
     exact ⟨by first | rfl | (simp; done) | (simp [*]; done), by repeat (first | exact Drawn0.refl _ | apply Drawn0.step)⟩
 ·
  rw [if_neg c3] at H
  have c3b0 : ((l0.length : Int) == (l1.length : Int)) = false := beq_eq_false_iff_ne.mpr c3
  have c3b1 : ((l0.length : Int) != (l1.length : Int)) = true := bne_iff_ne.mpr c3
  have c3b2 : (l0.length == l1.length) = false := by first | simpa using c3 | (simp at c3 ⊢; omega)
  obtain rfl := Option.some.inj H
  go_enter Try.func45, Try.ntmps45
  go_wp2
  repeat (go_quiet (fail); try go_wp2)
  go_ret
  exact ⟨by first | rfl | (simp; done) | (simp [*]; done), by repeat (first | exact Drawn0.refl _ | apply Drawn0.step)⟩
end Go.Proofs.Ytejdnanhnkjaoaa.G
end
section
namespace Go.Proofs.Ytejdnanhnkjaoaa.SymR
set_option linter.unusedVariables false
set_option linter.unusedSimpArgs false
open Go.RowKit Go.Proofs.Ytejdnanhnkjaoaa.G Go.Proofs.YtejdnanhnkjaoaaW.PrintWords Go.Proofs.YtejdnanhnkjaoaaW.PrintLast Go.Proofs.YtejdnanhnkjaoaaW.PrintMore
open Go.Proofs.Ytejdnanhnkjaoaa.Bit
set_option maxHeartbeats 2000000 in
set_option maxRecDepth 100000 in
theorem read_ok (A0 : Option Addr) (c0 : Nat) (l0 : List Int) (A1 : Option Addr) (c1 : Nat) (l1 : List Int) (a2 : Int) (A3 : Option Addr) (c3 : Nat) (l3 : List ByteArray) (w : World) (hr0 : Kd.C (Kd.int .u8) w A0 l0.length l0) (hc0 : l0.length ≤ c0) (hr1 : Kd.C (Kd.int .u8) w A1 l1.length l1) (hc1 : l1.length ≤ c1) (hr3 : Kd.C Kd.string w A3 l3.length l3) (hc3 : l3.length ≤ c3)
    (xs : List S58) (hl0 : l0.length = 24 * (xs.length + 1)) (hl0m : l0.length ≤ 1048576) (hl1m : l1.length ≤ 1048576) (hx : ∀ i (h : i < xs.length), symR l0 l1 l3 (24 * ((i : Int) + 1)) = some xs[i]) (hw : SymW.writeF xs l3 = some (l0, l1, a2, 0)) (ke : Nat) (he0 : slices_Equal_byte_byte.f ke l0 l0 = some true) (he1 : slices_Equal_byte_byte.f ke l1 l1 = some true) :
    Calls Try.prog 26 #[.slice A0 l0.length c0, .slice A1 l1.length c1, .int .i64 a2, .slice A3 l3.length c3] w fun e w' => ∃ v0_ : Value, e = .returned (.tuple #[v0_, .int .i64 0]) ∧ Kd.R k58 58 w' w.heap.size (fun _ => True) v0_ xs ∧ Below w.heap.size w w' := by
  have HR0 := Aside0.mk hr0
  have HC0 := Aside0.mk hc0
  have HR1 := Aside0.mk hr1
  have HC1 := Aside0.mk hc1
  have HR3 := Aside0.mk hr3
  have HC3 := Aside0.mk hc3
  have HX := Aside0.mk hx
  have HW := Aside0.mk hw
  have HE0 := Aside0.mk he0
  have HE1 := Aside0.mk he1
  have HL0 := Aside0.mk hl0
  have HL0M := Aside0.mk hl0m
  have d0 : decide ((l0.length : Int) > 1048576) = false := decide_eq_false (by omega)
  have d1 : decide (1048576 < l0.length) = false := decide_eq_false (by omega)
  have d2 : decide ((l1.length : Int) > 1048576) = false := decide_eq_false (by omega)
  have d3 : decide (1048576 < l1.length) = false := decide_eq_false (by omega)
  have m0 : Int.tmod (l0.length : Int) 24 = 0 := by rw [Int.tmod_eq_emod_of_nonneg (by omega)]; omega
  have d4 : decide ((l0.length : Int) < 24) = false := decide_eq_false (by omega)
  have d5 : decide (l0.length < 24) = false := decide_eq_false (by omega)
  have hmf : ∀ (fn : Fn) (first cap : Array Value) (w : World), (Instr.makeFunc fn first cap).run Try.prog w = .ok (.func fn first cap) w := fun _ _ _ _ => rfl
  clear hr0 hc0 hr1 hc1 hr3 hc3 hx hw he0 he1 hl0m hl1m hl0
  go_enter_defers Try.func26, Try.ntmps26
  go_wp2_with fail
  refine (fail_no _ _).mono ?_
  rintro e w1 ⟨rfl, hw1⟩
  obtain ⟨pl, hpl⟩ : ∃ pl, pl = w.heap.size := ⟨_, rfl⟩
  have hp1 : w1.heap[pl]? = some (.cells #[.slice none 0 0] 43 (0, 0)) := by
    rw [hw1, hpl]; exact blk_alloc (blk_alloc (blk_new w _) _) _
  have hp2 : w1.heap[pl + 1]? = some (.cells #[.int .i64 0] 29 (0, 0)) := by
    rw [hw1, hpl]
    have := blk_new (w.alloc (.cells #[.slice none 0 0] 43)) (.cells #[.int .i64 0] 29)
    rw [World.size_alloc] at this
    exact blk_alloc this _
  have hp3 : Rd w1 (pl + 1 + 1) A0 l0.length c0 A1 l1.length c1 A3 l3.length c3 := by
    unfold Rd
    rw [hw1, hpl]
    have := blk_new ((w.alloc (.cells #[.slice none 0 0] 43)).alloc (.cells #[.int .i64 0] 29)) (.cells #[.slice A0 l0.length c0, .slice A1 l1.length c1, .slice A3 l3.length c3] 79)
    rw [World.size_alloc, World.size_alloc] at this
    exact this
  have hB1 : Below pl w w1 := by
    rw [hw1, hpl]
    exact below_alloc (below_alloc (below_alloc (Below.refl _ _) _) _) _
  rw [← hpl]
  have HP1 := Aside0.mk hp1
  have HP2 := Aside0.mk hp2
  have HP3 := Aside0.mk hp3
  have HB1 := Aside0.mk hB1
  have HPL := Aside0.mk hpl
  clear hp1 hp2 hp3 hB1 hw1 hpl
  go_wp2
  go_loopg [11] xs.length (fun kq v11 w' => ∃ (i : Nat) (v : Value), i + kq = xs.length ∧ v11 = .int .i64 (24 * ((i : Int) + 1)) ∧ Aside0 (w'.heap[pl]? = some (.cells #[v] 43 (0, 0))) ∧ Aside0 (Kd.R k58 58 w' pl (fun k => k ≠ pl ∧ k ≠ pl + 1 ∧ k ≠ pl + 1 + 1) v (xs.take i)) ∧ Aside0 (w'.heap[pl + 1]? = some (.cells #[.int .i64 0] 29 (0, 0))) ∧ Aside0 (Rd w' (pl + 1 + 1) A0 l0.length c0 A1 l1.length c1 A3 l3.length c3) ∧ Aside0 (Below pl w w'))
  case atStart => exact ⟨0, .slice none 0 0, by omega, rfl, HP1, ⟨Kd.R_nil _ _ _ _ _⟩, HP2, HP3, HB1⟩
  case round =>
    clear HP1 HP2 HP3 HB1
    obtain ⟨i, v, hi, rfl, HP1, HV, HP2, HP3, HB1⟩ := hrel
    have hl0 := HL0.out
    have hl0m := HL0M.out
    cases gk with
    | zero =>
      obtain rfl : i = xs.length := by omega
      rw [List.take_length] at HV
      have dl : decide (24 * ((xs.length : Int) + 1) < (l0.length : Int)) = false := decide_eq_false (by omega)
      have q1 : wr.cell? ⟨pl, 0, none⟩ = some v := (blk_cell HP1.out 0).trans rfl
      have q2 : wr.cell? ⟨pl + 1, 0, none⟩ = some (.int .i64 0) := (blk_cell HP2.out 0).trans rfl
      have q3 := blk_frozen HP1.out 0
      have q4 := blk_frozen HP2.out 0
      obtain ⟨Av, cv, rfl⟩ := Kd.R_slice HV.out
      clear hl0 hl0m hi
      go_wp2_with fail
      have HBW : Aside0 (Below w.heap.size w wr) := ⟨by rw [← HPL.out]; exact HB1.out⟩
      refine (SymW.write_calls Av cv xs A3 c3 l3 l0 l1 a2 0 _ (Kd.R_reads' HV.out).2.2 (Kd.R_reads' HV.out).2.1 (Kd.C_below HR3.out HBW.out) HC3.out HW.out).mono ?_
      rintro e w2 ⟨va, vb, rfl, ha, hb_, hb⟩
      have HA := Aside0.mk ha
      have HBB := Aside0.mk hb_
      have HB2 := Aside0.mk (below_step HBW.out hb)
      have HQ1 := Aside0.mk (blk_below HP1.out hb)
      have HQ2 := Aside0.mk (blk_below HP2.out hb)
      have HV2 := Aside0.mk (Kd.R_below HV.out hb)
      clear ha hb_ hb q1 q2 q3 q4
      obtain ⟨Aa, ca, rfl⟩ := Kd.R_slice HA.out
      obtain ⟨Ab, cb, rfl⟩ := Kd.R_slice HBB.out
      go_wp2_with fail
      refine (slices_Equal_byte_byte.calls ke Aa ca l0 A0 c0 l0 true _ (Kd.R_reads' HA.out).2.2 (Kd.R_reads' HA.out).2.1 (Kd.C_below HR0.out HB2.out) HC0.out HE0.out).mono ?_
      rintro e w3 ⟨rfl, hd⟩
      have HB3 := Aside0.mk (below_step HB2.out hd.below)
      have HS1 := Aside0.mk (blk_below HQ1.out hd.below)
      have HS2 := Aside0.mk (blk_below HQ2.out hd.below)
      have HV3 := Aside0.mk (Kd.R_below HV2.out hd.below)
      have HBB3 := Aside0.mk (Kd.R_below HBB.out hd.below)
      clear hd
      go_wp2_with fail
      refine (slices_Equal_byte_byte.calls ke Ab cb l1 A1 c1 l1 true _ (Kd.R_reads' HBB3.out).2.2 (Kd.R_reads' HBB3.out).2.1 (Kd.C_below HR1.out HB3.out) HC1.out HE1.out).mono ?_
      rintro e w4 ⟨rfl, hd⟩
      have HB4 := Aside0.mk (below_step HB3.out hd.below)
      have HT1 := Aside0.mk (blk_below HS1.out hd.below)
      have HT2 := Aside0.mk (blk_below HS2.out hd.below)
      have HV4 := Aside0.mk (Kd.R_below HV3.out hd.below)
      clear hd
      go_wp2_with fail
      refine (fail_no _ _).mono ?_
      rintro e w5 ⟨rfl, rfl⟩
      have q1 : w5.cell? ⟨pl, 0, none⟩ = some (.slice Av xs.length cv) := (blk_cell HT1.out 0).trans rfl
      have q2 : w5.cell? ⟨pl + 1, 0, none⟩ = some (.int .i64 0) := (blk_cell HT2.out 0).trans rfl
      have q3 := blk_frozen HT1.out 0
      have q4 := blk_frozen HT2.out 0
      go_wp2
      refine leaves_cons (f := 42) (args := #[.pointer (some ⟨pl, 0, none⟩), .pointer (some ⟨pl + 1, 0, none⟩)]) (by simp) (by simp [go_sem]) ?_
      refine (read_idle _ _ _).mono ?_
      rintro e u' w6 ⟨rfl, rfl, rfl⟩
      have e1 := blk_far (blk_put HT1.out 0 (.slice Av xs.length cv) rfl) (show pl ≠ (⟨pl + 1, 0, none⟩ : Addr).block by show pl ≠ pl + 1; omega) (.int .i64 0)
      have e2 := blk_put (blk_far HT2.out (show pl + 1 ≠ (⟨pl, 0, none⟩ : Addr).block by show pl + 1 ≠ pl; omega) (.slice Av xs.length cv)) 0 (.int .i64 0) rfl
      have hb5 := HB4.out
      rw [← HPL.out]
      rw [← HPL.out] at hb5
      refine ⟨.tuple #[.slice Av xs.length cv, .int .i64 0], results2c (p := 8) (q := 9) rfl _ _ _ ⟨pl, 0, none⟩ ⟨pl + 1, 0, none⟩ (.slice Av xs.length cv) (.int .i64 0) rfl rfl Try.underlying43 Try.underlying29 ((blk_cell e1 0).trans rfl) ((blk_cell e2 0).trans rfl), .slice Av xs.length cv, rfl, ?_, (hb5.setCell (Nat.le_refl _) _).setCell (Nat.le_succ _) _⟩
      exact Kd.R_mono (Kd.R_far (Kd.R_far HV4.out (p := ⟨pl, 0, none⟩) (fun k hk => hk.1) _) (p := ⟨pl + 1, 0, none⟩) (fun k hk => hk.2.1) _) (fun _ _ => trivial)
    | succ k1 =>
      have dl : decide (24 * ((i : Int) + 1) < (l0.length : Int)) = true := decide_eq_true (by omega)
      have q1 : wr.cell? ⟨pl, 0, none⟩ = some v := (blk_cell HP1.out 0).trans rfl
      have q3 := blk_frozen HP1.out 0
      have hw24 : wrap64 (24 * ((i : Int) + 1) + 24) = 24 * (((i + 1 : Nat) : Int) + 1) := by unfold wrap64; omega
      have hw24i : IntKind.i64.wrap (24 * ((i : Int) + 1) + 24) = 24 * (((i + 1 : Nat) : Int) + 1) := by rw [IntKind.wrap_i64]; omega
      have HIX := Aside0.mk (show i < xs.length by omega)
      have HAT := Aside0.mk (show 0 ≤ 24 * ((i : Int) + 1) ∧ 24 * ((i : Int) + 1) ≤ 2097152 by omega)
      have HRN := Aside0.mk (show i + 1 + k1 = xs.length by omega)
      have HAL := Aside0.mk (show ((xs.take i).length + 1) * 64 ≤ 140737488355328 by rw [List.length_take]; omega)
      clear hl0 hl0m hi
      go_wp2
      obtain ⟨x, hxe⟩ : ∃ x, xs[i]'(by have := HIX.out; omega) = x := ⟨_, rfl⟩
      have HXS : Aside0 (symR l0 l1 l3 (24 * ((i : Int) + 1)) = some x) := ⟨by rw [← hxe]; exact HX.out i HIX.out⟩
      have HTK : Aside0 (xs.take i ++ [x] = xs.take (i + 1)) := ⟨by rw [← List.take_append_getElem (l := xs) (i := i) HIX.out, hxe]⟩
      have HTL : Aside0 ((xs.take (i + 1)).length = i + 1) := ⟨by rw [List.length_take]; have := HIX.out; omega⟩
      clear hxe
      have HLTW := Aside0.mk (blk_lt HP3.out)
      refine start_ (n := 7) (S := fun u => u.cell? ⟨pl, 0, none⟩ = some v) (ds := [6]) #[false, false, false, false, false, false, false] (by kernel_rfl) rfl rfl ?_ (fun hHeld => ?_)
      case refine_1 => exact q1
      refine take_ (i := 0) (N := some 47) (v := ?_) (a' := ?_) #[true, false, false, false, false, false, false] rfl rfl (by kernel_rfl) (fun _ _ _ h => panic_put (by decide) (by decide) h) (Or.inl ⟨by rfl, ?_⟩) hHeld ?_ ?_
      rotate_left
      · rintro u s0
        go_simp
        with_reducible rfl
      rotate_left
      · simp only [Act.put, List.setIfInBounds_toArray, List.set_cons_zero, List.set_cons_succ, i64_w, i32_w]
        rfl
      refine pure_ (i := 1) (N := some 48) (v := ?_) (a' := ?_) #[true, true, false, false, false, false, false] rfl rfl (by kernel_rfl) (fun _ _ _ h => panic_put (by decide) (by decide) h) (Or.inl ⟨by rfl, ?_⟩) ?_ ?_
      rotate_left
      · intro u
        go_simp
        with_reducible rfl
      rotate_left
      · simp only [Act.put, List.setIfInBounds_toArray, List.set_cons_zero, List.set_cons_succ, i64_w, i32_w]
        rfl
      refine pure_ (i := 2) (N := some 49) (v := ?_) (a' := ?_) #[true, true, true, false, false, false, false] rfl rfl (by kernel_rfl) (fun _ _ _ h => panic_put (by decide) (by decide) h) (Or.inl ⟨by rfl, ?_⟩) ?_ ?_
      rotate_left
      · intro u
        go_simp
        with_reducible rfl
      rotate_left
      · simp only [Act.put, List.setIfInBounds_toArray, List.set_cons_zero, List.set_cons_succ, i64_w, i32_w]
        rfl
      refine one_ (i := 3) (N := some 50) #[true, true, true, true, false, false, false] rfl rfl (by kernel_rfl) (by decide) (fun K hK => ?_)
      refine goes_ Try.func44 (by kernel_rfl) rfl #[.pointer (some ⟨pl + 1 + 1, 0, none⟩), .int .i64 (24 * ((i : Int) + 1))] (by rfl) rfl rfl (by (try simp only [List.map_toArray, List.map_cons, List.map_nil]); first | done | rfl) ?_
      have HBW : Aside0 (Below w.heap.size w wr.drew) := ⟨by rw [← HPL.out]; exact below_drew1 HB1.out⟩
      refine (symbol_calls _ (pl + 1 + 1) A0 c0 l0 A1 c1 l1 A3 c3 l3 (Kd.C_below HR0.out HBW.out) HC0.out (Kd.C_below HR1.out HBW.out) HC1.out (Kd.C_below HR3.out HBW.out) (blk_drew HP3.out) _ HAT.out.1 HAT.out.2 x HXS.out).mono ?_
      rintro e w2 ⟨rfl, hb⟩
      refine ⟨_, rfl, ?_⟩
      have HQ1 := Aside0.mk (blk_below (blk_drew HP1.out) hb)
      have HQ2 := Aside0.mk (blk_below (blk_drew HP2.out) hb)
      have HQ3 := Aside0.mk (show Rd w2 (pl + 1 + 1) A0 l0.length c0 A1 l1.length c1 A3 l3.length c3 from blk_below (blk_drew HP3.out) hb)
      have HV2 := Aside0.mk (Kd.R_below (Kd.R_drew HV.out) hb)
      have HB2 := Aside0.mk (show Below pl w w2 from (below_drew1 HB1.out).trans (hb.mono (by have := HLTW.out; show pl ≤ wr.heap.size; omega)))
      have g1 : w2.cell? ⟨pl, 0, none⟩ = some v := (blk_cell HQ1.out 0).trans rfl
      clear hb hHeld q1 q3 HBW HP1 HP2 HP3 HV
      refine hK.out _ _ g1 (fun hHeld => ?_)
      clear hK K
      refine norm_ (a' := ?_) ?_ ?_
      rotate_left
      · show Act.put _ (some 50) _ = _
        simp only [Act.put, List.setIfInBounds_toArray, List.set_cons_zero, List.set_cons_succ, i64_w, i32_w]
        rfl
      refine one_ (i := 4) (N := some 51) #[true, true, true, true, true, false, false] rfl rfl (by kernel_rfl) (by decide) (fun K hK => ?_)
      refine value_ (w1 := ?_) (v := ?_) (by rfl) rfl ?_ ?_
      rotate_left 2
      · go_simp
        constructor
        · rfl
        · rfl
      refine hK.out _ _ ((World.cell?_alloc_lt _ _ _ (World.block_lt_of_cell? _ _ g1)).trans g1) (fun hHeld => ?_)
      clear hK K
      refine norm_ (a' := ?_) ?_ ?_
      rotate_left
      · show Act.put _ (some 51) _ = _
        simp only [Act.put, List.setIfInBounds_toArray, List.set_cons_zero, List.set_cons_succ, i64_w, i32_w]
        rfl
      refine one_ (i := 5) (N := some 52) #[true, true, true, true, true, true, false] rfl rfl (by kernel_rfl) (by decide) (fun K hK => ?_)
      have hlt2 := blk_lt HQ3.out
      refine Kd.R_append_step k58 (w0 := w) pl (by rfl) (.tmp 47) (.tmp 51) 43 58 (.agg #[(.string ⟨#[]⟩), (.string ⟨#[]⟩), (.int .i64 0), (.int .i64 0), (.int .i64 0), (.int .i64 0)]) 64 rfl Try.underlying43 info58 rfl (by decide) (by decide) v (xs.take i) x [.string x.f0, .string x.f1, .int .i64 x.f2, .int .i64 x.f3, .int .i64 x.f4, .int .i64 x.f5] (fun k => k ≠ pl ∧ k ≠ pl + 1 ∧ k ≠ pl + 1 + 1) (fun _ => False) rfl rfl (k58_mkM _ _ _ x) (fun _ hk => hk.elim) (fun k hk => by omega) HV2.out HB2.out (by omega) HAL.out ?_
      intro v1 w4 ho hbb hg hat
      have HQ4 := Aside0.mk (blk_grown HQ1.out hg (fun e => (HV2.out.1 _ e.symm).1 rfl))
      have HQ5 := Aside0.mk (blk_grown HQ2.out hg (fun e => (HV2.out.1 _ e.symm).2.1 rfl))
      have HQ6 := Aside0.mk (show Rd w4 (pl + 1 + 1) A0 l0.length c0 A1 l1.length c1 A3 l3.length c3 from blk_grown HQ3.out hg (fun e => (HV2.out.1 _ e.symm).2.2 rfl))
      rw [HTK.out] at ho
      obtain ⟨A4, c4, rfl⟩ := Kd.R_slice ho
      rw [HTL.out] at ho ⊢
      have HO4 := Aside0.mk ho
      have HB4 := Aside0.mk hbb
      have g4 : w4.cell? ⟨pl, 0, none⟩ = some v := (blk_cell HQ4.out 0).trans rfl
      have g5 := blk_frozen HQ4.out 0
      clear ho hbb hg hat hlt2 hHeld
      refine hK.out _ _ g4 (fun hHeld => ?_)
      clear hK K
      refine norm_ (a' := ?_) ?_ ?_
      rotate_left
      · show Act.put _ (some 52) _ = _
        simp only [Act.put, List.setIfInBounds_toArray, List.set_cons_zero, List.set_cons_succ, i64_w, i32_w]
        rfl
      refine last_ (i := 6) (N := none) #[true, true, true, true, true, true, true] rfl rfl (by kernel_rfl) (by decide) (fun K hK => ?_)
      rw [if_pos (by rfl)]
      go_simp
      refine hK.out _ _ ?_
      clear hK K
      refine done_ (by kernel_rfl) ?_
      go_wp2
      go_roundg k1
      case measure => omega
      case rel => exact ⟨i + 1, .slice A4 (i + 1) c4, HRN.out, by rfl, ⟨blk_put HQ4.out 0 _ rfl⟩, ⟨Kd.R_far HO4.out (p := ⟨pl, 0, none⟩) (fun k hk => hk.1) _⟩, ⟨blk_far HQ5.out (by show pl + 1 ≠ pl; omega) _⟩, ⟨blk_far HQ6.out (by show pl + 1 + 1 ≠ pl; omega) _⟩, ⟨Below.setCell HB4.out (Nat.le_refl _) _⟩⟩
end Go.Proofs.Ytejdnanhnkjaoaa.SymR
end
section
namespace Go.Proofs.Ytejdnanhnkjaoaa.Sym
set_option linter.unusedVariables false
set_option linter.unusedSimpArgs false
open Go.RowKit Go.Proofs.Ytejdnanhnkjaoaa.G Go.Proofs.YtejdnanhnkjaoaaW.PrintWords Go.Proofs.YtejdnanhnkjaoaaW.PrintLast Go.Proofs.YtejdnanhnkjaoaaW.PrintMore Go.Proofs.Ytejdnanhnkjaoaa.Bit
theorem rounds_to {α : Type} {g : Nat → Option α} (hg : ∀ k, LeO (g k) (g (k + 1))) {k k' : Nat} (hk : k ≤ k') {r : α} (h : g k = some r) : g k' = some r := by
  induction hk with
  | refl => exact h
  | step _ ih => exact hg _ _ ih
/-- the first byte 0, counted from here -/
def zeroAt : List Int → Option Nat
  | [] => none
  | x :: xs => if x = 0 then some 0 else (zeroAt xs).map (· + 1)
theorem zeroAt_lt (l : List Int) : ∀ n, zeroAt l = some n → n < l.length := by
  induction l with
  | nil => intro n h; simp [zeroAt] at h
  | cons x xs ih =>
    intro n h
    simp only [zeroAt] at h
    split at h
    · cases h; simp
    · cases hz : zeroAt xs with
      | none => rw [hz] at h; simp at h
      | some m =>
        rw [hz] at h
        simp at h
        have := ih m hz
        simp
        omega
theorem zeroAt_app (s : List UInt8) (hz : (0 : UInt8) ∉ s) (t : List Int) : zeroAt (s.map (fun b => (b.toNat : Int)) ++ 0 :: t) = some s.length := by
  induction s with
  | nil => rfl
  | cons x xs ih =>
    simp only [List.mem_cons, not_or] at hz
    have hx : ¬ (x.toNat : Int) = 0 := by
      intro e
      apply hz.1
      have : x.toNat = 0 := by omega
      exact (UInt8.toNat_inj.mp (by simpa using this)).symm
    simp only [List.map_cons, List.cons_append, zeroAt]
    rw [if_neg hx, ih hz.2]
    rfl
theorem indexByte_zero (s : List UInt8) : 0 ≤ Lib.indexByte s 0 ↔ (0 : UInt8) ∈ s := by
  have hlow : ∀ s : List UInt8, -1 ≤ Lib.indexByte s 0 := by
    intro s
    induction s with
    | nil => simp [Lib.indexByte]
    | cons x xs ih =>
      simp only [Lib.indexByte]
      split
      · omega
      · split
        · omega
        · omega
  induction s with
  | nil => simp [Lib.indexByte]
  | cons x xs ih =>
    simp only [Lib.indexByte, List.mem_cons]
    by_cases c : x = 0
    · subst c
      simp
    · have hne : (x == 0) = false := by simpa using c
      rw [hne, if_neg (by decide)]
      have hne2 : ¬ (0 : UInt8) = x := fun e => c e.symm
      simp only [hne2, false_or, ← ih]
      have := hlow xs
      by_cases c2 : Lib.indexByte xs 0 = -1
      · rw [c2]
        simp
      · have hb : (Lib.indexByte xs 0 == -1) = false := by simpa using c2
        rw [hb, if_neg (by decide)]
        omega
theorem symZero_iff (l : List ByteArray) : symZero l = true ↔ ∃ s ∈ l, (0 : UInt8) ∈ s.data.toList := by
  induction l with
  | nil => simp [symZero]
  | cons s r ih =>
    simp only [symZero, List.mem_cons, exists_eq_or_imp, ← ih]
    by_cases c : 0 ≤ Lib.indexByte s.data.toList 0
    · rw [if_pos c]
      exact ⟨fun _ => .inl ((indexByte_zero _).1 c), fun _ => rfl⟩
    · rw [if_neg c]
      exact ⟨fun h => .inr h, fun h => h.resolve_left (fun h2 => c ((indexByte_zero _).2 h2))⟩
/-- what At answers -/
def atOf (l : List Int) (a : Int) : ByteArray × Int :=
  if a < 0 ∨ (l.length : Int) ≤ a then (⟨#[]⟩, 11) else
  match zeroAt (l.drop a.toNat) with
  | none => (⟨#[]⟩, 20)
  | some n => if n > 255 then (⟨#[]⟩, 6) else (strOfNums ((l.take (a.toNat + n)).drop a.toNat), 0)
theorem toList_data (s : ByteArray) : s.toList = s.data.toList := ByteArray.toList_eq s
theorem same_iff (s t : ByteArray) : s.toList = t.toList ↔ s.data.toList = t.data.toList := by rw [toList_data, toList_data]
theorem eq_of_data {s t : ByteArray} (h : s.data.toList = t.data.toList) : s = t := ByteArray.ext (Array.toList_inj.mp h)
theorem strOf_bytesOf (s : ByteArray) : strOfNums (bytesOf s) = s := by
  apply eq_of_data
  simp [strOfNums, bytesOf, List.map_map, Function.comp_def]
/-- is the name at place i new, and not empty? -/
def fresh (l : List ByteArray) (i : Nat) : Bool := (l.getD i ByteArray.empty).toList != [] && !((l.take i).any fun x => x.toList == (l.getD i ByteArray.empty).toList)
/-- the table's size behind the first i names -/
def sizeUp (l : List ByteArray) : Nat → Nat
  | 0 => 1
  | i + 1 => sizeUp l i + if fresh l i then (l.getD i ByteArray.empty).size + 1 else 0
/-- what is kept while the table is built -/
structure Inv (l : List ByteArray) (n : Nat) (m : List (List UInt8 × Int)) (b at_ : List Int) : Prop where
  len : at_.length = n
  old : ∀ i (h : i < at_.length) (h2 : i < l.length), Own.look m l[i].data.toList = some at_[i]
  ent : ∀ s c, Own.look m s = some c → ∃ j : Nat, c = j ∧ j + s.length < b.length ∧ (b.drop j).take (s.length + 1) = s.map (fun x => (x.toNat : Int)) ++ [0] ∧ (0 : UInt8) ∉ s ∧ s.length ≤ 255
  size : b.length = sizeUp l n
  met : ∀ s, s ≠ [] → ((Own.look m s).isSome ↔ ∃ x ∈ l.take n, x.data.toList = s)
theorem fresh_iff (l : List ByteArray) (i : Nat) (hi : i < l.length) : fresh l i = true ↔ l[i].data.toList ≠ [] ∧ ¬ ∃ x ∈ l.take i, x.data.toList = l[i].data.toList := by
  unfold fresh
  simp [List.getD, hi, toList_data, List.any_eq_false]
theorem inv_zero (l : List ByteArray) : Inv l 0 [([], 0)] [0] [] where
  len := rfl
  old := fun i h => by simp at h
  ent := fun s c h => by
    rw [Own.look_cons] at h
    split at h
    · rename_i e
      cases h
      subst e
      exact ⟨0, rfl, by simp, by simp, by simp, by simp⟩
    · simp [Own.look] at h
  size := rfl
  met := fun s hs => by
    rw [Own.look_cons, if_neg (fun e => hs e.symm)]
    simp [Own.look]
theorem inv_old (l : List ByteArray) (n : Nat) (m : List (List UInt8 × Int)) (b at_ : List Int) (hn : n < l.length) (h : Inv l n m b at_) (c : Int) (hc : Own.look m l[n].data.toList = some c) : Inv l (n + 1) m b (at_ ++ [c]) where
  len := by rw [List.length_append, h.len]; rfl
  old := fun i hi h2 => by
    have hl := h.len
    rw [List.length_append, List.length_singleton] at hi
    rw [List.getElem_append]
    split
    · exact h.old i _ h2
    · obtain rfl : i = n := by omega
      simp [hl, hc]
  ent := h.ent
  size := by
    have : fresh l n = false := by
      rw [Bool.eq_false_iff]
      intro hf
      rw [fresh_iff l n hn] at hf
      have := (h.met _ hf.1).1 (by rw [hc]; rfl)
      exact hf.2 this
    rw [h.size]
    simp [sizeUp, this]
  met := fun s hs => by
    rw [h.met s hs, List.take_succ_eq_append_getElem hn]
    simp only [List.mem_append, List.mem_singleton]
    refine ⟨fun ⟨x, h1, h2⟩ => ⟨x, .inl h1, h2⟩, fun ⟨x, h1, h2⟩ => ?_⟩
    rcases h1 with h1 | rfl
    · exact ⟨x, h1, h2⟩
    · subst h2
      exact (h.met _ hs).1 (by rw [hc]; rfl)
theorem inv_new (l : List ByteArray) (n : Nat) (m : List (List UInt8 × Int)) (b at_ : List Int) (hn : n < l.length) (h : Inv l n m b at_) (hc : Own.look m l[n].data.toList = none) (h255 : l[n].size ≤ 255) (hz : (0 : UInt8) ∉ l[n].data.toList) (h0 : (Own.look m []).isSome) :
    Inv l (n + 1) ((l[n].data.toList, (b.length : Int)) :: m) (b ++ bytesOf l[n] ++ [0]) (at_ ++ [(b.length : Int)]) where
  len := by rw [List.length_append, h.len]; rfl
  old := fun i hi h2 => by
    have hl := h.len
    rw [List.length_append, List.length_singleton] at hi
    rw [Own.look_cons]
    by_cases hin : i < at_.length
    · have e := h.old i hin h2
      rw [if_neg (fun e2 => by rw [← e2, hc] at e; cases e), List.getElem_append_left hin]
      exact e
    · obtain rfl : i = n := by omega
      rw [if_pos rfl]
      simp [hl]
  ent := fun s c hs => by
    rw [Own.look_cons] at hs
    split at hs
    · rename_i e
      cases hs
      subst e
      refine ⟨b.length, rfl, by rw [List.length_append, List.length_append, bytesOf_length, data_length]; simp, ?_, hz, by rw [data_length]; exact h255⟩
      rw [List.append_assoc, List.drop_left, List.take_of_length_le (by rw [List.length_append, bytesOf_length, data_length]; simp)]
      rfl
    · obtain ⟨j, h1, h2, h3, h4⟩ := h.ent s c hs
      refine ⟨j, h1, by rw [List.length_append, List.length_append]; omega, ?_, h4⟩
      rw [List.append_assoc, List.drop_append_of_le_length (by omega), List.take_append_of_le_length (by rw [List.length_drop]; omega)]
      exact h3
  size := by
    have : fresh l n = true := by
      rw [fresh_iff l n hn]
      have hne : l[n].data.toList ≠ [] := fun e => by rw [e] at hc; rw [hc] at h0; cases h0
      refine ⟨hne, fun hx => ?_⟩
      have := (h.met _ hne).2 hx
      rw [hc] at this
      cases this
    rw [List.length_append, List.length_append, bytesOf_length, h.size]
    simp [sizeUp, this, List.getD, hn]
    omega
  met := fun s hs => by
    rw [Own.look_cons, List.take_succ_eq_append_getElem hn]
    simp only [List.mem_append, List.mem_singleton]
    split
    · rename_i e
      simp only [Option.isSome_some, true_iff]
      exact ⟨l[n], .inr rfl, e⟩
    · rename_i e
      rw [h.met s hs]
      refine ⟨fun ⟨x, h1, h2⟩ => ⟨x, .inl h1, h2⟩, fun ⟨x, h1, h2⟩ => ?_⟩
      rcases h1 with h1 | rfl
      · exact ⟨x, h1, h2⟩
      · exact absurd h2 e
/-- what a table that was built is -/
structure Table (l : List ByteArray) (b at_ : List Int) : Prop where
  len : at_.length = l.length
  small : b.length ≤ 1048576
  size : b.length = sizeUp l l.length
  found : ∀ i (h : i < at_.length) (h2 : i < l.length), atOf b at_[i] = (l[i], 0)
  same : ∀ i j (h1 : i < at_.length) (h2 : j < at_.length) (h3 : i < l.length) (h4 : j < l.length), l[i].data.toList = l[j].data.toList → at_[i] = at_[j]
theorem table_of_inv (l : List ByteArray) (m : List (List UInt8 × Int)) (b at_ : List Int) (h : Inv l l.length m b at_) (hb : b.length ≤ 1048576) : Table l b at_ where
  len := h.len
  small := hb
  size := h.size
  found := fun i h1 h2 => by
    obtain ⟨j, e1, e2, e3, e4, e5⟩ := h.ent _ _ (h.old i h1 h2)
    have hz : zeroAt (b.drop j) = some l[i].data.toList.length := by
      have e6 : b.drop j = (l[i].data.toList.map (fun x => (x.toNat : Int))) ++ 0 :: (b.drop (j + (l[i].data.toList.length + 1))) := by
        rw [← List.take_append_drop (l[i].data.toList.length + 1) (b.drop j), e3, List.drop_drop]
        simp
      rw [e6]
      exact zeroAt_app _ e4 _
    unfold atOf
    rw [e1, if_neg (by omega), Int.toNat_natCast, hz]
    simp only
    rw [if_neg (by omega)]
    have e7 : (b.take (j + l[i].data.toList.length)).drop j = bytesOf l[i] := by
      have := congrArg (List.take l[i].data.toList.length) e3
      rw [List.take_take, Nat.min_eq_left (by omega), List.take_left' (by simp)] at this
      rw [List.take_drop] at this
      exact this
    rw [e7, strOf_bytesOf]
  same := fun i j h1 h2 h3 h4 e => by
    have e1 := h.old i h1 h3
    have e2 := h.old j h2 h4
    rw [e, e2] at e1
    exact (Option.some.inj e1).symm
theorem look_nil_kept (m : List (List UInt8 × Int)) (s : List UInt8) (c : Int) (h : (Own.look m []).isSome) : (Own.look ((s, c) :: m) []).isSome := by
  rw [Own.look_cons]
  split
  · rfl
  · exact h
theorem symStrs_table (l : List ByteArray) (hz : symZero l = false) (d : Nat) : ∀ n m b at_, n + d = l.length → Inv l n m b at_ → (Own.look m []).isSome →
    symStrs (l.drop n) m b at_ = ([], [], 6) ∨ ∃ b' a', symStrs (l.drop n) m b at_ = (b', a', 0) ∧ Table l b' a' := by
  induction d with
  | zero =>
    intro n m b at_ hn h h0
    obtain rfl : n = l.length := by omega
    rw [List.drop_length]
    simp only [symStrs]
    split
    · exact .inl rfl
    · exact .inr ⟨_, _, rfl, table_of_inv l m b at_ h (by omega)⟩
  | succ d ih =>
    intro n m b at_ hn h h0
    have hlt : n < l.length := by omega
    rw [List.drop_eq_getElem_cons hlt]
    simp only [symStrs]
    split
    · exact .inl rfl
    · split
      · exact ih _ _ _ _ (by omega) (inv_old l n m b at_ hlt h _ ‹_›) h0
      · refine ih _ _ _ _ (by omega) (inv_new l n m b at_ hlt h ‹_› (by omega) (fun hx => ?_) h0) (look_nil_kept _ _ _ h0)
        have := (symZero_iff l).2 ⟨l[n], List.getElem_mem _, hx⟩
        rw [hz] at this
        cases this
theorem strings_table (l : List ByteArray) (hl : l.length ≤ 1099511627776) (hs : (l.map ByteArray.size).sum ≤ 1099511627776) :
    symtab_Strings.f l = some ([], [], 80) ∨ symtab_Strings.f l = some ([], [], 6) ∨ ∃ b a, symtab_Strings.f l = some (b, a, 0) ∧ Table l b a := by
  unfold symtab_Strings.f
  rw [if_pos ⟨hl, hs⟩]
  cases hz : symZero l with
  | true => exact .inl rfl
  | false =>
    rw [if_neg (by decide)]
    rcases symStrs_table l hz l.length 0 _ _ _ (by omega) (inv_zero l) (by rfl) with h | ⟨b, a, h, ht⟩
    · exact .inr (.inl (congrArg some h))
    · exact .inr (.inr ⟨b, a, congrArg some h, ht⟩)
end Go.Proofs.Ytejdnanhnkjaoaa.Sym
end
section
namespace Go.Proofs.Ytejdnanhnkjaoaa.Sym
set_option linter.unusedVariables false
set_option linter.unusedSimpArgs false
open Go.RowKit Go.Proofs.Ytejdnanhnkjaoaa.G Go.Proofs.YtejdnanhnkjaoaaW.PrintWords Go.Proofs.YtejdnanhnkjaoaaW.PrintLast Go.Proofs.YtejdnanhnkjaoaaW.PrintMore Go.Proofs.Ytejdnanhnkjaoaa.Bit
theorem bindex_l0 (l : List Int) (d : Nat) : ∀ (k i : Nat), i ≤ l.length → l.length - i = d → d < k → l.length ≤ 140737488355328 →
    slices_Index_byte_byte.l0 k l 0 (l.length : Int) (i : Int) = some (match zeroAt (l.drop i) with | some n => ((i + n : Nat) : Int) | none => -1) := by
  induction d with
  | zero =>
    intro k i hi hd hk hl
    obtain ⟨k, rfl⟩ : ∃ m, k = m + 1 := ⟨k - 1, by omega⟩
    simp only [slices_Index_byte_byte.l0]
    rw [if_neg (by omega), List.drop_of_length_le (by omega)]
    rfl
  | succ d ih =>
    intro k i hi hd hk hl
    obtain ⟨k, rfl⟩ : ∃ m, k = m + 1 := ⟨k - 1, by omega⟩
    have hlt : i < l.length := by omega
    have hrd : rd l (i : Int) = l[i] := by simp [rd, List.getD, hlt]
    simp only [slices_Index_byte_byte.l0]
    rw [if_pos (by omega), if_pos (by omega), if_pos (by omega), hrd, List.drop_eq_getElem_cons hlt]
    simp only [zeroAt]
    by_cases c : l[i] = 0
    · rw [if_pos c.symm, if_pos c]
      simp
    · rw [if_neg (fun e => c e.symm), if_neg c, wrap64_id (by omega) (by omega), show (i : Int) + 1 = ((i + 1 : Nat) : Int) from by omega, ih k (i + 1) (by omega) (by omega) (by omega) hl]
      cases zeroAt (l.drop (i + 1)) with
      | none => rfl
      | some n =>
        simp only [Option.map_some]
        rw [show i + (n + 1) = i + 1 + n from by omega]
theorem at_f (l : List Int) (a : Int) (hm : l.length ≤ 140737488351232) (k : Nat) (hk : l.length + 3 ≤ k) : symtab_At.f k l a = some (atOf l a) := by
  obtain ⟨k, rfl⟩ : ∃ m, k = m + 1 := ⟨k - 1, by omega⟩
  unfold symtab_At.f atOf
  by_cases c1 : a < 0
  · rw [if_pos c1, if_pos (.inl c1)]
    simp only [symtab_At.j0, if_true]
  · rw [if_neg c1]
    by_cases c2 : (l.length : Int) ≤ a
    · rw [decide_eq_true (show a ≥ l.length from c2), if_pos (.inr c2)]
      simp only [symtab_At.j0, if_true]
    · rw [decide_eq_false (show ¬ a ≥ l.length from c2), if_neg (by omega)]
      obtain ⟨m, rfl⟩ := Int.eq_ofNat_of_zero_le (show 0 ≤ a by omega)
      simp only [symtab_At.j0, Bool.false_eq_true, if_false]
      rw [if_pos (by omega), if_pos (by omega), Int.toNat_natCast]
      unfold slices_Index_byte_byte.f
      have := bindex_l0 (l.drop m) (l.drop m).length k 0 (by omega) (by omega) (by rw [List.length_drop]; omega) (by rw [List.length_drop]; omega)
      simp only [List.drop_zero, Nat.zero_add, Int.natCast_zero] at this
      rw [this, Option.bind_some]
      cases hz : zeroAt (l.drop m) with
      | none => rfl
      | some n =>
        have hlt := zeroAt_lt _ _ hz
        rw [List.length_drop] at hlt
        simp only
        rw [if_neg (by omega)]
        by_cases c3 : n > 255
        · rw [if_pos (by omega), if_pos c3]
        · rw [if_neg (by omega), if_neg c3, wrap64_id (by omega) (by omega), if_pos (by omega), if_pos (by omega), show ((m : Int) + (n : Int)).toNat = m + n from by omega]
end Go.Proofs.Ytejdnanhnkjaoaa.Sym
end
section
namespace Go.Proofs.Ytejdnanhnkjaoaa.SymR
set_option linter.unusedVariables false
set_option linter.unusedSimpArgs false
open Go.RowKit Go.Proofs.Ytejdnanhnkjaoaa.G Go.Proofs.YtejdnanhnkjaoaaW.PrintWords Go.Proofs.YtejdnanhnkjaoaaW.PrintLast Go.Proofs.YtejdnanhnkjaoaaW.PrintMore
open Go.Proofs.Ytejdnanhnkjaoaa.Bit Go.Proofs.Ytejdnanhnkjaoaa.Sym
theorem goesP_ {P : Program} {ops : Array Oper} {Q : Exit → Act → World → Prop} {oi : Oper} {N : Option Tmp} {a : Act} {w : World} {K : Act → World → Prop} {f : FuncId} {fn : Func} {as_ : Array Operand} {ts : Array TypeId} (hf : P.funcs[f]? = some fn) (hname : (fn.name == "runtime.NumGoroutine") = false) (hb : fn.body.isSome = true) (args : Array Value)
  (hw : Region.wanted oi (yielded ops a.tmps) = true) (hN : oi.dst = N) (hop : oi.op = .call { callee := .value (.func f), args := as_, argTypes := ts }) (hargs : as_.map a.eval = args)
  (h : Calls P f args w fun e w' => ∃ ch, e = .panicked ch ∧ Q (.panic ch) a w') : if Region.wanted oi (yielded ops a.tmps) = true then Oper.wp P oi a w K Q else K (a.put N undef) w := by
 rw [if_pos hw]
 subst hN
 have he := enters_ hf hname hb args w
 have hrun : (execOp a.eval oi).run P w = .ok (.enter f args) w := by
  unfold execOp
  simp [hop, resolve, Deferred.ofValue, invoke, Act.eval, hargs, he]
 unfold Oper.wp
 rw [hrun, Oper.upon_enter]
 refine h.mono fun e w'' hh => ?_
 obtain ⟨v, rfl, hk⟩ := hh
 exact hk
theorem number_none (w : World) (g : Nat) (A0 : Option Addr) (c0 : Nat) (l0 : List Int) (A1 : Option Addr) (n1 c1 : Nat) (A2 : Option Addr) (n2 c2 : Nat) (hC : Kd.C (Kd.int .u8) w A0 l0.length l0) (hc : l0.length ≤ c0) (h : Rd w g A0 l0.length c0 A1 n1 c1 A2 n2 c2) (at_ size : Int) (hb : ∀ b ∈ l0, 0 ≤ b ∧ b ≤ 255) (hm : l0.length ≤ 1048576) (hn : numR l0 at_ size = none) :
  Calls Try.prog 50 #[.pointer (some ⟨g, 0, none⟩), .int .i64 at_, .int .i64 size] w fun e w' => e = .panicked gaveUp ∧ Drawn0 w w' := by
 have hg := Leb.get_f l0 at_ size false hb (by omega) 12 (by omega)
 unfold numR at hn
 rw [hg] at hn
 obtain ⟨⟨n, er⟩, hv⟩ : ∃ p, Leb.getV l0 at_ size false = p := ⟨_, rfl⟩
 rw [hv] at hg hn
 simp only at hn
 split at hn
 ·
  cases hn
 ·
  rename_i hc2
  refine number_bad w g A0 c0 l0 A1 n1 c1 A2 n2 c2 hC hc h at_ size 12 n er hg ?_
  by_cases c : er = 0
  ·
   exact .inr (by omega)
  ·
   exact .inl c
theorem numR_lt {l : List Int} {at_ n : Int} (s : Nat) (hs : s = 1 ∨ s = 2) (hb : ∀ b ∈ l, 0 ≤ b ∧ b ≤ 255) (hm : l.length ≤ 1048576) (h : numR l at_ s = some n) : n < 65536 := by
 obtain ⟨h1, h2⟩ := numR_eq h
 rw [Leb.get_f l at_ s false hb (by omega) 12 (by omega)] at h1
 have h3 := Option.some.inj h1
 unfold Leb.getV at h3
 rw [if_pos (show Leb.sizedB (s : Int) = true by rcases hs with rfl | rfl <;> decide)] at h3
 split at h3
 ·
  have := (Prod.mk.inj h3).2; omega
 ·
  have h4 := (Prod.mk.inj h3).1
  have hr := Leb.leN_range ((l.drop at_.toNat).take s) (fun b hb' => hb b (List.mem_of_mem_drop (List.mem_of_mem_take hb')))
  have hl : ((l.drop at_.toNat).take s).length ≤ s := by rw [List.length_take]; omega
  have hp : (256 : Int) ^ ((l.drop at_.toNat).take s).length ≤ 65536 := by
   generalize ((l.drop at_.toNat).take s).length = m at *
   have : m = 0 ∨ m = 1 ∨ m = 2 := by omega
   rcases this with rfl | rfl | rfl <;> decide
  unfold Leb.sgnV at h4
  rw [if_neg (by decide), Int.toNat_natCast, wrap64_id (by omega) (by omega)] at h4
  omega
set_option maxHeartbeats 2000000 in
set_option maxRecDepth 100000 in
theorem symbol_bad (w : World) (g : Nat) (A0 : Option Addr) (c0 : Nat) (l0 : List Int) (A1 : Option Addr) (c1 : Nat) (l1 : List Int) (A2 : Option Addr) (c2 : Nat) (l2 : List ByteArray) (hC : Kd.C (Kd.int .u8) w A0 l0.length l0) (hc : l0.length ≤ c0) (hC1 : Kd.C (Kd.int .u8) w A1 l1.length l1) (hc1 : l1.length ≤ c1) (hC2 : Kd.C Kd.string w A2 l2.length l2) (h : Rd w g A0 l0.length c0 A1 l1.length c1 A2 l2.length c2) (at_ : Int) (ha0 : 0 ≤ at_) (ha1 : at_ ≤ 2097152) (hb : ∀ b ∈ l0, 0 ≤ b ∧ b ≤ 255) (hm : l0.length ≤ 1048576) (hm1 : l1.length ≤ 1048576) (hs : symR l0 l1 l2 at_ = none) :
  Calls Try.prog 44 #[.pointer (some ⟨g, 0, none⟩), .int .i64 at_] w fun e w' => e = .panicked gaveUp ∧ Below w.heap.size w w' := by
 have HC := Aside0.mk hC
 have HCC := Aside0.mk hc
 have HC1 := Aside0.mk hC1
 have HCC1 := Aside0.mk hc1
 have HC2 := Aside0.mk hC2
 have H := Aside0.mk h
 have HBR := Aside0.mk hb
 have HM := Aside0.mk hm
 have HM1 := Aside0.mk hm1
 have w4 : wrap64 (at_ + 4) = at_ + 4 := by unfold wrap64; omega
 have w6 : wrap64 (at_ + 6) = at_ + 6 := by unfold wrap64; omega
 have w8 : wrap64 (at_ + 8) = at_ + 8 := by unfold wrap64; omega
 have w16 : wrap64 (at_ + 16) = at_ + 16 := by unfold wrap64; omega
 have f1 : w.cell? ⟨g, 1, none⟩ = some (.slice A1 l1.length c1) := (blk_cell h 1).trans rfl
 have hgl := blk_lt h
 have hne : w.heap.size ≠ g := Nat.ne_of_gt hgl
 have hb0 := below_alloc (Below.refl w.heap.size w) (.cells #[.string ⟨#[]⟩, .string ⟨#[]⟩, .int .i64 0, .int .i64 0, .int .i64 0, .int .i64 0] 58)
 have HB0 := Aside0.mk hb0
 have f2 : (w.alloc (.cells #[.string ⟨#[]⟩, .string ⟨#[]⟩, .int .i64 0, .int .i64 0, .int .i64 0, .int .i64 0] 58)).cell? ⟨g, 1, none⟩ = some (.slice A1 l1.length c1) := (blk_cell (blk_below h hb0) 1).trans rfl
 have HAT := Aside0.mk (at_f l1)
 unfold symR at hs
 have HS := Aside0.mk hs
 clear hC hc hC1 hc1 hC2 h ha0 ha1 hb0 hb hm hm1 hs
 go_enter Try.func44, Try.ntmps44
 go_wp2
 refine start_ (n := 13) (S := fun u => u.cell? ⟨g, 1, none⟩ = some (.slice A1 l1.length c1)) (ds := [7]) #[false, false, false, false, false, false, false, false, false, false, false, false, false] (by kernel_rfl) rfl rfl ?_ (fun hHeld => ?_)
 case refine_1 => exact (by go_simp)
 refine pure_ (i := 0) (N := some 11) (v := ?_) (a' := ?_) #[true, false, false, false, false, false, false, false, false, false, false, false, false] rfl rfl (by kernel_rfl) (fun _ _ _ h => h) (Or.inl ⟨by rfl, ?_⟩) ?_ ?_
 rotate_left
 ·
  intro u
  go_simp
  with_reducible rfl
 rotate_left
 ·
  simp only [Act.put, List.setIfInBounds_toArray, List.set_cons_zero, List.set_cons_succ, i64_w, i32_w]
  rfl
 refine pure_ (i := 1) (N := some 12) (v := ?_) (a' := ?_) #[true, true, false, false, false, false, false, false, false, false, false, false, false] rfl rfl (by kernel_rfl) (fun _ _ _ h => h) (Or.inl ⟨by rfl, ?_⟩) ?_ ?_
 rotate_left
 ·
  intro u
  go_simp
  with_reducible rfl
 rotate_left
 ·
  simp only [Act.put, List.setIfInBounds_toArray, List.set_cons_zero, List.set_cons_succ, i64_w, i32_w]
  rfl
 refine pure_ (i := 2) (N := some 13) (v := ?_) (a' := ?_) #[true, true, true, false, false, false, false, false, false, false, false, false, false] rfl rfl (by kernel_rfl) (fun _ _ _ h => h) (Or.inl ⟨by rfl, ?_⟩) ?_ ?_
 rotate_left
 ·
  intro u
  go_simp
  with_reducible rfl
 rotate_left
 ·
  simp only [Act.put, List.setIfInBounds_toArray, List.set_cons_zero, List.set_cons_succ, i64_w, i32_w]
  rfl
 refine take_ (i := 3) (N := some 14) (v := ?_) (a' := ?_) #[true, true, true, true, false, false, false, false, false, false, false, false, false] rfl rfl (by kernel_rfl) (fun _ _ _ h => h) (Or.inl ⟨by rfl, ?_⟩) hHeld ?_ ?_
 rotate_left
 ·
  rintro u s0
  go_simp
  with_reducible rfl
 rotate_left
 ·
  simp only [Act.put, List.setIfInBounds_toArray, List.set_cons_zero, List.set_cons_succ, i64_w, i32_w]
  rfl
 refine pure_ (i := 4) (N := some 15) (v := ?_) (a' := ?_) #[true, true, true, true, true, false, false, false, false, false, false, false, false] rfl rfl (by kernel_rfl) (fun _ _ _ h => h) (Or.inl ⟨by rfl, ?_⟩) ?_ ?_
 rotate_left
 ·
  intro u
  go_simp
  with_reducible rfl
 rotate_left
 ·
  simp only [Act.put, List.setIfInBounds_toArray, List.set_cons_zero, List.set_cons_succ, i64_w, i32_w]
  rfl
 refine pure_ (i := 5) (N := some 16) (v := ?_) (a' := ?_) #[true, true, true, true, true, true, false, false, false, false, false, false, false] rfl rfl (by kernel_rfl) (fun _ _ _ h => h) (Or.inl ⟨by rfl, ?_⟩) ?_ ?_
 rotate_left
 ·
  intro u
  go_simp
  with_reducible rfl
 rotate_left
 ·
  simp only [Act.put, List.setIfInBounds_toArray, List.set_cons_zero, List.set_cons_succ, i64_w, i32_w]
  rfl
 refine one_ (i := 6) (N := some 17) #[true, true, true, true, true, true, true, false, false, false, false, false, false] rfl rfl (by kernel_rfl) (by decide) (fun K hK => ?_)
 cases n1 : numR l0 at_ 4 with
 | none =>
  refine goesP_ Try.func50 (by kernel_rfl) rfl #[.pointer (some ⟨g, 0, none⟩), .int .i64 at_, .int .i64 4] (by rfl) rfl rfl (by (try simp only [List.map_toArray, List.map_cons, List.map_nil]); first | done | rfl) ?_
  refine (number_none _ g A0 c0 l0 A1 l1.length c1 A2 l2.length c2 (Kd.C_below HC.out (below_drew HB0.out)) HCC.out (blk_below H.out (below_drew HB0.out)) at_ 4 HBR.out HM.out n1).mono ?_
  rintro e w1 ⟨rfl, hd⟩
  exact ⟨_, rfl, rfl, rfl, below_step (below_drew HB0.out) hd.below⟩
 | some a =>
 have hs := HS.out
 rw [n1, Option.bind_some] at hs
 have HS := Aside0.mk hs
 have H1 := Aside0.mk (numR_eq n1)
 clear hs n1
 refine goes_ Try.func50 (by kernel_rfl) rfl #[.pointer (some ⟨g, 0, none⟩), .int .i64 at_, .int .i64 4] (by rfl) rfl rfl (by (try simp only [List.map_toArray, List.map_cons, List.map_nil]); first | done | rfl) ?_
 refine (number_ok _ g A0 c0 l0 A1 l1.length c1 A2 l2.length c2 (Kd.C_below HC.out (below_drew HB0.out)) HCC.out (blk_below H.out (below_drew HB0.out)) at_ 4 12 a H1.out.1 H1.out.2).mono ?_
 rintro e w1 ⟨rfl, hd⟩
 refine ⟨_, rfl, ?_⟩
 have hb1 := below_step (below_drew HB0.out) hd.below
 have HB1 := Aside0.mk hb1
 have g1 : w1.cell? ⟨g, 1, none⟩ = some (.slice A1 l1.length c1) := (blk_cell (blk_below H.out hb1) 1).trans rfl
 clear hd hb1 hHeld
 refine hK.out _ _ g1 (fun hHeld => ?_)
 clear hK K
 refine norm_ (a' := ?_) ?_ ?_
 rotate_left
 ·
  show Act.put _ (some 17) _ = _
  simp only [Act.put, List.setIfInBounds_toArray, List.set_cons_zero, List.set_cons_succ, i64_w, i32_w]
  rfl
 refine last_ (i := 7) (N := some 18) #[true, true, true, true, true, true, true, true, false, false, false, false, false] rfl rfl (by kernel_rfl) (by decide) (fun K hK => ?_)
 have hat := HAT.out a (by have := HM1.out; omega) (l1.length + 4) (by omega)
 obtain ⟨⟨name, er⟩, hv⟩ : ∃ p, atOf l1 a = p := ⟨_, rfl⟩
 rw [hv] at hat
 have H2 := Aside0.mk hat
 have hs := HS.out
 rw [hat] at hs
 have HS := Aside0.mk hs
 clear hat hv hs
 refine goes_ Try.func14 (by kernel_rfl) rfl #[.slice A1 l1.length c1, .int .i64 a] (by rfl) rfl rfl (by (try simp only [List.map_toArray, List.map_cons, List.map_nil]); first | done | rfl) ?_
 refine (symtab_At.calls (l1.length + 4) A1 c1 l1 a name er _ (Kd.C_below HC1.out HB1.out) HCC1.out H2.out).mono ?_
 rintro e w2 ⟨rfl, hd⟩
 refine ⟨_, rfl, ?_⟩
 have hb2 := below_step HB1.out hd.below
 have HB2 := Aside0.mk hb2
 clear hd hb2 hHeld
 refine hK.out _ _ ?_
 clear hK K
 refine norm_ (a' := ?_) ?_ ?_
 rotate_left
 ·
  show Act.put _ (some 18) _ = _
  simp only [Act.put, List.setIfInBounds_toArray, List.set_cons_zero, List.set_cons_succ, i64_w, i32_w]
  rfl
 refine pure_ (i := 8) (N := some 10) (v := ?_) (a' := ?_) #[true, true, true, true, true, true, true, true, true, false, false, false, false] rfl rfl (by kernel_rfl) (fun _ _ _ h => h) (Or.inl ⟨by rfl, ?_⟩) ?_ ?_
 rotate_left
 ·
  intro u
  go_simp
  with_reducible rfl
 rotate_left
 ·
  simp only [Act.put, List.setIfInBounds_toArray, List.set_cons_zero, List.set_cons_succ, i64_w, i32_w]
  rfl
 refine pure_ (i := 9) (N := some 19) (v := ?_) (a' := ?_) #[true, true, true, true, true, true, true, true, true, true, false, false, false] rfl rfl (by kernel_rfl) (fun _ _ _ h => h) (Or.inl ⟨by rfl, ?_⟩) ?_ ?_
 rotate_left
 ·
  intro u
  go_simp
  with_reducible rfl
 rotate_left
 ·
  simp only [Act.put, List.setIfInBounds_toArray, List.set_cons_zero, List.set_cons_succ, i64_w, i32_w]
  rfl
 refine pure_ (i := 10) (N := some 20) (v := ?_) (a' := ?_) #[true, true, true, true, true, true, true, true, true, true, true, false, false] rfl rfl (by kernel_rfl) (fun _ _ _ h => h) (Or.inl ⟨by rfl, ?_⟩) ?_ ?_
 rotate_left
 ·
  intro u
  go_simp
  with_reducible rfl
 rotate_left
 ·
  simp only [Act.put, List.setIfInBounds_toArray, List.set_cons_zero, List.set_cons_succ, i64_w, i32_w]
  rfl
 refine pure_ (i := 11) (N := some 5) (v := ?_) (a' := ?_) #[true, true, true, true, true, true, true, true, true, true, true, true, false] rfl rfl (by kernel_rfl) (fun _ _ _ h => h) (Or.inl ⟨by rfl, ?_⟩) ?_ ?_
 rotate_left
 ·
  intro u
  go_simp
  with_reducible rfl
 rotate_left
 ·
  simp only [Act.put, List.setIfInBounds_toArray, List.set_cons_zero, List.set_cons_succ, i64_w, i32_w]
  rfl
 refine pure_ (i := 12) (N := some 6) (v := ?_) (a' := ?_) #[true, true, true, true, true, true, true, true, true, true, true, true, true] rfl rfl (by kernel_rfl) (fun _ _ _ h => h) (Or.inl ⟨by rfl, ?_⟩) ?_ ?_
 rotate_left
 ·
  intro u
  go_simp
  with_reducible rfl
 rotate_left
 ·
  simp only [Act.put, List.setIfInBounds_toArray, List.set_cons_zero, List.set_cons_succ, i64_w, i32_w]
  rfl
 refine done_ (by kernel_rfl) ?_
 have hs : (if er ≠ 0 then none else (numR l0 (at_ + 4) 1).bind fun info => (numR l0 (at_ + 6) 2).bind fun place => (numR l0 (at_ + 8) 8).bind fun val => (numR l0 (at_ + 16) 8).bind fun siz => if (place = 0 ∨ place = 65521 ∨ place ≤ l2.length) ∧ info ≤ 65535 ∧ place ≤ 9223372036854775807 then some (⟨name, if place = 0 then ⟨#[]⟩ else if place = 65521 then ⟨#[42]⟩ else rdOf ByteArray.empty l2 (place - 1), val, siz, info / 16, info % 16⟩ : S58) else none) = none := HS.out
 have HS := Aside0.mk hs
 clear hs
 by_cases ce : er = 0
 case neg =>
  have d0 : (er == 0) = false := beq_eq_false_iff_ne.mpr ce
  have d1 : (er != 0) = true := bne_iff_ne.mpr ce
  go_wp2_with fail
  refine (fail_yes g _).mono ?_
  rintro e w3 ⟨rfl, rfl⟩
  exact ⟨rfl, rfl, HB2.out⟩
 subst ce
 have hs := (if_neg (fun h => h rfl)).symm.trans HS.out
 have HS := Aside0.mk hs
 clear hs
 go_wp2_with fail
 refine (fail_no g _).mono ?_
 rintro e w2' ⟨rfl, rfl⟩
 go_wp2_with fail
 cases n3 : numR l0 (at_ + 4) 1 with
 | none =>
  refine (number_none _ g A0 c0 l0 A1 l1.length c1 A2 l2.length c2 (Kd.C_below HC.out HB2.out) HCC.out (blk_below H.out HB2.out) (at_ + 4) 1 HBR.out HM.out n3).mono ?_
  rintro e w3_ ⟨rfl, hd⟩
  exact ⟨rfl, rfl, below_step HB2.out hd.below⟩
 | some info =>
 have hs := HS.out
 rw [n3, Option.bind_some] at hs
 have HS := Aside0.mk hs
 have H3 := Aside0.mk (numR_eq n3)
 have HL3 := Aside0.mk n3
 clear hs n3
 refine (number_ok _ g A0 c0 l0 A1 l1.length c1 A2 l2.length c2 (Kd.C_below HC.out HB2.out) HCC.out (blk_below H.out HB2.out) (at_ + 4) 1 12 info H3.out.1 H3.out.2).mono ?_
 rintro e w3_ ⟨rfl, hd⟩
 have HB3 := Aside0.mk (below_step HB2.out hd.below)
 clear hd
 go_wp2_with fail
 cases n4 : numR l0 (at_ + 6) 2 with
 | none =>
  refine (number_none _ g A0 c0 l0 A1 l1.length c1 A2 l2.length c2 (Kd.C_below HC.out HB3.out) HCC.out (blk_below H.out HB3.out) (at_ + 6) 2 HBR.out HM.out n4).mono ?_
  rintro e w4_ ⟨rfl, hd⟩
  exact ⟨rfl, rfl, below_step HB3.out hd.below⟩
 | some place =>
 have hs := HS.out
 rw [n4, Option.bind_some] at hs
 have HS := Aside0.mk hs
 have H4 := Aside0.mk (numR_eq n4)
 have HL4 := Aside0.mk n4
 clear hs n4
 refine (number_ok _ g A0 c0 l0 A1 l1.length c1 A2 l2.length c2 (Kd.C_below HC.out HB3.out) HCC.out (blk_below H.out HB3.out) (at_ + 6) 2 12 place H4.out.1 H4.out.2).mono ?_
 rintro e w4_ ⟨rfl, hd⟩
 have HB4 := Aside0.mk (below_step HB3.out hd.below)
 clear hd
 go_wp2_with fail
 cases n5 : numR l0 (at_ + 8) 8 with
 | none =>
  refine (number_none _ g A0 c0 l0 A1 l1.length c1 A2 l2.length c2 (Kd.C_below HC.out HB4.out) HCC.out (blk_below H.out HB4.out) (at_ + 8) 8 HBR.out HM.out n5).mono ?_
  rintro e w5_ ⟨rfl, hd⟩
  exact ⟨rfl, rfl, below_step HB4.out hd.below⟩
 | some val =>
 have hs := HS.out
 rw [n5, Option.bind_some] at hs
 have HS := Aside0.mk hs
 have H5 := Aside0.mk (numR_eq n5)
 have HL5 := Aside0.mk n5
 clear hs n5
 refine (number_ok _ g A0 c0 l0 A1 l1.length c1 A2 l2.length c2 (Kd.C_below HC.out HB4.out) HCC.out (blk_below H.out HB4.out) (at_ + 8) 8 12 val H5.out.1 H5.out.2).mono ?_
 rintro e w5_ ⟨rfl, hd⟩
 have HB5 := Aside0.mk (below_step HB4.out hd.below)
 clear hd
 go_wp2_with fail
 cases n6 : numR l0 (at_ + 16) 8 with
 | none =>
  refine (number_none _ g A0 c0 l0 A1 l1.length c1 A2 l2.length c2 (Kd.C_below HC.out HB5.out) HCC.out (blk_below H.out HB5.out) (at_ + 16) 8 HBR.out HM.out n6).mono ?_
  rintro e w6_ ⟨rfl, hd⟩
  exact ⟨rfl, rfl, below_step HB5.out hd.below⟩
 | some siz =>
 have hs := HS.out
 rw [n6, Option.bind_some] at hs
 have HS := Aside0.mk hs
 have H6 := Aside0.mk (numR_eq n6)
 have HL6 := Aside0.mk n6
 clear hs n6
 refine (number_ok _ g A0 c0 l0 A1 l1.length c1 A2 l2.length c2 (Kd.C_below HC.out HB5.out) HCC.out (blk_below H.out HB5.out) (at_ + 16) 8 12 siz H6.out.1 H6.out.2).mono ?_
 rintro e w6_ ⟨rfl, hd⟩
 have HB6 := Aside0.mk (below_step HB5.out hd.below)
 clear hd
 have hinf : info < 65536 := numR_lt 1 (.inl rfl) HBR.out HM.out HL3.out
 have hpla : place < 65536 := numR_lt 2 (.inr rfl) HBR.out HM.out HL4.out
 have hno : ¬ (place = 0 ∨ place = 65521 ∨ place ≤ l2.length) := by
  intro hc
  have hs := HS.out
  rw [if_pos ⟨hc, by omega, by omega⟩] at hs
  cases hs
 have dp : (place == 0) = false := beq_eq_false_iff_ne.mpr (fun e => hno (.inl e))
 have dq : (place == 65521) = false := beq_eq_false_iff_ne.mpr (fun e => hno (.inr (.inl e)))
 have dg : decide (place > (l2.length : Int)) = true := decide_eq_true (by omega)
 have dg2 : decide ((l2.length : Int) < place) = true := dg
 have hg6 : g < w6_.heap.size := Nat.lt_of_lt_of_le hgl HB6.out.size
 have hne7 : w6_.heap.size ≠ g := Nat.ne_of_gt hg6
 have e2 : w6_.cell? ⟨g, 2, none⟩ = some (.slice A2 l2.length c2) := (blk_cell (blk_below H.out HB6.out) 2).trans rfl
 clear hinf hpla hno HS
 go_wp2_with fail
 refine (fail_yes g _).mono ?_
 rintro e w7 ⟨rfl, rfl⟩
 exact ⟨rfl, rfl, below_alloc HB6.out _⟩
end Go.Proofs.Ytejdnanhnkjaoaa.SymR
end
section
namespace Go.Proofs.Ytejdnanhnkjaoaa.SymR
set_option linter.unusedVariables false
set_option linter.unusedSimpArgs false
open Go.RowKit Go.Proofs.Ytejdnanhnkjaoaa.G Go.Proofs.YtejdnanhnkjaoaaW.PrintWords Go.Proofs.YtejdnanhnkjaoaaW.PrintLast Go.Proofs.YtejdnanhnkjaoaaW.PrintMore
open Go.Proofs.Ytejdnanhnkjaoaa.Bit Go.Proofs.Ytejdnanhnkjaoaa.Sym
set_option maxRecDepth 100000 in
theorem read_catch (p q : Nat) (hpq : p ≠ q) (v x : Value) (w : World) (hp : w.heap[p]? = some (.cells #[v] 43 (0, 0))) (hq : w.heap[q]? = some (.cells #[x] 29 (0, 0))) :
    CallsD Try.prog 42 #[.pointer (some ⟨p, 0, none⟩), .pointer (some ⟨q, 0, none⟩)] (.panicking gaveUp) w fun e u' w' => e = .returned (.tuple #[]) ∧ u' = .panicking [{ v := .iface 29 (.int .i64 80), recovered := true }] ∧ Below (min p q) w w' ∧ w'.heap[p]? = some (.cells #[.slice none 0 0] 43 (0, 0)) ∧ w'.heap[q]? = some (.cells #[.int .i64 80] 29 (0, 0)) := by
  refine callsD_of_wpS Try.func42 rfl fun c₀ cs hu => ?_
  apply wpS_seq
  apply wpS_region
  simp [wpOpsS, go_sem, recoverD, hu, gaveUp, Try.ntmps42, Exit.thenS]
  apply wpS_seq
  apply wpS_region
  simp [wpOpsS, go_sem, recoverD, hu, Try.ntmps42, Exit.thenS]
  refine wpS_cond (t := true) (by simp [Act.eval, Array.replicate]) ?_
  simp only [if_true]
  refine wpS_of_wp ?_
  have g1 : w.cell? ⟨p, 0, none⟩ = some v := (blk_cell hp 0).trans rfl
  have g2 : w.cell? ⟨q, 0, none⟩ = some x := (blk_cell hq 0).trans rfl
  have g3 := blk_frozen hp 0
  have g4 := blk_frozen hq 0
  have hta : ∀ u : World, Sem.run Try.prog (Instr.typeAssert (.iface 29 (.int .i64 80)) 20 29 false) u = .ok (.int .i64 80) u := fun u => by kernel_rfl
  have htm : (#[Value.pointer (some ⟨p, 0, none⟩), .pointer (some ⟨q, 0, none⟩)] ++ ((((Array.replicate 6 undef).setIfInBounds 1 (.iface 29 (.int .i64 80))).setIfInBounds 0 (.iface 29 (.int .i64 80))).setIfInBounds 2 (.iface 29 (.int .i64 80))).setIfInBounds 3 (.bool true)) = #[.pointer (some ⟨p, 0, none⟩), .pointer (some ⟨q, 0, none⟩), .iface 29 (.int .i64 80), .iface 29 (.int .i64 80), .iface 29 (.int .i64 80), .bool true, undef, undef] := by rfl
  rw [htm]
  go_wp2
  have k1 : (w.setCell ⟨p, 0, none⟩ (.slice none 0 0)).heap[p]? = some (.cells #[.slice none 0 0] 43 (0, 0)) := blk_put hp 0 _ rfl
  have k2 : (w.setCell ⟨p, 0, none⟩ (.slice none 0 0)).heap[q]? = some (.cells #[x] 29 (0, 0)) := blk_far hq (Ne.symm hpq) _
  have k3 : (w.setCell ⟨p, 0, none⟩ (.slice none 0 0)).drew.cell? ⟨q, 0, none⟩ = some x := (blk_cell (blk_drew k2) 0).trans rfl
  have k4 : (w.setCell ⟨p, 0, none⟩ (.slice none 0 0)).drew.frozen? ⟨q, 0, none⟩ = false := blk_frozen (blk_drew k2) 0
  have k5 := blk_far k1 (show p ≠ (⟨q, 0, none⟩ : Addr).block from hpq) (.int .i64 80)
  have k6 := blk_put k2 0 (.int .i64 80) rfl
  have k7 : Below (min p q) w ((w.setCell ⟨p, 0, none⟩ (.slice none 0 0)).setCell ⟨q, 0, none⟩ (.int .i64 80)) := ((Below.refl _ w).setCell (Nat.min_le_left p q) _).setCell (Nat.min_le_right p q) _
  refine start_ (n := 4) (S := fun u => u.cell? ⟨q, 0, none⟩ = some x) (ds := [3]) #[false, false, false, false] (by kernel_rfl) rfl rfl ?_ (fun hHeld => ?_)
  case refine_1 => exact (by go_simp)
  refine pure_ (i := 0) (N := some 6) (v := ?_) (a' := ?_) #[true, false, false, false] rfl rfl (by kernel_rfl) (fun _ _ _ h => h) (Or.inl ⟨by rfl, ?_⟩) ?_ ?_
  rotate_left
  · intro u
    go_simp
    with_reducible rfl
  rotate_left
  · simp only [Act.put, List.setIfInBounds_toArray, List.set_cons_zero, List.set_cons_succ, i64_w, i32_w]
    rfl
  refine pure_ (i := 1) (N := some 7) (v := ?_) (a' := ?_) #[true, true, false, false] rfl rfl (by kernel_rfl) (fun _ _ _ h => h) (Or.inl ⟨by rfl, ?_⟩) ?_ ?_
  rotate_left
  · intro u
    go_simp
    with_reducible rfl
  rotate_left
  · simp only [Act.put, List.setIfInBounds_toArray, List.set_cons_zero, List.set_cons_succ, i64_w, i32_w]
    rfl
  refine one_ (i := 2) (N := none) #[true, true, true, false] rfl rfl (by kernel_rfl) (by decide) (fun K hK => ?_)
  rw [if_pos (by rfl)]
  go_simp
  refine hK.out _ _ k3 (fun hHeld => ?_)
  clear hK K
  refine last_ (i := 3) (N := none) #[true, true, true, true] rfl rfl (by kernel_rfl) (by decide) (fun K hK => ?_)
  rw [if_pos (by rfl)]
  go_simp
  refine hK.out _ _ ?_
  clear hK K
  refine done_ (by kernel_rfl) ?_
  have hres : ∀ W : World, (results Try.f42 #[.pointer (some ⟨p, 0, none⟩), .pointer (some ⟨q, 0, none⟩), .iface 29 (.int .i64 80), .iface 29 (.int .i64 80), .iface 29 (.int .i64 80), .bool true, .iface 29 (.int .i64 80), .int .i64 80]).run Try.prog W = .ok (.tuple #[]) W := fun W => by simp [results, Try.results42]
  exact ⟨rfl, .panicking [{ v := .iface 29 (.int .i64 80), recovered := true }], rfl, .tuple #[], hres _, rfl, rfl, below_drew k7, blk_drew k5, blk_drew k6⟩
end Go.Proofs.Ytejdnanhnkjaoaa.SymR
end
section
namespace Go.Proofs.Ytejdnanhnkjaoaa.SymR
set_option linter.unusedVariables false
set_option linter.unusedSimpArgs false
open Go.RowKit Go.Proofs.Ytejdnanhnkjaoaa.G Go.Proofs.YtejdnanhnkjaoaaW.PrintWords Go.Proofs.YtejdnanhnkjaoaaW.PrintLast Go.Proofs.YtejdnanhnkjaoaaW.PrintMore
open Go.Proofs.Ytejdnanhnkjaoaa.Bit
/-- all symbols, from an entry on -/
def symsR (l0 l1 : List Int) (l3 : List ByteArray) : Nat → Nat → Option (List S58)
  | 0, _ => some []
  | d + 1, i => (symR l0 l1 l3 (24 * ((i : Int) + 1))).bind fun x => (symsR l0 l1 l3 d (i + 1)).map (x :: ·)
theorem symsR_get (l0 l1 : List Int) (l3 : List ByteArray) : ∀ (d i : Nat) (xs : List S58), symsR l0 l1 l3 d i = some xs → xs.length = d ∧ ∀ j (h : j < xs.length), symR l0 l1 l3 (24 * (((i + j : Nat) : Int) + 1)) = some xs[j]
  | 0, i, xs, h => by
    obtain rfl := Option.some.inj h
    exact ⟨rfl, fun j h => by simp at h⟩
  | d + 1, i, xs, h => by
    obtain ⟨x, h1, h2⟩ := Option.bind_eq_some_iff.1 h
    obtain ⟨ys, h3, rfl⟩ := Option.map_eq_some_iff.1 h2
    obtain ⟨h4, h5⟩ := symsR_get l0 l1 l3 d (i + 1) ys h3
    refine ⟨by simp [h4], fun j hj => ?_⟩
    cases j with
    | zero => exact h1
    | succ j =>
      have := h5 j (by simpa using hj)
      rw [show i + 1 + j = i + (j + 1) from by omega] at this
      exact this
theorem equal_l0 (l : List Int) (hl : l.length ≤ 2000000) (d : Nat) : ∀ k i, i + d = l.length → d < k → slices_Equal_byte_byte.l0 k l l (l.length : Int) (i : Int) = some true := by
  induction d with
  | zero =>
    intro k i h hk
    obtain ⟨k, rfl⟩ : ∃ m, k = m + 1 := ⟨k - 1, by omega⟩
    rw [slices_Equal_byte_byte.l0, if_neg (by omega)]
  | succ d ih =>
    intro k i h hk
    obtain ⟨k, rfl⟩ : ∃ m, k = m + 1 := ⟨k - 1, by omega⟩
    rw [slices_Equal_byte_byte.l0, if_pos (by omega), if_pos (by omega), if_pos (by omega), if_pos (by omega), if_pos rfl, wrap64_id (by omega) (by omega), show (i : Int) + 1 = ((i + 1 : Nat) : Int) from by omega, ih k (i + 1) (by omega) (by omega)]
theorem equal_f (l : List Int) (hl : l.length ≤ 2000000) (k : Nat) (hk : l.length < k) : slices_Equal_byte_byte.f k l l = some true := by
  unfold slices_Equal_byte_byte.f
  rw [if_pos rfl]
  exact equal_l0 l hl l.length k 0 (by omega) hk
end Go.Proofs.Ytejdnanhnkjaoaa.SymR
end
