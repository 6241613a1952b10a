/- Lemmas and contracts, one text behind the other: what the row of this claim needs; no conditions beyond those that each theorem names. -/
import Derived.Laws.BitsLemmas
import Derived.Laws.Bits64b
import Derived.Test.YtfgfnflhdabmcaaRows
import Derived.ChangeArms
import Derived.DataReads
import Derived.SizedLaws
import Derived.Test.YtfgfnflhdabmcaaVM6
section
namespace Go.Proofs.Ytfgfnflhdabmcaa.G
open Go.RowKit Go.Proofs.YtfgfnflhdabmcaaW.PrintWords Go.Proofs.YtfgfnflhdabmcaaW.PrintLast Go.Proofs.YtfgfnflhdabmcaaW.PrintMore
attribute [local go_sem] max2_int min2_int max_two min_two max_three min_three max_four min_four   -- for this text's walks alone
set_option linter.unusedVariables false
set_option linter.unusedSimpArgs false
mutual
def gangwaylaw14_EhframeMoved.l0 : Nat → List (S43) → List (S61) → Int → Int → Int → Option (Bool)
 | 0, _, _, _, _, _ => none
 | k + 1, x0, x1, x2, x3, x9 => if x9 < (x0.length : Int) then (if 0 ≤ x9 then (if (wrap64 ((wrap64 (Int.tdiv ((rd_T43 x0 x9).f0) 16)) * 16)) = 16 then (gangwaylaw14_EhframeMoved.l0 k x0 x1 x2 x3 (wrap64 (x9 + 1))) else ((gangwaylaw14_live.f k).bind fun t102 => (some t102))) else (none)) else ((gangwaylaw14_tables.f k x0 x1).bind fun bt103 => ((ehframe_Write.f k bt103.1 bt103.2 x2 false).bind fun bt109 => (gangwaylaw14_EhframeMoved.l1 k x2 (Int.tmod x3 1125899906842624) bt103.1 bt103.2 bt109.1 bt109.2.2 0)))
def gangwaylaw14_EhframeMoved.l1 : Nat → Int → Int → List (S69) → List (S46) → List Int → Int → Int → Option (Bool)
 | 0, _, _, _, _, _, _, _ => none
 | k + 1, x2, x3, x10, x11, x12, x14, x15 => if x15 < (x11.length : Int) then (if 0 ≤ x15 then (gangwaylaw14_EhframeMoved.l1 k x2 x3 x10 (x11.set (x15 : Int).toNat (⟨(rd_T46 x11 x15).f0, wrap64 (((rd_T46 x11 x15).f1) + x3), (rd_T46 x11 x15).f2, (rd_T46 x11 x15).f3⟩ : S46)) x12 x14 (wrap64 (x15 + 1))) else (none)) else ((gangwaylaw14_num.f x14).bind fun t118 => (if t118 = 0 then ((ehframe_Write.f k x10 x11 (wrap64 (x2 + x3)) false).bind fun bt119 => ((gangwaylaw14_num.f bt119.2.2).bind fun t126 => (if t126 = 0 then (if (strOfNums x12).toList = (strOfNums bt119.1).toList then ((gangwaylaw14_live.f k).bind fun t127 => (some t127)) else (none)) else ((gangwaylaw14_live.f k).bind fun t128 => (some t128))))) else ((gangwaylaw14_live.f k).bind fun t129 => (some t129))))
end
def gangwaylaw14_EhframeMoved.f (k : Nat) (l0 : List (S43)) (l1 : List (S61)) (a2 : Int) (a3 : Int) : Option (Bool) := gangwaylaw14_EhframeMoved.l0 k l0 l1 a2 a3 0
set_option maxHeartbeats 8000000 in
set_option maxRecDepth 100000 in
theorem gangwaylaw14_EhframeMoved.calls (k : Nat) (A0 : Option Addr) (c0 : Nat) (l0 : List (S43)) (A1 : Option Addr) (c1 : Nat) (l1 : List (S61)) (a2 : Int) (a3 : Int) (r : Bool) (w : World) (hr0 : Kd.C k43 w A0 l0.length l0) (hc0 : l0.length ≤ c0) (hr1 : Kd.C k61 w A1 l1.length l1) (hc1 : l1.length ≤ c1) (h : gangwaylaw14_EhframeMoved.f k l0 l1 a2 a3 = some r) :
  Calls Try.prog 4 #[.slice A0 l0.length c0, .slice A1 l1.length c1, .int .i64 a2, .int .i64 a3] w fun e w' => e = .returned (.bool r) ∧ Below w.heap.size w w' := by
 have HR0 := Aside0.mk hr0
 have HC0 := Aside0.mk hc0
 clear hr0 hc0
 have HR1 := Aside0.mk hr1
 have HC1 := Aside0.mk hc1
 clear hr1 hc1
 have HB := Aside0.mk (Below.refl w.heap.size w)
 have H : (gangwaylaw14_EhframeMoved.l0 k l0 l1 a2 a3 0) = some r := h
 clear h
 have H' := Aside0.mk H
 clear H
 go_enter Try.func4, Try.ntmps4
 go_wp2
 go_loopg [9] k (fun kq v9 w' => ∃ (x9_1 : Int), v9 = .int .i64 x9_1 ∧ Aside0 (gangwaylaw14_EhframeMoved.l0 kq l0 l1 a2 a3 x9_1 = some r) ∧ Aside0 (kq ≤ k) ∧ Aside0 (Below w.heap.size w w'))
 case atStart => exact ⟨(0), (by first | rfl | (simp; done) | (simp [*]; done) | (simp [show ∀ l_ : List UInt8, (l_ != []) = !l_.isEmpty from fun l_ => by cases l_ <;> rfl]; done) | (congr 1; refine congr (congrArg (Go.bits _ _) ?_) ?_ <;> omega)), H', ⟨Nat.le_refl _⟩, ⟨by repeat (first | (with_reducible first | exact HB.out | apply below_alloc | apply pw_below_drewN | apply below_drew1) | exact HB.out)⟩⟩
 case round =>
  clear H'
  try clear c1
  try clear p2
  try clear c4
  obtain ⟨x9_1, rfl, HA, HK1, HB⟩ := hrel
  cases gk with
  | zero => exact absurd HA.out (by simp [gangwaylaw14_EhframeMoved.l0])
  | succ k1 =>
   have H := HA.out
   clear HA
   simp only [gangwaylaw14_EhframeMoved.l0] at H
   by_cases c5 : x9_1 < (l0.length : Int)
   ·
    rw [if_pos c5] at H
    have c5b0 : decide (x9_1 < (l0.length : Int)) = true := decide_eq_true c5
    clear c5
    by_cases c6 : 0 ≤ x9_1
    ·
     rw [if_pos c6] at H
     have c6b0 : decide (0 ≤ x9_1) = true := decide_eq_true c6
     clear c6
     by_cases c7 : (wrap64 ((wrap64 (Int.tdiv ((rd_T43 l0 x9_1).f0) 16)) * 16)) = 16
     ·
      rw [if_pos c7] at H
      have c7b0 : ((wrap64 ((wrap64 (Int.tdiv ((rd_T43 l0 x9_1).f0) 16)) * 16)) == 16) = true := beq_iff_eq.mpr c7
      have c7b1 : ((wrap64 ((wrap64 (Int.tdiv ((rd_T43 l0 x9_1).f0) 16)) * 16)) != 16) = false := bne_eq_false_iff_eq.mpr c7
      clear c7
      have H' := Aside0.mk H
      clear H
      have p101 : 0 ≤ (x9_1 : Int) := of_decide_eq_true (by first | (with_reducible assumption) | assumption)
      have q101 : x9_1 < (l0.length : Int) := of_decide_eq_true (by first | (with_reducible assumption) | assumption)
      obtain ⟨ad101, A101_1, c101_1, e101, hx101_0, hx101_1, hl101_1, hi101_1⟩ := at_T43 HR0.out x9_1 p101 q101
      cases e101
      replace hx101_0 := (HB.out.cell (World.block_lt_of_cell? w _ hx101_0)).trans hx101_0
      replace hx101_1 := (HB.out.cell (World.block_lt_of_cell? w _ hx101_1)).trans hx101_1
      have HR101_1 := Aside0.mk hi101_1
      have HC101_1 := Aside0.mk hl101_1
      clear hi101_1 hl101_1
      replace p101 := eq_true p101
      replace q101 := eq_true q101
      go_wp2
      go_roundg k1
      case measure => have := HK1.out; omega
      case rel => exact ⟨(wrap64 (x9_1 + 1)), (by first | rfl | (simp; done) | (simp [*]; done) | (simp [show ∀ l_ : List UInt8, (l_ != []) = !l_.isEmpty from fun l_ => by cases l_ <;> rfl]; done) | (congr 1; refine congr (congrArg (Go.bits _ _) ?_) ?_ <;> omega)), H', ⟨by have := HK1.out; omega⟩, ⟨by repeat (first | (with_reducible first | exact HB.out | apply below_alloc | apply pw_below_drewN | apply below_drew1) | exact HB.out)⟩⟩
     ·
      rw [if_neg c7] at H
      have c7b0 : ((wrap64 ((wrap64 (Int.tdiv ((rd_T43 l0 x9_1).f0) 16)) * 16)) == 16) = false := beq_eq_false_iff_ne.mpr c7
      have c7b1 : ((wrap64 ((wrap64 (Int.tdiv ((rd_T43 l0 x9_1).f0) 16)) * 16)) != 16) = true := bne_iff_ne.mpr c7
      replace H := Option.bind_eq_some_iff.mp H
      obtain ⟨t102, A80, H⟩ := H
      replace H : (some t102) = some r := H
      have A8 := Aside0.mk A80
      clear A80
      obtain rfl := Option.some.inj H
      have p101 : 0 ≤ (x9_1 : Int) := of_decide_eq_true (by first | (with_reducible assumption) | assumption)
      have q101 : x9_1 < (l0.length : Int) := of_decide_eq_true (by first | (with_reducible assumption) | assumption)
      obtain ⟨ad101, A101_1, c101_1, e101, hx101_0, hx101_1, hl101_1, hi101_1⟩ := at_T43 HR0.out x9_1 p101 q101
      cases e101
      replace hx101_0 := (HB.out.cell (World.block_lt_of_cell? w _ hx101_0)).trans hx101_0
      replace hx101_1 := (HB.out.cell (World.block_lt_of_cell? w _ hx101_1)).trans hx101_1
      have HR101_1 := Aside0.mk hi101_1
      have HC101_1 := Aside0.mk hl101_1
      clear hi101_1 hl101_1
      replace p101 := eq_true p101
      replace q101 := eq_true q101
      go_wp2_with (first | ((with_reducible refine gate_callee (f := 15) rfl ?_); refine goesL_ (some 33) rfl rfl Try.func15 (by kernel_rfl) rfl #[] rfl (by (try simp only [List.map_toArray, List.map_cons, List.map_nil]); first | done | rfl | (simp only [List.length_drop, List.length_take]; rfl)) ?_; (with_reducible refine (gangwaylaw14_live.calls k1  t102 _ A8.out).mono ?_); rintro e w9 ⟨rfl, hb⟩; refine ⟨_, rfl, ?_⟩; have n0_ := Aside0.mk (below_step (by repeat (first | (with_reducible first | exact HB.out | apply below_alloc | apply pw_below_drewN | apply below_drew1) | exact HB.out)) hb); clear HB; have HB := n0_; clear n0_; (try clear hb); (try clear hb2); (try clear hk); (try clear hi)))
      go_ret
      exact ⟨by first | rfl | (simp [errW_none, errW_some] <;> rfl) | (simp [*, errW_none, errW_some] <;> rfl), by repeat (first | (with_reducible first | exact HB.out | apply below_alloc | apply pw_below_drewN | apply below_drew1) | exact HB.out)⟩
    ·
     rw [if_neg c6] at H
     exact absurd H (by simp)
   ·
    rw [if_neg c5] at H
    have c5b0 : decide (x9_1 < (l0.length : Int)) = false := decide_eq_false c5
    clear c5
    replace H := Option.bind_eq_some_iff.mp H
    obtain ⟨⟨t103, t104⟩, A100, H⟩ := H
    replace H : ((ehframe_Write.f k1 t103 t104 a2 false).bind fun bt109 => (gangwaylaw14_EhframeMoved.l1 k1 a2 (Int.tmod a3 1125899906842624) t103 t104 bt109.1 bt109.2.2 0)) = some r := H
    have A10 := Aside0.mk A100
    clear A100
    replace H := Option.bind_eq_some_iff.mp H
    obtain ⟨⟨t109, t110, t111⟩, A110, H⟩ := H
    replace H : (gangwaylaw14_EhframeMoved.l1 k1 a2 (Int.tmod a3 1125899906842624) t103 t104 t109 t111 0) = some r := H
    have A11 := Aside0.mk A110
    clear A110
    have H' := Aside0.mk H
    clear H
    go_wp2_with (first | ((with_reducible refine gate_callee (f := 8) rfl ?_); refine goesL_ (some 39) rfl rfl Try.func8 (by kernel_rfl) rfl #[.slice A0 l0.length c0, .slice A1 l1.length c1] rfl (by (try simp only [List.map_toArray, List.map_cons, List.map_nil]); first | done | rfl | (simp only [List.length_drop, List.length_take]; rfl)) ?_; (with_reducible refine (gangwaylaw14_tables.calls k1 _ _ l0 _ _ l1 t103 t104 _ ?side1 ?side2 ?side3 ?side4 A10.out).mono ?_); (case side1 => repeat (first | exact (Kd.C_below HR0.out HB.out) | (with_reducible refine Kd.C_alloc ?_ _) | (with_reducible refine Kd.C_drewN ?_ _) | (with_reducible refine Kd.C_drew ?_))); (case side2 => exact HC0.out); (case side3 => repeat (first | exact (Kd.C_below HR1.out HB.out) | (with_reducible refine Kd.C_alloc ?_ _) | (with_reducible refine Kd.C_drewN ?_ _) | (with_reducible refine Kd.C_drew ?_))); (case side4 => exact HC1.out); rintro e w12 ⟨v105, v107, rfl, ho0, ho1, hb⟩; refine ⟨_, rfl, ?_⟩; have n0_ := Aside0.mk (Kd.S_lower ho0 (below_size (by repeat (first | (with_reducible first | exact HB.out | apply below_alloc | apply pw_below_drewN | apply below_drew1) | exact HB.out)))); have n1_ := Aside0.mk (Kd.S_lower ho1 (below_size (by repeat (first | (with_reducible first | exact HB.out | apply below_alloc | apply pw_below_drewN | apply below_drew1) | exact HB.out)))); have n2_ := Aside0.mk (below_step (by repeat (first | (with_reducible first | exact HB.out | apply below_alloc | apply pw_below_drewN | apply below_drew1) | exact HB.out)) hb); clear HB; have HO106 := n0_; have HO108 := n1_; have HB := n2_; clear n0_ n1_ n2_; (try clear hb); (try clear hb2); (try clear hk); (try clear hi); (try clear ho0); (try clear ho1); obtain ⟨Ao13, co13, eo13⟩ := Kd.S_slice HO106.out; subst eo13; obtain ⟨Ao14, co14, eo14⟩ := Kd.S_slice HO108.out; subst eo14) | ((with_reducible refine gate_callee (f := 9) rfl ?_); refine goesL_ (some 46) rfl rfl Try.func9 (by kernel_rfl) rfl #[.slice Ao13 t103.length co13, .slice Ao14 t104.length co14, .int .i64 a2, .bool false] rfl (by (try simp only [List.map_toArray, List.map_cons, List.map_nil]); first | done | rfl | (simp only [List.length_drop, List.length_take]; rfl)) ?_; (with_reducible refine (ehframe_Write.calls k1 _ _ t103 _ _ t104 a2 false t109 t110 t111 _ ?side1 ?side2 ?side3 ?side4 A11.out).mono ?_); (case side1 => repeat (first | exact (Kd.S_reads' HO106.out).2.2 | (with_reducible refine Kd.C_alloc ?_ _) | (with_reducible refine Kd.C_drewN ?_ _) | (with_reducible refine Kd.C_drew ?_))); (case side2 => exact (Kd.S_reads' HO106.out).2.1); (case side3 => repeat (first | exact (Kd.S_reads' HO108.out).2.2 | (with_reducible refine Kd.C_alloc ?_ _) | (with_reducible refine Kd.C_drewN ?_ _) | (with_reducible refine Kd.C_drew ?_))); (case side4 => exact (Kd.S_reads' HO108.out).2.1); rintro e w15 ⟨v112, v114, rfl, ho0, ho1, hb⟩; refine ⟨_, rfl, ?_⟩; have n0_ := Aside0.mk (Kd.S_below (by (with_reducible repeat (first | apply Kd.S_alloc | apply Kd.S_drewN | apply Kd.S_drew)); exact HO106.out) hb); have n1_ := Aside0.mk (Kd.S_below (by (with_reducible repeat (first | apply Kd.S_alloc | apply Kd.S_drewN | apply Kd.S_drew)); exact HO108.out) hb); have n2_ := Aside0.mk (Kd.R_lower ho0 (below_size (by repeat (first | (with_reducible first | exact HB.out | apply below_alloc | apply pw_below_drewN | apply below_drew1) | exact HB.out)))); have n3_ := Aside0.mk (Kd.R_lower ho1 (below_size (by repeat (first | (with_reducible first | exact HB.out | apply below_alloc | apply pw_below_drewN | apply below_drew1) | exact HB.out)))); have n4_ := Aside0.mk (below_step (by repeat (first | (with_reducible first | exact HB.out | apply below_alloc | apply pw_below_drewN | apply below_drew1) | exact HB.out)) hb); clear HO106; clear HO108; clear HB; have HO106 := n0_; have HO108 := n1_; have HO113 := n2_; have HO115 := n3_; have HB := n4_; clear n0_ n1_ n2_ n3_ n4_; (try clear hb); (try clear hb2); (try clear hk); (try clear hi); (try clear ho0); (try clear ho1)))
    go_loopg [15] k1 (fun kq v15 w' => ∃ (x11_2 : List (S46)) (x15_2 : Int), v15 = .int .i64 x15_2 ∧ Aside0 (gangwaylaw14_EhframeMoved.l1 kq a2 (Int.tmod a3 1125899906842624) t103 x11_2 t109 t111 x15_2 = some r) ∧ Aside0 (kq ≤ k1) ∧ Aside0 (Kd.S k69 69 w' w.heap.size (fun _ => True) (.slice Ao13 t103.length co13) t103) ∧ Aside0 (Kd.S k46 46 w' w.heap.size (fun _ => True) (.slice Ao14 t104.length co14) x11_2) ∧ Aside0 (Kd.R (Kd.int .u8) 5 w' w.heap.size (fun _ => True) v112 t109) ∧ Aside0 (Below w.heap.size w w'))
    case atStart => exact ⟨(t104), (0), (by first | rfl | (simp; done) | (simp [*]; done) | (simp [show ∀ l_ : List UInt8, (l_ != []) = !l_.isEmpty from fun l_ => by cases l_ <;> rfl]; done) | (congr 1; refine congr (congrArg (Go.bits _ _) ?_) ?_ <;> omega)), H', ⟨Nat.le_refl _⟩, ⟨by (with_reducible repeat (first | apply Kd.S_alloc | apply Kd.S_drewN | apply Kd.S_drew)); exact HO106.out⟩, ⟨by (with_reducible repeat (first | apply Kd.S_alloc | apply Kd.S_drewN | apply Kd.S_drew)); exact HO108.out⟩, ⟨by (with_reducible repeat (first | apply Kd.R_alloc | apply Kd.R_drewN | apply Kd.R_drew)); exact HO113.out⟩, ⟨by repeat (first | (with_reducible first | exact HB.out | apply below_alloc | apply pw_below_drewN | apply below_drew1) | exact HB.out)⟩⟩
    case round =>
     clear H'
     try clear c1
     try clear p1
     try clear q1
     try clear hx1
     try clear p2
     try clear c4
     try clear c5
     try clear c5b0
     try clear c6
     try clear c6b0
     try clear p6
     try clear c7
     try clear c7b0
     try clear c7b1
     try clear c8
     try clear c9
     try clear c10
     try clear p10
     try clear q10
     try clear hx10
     try clear c15
     try clear hx101_0
     try clear hx101_1
     try clear p101
     try clear p2
     try clear q101
     obtain ⟨x11_2, x15_2, rfl, HA, HK2, HO_10, HO_11, HO_12, HB⟩ := hrel
     have hl11_2 := (Kd.S_reads' HO_11.out).1
     rw [hl11_2] at HO_11
     (try simp only [hl11_2])
     (try simp only [hl11_2] at HO_10)
     (try simp only [hl11_2] at HO_12)
     cases gk with
     | zero => exact absurd HA.out (by simp [gangwaylaw14_EhframeMoved.l1])
     | succ k2 =>
      have H := HA.out
      clear HA
      simp only [gangwaylaw14_EhframeMoved.l1] at H
      by_cases c16 : x15_2 < (x11_2.length : Int)
      ·
       rw [if_pos c16] at H
       have c16b0 : decide (x15_2 < (x11_2.length : Int)) = true := decide_eq_true c16
       clear c16
       by_cases c17 : 0 ≤ x15_2
       ·
        rw [if_pos c17] at H
        have c17b0 : decide (0 ≤ x15_2) = true := decide_eq_true c17
        clear c17
        obtain ⟨y117, hy117⟩ : ∃ y_ : List (S46), y_ = (x11_2.set (x15_2 : Int).toNat (⟨(rd_T46 x11_2 x15_2).f0, wrap64 (((rd_T46 x11_2 x15_2).f1) + (Int.tmod a3 1125899906842624)), (rd_T46 x11_2 x15_2).f2, (rd_T46 x11_2 x15_2).f3⟩ : S46)) := ⟨_, rfl⟩
        replace H : (gangwaylaw14_EhframeMoved.l1 k2 a2 (Int.tmod a3 1125899906842624) t103 y117 t109 t111 (wrap64 (x15_2 + 1))) = some r := by first | (rw [hy117]; with_reducible exact H) | (have H2_ := (Option.bind_some _ _).symm.trans H; rw [hy117]; with_reducible exact H2_) | (have H2_ := (Option.bind_some _ _).symm.trans H; with_reducible exact H2_) | with_reducible exact H | (rw [hy117]; exact H) | exact H
        have Ny117 := Aside0.mk hy117
        clear hy117
        have H' := Aside0.mk H
        clear H
        have p116 : 0 ≤ (x15_2 : Int) := of_decide_eq_true (by first | (with_reducible assumption) | assumption)
        have q116 : x15_2 < (x11_2.length : Int) := of_decide_eq_true (by first | (with_reducible assumption) | assumption)
        obtain ⟨ad116, A116_3, c116_3, e116, hx116_0, hx116_1, hx116_2, hx116_3, hl116_3, hi116_3⟩ := at_T46 (Kd.S_reads' HO_11.out).2.2 x15_2 p116 q116
        cases e116
        obtain ⟨ce116, hce116, hMe116, hcc116⟩ := Kd.S_get HO_11.out z46 x15_2 p116 (by first | exact q116 | exact of_decide_eq_true (by first | (with_reducible assumption) | assumption) | (have e_ := (Kd.S_reads' HO_11.out).1; omega))
        obtain ⟨ve116_3, rfl, ge116_3⟩ := k46_openM hMe116
        have hv116_3 := hcc116 3 _ rfl
        rw [add_field _ _ 3 (by omega)] at hv116_3
        replace hv116_3 := Option.some.inj (hv116_3.symm.trans hx116_3)
        rw [hv116_3] at ge116_3
        have HL116_3 := Aside0.mk (show Kd.R k105 105 _ _ _ _ ((rd_T46 x11_2 x15_2).f3) from ge116_3)
        clear hv116_3 ge116_3
        clear hcc116 hce116
        have HR116_3 := Aside0.mk hi116_3
        have HC116_3 := Aside0.mk hl116_3
        clear hi116_3 hl116_3
        replace p116 := eq_true p116
        replace q116 := eq_true q116
        have p18 : 0 ≤ (x15_2 : Int) := of_decide_eq_true (by first | (with_reducible assumption) | assumption)
        have q18 : (x15_2 : Int) < ((x11_2.length : Int) : Int) := of_decide_eq_true (by first | (with_reducible assumption) | assumption)
        obtain ⟨go18, co18, eo18, gb18, gl18, cl18, HG18⟩ := Kd.S_form HO_11.out (by omega)
        (first | cases eo18 | (injection eo18 with ea_ en_ ec_; (first | subst ea_ | (injection ea_ with ea_; subst ea_)); subst ec_; clear en_))
        have GB18 := Aside0.mk gb18
        have GG18 := Aside0.mk HG18
        clear gb18 gl18 HG18
        (first | simp only [add_plain] at hx116_0 | skip)
        (first | simp only [add_plain] at hx116_1 | skip)
        (first | simp only [add_plain] at hx116_2 | skip)
        (first | simp only [add_plain] at hx116_3 | skip)
        obtain ⟨_, ce18, hcl18, hM18, hcc18, hfr18, _, _⟩ := Kd.S_elem HO_11.out z46 (x15_2 : Int) p18 q18
        obtain ⟨ve18_3, rfl, ge18_3⟩ := k46_openM hM18
        have hx18_0 : wr.cell? ⟨go18, (x15_2 : Int).toNat * 4, none⟩ = some (.int .i64 ((rd_T46 x11_2 x15_2).f0)) := hcc18 0 _ rfl
        have hx18_1 : wr.cell? ⟨go18, (x15_2 : Int).toNat * 4 + 1, none⟩ = some (.int .i64 ((rd_T46 x11_2 x15_2).f1)) := hcc18 1 _ rfl
        have hx18_2 : wr.cell? ⟨go18, (x15_2 : Int).toNat * 4 + 2, none⟩ = some (.int .i64 ((rd_T46 x11_2 x15_2).f2)) := hcc18 2 _ rfl
        have hx18_3 : wr.cell? ⟨go18, (x15_2 : Int).toNat * 4 + 3, none⟩ = some (ve18_3) := hcc18 3 _ rfl
        have hf18_0 : wr.frozen? ⟨go18, (x15_2 : Int).toNat * 4, none⟩ = false := hfr18 0
        have hf18_1 : wr.frozen? ⟨go18, (x15_2 : Int).toNat * 4 + 1, none⟩ = false := hfr18 1
        have hf18_2 : wr.frozen? ⟨go18, (x15_2 : Int).toNat * 4 + 2, none⟩ = false := hfr18 2
        have hf18_3 : wr.frozen? ⟨go18, (x15_2 : Int).toNat * 4 + 3, none⟩ = false := hfr18 3
        clear hcl18 hcc18 hfr18 hM18
        replace p18 := eq_true p18
        replace q18 := eq_true q18
        have HX19 := Aside0.mk (show Kd.S k46 46 wr w.heap.size (fun k_ => ((fun _ => True)) k_ ∧ ¬ ((fun _ => False)) k_) (.slice (some ⟨go18, 0, none⟩) x11_2.length co14) x11_2 from (by (with_reducible repeat (first | apply Kd.S_alloc | apply Kd.S_drewN | apply Kd.S_drew)); exact Kd.S_mono HO_11.out (fun k_ hk => ⟨trivial, fun e_ => e_⟩)))
        obtain ⟨oki19, ce19, hcl19, hM19, hcc19, hfr19, hoki19, hH19⟩ := Kd.S_elem HX19.out z46 (x15_2 : Int) (of_decide_eq_true (by first | (with_reducible assumption) | assumption)) (by have h_ : (x15_2 : Int) < ((x11_2.length : Int) : Int) := of_decide_eq_true (by first | (with_reducible assumption) | assumption); first | exact h_ | (have e_ := (Kd.S_reads' HO_11.out).1; omega) | simpa using h_)
        obtain ⟨ve19_3, rfl, ge19_3⟩ := k46_openM hM19
        have HP19 := Kd.S_seg hH19 (of_decide_eq_true (by first | (with_reducible assumption) | assumption)) (by have h_ : (x15_2 : Int) < ((x11_2.length : Int) : Int) := of_decide_eq_true (by first | (with_reducible assumption) | assumption); first | exact h_ | (have e_ := (Kd.S_reads' HO_11.out).1; omega) | simpa using h_) (seg := [.int .i64 (wrap64 (((rd_T46 x11_2 x15_2).f1) + (Int.tmod a3 1125899906842624)))]) (j := 1) (show 2 ≤ 4 from by decide) (x' := (⟨(rd_T46 x11_2 x15_2).f0, wrap64 (((rd_T46 x11_2 x15_2).f1) + (Int.tmod a3 1125899906842624)), (rd_T46 x11_2 x15_2).f2, (rd_T46 x11_2 x15_2).f3⟩ : S46)) (k46_mkM _ _ _ (⟨(rd_T46 x11_2 x15_2).f0, wrap64 (((rd_T46 x11_2 x15_2).f1) + (Int.tmod a3 1125899906842624)), (rd_T46 x11_2 x15_2).f2, (rd_T46 x11_2 x15_2).f3⟩ : S46) (Kd.R_mono ge19_3 (fun _ h_ => Or.inl h_))) (fun _ hk => hk) (fun k_ hk_ => hk_.elim)
        have hx19_1 := hcc19 1 _ rfl
        (try simp only [show (k46).sz = 4 from rfl, Nat.mul_one, Nat.add_zero] at hx19_1)
        have hf19_1 := hfr19 1
        (try simp only [show (k46).sz = 4 from rfl, Nat.mul_one, Nat.add_zero] at hf19_1)
        clear hcl19 hcc19 hfr19 hM19 hoki19 hH19
        go_wp2_with (first | ((with_reducible refine gate_store (t := 3) (p := 66) rfl ?_); refine store_event (t := 3) (p := 66) (v := ?vo_w20) (w1 := (wr.setCell ⟨go18, (x15_2 : Int).toNat * 4 + 1, none⟩ (.int .i64 (wrap64 (((rd_T46 x11_2 x15_2).f1) + (Int.tmod a3 1125899906842624)))))) ?hg ?ho ?hn ?hr ?_; (case ho => rfl); (case hg => rfl); (case hn => rfl); (case hr => first | (go_simp; done) | (go_simp; rfl)); intro w20 hw; have hg : wr.grownBy w20 (some go18) := (by rw [hw]; exact HP19.2); have hp_ : Kd.S k46 46 w20 w.heap.size (fun _ => True) (.slice (some ⟨go18, 0, none⟩) x11_2.length co14) y117 := (by rw [hw, Ny117.out]; exact HP19.1); clear HP19; have n0_ := Aside0.mk (Kd.S_over' (v := (.slice (some ⟨go18, 0, none⟩) x11_2.length co14)) (by (with_reducible repeat (first | apply Kd.S_alloc | apply Kd.S_drewN | apply Kd.S_drew)); exact HO_10.out) (Kd.S_typed HO_11.out) (by decide) hg); have n1_ := Aside0.mk (hp_); have n2_ := Aside0.mk (Kd.R_over' (v := (.slice (some ⟨go18, 0, none⟩) x11_2.length co14)) (by (with_reducible repeat (first | apply Kd.R_alloc | apply Kd.R_drewN | apply Kd.R_drew)); exact HO_12.out) (Kd.S_typed HO_11.out) (by decide) hg); have n3_ := Aside0.mk (Kd.R_after (v := (.slice (some ⟨go18, 0, none⟩) x11_2.length co14)) (v1 := (.slice (some ⟨go18, 0, none⟩) x11_2.length co14)) (ok := (fun _ => True)) (by (with_reducible repeat (first | apply Kd.R_alloc | apply Kd.R_drewN | apply Kd.R_drew)); exact HL116_3.out) hg (.inl rfl)); have n4_ := Aside0.mk ((by rw [hw]; exact below_set (HB.out) GB18.out : Below w.heap.size w w20)); clear HO_10; clear HO_11; clear HO_12; clear HL116_3; clear HB; have HO_10 := n0_; have HO_11 := n1_; have HO_12 := n2_; have HL116_3 := n3_; have HB := n4_; clear n0_ n1_ n2_ n3_ n4_; clear hg hw hp_))
        (try simp only [← hl11_2])
        go_roundg k2
        case measure => have := HK1.out; have := HK2.out; omega
        case rel => exact ⟨(y117), (wrap64 (x15_2 + 1)), (by first | rfl | (simp; done) | (simp [*]; done) | (simp [show ∀ l_ : List UInt8, (l_ != []) = !l_.isEmpty from fun l_ => by cases l_ <;> rfl]; done) | (congr 1; refine congr (congrArg (Go.bits _ _) ?_) ?_ <;> omega)), H', ⟨by have := HK1.out; have := HK2.out; omega⟩, ⟨by (try simp only [hl11_2]); (with_reducible repeat (first | apply Kd.S_alloc | apply Kd.S_drewN | apply Kd.S_drew)); exact HO_10.out⟩, ⟨by (try simp only [hl11_2]); (with_reducible repeat (first | apply Kd.S_alloc | apply Kd.S_drewN | apply Kd.S_drew)); exact HO_11.out⟩, ⟨by (try simp only [hl11_2]); (with_reducible repeat (first | apply Kd.R_alloc | apply Kd.R_drewN | apply Kd.R_drew)); exact HO_12.out⟩, ⟨by repeat (first | (with_reducible first | exact HB.out | apply below_alloc | apply pw_below_drewN | apply below_drew1) | exact HB.out)⟩⟩
       ·
        rw [if_neg c17] at H
        exact absurd H (by simp)
      ·
       rw [if_neg c16] at H
       have c16b0 : decide (x15_2 < (x11_2.length : Int)) = false := decide_eq_false c16
       clear c16
       replace H := Option.bind_eq_some_iff.mp H
       obtain ⟨t118, A210, H⟩ := H
       replace H : (if t118 = 0 then ((ehframe_Write.f k2 t103 x11_2 (wrap64 (a2 + (Int.tmod a3 1125899906842624))) false).bind fun bt119 => ((gangwaylaw14_num.f bt119.2.2).bind fun t126 => (if t126 = 0 then (if (strOfNums t109).toList = (strOfNums bt119.1).toList then ((gangwaylaw14_live.f k2).bind fun t127 => (some t127)) else (none)) else ((gangwaylaw14_live.f k2).bind fun t128 => (some t128))))) else ((gangwaylaw14_live.f k2).bind fun t129 => (some t129))) = some r := H
       have A21 := Aside0.mk A210
       clear A210
       by_cases c22 : t118 = 0
       ·
        rw [if_pos c22] at H
        have c22b0 : (t118 == 0) = true := beq_iff_eq.mpr c22
        have c22b1 : (t118 != 0) = false := bne_eq_false_iff_eq.mpr c22
        clear c22
        replace H := Option.bind_eq_some_iff.mp H
        obtain ⟨⟨t119, t120, t121⟩, A230, H⟩ := H
        replace H : ((gangwaylaw14_num.f t121).bind fun t126 => (if t126 = 0 then (if (strOfNums t109).toList = (strOfNums t119).toList then ((gangwaylaw14_live.f k2).bind fun t127 => (some t127)) else (none)) else ((gangwaylaw14_live.f k2).bind fun t128 => (some t128)))) = some r := H
        have A23 := Aside0.mk A230
        clear A230
        replace H := Option.bind_eq_some_iff.mp H
        obtain ⟨t126, A240, H⟩ := H
        replace H : (if t126 = 0 then (if (strOfNums t109).toList = (strOfNums t119).toList then ((gangwaylaw14_live.f k2).bind fun t127 => (some t127)) else (none)) else ((gangwaylaw14_live.f k2).bind fun t128 => (some t128))) = some r := H
        have A24 := Aside0.mk A240
        clear A240
        by_cases c25 : t126 = 0
        ·
         rw [if_pos c25] at H
         have c25b0 : (t126 == 0) = true := beq_iff_eq.mpr c25
         have c25b1 : (t126 != 0) = false := bne_eq_false_iff_eq.mpr c25
         clear c25
         by_cases c26 : (strOfNums t109).toList = (strOfNums t119).toList
         ·
          rw [if_pos c26] at H
          have c26b0 : ((strOfNums t109).toList == (strOfNums t119).toList) = true := beq_iff_eq.mpr c26
          have c26b1 : ((strOfNums t109).toList != (strOfNums t119).toList) = false := bne_eq_false_iff_eq.mpr c26
          clear c26
          replace H := Option.bind_eq_some_iff.mp H
          obtain ⟨t127, A270, H⟩ := H
          replace H : (some t127) = some r := H
          have A27 := Aside0.mk A270
          clear A270
          obtain rfl := Option.some.inj H
          go_wp2_with (first | ((with_reducible refine gate_callee (f := 11) rfl ?_); refine goesL_ (some 68) rfl rfl Try.func11 (by kernel_rfl) rfl #[.int .i64 t111] rfl (by (try simp only [List.map_toArray, List.map_cons, List.map_nil]); first | done | rfl | (simp only [List.length_drop, List.length_take]; rfl)) ?_; (with_reducible refine (gangwaylaw14_num.calls t111 t118 _ A21.out).mono ?_); rintro e w' ⟨rfl, ⟨nd, rfl⟩⟩; refine ⟨_, rfl, ?_⟩) | ((with_reducible refine gate_callee (f := 9) rfl ?_); refine goesL_ (some 77) rfl rfl Try.func9 (by kernel_rfl) rfl #[.slice Ao13 t103.length co13, .slice Ao14 x11_2.length co14, .int .i64 (wrap64 (a2 + (Int.tmod a3 1125899906842624))), .bool false] rfl (by (try simp only [List.map_toArray, List.map_cons, List.map_nil]); first | done | rfl | (simp only [List.length_drop, List.length_take]; rfl)) ?_; (with_reducible refine (ehframe_Write.calls k2 _ _ t103 _ _ x11_2 (wrap64 (a2 + (Int.tmod a3 1125899906842624))) false t119 t120 t121 _ ?side1 ?side2 ?side3 ?side4 A23.out).mono ?_); (case side1 => repeat (first | exact (Kd.S_reads' HO_10.out).2.2 | (with_reducible refine Kd.C_alloc ?_ _) | (with_reducible refine Kd.C_drewN ?_ _) | (with_reducible refine Kd.C_drew ?_))); (case side2 => exact (Kd.S_reads' HO_10.out).2.1); (case side3 => repeat (first | exact (Kd.S_reads' HO_11.out).2.2 | (with_reducible refine Kd.C_alloc ?_ _) | (with_reducible refine Kd.C_drewN ?_ _) | (with_reducible refine Kd.C_drew ?_))); (case side4 => exact (Kd.S_reads' HO_11.out).2.1); rintro e w28 ⟨v122, v124, rfl, ho0, ho1, hb⟩; refine ⟨_, rfl, ?_⟩; have n0_ := Aside0.mk (Kd.S_below (by (with_reducible repeat (first | apply Kd.S_alloc | apply Kd.S_drewN | apply Kd.S_drew)); exact HO_10.out) hb); have n1_ := Aside0.mk (Kd.S_below (by (with_reducible repeat (first | apply Kd.S_alloc | apply Kd.S_drewN | apply Kd.S_drew)); exact HO_11.out) hb); have n2_ := Aside0.mk (Kd.R_elder' (by (with_reducible repeat (first | apply Kd.R_alloc | apply Kd.R_drewN | apply Kd.R_drew)); exact HO_12.out) (Kd.R_base ho0) hb); have n3_ := Aside0.mk (Kd.R_lower (Kd.R_new' ho0 (Kd.R_lt (by (with_reducible repeat (first | apply Kd.R_alloc | apply Kd.R_drewN | apply Kd.R_drew)); exact HO_12.out))) (below_size (by repeat (first | (with_reducible first | exact HB.out | apply below_alloc | apply pw_below_drewN | apply below_drew1) | exact HB.out)))); have n4_ := Aside0.mk (Kd.R_lower ho1 (below_size (by repeat (first | (with_reducible first | exact HB.out | apply below_alloc | apply pw_below_drewN | apply below_drew1) | exact HB.out)))); have n5_ := Aside0.mk (below_step (by repeat (first | (with_reducible first | exact HB.out | apply below_alloc | apply pw_below_drewN | apply below_drew1) | exact HB.out)) hb); clear HO_10; clear HO_11; clear HO_12; clear HB; have HO_10 := n0_; have HO_11 := n1_; have HO_12 := n2_; have HO123 := n3_; have HO125 := n4_; have HB := n5_; clear n0_ n1_ n2_ n3_ n4_ n5_; (try clear hb); (try clear hb2); (try clear hk); (try clear hi); (try clear ho0); (try clear ho1)) | ((with_reducible refine gate_callee (f := 11) rfl ?_); refine goesL_ (some 82) rfl rfl Try.func11 (by kernel_rfl) rfl #[.int .i64 t121] rfl (by (try simp only [List.map_toArray, List.map_cons, List.map_nil]); first | done | rfl | (simp only [List.length_drop, List.length_take]; rfl)) ?_; (with_reducible refine (gangwaylaw14_num.calls t121 t126 _ A24.out).mono ?_); rintro e w' ⟨rfl, ⟨nd, rfl⟩⟩; refine ⟨_, rfl, ?_⟩; have hcv29 := own_string (P := Try.prog) Try.underlying28 Try.underlying5 Try.underlying9 (Kd.own_of_R HO_12.out); have hcv30 := fun (m_ : Nat) => own_string (P := Try.prog) Try.underlying28 Try.underlying5 Try.underlying9 (Kd.own_of_R (Kd.R_drewN HO_12.out m_)); have hcv31 := own_string (P := Try.prog) Try.underlying28 Try.underlying5 Try.underlying9 (Kd.own_of_R HO123.out); have hcv32 := fun (m_ : Nat) => own_string (P := Try.prog) Try.underlying28 Try.underlying5 Try.underlying9 (Kd.own_of_R (Kd.R_drewN HO123.out m_))) | (go_at_call 15; (with_reducible refine (gangwaylaw14_live.calls k2  t127 _ A27.out).mono ?_); rintro e w33 ⟨rfl, hb⟩; have n0_ := Aside0.mk (Kd.S_below (by (with_reducible repeat (first | apply Kd.S_alloc | apply Kd.S_drewN | apply Kd.S_drew)); exact HO_10.out) hb); have n1_ := Aside0.mk (Kd.S_below (by (with_reducible repeat (first | apply Kd.S_alloc | apply Kd.S_drewN | apply Kd.S_drew)); exact HO_11.out) hb); have n2_ := Aside0.mk (Kd.R_below (by (with_reducible repeat (first | apply Kd.R_alloc | apply Kd.R_drewN | apply Kd.R_drew)); exact HO_12.out) hb); have n3_ := Aside0.mk (Kd.R_below (by (with_reducible repeat (first | apply Kd.R_alloc | apply Kd.R_drewN | apply Kd.R_drew)); exact HO123.out) hb); have n4_ := Aside0.mk (Kd.R_below (by (with_reducible repeat (first | apply Kd.R_alloc | apply Kd.R_drewN | apply Kd.R_drew)); exact HO125.out) hb); have n5_ := Aside0.mk (below_step (by repeat (first | (with_reducible first | exact HB.out | apply below_alloc | apply pw_below_drewN | apply below_drew1) | exact HB.out)) hb); clear HO_10; clear HO_11; clear HO_12; clear HO123; clear HO125; clear HB; have HO_10 := n0_; have HO_11 := n1_; have HO_12 := n2_; have HO123 := n3_; have HO125 := n4_; have HB := n5_; clear n0_ n1_ n2_ n3_ n4_ n5_; (try clear hb); (try clear hb2); (try clear hk); (try clear hi)))
          go_ret
          exact ⟨by first | rfl | (simp [errW_none, errW_some] <;> rfl) | (simp [*, errW_none, errW_some] <;> rfl), by repeat (first | (with_reducible first | exact HB.out | apply below_alloc | apply pw_below_drewN | apply below_drew1) | exact HB.out)⟩
         ·
          rw [if_neg c26] at H
          exact absurd H (by simp)
        ·
         rw [if_neg c25] at H
         have c25b0 : (t126 == 0) = false := beq_eq_false_iff_ne.mpr c25
         have c25b1 : (t126 != 0) = true := bne_iff_ne.mpr c25
         replace H := Option.bind_eq_some_iff.mp H
         obtain ⟨t128, A340, H⟩ := H
         replace H : (some t128) = some r := H
         have A34 := Aside0.mk A340
         clear A340
         obtain rfl := Option.some.inj H
         go_wp2_with (first | ((with_reducible refine gate_callee (f := 11) rfl ?_); refine goesL_ (some 68) rfl rfl Try.func11 (by kernel_rfl) rfl #[.int .i64 t111] rfl (by (try simp only [List.map_toArray, List.map_cons, List.map_nil]); first | done | rfl | (simp only [List.length_drop, List.length_take]; rfl)) ?_; (with_reducible refine (gangwaylaw14_num.calls t111 t118 _ A21.out).mono ?_); rintro e w' ⟨rfl, ⟨nd, rfl⟩⟩; refine ⟨_, rfl, ?_⟩) | ((with_reducible refine gate_callee (f := 9) rfl ?_); refine goesL_ (some 77) rfl rfl Try.func9 (by kernel_rfl) rfl #[.slice Ao13 t103.length co13, .slice Ao14 x11_2.length co14, .int .i64 (wrap64 (a2 + (Int.tmod a3 1125899906842624))), .bool false] rfl (by (try simp only [List.map_toArray, List.map_cons, List.map_nil]); first | done | rfl | (simp only [List.length_drop, List.length_take]; rfl)) ?_; (with_reducible refine (ehframe_Write.calls k2 _ _ t103 _ _ x11_2 (wrap64 (a2 + (Int.tmod a3 1125899906842624))) false t119 t120 t121 _ ?side1 ?side2 ?side3 ?side4 A23.out).mono ?_); (case side1 => repeat (first | exact (Kd.S_reads' HO_10.out).2.2 | (with_reducible refine Kd.C_alloc ?_ _) | (with_reducible refine Kd.C_drewN ?_ _) | (with_reducible refine Kd.C_drew ?_))); (case side2 => exact (Kd.S_reads' HO_10.out).2.1); (case side3 => repeat (first | exact (Kd.S_reads' HO_11.out).2.2 | (with_reducible refine Kd.C_alloc ?_ _) | (with_reducible refine Kd.C_drewN ?_ _) | (with_reducible refine Kd.C_drew ?_))); (case side4 => exact (Kd.S_reads' HO_11.out).2.1); rintro e w35 ⟨v122, v124, rfl, ho0, ho1, hb⟩; refine ⟨_, rfl, ?_⟩; have n0_ := Aside0.mk (Kd.S_below (by (with_reducible repeat (first | apply Kd.S_alloc | apply Kd.S_drewN | apply Kd.S_drew)); exact HO_10.out) hb); have n1_ := Aside0.mk (Kd.S_below (by (with_reducible repeat (first | apply Kd.S_alloc | apply Kd.S_drewN | apply Kd.S_drew)); exact HO_11.out) hb); have n2_ := Aside0.mk (Kd.R_elder' (by (with_reducible repeat (first | apply Kd.R_alloc | apply Kd.R_drewN | apply Kd.R_drew)); exact HO_12.out) (Kd.R_base ho0) hb); have n3_ := Aside0.mk (Kd.R_lower (Kd.R_new' ho0 (Kd.R_lt (by (with_reducible repeat (first | apply Kd.R_alloc | apply Kd.R_drewN | apply Kd.R_drew)); exact HO_12.out))) (below_size (by repeat (first | (with_reducible first | exact HB.out | apply below_alloc | apply pw_below_drewN | apply below_drew1) | exact HB.out)))); have n4_ := Aside0.mk (Kd.R_lower ho1 (below_size (by repeat (first | (with_reducible first | exact HB.out | apply below_alloc | apply pw_below_drewN | apply below_drew1) | exact HB.out)))); have n5_ := Aside0.mk (below_step (by repeat (first | (with_reducible first | exact HB.out | apply below_alloc | apply pw_below_drewN | apply below_drew1) | exact HB.out)) hb); clear HO_10; clear HO_11; clear HO_12; clear HB; have HO_10 := n0_; have HO_11 := n1_; have HO_12 := n2_; have HO123 := n3_; have HO125 := n4_; have HB := n5_; clear n0_ n1_ n2_ n3_ n4_ n5_; (try clear hb); (try clear hb2); (try clear hk); (try clear hi); (try clear ho0); (try clear ho1)) | ((with_reducible refine gate_callee (f := 11) rfl ?_); refine goesL_ (some 82) rfl rfl Try.func11 (by kernel_rfl) rfl #[.int .i64 t121] rfl (by (try simp only [List.map_toArray, List.map_cons, List.map_nil]); first | done | rfl | (simp only [List.length_drop, List.length_take]; rfl)) ?_; (with_reducible refine (gangwaylaw14_num.calls t121 t126 _ A24.out).mono ?_); rintro e w' ⟨rfl, ⟨nd, rfl⟩⟩; refine ⟨_, rfl, ?_⟩) | (go_at_call 15; (with_reducible refine (gangwaylaw14_live.calls k2  t128 _ A34.out).mono ?_); rintro e w36 ⟨rfl, hb⟩; have n0_ := Aside0.mk (Kd.S_below (by (with_reducible repeat (first | apply Kd.S_alloc | apply Kd.S_drewN | apply Kd.S_drew)); exact HO_10.out) hb); have n1_ := Aside0.mk (Kd.S_below (by (with_reducible repeat (first | apply Kd.S_alloc | apply Kd.S_drewN | apply Kd.S_drew)); exact HO_11.out) hb); have n2_ := Aside0.mk (Kd.R_below (by (with_reducible repeat (first | apply Kd.R_alloc | apply Kd.R_drewN | apply Kd.R_drew)); exact HO_12.out) hb); have n3_ := Aside0.mk (Kd.R_below (by (with_reducible repeat (first | apply Kd.R_alloc | apply Kd.R_drewN | apply Kd.R_drew)); exact HO123.out) hb); have n4_ := Aside0.mk (Kd.R_below (by (with_reducible repeat (first | apply Kd.R_alloc | apply Kd.R_drewN | apply Kd.R_drew)); exact HO125.out) hb); have n5_ := Aside0.mk (below_step (by repeat (first | (with_reducible first | exact HB.out | apply below_alloc | apply pw_below_drewN | apply below_drew1) | exact HB.out)) hb); clear HO_10; clear HO_11; clear HO_12; clear HO123; clear HO125; clear HB; have HO_10 := n0_; have HO_11 := n1_; have HO_12 := n2_; have HO123 := n3_; have HO125 := n4_; have HB := n5_; clear n0_ n1_ n2_ n3_ n4_ n5_; (try clear hb); (try clear hb2); (try clear hk); (try clear hi)))
         go_ret
         exact ⟨by first | rfl | (simp [errW_none, errW_some] <;> rfl) | (simp [*, errW_none, errW_some] <;> rfl), by repeat (first | (with_reducible first | exact HB.out | apply below_alloc | apply pw_below_drewN | apply below_drew1) | exact HB.out)⟩
       ·
        rw [if_neg c22] at H
        have c22b0 : (t118 == 0) = false := beq_eq_false_iff_ne.mpr c22
        have c22b1 : (t118 != 0) = true := bne_iff_ne.mpr c22
        replace H := Option.bind_eq_some_iff.mp H
        obtain ⟨t129, A370, H⟩ := H
        replace H : (some t129) = some r := H
        have A37 := Aside0.mk A370
        clear A370
        obtain rfl := Option.some.inj H
        go_wp2_with (first | ((with_reducible refine gate_callee (f := 11) rfl ?_); refine goesL_ (some 68) rfl rfl Try.func11 (by kernel_rfl) rfl #[.int .i64 t111] rfl (by (try simp only [List.map_toArray, List.map_cons, List.map_nil]); first | done | rfl | (simp only [List.length_drop, List.length_take]; rfl)) ?_; (with_reducible refine (gangwaylaw14_num.calls t111 t118 _ A21.out).mono ?_); rintro e w' ⟨rfl, ⟨nd, rfl⟩⟩; refine ⟨_, rfl, ?_⟩) | ((with_reducible refine gate_callee (f := 15) rfl ?_); refine goesL_ (some 70) rfl rfl Try.func15 (by kernel_rfl) rfl #[] rfl (by (try simp only [List.map_toArray, List.map_cons, List.map_nil]); first | done | rfl | (simp only [List.length_drop, List.length_take]; rfl)) ?_; (with_reducible refine (gangwaylaw14_live.calls k2  t129 _ A37.out).mono ?_); rintro e w38 ⟨rfl, hb⟩; refine ⟨_, rfl, ?_⟩; have n0_ := Aside0.mk (Kd.S_below (by (with_reducible repeat (first | apply Kd.S_alloc | apply Kd.S_drewN | apply Kd.S_drew)); exact HO_10.out) hb); have n1_ := Aside0.mk (Kd.S_below (by (with_reducible repeat (first | apply Kd.S_alloc | apply Kd.S_drewN | apply Kd.S_drew)); exact HO_11.out) hb); have n2_ := Aside0.mk (Kd.R_below (by (with_reducible repeat (first | apply Kd.R_alloc | apply Kd.R_drewN | apply Kd.R_drew)); exact HO_12.out) hb); have n3_ := Aside0.mk (below_step (by repeat (first | (with_reducible first | exact HB.out | apply below_alloc | apply pw_below_drewN | apply below_drew1) | exact HB.out)) hb); clear HO_10; clear HO_11; clear HO_12; clear HB; have HO_10 := n0_; have HO_11 := n1_; have HO_12 := n2_; have HB := n3_; clear n0_ n1_ n2_ n3_; (try clear hb); (try clear hb2); (try clear hk); (try clear hi)))
        go_ret
        exact ⟨by first | rfl | (simp [errW_none, errW_some] <;> rfl) | (simp [*, errW_none, errW_some] <;> rfl), by repeat (first | (with_reducible first | exact HB.out | apply below_alloc | apply pw_below_drewN | apply below_drew1) | exact HB.out)⟩
end Go.Proofs.Ytfgfnflhdabmcaa.G
end
section
namespace Go.Proofs.Ytfgfnflhdabmcaa.Stmt
open Go.RowKit Go.Proofs.Ytfgfnflhdabmcaa.G Go.Proofs.YtfgfnflhdabmcaaW.PrintWords
set_option linter.unusedVariables false
def wf97 (x : S97) : Prop := ((Lit.int .i64 x.f0).wf = true) ∧ ((Lit.int .i64 x.f1).wf = true) ∧ ((Lit.int .i64 x.f2).wf = true)
def wt97 (x : S97) : Nat := (1 + (1 + (1))) + 1
def wf43 (x : S43) : Prop := ((Lit.int .i64 x.f0).wf = true) ∧ (x.f1.length * 24 ≤ 140737488351232 ∧ x.f1.length ≤ 9223372036854775807 ∧ ∀ y1 ∈ x.f1, wf97 y1)
def wt43 (x : S43) : Nat := (1 + (((x.f1.map wt97).sum + 1))) + 1
def wf61 (x : S61) : Prop := ((Lit.int .i64 x.f0).wf = true) ∧ ((Lit.int .i64 x.f1).wf = true) ∧ ((Lit.int .i64 x.f2).wf = true) ∧ (x.f3.length * 24 ≤ 140737488351232 ∧ x.f3.length ≤ 9223372036854775807 ∧ ∀ y1 ∈ x.f3, wf97 y1)
def wt61 (x : S61) : Nat := (1 + (1 + (1 + (((x.f3.map wt97).sum + 1))))) + 1
def EhframeMoved : Prop := ∀ (l0 : List (S43)) (l1 : List (S61)) (a2 : Int) (a3 : Int), (l0.length * 32 ≤ 140737488351232 ∧ l0.length ≤ 9223372036854775807 ∧ ∀ y1 ∈ l0, wf43 y1) → (l1.length * 48 ≤ 140737488351232 ∧ l1.length ≤ 9223372036854775807 ∧ ∀ y1 ∈ l1, wf61 y1) → ((Lit.int .i64 a2).wf = true) → ((Lit.int .i64 a3).wf = true) → ∃ k, G.gangwaylaw14_EhframeMoved.f k l0 l1 a2 a3 = some true
end Go.Proofs.Ytfgfnflhdabmcaa.Stmt
end
section
namespace Go.Proofs.Ytfgfnflhdabmcaa.Bit
set_option linter.unusedVariables false
set_option linter.unusedSimpArgs false
open Go.RowKit Go.Proofs.YtfgfnflhdabmcaaW.PrintWords Go.Proofs.YtfgfnflhdabmcaaW.PrintMore
theorem wrap_u64 (n : Int) : IntKind.u64.wrap n = n % 18446744073709551616 := IntKind.wrap_u64 n
theorem wrap64_id {n : Int} (h0 : -9223372036854775808 ≤ n) (h1 : n ≤ 9223372036854775807) : wrap64 n = n := by unfold wrap64; omega
/-- of a byte: the finite check -/
theorem byte_all {P : Int → Prop} (h : ∀ i : Fin 256, P (i.val : Int)) (x : Int) (h0 : 0 ≤ x) (h1 : x < 256) : P x := by
  obtain ⟨n, rfl⟩ := Int.eq_ofNat_of_zero_le h0
  exact h ⟨n, by omega⟩
theorem b_or128 (x : Int) : Go.bits .or .u8 (x % 256) 128 = x % 128 + 128 := by
  have h := byte_all (P := fun y => Go.bits .or .u8 y 128 = y % 128 + 128) (by decide +kernel) (x % 256) (by omega) (by omega)
  rw [h]
  omega
theorem b_and127 (x : Int) : Go.bits .and .u8 (x % 256) 127 = x % 128 := by
  have h := byte_all (P := fun y => Go.bits .and .u8 y 127 = y % 128) (by decide +kernel) (x % 256) (by omega) (by omega)
  rw [h]
  omega
end Go.Proofs.Ytfgfnflhdabmcaa.Bit
end
section
namespace Go.Proofs.Ytfgfnflhdabmcaa.Leb
set_option linter.unusedVariables false
set_option linter.unusedSimpArgs false
open Go.RowKit Go.Proofs.Ytfgfnflhdabmcaa.G Go.Proofs.YtfgfnflhdabmcaaW.PrintWords Go.Proofs.YtfgfnflhdabmcaaW.PrintLast Go.Proofs.YtfgfnflhdabmcaaW.PrintMore Go.Proofs.Ytfgfnflhdabmcaa.Bit
/-- so many low bytes of a number -/
def leB (u : Int) : Nat → List Int
  | 0 => []
  | s + 1 => u % 256 :: leB (u / 256) s
theorem leB_length (s : Nat) : ∀ u, (leB u s).length = s := by
  induction s with
  | zero => intro u; rfl
  | succ s ih => intro u; simp [leB, ih]
theorem pow256_pos (i : Nat) : (0 : Int) < 256 ^ i := Int.pow_pos (by decide +kernel)
theorem shr_bytes (u : Int) (i : Nat) (hi : i ≤ 8) : shr .u64 u (wrap64 (8 * (i : Int))) = u / 256 ^ i := by
  unfold shr
  rw [wrap64_id (by omega) (by omega), show (8 * (i : Int)).toNat = 8 * i from by omega, Nat.min_eq_left (by simp [IntKind.bits]; omega), show (2 : Int) ^ (8 * i) = 256 ^ i from by rw [Int.pow_mul]; rfl]
theorem low_l0 (d : Nat) : ∀ (k i : Nat) (u : Int) (s : Nat) (acc : List Int), s ≤ 8 → i ≤ s → s - i = d → d < k → acc.length ≤ 1000 - d → d ≤ 8 → leb_low_uint64.l0 k u acc (s : Int) (i : Int) = some (acc ++ leB (u / 256 ^ i) (s - i)) := by
  induction d with
  | zero =>
    intro k i u s acc hs hi hd hk ha _
    obtain ⟨k, rfl⟩ : ∃ m, k = m + 1 := ⟨k - 1, by omega⟩
    simp only [leb_low_uint64.l0]
    rw [if_neg (by omega), hd]
    simp [leB]
  | succ d ih =>
    intro k i u s acc hs hi hd hk ha hd8
    obtain ⟨k, rfl⟩ : ∃ m, k = m + 1 := ⟨k - 1, by omega⟩
    simp only [leb_low_uint64.l0]
    rw [if_pos (show (i : Int) < s by omega), shr_bytes u i (by omega), wrap64_id (n := 8 * (i : Int)) (by omega) (by omega), if_pos (show 0 ≤ 8 * (i : Int) by omega), if_pos (show acc.length < 140737488355328 by omega), wrap64_id (n := (i : Int) + 1) (by omega) (by omega), show (i : Int) + 1 = ((i + 1 : Nat) : Int) from by omega,
      ih k (i + 1) u s _ hs (by omega) (by omega) (by omega) (by simp; omega) (by omega), show s - i = (s - (i + 1)) + 1 from by omega]
    simp only [leB, List.append_assoc, List.singleton_append]
    rw [Int.pow_succ, Int.ediv_ediv_of_nonneg (by have := pow256_pos i; omega)]
theorem low_f (u : Int) (s : Nat) (hs : s ≤ 8) (k : Nat) (hk : 9 ≤ k) : leb_low_uint64.f k u (s : Int) = some (leB u s) := by
  unfold leb_low_uint64.f
  have := low_l0 s k 0 u s [] hs (by omega) (by omega) (by omega) (by simp) (by omega)
  simpa using this
/-- may a number have so many bytes? -/
def sizedB (s : Int) : Bool := s == 1 || s == 2 || s == 4 || s == 8
theorem sized_f (s : Int) : leb_sized.f s = some (sizedB s) := by
  unfold leb_sized.f sizedB
  by_cases h1 : s = 1
  · simp [h1]
  · by_cases h2 : s = 2
    · simp [h2]
    · by_cases h4 : s = 4
      · simp [h4]
      · simp [h1, h2, h4]
theorem sizedB_cases {s : Int} (h : sizedB s = true) : s = 1 ∨ s = 2 ∨ s = 4 ∨ s = 8 := by
  unfold sizedB at h
  simp at h
  omega
/-- what leb.Put answers -/
def putV (n s : Int) : List Int × Int :=
  if sizedB s = true then (if s < 8 ∧ (n < -2 ^ (8 * s.toNat - 1) ∨ 2 ^ (8 * s.toNat) ≤ n) then ([], 11) else (leB (n % 18446744073709551616) s.toNat, 0)) else ([], 1)
theorem put_f (n s : Int) (k : Nat) (hk : 9 ≤ k) : leb_Put.f k n s = some (putV n s) := by
  unfold leb_Put.f putV
  rw [sized_f, Option.bind_some]
  by_cases hs : sizedB s = true
  · rw [if_pos hs, if_pos hs, wrap_u64]
    rcases sizedB_cases hs with rfl | rfl | rfl | rfl
    · rw [show leb_low_uint64.f k (n % 18446744073709551616) 1 = _ from low_f _ 1 (by omega) k hk]
      have e1 : shl .i64 (-1) (wrap64 (wrap64 (8 * 1) - 1)) = -128 := by decide +kernel
      have e2 : shl .i64 1 (wrap64 (8 * 1)) = 256 := by decide +kernel
      rw [e1, e2, if_pos (show (1 : Int) < 8 by omega), if_pos (show 0 ≤ wrap64 (wrap64 (8 * 1) - 1) by decide +kernel), if_pos (show 0 ≤ wrap64 (8 * 1) by decide +kernel)]
      simp only [Option.bind_some]
      by_cases c1 : n < -128
      · rw [if_pos c1, if_pos (by simp; omega)]
      · rw [if_neg c1]
        by_cases c2 : n ≥ 256
        · rw [if_pos c2, if_pos (by simp; omega)]
        · rw [if_neg c2, if_neg (by simp; omega)]; rfl
    · rw [show leb_low_uint64.f k (n % 18446744073709551616) 2 = _ from low_f _ 2 (by omega) k hk]
      have e1 : shl .i64 (-1) (wrap64 (wrap64 (8 * 2) - 1)) = -32768 := by decide +kernel
      have e2 : shl .i64 1 (wrap64 (8 * 2)) = 65536 := by decide +kernel
      rw [e1, e2, if_pos (show (2 : Int) < 8 by omega), if_pos (show 0 ≤ wrap64 (wrap64 (8 * 2) - 1) by decide +kernel), if_pos (show 0 ≤ wrap64 (8 * 2) by decide +kernel)]
      simp only [Option.bind_some]
      by_cases c1 : n < -32768
      · rw [if_pos c1, if_pos (by simp; omega)]
      · rw [if_neg c1]
        by_cases c2 : n ≥ 65536
        · rw [if_pos c2, if_pos (by simp; omega)]
        · rw [if_neg c2, if_neg (by simp; omega)]; rfl
    · rw [show leb_low_uint64.f k (n % 18446744073709551616) 4 = _ from low_f _ 4 (by omega) k hk]
      have e1 : shl .i64 (-1) (wrap64 (wrap64 (8 * 4) - 1)) = -2147483648 := by decide +kernel
      have e2 : shl .i64 1 (wrap64 (8 * 4)) = 4294967296 := by decide +kernel
      rw [e1, e2, if_pos (show (4 : Int) < 8 by omega), if_pos (show 0 ≤ wrap64 (wrap64 (8 * 4) - 1) by decide +kernel), if_pos (show 0 ≤ wrap64 (8 * 4) by decide +kernel)]
      simp only [Option.bind_some]
      by_cases c1 : n < -2147483648
      · rw [if_pos c1, if_pos (by simp; omega)]
      · rw [if_neg c1]
        by_cases c2 : n ≥ 4294967296
        · rw [if_pos c2, if_pos (by simp; omega)]
        · rw [if_neg c2, if_neg (by simp; omega)]; rfl
    · rw [show leb_low_uint64.f k (n % 18446744073709551616) 8 = _ from low_f _ 8 (by omega) k hk, if_neg (show ¬ (8 : Int) < 8 by omega), if_neg (by simp)]
      rfl
  · rw [if_neg hs, if_neg hs]
end Go.Proofs.Ytfgfnflhdabmcaa.Leb
end
section
namespace Go.Proofs.Ytfgfnflhdabmcaa.Leb
set_option linter.unusedVariables false
set_option linter.unusedSimpArgs false
open Go.RowKit Go.Proofs.Ytfgfnflhdabmcaa.G Go.Proofs.YtfgfnflhdabmcaaW.PrintWords Go.Proofs.YtfgfnflhdabmcaaW.PrintLast Go.Proofs.YtfgfnflhdabmcaaW.PrintMore Go.Proofs.Ytfgfnflhdabmcaa.Bit
/-- an unsigned number's groups -/
def ulebL (u : Nat) : List Int := if h : 127 < u then ((u % 128 + 128 : Nat) : Int) :: ulebL (u / 128) else [(u : Int)]
termination_by u
decreasing_by omega
/-- a signed number's groups -/
def slebL (n : Int) : List Int := if h : n < -64 ∨ 63 < n then (n % 128 + 128) :: slebL (n / 128) else [n % 128]
termination_by n.natAbs
decreasing_by omega
theorem ulebL_big {u : Nat} (h : 127 < u) : ulebL u = ((u % 128 + 128 : Nat) : Int) :: ulebL (u / 128) := by rw [ulebL, dif_pos h]
theorem ulebL_small {u : Nat} (h : ¬ 127 < u) : ulebL u = [(u : Int)] := by rw [ulebL, dif_neg h]
theorem slebL_big {n : Int} (h : n < -64 ∨ 63 < n) : slebL n = (n % 128 + 128) :: slebL (n / 128) := by rw [slebL, dif_pos h]
theorem slebL_small {n : Int} (h : ¬ (n < -64 ∨ 63 < n)) : slebL n = [n % 128] := by rw [slebL, dif_neg h]
theorem uleb_l0 (d : Nat) : ∀ (k u : Nat) (acc : List Int), u < 128 ^ (d + 1) → d < k → acc.length + d ≤ 1000 → leb_Uleb.l0 k acc (u : Int) = some (acc ++ ulebL u) := by
  induction d with
  | zero =>
    intro k u acc hu hk ha
    obtain ⟨k, rfl⟩ : ∃ m, k = m + 1 := ⟨k - 1, by omega⟩
    have hu' : u < 128 := by simpa using hu
    simp only [leb_Uleb.l0]
    rw [if_neg (by omega), if_pos (by omega), ulebL_small (by omega), show ((u : Int)) % 256 = u from by omega]
  | succ d ih =>
    intro k u acc hu hk ha
    obtain ⟨k, rfl⟩ : ∃ m, k = m + 1 := ⟨k - 1, by omega⟩
    simp only [leb_Uleb.l0]
    by_cases h : 127 < u
    · rw [if_pos (by omega), if_pos (by omega), b_or128]
      have hd : u / 128 < 128 ^ (d + 1) := by rw [Nat.pow_succ] at hu; omega
      have := ih k (u / 128) (acc ++ [((u % 128 + 128 : Nat) : Int)]) hd (by omega) (by simp; omega)
      rw [show ((u : Int)) % 128 + 128 = ((u % 128 + 128 : Nat) : Int) from by omega, show ((u : Int)) / 128 = ((u / 128 : Nat) : Int) from by omega, this, ulebL_big h]
      simp
    · rw [if_neg (by omega), if_pos (by omega), ulebL_small h, show ((u : Int)) % 256 = u from by omega]
theorem uleb_f (a : Int) (k : Nat) (hk : 10 ≤ k) : leb_Uleb.f k a = some (ulebL (a % 18446744073709551616).toNat) := by
  unfold leb_Uleb.f
  have h0 : 0 ≤ a % 18446744073709551616 := by omega
  obtain ⟨u, hu⟩ := Int.eq_ofNat_of_zero_le h0
  rw [wrap_u64, hu, uleb_l0 9 k u [] (by have : (128 : Nat) ^ (9 + 1) = 1180591620717411303424 := by decide
                                         omega) (by omega) (by simp)]
  simp
theorem sleb_l0 (d : Nat) : ∀ (k : Nat) (n : Int) (acc : List Int), -(64 * 128 ^ d : Int) ≤ n → n < 64 * 128 ^ d → d < k → acc.length + d ≤ 1000 → leb_Sleb.l0 k n acc = some (acc ++ slebL n) := by
  induction d with
  | zero =>
    intro k n acc h0 h1 hk ha
    obtain ⟨k, rfl⟩ : ∃ m, k = m + 1 := ⟨k - 1, by omega⟩
    simp only [leb_Sleb.l0]
    rw [if_neg (by simp at h0; omega), if_neg (by simp at h1; omega), if_pos (by omega), slebL_small (by simp at h0 h1; omega), b_and127]
  | succ d ih =>
    intro k n acc h0 h1 hk ha
    obtain ⟨k, rfl⟩ : ∃ m, k = m + 1 := ⟨k - 1, by omega⟩
    simp only [leb_Sleb.l0]
    by_cases h : n < -64 ∨ 63 < n
    · have hp : (128 : Int) ^ (d + 1) = 128 ^ d * 128 := Int.pow_succ _ _
      have hi := ih k (n / 128) (acc ++ [n % 128 + 128]) (by rw [hp] at h0; omega) (by rw [hp] at h1; omega) (by omega) (by simp; omega)
      simp only [List.append_assoc, List.singleton_append] at hi
      by_cases c : n < -64
      · rw [if_pos c, if_pos (show acc.length < 140737488355328 by omega), b_or128, hi, slebL_big h]
      · rw [if_neg c, if_pos (show n > 63 by omega), if_pos (show acc.length < 140737488355328 by omega), b_or128, hi, slebL_big h]
    · rw [if_neg (by omega), if_neg (by omega), if_pos (by omega), slebL_small h, b_and127]
theorem sleb_f (a : Int) (h0 : -9223372036854775808 ≤ a) (h1 : a ≤ 9223372036854775807) (k : Nat) (hk : 10 ≤ k) : leb_Sleb.f k a = some (slebL a) := by
  unfold leb_Sleb.f
  rw [sleb_l0 9 k a [] (by have : (128 : Int) ^ 9 = 9223372036854775808 := by decide
                           omega) (by have : (128 : Int) ^ 9 = 9223372036854775808 := by decide
                                      omega) (by omega) (by simp)]
  simp
end Go.Proofs.Ytfgfnflhdabmcaa.Leb
end
section
namespace Go.Proofs.Ytfgfnflhdabmcaa.Eh
set_option linter.unusedVariables false
set_option linter.unusedSimpArgs false
open Go.RowKit Go.Proofs.Ytfgfnflhdabmcaa.G Go.Proofs.YtfgfnflhdabmcaaW.PrintWords Go.Proofs.YtfgfnflhdabmcaaW.PrintLast Go.Proofs.YtfgfnflhdabmcaaW.PrintMore Go.Proofs.Ytfgfnflhdabmcaa.Bit Go.Proofs.Ytfgfnflhdabmcaa.Leb Go.Proofs.Ytfgfnflhdabmcaa.EhOf
/-- beyond 2^60? -/
def farB (x : Int) : Bool := decide (x < -1152921504606846976) || decide (1152921504606846976 < x)
theorem far_no {x : Int} (h : farB x = false) : -1152921504606846976 ≤ x ∧ x ≤ 1152921504606846976 := by
  simp only [farB, Bool.or_eq_false_iff, decide_eq_false_iff_not] at h
  omega
theorem near_step (l : List Int) (i : Nat) (h : i < l.length) (hl : l.length ≤ 100) (k : Nat) : ehframe_near.l0 (k + 1) l (l.length : Int) (i : Int) = if farB (rd l (i : Int)) = true then some false else ehframe_near.l0 k l (l.length : Int) ((i + 1 : Nat) : Int) := by
  rw [ehframe_near.l0, if_pos (by omega), if_pos (by omega), if_pos (by omega), show wrap64 ((i : Int) + 1) = ((i + 1 : Nat) : Int) from by unfold wrap64; omega]
  unfold farB
  by_cases h1 : rd l (i : Int) < -1152921504606846976
  · rw [if_pos h1, if_pos (by simp [h1])]
  · rw [if_neg h1]
    by_cases h2 : rd l (i : Int) > 1152921504606846976
    · rw [if_pos h2, if_pos (by simp; omega)]
    · rw [if_neg h2, if_neg (by simp; omega)]
theorem near_end (l : List Int) (k : Nat) : ehframe_near.l0 (k + 1) l (l.length : Int) (l.length : Int) = some true := by
  rw [ehframe_near.l0, if_neg (by omega)]
theorem near1 (x : Int) (k : Nat) (hk : 4 ≤ k) : ehframe_near.f k [x] = some (!farB x) := by
  obtain ⟨k, rfl⟩ : ∃ m, k = m + 2 := ⟨k - 2, by omega⟩
  unfold ehframe_near.f
  have h0 := near_step [x] 0 (by simp) (by simp) (k + 1)
  have h1 := near_end [x] k
  rw [show ((0 : Nat) : Int) = 0 from rfl, show rd [x] 0 = x from rfl] at h0
  rw [h0]
  cases hx : farB x
  · exact h1
  · rfl
theorem near3 (x y z : Int) (k : Nat) (hk : 4 ≤ k) : ehframe_near.f k [x, y, z] = some (!(farB x || farB y || farB z)) := by
  obtain ⟨k, rfl⟩ : ∃ m, k = m + 4 := ⟨k - 4, by omega⟩
  unfold ehframe_near.f
  have h0 := near_step [x, y, z] 0 (by simp) (by simp) (k + 3)
  have h1 := near_step [x, y, z] 1 (by simp) (by simp) (k + 2)
  have h2 := near_step [x, y, z] 2 (by simp) (by simp) (k + 1)
  have h3 := near_end [x, y, z] k
  rw [show ((0 : Nat) : Int) = 0 from rfl, show rd [x, y, z] 0 = x from rfl] at h0
  rw [show rd [x, y, z] ((1 : Nat) : Int) = y from rfl] at h1
  rw [show rd [x, y, z] ((2 : Nat) : Int) = z from rfl] at h2
  rw [h0]
  cases hx : farB x
  · refine h1.trans ?_
    cases hy : farB y
    · refine h2.trans ?_
      cases hz : farB z
      · exact h3
      · rfl
    · rfl
  · rfl
/-- what a pointer is counted from -/
def offV (q at_ data : Int) : Int := if q = 16 then at_ else if q = 48 then data else 0
def fitsV (x s : Int) (g : Bool) : Bool :=
  if s = 2 then (if g = true then decide (-32768 ≤ x ∧ x < 32768) else decide (0 ≤ x ∧ x < 65536))
  else if s = 4 then (if g = true then decide (-2147483648 ≤ x ∧ x < 2147483648) else decide (0 ≤ x ∧ x < 4294967296))
  else if g = true then true else decide (0 ≤ x)
theorem sh15 : shl .i64 1 15 = 32768 := by decide +kernel
theorem sh31 : shl .i64 1 31 = 2147483648 := by decide +kernel
theorem sh16 : shl .i64 1 16 = 65536 := by decide +kernel
theorem sh32 : shl .i64 1 32 = 4294967296 := by decide +kernel
theorem sn15 : shl .i64 (-1) 15 = -32768 := by decide +kernel
theorem sn31 : shl .i64 (-1) 31 = -2147483648 := by decide +kernel
theorem dec_ite (x a b : Int) : (if x ≥ a then some (decide (x < b)) else some false) = some (decide (a ≤ x ∧ x < b)) := by
  by_cases h : x ≥ a
  · rw [if_pos h]; congr 1; simp; omega
  · rw [if_neg h]; congr 1; simp; omega
theorem dec_ite' (x b : Int) : (if x < 0 then some false else some (decide (x < b))) = some (decide (0 ≤ x ∧ x < b)) := by
  by_cases h : x < 0
  · rw [if_pos h]; congr 1; simp; omega
  · rw [if_neg h]; congr 1; simp; omega
theorem dec_ite3 (x : Int) : (if x < 0 then some false else some true) = some (decide (0 ≤ x)) := by
  by_cases h : x < 0
  · rw [if_pos h]; congr 1; simp; omega
  · rw [if_neg h]; congr 1; simp; omega
theorem fits_f (x s : Int) (g : Bool) (hs : s = 2 ∨ s = 4 ∨ s = 8) (k : Nat) (hk : 1 ≤ k) : leb_Fits.f k x (wrap64 (8 * s)) g = some (fitsV x s g) := by
  obtain ⟨k, rfl⟩ : ∃ m, k = m + 1 := ⟨k - 1, by omega⟩
  have w15 : wrap64 (16 - 1) = 15 := by decide +kernel
  have w31 : wrap64 (32 - 1) = 31 := by decide +kernel
  have e2 : wrap64 (8 * 2) = 16 := by decide +kernel
  have e4 : wrap64 (8 * 4) = 32 := by decide +kernel
  have e8 : wrap64 (8 * 8) = 64 := by decide +kernel
  unfold leb_Fits.f
  rcases hs with rfl | rfl | rfl
  · rw [e2, if_neg (by decide), leb_Fits.j0, if_neg (by decide)]
    cases g
    · rw [if_neg (by decide), if_neg (show ¬ (16 : Int) ≥ 63 by decide), if_pos (show (0 : Int) ≤ 16 by decide), sh16]
      exact dec_ite' x _
    · rw [if_pos rfl, if_neg (by decide), w15, if_pos (by decide), sn15, sh15]
      exact dec_ite x _ _
  · rw [e4, if_neg (by decide), leb_Fits.j0, if_neg (by decide)]
    cases g
    · rw [if_neg (by decide), if_neg (show ¬ (32 : Int) ≥ 63 by decide), if_pos (show (0 : Int) ≤ 32 by decide), sh32]
      exact dec_ite' x _
    · rw [if_pos rfl, if_neg (by decide), w31, if_pos (by decide), sn31, sh31]
      exact dec_ite x _ _
  · rw [e8, if_neg (by decide), leb_Fits.j0, if_neg (by decide)]
    cases g
    · rw [if_neg (by decide), if_pos (show (64 : Int) ≥ 63 by decide)]
      exact dec_ite3 x
    · rw [if_pos rfl, if_pos (by decide)]
      rfl
/-- a pointer's bytes, of a form of s bytes (0: in groups), with a sign or without, counted from q -/
def tailS (s : Int) (g : Bool) (x : Int) : List Int × Int :=
  if farB x = true ∨ (g = false ∧ x < 0) then ([], 11)
  else if s = 0 then (if g = true then (slebL x, 0) else (ulebL (x % 18446744073709551616).toNat, 0))
  else if fitsV x s g = true then (leB (x % 18446744073709551616) s.toNat, 0) else ([], 11)
def putS (s : Int) (g : Bool) (q v at_ data : Int) : List Int × Int :=
  if farB v = true ∨ farB at_ = true ∨ farB data = true then ([], 11) else tailS s g (wrap64 (v - offV q at_ data))
theorem leB_take (n : Nat) : ∀ (m : Nat) (u : Int), n ≤ m → (leB u m).take n = leB u n := by
  induction n with
  | zero => intro m u _; simp [leB]
  | succ n ih =>
    intro m u h
    obtain ⟨m, rfl⟩ : ∃ j, m = j + 1 := ⟨m - 1, by omega⟩
    simp only [leB, List.take_succ_cons]
    rw [ih m _ (by omega)]
theorem tail_f (s : Int) (g : Bool) (x : Int) (hs : s = 0 ∨ s = 2 ∨ s = 4 ∨ s = 8) (k : Nat) (hk : 20 ≤ k) : ehframe_Put.j0 k x s g = some (tailS s g x) := by
  obtain ⟨k, rfl⟩ : ∃ m, k = m + 3 := ⟨k - 3, by omega⟩
  unfold tailS
  rw [ehframe_Put.j0, near1 x (k + 2) (by omega)]
  simp only [Option.bind_some]
  cases hf : farB x
  · simp only [Bool.not_false, if_true, false_or]
    have hr := far_no hf
    have hb : ∀ b : Bool, b = false → ehframe_Put.j1 (k + 2) x b s g = if s = 0 then (if g = true then some (slebL x, 0) else some (ulebL (x % 18446744073709551616).toNat, 0)) else if fitsV x s g = true then some (leB (x % 18446744073709551616) s.toNat, 0) else some ([], 11) := by
      intro b hb
      subst hb
      rw [ehframe_Put.j1, if_neg (by decide)]
      by_cases s0 : s = 0
      · rw [if_pos s0, if_pos s0, ehframe_Put.j2]
        cases g
        · rw [if_neg (by decide), if_pos s0, uleb_f x k (by omega)]
          rfl
        · rw [if_pos rfl, sleb_f x (by omega) (by omega) k (by omega)]
          rfl
      · have hs' : s = 2 ∨ s = 4 ∨ s = 8 := by omega
        rw [if_neg s0, if_neg s0, ehframe_Put.j2, if_neg (by decide), if_neg s0, fits_f x s g hs' k (by omega)]
        simp only [Option.bind_some]
        cases hfi : fitsV x s g
        · rfl
        · rw [if_pos rfl, if_pos rfl, put_f x 8 k (by omega), show putV x 8 = (leB (x % 18446744073709551616) 8, 0) from by simp [putV, sizedB]]
          simp only [Option.bind_some]
          rw [if_pos (by omega), if_pos (by rw [leB_length]; omega), leB_take _ _ _ (by omega)]
    cases g
    · simp only [Bool.false_eq_true, if_false, true_and, false_or]
      by_cases hx : x < 0
      · rw [if_pos hx, decide_eq_true hx, ehframe_Put.j1, if_pos rfl]
      · rw [if_neg hx, decide_eq_false hx, hb false rfl]
        simp only [Bool.false_eq_true, if_false]
        split
        · rfl
        · split <;> rfl
    · simp only [if_true, Bool.true_eq_false, false_and, if_false]
      rw [hb false rfl]
      simp only [if_true]
      split
      · rfl
      · split <;> rfl
  · simp only [Bool.not_true, Bool.false_eq_true, if_false, true_or, if_true]
    rw [ehframe_Put.j1, if_pos rfl]
theorem prog_put {a0 s q : Int} {g : Bool} (hof : ofF a0 = (s, g, q, true)) (hs : s = 0 ∨ s = 2 ∨ s = 4 ∨ s = 8) (v at_ data : Int) (hv : -9223372036854775808 ≤ v ∧ v ≤ 9223372036854775807) (k : Nat) (hk : 20 ≤ k) :
    ehframe_Put.f k a0 v at_ data = some (putS s g q v at_ data) := by
  unfold ehframe_Put.f putS
  rw [show ehframe_of.f a0 = some (s, g, q, true) from congrArg some hof]
  simp only [Option.bind_some, if_true]
  rw [near3 v at_ data k (by omega)]
  simp only [Option.bind_some]
  by_cases hf : farB v = true ∨ farB at_ = true ∨ farB data = true
  · rw [if_pos hf, if_neg (by rcases hf with h | h | h <;> simp [h])]
  · have hf' : farB v = false ∧ farB at_ = false ∧ farB data = false := by
      refine ⟨?_, ?_, ?_⟩ <;> (rw [← Bool.not_eq_true]; intro h; exact hf (by simp [h]))
    rw [if_neg hf, if_pos (by simp [hf'.1, hf'.2.1, hf'.2.2])]
    unfold offV
    by_cases q1 : q = 16
    · rw [if_pos q1, if_pos q1, tail_f s g _ hs k hk]
    · rw [if_neg q1, if_neg q1]
      by_cases q2 : q = 48
      · rw [if_pos q2, if_pos q2, tail_f s g _ hs k hk]
      · rw [if_neg q2, if_neg q2, tail_f s g _ hs k hk, show wrap64 (v - 0) = v from by unfold wrap64; omega]
/-- an encoding that is one -/
theorem enc_good (a0 : Int) (h : ∃ s q g, ofF a0 = (s, g, q, true)) : a0 ∈ [0, 1, 2, 3, 4, 9, 10, 11, 12, 16, 17, 18, 19, 20, 25, 26, 27, 28, 48, 49, 50, 51, 52, 57, 58, 59, 60] := by
  obtain ⟨s, q, g, h⟩ := h
  unfold ofF at h
  split at h
  · cases h
  · split at h
    · cases h
    · rename_i h1 h2
      have h3 := congrArg (fun p => p.2.2.2) h
      simp only at h3
      unfold formOf at h3
      simp only [List.mem_cons, List.not_mem_nil, or_false]
      have hm : a0 % 16 = 0 ∨ a0 % 16 = 1 ∨ a0 % 16 = 2 ∨ a0 % 16 = 3 ∨ a0 % 16 = 4 ∨ a0 % 16 = 9 ∨ a0 % 16 = 10 ∨ a0 % 16 = 11 ∨ a0 % 16 = 12 := by
        repeat' split at h3
        all_goals (first | omega | cases h3)
      omega
theorem enc_size (a0 : Int) (h : a0 ∈ [0, 1, 2, 3, 4, 9, 10, 11, 12, 16, 17, 18, 19, 20, 25, 26, 27, 28, 48, 49, 50, 51, 52, 57, 58, 59, 60]) : ofF a0 = ((ofF a0).1, (ofF a0).2.1, (ofF a0).2.2.1, true) ∧ ((ofF a0).1 = 0 ∨ (ofF a0).1 = 2 ∨ (ofF a0).1 = 4 ∨ (ofF a0).1 = 8) ∧ (wrap64 (wrap64 (Int.tdiv a0 16) * 16) = (ofF a0).2.2.1) := by
  simp only [List.mem_cons, List.not_mem_nil, or_false] at h
  rcases h with rfl | rfl | rfl | rfl | rfl | rfl | rfl | rfl | rfl | rfl | rfl | rfl | rfl | rfl | rfl | rfl | rfl | rfl | rfl | rfl | rfl | rfl | rfl | rfl | rfl | rfl | rfl
  all_goals exact ⟨by decide +kernel, by decide +kernel, by decide +kernel⟩
end Go.Proofs.Ytfgfnflhdabmcaa.Eh
end
section
namespace Go.Proofs.Ytfgfnflhdabmcaa.Eh
set_option linter.unusedVariables false
set_option linter.unusedSimpArgs false
set_option linter.unusedSectionVars false
open Go.RowKit Go.Proofs.Ytfgfnflhdabmcaa.G Go.Proofs.YtfgfnflhdabmcaaW.PrintWords Go.Proofs.YtfgfnflhdabmcaaW.PrintLast Go.Proofs.YtfgfnflhdabmcaaW.PrintMore Go.Proofs.Ytfgfnflhdabmcaa.Bit Go.Proofs.Ytfgfnflhdabmcaa.Leb Go.Proofs.Ytfgfnflhdabmcaa.EhOf
theorem atC (l : List S69) (i : Nat) (h : i < l.length) : l.drop i = rd_T69 l (i : Int) :: l.drop (i + 1) := by
  have hrd : rd_T69 l (i : Int) = l[i] := by simp [rd_T69, List.getD, h]
  rw [hrd, List.drop_eq_getElem_cons h]
theorem atF (l : List S46) (i : Nat) (h : i < l.length) : l.drop i = rd_T46 l (i : Int) :: l.drop (i + 1) := by
  have hrd : rd_T46 l (i : Int) = l[i] := by simp [rd_T46, List.getD, h]
  rw [hrd, List.drop_eq_getElem_cons h]
def okC0 (x : S69) : Bool := decide (x.f1.length ≤ 3992)
def okF0 (y : S46) : Bool := decide (y.f3.length ≤ 3992)
def okC1 (x : S69) : Bool := (ofF x.f0).2.2.2
def okF1 (n : Nat) (y : S46) : Bool := decide (0 ≤ y.f0) && decide (y.f0 < n) && !farB y.f1 && decide (0 ≤ y.f2) && decide (y.f2 ≤ 1048576)
def okC2 (x : S69) : Bool := decide ((Cfa.rowsOf (Cfa.opl x.f1) (Cfa.opl []) 0).2 = 0)
def okF2 (c : List S69) (y : S46) : Bool := decide ((Cfa.rowsOf (Cfa.opl (rd_T69 c y.f0).f1) (Cfa.opl y.f3) y.f2).2 = 0)
def checkV (c : List S69) (f : List S46) : Int :=
  if 4000 < c.length ∨ 4000 < f.length then 6
  else if c.all okC0 = false then 6 else if f.all okF0 = false then 6
  else if c.all okC1 = false then 140 else if f.all (okF1 c.length) = false then 140
  else if c.all okC2 = false then 130 else if f.all (okF2 c) = false then 130 else 0
theorem w1 {i n : Nat} (h : i < n) (hn : n ≤ 4000) : wrap64 ((i : Int) + 1) = ((i + 1 : Nat) : Int) := by unfold wrap64; omega
section
variable (c : List S69) (f : List S46) (hc : c.length ≤ 4000) (hf : f.length ≤ 4000)
include hc hf
theorem chk5 (hF : ∀ y ∈ f, okF1 c.length y = true) (d : Nat) : ∀ (k i : Nat), i + d = f.length → ehframe_Check.l5 (k + d + 1) c f (f.length : Int) (i : Int) = some (if (f.drop i).all (okF2 c) = false then 130 else 0) := by
  induction d with
  | zero =>
    intro k i h
    rw [show k + 0 + 1 = k + 1 from rfl, ehframe_Check.l5, if_neg (by omega), List.drop_of_length_le (by omega)]
    rfl
  | succ d ih =>
    intro k i h
    have hi : i < f.length := by omega
    have hy := atF f i hi
    have hm : rd_T46 f (i : Int) ∈ f := List.mem_of_mem_drop (by rw [hy]; exact List.mem_cons_self)
    have hk := hF _ hm
    simp only [okF1, Bool.and_eq_true, decide_eq_true_eq] at hk
    rw [show k + (d + 1) + 1 = (k + d + 1) + 1 from rfl, ehframe_Check.l5, if_pos (by omega), if_pos (by omega), if_pos (by omega), if_pos hk.1.1.1.1, if_pos (by omega), hy, List.all_cons]
    simp only [cfa_Check.f, Option.bind_some]
    by_cases e : (Cfa.rowsOf (Cfa.opl (rd_T69 c (rd_T46 f (i : Int)).f0).f1) (Cfa.opl (rd_T46 f (i : Int)).f3) (rd_T46 f (i : Int)).f2).2 = 0
    · rw [if_pos e, w1 hi hf, ih k (i + 1) (by omega), show okF2 c (rd_T46 f (i : Int)) = true from decide_eq_true e, Bool.true_and]
    · rw [if_neg e, show okF2 c (rd_T46 f (i : Int)) = false from decide_eq_false e, Bool.false_and, if_pos rfl]
theorem chk4 (d : Nat) : ∀ (k i : Nat), i + d = c.length → ehframe_Check.l4 (k + d + 1) c f c (c.length : Int) (i : Int) = if (c.drop i).all okC2 = false then some 130 else ehframe_Check.l5 k c f (f.length : Int) 0 := by
  induction d with
  | zero =>
    intro k i h
    rw [show k + 0 + 1 = k + 1 from rfl, ehframe_Check.l4, if_neg (by omega), List.drop_of_length_le (by omega)]
    rfl
  | succ d ih =>
    intro k i h
    have hi : i < c.length := by omega
    have hy := atC c i hi
    rw [show k + (d + 1) + 1 = (k + d + 1) + 1 from rfl, ehframe_Check.l4, if_pos (by omega), if_pos (by omega), if_pos (by omega), hy, List.all_cons]
    simp only [cfa_Check.f, Option.bind_some]
    by_cases e : (Cfa.rowsOf (Cfa.opl (rd_T69 c (i : Int)).f1) (Cfa.opl []) 0).2 = 0
    · rw [if_pos e, w1 hi hc, ih k (i + 1) (by omega), show okC2 (rd_T69 c (i : Int)) = true from decide_eq_true e, Bool.true_and]
    · rw [if_neg e, show okC2 (rd_T69 c (i : Int)) = false from decide_eq_false e, Bool.false_and, if_pos rfl]
theorem chk3 (d : Nat) : ∀ (k i : Nat), i + d = f.length → ehframe_Check.l3 (k + 10 + d + 1) c f f (f.length : Int) (i : Int) = if (f.drop i).all (okF1 c.length) = false then some 140 else ehframe_Check.l4 (k + 10) c f c (c.length : Int) 0 := by
  induction d with
  | zero =>
    intro k i h
    rw [show k + 10 + 0 + 1 = (k + 10) + 1 from rfl, ehframe_Check.l3, if_neg (by omega), List.drop_of_length_le (by omega)]
    rfl
  | succ d ih =>
    intro k i h
    have hi : i < f.length := by omega
    have hy := atF f i hi
    rw [show k + 10 + (d + 1) + 1 = (k + 10 + d + 1) + 1 from rfl, ehframe_Check.l3, if_pos (by omega), if_pos (by omega), if_pos (by omega), hy, List.all_cons]
    generalize rd_T46 f (i : Int) = y
    by_cases e0 : y.f0 < 0
    · rw [if_pos e0, show okF1 c.length y = false from by simp [okF1]; intros; omega, Bool.false_and, if_pos rfl]
    rw [if_neg e0]
    by_cases e1 : y.f0 ≥ (c.length : Int)
    · rw [if_pos e1, show okF1 c.length y = false from by simp [okF1]; intros; omega, Bool.false_and, if_pos rfl]
    rw [if_neg e1, near1 y.f1 _ (by omega)]
    simp only [Option.bind_some]
    cases e2 : farB y.f1
    · rw [if_pos (by rfl)]
      by_cases e3 : y.f2 < 0
      · rw [if_pos e3, show okF1 c.length y = false from by simp [okF1]; intros; omega, Bool.false_and, if_pos rfl]
      rw [if_neg e3]
      by_cases e4 : y.f2 > 1048576
      · rw [if_pos e4, show okF1 c.length y = false from by simp [okF1]; intros; omega, Bool.false_and, if_pos rfl]
      rw [if_neg e4, w1 hi hf, ih k (i + 1) (by omega), show okF1 c.length y = true from by simp [okF1, e2]; omega, Bool.true_and]
    · rw [if_neg (by decide), show okF1 c.length y = false from by simp [okF1, e2], Bool.false_and, if_pos rfl]
theorem chk2 (d : Nat) : ∀ (k i : Nat), i + d = c.length → ehframe_Check.l2 (k + d + 1) c f c (c.length : Int) (i : Int) = if (c.drop i).all okC1 = false then some 140 else ehframe_Check.l3 k c f f (f.length : Int) 0 := by
  induction d with
  | zero =>
    intro k i h
    rw [show k + 0 + 1 = k + 1 from rfl, ehframe_Check.l2, if_neg (by omega), List.drop_of_length_le (by omega)]
    rfl
  | succ d ih =>
    intro k i h
    have hi : i < c.length := by omega
    have hy := atC c i hi
    rw [show k + (d + 1) + 1 = (k + d + 1) + 1 from rfl, ehframe_Check.l2, if_pos (by omega), if_pos (by omega), if_pos (by omega), hy, List.all_cons]
    simp only [ehframe_of.f, Option.bind_some]
    cases e : (ofF (rd_T69 c (i : Int)).f0).2.2.2
    · rw [if_neg (by decide), show okC1 (rd_T69 c (i : Int)) = false from e, Bool.false_and, if_pos rfl]
    · rw [if_pos rfl, w1 hi hc, ih k (i + 1) (by omega), show okC1 (rd_T69 c (i : Int)) = true from e, Bool.true_and]
theorem chk1 (d : Nat) : ∀ (k i : Nat), i + d = f.length → ehframe_Check.l1 (k + d + 1) c f f (f.length : Int) (i : Int) = if (f.drop i).all okF0 = false then some 6 else ehframe_Check.l2 k c f c (c.length : Int) 0 := by
  induction d with
  | zero =>
    intro k i h
    rw [show k + 0 + 1 = k + 1 from rfl, ehframe_Check.l1, if_neg (by omega), List.drop_of_length_le (by omega)]
    rfl
  | succ d ih =>
    intro k i h
    have hi : i < f.length := by omega
    have hy := atF f i hi
    rw [show k + (d + 1) + 1 = (k + d + 1) + 1 from rfl, ehframe_Check.l1, if_pos (by omega), if_pos (by omega), if_pos (by omega), hy, List.all_cons]
    by_cases e : ((rd_T46 f (i : Int)).f3.length : Int) > 3992
    · rw [if_pos e, show okF0 (rd_T46 f (i : Int)) = false from decide_eq_false (by omega), Bool.false_and, if_pos rfl]
    · rw [if_neg e, w1 hi hf, ih k (i + 1) (by omega), show okF0 (rd_T46 f (i : Int)) = true from decide_eq_true (by omega), Bool.true_and]
theorem chk0 (d : Nat) : ∀ (k i : Nat), i + d = c.length → ehframe_Check.l0 (k + d + 1) c f c (c.length : Int) (i : Int) = if (c.drop i).all okC0 = false then some 6 else ehframe_Check.l1 k c f f (f.length : Int) 0 := by
  induction d with
  | zero =>
    intro k i h
    rw [show k + 0 + 1 = k + 1 from rfl, ehframe_Check.l0, if_neg (by omega), List.drop_of_length_le (by omega)]
    rfl
  | succ d ih =>
    intro k i h
    have hi : i < c.length := by omega
    have hy := atC c i hi
    rw [show k + (d + 1) + 1 = (k + d + 1) + 1 from rfl, ehframe_Check.l0, if_pos (by omega), if_pos (by omega), if_pos (by omega), hy, List.all_cons]
    by_cases e : ((rd_T69 c (i : Int)).f1.length : Int) > 3992
    · rw [if_pos e, show okC0 (rd_T69 c (i : Int)) = false from decide_eq_false (by omega), Bool.false_and, if_pos rfl]
    · rw [if_neg e, w1 hi hc, ih k (i + 1) (by omega), show okC0 (rd_T69 c (i : Int)) = true from decide_eq_true (by omega), Bool.true_and]
end
theorem check_k (c : List S69) (f : List S46) (k : Nat) (hk : 3 * c.length + 3 * f.length + 40 ≤ k) : ehframe_Check.f k c f = some (checkV c f) := by
  obtain ⟨k, rfl⟩ : ∃ m, k = m + 1 := ⟨k - 1, by omega⟩
  have bad : ehframe_Check.j0 (k + 1) c f true = some 6 := by rw [ehframe_Check.j0, if_pos rfl]
  unfold ehframe_Check.f checkV
  by_cases hc : (c.length : Int) > 4000
  · rw [if_pos hc, if_pos (.inl (by omega)), bad]
  rw [if_neg hc]
  by_cases hf : (f.length : Int) > 4000
  · rw [decide_eq_true hf, if_pos (.inr (by omega)), bad]
  have hc' : c.length ≤ 4000 := by omega
  have hf' : f.length ≤ 4000 := by omega
  rw [decide_eq_false hf, if_neg (by omega), ehframe_Check.j0, if_neg (by decide)]
  obtain ⟨m, rfl⟩ : ∃ m, k = m + 10 + c.length + 1 + f.length + 1 + c.length + 1 + f.length + 1 + c.length + 1 + f.length + 1 := ⟨k - (10 + 3 * c.length + 3 * f.length + 6), by omega⟩
  rw [show m + 10 + c.length + 1 + f.length + 1 + c.length + 1 + f.length + 1 + c.length + 1 + f.length + 1 = (m + f.length + 1 + c.length + 1 + 10 + f.length + 1 + c.length + 1 + f.length + 1) + c.length + 1 from by omega]
  have h0 := chk0 c f hc' hf' c.length (m + f.length + 1 + c.length + 1 + 10 + f.length + 1 + c.length + 1 + f.length + 1) 0 (by omega)
  have h1 := chk1 c f hc' hf' f.length (m + f.length + 1 + c.length + 1 + 10 + f.length + 1 + c.length + 1) 0 (by omega)
  have h2 := chk2 c f hc' hf' c.length (m + f.length + 1 + c.length + 1 + 10 + f.length + 1) 0 (by omega)
  have h3 := chk3 c f hc' hf' f.length (m + f.length + 1 + c.length + 1) 0 (by omega)
  have h4 := chk4 c f hc' hf' c.length (m + f.length + 1 + 10) 0 (by omega)
  rw [List.drop_zero] at h0 h1 h2 h3 h4
  rw [show ((0 : Nat) : Int) = 0 from rfl] at h0 h1 h2 h3 h4
  rw [h0]
  split
  · rfl
  rw [h1]
  split
  · rfl
  rw [h2]
  split
  · rfl
  rw [h3]
  split
  · rfl
  rename_i hF
  rw [show m + f.length + 1 + c.length + 1 + 10 = (m + f.length + 1 + 10) + c.length + 1 from by omega, h4]
  split
  · rfl
  have h5 := chk5 c f hc' hf' (by rw [Bool.not_eq_false] at hF; exact List.all_eq_true.1 hF) f.length (m + 10) 0 (by omega)
  rw [List.drop_zero, show ((0 : Nat) : Int) = 0 from rfl] at h5
  rw [show m + f.length + 1 + 10 = (m + 10) + f.length + 1 from by omega, h5]
/-- what a good table is -/
theorem check_good {c : List S69} {f : List S46} (h : checkV c f = 0) : c.length ≤ 4000 ∧ f.length ≤ 4000 ∧ (∀ x ∈ c, okC0 x = true) ∧ (∀ y ∈ f, okF0 y = true) ∧ (∀ x ∈ c, okC1 x = true) ∧ (∀ y ∈ f, okF1 c.length y = true) ∧ (∀ x ∈ c, okC2 x = true) ∧ (∀ y ∈ f, okF2 c y = true) := by
  unfold checkV at h
  split at h
  · cases h
  split at h
  · cases h
  split at h
  · cases h
  split at h
  · cases h
  split at h
  · cases h
  split at h
  · cases h
  split at h
  · cases h
  rename_i h0 h1 h2 h3 h4 h5 h6
  rw [Bool.not_eq_false] at h1 h2 h3 h4 h5 h6
  exact ⟨by omega, by omega, List.all_eq_true.1 h1, List.all_eq_true.1 h2, List.all_eq_true.1 h3, List.all_eq_true.1 h4, List.all_eq_true.1 h5, List.all_eq_true.1 h6⟩
end Go.Proofs.Ytfgfnflhdabmcaa.Eh
end
section
namespace Go.Proofs.Ytfgfnflhdabmcaa.CfaB
set_option linter.unusedVariables false
set_option linter.unusedSimpArgs false
open Go.RowKit Go.Proofs.Ytfgfnflhdabmcaa.G Go.Proofs.YtfgfnflhdabmcaaW.PrintWords Go.Proofs.YtfgfnflhdabmcaaW.PrintLast Go.Proofs.YtfgfnflhdabmcaaW.PrintMore Go.Proofs.Ytfgfnflhdabmcaa.Bit Go.Proofs.Ytfgfnflhdabmcaa.Leb Go.Proofs.Ytfgfnflhdabmcaa.Cfa
theorem uL_le (d : Nat) : ∀ u : Nat, u < 128 ^ (d + 1) → (ulebL u).length ≤ d + 1 := by
  induction d with
  | zero =>
    intro u h
    rw [ulebL_small (by simp at h; omega)]
    simp
  | succ d ih =>
    intro u h
    by_cases c : 127 < u
    · rw [ulebL_big c]
      have := ih (u / 128) (by rw [Nat.pow_succ] at h; omega)
      simp
      omega
    · rw [ulebL_small c]
      simp
theorem sL_le (d : Nat) : ∀ n : Int, -(64 * 128 ^ d : Int) ≤ n → n < 64 * 128 ^ d → (slebL n).length ≤ d + 1 := by
  induction d with
  | zero =>
    intro n h0 h1
    rw [slebL_small (by simp at h0 h1; omega)]
    simp
  | succ d ih =>
    intro n h0 h1
    by_cases c : n < -64 ∨ 63 < n
    · rw [slebL_big c]
      rw [Int.pow_succ] at h0 h1
      have := ih (n / 128) (by omega) (by omega)
      simp
      omega
    · rw [slebL_small c]
      simp
def U (a : Int) : List Int := ulebL (a % 18446744073709551616).toNat
theorem U_le (a : Int) : (U a).length ≤ 10 := uL_le 9 _ (by
  have : (128 : Nat) ^ (9 + 1) = 1180591620717411303424 := by decide
  omega)
theorem S_le {a : Int} (h0 : -9223372036854775808 ≤ a) (h1 : a ≤ 9223372036854775807) : (slebL a).length ≤ 10 := sL_le 9 a (by
  have : (128 : Int) ^ 9 = 9223372036854775808 := by decide
  omega) (by
  have : (128 : Int) ^ 9 = 9223372036854775808 := by decide
  omega)
theorem U_f (a : Int) (k : Nat) (hk : 10 ≤ k) : leb_Uleb.f k a = some (U a) := uleb_f a k hk
/-- how far: an advance's bytes -/
def advB (n : Int) : List Int := if n < 64 then [(64 + n) % 256] else if n < 256 then [2, n % 256] else if n < 65536 then [3, n % 256, (n / 256) % 256] else [4, n % 256, (n / 256) % 256, (n / 65536) % 256, (n / 16777216) % 256]
/-- an op's bytes -/
def opB (k r n : Int) : List Int :=
  if k = 1 then advB n
  else if k = 2 then [12] ++ U r ++ U n
  else if k = 4 then [13] ++ U r
  else if k = 3 then [14] ++ U n
  else if k = 5 then (if n ≤ 0 then [(128 + r) % 256] ++ U (-(n / 8)) else [17] ++ U r ++ slebL (-(n / 8)))
  else if k = 6 then [(192 + r) % 256]
  else if k = 7 then [7] ++ U r
  else if k = 8 then [8] ++ U r
  else if k = 9 then [10]
  else if k = 10 then [11]
  else [0]
/-- what an Offset may be -/
theorem may5 {r n : Int} (h : mayF 5 r n = true) : ∃ m : Int, n = 8 * m ∧ 0 ≤ r ∧ r ≤ 16 ∧ -268435456 ≤ m ∧ m ≤ 268435455 := by
  have h' : (decide (n.tmod 8 = 0) && (decide (0 ≤ r) && (decide (r ≤ 16) && (decide (-2147483648 ≤ n) && decide (n ≤ 2147483640))))) = true := h
  simp only [Bool.and_eq_true, decide_eq_true_eq] at h'
  obtain ⟨h0, h1, h2, h3, h4⟩ := h'
  obtain ⟨m, rfl⟩ := Int.dvd_of_tmod_eq_zero h0
  exact ⟨m, rfl, h1, h2, by omega, by omega⟩
theorem advB_le (n : Int) : (advB n).length ≤ 30 := by
  unfold advB
  by_cases d1 : n < 64
  · rw [if_pos d1]; simp
  · rw [if_neg d1]
    by_cases d2 : n < 256
    · rw [if_pos d2]; simp
    · rw [if_neg d2]
      by_cases d3 : n < 65536
      · rw [if_pos d3]; simp
      · rw [if_neg d3]; simp
theorem opB_le {k r n : Int} (h : mayF k r n = true) : (opB k r n).length ≤ 30 := by
  have hr := U_le r
  have hn := U_le n
  unfold opB
  by_cases c1 : k = 1
  · rw [if_pos c1]; exact advB_le n
  rw [if_neg c1]
  by_cases c2 : k = 2
  · rw [if_pos c2]; simp; omega
  rw [if_neg c2]
  by_cases c4 : k = 4
  · rw [if_pos c4]; simp; omega
  rw [if_neg c4]
  by_cases c3 : k = 3
  · rw [if_pos c3]; simp; omega
  rw [if_neg c3]
  by_cases c5 : k = 5
  · rw [if_pos c5]
    subst c5
    obtain ⟨m, rfl, h1, h2, h3, h4⟩ := may5 h
    have e : 8 * m / 8 = m := Int.mul_ediv_cancel_left m (by decide)
    rw [e]
    have hm := U_le (-m)
    have hs := S_le (a := -m) (by omega) (by omega)
    by_cases d : 8 * m ≤ 0
    · rw [if_pos d]; simp; omega
    · rw [if_neg d]; simp; omega
  rw [if_neg c5]
  by_cases c6 : k = 6
  · rw [if_pos c6]; simp
  rw [if_neg c6]
  by_cases c7 : k = 7
  · rw [if_pos c7]; simp; omega
  rw [if_neg c7]
  by_cases c8 : k = 8
  · rw [if_pos c8]; simp; omega
  rw [if_neg c8]
  by_cases c9 : k = 9
  · rw [if_pos c9]; simp
  rw [if_neg c9]
  by_cases c10 : k = 10
  · rw [if_pos c10]; simp
  rw [if_neg c10]
  simp
theorem put1 (k : Nat) (hk : 2 ≤ k) (a x : List Int) (ha : a.length ≤ 1000) (hx : x.length ≤ 1000) : cfa_put.f k a [x] = some (a ++ x) := by
  obtain ⟨k, rfl⟩ : ∃ m, k = m + 1 + 1 := ⟨k - 2, by omega⟩
  show cfa_put.l0 (k + 1 + 1) a [x] 1 0 = _
  have e0 : rd_L12 [x] 0 = x := rfl
  rw [cfa_put.l0, if_pos (by omega), if_pos (by omega), if_pos (by simp), e0, if_pos (by omega), show wrap64 (0 + 1) = 1 from by unfold wrap64; omega, cfa_put.l0, if_neg (by omega)]
theorem put2 (k : Nat) (hk : 3 ≤ k) (a x y : List Int) (ha : a.length ≤ 1000) (hx : x.length ≤ 1000) (hy : y.length ≤ 1000) : cfa_put.f k a [x, y] = some (a ++ x ++ y) := by
  obtain ⟨k, rfl⟩ : ∃ m, k = m + 1 + 1 + 1 := ⟨k - 3, by omega⟩
  show cfa_put.l0 (k + 1 + 1 + 1) a [x, y] 2 0 = _
  have e0 : rd_L12 [x, y] 0 = x := rfl
  have e1 : rd_L12 [x, y] 1 = y := rfl
  rw [cfa_put.l0, if_pos (by omega), if_pos (by omega), if_pos (by simp), e0, if_pos (by omega), show wrap64 (0 + 1) = 1 from by unfold wrap64; omega, cfa_put.l0, if_pos (by omega), if_pos (by omega), if_pos (by simp), e1, if_pos (by rw [List.length_append]; omega), show wrap64 (1 + 1) = 2 from by unfold wrap64; omega, cfa_put.l0, if_neg (by omega)]
theorem bytes_f {k r n : Int} (h : mayF k r n = true) (kk : Nat) (hk : 12 ≤ kk) : cfa_Op_bytes.f kk k r n = some (opB k r n) := by
  have hr := U_le r
  have hn := U_le n
  unfold cfa_Op_bytes.f opB
  by_cases c1 : k = 1
  · rw [if_pos c1, if_pos c1]
    unfold advB
    by_cases d1 : n < 64
    · rw [if_pos d1, if_pos d1]
    · rw [if_neg d1, if_neg d1]
      by_cases d2 : n < 256
      · rw [if_pos d2, if_pos d2]
      · rw [if_neg d2, if_neg d2]
        by_cases d3 : n < 65536
        · rw [if_pos d3, if_pos d3]
        · rw [if_neg d3, if_neg d3]
  rw [if_neg c1, if_neg c1]
  by_cases c2 : k = 2
  · rw [if_pos c2, if_pos c2, U_f r kk (by omega), Option.bind_some, U_f n kk (by omega), Option.bind_some, put2 kk (by omega) _ _ _ (by simp) (by omega) (by omega), Option.bind_some]
  rw [if_neg c2, if_neg c2]
  by_cases c4 : k = 4
  · rw [if_pos c4, if_pos c4, U_f r kk (by omega), Option.bind_some, put1 kk (by omega) _ _ (by simp) (by omega), Option.bind_some]
  rw [if_neg c4, if_neg c4]
  by_cases c3 : k = 3
  · rw [if_pos c3, if_pos c3, U_f n kk (by omega), Option.bind_some, put1 kk (by omega) _ _ (by simp) (by omega), Option.bind_some]
  rw [if_neg c3, if_neg c3]
  by_cases c5 : k = 5
  · rw [if_pos c5, if_pos c5]
    subst c5
    obtain ⟨m, rfl, h1, h2, h3, h4⟩ := may5 h
    have e : 8 * m / 8 = m := Int.mul_ediv_cancel_left m (by decide)
    have e2 : wrap64 (Int.tdiv (wrap64 (-(8 * m))) 8) = -m := by
      rw [wrap64_id (n := -(8 * m)) (by omega) (by omega), show -(8 * m) = 8 * (-m) from by omega, Int.mul_tdiv_cancel_left (-m) (show (8 : Int) ≠ 0 by decide), wrap64_id (by omega) (by omega)]
    rw [e, e2]
    have hm := U_le (-m)
    have hs := S_le (a := -m) (by omega) (by omega)
    by_cases d : 8 * m ≤ 0
    · rw [if_pos d, if_pos d, U_f _ kk (by omega), Option.bind_some, put1 kk (by omega) _ _ (by simp) (by omega), Option.bind_some]
    · rw [if_neg d, if_neg d, U_f _ kk (by omega), Option.bind_some, sleb_f _ (by omega) (by omega) kk (by omega), Option.bind_some, put2 kk (by omega) _ _ _ (by simp) (by omega) (by omega), Option.bind_some]
  rw [if_neg c5, if_neg c5]
  by_cases c6 : k = 6
  · rw [if_pos c6, if_pos c6]
  rw [if_neg c6, if_neg c6]
  by_cases c7 : k = 7
  · rw [if_pos c7, if_pos c7, U_f r kk (by omega), Option.bind_some, put1 kk (by omega) _ _ (by simp) (by omega), Option.bind_some]
  rw [if_neg c7, if_neg c7]
  by_cases c8 : k = 8
  · rw [if_pos c8, if_pos c8, U_f r kk (by omega), Option.bind_some, put1 kk (by omega) _ _ (by simp) (by omega), Option.bind_some]
  rw [if_neg c8, if_neg c8]
  by_cases c9 : k = 9
  · rw [if_pos c9, if_pos c9]
  rw [if_neg c9, if_neg c9]
  by_cases c10 : k = 10
  · rw [if_pos c10, if_pos c10]
  rw [if_neg c10, if_neg c10]
/-- what Write writes -/
def outB : List (Int × Int × Int) → List Int → List Int × Int
  | [], acc => (acc, 0)
  | (k, r, n) :: t, acc => if mayF k r n = true then outB t (acc ++ opB k r n) else ([], 130)
theorem opl_at (l : List S105) (i : Nat) (h : i < l.length) : opl (l.drop i) = ((rd_T105 l (i : Int)).f0, (rd_T105 l (i : Int)).f1, (rd_T105 l (i : Int)).f2) :: opl (l.drop (i + 1)) := by
  have hrd : rd_T105 l (i : Int) = l[i] := by simp [rd_T105, List.getD, h]
  rw [hrd, List.drop_eq_getElem_cons h]
  rfl
theorem write_l0 (l : List S105) (hl : l.length ≤ 4000) (d : Nat) : ∀ (kk i : Nat) (acc : List Int), i + d = l.length → d + 20 ≤ kk → acc.length ≤ 30 * i → cfa_Write.l0 kk acc l (l.length : Int) (i : Int) = some (outB (opl (l.drop i)) acc) := by
  induction d with
  | zero =>
    intro kk i acc h hk ha
    obtain ⟨kk, rfl⟩ : ∃ m, kk = m + 1 := ⟨kk - 1, by omega⟩
    rw [cfa_Write.l0, if_neg (by omega), List.drop_of_length_le (by omega)]
    rfl
  | succ d ih =>
    intro kk i acc h hk ha
    obtain ⟨kk, rfl⟩ : ∃ m, kk = m + 1 := ⟨kk - 1, by omega⟩
    rw [cfa_Write.l0, if_pos (by omega), if_pos (by omega), if_pos (by omega), opl_at l i (by omega)]
    generalize rd_T105 l (i : Int) = x
    unfold cfa_Op_may.f outB
    rw [Option.bind_some]
    by_cases c : mayF x.f0 x.f1 x.f2 = true
    · have hle := opB_le c
      rw [if_pos c, if_pos c, bytes_f c kk (by omega), Option.bind_some, if_pos (by omega), wrap64_id (by omega) (by omega), show (i : Int) + 1 = ((i + 1 : Nat) : Int) from by omega, ih kk (i + 1) _ (by omega) (by omega) (by rw [List.length_append]; omega)]
    · rw [if_neg c, if_neg c]
/-- what Write answers -/
def writeV (l : List (Int × Int × Int)) : List Int × Int := if l.length > 4000 then ([], 6) else outB l []
theorem write_f (l : List S105) (kk : Nat) (hk : l.length + 20 ≤ kk) : cfa_Write.f kk l = some (writeV (opl l)) := by
  unfold cfa_Write.f writeV
  rw [opl_length]
  by_cases c : l.length > 4000
  · rw [if_pos c, if_pos (by omega)]
  · rw [if_neg c, if_neg (by omega)]
    exact write_l0 l (by omega) l.length kk 0 [] (by omega) (by omega) (by simp)
end Go.Proofs.Ytfgfnflhdabmcaa.CfaB
end
section
namespace Go.Proofs.Ytfgfnflhdabmcaa.Eh
set_option linter.unusedVariables false
set_option linter.unusedSimpArgs false
open Go.RowKit Go.Proofs.Ytfgfnflhdabmcaa.G Go.Proofs.YtfgfnflhdabmcaaW.PrintWords Go.Proofs.YtfgfnflhdabmcaaW.PrintLast Go.Proofs.YtfgfnflhdabmcaaW.PrintMore Go.Proofs.Ytfgfnflhdabmcaa.Bit Go.Proofs.Ytfgfnflhdabmcaa.Leb Go.Proofs.Ytfgfnflhdabmcaa.EhOf
/-- ops as bytes -/
def wB (l : List S105) : List Int := (CfaB.writeV (Cfa.opl l)).1
theorem outB_le (l : List (Int × Int × Int)) : ∀ acc, (CfaB.outB l acc).1.length ≤ acc.length + 30 * l.length := by
  induction l with
  | nil => intro acc; simp [CfaB.outB]
  | cons o l ih =>
    intro acc
    obtain ⟨ok, or_, on⟩ := o
    simp only [CfaB.outB, List.length_cons]
    split
    · rename_i h
      have := ih (acc ++ CfaB.opB ok or_ on)
      have h2 := CfaB.opB_le h
      simp only [List.length_append] at this
      omega
    · simp
theorem wB_le {l : List S105} (h : l.length ≤ 4000) : (wB l).length ≤ 120000 := by
  unfold wB CfaB.writeV
  split
  · simp
  · have := outB_le (Cfa.opl l) []
    rw [Cfa.opl_length] at this
    simp only [List.length_nil, Nat.zero_add] at this
    omega
theorem write_at (l : List S105) (h : l.length ≤ 4000) (k : Nat) (hk : 5000 ≤ k) : ∃ e, cfa_Write.f k l = some (wB l, e) := ⟨(CfaB.writeV (Cfa.opl l)).2, CfaB.write_f l k (by omega)⟩
/-- the low four bytes -/
def low4 (n : Int) : List Int := leB (n % 18446744073709551616) 4
theorem low4_length (n : Int) : (low4 n).length = 4 := leB_length 4 _
theorem low_k (n : Int) (k : Nat) (hk : 9 ≤ k) : ehframe_low.f k n = some (low4 n) := by
  unfold ehframe_low.f low4
  rw [put_f n 8 k hk, show putV n 8 = (leB (n % 18446744073709551616) 8, 0) from by simp [putV, sizedB]]
  simp only [Option.bind_some]
  rw [if_pos (by rw [leB_length]; omega), show ((4 : Int).toNat) = 4 from rfl, leB_take 4 8 _ (by omega)]
/-- how many bytes 0 a record lacks -/
def lack (n : Nat) : Nat := (12 - n % 8) % 8
def recB (b : List Int) : List Int := low4 ((b.length + lack b.length : Nat) : Int) ++ (b ++ List.replicate (lack b.length) 0)
theorem recB_length (b : List Int) : (recB b).length ≤ b.length + 11 := by
  unfold recB
  rw [List.length_append, low4_length, List.length_append, List.length_replicate]
  unfold lack
  omega
theorem record_l0 (d : Nat) : ∀ (k : Nat) (b : List Int), lack b.length = d → b.length ≤ 1000000 - d → d ≤ 8 → 20 ≤ k → ehframe_record.l0 (k + d + 1) b = some (low4 ((b.length + d : Nat) : Int) ++ (b ++ List.replicate d 0)) := by
  induction d with
  | zero =>
    intro k b h hb _ hk
    rw [show k + 0 + 1 = k + 1 from rfl, ehframe_record.l0, if_pos (by unfold lack at h; omega), low_k _ k (by omega)]
    simp only [Option.bind_some]
    rw [if_pos (by rw [low4_length]; omega)]
    simp
  | succ d ih =>
    intro k b h hb hd hk
    rw [show k + (d + 1) + 1 = (k + d + 1) + 1 from rfl, ehframe_record.l0, if_neg (by unfold lack at h; omega), if_pos (by omega)]
    have e := ih k (b ++ [0]) (by simp only [List.length_append, List.length_singleton]; unfold lack at h ⊢; omega) (by simp; omega) (by omega) hk
    rw [e]
    simp only [List.length_append, List.length_singleton, List.append_assoc, List.singleton_append]
    rw [show b.length + 1 + d = b.length + (d + 1) from by omega, List.replicate_succ]
theorem record_k (b : List Int) (hb : b.length ≤ 900000) (k : Nat) (hk : 40 ≤ k) : ehframe_record.f k b = some (recB b) := by
  unfold ehframe_record.f recB
  have hl : lack b.length < 8 := by unfold lack; omega
  obtain ⟨m, rfl⟩ : ∃ m, k = m + lack b.length + 1 := ⟨k - lack b.length - 1, by omega⟩
  exact record_l0 (lack b.length) m b rfl (by omega) (by omega) (by omega)
/-- a pointer's bytes, in any encoding -/
def pV (a0 v at_ : Int) : List Int × Int := if (ofF a0).2.2.2 = true then putS (ofF a0).1 (ofF a0).2.1 (ofF a0).2.2.1 v at_ 0 else ([], 140)
theorem ofF_size {a0 : Int} (h : (ofF a0).2.2.2 = true) : ofF a0 = ((ofF a0).1, (ofF a0).2.1, (ofF a0).2.2.1, true) ∧ ((ofF a0).1 = 0 ∨ (ofF a0).1 = 2 ∨ (ofF a0).1 = 4 ∨ (ofF a0).1 = 8) := by
  have h1 := enc_good a0 ⟨(ofF a0).1, (ofF a0).2.2.1, (ofF a0).2.1, by rw [← h]⟩
  exact ⟨(enc_size a0 h1).1, (enc_size a0 h1).2.1⟩
theorem put_k (a0 v at_ : Int) (hv : -9223372036854775808 ≤ v ∧ v ≤ 9223372036854775807) (k : Nat) (hk : 20 ≤ k) : ehframe_Put.f k a0 v at_ 0 = some (pV a0 v at_) := by
  unfold pV
  by_cases h : (ofF a0).2.2.2 = true
  · rw [if_pos h]
    exact prog_put (ofF_size h).1 (ofF_size h).2 v at_ 0 hv k hk
  · rw [if_neg h]
    rw [Bool.not_eq_true] at h
    unfold ehframe_Put.f
    rw [show ehframe_of.f a0 = some ((ofF a0).1, (ofF a0).2.1, (ofF a0).2.2.1, false) from congrArg some (by rw [← h])]
    rfl
theorem tailS_le (s : Int) (g : Bool) (x : Int) (hs : s = 0 ∨ s = 2 ∨ s = 4 ∨ s = 8) : (tailS s g x).1.length ≤ 10 := by
  unfold tailS
  split
  · simp
  rename_i hx
  have hf : farB x = false := by rw [← Bool.not_eq_true]; intro h; exact hx (.inl h)
  have hr := far_no hf
  split
  · split
    · exact CfaB.S_le (by omega) (by omega)
    · exact CfaB.U_le x
  · split
    · show (leB _ _).length ≤ 10
      rw [leB_length]; omega
    · simp
theorem pV_le (a0 v at_ : Int) : (pV a0 v at_).1.length ≤ 10 := by
  unfold pV
  split
  · rename_i h
    unfold putS
    split
    · simp
    · exact tailS_le _ _ _ (ofF_size h).2
  · simp
def e15 (a : Int) : Int := Go.bits .and .i64 a 15
def headB (enc : Int) : List Int := [0, 0, 0, 0, 1, 122, 82, 0, 1, 120, 16, 1, enc % 256]
/-- a function's entry -/
def fdeB (n : Nat) (first : Int) (p q : List Int) (ops : List S105) : List Int := recB (low4 (wrap64 (wrap64 ((n : Int) + 4) - first)) ++ p ++ q ++ [0] ++ wB ops)
def inV (ci first enc a2 : Int) : List S46 → Nat → List Int → List Int → Option (List Int × List Int)
  | [], _, b, at_ => some (b, at_)
  | y :: l, i, b, at_ =>
    if y.f0 = ci then
      if (pV enc y.f1 (wrap64 (wrap64 (a2 + (b.length : Int)) + 8))).2 = 0 then
        if (pV (e15 enc) y.f2 0).2 = 0 then inV ci first enc a2 l (i + 1) (b ++ fdeB b.length first (pV enc y.f1 (wrap64 (wrap64 (a2 + (b.length : Int)) + 8))).1 (pV (e15 enc) y.f2 0).1 y.f3) (at_.set i (b.length : Int))
        else none
      else none
    else inV ci first enc a2 l (i + 1) b at_
def outV (fs : List S46) (a2 : Int) : List S69 → Nat → List Int → List Int → Option (List Int × List Int)
  | [], _, b, at_ => some (b, at_)
  | x :: l, ci, b, at_ => (inV (ci : Int) (b.length : Int) x.f0 a2 fs 0 (b ++ recB (headB x.f0 ++ wB x.f1)) at_).bind fun r => outV fs a2 l (ci + 1) r.1 r.2
theorem fde_le (n : Nat) (first : Int) (p q : List Int) (ops : List S105) (hp : p.length ≤ 10) (hq : q.length ≤ 10) (ho : ops.length ≤ 4000) : (fdeB n first p q ops).length ≤ 130000 := by
  have h1 := recB_length (low4 (wrap64 (wrap64 ((n : Int) + 4) - first)) ++ p ++ q ++ [0] ++ wB ops)
  have h2 := wB_le ho
  simp only [List.length_append, low4_length, List.length_singleton] at h1
  unfold fdeB
  omega
/-- an entry's fields are in range -/
structure OkF (y : S46) : Prop where
  ops : y.f3.length ≤ 4000
  b : -9223372036854775808 ≤ y.f1 ∧ y.f1 ≤ 9223372036854775807
  s : -9223372036854775808 ≤ y.f2 ∧ y.f2 ≤ 9223372036854775807
set_option maxRecDepth 100000 in
theorem in_l1 (fs : List S46) (hn : fs.length ≤ 4000) (hok : ∀ y ∈ fs, OkF y) (a2 : Int) (e : Bool) (ci first : Int) (c : List S69) (cn cj enc : Int) (ops : List S105) (d : Nat) :
    ∀ (k i : Nat) (b at_ : List Int), i + d = fs.length → at_.length = fs.length → b.length + 130000 * d ≤ 100000000000000 → 5000 ≤ k →
      ehframe_Write.l1 (k + d + 1) fs a2 e b at_ ci first c cn cj fs (fs.length : Int) (i : Int) enc ops = match inV ci first enc a2 (fs.drop i) i b at_ with
        | none => some ([], [], 11)
        | some r => ehframe_Write.l0 k fs a2 e r.1 r.2 c cn (wrap64 (cj + 1)) := by
  induction d with
  | zero =>
    intro k i b at_ h _ _ hk
    rw [show k + 0 + 1 = k + 1 from rfl, ehframe_Write.l1, if_neg (by omega), List.drop_of_length_le (by omega)]
    rfl
  | succ d ih =>
    intro k i b at_ h ha hb hk
    have hi : i < fs.length := by omega
    have hy := atF fs i hi
    have hm : rd_T46 fs (i : Int) ∈ fs := List.mem_of_mem_drop (by rw [hy]; exact List.mem_cons_self)
    obtain ⟨o1, o2, o3⟩ := hok _ hm
    rw [show k + (d + 1) + 1 = (k + d + 1) + 1 from rfl, ehframe_Write.l1, if_pos (by omega), if_pos (by omega), if_pos (by omega), hy]
    generalize rd_T46 fs (i : Int) = y at o1 o2 o3
    simp only [inV]
    by_cases hci : y.f0 = ci
    · rw [if_pos hci, if_pos hci, if_pos (by omega), low_k _ _ (by omega)]
      simp only [Option.bind_some]
      rw [put_k enc y.f1 _ o2 _ (by omega)]
      simp only [Option.bind_some]
      have hp := pV_le enc y.f1 (wrap64 (wrap64 (a2 + (b.length : Int)) + 8))
      generalize pV enc y.f1 (wrap64 (wrap64 (a2 + (b.length : Int)) + 8)) = p at hp
      by_cases hp0 : p.2 = 0
      · rw [if_pos hp0, if_pos hp0, put_k _ y.f2 0 o3 _ (by omega)]
        simp only [Option.bind_some]
        rw [show Go.bits .and .i64 enc 15 = e15 enc from rfl]
        have hq := pV_le (e15 enc) y.f2 0
        generalize pV (e15 enc) y.f2 0 = q at hq
        by_cases hq0 : q.2 = 0
        · obtain ⟨er, hw⟩ := write_at y.f3 o1 (k + d + 1) (by omega)
          have hwl := wB_le o1
          rw [if_pos hq0, if_pos hq0, hw]
          simp only [Option.bind_some]
          rw [if_pos (by rw [low4_length]; omega)]
          simp only [List.length_append, low4_length]
          rw [if_pos (by omega), if_pos (by omega)]
          simp only [List.length_append, low4_length, List.length_singleton]
          rw [if_pos (by omega), record_k _ (by simp only [List.length_append, low4_length, List.length_singleton]; omega) _ (by omega)]
          simp only [Option.bind_some]
          have hfl := fde_le b.length first p.1 q.1 y.f3 hp hq o1
          rw [show recB (low4 (wrap64 (wrap64 ((b.length : Int) + 4) - first)) ++ p.1 ++ q.1 ++ [0] ++ wB y.f3) = fdeB b.length first p.1 q.1 y.f3 from rfl, if_pos (by omega), w1 hi hn, Int.toNat_natCast]
          exact ih k (i + 1) _ _ (by omega) (by rw [List.length_set]; exact ha) (by rw [List.length_append]; omega) hk
        · rw [if_neg hq0, if_neg hq0]
      · rw [if_neg hp0, if_neg hp0]
    · rw [if_neg hci, if_neg hci, w1 hi hn]
      exact ih k (i + 1) b at_ (by omega) ha (by omega) hk
theorem in_len (ci first enc a2 : Int) (l : List S46) (hok : ∀ y ∈ l, OkF y) : ∀ (i : Nat) (b at_ : List Int) (r : List Int × List Int), inV ci first enc a2 l i b at_ = some r → r.1.length ≤ b.length + 130000 * l.length ∧ r.2.length = at_.length := by
  induction l with
  | nil => intro i b at_ r h; simp only [inV, Option.some.injEq] at h; subst h; simp
  | cons y l ih =>
    intro i b at_ r h
    have ih' := ih (fun y hy => hok y (List.mem_cons_of_mem _ hy))
    simp only [inV] at h
    split at h
    · split at h
      · split at h
        · have := ih' _ _ _ _ h
          have h2 := fde_le b.length first (pV enc y.f1 (wrap64 (wrap64 (a2 + (b.length : Int)) + 8))).1 (pV (e15 enc) y.f2 0).1 y.f3 (pV_le _ _ _) (pV_le _ _ _) (hok y List.mem_cons_self).ops
          rw [List.length_append, List.length_set] at this
          simp only [List.length_cons]
          omega
        · cases h
      · cases h
    · have := ih' _ _ _ _ h
      simp only [List.length_cons]
      omega
/-- what comes behind all tables -/
def lastV (e : Bool) (b at_ : List Int) : List Int × List Int × Int :=
  if (((if e = true then b ++ [0, 0, 0, 0] else b).length : Nat) : Int) > 1048576 then ([], [], 6) else (if e = true then b ++ [0, 0, 0, 0] else b, at_, 0)
set_option maxRecDepth 100000 in
theorem out_l0 (fs : List S46) (hn : fs.length ≤ 4000) (hok : ∀ y ∈ fs, OkF y) (a2 : Int) (e : Bool) (c : List S69) (hc : c.length ≤ 4000) (hco : ∀ x ∈ c, x.f1.length ≤ 4000) (d : Nat) :
    ∀ (k ci : Nat) (b at_ : List Int), ci + d = c.length → at_.length = fs.length → b.length + 1000000000 * d ≤ 99000000000000 → 5000 ≤ k →
      ehframe_Write.l0 (k + d * (fs.length + 2) + 1) fs a2 e b at_ c (c.length : Int) (ci : Int) = some (match outV fs a2 (c.drop ci) ci b at_ with
        | none => ([], [], 11)
        | some r => lastV e r.1 r.2) := by
  induction d with
  | zero =>
    intro k ci b at_ h _ hb hk
    rw [Nat.zero_mul, show k + 0 + 1 = k + 1 from rfl, ehframe_Write.l0, if_neg (by omega), List.drop_of_length_le (by omega)]
    simp only [outV, lastV]
    cases e
    · simp only [Bool.false_eq_true, if_false]
      split <;> rfl
    · simp only [if_true, Option.bind_some]
      rw [if_pos (by simp; omega)]
      split <;> rfl
  | succ d ih =>
    intro k ci b at_ h ha hb hk
    have hi : ci < c.length := by omega
    have hy := atC c ci hi
    have hm : rd_T69 c (ci : Int) ∈ c := List.mem_of_mem_drop (by rw [hy]; exact List.mem_cons_self)
    have ho := hco _ hm
    rw [show k + (d + 1) * (fs.length + 2) + 1 = ((k + d * (fs.length + 2) + 1) + fs.length + 1) + 1 from by rw [Nat.succ_mul]; omega, ehframe_Write.l0, if_pos (by omega), if_pos (by omega), if_pos (by omega), hy]
    generalize rd_T69 c (ci : Int) = x at ho
    obtain ⟨er, hw⟩ := write_at x.f1 ho ((k + d * (fs.length + 2) + 1) + fs.length + 1) (by omega)
    have hwl := wB_le ho
    have hrl := recB_length (headB x.f0 ++ wB x.f1)
    simp only [List.length_append, show (headB x.f0).length = 13 from rfl] at hrl
    rw [hw]
    simp only [Option.bind_some, show ehframe_head.f x.f0 = some (headB x.f0) from rfl, show (headB x.f0).length = 13 from rfl]
    rw [if_pos (by omega), record_k _ (by simp only [List.length_append, show (headB x.f0).length = 13 from rfl]; omega) _ (by omega)]
    simp only [Option.bind_some]
    rw [if_pos (by omega)]
    have h1 := in_l1 fs hn hok a2 e (ci : Int) (b.length : Int) c (c.length : Int) (ci : Int) x.f0 x.f1 fs.length (k + d * (fs.length + 2) + 1) 0 (b ++ recB (headB x.f0 ++ wB x.f1)) at_ (by omega) ha (by rw [List.length_append]; omega) (by omega)
    rw [show ((0 : Nat) : Int) = 0 from rfl, List.drop_zero] at h1
    rw [h1]
    simp only [outV]
    cases hv : inV (ci : Int) (b.length : Int) x.f0 a2 fs 0 (b ++ recB (headB x.f0 ++ wB x.f1)) at_ with
    | none => rfl
    | some r =>
      have hl := in_len _ _ _ _ fs hok _ _ _ _ hv
      rw [List.length_append] at hl
      simp only [Option.bind_some]
      rw [w1 hi hc]
      exact ih k (ci + 1) r.1 r.2 (by omega) (by omega) (by omega) hk
/-- the table's bytes, the entries' places, an error's number -/
def wrV (c : List S69) (fs : List S46) (a2 : Int) (e : Bool) : List Int × List Int × Int :=
  if checkV c fs = 0 then
    if a2 < 0 ∨ 576460752303423488 < a2 then ([], [], 11)
    else match outV fs a2 c 0 [] (List.replicate fs.length 0) with
      | none => ([], [], 11)
      | some r => lastV e r.1 r.2
  else ([], [], checkV c fs)
theorem okF_of {y : S46} {n : Nat} (h0 : okF0 y = true) (h1 : okF1 n y = true) : OkF y := by
  simp only [okF0, decide_eq_true_eq] at h0
  simp only [okF1, Bool.and_eq_true, decide_eq_true_eq, Bool.not_eq_true'] at h1
  have := far_no h1.1.1.2
  exact ⟨by omega, by omega, by omega⟩
theorem write_k (c : List S69) (fs : List S46) (a2 : Int) (e : Bool) (k : Nat) (hk : 20000 + 3 * c.length + 3 * fs.length + 4000 * 4002 ≤ k) : ehframe_Write.f k c fs a2 e = some (wrV c fs a2 e) := by
  unfold ehframe_Write.f wrV
  rw [check_k c fs k (by omega)]
  simp only [Option.bind_some]
  by_cases h : checkV c fs = 0
  · obtain ⟨hc, hf, g0, g1, g2, g3, g4, g5⟩ := check_good h
    rw [if_pos h, if_pos h]
    obtain ⟨k, rfl⟩ : ∃ m, k = m + 1 := ⟨k - 1, by omega⟩
    have bad : ehframe_Write.j0 (k + 1) c fs a2 e [] true = some ([], [], 11) := by rw [ehframe_Write.j0, if_pos rfl]
    by_cases ha : a2 < 0
    · rw [if_pos ha, if_pos (.inl ha), bad]
    · rw [if_neg ha]
      by_cases hb : a2 > 576460752303423488
      · rw [decide_eq_true hb, if_pos (.inr hb), bad]
      · rw [decide_eq_false hb, if_neg (by omega), ehframe_Write.j0, if_neg (by decide), if_pos (by omega), if_pos (by omega), Int.toNat_natCast]
        have hmul : c.length * (fs.length + 2) ≤ 4000 * 4002 := Nat.mul_le_mul hc (by omega)
        obtain ⟨m, rfl⟩ : ∃ m, k = m + c.length * (fs.length + 2) + 1 := ⟨k - c.length * (fs.length + 2) - 1, by omega⟩
        have h1 := out_l0 fs hf (fun y hy => okF_of (g1 y hy) (g3 y hy)) a2 e c hc (fun x hx => by have := g0 x hx; simp only [okC0, decide_eq_true_eq] at this; omega) c.length m 0 [] (List.replicate fs.length 0) (by omega) (by simp) (by simp; omega) (by omega)
        rw [show ((0 : Nat) : Int) = 0 from rfl, List.drop_zero] at h1
        exact h1.trans (congrArg some (by cases outV fs a2 c 0 [] (List.replicate fs.length 0) <;> rfl))
  · rw [if_neg h, if_neg h]
end Go.Proofs.Ytfgfnflhdabmcaa.Eh
end
section
namespace Go.Proofs.Ytfgfnflhdabmcaa.Cfa
set_option linter.unusedVariables false
open Go.RowKit Go.Proofs.Ytfgfnflhdabmcaa.G Go.Proofs.YtfgfnflhdabmcaaW.PrintWords Go.Proofs.YtfgfnflhdabmcaaW.PrintLast Go.Proofs.YtfgfnflhdabmcaaW.PrintMore
def conv (l : List S97) : List S105 := l.map fun o => ⟨o.f0, o.f1, o.f2⟩
theorem conv_length (l : List S97) : (conv l).length = l.length := by simp [conv]
end Go.Proofs.Ytfgfnflhdabmcaa.Cfa
end
section
namespace Go.Proofs.Ytfgfnflhdabmcaa.Eh
set_option linter.unusedVariables false
open Go.RowKit Go.Proofs.Ytfgfnflhdabmcaa.G Go.Proofs.YtfgfnflhdabmcaaW.PrintWords Go.Proofs.YtfgfnflhdabmcaaW.PrintLast Go.Proofs.YtfgfnflhdabmcaaW.PrintMore
def cieV (x : S43) : S69 := ⟨x.f0, Cfa.conv x.f1⟩
def fdeV (y : S61) : S46 := ⟨y.f0, y.f1, y.f2, Cfa.conv y.f3⟩
end Go.Proofs.Ytfgfnflhdabmcaa.Eh
end
section
namespace Go.Proofs.Ytfgfnflhdabmcaa.Eh
set_option linter.unusedVariables false
set_option linter.unusedSimpArgs false
open Go.RowKit Go.Proofs.Ytfgfnflhdabmcaa.G Go.Proofs.YtfgfnflhdabmcaaW.PrintWords Go.Proofs.YtfgfnflhdabmcaaW.PrintLast Go.Proofs.YtfgfnflhdabmcaaW.PrintMore
theorem lops_l0 (l : List S97) (hl : l.length < 5864062014805) (d : Nat) : ∀ (k n : Nat), n + d = l.length → d < k → gangwaylaw14_ops.l0 k l (Cfa.conv (l.take n)) (n : Int) = some (Cfa.conv l) := by
  induction d with
  | zero =>
    intro k n h hk
    obtain ⟨k, rfl⟩ : ∃ m, k = m + 1 := ⟨k - 1, by omega⟩
    rw [gangwaylaw14_ops.l0, if_neg (by omega), List.take_of_length_le (by omega)]
  | succ d ih =>
    intro k n h hk
    obtain ⟨k, rfl⟩ : ∃ m, k = m + 1 := ⟨k - 1, by omega⟩
    have hn : n < l.length := by omega
    rw [gangwaylaw14_ops.l0, if_pos (by omega), if_pos (by omega), if_pos (by rw [Cfa.conv_length, List.length_take]; omega), show wrap64 ((n : Int) + 1) = ((n + 1 : Nat) : Int) from by unfold wrap64; omega]
    have e : Cfa.conv (l.take n) ++ [(⟨(rd_T97 l (n : Int)).f0, (rd_T97 l (n : Int)).f1, (rd_T97 l (n : Int)).f2⟩ : S105)] = Cfa.conv (l.take (n + 1)) := by
      have hrd : rd_T97 l (n : Int) = l[n] := by simp [rd_T97, List.getD, hn]
      rw [hrd, List.take_succ_eq_append_getElem hn]
      unfold Cfa.conv
      rw [List.map_append]
      rfl
    rw [e]
    exact ih k (n + 1) (by omega) (by omega)
theorem lops_k (l : List S97) (hl : l.length < 5864062014805) (k : Nat) (hk : l.length < k) : gangwaylaw14_ops.f k l = some (Cfa.conv l) := by
  have h := lops_l0 l hl l.length k 0 (by omega) hk
  rw [List.take_zero] at h
  exact h
/-- how many rounds the longest program asks -/
def mostC (l : List S43) : Nat := (l.map fun x => x.f1.length + 1).sum
def mostF (l : List S61) : Nat := (l.map fun y => y.f3.length + 1).sum
theorem mostC_ge (l : List S43) : l.length ≤ mostC l ∧ ∀ x ∈ l, x.f1.length < mostC l := by
  induction l with
  | nil => simp [mostC]
  | cons x l ih =>
    simp only [mostC, List.map_cons, List.sum_cons, List.length_cons] at ih ⊢
    refine ⟨by omega, fun y hy => ?_⟩
    rcases List.mem_cons.1 hy with rfl | hy
    · omega
    · have := ih.2 y hy; omega
theorem mostF_ge (l : List S61) : l.length ≤ mostF l ∧ ∀ y ∈ l, y.f3.length < mostF l := by
  induction l with
  | nil => simp [mostF]
  | cons x l ih =>
    simp only [mostF, List.map_cons, List.sum_cons, List.length_cons] at ih ⊢
    refine ⟨by omega, fun y hy => ?_⟩
    rcases List.mem_cons.1 hy with rfl | hy
    · omega
    · have := ih.2 y hy; omega
theorem tables_l1 (cs : List S69) (l : List S61) (hl : l.length < 2932031007402) (ho : ∀ y ∈ l, y.f3.length < 5864062014805) (d : Nat) :
    ∀ (k n : Nat), n + d = l.length → mostF l + d < k → gangwaylaw14_tables.l1 k l cs ((l.take n).map fdeV) (n : Int) = some (cs, l.map fdeV) := by
  induction d with
  | zero =>
    intro k n h hk
    obtain ⟨k, rfl⟩ : ∃ m, k = m + 1 := ⟨k - 1, by omega⟩
    rw [gangwaylaw14_tables.l1, if_neg (by omega), List.take_of_length_le (by omega)]
  | succ d ih =>
    intro k n h hk
    obtain ⟨k, rfl⟩ : ∃ m, k = m + 1 := ⟨k - 1, by omega⟩
    have hn : n < l.length := by omega
    have hrd : rd_T61 l (n : Int) = l[n] := by simp [rd_T61, List.getD, hn]
    have hm := List.getElem_mem hn
    rw [gangwaylaw14_tables.l1, if_pos (by omega), if_pos (by omega), hrd, lops_k _ (ho _ hm) k (by have := (mostF_ge l).2 _ hm; omega)]
    simp only [Option.bind_some]
    rw [if_pos (by rw [List.length_map, List.length_take]; omega), show wrap64 ((n : Int) + 1) = ((n + 1 : Nat) : Int) from by unfold wrap64; omega]
    have e : (l.take n).map fdeV ++ [(⟨l[n].f0, l[n].f1, l[n].f2, Cfa.conv l[n].f3⟩ : S46)] = (l.take (n + 1)).map fdeV := by
      rw [List.take_succ_eq_append_getElem hn, List.map_append]
      rfl
    rw [e]
    exact ih k (n + 1) (by omega) (by omega)
theorem tables_l0 (cl : List S43) (hc : cl.length < 4398046511104) (hco : ∀ x ∈ cl, x.f1.length < 5864062014805) (l : List S61) (hl : l.length < 2932031007402) (ho : ∀ y ∈ l, y.f3.length < 5864062014805) (d : Nat) :
    ∀ (k n : Nat), n + d = cl.length → mostC cl + d + mostF l + l.length + 1 < k → gangwaylaw14_tables.l0 k cl l ((cl.take n).map cieV) (n : Int) = some (cl.map cieV, l.map fdeV) := by
  induction d with
  | zero =>
    intro k n h hk
    obtain ⟨k, rfl⟩ : ∃ m, k = m + 1 := ⟨k - 1, by omega⟩
    rw [gangwaylaw14_tables.l0, if_neg (by omega), List.take_of_length_le (by omega)]
    have h1 := tables_l1 (cl.map cieV) l hl ho l.length k 0 (by omega) (by omega)
    rw [List.take_zero] at h1
    exact h1
  | succ d ih =>
    intro k n h hk
    obtain ⟨k, rfl⟩ : ∃ m, k = m + 1 := ⟨k - 1, by omega⟩
    have hn : n < cl.length := by omega
    have hrd : rd_T43 cl (n : Int) = cl[n] := by simp [rd_T43, List.getD, hn]
    have hm := List.getElem_mem hn
    rw [gangwaylaw14_tables.l0, if_pos (by omega), if_pos (by omega), hrd, lops_k _ (hco _ hm) k (by have := (mostC_ge cl).2 _ hm; omega)]
    simp only [Option.bind_some]
    rw [if_pos (by rw [List.length_map, List.length_take]; omega), show wrap64 ((n : Int) + 1) = ((n + 1 : Nat) : Int) from by unfold wrap64; omega]
    have e : (cl.take n).map cieV ++ [(⟨cl[n].f0, Cfa.conv cl[n].f1⟩ : S69)] = (cl.take (n + 1)).map cieV := by
      rw [List.take_succ_eq_append_getElem hn, List.map_append]
      rfl
    rw [e]
    exact ih k (n + 1) (by omega) (by omega)
theorem tables_k (cl : List S43) (hc : cl.length < 4398046511104) (hco : ∀ x ∈ cl, x.f1.length < 5864062014805) (l : List S61) (hl : l.length < 2932031007402) (ho : ∀ y ∈ l, y.f3.length < 5864062014805) (k : Nat) (hk : 2 * mostC cl + 2 * mostF l + 2 < k) :
    gangwaylaw14_tables.f k cl l = some (cl.map cieV, l.map fdeV) := by
  have h := tables_l0 cl hc hco l hl ho cl.length k 0 (by omega) (by have := (mostC_ge cl).1; have := (mostF_ge l).1; omega)
  rw [List.take_zero] at h
  exact h
end Go.Proofs.Ytfgfnflhdabmcaa.Eh
end
section
namespace Go.Proofs.Ytfgfnflhdabmcaa.Eh
open Go.RowKit Go.Proofs.Ytfgfnflhdabmcaa.G Go.Proofs.YtfgfnflhdabmcaaW.PrintWords Go.Proofs.YtfgfnflhdabmcaaW.PrintLast Go.Proofs.YtfgfnflhdabmcaaW.PrintMore
theorem live_60 : gangwaylaw14_live.f 60 = some true := by decide +kernel
theorem live_k (k : Nat) (hk : 60 ≤ k) : gangwaylaw14_live.f k = some true := at_rounds (g := fun k => gangwaylaw14_live.f k) (fun k => gangwaylaw14_live.mono k) hk live_60
end Go.Proofs.Ytfgfnflhdabmcaa.Eh
end
section
namespace Go.Proofs.Ytfgfnflhdabmcaa.Pure
set_option linter.unusedVariables false
set_option linter.unusedSimpArgs false
open Go.RowKit Go.Proofs.Ytfgfnflhdabmcaa.G Go.Proofs.Ytfgfnflhdabmcaa.Stmt Go.Proofs.YtfgfnflhdabmcaaW.PrintWords Go.Proofs.YtfgfnflhdabmcaaW.PrintLast Go.Proofs.YtfgfnflhdabmcaaW.PrintMore Go.Proofs.Ytfgfnflhdabmcaa.Bit Go.Proofs.Ytfgfnflhdabmcaa.Leb Go.Proofs.Ytfgfnflhdabmcaa.Eh Go.Proofs.Ytfgfnflhdabmcaa.EhOf
theorem wf_int {a : Int} (h : (Lit.int .i64 a).wf = true) : -9223372036854775808 ≤ a ∧ a ≤ 9223372036854775807 := by
  simp [Lit.wf, IntKind.min, IntKind.max, IntKind.signed, IntKind.bits] at h
  omega
/-- moved by so much -/
def sh (by_ : Int) (y : S46) : S46 := ⟨y.f0, wrap64 (y.f1 + by_), y.f2, y.f3⟩
theorem rel16 {enc : Int} (h : (ofF enc).2.2.2 = true) (e : wrap64 (wrap64 (Int.tdiv enc 16) * 16) = 16) : (ofF enc).2.2.1 = 16 := by
  have h1 := enc_good enc ⟨(ofF enc).1, (ofF enc).2.2.1, (ofF enc).2.1, by rw [← h]⟩
  rw [← (enc_size enc h1).2.2]
  exact e
theorem putS_move {s : Int} {g : Bool} {v at_ by_ : Int} (e1 : (putS s g 16 v at_ 0).2 = 0) (e2 : (putS s g 16 (v + by_) (at_ + by_) 0).2 = 0) : putS s g 16 (v + by_) (at_ + by_) 0 = putS s g 16 v at_ 0 := by
  unfold putS at *
  split at e1
  · cases e1
  split at e2
  · cases e2
  rename_i h1 h2
  rw [if_neg h1, if_neg h2]
  unfold offV
  rw [if_pos rfl, if_pos rfl, show v + by_ - (at_ + by_) = v - at_ from by omega]
theorem in_move (by_ : Int) (hby : -1125899906842624 ≤ by_ ∧ by_ ≤ 1125899906842624) (ci first enc a2 : Int) (ha : 0 ≤ a2 ∧ a2 ≤ 576460752303423488) (ha' : 0 ≤ a2 + by_) (hq : (ofF enc).2.2.1 = 16) (l : List S46)
    (hok : ∀ y ∈ l, OkF y ∧ -1152921504606846976 ≤ y.f1 ∧ y.f1 ≤ 1152921504606846976) : ∀ (i : Nat) (b at_ : List Int) (r r' : List Int × List Int), b.length + 130000 * l.length ≤ 100000000000000 →
      inV ci first enc a2 l i b at_ = some r → inV ci first enc (a2 + by_) (l.map (sh by_)) i b at_ = some r' → r' = r := by
  induction l with
  | nil =>
    intro i b at_ r r' _ h h'
    simp only [inV, List.map_nil, Option.some.injEq] at h h'
    rw [← h, ← h']
  | cons y l ih =>
    intro i b at_ r r' hb h h'
    have ih' := ih (fun y hy => hok y (List.mem_cons_of_mem _ hy))
    obtain ⟨ok, o1, o2⟩ := hok y List.mem_cons_self
    simp only [List.length_cons] at hb
    simp only [inV, List.map_cons, sh] at h h'
    by_cases hci : y.f0 = ci
    · rw [if_pos hci] at h h'
      have ew : wrap64 (y.f1 + by_) = y.f1 + by_ := by unfold wrap64; omega
      have ex : wrap64 (wrap64 (a2 + (b.length : Int)) + 8) = a2 + (b.length : Int) + 8 := by unfold wrap64; omega
      have ex' : wrap64 (wrap64 (a2 + by_ + (b.length : Int)) + 8) = a2 + (b.length : Int) + 8 + by_ := by unfold wrap64; omega
      rw [ew, ex'] at h'
      rw [ex] at h
      generalize a2 + (b.length : Int) + 8 = X at h h'
      by_cases c1 : (pV enc y.f1 X).2 = 0
      · by_cases c2 : (pV enc (y.f1 + by_) (X + by_)).2 = 0
        · have same : pV enc (y.f1 + by_) (X + by_) = pV enc y.f1 X := by
            unfold pV at c1 c2 ⊢
            split
            · rename_i hv
              rw [if_pos hv, hq] at c1 c2
              rw [hq]
              exact putS_move c1 c2
            · rfl
          rw [if_pos c1] at h
          rw [if_pos c2, same] at h'
          split at h
          · rename_i hq2
            rw [if_pos hq2] at h'
            have hf := fde_le b.length first (pV enc y.f1 X).1 (pV (e15 enc) y.f2 0).1 y.f3 (pV_le _ _ _) (pV_le _ _ _) ok.ops
            exact ih' _ _ _ _ _ (by rw [List.length_append]; omega) h h'
          · cases h
        · rw [if_neg c2] at h'
          cases h'
      · rw [if_neg c1] at h
        cases h
    · rw [if_neg hci] at h h'
      exact ih' _ _ _ _ _ (by omega) h h'
theorem out_move (by_ : Int) (hby : -1125899906842624 ≤ by_ ∧ by_ ≤ 1125899906842624) (a2 : Int) (ha : 0 ≤ a2 ∧ a2 ≤ 576460752303423488) (ha' : 0 ≤ a2 + by_) (fs : List S46) (hn : fs.length ≤ 4000)
    (hok : ∀ y ∈ fs, OkF y ∧ -1152921504606846976 ≤ y.f1 ∧ y.f1 ≤ 1152921504606846976) (c : List S69) (hc : ∀ x ∈ c, x.f1.length ≤ 4000 ∧ (ofF x.f0).2.2.1 = 16) :
    ∀ (ci : Nat) (b at_ : List Int) (r r' : List Int × List Int), b.length + 1000000000 * c.length ≤ 99000000000000 → outV fs a2 c ci b at_ = some r → outV (fs.map (sh by_)) (a2 + by_) c ci b at_ = some r' → r' = r := by
  induction c with
  | nil =>
    intro ci b at_ r r' _ h h'
    simp only [outV, Option.some.injEq] at h h'
    rw [← h, ← h']
  | cons x c ih =>
    intro ci b at_ r r' hb h h'
    obtain ⟨hx1, hx2⟩ := hc x List.mem_cons_self
    simp only [List.length_cons] at hb
    simp only [outV] at h h'
    have hrl := recB_length (headB x.f0 ++ wB x.f1)
    have hwl := wB_le hx1
    simp only [List.length_append, show (headB x.f0).length = 13 from rfl] at hrl
    obtain ⟨q, hq, h⟩ := Option.bind_eq_some_iff.1 h
    obtain ⟨q', hq', h'⟩ := Option.bind_eq_some_iff.1 h'
    have e := in_move by_ hby _ _ _ a2 ha ha' hx2 fs hok _ _ _ _ _ (by rw [List.length_append]; omega) hq hq'
    subst e
    have hl := (in_len _ _ _ _ fs (fun y hy => (hok y hy).1) _ _ _ _ hq).1
    rw [List.length_append] at hl
    exact ih (fun x hx => hc x (List.mem_cons_of_mem _ hx)) _ _ _ _ _ (by omega) h h'
theorem moved (c : List S69) (fs : List S46) (a2 by_ : Int) (hby : -1125899906842624 ≤ by_ ∧ by_ ≤ 1125899906842624) (hp : ∀ x ∈ c, wrap64 (wrap64 (Int.tdiv x.f0 16) * 16) = 16)
    (h1 : (wrV c fs a2 false).2.2 = 0) (h2 : (wrV c (fs.map (sh by_)) (wrap64 (a2 + by_)) false).2.2 = 0) (ha : -9223372036854775808 ≤ a2 ∧ a2 ≤ 9223372036854775807) : (wrV c (fs.map (sh by_)) (wrap64 (a2 + by_)) false).1 = (wrV c fs a2 false).1 := by
  unfold wrV at h1 h2 ⊢
  by_cases g : checkV c fs = 0
  · by_cases g' : checkV c (fs.map (sh by_)) = 0
    · rw [if_pos g] at h1 ⊢
      rw [if_pos g'] at h2 ⊢
      by_cases r1 : a2 < 0 ∨ 576460752303423488 < a2
      · rw [if_pos r1] at h1
        cases h1
      by_cases r2 : wrap64 (a2 + by_) < 0 ∨ 576460752303423488 < wrap64 (a2 + by_)
      · rw [if_pos r2] at h2
        cases h2
      rw [if_neg r1] at h1 ⊢
      rw [if_neg r2] at h2 ⊢
      have ew : wrap64 (a2 + by_) = a2 + by_ := by unfold wrap64; omega
      rw [ew] at h2 r2 ⊢
      rw [List.length_map] at h2 ⊢
      obtain ⟨hc, hf, g0, g1, g2, g3, g4, g5⟩ := check_good g
      have hok : ∀ y ∈ fs, OkF y ∧ -1152921504606846976 ≤ y.f1 ∧ y.f1 ≤ 1152921504606846976 := fun y hy => by
        refine ⟨okF_of (g1 y hy) (g3 y hy), ?_⟩
        have h3 := g3 y hy
        simp only [okF1, Bool.and_eq_true, Bool.not_eq_true'] at h3
        exact far_no h3.1.1.2
      have hcc : ∀ x ∈ c, x.f1.length ≤ 4000 ∧ (ofF x.f0).2.2.1 = 16 := fun x hx => ⟨by have := g0 x hx; simp only [okC0, decide_eq_true_eq] at this; omega, rel16 (g2 x hx) (hp x hx)⟩
      cases e1 : outV fs a2 c 0 [] (List.replicate fs.length 0) with
      | none => rw [e1] at h1; cases h1
      | some r =>
        cases e2 : outV (fs.map (sh by_)) (a2 + by_) c 0 [] (List.replicate fs.length 0) with
        | none => rw [e2] at h2; cases h2
        | some r' =>
          have := out_move by_ hby a2 (by omega) (by omega) fs hf hok c hcc 0 [] _ r r' (by simp; omega) e1 e2
          rw [this]
    · rw [if_neg g'] at h2
      exact absurd h2 g'
  · rw [if_neg g] at h1
    exact absurd h1 g
theorem num_f (x : Int) : gangwaylaw14_num.f x = some x := rfl
theorem moved_l1 (a2 by_ : Int) (ha : -9223372036854775808 ≤ a2 ∧ a2 ≤ 9223372036854775807) (hby : -1125899906842624 ≤ by_ ∧ by_ ≤ 1125899906842624) (c : List S69) (hp : ∀ x ∈ c, wrap64 (wrap64 (Int.tdiv x.f0 16) * 16) = 16) (fs : List S46) (hfl : fs.length ≤ 9000000000000) (d : Nat) :
    ∀ (k n : Nat), n + d = fs.length → 20000 + 3 * c.length + 3 * fs.length + 4000 * 4002 + d < k → gangwaylaw14_EhframeMoved.l1 k a2 by_ c ((fs.take n).map (sh by_) ++ fs.drop n) (wrV c fs a2 false).1 (wrV c fs a2 false).2.2 (n : Int) = some true := by
  induction d with
  | zero =>
    intro k n h hk
    obtain ⟨k, rfl⟩ : ∃ m, k = m + 1 := ⟨k - 1, by omega⟩
    rw [List.take_of_length_le (by omega), List.drop_of_length_le (by omega), List.append_nil, gangwaylaw14_EhframeMoved.l1, if_neg (by rw [List.length_map]; omega), num_f]
    simp only [Option.bind_some]
    by_cases e1 : (wrV c fs a2 false).2.2 = 0
    · rw [if_pos e1, write_k c (fs.map (sh by_)) (wrap64 (a2 + by_)) false k (by rw [List.length_map]; omega)]
      simp only [Option.bind_some, num_f]
      by_cases e2 : (wrV c (fs.map (sh by_)) (wrap64 (a2 + by_)) false).2.2 = 0
      · rw [if_pos e2, if_pos (by rw [moved c fs a2 by_ hby hp e1 e2 ha]), live_k k (by omega)]
        rfl
      · rw [if_neg e2, live_k k (by omega)]
        rfl
    · rw [if_neg e1, live_k k (by omega)]
      rfl
  | succ d ih =>
    intro k n h hk
    obtain ⟨k, rfl⟩ : ∃ m, k = m + 1 := ⟨k - 1, by omega⟩
    have hn : n < fs.length := by omega
    have hlen : ((fs.take n).map (sh by_)).length = n := by rw [List.length_map, List.length_take]; omega
    have hget : rd_T46 ((fs.take n).map (sh by_) ++ fs.drop n) (n : Int) = fs[n] := by
      unfold rd_T46
      rw [Int.toNat_natCast, List.getD_eq_getElem?_getD, List.getElem?_append_right (by omega), hlen, Nat.sub_self, List.getElem?_drop, Nat.add_zero, List.getElem?_eq_getElem hn]
      rfl
    rw [gangwaylaw14_EhframeMoved.l1, if_pos (by rw [List.length_append, hlen, List.length_drop]; omega), if_pos (by omega), hget, show wrap64 ((n : Int) + 1) = ((n + 1 : Nat) : Int) from by unfold wrap64; omega, Int.toNat_natCast]
    have e : ((fs.take n).map (sh by_) ++ fs.drop n).set n (⟨fs[n].f0, wrap64 (fs[n].f1 + by_), fs[n].f2, fs[n].f3⟩ : S46) = (fs.take (n + 1)).map (sh by_) ++ fs.drop (n + 1) := by
      rw [List.set_append_right _ _ (by omega), hlen, Nat.sub_self, List.drop_eq_getElem_cons hn, List.set_cons_zero, List.take_succ_eq_append_getElem hn, List.map_append, List.append_assoc]
      rfl
    rw [e]
    exact ih k (n + 1) (by omega) (by omega)
theorem moved_l0 (cl : List S43) (l : List S61) (a2 a3 : Int) (hc : cl.length < 4398046511104) (hco : ∀ x ∈ cl, x.f1.length < 5864062014805) (hl : l.length < 2932031007402) (ho : ∀ y ∈ l, y.f3.length < 5864062014805)
    (ha : -9223372036854775808 ≤ a2 ∧ a2 ≤ 9223372036854775807) (d : Nat) : ∀ (k n : Nat), n + d = cl.length → (∀ x ∈ cl.take n, wrap64 (wrap64 (Int.tdiv x.f0 16) * 16) = 16) → 40000 + 4 * mostC cl + 5 * mostF l + 4000 * 4002 + d < k → gangwaylaw14_EhframeMoved.l0 k cl l a2 a3 (n : Int) = some true := by
  have hC := (mostC_ge cl).1
  have hF := (mostF_ge l).1
  induction d with
  | zero =>
    intro k n h hp hk
    obtain ⟨k, rfl⟩ : ∃ m, k = m + 1 := ⟨k - 1, by omega⟩
    rw [List.take_of_length_le (by omega)] at hp
    rw [gangwaylaw14_EhframeMoved.l0, if_neg (by omega), tables_k cl hc hco l hl ho k (by omega)]
    simp only [Option.bind_some]
    rw [write_k _ _ a2 false k (by rw [List.length_map, List.length_map]; omega)]
    simp only [Option.bind_some]
    have h1 := moved_l1 a2 (Int.tmod a3 1125899906842624) ha (by have := Int.tmod_lt_of_pos a3 (show (0 : Int) < 1125899906842624 by decide); have := Int.lt_tmod_of_pos a3 (show (0 : Int) < 1125899906842624 by decide); omega) (cl.map cieV) (fun x hx => by
      obtain ⟨y, hy, rfl⟩ := List.mem_map.1 hx
      exact hp y hy) (l.map fdeV) (by rw [List.length_map]; omega) (l.map fdeV).length k 0 (by omega) (by rw [List.length_map, List.length_map]; omega)
    rw [List.take_zero, List.drop_zero, List.map_nil, List.nil_append] at h1
    exact h1
  | succ d ih =>
    intro k n h hp hk
    obtain ⟨k, rfl⟩ : ∃ m, k = m + 1 := ⟨k - 1, by omega⟩
    have hn : n < cl.length := by omega
    have hrd : rd_T43 cl (n : Int) = cl[n] := by simp [rd_T43, List.getD, hn]
    rw [gangwaylaw14_EhframeMoved.l0, if_pos (by omega), if_pos (by omega), hrd]
    by_cases e : wrap64 (wrap64 (Int.tdiv cl[n].f0 16) * 16) = 16
    · rw [if_pos e, show wrap64 ((n : Int) + 1) = ((n + 1 : Nat) : Int) from by unfold wrap64; omega]
      refine ih k (n + 1) (by omega) (fun x hx => ?_) (by omega)
      rw [List.take_succ_eq_append_getElem hn] at hx
      rcases List.mem_append.1 hx with hx | hx
      · exact hp x hx
      · rw [List.mem_singleton.1 hx]
        exact e
    · rw [if_neg e, live_k k (by omega)]
      rfl
theorem EhframeMoved : Stmt.EhframeMoved := by
  intro l0 l1 a2 a3 w0 w1 w2 w3
  obtain ⟨c1, c2, c3⟩ := w0
  obtain ⟨f1, f2, f3⟩ := w1
  exact ⟨_, moved_l0 l0 l1 a2 a3 (by omega) (fun x hx => by have := (c3 x hx).2.1; omega) (by omega) (fun y hy => by have := (f3 y hy).2.2.2.1; omega) (wf_int w2) l0.length (40000 + 4 * mostC l0 + 5 * mostF l1 + 4000 * 4002 + l0.length + 1) 0 (by omega) (fun x hx => by simp at hx) (by omega)⟩
end Go.Proofs.Ytfgfnflhdabmcaa.Pure
end
section
namespace Go.Proofs.Ytfgfnflhdabmcaa.Opening
set_option linter.unusedVariables false
set_option linter.unusedSimpArgs false
open Go.ChangeShapes Go.WideShapes Go.Proofs.YtfgfnflhdabmcaaW.PrintWords
/-- A datum of type t opens as a value of kind d: it is well (wf), and its bulk is at least its weight (wt). -/
structure Opens {α : Type} (P : Program) (t : TypeId) (d : Kd α) (wf : α → Prop) (wt : α → Nat) : Prop where
  cells : P.cellsOf t = d.sz
  op : ∀ {H : Type} {enc : TypeId × Value → H} {w : World} {base : Nat} {spare : Nat → Bool} {held : Bool} {fuel : Nat} {cs : List Value} {x : DataW H × List MemPlace},
    DataW.trod enc P w base spare held fuel t cs = some x → (∀ n ∈ x.1.weights P t, n ≤ 140737488351232) → ∃ a : α, d.K w a cs ∧ wf a ∧ wt a ≤ Rows.uptoBulk x.1
theorem opens_int {P : Program} {t : TypeId} (k : IntKind) (ht : P.underlying t = some (.int k)) (hc : P.cellsOf t = 1) : Opens P t (Kd.int k) (fun a => (Lit.int k a).wf = true) (fun _ => 1) :=
  ⟨hc, fun h _ => by
    obtain ⟨n, rfl, rfl, hw⟩ := DataW.trod_int ht h
    exact ⟨n, rfl, hw, by simp [Rows.uptoBulk]⟩⟩
theorem list_of {α : Type} {p : Nat → α → Prop} : ∀ {n : Nat}, (∀ i, i < n → ∃ a, p i a) → ∃ l : List α, l.length = n ∧ ∀ i (h : i < l.length), p i l[i]
  | 0, _ => ⟨[], rfl, fun i h => absurd h (Nat.not_lt_zero _)⟩
  | n + 1, h => by
    obtain ⟨l, hl, hp⟩ := list_of (n := n) (fun i hi => h i (Nat.lt_succ_of_lt hi))
    obtain ⟨a, ha⟩ := h n (Nat.lt_succ_self n)
    refine ⟨l ++ [a], by simp [hl], fun i hi => ?_⟩
    by_cases hlt : i < l.length
    · rw [List.getElem_append_left hlt]
      exact hp i hlt
    · have e : i = n := by simp at hi; omega
      subst e
      rw [List.getElem_append_right (by omega)]
      simpa [hl] using ha
theorem bulk_all {α H : Type} {wt : α → Nat} : ∀ {l : List α} {ds : List (DataW H)}, l.length ≤ ds.length → (∀ i (h : i < l.length) d, ds[i]? = some d → wt l[i] ≤ Rows.uptoBulk d) → (l.map wt).sum ≤ Rows.uptoBulkAll ds
  | [], _, _, _ => by simp
  | a :: l, [], h, _ => by simp at h
  | a :: l, d :: ds, h, hw => by
    have h0 := hw 0 (by simp) d rfl
    have h1 := bulk_all (l := l) (ds := ds) (by simpa using h) (fun i hi d' hd' => hw (i + 1) (by simpa using hi) d' (by simpa using hd'))
    simp only [List.map_cons, List.sum_cons, Rows.uptoBulkAll]
    simp at h0
    omega
theorem weights_all {H : Type} {P : Program} {e : TypeId} : ∀ {ds : List (DataW H)} {d : DataW H}, d ∈ ds → ∀ n ∈ d.weights P e, n ∈ DataW.weightsAll P e ds
  | d0 :: ds, d, h, n, hn => by
    simp only [DataW.weightsAll, List.mem_append]
    cases List.mem_cons.1 h with
    | inl e => subst e; exact .inl hn
    | inr e => exact .inr (weights_all e n hn)
theorem opens_slice {α : Type} {P : Program} {t e : TypeId} {d : Kd α} {wf : α → Prop} {wt : α → Nat} {b : Nat} (ho : Opens P e d wf wt) (ht : P.underlying t = some (.slice e)) (hc : P.cellsOf t = 1) (hb : P.bytesOf e = b) :
    Opens P t (Kd.slice e d) (fun l => l.length * b ≤ 140737488351232 ∧ l.length ≤ 9223372036854775807 ∧ ∀ a ∈ l, wf a) (fun l => (l.map wt).sum + 1) :=
  ⟨hc, fun {H enc w base spare held fuel cs x} h hz => by
    subst hb
    rcases DataW.trod_slice ht h with ⟨rfl, rfl⟩ | ⟨a, len, cap, elems, rest, n, _, rfl, rfl, hb, hl, hm, hlen, hel, hsp, hns⟩
    · exact ⟨[], ⟨none, 0, rfl, Nat.le_refl _, Kd.C_nil d w⟩, ⟨by simp, by simp, by simp⟩, by simp [Rows.uptoBulk]⟩
    · have hm' : cap ≤ 9223372036854775807 := hm
      have hz1 : (elems.length + rest.length) * P.bytesOf e ≤ 140737488351232 := hz _ (by simp [DataW.weights, ht])
      have hz2 : ∀ y ∈ elems, ∀ n ∈ y.1.weights P e, n ≤ 140737488351232 := fun y hy n hn => hz _ (by
        simp only [DataW.weights, ht, List.mem_cons, List.mem_append]
        exact .inr (.inl (weights_all (List.mem_map.2 ⟨y, hy, rfl⟩) n hn)))
      have each : ∀ i, i < len → ∃ a' : α, (∃ cs' y, w.cells? base (a.add (i * P.cellsOf e)) (P.cellsOf e) = some cs' ∧ d.K w a' cs' ∧ elems[i]? = some y ∧ wt a' ≤ Rows.uptoBulk y.1) ∧ wf a' := fun i hi => by
        have h1 := hel i hi
        rw [List.getElem?_eq_getElem (by omega)] at h1
        obtain ⟨cs', h2, h3⟩ := Option.bind_eq_some_iff.1 h1
        obtain ⟨a', k1, k2, k3⟩ := ho.op h3 (hz2 _ (List.getElem_mem _))
        exact ⟨a', ⟨cs', _, h2, k1, List.getElem?_eq_getElem (by omega), k3⟩, k2⟩
      obtain ⟨l, hl1, hl2⟩ := list_of each
      subst hl1
      refine ⟨l, ⟨some a, cap, rfl, hl, rfl, by omega, fun _ => ⟨a, rfl, fun j p hp => ?_⟩⟩, ⟨?_, by omega, fun a' ha' => ?_⟩, ?_⟩
      · obtain ⟨hj, rfl⟩ := List.getElem?_eq_some_iff.1 hp
        obtain ⟨⟨cs', y, h2, k1, _, _⟩, _⟩ := hl2 j hj
        obtain ⟨_, hcl, hcell⟩ := World.cells?_some h2
        refine ⟨cs', by rw [hcl, ho.cells], k1, fun i u hu => ?_⟩
        have hi : i < P.cellsOf e := by rw [← hcl]; exact (List.getElem?_eq_some_iff.1 hu).1
        have := hcell i hi
        rw [hu, ho.cells] at this
        rw [← this]
        congr 1
        unfold Addr.add
        by_cases hi0 : i = 0 <;> by_cases hj0 : j * d.sz = 0 <;> simp [hi0, hj0, Nat.add_assoc]
      · refine Nat.le_trans (Nat.mul_le_mul_right _ ?_) hz1
        omega
      · obtain ⟨j, hj, rfl⟩ := List.getElem_of_mem ha'
        exact (hl2 j hj).2
      · have := bulk_all (l := l) (ds := elems.map (·.1)) (wt := wt) (by simp; omega) (fun i hi dd hd => by
          obtain ⟨⟨_, y, _, _, hy, hw⟩, _⟩ := hl2 i hi
          rw [List.getElem?_map, hy] at hd
          simp at hd
          subst hd
          exact hw)
        simp only [Rows.uptoBulk]
        omega⟩
/-- The fields from one on, whose cells begin at off. -/
def OpensF {α : Type} (P : Program) (fs : List Field) (off : Nat) (d : Kd α) (wf : α → Prop) (wt : α → Nat) : Prop :=
  (∃ f r, fs = f :: r ∧ f.offset = off) ∧
  ∀ {H : Type} {enc : TypeId × Value → H} {w : World} {base : Nat} {spare : Nat → Bool} {held : Bool} {fuel : Nat} {cs : List Value} {xs : List (DataW H × List MemPlace)},
    cs.length = d.sz → xs.length = fs.length → (∀ (i : Nat) (f : Field), fs[i]? = some f → DataW.trod enc P w base spare held fuel f.type ((cs.drop (f.offset - off)).take (P.cellsOf f.type)) = xs[i]? ∧ off ≤ f.offset) →
    (∀ n ∈ DataW.weightsEach P (fs.map (·.type)) (xs.map (·.1)), n ≤ 140737488351232) → ∃ a : α, d.K w a cs ∧ wf a ∧ wt a ≤ Rows.uptoBulkAll (xs.map (·.1))
theorem opensF_one {α : Type} {P : Program} {f : Field} {off : Nat} {d : Kd α} {wf : α → Prop} {wt : α → Nat} (ho : Opens P f.type d wf wt) (hf : f.offset = off) : OpensF P [f] off d wf wt :=
  ⟨⟨f, [], rfl, hf⟩, fun {H enc w base spare held fuel cs xs} hc hx h hz => by
    match xs, hx with
    | [x], _ =>
      have h1 := (h 0 f rfl).1
      rw [hf, Nat.sub_self, List.drop_zero, ho.cells, List.take_of_length_le (by omega)] at h1
      obtain ⟨a, k1, k2, k3⟩ := ho.op (x := x) (by simpa using h1) (fun n hn => hz n (by simp [DataW.weightsEach, hn]))
      exact ⟨a, k1, k2, by simpa [Rows.uptoBulkAll] using k3⟩⟩
theorem opensF_cons {α β : Type} {P : Program} {f : Field} {fs : List Field} {off : Nat} {a : Kd α} {b : Kd β} {wfa : α → Prop} {wta : α → Nat} {wfb : β → Prop} {wtb : β → Nat} (ho : Opens P f.type a wfa wta) (hf : f.offset = off)
    (hr : OpensF P fs (off + a.sz) b wfb wtb) (hge : ∀ g ∈ fs, off + a.sz ≤ g.offset) : OpensF P (f :: fs) off (Kd.pair a b) (fun x => wfa x.1 ∧ wfb x.2) (fun x => wta x.1 + wtb x.2) :=
  ⟨⟨f, fs, rfl, hf⟩, fun {H enc w base spare held fuel cs xs} hc hx h hz => by
    match xs, hx with
    | x :: xs, hx =>
      have hc' : cs.length = a.sz + b.sz := hc
      have h1 := (h 0 f rfl).1
      rw [hf, Nat.sub_self, List.drop_zero, ho.cells] at h1
      obtain ⟨u, k1, k2, k3⟩ := ho.op (x := x) (by simpa using h1) (fun n hn => hz n (by simp [DataW.weightsEach, hn]))
      obtain ⟨v, j1, j2, j3⟩ := hr.2 (cs := cs.drop a.sz) (xs := xs) (by simp; omega) (by simpa using hx) (fun i g hg => by
        obtain ⟨h2, h3⟩ := h (i + 1) g (by simpa using hg)
        have h4 := hge g (List.mem_of_getElem? hg)
        refine ⟨?_, h4⟩
        rw [List.drop_drop, show a.sz + (g.offset - (off + a.sz)) = g.offset - off from by omega]
        simpa using h2) (fun n hn => hz n (by simp [DataW.weightsEach, hn]))
      refine ⟨(u, v), ⟨cs.take a.sz, cs.drop a.sz, (List.take_append_drop _ _).symm, k1, j1⟩, ⟨k2, j2⟩, ?_⟩
      simp only [List.map_cons, Rows.uptoBulkAll]
      omega⟩
theorem opens_struct {α β : Type} {P : Program} {t : TypeId} {fs : Array Field} {d : Kd α} {wf : α → Prop} {wt : α → Nat} (f : β → α) (g : α → β) (hfg : ∀ a, f (g a) = a) (ht : P.underlying t = some (.struct fs)) (hc : P.cellsOf t = d.sz)
    (ho : OpensF P fs.toList 0 d wf wt) : Opens P t (Kd.iso d f) (fun x => wf (f x)) (fun x => wt (f x) + 1) :=
  ⟨hc, fun {H enc w base spare held fuel cs x} h hz => by
    obtain ⟨xs, n, _, rfl, hl, hxl, hx⟩ := DataW.trod_struct ht h
    obtain ⟨a, k1, k2, k3⟩ := ho.2 (cs := cs) (xs := xs) (by rw [hl, hc]) (by simpa using hxl) (fun i fd hfd => ⟨by
      have := hx i fd (by simpa using hfd)
      simpa using this, Nat.zero_le _⟩) (fun m hm => hz m (by simpa [DataW.weights, ht] using hm))
    refine ⟨g a, ?_, ?_, ?_⟩
    · show d.K w (f (g a)) cs
      rw [hfg]
      exact k1
    · rw [hfg]
      exact k2
    · rw [hfg]
      simp only [Rows.uptoBulk]
      omega⟩
/-- The size of each part, out of the row's own reach. -/
theorem weights_of {H : Type} {P : Program} {ts : List TypeId} {ds : List (DataW H)} (h : (DataW.weightsEach P ts ds).all (· ≤ reachBytes) = true) {j : Nat} {t : TypeId} {d : DataW H} (ht : ts[j]? = some t) (hd : ds[j]? = some d) : ∀ n ∈ d.weights P t, n ≤ 140737488351232 := fun n hn => by
  have := List.all_eq_true.1 h _ (DataW.weights_mem_each ht hd n hn)
  exact of_decide_eq_true this
end Go.Proofs.Ytfgfnflhdabmcaa.Opening
end
