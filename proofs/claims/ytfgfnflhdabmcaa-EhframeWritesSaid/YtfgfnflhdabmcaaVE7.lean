/- Lemmas and contracts, one text behind the other: what the row of this claim needs; no conditions beyond those that each theorem names. -/
import Derived.Test.YtfgfnflhdabmcaaRows
import Derived.ChangeArms
import Derived.DataReads
import Derived.SizedLaws
import Derived.Test.YtfgfnflhdabmcaaVE6
set_option linter.unusedVariables false
set_option linter.unusedSimpArgs false
set_option maxRecDepth 100000
section
namespace Go.Proofs.Ytfgfnflhdabmcaa.G
open Go.RowKit Go.Proofs.YtfgfnflhdabmcaaW.PrintWords Go.Proofs.YtfgfnflhdabmcaaW.PrintLast Go.Proofs.YtfgfnflhdabmcaaW.PrintMore
attribute [local go_sem] max2_int min2_int max_two min_two max_three min_three max_four min_four
mutual
def gangwaylaw14_EhframeWrites.j0 : Nat → List Int → List Int → Bool → Option (Bool)
  | 0, _, _, _ => none
  | k + 1, x12, x15, x77 => if x77 = true then (none) else (gangwaylaw14_EhframeWrites.l0 k x12 x15 0)
def gangwaylaw14_EhframeWrites.l0 : Nat → List Int → List Int → Int → Option (Bool)
  | 0, _, _, _ => none
  | k + 1, x12, x15, x17 => if x17 < (x12.length : Int) then (if 0 ≤ x17 then (if x17 < (x15.length : Int) then (if (rd x12 x17) = (rd x15 x17) then (gangwaylaw14_EhframeWrites.l0 k x12 x15 (wrap64 (x17 + 1))) else (none)) else (none)) else (none)) else ((gangwaylaw14_live.f k).bind fun t128 => (some t128))
end
def gangwaylaw14_EhframeWrites.f (k : Nat) (l0 : List (S43)) (l1 : List (S61)) (a2 : Int) (a3 : Bool) : Option (Bool) := (gangwaylaw14_tables.f k l0 l1).bind fun bt101 => ((ehframe_Write.f k bt101.1 bt101.2 a2 a3).bind fun bt107 => ((gangwayref14_Write.f k l0 l1 a2 a3).bind fun bt114 => ((ehframe_Check.f k bt101.1 bt101.2).bind fun t121 => ((gangwaylaw14_num.f t121).bind fun t122 => ((gangwayref14_Check.f k l0 l1).bind fun t123 => (if t122 = t123 then (if (strOfNums bt107.1).toList = (strOfNums bt114.1).toList then (if (bt107.2.1.length : Int) = (bt114.2.1.length : Int) then ((gangwaylaw14_num.f bt107.2.2).bind fun t124 => (if t124 = bt114.2.2 then ((gangwaylaw14_same.f k bt101.1 bt101.2 l0 l1).bind fun t125 => (gangwaylaw14_EhframeWrites.j0 k bt107.2.1 bt114.2.1 (!t125))) else (gangwaylaw14_EhframeWrites.j0 k bt107.2.1 bt114.2.1 true))) else (gangwaylaw14_EhframeWrites.j0 k bt107.2.1 bt114.2.1 true)) else (gangwaylaw14_EhframeWrites.j0 k bt107.2.1 bt114.2.1 true)) else (gangwaylaw14_EhframeWrites.j0 k bt107.2.1 bt114.2.1 true)))))))
set_option maxHeartbeats 8000000 in
theorem gangwaylaw14_EhframeWrites.calls (k : Nat) (A0 : Option Addr) (c0 : Nat) (l0 : List (S43)) (A1 : Option Addr) (c1 : Nat) (l1 : List (S61)) (a2 : Int) (a3 : Bool) (r : Bool) (w : World) (hr0 : Kd.C k43 w A0 l0.length l0) (hc0 : l0.length ≤ c0) (hr1 : Kd.C k61 w A1 l1.length l1) (hc1 : l1.length ≤ c1) (h : gangwaylaw14_EhframeWrites.f k l0 l1 a2 a3 = some r) :
    Calls Try.prog 3 #[.slice A0 l0.length c0, .slice A1 l1.length c1, .int .i64 a2, .bool a3] w fun e w' => e = .returned (.bool r) ∧ Below w.heap.size w w' := by
 have HR0 := am hr0
 have HC0 := am hc0
 clear hr0 hc0
 have HR1 := am hr1
 have HC1 := am hc1
 clear hr1 hc1
 have HB := am (Below.refl w.heap.size w)
 have H : ((gangwaylaw14_tables.f k l0 l1).bind fun bt101 => ((ehframe_Write.f k bt101.1 bt101.2 a2 a3).bind fun bt107 => ((gangwayref14_Write.f k l0 l1 a2 a3).bind fun bt114 => ((ehframe_Check.f k bt101.1 bt101.2).bind fun t121 => ((gangwaylaw14_num.f t121).bind fun t122 => ((gangwayref14_Check.f k l0 l1).bind fun t123 => (if t122 = t123 then (if (strOfNums bt107.1).toList = (strOfNums bt114.1).toList then (if (bt107.2.1.length : Int) = (bt114.2.1.length : Int) then ((gangwaylaw14_num.f bt107.2.2).bind fun t124 => (if t124 = bt114.2.2 then ((gangwaylaw14_same.f k bt101.1 bt101.2 l0 l1).bind fun t125 => (gangwaylaw14_EhframeWrites.j0 k bt107.2.1 bt114.2.1 (!t125))) else (gangwaylaw14_EhframeWrites.j0 k bt107.2.1 bt114.2.1 true))) else (gangwaylaw14_EhframeWrites.j0 k bt107.2.1 bt114.2.1 true)) else (gangwaylaw14_EhframeWrites.j0 k bt107.2.1 bt114.2.1 true)) else (gangwaylaw14_EhframeWrites.j0 k bt107.2.1 bt114.2.1 true)))))))) = some r := h
 clear h
 replace H := Option.bind_eq_some_iff.mp H
 obtain ⟨⟨t101, t102⟩, A50, H⟩ := H
 replace H : ((ehframe_Write.f k t101 t102 a2 a3).bind fun bt107 => ((gangwayref14_Write.f k l0 l1 a2 a3).bind fun bt114 => ((ehframe_Check.f k t101 t102).bind fun t121 => ((gangwaylaw14_num.f t121).bind fun t122 => ((gangwayref14_Check.f k l0 l1).bind fun t123 => (if t122 = t123 then (if (strOfNums bt107.1).toList = (strOfNums bt114.1).toList then (if (bt107.2.1.length : Int) = (bt114.2.1.length : Int) then ((gangwaylaw14_num.f bt107.2.2).bind fun t124 => (if t124 = bt114.2.2 then ((gangwaylaw14_same.f k t101 t102 l0 l1).bind fun t125 => (gangwaylaw14_EhframeWrites.j0 k bt107.2.1 bt114.2.1 (!t125))) else (gangwaylaw14_EhframeWrites.j0 k bt107.2.1 bt114.2.1 true))) else (gangwaylaw14_EhframeWrites.j0 k bt107.2.1 bt114.2.1 true)) else (gangwaylaw14_EhframeWrites.j0 k bt107.2.1 bt114.2.1 true)) else (gangwaylaw14_EhframeWrites.j0 k bt107.2.1 bt114.2.1 true))))))) = some r := H
 have A5 := am A50
 clear A50
 replace H := Option.bind_eq_some_iff.mp H
 obtain ⟨⟨t107, t108, t109⟩, A60, H⟩ := H
 replace H : ((gangwayref14_Write.f k l0 l1 a2 a3).bind fun bt114 => ((ehframe_Check.f k t101 t102).bind fun t121 => ((gangwaylaw14_num.f t121).bind fun t122 => ((gangwayref14_Check.f k l0 l1).bind fun t123 => (if t122 = t123 then (if (strOfNums t107).toList = (strOfNums bt114.1).toList then (if (t108.length : Int) = (bt114.2.1.length : Int) then ((gangwaylaw14_num.f t109).bind fun t124 => (if t124 = bt114.2.2 then ((gangwaylaw14_same.f k t101 t102 l0 l1).bind fun t125 => (gangwaylaw14_EhframeWrites.j0 k t108 bt114.2.1 (!t125))) else (gangwaylaw14_EhframeWrites.j0 k t108 bt114.2.1 true))) else (gangwaylaw14_EhframeWrites.j0 k t108 bt114.2.1 true)) else (gangwaylaw14_EhframeWrites.j0 k t108 bt114.2.1 true)) else (gangwaylaw14_EhframeWrites.j0 k t108 bt114.2.1 true)))))) = some r := H
 have A6 := am A60
 clear A60
 replace H := Option.bind_eq_some_iff.mp H
 obtain ⟨⟨t114, t115, t116⟩, A70, H⟩ := H
 replace H : ((ehframe_Check.f k t101 t102).bind fun t121 => ((gangwaylaw14_num.f t121).bind fun t122 => ((gangwayref14_Check.f k l0 l1).bind fun t123 => (if t122 = t123 then (if (strOfNums t107).toList = (strOfNums t114).toList then (if (t108.length : Int) = (t115.length : Int) then ((gangwaylaw14_num.f t109).bind fun t124 => (if t124 = t116 then ((gangwaylaw14_same.f k t101 t102 l0 l1).bind fun t125 => (gangwaylaw14_EhframeWrites.j0 k t108 t115 (!t125))) else (gangwaylaw14_EhframeWrites.j0 k t108 t115 true))) else (gangwaylaw14_EhframeWrites.j0 k t108 t115 true)) else (gangwaylaw14_EhframeWrites.j0 k t108 t115 true)) else (gangwaylaw14_EhframeWrites.j0 k t108 t115 true))))) = some r := H
 have A7 := am A70
 clear A70
 have HC8 := am H
 clear H
 go_enter Try.func3, Try.ntmps3
 go_upto_region 4 with (first | (go_at_call 8; (with_reducible refine (gangwaylaw14_tables.calls k _ _ l0 _ _ l1 t101 t102 _ ?side1 ?side2 ?side3 ?side4 A5.out).mono ?_); (case side1 => exact Kd.C_o HR0.out); (case side2 => exact HC0.out); (case side3 => exact Kd.C_o HR1.out); (case side4 => exact HC1.out); rintro e w9 ⟨v103, v105, rfl, ho0, ho1, hb⟩; refine mv3 (am (Kd.S_lower ho0 (below_size (by exact bl_o HB.out)))) (am (Kd.S_lower ho1 (below_size (by exact bl_o HB.out)))) (am (below_step (by exact bl_o HB.out) hb)) ?_; clear HB; intro HO104 HO106 HB; (try clear ho1); obtain ⟨Ao10, co10, eo10⟩ := Kd.S_slice HO104.out; subst eo10; obtain ⟨Ao11, co11, eo11⟩ := Kd.S_slice HO106.out; subst eo11) | (go_at_call 9; (with_reducible refine (ehframe_Write.calls k _ _ t101 _ _ t102 a2 a3 t107 t108 t109 _ ?side1 ?side2 ?side3 ?side4 A6.out).mono ?_); (case side1 => exact Kd.C_o ((Kd.S_reads' HO104.out).2.2)); (case side2 => exact (Kd.S_reads' HO104.out).2.1); (case side3 => exact Kd.C_o ((Kd.S_reads' HO106.out).2.2)); (case side4 => exact (Kd.S_reads' HO106.out).2.1); rintro e w12 ⟨v110, v112, rfl, ho0, ho1, hb⟩; refine mv5 (am (Kd.S_below (by (with_reducible repeat (first | apply Kd.S_alloc | apply Kd.S_drewN | apply Kd.S_drew)); exact HO104.out) hb)) (am (Kd.S_below (by (with_reducible repeat (first | apply Kd.S_alloc | apply Kd.S_drewN | apply Kd.S_drew)); exact HO106.out) hb)) (am (Kd.R_lower ho0 (below_size (by exact bl_o HB.out)))) (am (Kd.R_lower ho1 (below_size (by exact bl_o HB.out)))) (am (below_step (by exact bl_o HB.out) hb)) ?_; clear HO104 HO106 HB; intro HO104 HO106 HO111 HO113 HB; (try clear ho1)) | (go_at_call 10; (with_reducible refine (gangwayref14_Write.calls k _ _ l0 _ _ l1 a2 a3 t114 t115 t116 _ ?side1 ?side2 ?side3 ?side4 A7.out).mono ?_); (case side1 => exact Kd.C_o (Kd.C_below HR0.out HB.out)); (case side2 => exact HC0.out); (case side3 => exact Kd.C_o (Kd.C_below HR1.out HB.out)); (case side4 => exact HC1.out); rintro e w13 ⟨v117, v119, rfl, ho0, ho1, hb⟩; refine mv7 (am (Kd.S_below (by (with_reducible repeat (first | apply Kd.S_alloc | apply Kd.S_drewN | apply Kd.S_drew)); exact HO104.out) hb)) (am (Kd.S_below (by (with_reducible repeat (first | apply Kd.S_alloc | apply Kd.S_drewN | apply Kd.S_drew)); exact HO106.out) hb)) (am (Kd.R_elder' (Kd.R_o HO111.out) (Kd.R_base ho0) hb)) (am (Kd.R_elder' (Kd.R_o HO113.out) (Kd.R_base ho1) hb)) (am (Kd.R_lower (Kd.R_new' ho0 (Kd.R_lt (Kd.R_o HO111.out))) (below_size (by exact bl_o HB.out)))) (am (Kd.R_lower (Kd.R_new' ho1 (Kd.R_lt (Kd.R_o HO113.out))) (below_size (by exact bl_o HB.out)))) (am (below_step (by exact bl_o HB.out) hb)) ?_; clear HO104 HO106 HO111 HO113 HB; intro HO104 HO106 HO111 HO113 HO118 HO120 HB; (try clear ho1)))
 repeat (go_quiet (first | (go_at_call 8; (with_reducible refine (gangwaylaw14_tables.calls k _ _ l0 _ _ l1 t101 t102 _ ?side1 ?side2 ?side3 ?side4 A5.out).mono ?_); (case side1 => exact Kd.C_o HR0.out); (case side2 => exact HC0.out); (case side3 => exact Kd.C_o HR1.out); (case side4 => exact HC1.out); rintro e w9 ⟨v103, v105, rfl, ho0, ho1, hb⟩; refine mv3 (am (Kd.S_lower ho0 (below_size (by exact bl_o HB.out)))) (am (Kd.S_lower ho1 (below_size (by exact bl_o HB.out)))) (am (below_step (by exact bl_o HB.out) hb)) ?_; clear HB; intro HO104 HO106 HB; (try clear ho1); obtain ⟨Ao10, co10, eo10⟩ := Kd.S_slice HO104.out; subst eo10; obtain ⟨Ao11, co11, eo11⟩ := Kd.S_slice HO106.out; subst eo11) | (go_at_call 9; (with_reducible refine (ehframe_Write.calls k _ _ t101 _ _ t102 a2 a3 t107 t108 t109 _ ?side1 ?side2 ?side3 ?side4 A6.out).mono ?_); (case side1 => exact Kd.C_o ((Kd.S_reads' HO104.out).2.2)); (case side2 => exact (Kd.S_reads' HO104.out).2.1); (case side3 => exact Kd.C_o ((Kd.S_reads' HO106.out).2.2)); (case side4 => exact (Kd.S_reads' HO106.out).2.1); rintro e w12 ⟨v110, v112, rfl, ho0, ho1, hb⟩; refine mv5 (am (Kd.S_below (by (with_reducible repeat (first | apply Kd.S_alloc | apply Kd.S_drewN | apply Kd.S_drew)); exact HO104.out) hb)) (am (Kd.S_below (by (with_reducible repeat (first | apply Kd.S_alloc | apply Kd.S_drewN | apply Kd.S_drew)); exact HO106.out) hb)) (am (Kd.R_lower ho0 (below_size (by exact bl_o HB.out)))) (am (Kd.R_lower ho1 (below_size (by exact bl_o HB.out)))) (am (below_step (by exact bl_o HB.out) hb)) ?_; clear HO104 HO106 HB; intro HO104 HO106 HO111 HO113 HB; (try clear ho1)) | (go_at_call 10; (with_reducible refine (gangwayref14_Write.calls k _ _ l0 _ _ l1 a2 a3 t114 t115 t116 _ ?side1 ?side2 ?side3 ?side4 A7.out).mono ?_); (case side1 => exact Kd.C_o (Kd.C_below HR0.out HB.out)); (case side2 => exact HC0.out); (case side3 => exact Kd.C_o (Kd.C_below HR1.out HB.out)); (case side4 => exact HC1.out); rintro e w13 ⟨v117, v119, rfl, ho0, ho1, hb⟩; refine mv7 (am (Kd.S_below (by (with_reducible repeat (first | apply Kd.S_alloc | apply Kd.S_drewN | apply Kd.S_drew)); exact HO104.out) hb)) (am (Kd.S_below (by (with_reducible repeat (first | apply Kd.S_alloc | apply Kd.S_drewN | apply Kd.S_drew)); exact HO106.out) hb)) (am (Kd.R_elder' (Kd.R_o HO111.out) (Kd.R_base ho0) hb)) (am (Kd.R_elder' (Kd.R_o HO113.out) (Kd.R_base ho1) hb)) (am (Kd.R_lower (Kd.R_new' ho0 (Kd.R_lt (Kd.R_o HO111.out))) (below_size (by exact bl_o HB.out)))) (am (Kd.R_lower (Kd.R_new' ho1 (Kd.R_lt (Kd.R_o HO113.out))) (below_size (by exact bl_o HB.out)))) (am (below_step (by exact bl_o HB.out) hb)) ?_; clear HO104 HO106 HO111 HO113 HB; intro HO104 HO106 HO111 HO113 HO118 HO120 HB; (try clear ho1))); go_upto_region 4 with (first | (go_at_call 8; (with_reducible refine (gangwaylaw14_tables.calls k _ _ l0 _ _ l1 t101 t102 _ ?side1 ?side2 ?side3 ?side4 A5.out).mono ?_); (case side1 => exact Kd.C_o HR0.out); (case side2 => exact HC0.out); (case side3 => exact Kd.C_o HR1.out); (case side4 => exact HC1.out); rintro e w9 ⟨v103, v105, rfl, ho0, ho1, hb⟩; refine mv3 (am (Kd.S_lower ho0 (below_size (by exact bl_o HB.out)))) (am (Kd.S_lower ho1 (below_size (by exact bl_o HB.out)))) (am (below_step (by exact bl_o HB.out) hb)) ?_; clear HB; intro HO104 HO106 HB; (try clear ho1); obtain ⟨Ao10, co10, eo10⟩ := Kd.S_slice HO104.out; subst eo10; obtain ⟨Ao11, co11, eo11⟩ := Kd.S_slice HO106.out; subst eo11) | (go_at_call 9; (with_reducible refine (ehframe_Write.calls k _ _ t101 _ _ t102 a2 a3 t107 t108 t109 _ ?side1 ?side2 ?side3 ?side4 A6.out).mono ?_); (case side1 => exact Kd.C_o ((Kd.S_reads' HO104.out).2.2)); (case side2 => exact (Kd.S_reads' HO104.out).2.1); (case side3 => exact Kd.C_o ((Kd.S_reads' HO106.out).2.2)); (case side4 => exact (Kd.S_reads' HO106.out).2.1); rintro e w12 ⟨v110, v112, rfl, ho0, ho1, hb⟩; refine mv5 (am (Kd.S_below (by (with_reducible repeat (first | apply Kd.S_alloc | apply Kd.S_drewN | apply Kd.S_drew)); exact HO104.out) hb)) (am (Kd.S_below (by (with_reducible repeat (first | apply Kd.S_alloc | apply Kd.S_drewN | apply Kd.S_drew)); exact HO106.out) hb)) (am (Kd.R_lower ho0 (below_size (by exact bl_o HB.out)))) (am (Kd.R_lower ho1 (below_size (by exact bl_o HB.out)))) (am (below_step (by exact bl_o HB.out) hb)) ?_; clear HO104 HO106 HB; intro HO104 HO106 HO111 HO113 HB; (try clear ho1)) | (go_at_call 10; (with_reducible refine (gangwayref14_Write.calls k _ _ l0 _ _ l1 a2 a3 t114 t115 t116 _ ?side1 ?side2 ?side3 ?side4 A7.out).mono ?_); (case side1 => exact Kd.C_o (Kd.C_below HR0.out HB.out)); (case side2 => exact HC0.out); (case side3 => exact Kd.C_o (Kd.C_below HR1.out HB.out)); (case side4 => exact HC1.out); rintro e w13 ⟨v117, v119, rfl, ho0, ho1, hb⟩; refine mv7 (am (Kd.S_below (by (with_reducible repeat (first | apply Kd.S_alloc | apply Kd.S_drewN | apply Kd.S_drew)); exact HO104.out) hb)) (am (Kd.S_below (by (with_reducible repeat (first | apply Kd.S_alloc | apply Kd.S_drewN | apply Kd.S_drew)); exact HO106.out) hb)) (am (Kd.R_elder' (Kd.R_o HO111.out) (Kd.R_base ho0) hb)) (am (Kd.R_elder' (Kd.R_o HO113.out) (Kd.R_base ho1) hb)) (am (Kd.R_lower (Kd.R_new' ho0 (Kd.R_lt (Kd.R_o HO111.out))) (below_size (by exact bl_o HB.out)))) (am (Kd.R_lower (Kd.R_new' ho1 (Kd.R_lt (Kd.R_o HO113.out))) (below_size (by exact bl_o HB.out)))) (am (below_step (by exact bl_o HB.out) hb)) ?_; clear HO104 HO106 HO111 HO113 HB; intro HO104 HO106 HO111 HO113 HO118 HO120 HB; (try clear ho1))))
 (try simp only [Act.put, List.setIfInBounds_toArray, List.set_cons_zero, List.set_cons_succ])
 go_cut [77] (fun v77 wc => ∃ (kq : Nat) (x77_7 : Bool), v77 = .bool x77_7 ∧ Aside0 (gangwaylaw14_EhframeWrites.j0 kq t108 t115 x77_7 = some r) ∧ Aside0 (kq ≤ k) ∧ Aside0 (Kd.R (Kd.int .i64) 3 wc w.heap.size (fun k_ => some k_ ≠ (v119 : Value).ownBlock) v112 t108) ∧ Aside0 (Kd.R (Kd.int .i64) 3 wc w.heap.size (fun k_ => some k_ ≠ (v112 : Value).ownBlock) v119 t115) ∧ Aside0 (Below w.heap.size w wc))
 case first =>
  have H := HC8.out
  clear HC8
  replace H := Option.bind_eq_some_iff.mp H
  obtain ⟨t121, A140, H⟩ := H
  replace H : ((gangwaylaw14_num.f t121).bind fun t122 => ((gangwayref14_Check.f k l0 l1).bind fun t123 => (if t122 = t123 then (if (strOfNums t107).toList = (strOfNums t114).toList then (if (t108.length : Int) = (t115.length : Int) then ((gangwaylaw14_num.f t109).bind fun t124 => (if t124 = t116 then ((gangwaylaw14_same.f k t101 t102 l0 l1).bind fun t125 => (gangwaylaw14_EhframeWrites.j0 k t108 t115 (!t125))) else (gangwaylaw14_EhframeWrites.j0 k t108 t115 true))) else (gangwaylaw14_EhframeWrites.j0 k t108 t115 true)) else (gangwaylaw14_EhframeWrites.j0 k t108 t115 true)) else (gangwaylaw14_EhframeWrites.j0 k t108 t115 true)))) = some r := H
  have A14 := am A140
  clear A140
  replace H := Option.bind_eq_some_iff.mp H
  obtain ⟨t122, A150, H⟩ := H
  replace H : ((gangwayref14_Check.f k l0 l1).bind fun t123 => (if t122 = t123 then (if (strOfNums t107).toList = (strOfNums t114).toList then (if (t108.length : Int) = (t115.length : Int) then ((gangwaylaw14_num.f t109).bind fun t124 => (if t124 = t116 then ((gangwaylaw14_same.f k t101 t102 l0 l1).bind fun t125 => (gangwaylaw14_EhframeWrites.j0 k t108 t115 (!t125))) else (gangwaylaw14_EhframeWrites.j0 k t108 t115 true))) else (gangwaylaw14_EhframeWrites.j0 k t108 t115 true)) else (gangwaylaw14_EhframeWrites.j0 k t108 t115 true)) else (gangwaylaw14_EhframeWrites.j0 k t108 t115 true))) = some r := H
  have A15 := am A150
  clear A150
  replace H := Option.bind_eq_some_iff.mp H
  obtain ⟨t123, A160, H⟩ := H
  replace H : (if t122 = t123 then (if (strOfNums t107).toList = (strOfNums t114).toList then (if (t108.length : Int) = (t115.length : Int) then ((gangwaylaw14_num.f t109).bind fun t124 => (if t124 = t116 then ((gangwaylaw14_same.f k t101 t102 l0 l1).bind fun t125 => (gangwaylaw14_EhframeWrites.j0 k t108 t115 (!t125))) else (gangwaylaw14_EhframeWrites.j0 k t108 t115 true))) else (gangwaylaw14_EhframeWrites.j0 k t108 t115 true)) else (gangwaylaw14_EhframeWrites.j0 k t108 t115 true)) else (gangwaylaw14_EhframeWrites.j0 k t108 t115 true)) = some r := H
  have A16 := am A160
  clear A160
  by_cases c17 : t122 = t123
  rotate_left
  ·
   rw [if_neg c17] at H
   have c17b0 : (t122 == t123) = false := beq_eq_false_iff_ne.mpr c17
   have c17b1 : (t122 != t123) = true := bne_iff_ne.mpr c17
   (first | rw [c17b0] | (simp only [i64_w, i32_w]; rw [c17b0]) | skip)
   have H' := am H
   clear H
   go_wp2_with (first | (go_at_call 12; (with_reducible refine (ehframe_Check.calls k _ _ t101 _ _ t102 t121 _ ?side1 ?side2 ?side3 ?side4 A14.out).mono ?_); (case side1 => exact Kd.C_o ((Kd.S_reads' HO104.out).2.2)); (case side2 => exact (Kd.S_reads' HO104.out).2.1); (case side3 => exact Kd.C_o ((Kd.S_reads' HO106.out).2.2)); (case side4 => exact (Kd.S_reads' HO106.out).2.1); rintro e w54 ⟨rfl, hb⟩; refine mv7 (am (Kd.S_below (by (with_reducible repeat (first | apply Kd.S_alloc | apply Kd.S_drewN | apply Kd.S_drew)); exact HO104.out) hb)) (am (Kd.S_below (by (with_reducible repeat (first | apply Kd.S_alloc | apply Kd.S_drewN | apply Kd.S_drew)); exact HO106.out) hb)) (am (Kd.R_below (Kd.R_o HO111.out) hb)) (am (Kd.R_below (Kd.R_o HO113.out) hb)) (am (Kd.R_below (Kd.R_o HO118.out) hb)) (am (Kd.R_below (Kd.R_o HO120.out) hb)) (am (below_step (by exact bl_o HB.out) hb)) ?_; clear HO104 HO106 HO111 HO113 HO118 HO120 HB; intro HO104 HO106 HO111 HO113 HO118 HO120 HB) | (go_at_call 11; (with_reducible refine (gangwaylaw14_num.calls t121 t122 _ A15.out).mono ?_); rintro e w' ⟨rfl, ⟨nd, rfl⟩⟩; (try first | exact ⟨rfl, _, World.drewN_drewN _ _ _⟩ | exact ⟨rfl, _, Eq.trans (World.drewN_drewN _ _ _) (congrArg (World.drewN _) (Nat.add_assoc _ _ _))⟩)) | (go_at_call 13; (with_reducible refine (gangwayref14_Check.calls k _ _ l0 _ _ l1 t123 _ ?side1 ?side2 ?side3 ?side4 A16.out).mono ?_); (case side1 => exact Kd.C_below HR0.out (by exact bl_o HB.out)); (case side2 => exact HC0.out); (case side3 => exact Kd.C_below HR1.out (by exact bl_o HB.out)); (case side4 => exact HC1.out); rintro e w55 ⟨rfl, hb⟩; refine mv7 (am (Kd.S_below (by (with_reducible repeat (first | apply Kd.S_alloc | apply Kd.S_drewN | apply Kd.S_drew)); exact HO104.out) hb)) (am (Kd.S_below (by (with_reducible repeat (first | apply Kd.S_alloc | apply Kd.S_drewN | apply Kd.S_drew)); exact HO106.out) hb)) (am (Kd.R_below (Kd.R_o HO111.out) hb)) (am (Kd.R_below (Kd.R_o HO113.out) hb)) (am (Kd.R_below (Kd.R_o HO118.out) hb)) (am (Kd.R_below (Kd.R_o HO120.out) hb)) (am (below_step (by exact bl_o HB.out) hb)) ?_; clear HO104 HO106 HO111 HO113 HO118 HO120 HB; intro HO104 HO106 HO111 HO113 HO118 HO120 HB))
   repeat (go_quiet (first | (go_at_call 12; (with_reducible refine (ehframe_Check.calls k _ _ t101 _ _ t102 t121 _ ?side1 ?side2 ?side3 ?side4 A14.out).mono ?_); (case side1 => exact Kd.C_o ((Kd.S_reads' HO104.out).2.2)); (case side2 => exact (Kd.S_reads' HO104.out).2.1); (case side3 => exact Kd.C_o ((Kd.S_reads' HO106.out).2.2)); (case side4 => exact (Kd.S_reads' HO106.out).2.1); rintro e w54 ⟨rfl, hb⟩; refine mv7 (am (Kd.S_below (by (with_reducible repeat (first | apply Kd.S_alloc | apply Kd.S_drewN | apply Kd.S_drew)); exact HO104.out) hb)) (am (Kd.S_below (by (with_reducible repeat (first | apply Kd.S_alloc | apply Kd.S_drewN | apply Kd.S_drew)); exact HO106.out) hb)) (am (Kd.R_below (Kd.R_o HO111.out) hb)) (am (Kd.R_below (Kd.R_o HO113.out) hb)) (am (Kd.R_below (Kd.R_o HO118.out) hb)) (am (Kd.R_below (Kd.R_o HO120.out) hb)) (am (below_step (by exact bl_o HB.out) hb)) ?_; clear HO104 HO106 HO111 HO113 HO118 HO120 HB; intro HO104 HO106 HO111 HO113 HO118 HO120 HB) | (go_at_call 11; (with_reducible refine (gangwaylaw14_num.calls t121 t122 _ A15.out).mono ?_); rintro e w' ⟨rfl, ⟨nd, rfl⟩⟩; (try first | exact ⟨rfl, _, World.drewN_drewN _ _ _⟩ | exact ⟨rfl, _, Eq.trans (World.drewN_drewN _ _ _) (congrArg (World.drewN _) (Nat.add_assoc _ _ _))⟩)) | (go_at_call 13; (with_reducible refine (gangwayref14_Check.calls k _ _ l0 _ _ l1 t123 _ ?side1 ?side2 ?side3 ?side4 A16.out).mono ?_); (case side1 => exact Kd.C_below HR0.out (by exact bl_o HB.out)); (case side2 => exact HC0.out); (case side3 => exact Kd.C_below HR1.out (by exact bl_o HB.out)); (case side4 => exact HC1.out); rintro e w55 ⟨rfl, hb⟩; refine mv7 (am (Kd.S_below (by (with_reducible repeat (first | apply Kd.S_alloc | apply Kd.S_drewN | apply Kd.S_drew)); exact HO104.out) hb)) (am (Kd.S_below (by (with_reducible repeat (first | apply Kd.S_alloc | apply Kd.S_drewN | apply Kd.S_drew)); exact HO106.out) hb)) (am (Kd.R_below (Kd.R_o HO111.out) hb)) (am (Kd.R_below (Kd.R_o HO113.out) hb)) (am (Kd.R_below (Kd.R_o HO118.out) hb)) (am (Kd.R_below (Kd.R_o HO120.out) hb)) (am (below_step (by exact bl_o HB.out) hb)) ?_; clear HO104 HO106 HO111 HO113 HO118 HO120 HB; intro HO104 HO106 HO111 HO113 HO118 HO120 HB)); try go_wp2_with (first | (go_at_call 12; (with_reducible refine (ehframe_Check.calls k _ _ t101 _ _ t102 t121 _ ?side1 ?side2 ?side3 ?side4 A14.out).mono ?_); (case side1 => exact Kd.C_o ((Kd.S_reads' HO104.out).2.2)); (case side2 => exact (Kd.S_reads' HO104.out).2.1); (case side3 => exact Kd.C_o ((Kd.S_reads' HO106.out).2.2)); (case side4 => exact (Kd.S_reads' HO106.out).2.1); rintro e w54 ⟨rfl, hb⟩; refine mv7 (am (Kd.S_below (by (with_reducible repeat (first | apply Kd.S_alloc | apply Kd.S_drewN | apply Kd.S_drew)); exact HO104.out) hb)) (am (Kd.S_below (by (with_reducible repeat (first | apply Kd.S_alloc | apply Kd.S_drewN | apply Kd.S_drew)); exact HO106.out) hb)) (am (Kd.R_below (Kd.R_o HO111.out) hb)) (am (Kd.R_below (Kd.R_o HO113.out) hb)) (am (Kd.R_below (Kd.R_o HO118.out) hb)) (am (Kd.R_below (Kd.R_o HO120.out) hb)) (am (below_step (by exact bl_o HB.out) hb)) ?_; clear HO104 HO106 HO111 HO113 HO118 HO120 HB; intro HO104 HO106 HO111 HO113 HO118 HO120 HB) | (go_at_call 11; (with_reducible refine (gangwaylaw14_num.calls t121 t122 _ A15.out).mono ?_); rintro e w' ⟨rfl, ⟨nd, rfl⟩⟩; (try first | exact ⟨rfl, _, World.drewN_drewN _ _ _⟩ | exact ⟨rfl, _, Eq.trans (World.drewN_drewN _ _ _) (congrArg (World.drewN _) (Nat.add_assoc _ _ _))⟩)) | (go_at_call 13; (with_reducible refine (gangwayref14_Check.calls k _ _ l0 _ _ l1 t123 _ ?side1 ?side2 ?side3 ?side4 A16.out).mono ?_); (case side1 => exact Kd.C_below HR0.out (by exact bl_o HB.out)); (case side2 => exact HC0.out); (case side3 => exact Kd.C_below HR1.out (by exact bl_o HB.out)); (case side4 => exact HC1.out); rintro e w55 ⟨rfl, hb⟩; refine mv7 (am (Kd.S_below (by (with_reducible repeat (first | apply Kd.S_alloc | apply Kd.S_drewN | apply Kd.S_drew)); exact HO104.out) hb)) (am (Kd.S_below (by (with_reducible repeat (first | apply Kd.S_alloc | apply Kd.S_drewN | apply Kd.S_drew)); exact HO106.out) hb)) (am (Kd.R_below (Kd.R_o HO111.out) hb)) (am (Kd.R_below (Kd.R_o HO113.out) hb)) (am (Kd.R_below (Kd.R_o HO118.out) hb)) (am (Kd.R_below (Kd.R_o HO120.out) hb)) (am (below_step (by exact bl_o HB.out) hb)) ?_; clear HO104 HO106 HO111 HO113 HO118 HO120 HB; intro HO104 HO106 HO111 HO113 HO118 HO120 HB)))
   go_meet
   case rel => exact ⟨_, (true), (by first | rfl | (simp; done) | (simp [*]; done)), H', ⟨by first | omega | exact Nat.le_refl _⟩, ⟨by (with_reducible repeat (first | apply Kd.R_alloc | apply Kd.R_drewN | apply Kd.R_drew)); exact Kd.R_mono HO113.out (fun _ hk => hk.2)⟩, ⟨by (with_reducible repeat (first | apply Kd.R_alloc | apply Kd.R_drewN | apply Kd.R_drew)); exact Kd.R_mono HO120.out (fun _ hk => hk.2)⟩, ⟨by exact bl_g HB.out⟩⟩
  rw [if_pos c17] at H
  have c17b0 : (t122 == t123) = true := beq_iff_eq.mpr c17
  have c17b1 : (t122 != t123) = false := bne_eq_false_iff_eq.mpr c17
  clear c17
  (first | rw [c17b0] | (simp only [i64_w, i32_w]; rw [c17b0]) | skip)
  by_cases c18 : (strOfNums t107).toList = (strOfNums t114).toList
  rotate_left
  ·
   rw [if_neg c18] at H
   have c18b0 : ((strOfNums t107).toList == (strOfNums t114).toList) = false := beq_eq_false_iff_ne.mpr c18
   have c18b1 : ((strOfNums t107).toList != (strOfNums t114).toList) = true := bne_iff_ne.mpr c18
   have H' := am H
   clear H
   go_wp2_with (first | (go_at_call 12; (with_reducible refine (ehframe_Check.calls k _ _ t101 _ _ t102 t121 _ ?side1 ?side2 ?side3 ?side4 A14.out).mono ?_); (case side1 => exact Kd.C_o ((Kd.S_reads' HO104.out).2.2)); (case side2 => exact (Kd.S_reads' HO104.out).2.1); (case side3 => exact Kd.C_o ((Kd.S_reads' HO106.out).2.2)); (case side4 => exact (Kd.S_reads' HO106.out).2.1); rintro e w48 ⟨rfl, hb⟩; refine mv7 (am (Kd.S_below (by (with_reducible repeat (first | apply Kd.S_alloc | apply Kd.S_drewN | apply Kd.S_drew)); exact HO104.out) hb)) (am (Kd.S_below (by (with_reducible repeat (first | apply Kd.S_alloc | apply Kd.S_drewN | apply Kd.S_drew)); exact HO106.out) hb)) (am (Kd.R_below (Kd.R_o HO111.out) hb)) (am (Kd.R_below (Kd.R_o HO113.out) hb)) (am (Kd.R_below (Kd.R_o HO118.out) hb)) (am (Kd.R_below (Kd.R_o HO120.out) hb)) (am (below_step (by exact bl_o HB.out) hb)) ?_; clear HO104 HO106 HO111 HO113 HO118 HO120 HB; intro HO104 HO106 HO111 HO113 HO118 HO120 HB) | (go_at_call 11; (with_reducible refine (gangwaylaw14_num.calls t121 t122 _ A15.out).mono ?_); rintro e w' ⟨rfl, ⟨nd, rfl⟩⟩; (try first | exact ⟨rfl, _, World.drewN_drewN _ _ _⟩ | exact ⟨rfl, _, Eq.trans (World.drewN_drewN _ _ _) (congrArg (World.drewN _) (Nat.add_assoc _ _ _))⟩)) | (go_at_call 13; (with_reducible refine (gangwayref14_Check.calls k _ _ l0 _ _ l1 t123 _ ?side1 ?side2 ?side3 ?side4 A16.out).mono ?_); (case side1 => exact Kd.C_below HR0.out (by exact bl_o HB.out)); (case side2 => exact HC0.out); (case side3 => exact Kd.C_below HR1.out (by exact bl_o HB.out)); (case side4 => exact HC1.out); rintro e w49 ⟨rfl, hb⟩; refine mv7 (am (Kd.S_below (by (with_reducible repeat (first | apply Kd.S_alloc | apply Kd.S_drewN | apply Kd.S_drew)); exact HO104.out) hb)) (am (Kd.S_below (by (with_reducible repeat (first | apply Kd.S_alloc | apply Kd.S_drewN | apply Kd.S_drew)); exact HO106.out) hb)) (am (Kd.R_below (Kd.R_o HO111.out) hb)) (am (Kd.R_below (Kd.R_o HO113.out) hb)) (am (Kd.R_below (Kd.R_o HO118.out) hb)) (am (Kd.R_below (Kd.R_o HO120.out) hb)) (am (below_step (by exact bl_o HB.out) hb)) ?_; clear HO104 HO106 HO111 HO113 HO118 HO120 HB; intro HO104 HO106 HO111 HO113 HO118 HO120 HB; have hcv50 := own_string (P := Try.prog) Try.underlying28 Try.underlying5 Try.underlying9 (Kd.own_of_R HO111.out); have hcv51 := fun (m_ : Nat) => own_string (P := Try.prog) Try.underlying28 Try.underlying5 Try.underlying9 (Kd.own_of_R (Kd.R_drewN HO111.out m_)); have hcv52 := own_string (P := Try.prog) Try.underlying28 Try.underlying5 Try.underlying9 (Kd.own_of_R HO118.out); have hcv53 := fun (m_ : Nat) => own_string (P := Try.prog) Try.underlying28 Try.underlying5 Try.underlying9 (Kd.own_of_R (Kd.R_drewN HO118.out m_))))
   repeat (go_quiet (first | (go_at_call 12; (with_reducible refine (ehframe_Check.calls k _ _ t101 _ _ t102 t121 _ ?side1 ?side2 ?side3 ?side4 A14.out).mono ?_); (case side1 => exact Kd.C_o ((Kd.S_reads' HO104.out).2.2)); (case side2 => exact (Kd.S_reads' HO104.out).2.1); (case side3 => exact Kd.C_o ((Kd.S_reads' HO106.out).2.2)); (case side4 => exact (Kd.S_reads' HO106.out).2.1); rintro e w48 ⟨rfl, hb⟩; refine mv7 (am (Kd.S_below (by (with_reducible repeat (first | apply Kd.S_alloc | apply Kd.S_drewN | apply Kd.S_drew)); exact HO104.out) hb)) (am (Kd.S_below (by (with_reducible repeat (first | apply Kd.S_alloc | apply Kd.S_drewN | apply Kd.S_drew)); exact HO106.out) hb)) (am (Kd.R_below (Kd.R_o HO111.out) hb)) (am (Kd.R_below (Kd.R_o HO113.out) hb)) (am (Kd.R_below (Kd.R_o HO118.out) hb)) (am (Kd.R_below (Kd.R_o HO120.out) hb)) (am (below_step (by exact bl_o HB.out) hb)) ?_; clear HO104 HO106 HO111 HO113 HO118 HO120 HB; intro HO104 HO106 HO111 HO113 HO118 HO120 HB) | (go_at_call 11; (with_reducible refine (gangwaylaw14_num.calls t121 t122 _ A15.out).mono ?_); rintro e w' ⟨rfl, ⟨nd, rfl⟩⟩; (try first | exact ⟨rfl, _, World.drewN_drewN _ _ _⟩ | exact ⟨rfl, _, Eq.trans (World.drewN_drewN _ _ _) (congrArg (World.drewN _) (Nat.add_assoc _ _ _))⟩)) | (go_at_call 13; (with_reducible refine (gangwayref14_Check.calls k _ _ l0 _ _ l1 t123 _ ?side1 ?side2 ?side3 ?side4 A16.out).mono ?_); (case side1 => exact Kd.C_below HR0.out (by exact bl_o HB.out)); (case side2 => exact HC0.out); (case side3 => exact Kd.C_below HR1.out (by exact bl_o HB.out)); (case side4 => exact HC1.out); rintro e w49 ⟨rfl, hb⟩; refine mv7 (am (Kd.S_below (by (with_reducible repeat (first | apply Kd.S_alloc | apply Kd.S_drewN | apply Kd.S_drew)); exact HO104.out) hb)) (am (Kd.S_below (by (with_reducible repeat (first | apply Kd.S_alloc | apply Kd.S_drewN | apply Kd.S_drew)); exact HO106.out) hb)) (am (Kd.R_below (Kd.R_o HO111.out) hb)) (am (Kd.R_below (Kd.R_o HO113.out) hb)) (am (Kd.R_below (Kd.R_o HO118.out) hb)) (am (Kd.R_below (Kd.R_o HO120.out) hb)) (am (below_step (by exact bl_o HB.out) hb)) ?_; clear HO104 HO106 HO111 HO113 HO118 HO120 HB; intro HO104 HO106 HO111 HO113 HO118 HO120 HB; have hcv50 := own_string (P := Try.prog) Try.underlying28 Try.underlying5 Try.underlying9 (Kd.own_of_R HO111.out); have hcv51 := fun (m_ : Nat) => own_string (P := Try.prog) Try.underlying28 Try.underlying5 Try.underlying9 (Kd.own_of_R (Kd.R_drewN HO111.out m_)); have hcv52 := own_string (P := Try.prog) Try.underlying28 Try.underlying5 Try.underlying9 (Kd.own_of_R HO118.out); have hcv53 := fun (m_ : Nat) => own_string (P := Try.prog) Try.underlying28 Try.underlying5 Try.underlying9 (Kd.own_of_R (Kd.R_drewN HO118.out m_)))); try go_wp2_with (first | (go_at_call 12; (with_reducible refine (ehframe_Check.calls k _ _ t101 _ _ t102 t121 _ ?side1 ?side2 ?side3 ?side4 A14.out).mono ?_); (case side1 => exact Kd.C_o ((Kd.S_reads' HO104.out).2.2)); (case side2 => exact (Kd.S_reads' HO104.out).2.1); (case side3 => exact Kd.C_o ((Kd.S_reads' HO106.out).2.2)); (case side4 => exact (Kd.S_reads' HO106.out).2.1); rintro e w48 ⟨rfl, hb⟩; refine mv7 (am (Kd.S_below (by (with_reducible repeat (first | apply Kd.S_alloc | apply Kd.S_drewN | apply Kd.S_drew)); exact HO104.out) hb)) (am (Kd.S_below (by (with_reducible repeat (first | apply Kd.S_alloc | apply Kd.S_drewN | apply Kd.S_drew)); exact HO106.out) hb)) (am (Kd.R_below (Kd.R_o HO111.out) hb)) (am (Kd.R_below (Kd.R_o HO113.out) hb)) (am (Kd.R_below (Kd.R_o HO118.out) hb)) (am (Kd.R_below (Kd.R_o HO120.out) hb)) (am (below_step (by exact bl_o HB.out) hb)) ?_; clear HO104 HO106 HO111 HO113 HO118 HO120 HB; intro HO104 HO106 HO111 HO113 HO118 HO120 HB) | (go_at_call 11; (with_reducible refine (gangwaylaw14_num.calls t121 t122 _ A15.out).mono ?_); rintro e w' ⟨rfl, ⟨nd, rfl⟩⟩; (try first | exact ⟨rfl, _, World.drewN_drewN _ _ _⟩ | exact ⟨rfl, _, Eq.trans (World.drewN_drewN _ _ _) (congrArg (World.drewN _) (Nat.add_assoc _ _ _))⟩)) | (go_at_call 13; (with_reducible refine (gangwayref14_Check.calls k _ _ l0 _ _ l1 t123 _ ?side1 ?side2 ?side3 ?side4 A16.out).mono ?_); (case side1 => exact Kd.C_below HR0.out (by exact bl_o HB.out)); (case side2 => exact HC0.out); (case side3 => exact Kd.C_below HR1.out (by exact bl_o HB.out)); (case side4 => exact HC1.out); rintro e w49 ⟨rfl, hb⟩; refine mv7 (am (Kd.S_below (by (with_reducible repeat (first | apply Kd.S_alloc | apply Kd.S_drewN | apply Kd.S_drew)); exact HO104.out) hb)) (am (Kd.S_below (by (with_reducible repeat (first | apply Kd.S_alloc | apply Kd.S_drewN | apply Kd.S_drew)); exact HO106.out) hb)) (am (Kd.R_below (Kd.R_o HO111.out) hb)) (am (Kd.R_below (Kd.R_o HO113.out) hb)) (am (Kd.R_below (Kd.R_o HO118.out) hb)) (am (Kd.R_below (Kd.R_o HO120.out) hb)) (am (below_step (by exact bl_o HB.out) hb)) ?_; clear HO104 HO106 HO111 HO113 HO118 HO120 HB; intro HO104 HO106 HO111 HO113 HO118 HO120 HB; have hcv50 := own_string (P := Try.prog) Try.underlying28 Try.underlying5 Try.underlying9 (Kd.own_of_R HO111.out); have hcv51 := fun (m_ : Nat) => own_string (P := Try.prog) Try.underlying28 Try.underlying5 Try.underlying9 (Kd.own_of_R (Kd.R_drewN HO111.out m_)); have hcv52 := own_string (P := Try.prog) Try.underlying28 Try.underlying5 Try.underlying9 (Kd.own_of_R HO118.out); have hcv53 := fun (m_ : Nat) => own_string (P := Try.prog) Try.underlying28 Try.underlying5 Try.underlying9 (Kd.own_of_R (Kd.R_drewN HO118.out m_)))))
   go_meet
   case rel => exact ⟨_, (true), (by first | rfl | (simp; done) | (simp [*]; done)), H', ⟨by first | omega | exact Nat.le_refl _⟩, ⟨by (with_reducible repeat (first | apply Kd.R_alloc | apply Kd.R_drewN | apply Kd.R_drew)); exact Kd.R_mono HO113.out (fun _ hk => hk.2)⟩, ⟨by (with_reducible repeat (first | apply Kd.R_alloc | apply Kd.R_drewN | apply Kd.R_drew)); exact Kd.R_mono HO120.out (fun _ hk => hk.2)⟩, ⟨by exact bl_g HB.out⟩⟩
  rw [if_pos c18] at H
  have c18b0 : ((strOfNums t107).toList == (strOfNums t114).toList) = true := beq_iff_eq.mpr c18
  have c18b1 : ((strOfNums t107).toList != (strOfNums t114).toList) = false := bne_eq_false_iff_eq.mpr c18
  clear c18
  by_cases c19 : (t108.length : Int) = (t115.length : Int)
  rotate_left
  ·
   rw [if_neg c19] at H
   have c19b0 : ((t108.length : Int) == (t115.length : Int)) = false := beq_eq_false_iff_ne.mpr c19
   have c19b1 : ((t108.length : Int) != (t115.length : Int)) = true := bne_iff_ne.mpr c19
   have c19b2 : (t108.length == t115.length) = false := by first | simpa using c19 | (simp at c19 ⊢; omega)
   have H' := am H
   clear H
   go_wp2_with (first | (go_at_call 12; (with_reducible refine (ehframe_Check.calls k _ _ t101 _ _ t102 t121 _ ?side1 ?side2 ?side3 ?side4 A14.out).mono ?_); (case side1 => exact Kd.C_o ((Kd.S_reads' HO104.out).2.2)); (case side2 => exact (Kd.S_reads' HO104.out).2.1); (case side3 => exact Kd.C_o ((Kd.S_reads' HO106.out).2.2)); (case side4 => exact (Kd.S_reads' HO106.out).2.1); rintro e w40 ⟨rfl, hb⟩; refine mv7 (am (Kd.S_below (by (with_reducible repeat (first | apply Kd.S_alloc | apply Kd.S_drewN | apply Kd.S_drew)); exact HO104.out) hb)) (am (Kd.S_below (by (with_reducible repeat (first | apply Kd.S_alloc | apply Kd.S_drewN | apply Kd.S_drew)); exact HO106.out) hb)) (am (Kd.R_below (Kd.R_o HO111.out) hb)) (am (Kd.R_below (Kd.R_o HO113.out) hb)) (am (Kd.R_below (Kd.R_o HO118.out) hb)) (am (Kd.R_below (Kd.R_o HO120.out) hb)) (am (below_step (by exact bl_o HB.out) hb)) ?_; clear HO104 HO106 HO111 HO113 HO118 HO120 HB; intro HO104 HO106 HO111 HO113 HO118 HO120 HB) | (go_at_call 11; (with_reducible refine (gangwaylaw14_num.calls t121 t122 _ A15.out).mono ?_); rintro e w' ⟨rfl, ⟨nd, rfl⟩⟩; (try first | exact ⟨rfl, _, World.drewN_drewN _ _ _⟩ | exact ⟨rfl, _, Eq.trans (World.drewN_drewN _ _ _) (congrArg (World.drewN _) (Nat.add_assoc _ _ _))⟩)) | (go_at_call 13; (with_reducible refine (gangwayref14_Check.calls k _ _ l0 _ _ l1 t123 _ ?side1 ?side2 ?side3 ?side4 A16.out).mono ?_); (case side1 => exact Kd.C_below HR0.out (by exact bl_o HB.out)); (case side2 => exact HC0.out); (case side3 => exact Kd.C_below HR1.out (by exact bl_o HB.out)); (case side4 => exact HC1.out); rintro e w41 ⟨rfl, hb⟩; refine mv7 (am (Kd.S_below (by (with_reducible repeat (first | apply Kd.S_alloc | apply Kd.S_drewN | apply Kd.S_drew)); exact HO104.out) hb)) (am (Kd.S_below (by (with_reducible repeat (first | apply Kd.S_alloc | apply Kd.S_drewN | apply Kd.S_drew)); exact HO106.out) hb)) (am (Kd.R_below (Kd.R_o HO111.out) hb)) (am (Kd.R_below (Kd.R_o HO113.out) hb)) (am (Kd.R_below (Kd.R_o HO118.out) hb)) (am (Kd.R_below (Kd.R_o HO120.out) hb)) (am (below_step (by exact bl_o HB.out) hb)) ?_; clear HO104 HO106 HO111 HO113 HO118 HO120 HB; intro HO104 HO106 HO111 HO113 HO118 HO120 HB; have hcv42 := own_string (P := Try.prog) Try.underlying28 Try.underlying5 Try.underlying9 (Kd.own_of_R HO111.out); have hcv43 := fun (m_ : Nat) => own_string (P := Try.prog) Try.underlying28 Try.underlying5 Try.underlying9 (Kd.own_of_R (Kd.R_drewN HO111.out m_)); have hcv44 := own_string (P := Try.prog) Try.underlying28 Try.underlying5 Try.underlying9 (Kd.own_of_R HO118.out); have hcv45 := fun (m_ : Nat) => own_string (P := Try.prog) Try.underlying28 Try.underlying5 Try.underlying9 (Kd.own_of_R (Kd.R_drewN HO118.out m_)); obtain ⟨Ao46, co46, eo46⟩ := Kd.R_slice HO113.out; subst eo46; obtain ⟨Ao47, co47, eo47⟩ := Kd.R_slice HO120.out; subst eo47))
   repeat (go_quiet (first | (go_at_call 12; (with_reducible refine (ehframe_Check.calls k _ _ t101 _ _ t102 t121 _ ?side1 ?side2 ?side3 ?side4 A14.out).mono ?_); (case side1 => exact Kd.C_o ((Kd.S_reads' HO104.out).2.2)); (case side2 => exact (Kd.S_reads' HO104.out).2.1); (case side3 => exact Kd.C_o ((Kd.S_reads' HO106.out).2.2)); (case side4 => exact (Kd.S_reads' HO106.out).2.1); rintro e w40 ⟨rfl, hb⟩; refine mv7 (am (Kd.S_below (by (with_reducible repeat (first | apply Kd.S_alloc | apply Kd.S_drewN | apply Kd.S_drew)); exact HO104.out) hb)) (am (Kd.S_below (by (with_reducible repeat (first | apply Kd.S_alloc | apply Kd.S_drewN | apply Kd.S_drew)); exact HO106.out) hb)) (am (Kd.R_below (Kd.R_o HO111.out) hb)) (am (Kd.R_below (Kd.R_o HO113.out) hb)) (am (Kd.R_below (Kd.R_o HO118.out) hb)) (am (Kd.R_below (Kd.R_o HO120.out) hb)) (am (below_step (by exact bl_o HB.out) hb)) ?_; clear HO104 HO106 HO111 HO113 HO118 HO120 HB; intro HO104 HO106 HO111 HO113 HO118 HO120 HB) | (go_at_call 11; (with_reducible refine (gangwaylaw14_num.calls t121 t122 _ A15.out).mono ?_); rintro e w' ⟨rfl, ⟨nd, rfl⟩⟩; (try first | exact ⟨rfl, _, World.drewN_drewN _ _ _⟩ | exact ⟨rfl, _, Eq.trans (World.drewN_drewN _ _ _) (congrArg (World.drewN _) (Nat.add_assoc _ _ _))⟩)) | (go_at_call 13; (with_reducible refine (gangwayref14_Check.calls k _ _ l0 _ _ l1 t123 _ ?side1 ?side2 ?side3 ?side4 A16.out).mono ?_); (case side1 => exact Kd.C_below HR0.out (by exact bl_o HB.out)); (case side2 => exact HC0.out); (case side3 => exact Kd.C_below HR1.out (by exact bl_o HB.out)); (case side4 => exact HC1.out); rintro e w41 ⟨rfl, hb⟩; refine mv7 (am (Kd.S_below (by (with_reducible repeat (first | apply Kd.S_alloc | apply Kd.S_drewN | apply Kd.S_drew)); exact HO104.out) hb)) (am (Kd.S_below (by (with_reducible repeat (first | apply Kd.S_alloc | apply Kd.S_drewN | apply Kd.S_drew)); exact HO106.out) hb)) (am (Kd.R_below (Kd.R_o HO111.out) hb)) (am (Kd.R_below (Kd.R_o HO113.out) hb)) (am (Kd.R_below (Kd.R_o HO118.out) hb)) (am (Kd.R_below (Kd.R_o HO120.out) hb)) (am (below_step (by exact bl_o HB.out) hb)) ?_; clear HO104 HO106 HO111 HO113 HO118 HO120 HB; intro HO104 HO106 HO111 HO113 HO118 HO120 HB; have hcv42 := own_string (P := Try.prog) Try.underlying28 Try.underlying5 Try.underlying9 (Kd.own_of_R HO111.out); have hcv43 := fun (m_ : Nat) => own_string (P := Try.prog) Try.underlying28 Try.underlying5 Try.underlying9 (Kd.own_of_R (Kd.R_drewN HO111.out m_)); have hcv44 := own_string (P := Try.prog) Try.underlying28 Try.underlying5 Try.underlying9 (Kd.own_of_R HO118.out); have hcv45 := fun (m_ : Nat) => own_string (P := Try.prog) Try.underlying28 Try.underlying5 Try.underlying9 (Kd.own_of_R (Kd.R_drewN HO118.out m_)); obtain ⟨Ao46, co46, eo46⟩ := Kd.R_slice HO113.out; subst eo46; obtain ⟨Ao47, co47, eo47⟩ := Kd.R_slice HO120.out; subst eo47)); try go_wp2_with (first | (go_at_call 12; (with_reducible refine (ehframe_Check.calls k _ _ t101 _ _ t102 t121 _ ?side1 ?side2 ?side3 ?side4 A14.out).mono ?_); (case side1 => exact Kd.C_o ((Kd.S_reads' HO104.out).2.2)); (case side2 => exact (Kd.S_reads' HO104.out).2.1); (case side3 => exact Kd.C_o ((Kd.S_reads' HO106.out).2.2)); (case side4 => exact (Kd.S_reads' HO106.out).2.1); rintro e w40 ⟨rfl, hb⟩; refine mv7 (am (Kd.S_below (by (with_reducible repeat (first | apply Kd.S_alloc | apply Kd.S_drewN | apply Kd.S_drew)); exact HO104.out) hb)) (am (Kd.S_below (by (with_reducible repeat (first | apply Kd.S_alloc | apply Kd.S_drewN | apply Kd.S_drew)); exact HO106.out) hb)) (am (Kd.R_below (Kd.R_o HO111.out) hb)) (am (Kd.R_below (Kd.R_o HO113.out) hb)) (am (Kd.R_below (Kd.R_o HO118.out) hb)) (am (Kd.R_below (Kd.R_o HO120.out) hb)) (am (below_step (by exact bl_o HB.out) hb)) ?_; clear HO104 HO106 HO111 HO113 HO118 HO120 HB; intro HO104 HO106 HO111 HO113 HO118 HO120 HB) | (go_at_call 11; (with_reducible refine (gangwaylaw14_num.calls t121 t122 _ A15.out).mono ?_); rintro e w' ⟨rfl, ⟨nd, rfl⟩⟩; (try first | exact ⟨rfl, _, World.drewN_drewN _ _ _⟩ | exact ⟨rfl, _, Eq.trans (World.drewN_drewN _ _ _) (congrArg (World.drewN _) (Nat.add_assoc _ _ _))⟩)) | (go_at_call 13; (with_reducible refine (gangwayref14_Check.calls k _ _ l0 _ _ l1 t123 _ ?side1 ?side2 ?side3 ?side4 A16.out).mono ?_); (case side1 => exact Kd.C_below HR0.out (by exact bl_o HB.out)); (case side2 => exact HC0.out); (case side3 => exact Kd.C_below HR1.out (by exact bl_o HB.out)); (case side4 => exact HC1.out); rintro e w41 ⟨rfl, hb⟩; refine mv7 (am (Kd.S_below (by (with_reducible repeat (first | apply Kd.S_alloc | apply Kd.S_drewN | apply Kd.S_drew)); exact HO104.out) hb)) (am (Kd.S_below (by (with_reducible repeat (first | apply Kd.S_alloc | apply Kd.S_drewN | apply Kd.S_drew)); exact HO106.out) hb)) (am (Kd.R_below (Kd.R_o HO111.out) hb)) (am (Kd.R_below (Kd.R_o HO113.out) hb)) (am (Kd.R_below (Kd.R_o HO118.out) hb)) (am (Kd.R_below (Kd.R_o HO120.out) hb)) (am (below_step (by exact bl_o HB.out) hb)) ?_; clear HO104 HO106 HO111 HO113 HO118 HO120 HB; intro HO104 HO106 HO111 HO113 HO118 HO120 HB; have hcv42 := own_string (P := Try.prog) Try.underlying28 Try.underlying5 Try.underlying9 (Kd.own_of_R HO111.out); have hcv43 := fun (m_ : Nat) => own_string (P := Try.prog) Try.underlying28 Try.underlying5 Try.underlying9 (Kd.own_of_R (Kd.R_drewN HO111.out m_)); have hcv44 := own_string (P := Try.prog) Try.underlying28 Try.underlying5 Try.underlying9 (Kd.own_of_R HO118.out); have hcv45 := fun (m_ : Nat) => own_string (P := Try.prog) Try.underlying28 Try.underlying5 Try.underlying9 (Kd.own_of_R (Kd.R_drewN HO118.out m_)); obtain ⟨Ao46, co46, eo46⟩ := Kd.R_slice HO113.out; subst eo46; obtain ⟨Ao47, co47, eo47⟩ := Kd.R_slice HO120.out; subst eo47)))
   go_meet
   case rel => exact ⟨_, (true), (by first | rfl | (simp; done) | (simp [*]; done)), H', ⟨by first | omega | exact Nat.le_refl _⟩, ⟨by (with_reducible repeat (first | apply Kd.R_alloc | apply Kd.R_drewN | apply Kd.R_drew)); exact Kd.R_mono HO113.out (fun _ hk => hk.2)⟩, ⟨by (with_reducible repeat (first | apply Kd.R_alloc | apply Kd.R_drewN | apply Kd.R_drew)); exact Kd.R_mono HO120.out (fun _ hk => hk.2)⟩, ⟨by exact bl_g HB.out⟩⟩
  rw [if_pos c19] at H
  have c19b0 : ((t108.length : Int) == (t115.length : Int)) = true := beq_iff_eq.mpr c19
  have c19b1 : ((t108.length : Int) != (t115.length : Int)) = false := bne_eq_false_iff_eq.mpr c19
  have c19b2 : (t108.length == t115.length) = true := by first | simpa using c19 | (simp at c19 ⊢; omega)
  clear c19
  replace H := Option.bind_eq_some_iff.mp H
  obtain ⟨t124, A200, H⟩ := H
  replace H : (if t124 = t116 then ((gangwaylaw14_same.f k t101 t102 l0 l1).bind fun t125 => (gangwaylaw14_EhframeWrites.j0 k t108 t115 (!t125))) else (gangwaylaw14_EhframeWrites.j0 k t108 t115 true)) = some r := H
  have A20 := am A200
  clear A200
  by_cases c21 : t124 = t116
  rotate_left
  ·
   rw [if_neg c21] at H
   have c21b0 : (t124 == t116) = false := beq_eq_false_iff_ne.mpr c21
   have c21b1 : (t124 != t116) = true := bne_iff_ne.mpr c21
   have H' := am H
   clear H
   go_wp2_with (first | (go_at_call 12; (with_reducible refine (ehframe_Check.calls k _ _ t101 _ _ t102 t121 _ ?side1 ?side2 ?side3 ?side4 A14.out).mono ?_); (case side1 => exact Kd.C_o ((Kd.S_reads' HO104.out).2.2)); (case side2 => exact (Kd.S_reads' HO104.out).2.1); (case side3 => exact Kd.C_o ((Kd.S_reads' HO106.out).2.2)); (case side4 => exact (Kd.S_reads' HO106.out).2.1); rintro e w32 ⟨rfl, hb⟩; refine mv7 (am (Kd.S_below (by (with_reducible repeat (first | apply Kd.S_alloc | apply Kd.S_drewN | apply Kd.S_drew)); exact HO104.out) hb)) (am (Kd.S_below (by (with_reducible repeat (first | apply Kd.S_alloc | apply Kd.S_drewN | apply Kd.S_drew)); exact HO106.out) hb)) (am (Kd.R_below (Kd.R_o HO111.out) hb)) (am (Kd.R_below (Kd.R_o HO113.out) hb)) (am (Kd.R_below (Kd.R_o HO118.out) hb)) (am (Kd.R_below (Kd.R_o HO120.out) hb)) (am (below_step (by exact bl_o HB.out) hb)) ?_; clear HO104 HO106 HO111 HO113 HO118 HO120 HB; intro HO104 HO106 HO111 HO113 HO118 HO120 HB) | (go_at_call 11; (with_reducible refine (gangwaylaw14_num.calls t121 t122 _ A15.out).mono ?_); rintro e w' ⟨rfl, ⟨nd, rfl⟩⟩; (try first | exact ⟨rfl, _, World.drewN_drewN _ _ _⟩ | exact ⟨rfl, _, Eq.trans (World.drewN_drewN _ _ _) (congrArg (World.drewN _) (Nat.add_assoc _ _ _))⟩)) | (go_at_call 13; (with_reducible refine (gangwayref14_Check.calls k _ _ l0 _ _ l1 t123 _ ?side1 ?side2 ?side3 ?side4 A16.out).mono ?_); (case side1 => exact Kd.C_below HR0.out (by exact bl_o HB.out)); (case side2 => exact HC0.out); (case side3 => exact Kd.C_below HR1.out (by exact bl_o HB.out)); (case side4 => exact HC1.out); rintro e w33 ⟨rfl, hb⟩; refine mv7 (am (Kd.S_below (by (with_reducible repeat (first | apply Kd.S_alloc | apply Kd.S_drewN | apply Kd.S_drew)); exact HO104.out) hb)) (am (Kd.S_below (by (with_reducible repeat (first | apply Kd.S_alloc | apply Kd.S_drewN | apply Kd.S_drew)); exact HO106.out) hb)) (am (Kd.R_below (Kd.R_o HO111.out) hb)) (am (Kd.R_below (Kd.R_o HO113.out) hb)) (am (Kd.R_below (Kd.R_o HO118.out) hb)) (am (Kd.R_below (Kd.R_o HO120.out) hb)) (am (below_step (by exact bl_o HB.out) hb)) ?_; clear HO104 HO106 HO111 HO113 HO118 HO120 HB; intro HO104 HO106 HO111 HO113 HO118 HO120 HB; have hcv34 := own_string (P := Try.prog) Try.underlying28 Try.underlying5 Try.underlying9 (Kd.own_of_R HO111.out); have hcv35 := fun (m_ : Nat) => own_string (P := Try.prog) Try.underlying28 Try.underlying5 Try.underlying9 (Kd.own_of_R (Kd.R_drewN HO111.out m_)); have hcv36 := own_string (P := Try.prog) Try.underlying28 Try.underlying5 Try.underlying9 (Kd.own_of_R HO118.out); have hcv37 := fun (m_ : Nat) => own_string (P := Try.prog) Try.underlying28 Try.underlying5 Try.underlying9 (Kd.own_of_R (Kd.R_drewN HO118.out m_)); obtain ⟨Ao38, co38, eo38⟩ := Kd.R_slice HO113.out; subst eo38; obtain ⟨Ao39, co39, eo39⟩ := Kd.R_slice HO120.out; subst eo39) | (go_at_call 11; (with_reducible refine (gangwaylaw14_num.calls t109 t124 _ A20.out).mono ?_); rintro e w' ⟨rfl, ⟨nd, rfl⟩⟩; (try first | exact ⟨rfl, _, World.drewN_drewN _ _ _⟩ | exact ⟨rfl, _, Eq.trans (World.drewN_drewN _ _ _) (congrArg (World.drewN _) (Nat.add_assoc _ _ _))⟩)))
   repeat (go_quiet (first | (go_at_call 12; (with_reducible refine (ehframe_Check.calls k _ _ t101 _ _ t102 t121 _ ?side1 ?side2 ?side3 ?side4 A14.out).mono ?_); (case side1 => exact Kd.C_o ((Kd.S_reads' HO104.out).2.2)); (case side2 => exact (Kd.S_reads' HO104.out).2.1); (case side3 => exact Kd.C_o ((Kd.S_reads' HO106.out).2.2)); (case side4 => exact (Kd.S_reads' HO106.out).2.1); rintro e w32 ⟨rfl, hb⟩; refine mv7 (am (Kd.S_below (by (with_reducible repeat (first | apply Kd.S_alloc | apply Kd.S_drewN | apply Kd.S_drew)); exact HO104.out) hb)) (am (Kd.S_below (by (with_reducible repeat (first | apply Kd.S_alloc | apply Kd.S_drewN | apply Kd.S_drew)); exact HO106.out) hb)) (am (Kd.R_below (Kd.R_o HO111.out) hb)) (am (Kd.R_below (Kd.R_o HO113.out) hb)) (am (Kd.R_below (Kd.R_o HO118.out) hb)) (am (Kd.R_below (Kd.R_o HO120.out) hb)) (am (below_step (by exact bl_o HB.out) hb)) ?_; clear HO104 HO106 HO111 HO113 HO118 HO120 HB; intro HO104 HO106 HO111 HO113 HO118 HO120 HB) | (go_at_call 11; (with_reducible refine (gangwaylaw14_num.calls t121 t122 _ A15.out).mono ?_); rintro e w' ⟨rfl, ⟨nd, rfl⟩⟩; (try first | exact ⟨rfl, _, World.drewN_drewN _ _ _⟩ | exact ⟨rfl, _, Eq.trans (World.drewN_drewN _ _ _) (congrArg (World.drewN _) (Nat.add_assoc _ _ _))⟩)) | (go_at_call 13; (with_reducible refine (gangwayref14_Check.calls k _ _ l0 _ _ l1 t123 _ ?side1 ?side2 ?side3 ?side4 A16.out).mono ?_); (case side1 => exact Kd.C_below HR0.out (by exact bl_o HB.out)); (case side2 => exact HC0.out); (case side3 => exact Kd.C_below HR1.out (by exact bl_o HB.out)); (case side4 => exact HC1.out); rintro e w33 ⟨rfl, hb⟩; refine mv7 (am (Kd.S_below (by (with_reducible repeat (first | apply Kd.S_alloc | apply Kd.S_drewN | apply Kd.S_drew)); exact HO104.out) hb)) (am (Kd.S_below (by (with_reducible repeat (first | apply Kd.S_alloc | apply Kd.S_drewN | apply Kd.S_drew)); exact HO106.out) hb)) (am (Kd.R_below (Kd.R_o HO111.out) hb)) (am (Kd.R_below (Kd.R_o HO113.out) hb)) (am (Kd.R_below (Kd.R_o HO118.out) hb)) (am (Kd.R_below (Kd.R_o HO120.out) hb)) (am (below_step (by exact bl_o HB.out) hb)) ?_; clear HO104 HO106 HO111 HO113 HO118 HO120 HB; intro HO104 HO106 HO111 HO113 HO118 HO120 HB; have hcv34 := own_string (P := Try.prog) Try.underlying28 Try.underlying5 Try.underlying9 (Kd.own_of_R HO111.out); have hcv35 := fun (m_ : Nat) => own_string (P := Try.prog) Try.underlying28 Try.underlying5 Try.underlying9 (Kd.own_of_R (Kd.R_drewN HO111.out m_)); have hcv36 := own_string (P := Try.prog) Try.underlying28 Try.underlying5 Try.underlying9 (Kd.own_of_R HO118.out); have hcv37 := fun (m_ : Nat) => own_string (P := Try.prog) Try.underlying28 Try.underlying5 Try.underlying9 (Kd.own_of_R (Kd.R_drewN HO118.out m_)); obtain ⟨Ao38, co38, eo38⟩ := Kd.R_slice HO113.out; subst eo38; obtain ⟨Ao39, co39, eo39⟩ := Kd.R_slice HO120.out; subst eo39) | (go_at_call 11; (with_reducible refine (gangwaylaw14_num.calls t109 t124 _ A20.out).mono ?_); rintro e w' ⟨rfl, ⟨nd, rfl⟩⟩; (try first | exact ⟨rfl, _, World.drewN_drewN _ _ _⟩ | exact ⟨rfl, _, Eq.trans (World.drewN_drewN _ _ _) (congrArg (World.drewN _) (Nat.add_assoc _ _ _))⟩))); try go_wp2_with (first | (go_at_call 12; (with_reducible refine (ehframe_Check.calls k _ _ t101 _ _ t102 t121 _ ?side1 ?side2 ?side3 ?side4 A14.out).mono ?_); (case side1 => exact Kd.C_o ((Kd.S_reads' HO104.out).2.2)); (case side2 => exact (Kd.S_reads' HO104.out).2.1); (case side3 => exact Kd.C_o ((Kd.S_reads' HO106.out).2.2)); (case side4 => exact (Kd.S_reads' HO106.out).2.1); rintro e w32 ⟨rfl, hb⟩; refine mv7 (am (Kd.S_below (by (with_reducible repeat (first | apply Kd.S_alloc | apply Kd.S_drewN | apply Kd.S_drew)); exact HO104.out) hb)) (am (Kd.S_below (by (with_reducible repeat (first | apply Kd.S_alloc | apply Kd.S_drewN | apply Kd.S_drew)); exact HO106.out) hb)) (am (Kd.R_below (Kd.R_o HO111.out) hb)) (am (Kd.R_below (Kd.R_o HO113.out) hb)) (am (Kd.R_below (Kd.R_o HO118.out) hb)) (am (Kd.R_below (Kd.R_o HO120.out) hb)) (am (below_step (by exact bl_o HB.out) hb)) ?_; clear HO104 HO106 HO111 HO113 HO118 HO120 HB; intro HO104 HO106 HO111 HO113 HO118 HO120 HB) | (go_at_call 11; (with_reducible refine (gangwaylaw14_num.calls t121 t122 _ A15.out).mono ?_); rintro e w' ⟨rfl, ⟨nd, rfl⟩⟩; (try first | exact ⟨rfl, _, World.drewN_drewN _ _ _⟩ | exact ⟨rfl, _, Eq.trans (World.drewN_drewN _ _ _) (congrArg (World.drewN _) (Nat.add_assoc _ _ _))⟩)) | (go_at_call 13; (with_reducible refine (gangwayref14_Check.calls k _ _ l0 _ _ l1 t123 _ ?side1 ?side2 ?side3 ?side4 A16.out).mono ?_); (case side1 => exact Kd.C_below HR0.out (by exact bl_o HB.out)); (case side2 => exact HC0.out); (case side3 => exact Kd.C_below HR1.out (by exact bl_o HB.out)); (case side4 => exact HC1.out); rintro e w33 ⟨rfl, hb⟩; refine mv7 (am (Kd.S_below (by (with_reducible repeat (first | apply Kd.S_alloc | apply Kd.S_drewN | apply Kd.S_drew)); exact HO104.out) hb)) (am (Kd.S_below (by (with_reducible repeat (first | apply Kd.S_alloc | apply Kd.S_drewN | apply Kd.S_drew)); exact HO106.out) hb)) (am (Kd.R_below (Kd.R_o HO111.out) hb)) (am (Kd.R_below (Kd.R_o HO113.out) hb)) (am (Kd.R_below (Kd.R_o HO118.out) hb)) (am (Kd.R_below (Kd.R_o HO120.out) hb)) (am (below_step (by exact bl_o HB.out) hb)) ?_; clear HO104 HO106 HO111 HO113 HO118 HO120 HB; intro HO104 HO106 HO111 HO113 HO118 HO120 HB; have hcv34 := own_string (P := Try.prog) Try.underlying28 Try.underlying5 Try.underlying9 (Kd.own_of_R HO111.out); have hcv35 := fun (m_ : Nat) => own_string (P := Try.prog) Try.underlying28 Try.underlying5 Try.underlying9 (Kd.own_of_R (Kd.R_drewN HO111.out m_)); have hcv36 := own_string (P := Try.prog) Try.underlying28 Try.underlying5 Try.underlying9 (Kd.own_of_R HO118.out); have hcv37 := fun (m_ : Nat) => own_string (P := Try.prog) Try.underlying28 Try.underlying5 Try.underlying9 (Kd.own_of_R (Kd.R_drewN HO118.out m_)); obtain ⟨Ao38, co38, eo38⟩ := Kd.R_slice HO113.out; subst eo38; obtain ⟨Ao39, co39, eo39⟩ := Kd.R_slice HO120.out; subst eo39) | (go_at_call 11; (with_reducible refine (gangwaylaw14_num.calls t109 t124 _ A20.out).mono ?_); rintro e w' ⟨rfl, ⟨nd, rfl⟩⟩; (try first | exact ⟨rfl, _, World.drewN_drewN _ _ _⟩ | exact ⟨rfl, _, Eq.trans (World.drewN_drewN _ _ _) (congrArg (World.drewN _) (Nat.add_assoc _ _ _))⟩))))
   go_meet
   case rel => exact ⟨_, (true), (by first | rfl | (simp; done) | (simp [*]; done)), H', ⟨by first | omega | exact Nat.le_refl _⟩, ⟨by (with_reducible repeat (first | apply Kd.R_alloc | apply Kd.R_drewN | apply Kd.R_drew)); exact Kd.R_mono HO113.out (fun _ hk => hk.2)⟩, ⟨by (with_reducible repeat (first | apply Kd.R_alloc | apply Kd.R_drewN | apply Kd.R_drew)); exact Kd.R_mono HO120.out (fun _ hk => hk.2)⟩, ⟨by exact bl_g HB.out⟩⟩
  rw [if_pos c21] at H
  have c21b0 : (t124 == t116) = true := beq_iff_eq.mpr c21
  have c21b1 : (t124 != t116) = false := bne_eq_false_iff_eq.mpr c21
  clear c21
  replace H := Option.bind_eq_some_iff.mp H
  obtain ⟨t125, A220, H⟩ := H
  replace H : (gangwaylaw14_EhframeWrites.j0 k t108 t115 (!t125)) = some r := H
  have A22 := am A220
  clear A220
  have H' := am H
  clear H
  go_wp2_with (first | (go_at_call 12; (with_reducible refine (ehframe_Check.calls k _ _ t101 _ _ t102 t121 _ ?side1 ?side2 ?side3 ?side4 A14.out).mono ?_); (case side1 => exact Kd.C_o ((Kd.S_reads' HO104.out).2.2)); (case side2 => exact (Kd.S_reads' HO104.out).2.1); (case side3 => exact Kd.C_o ((Kd.S_reads' HO106.out).2.2)); (case side4 => exact (Kd.S_reads' HO106.out).2.1); rintro e w23 ⟨rfl, hb⟩; refine mv7 (am (Kd.S_below (by (with_reducible repeat (first | apply Kd.S_alloc | apply Kd.S_drewN | apply Kd.S_drew)); exact HO104.out) hb)) (am (Kd.S_below (by (with_reducible repeat (first | apply Kd.S_alloc | apply Kd.S_drewN | apply Kd.S_drew)); exact HO106.out) hb)) (am (Kd.R_below (Kd.R_o HO111.out) hb)) (am (Kd.R_below (Kd.R_o HO113.out) hb)) (am (Kd.R_below (Kd.R_o HO118.out) hb)) (am (Kd.R_below (Kd.R_o HO120.out) hb)) (am (below_step (by exact bl_o HB.out) hb)) ?_; clear HO104 HO106 HO111 HO113 HO118 HO120 HB; intro HO104 HO106 HO111 HO113 HO118 HO120 HB) | (go_at_call 11; (with_reducible refine (gangwaylaw14_num.calls t121 t122 _ A15.out).mono ?_); rintro e w' ⟨rfl, ⟨nd, rfl⟩⟩; (try first | exact ⟨rfl, _, World.drewN_drewN _ _ _⟩ | exact ⟨rfl, _, Eq.trans (World.drewN_drewN _ _ _) (congrArg (World.drewN _) (Nat.add_assoc _ _ _))⟩)) | (go_at_call 13; (with_reducible refine (gangwayref14_Check.calls k _ _ l0 _ _ l1 t123 _ ?side1 ?side2 ?side3 ?side4 A16.out).mono ?_); (case side1 => exact Kd.C_below HR0.out (by exact bl_o HB.out)); (case side2 => exact HC0.out); (case side3 => exact Kd.C_below HR1.out (by exact bl_o HB.out)); (case side4 => exact HC1.out); rintro e w24 ⟨rfl, hb⟩; refine mv7 (am (Kd.S_below (by (with_reducible repeat (first | apply Kd.S_alloc | apply Kd.S_drewN | apply Kd.S_drew)); exact HO104.out) hb)) (am (Kd.S_below (by (with_reducible repeat (first | apply Kd.S_alloc | apply Kd.S_drewN | apply Kd.S_drew)); exact HO106.out) hb)) (am (Kd.R_below (Kd.R_o HO111.out) hb)) (am (Kd.R_below (Kd.R_o HO113.out) hb)) (am (Kd.R_below (Kd.R_o HO118.out) hb)) (am (Kd.R_below (Kd.R_o HO120.out) hb)) (am (below_step (by exact bl_o HB.out) hb)) ?_; clear HO104 HO106 HO111 HO113 HO118 HO120 HB; intro HO104 HO106 HO111 HO113 HO118 HO120 HB; have hcv25 := own_string (P := Try.prog) Try.underlying28 Try.underlying5 Try.underlying9 (Kd.own_of_R HO111.out); have hcv26 := fun (m_ : Nat) => own_string (P := Try.prog) Try.underlying28 Try.underlying5 Try.underlying9 (Kd.own_of_R (Kd.R_drewN HO111.out m_)); have hcv27 := own_string (P := Try.prog) Try.underlying28 Try.underlying5 Try.underlying9 (Kd.own_of_R HO118.out); have hcv28 := fun (m_ : Nat) => own_string (P := Try.prog) Try.underlying28 Try.underlying5 Try.underlying9 (Kd.own_of_R (Kd.R_drewN HO118.out m_)); obtain ⟨Ao29, co29, eo29⟩ := Kd.R_slice HO113.out; subst eo29; obtain ⟨Ao30, co30, eo30⟩ := Kd.R_slice HO120.out; subst eo30) | (go_at_call 11; (with_reducible refine (gangwaylaw14_num.calls t109 t124 _ A20.out).mono ?_); rintro e w' ⟨rfl, ⟨nd, rfl⟩⟩; (try first | exact ⟨rfl, _, World.drewN_drewN _ _ _⟩ | exact ⟨rfl, _, Eq.trans (World.drewN_drewN _ _ _) (congrArg (World.drewN _) (Nat.add_assoc _ _ _))⟩)) | (go_at_call 14; (with_reducible refine (gangwaylaw14_same.calls k _ _ t101 _ _ t102 _ _ l0 _ _ l1 t125 _ ?side1 ?side2 ?side3 ?side4 ?side5 ?side6 ?side7 ?side8 A22.out).mono ?_); (case side1 => exact Kd.C_o ((Kd.S_reads' HO104.out).2.2)); (case side2 => exact (Kd.S_reads' HO104.out).2.1); (case side3 => exact Kd.C_o ((Kd.S_reads' HO106.out).2.2)); (case side4 => exact (Kd.S_reads' HO106.out).2.1); (case side5 => exact Kd.C_below HR0.out (by exact bl_o HB.out)); (case side6 => exact HC0.out); (case side7 => exact Kd.C_below HR1.out (by exact bl_o HB.out)); (case side8 => exact HC1.out); rintro e w31 ⟨rfl, hb⟩; refine mv7 (am (Kd.S_below (by (with_reducible repeat (first | apply Kd.S_alloc | apply Kd.S_drewN | apply Kd.S_drew)); exact HO104.out) hb)) (am (Kd.S_below (by (with_reducible repeat (first | apply Kd.S_alloc | apply Kd.S_drewN | apply Kd.S_drew)); exact HO106.out) hb)) (am (Kd.R_below (Kd.R_o HO111.out) hb)) (am (Kd.R_below (Kd.R_o HO113.out) hb)) (am (Kd.R_below (Kd.R_o HO118.out) hb)) (am (Kd.R_below (Kd.R_o HO120.out) hb)) (am (below_step (by exact bl_o HB.out) hb)) ?_; clear HO104 HO106 HO111 HO113 HO118 HO120 HB; intro HO104 HO106 HO111 HO113 HO118 HO120 HB))
  repeat (go_quiet (first | (go_at_call 12; (with_reducible refine (ehframe_Check.calls k _ _ t101 _ _ t102 t121 _ ?side1 ?side2 ?side3 ?side4 A14.out).mono ?_); (case side1 => exact Kd.C_o ((Kd.S_reads' HO104.out).2.2)); (case side2 => exact (Kd.S_reads' HO104.out).2.1); (case side3 => exact Kd.C_o ((Kd.S_reads' HO106.out).2.2)); (case side4 => exact (Kd.S_reads' HO106.out).2.1); rintro e w23 ⟨rfl, hb⟩; refine mv7 (am (Kd.S_below (by (with_reducible repeat (first | apply Kd.S_alloc | apply Kd.S_drewN | apply Kd.S_drew)); exact HO104.out) hb)) (am (Kd.S_below (by (with_reducible repeat (first | apply Kd.S_alloc | apply Kd.S_drewN | apply Kd.S_drew)); exact HO106.out) hb)) (am (Kd.R_below (Kd.R_o HO111.out) hb)) (am (Kd.R_below (Kd.R_o HO113.out) hb)) (am (Kd.R_below (Kd.R_o HO118.out) hb)) (am (Kd.R_below (Kd.R_o HO120.out) hb)) (am (below_step (by exact bl_o HB.out) hb)) ?_; clear HO104 HO106 HO111 HO113 HO118 HO120 HB; intro HO104 HO106 HO111 HO113 HO118 HO120 HB) | (go_at_call 11; (with_reducible refine (gangwaylaw14_num.calls t121 t122 _ A15.out).mono ?_); rintro e w' ⟨rfl, ⟨nd, rfl⟩⟩; (try first | exact ⟨rfl, _, World.drewN_drewN _ _ _⟩ | exact ⟨rfl, _, Eq.trans (World.drewN_drewN _ _ _) (congrArg (World.drewN _) (Nat.add_assoc _ _ _))⟩)) | (go_at_call 13; (with_reducible refine (gangwayref14_Check.calls k _ _ l0 _ _ l1 t123 _ ?side1 ?side2 ?side3 ?side4 A16.out).mono ?_); (case side1 => exact Kd.C_below HR0.out (by exact bl_o HB.out)); (case side2 => exact HC0.out); (case side3 => exact Kd.C_below HR1.out (by exact bl_o HB.out)); (case side4 => exact HC1.out); rintro e w24 ⟨rfl, hb⟩; refine mv7 (am (Kd.S_below (by (with_reducible repeat (first | apply Kd.S_alloc | apply Kd.S_drewN | apply Kd.S_drew)); exact HO104.out) hb)) (am (Kd.S_below (by (with_reducible repeat (first | apply Kd.S_alloc | apply Kd.S_drewN | apply Kd.S_drew)); exact HO106.out) hb)) (am (Kd.R_below (Kd.R_o HO111.out) hb)) (am (Kd.R_below (Kd.R_o HO113.out) hb)) (am (Kd.R_below (Kd.R_o HO118.out) hb)) (am (Kd.R_below (Kd.R_o HO120.out) hb)) (am (below_step (by exact bl_o HB.out) hb)) ?_; clear HO104 HO106 HO111 HO113 HO118 HO120 HB; intro HO104 HO106 HO111 HO113 HO118 HO120 HB; have hcv25 := own_string (P := Try.prog) Try.underlying28 Try.underlying5 Try.underlying9 (Kd.own_of_R HO111.out); have hcv26 := fun (m_ : Nat) => own_string (P := Try.prog) Try.underlying28 Try.underlying5 Try.underlying9 (Kd.own_of_R (Kd.R_drewN HO111.out m_)); have hcv27 := own_string (P := Try.prog) Try.underlying28 Try.underlying5 Try.underlying9 (Kd.own_of_R HO118.out); have hcv28 := fun (m_ : Nat) => own_string (P := Try.prog) Try.underlying28 Try.underlying5 Try.underlying9 (Kd.own_of_R (Kd.R_drewN HO118.out m_)); obtain ⟨Ao29, co29, eo29⟩ := Kd.R_slice HO113.out; subst eo29; obtain ⟨Ao30, co30, eo30⟩ := Kd.R_slice HO120.out; subst eo30) | (go_at_call 11; (with_reducible refine (gangwaylaw14_num.calls t109 t124 _ A20.out).mono ?_); rintro e w' ⟨rfl, ⟨nd, rfl⟩⟩; (try first | exact ⟨rfl, _, World.drewN_drewN _ _ _⟩ | exact ⟨rfl, _, Eq.trans (World.drewN_drewN _ _ _) (congrArg (World.drewN _) (Nat.add_assoc _ _ _))⟩)) | (go_at_call 14; (with_reducible refine (gangwaylaw14_same.calls k _ _ t101 _ _ t102 _ _ l0 _ _ l1 t125 _ ?side1 ?side2 ?side3 ?side4 ?side5 ?side6 ?side7 ?side8 A22.out).mono ?_); (case side1 => exact Kd.C_o ((Kd.S_reads' HO104.out).2.2)); (case side2 => exact (Kd.S_reads' HO104.out).2.1); (case side3 => exact Kd.C_o ((Kd.S_reads' HO106.out).2.2)); (case side4 => exact (Kd.S_reads' HO106.out).2.1); (case side5 => exact Kd.C_below HR0.out (by exact bl_o HB.out)); (case side6 => exact HC0.out); (case side7 => exact Kd.C_below HR1.out (by exact bl_o HB.out)); (case side8 => exact HC1.out); rintro e w31 ⟨rfl, hb⟩; refine mv7 (am (Kd.S_below (by (with_reducible repeat (first | apply Kd.S_alloc | apply Kd.S_drewN | apply Kd.S_drew)); exact HO104.out) hb)) (am (Kd.S_below (by (with_reducible repeat (first | apply Kd.S_alloc | apply Kd.S_drewN | apply Kd.S_drew)); exact HO106.out) hb)) (am (Kd.R_below (Kd.R_o HO111.out) hb)) (am (Kd.R_below (Kd.R_o HO113.out) hb)) (am (Kd.R_below (Kd.R_o HO118.out) hb)) (am (Kd.R_below (Kd.R_o HO120.out) hb)) (am (below_step (by exact bl_o HB.out) hb)) ?_; clear HO104 HO106 HO111 HO113 HO118 HO120 HB; intro HO104 HO106 HO111 HO113 HO118 HO120 HB)); try go_wp2_with (first | (go_at_call 12; (with_reducible refine (ehframe_Check.calls k _ _ t101 _ _ t102 t121 _ ?side1 ?side2 ?side3 ?side4 A14.out).mono ?_); (case side1 => exact Kd.C_o ((Kd.S_reads' HO104.out).2.2)); (case side2 => exact (Kd.S_reads' HO104.out).2.1); (case side3 => exact Kd.C_o ((Kd.S_reads' HO106.out).2.2)); (case side4 => exact (Kd.S_reads' HO106.out).2.1); rintro e w23 ⟨rfl, hb⟩; refine mv7 (am (Kd.S_below (by (with_reducible repeat (first | apply Kd.S_alloc | apply Kd.S_drewN | apply Kd.S_drew)); exact HO104.out) hb)) (am (Kd.S_below (by (with_reducible repeat (first | apply Kd.S_alloc | apply Kd.S_drewN | apply Kd.S_drew)); exact HO106.out) hb)) (am (Kd.R_below (Kd.R_o HO111.out) hb)) (am (Kd.R_below (Kd.R_o HO113.out) hb)) (am (Kd.R_below (Kd.R_o HO118.out) hb)) (am (Kd.R_below (Kd.R_o HO120.out) hb)) (am (below_step (by exact bl_o HB.out) hb)) ?_; clear HO104 HO106 HO111 HO113 HO118 HO120 HB; intro HO104 HO106 HO111 HO113 HO118 HO120 HB) | (go_at_call 11; (with_reducible refine (gangwaylaw14_num.calls t121 t122 _ A15.out).mono ?_); rintro e w' ⟨rfl, ⟨nd, rfl⟩⟩; (try first | exact ⟨rfl, _, World.drewN_drewN _ _ _⟩ | exact ⟨rfl, _, Eq.trans (World.drewN_drewN _ _ _) (congrArg (World.drewN _) (Nat.add_assoc _ _ _))⟩)) | (go_at_call 13; (with_reducible refine (gangwayref14_Check.calls k _ _ l0 _ _ l1 t123 _ ?side1 ?side2 ?side3 ?side4 A16.out).mono ?_); (case side1 => exact Kd.C_below HR0.out (by exact bl_o HB.out)); (case side2 => exact HC0.out); (case side3 => exact Kd.C_below HR1.out (by exact bl_o HB.out)); (case side4 => exact HC1.out); rintro e w24 ⟨rfl, hb⟩; refine mv7 (am (Kd.S_below (by (with_reducible repeat (first | apply Kd.S_alloc | apply Kd.S_drewN | apply Kd.S_drew)); exact HO104.out) hb)) (am (Kd.S_below (by (with_reducible repeat (first | apply Kd.S_alloc | apply Kd.S_drewN | apply Kd.S_drew)); exact HO106.out) hb)) (am (Kd.R_below (Kd.R_o HO111.out) hb)) (am (Kd.R_below (Kd.R_o HO113.out) hb)) (am (Kd.R_below (Kd.R_o HO118.out) hb)) (am (Kd.R_below (Kd.R_o HO120.out) hb)) (am (below_step (by exact bl_o HB.out) hb)) ?_; clear HO104 HO106 HO111 HO113 HO118 HO120 HB; intro HO104 HO106 HO111 HO113 HO118 HO120 HB; have hcv25 := own_string (P := Try.prog) Try.underlying28 Try.underlying5 Try.underlying9 (Kd.own_of_R HO111.out); have hcv26 := fun (m_ : Nat) => own_string (P := Try.prog) Try.underlying28 Try.underlying5 Try.underlying9 (Kd.own_of_R (Kd.R_drewN HO111.out m_)); have hcv27 := own_string (P := Try.prog) Try.underlying28 Try.underlying5 Try.underlying9 (Kd.own_of_R HO118.out); have hcv28 := fun (m_ : Nat) => own_string (P := Try.prog) Try.underlying28 Try.underlying5 Try.underlying9 (Kd.own_of_R (Kd.R_drewN HO118.out m_)); obtain ⟨Ao29, co29, eo29⟩ := Kd.R_slice HO113.out; subst eo29; obtain ⟨Ao30, co30, eo30⟩ := Kd.R_slice HO120.out; subst eo30) | (go_at_call 11; (with_reducible refine (gangwaylaw14_num.calls t109 t124 _ A20.out).mono ?_); rintro e w' ⟨rfl, ⟨nd, rfl⟩⟩; (try first | exact ⟨rfl, _, World.drewN_drewN _ _ _⟩ | exact ⟨rfl, _, Eq.trans (World.drewN_drewN _ _ _) (congrArg (World.drewN _) (Nat.add_assoc _ _ _))⟩)) | (go_at_call 14; (with_reducible refine (gangwaylaw14_same.calls k _ _ t101 _ _ t102 _ _ l0 _ _ l1 t125 _ ?side1 ?side2 ?side3 ?side4 ?side5 ?side6 ?side7 ?side8 A22.out).mono ?_); (case side1 => exact Kd.C_o ((Kd.S_reads' HO104.out).2.2)); (case side2 => exact (Kd.S_reads' HO104.out).2.1); (case side3 => exact Kd.C_o ((Kd.S_reads' HO106.out).2.2)); (case side4 => exact (Kd.S_reads' HO106.out).2.1); (case side5 => exact Kd.C_below HR0.out (by exact bl_o HB.out)); (case side6 => exact HC0.out); (case side7 => exact Kd.C_below HR1.out (by exact bl_o HB.out)); (case side8 => exact HC1.out); rintro e w31 ⟨rfl, hb⟩; refine mv7 (am (Kd.S_below (by (with_reducible repeat (first | apply Kd.S_alloc | apply Kd.S_drewN | apply Kd.S_drew)); exact HO104.out) hb)) (am (Kd.S_below (by (with_reducible repeat (first | apply Kd.S_alloc | apply Kd.S_drewN | apply Kd.S_drew)); exact HO106.out) hb)) (am (Kd.R_below (Kd.R_o HO111.out) hb)) (am (Kd.R_below (Kd.R_o HO113.out) hb)) (am (Kd.R_below (Kd.R_o HO118.out) hb)) (am (Kd.R_below (Kd.R_o HO120.out) hb)) (am (below_step (by exact bl_o HB.out) hb)) ?_; clear HO104 HO106 HO111 HO113 HO118 HO120 HB; intro HO104 HO106 HO111 HO113 HO118 HO120 HB)))
  go_meet
  case rel => exact ⟨_, (!t125), (by first | rfl | (simp; done) | (simp [*]; done)), H', ⟨by first | omega | exact Nat.le_refl _⟩, ⟨by (with_reducible repeat (first | apply Kd.R_alloc | apply Kd.R_drewN | apply Kd.R_drew)); exact Kd.R_mono HO113.out (fun _ hk => hk.2)⟩, ⟨by (with_reducible repeat (first | apply Kd.R_alloc | apply Kd.R_drewN | apply Kd.R_drew)); exact Kd.R_mono HO120.out (fun _ hk => hk.2)⟩, ⟨by exact bl_g HB.out⟩⟩
 case rest =>
  clear HC8
  try clear c1
  try clear c2
  try clear p2
  try clear hcv2
  try clear c3
  try clear hcv3
  try clear hcv4
  try clear hcv5
  try clear c17
  try clear c17b0
  try clear c17b1
  try clear c18
  try clear c18b0
  try clear c18b1
  try clear c19
  try clear c19b0
  try clear c19b1
  try clear c19b2
  try clear c21
  try clear c21b0
  try clear c21b1
  try clear hcv25
  try clear hcv26
  try clear hcv27
  try clear hcv28
  try clear hcv34
  try clear hcv35
  try clear hcv36
  try clear hcv37
  try clear hcv42
  try clear hcv43
  try clear hcv44
  try clear hcv45
  try clear hcv50
  try clear hcv51
  try clear hcv52
  try clear hcv53
  obtain ⟨kq, x77_7, rfl, HA, HJ7, HO_12, HO_15, HB⟩ := hcut
  cases kq with
  | zero => exact absurd HA.out (by simp [gangwaylaw14_EhframeWrites.j0])
  | succ kj7 =>
   have H := HA.out
   clear HA
   simp only [gangwaylaw14_EhframeWrites.j0] at H
   by_cases c56 : x77_7 = true
   ·
    subst c56
    replace H : (none) = some r := by rw [if_pos rfl] at H; exact H
    exact absurd H (by simp)
   replace c56 := Bool.eq_false_iff.mpr c56
   subst c56
   replace H : (gangwaylaw14_EhframeWrites.l0 kj7 t108 t115 0) = some r := by rw [if_neg (show ¬ (false = true) by decide)] at H; exact H
   have H' := am H
   clear H
   go_wp2
   repeat (go_quiet (fail); try go_wp2)
   go_loopg [17] kj7 (fun kq v17 w' => ∃ (x17_2 : Int), v17 = .int .i64 x17_2 ∧ Aside0 (gangwaylaw14_EhframeWrites.l0 kq t108 t115 x17_2 = some r) ∧ Aside0 (kq ≤ kj7) ∧ Aside0 (Kd.R (Kd.int .i64) 3 w' w.heap.size (fun k_ => some k_ ≠ (v119 : Value).ownBlock) v112 t108) ∧ Aside0 (Kd.R (Kd.int .i64) 3 w' w.heap.size (fun k_ => some k_ ≠ (v112 : Value).ownBlock) v119 t115) ∧ Aside0 (Below w.heap.size w w'))
   case atStart => exact ⟨(0), (by first | rfl | (simp; done) | (simp [*]; done)), H', ⟨Nat.le_refl _⟩, ⟨by (with_reducible repeat (first | apply Kd.R_alloc | apply Kd.R_drewN | apply Kd.R_drew)); exact HO_12.out⟩, ⟨by (with_reducible repeat (first | apply Kd.R_alloc | apply Kd.R_drewN | apply Kd.R_drew)); exact HO_15.out⟩, ⟨by exact bl_g HB.out⟩⟩
   case round =>
    clear H'
    try clear c1
    try clear c2
    try clear p2
    try clear hcv2
    try clear c3
    try clear hcv3
    try clear hcv4
    try clear c5
    try clear hcv5
    try clear c17
    try clear c17b0
    try clear c17b1
    try clear c18
    try clear c18b0
    try clear c18b1
    try clear c19
    try clear c19b0
    try clear c19b1
    try clear c19b2
    try clear c21
    try clear c21b0
    try clear c21b1
    try clear hcv25
    try clear hcv26
    try clear hcv27
    try clear hcv28
    try clear hcv34
    try clear hcv35
    try clear hcv36
    try clear hcv37
    try clear hcv42
    try clear hcv43
    try clear hcv44
    try clear hcv45
    try clear hcv50
    try clear hcv51
    try clear hcv52
    try clear hcv53
    try clear c56
    try clear p2
    obtain ⟨x17_2, rfl, HA, HK2, HO_12, HO_15, HB⟩ := hrel
    cases gk with
    | zero => exact absurd HA.out (by simp [gangwaylaw14_EhframeWrites.l0])
    | succ k2 =>
     have H := HA.out
     clear HA
     simp only [gangwaylaw14_EhframeWrites.l0] at H
     by_cases c57 : x17_2 < (t108.length : Int)
     rotate_left
     ·
      rw [if_neg c57] at H
      have c57b0 : decide (x17_2 < (t108.length : Int)) = false := decide_eq_false c57
      clear c57
      replace H := Option.bind_eq_some_iff.mp H
      obtain ⟨t128, A630, H⟩ := H
      replace H : (some t128) = some r := H
      have A63 := am A630
      clear A630
      obtain rfl := Option.some.inj H
      obtain ⟨Ao64, co64, eo64⟩ := Kd.R_slice HO_12.out
      subst eo64
      go_wp2_with (first | (go_at_call 15; (with_reducible refine (gangwaylaw14_live.calls k2  t128 _ A63.out).mono ?_); rintro e w65 ⟨rfl, hb⟩; refine mv3 (am (Kd.R_below (Kd.R_o HO_12.out) hb)) (am (Kd.R_below (Kd.R_o HO_15.out) hb)) (am (below_step (by exact bl_o HB.out) hb)) ?_; clear HO_12 HO_15 HB; intro HO_12 HO_15 HB))
      repeat (go_quiet (first | (go_at_call 15; (with_reducible refine (gangwaylaw14_live.calls k2  t128 _ A63.out).mono ?_); rintro e w65 ⟨rfl, hb⟩; refine mv3 (am (Kd.R_below (Kd.R_o HO_12.out) hb)) (am (Kd.R_below (Kd.R_o HO_15.out) hb)) (am (below_step (by exact bl_o HB.out) hb)) ?_; clear HO_12 HO_15 HB; intro HO_12 HO_15 HB)); try go_wp2_with (first | (go_at_call 15; (with_reducible refine (gangwaylaw14_live.calls k2  t128 _ A63.out).mono ?_); rintro e w65 ⟨rfl, hb⟩; refine mv3 (am (Kd.R_below (Kd.R_o HO_12.out) hb)) (am (Kd.R_below (Kd.R_o HO_15.out) hb)) (am (below_step (by exact bl_o HB.out) hb)) ?_; clear HO_12 HO_15 HB; intro HO_12 HO_15 HB)))
      go_ret
      exact ⟨rfl, by exact bl_g HB.out⟩
     rw [if_pos c57] at H
     have c57b0 : decide (x17_2 < (t108.length : Int)) = true := decide_eq_true c57
     clear c57
     by_cases c58 : 0 ≤ x17_2
     rotate_left
     ·
      rw [if_neg c58] at H
      exact absurd H (by simp)
     rw [if_pos c58] at H
     have c58b0 : decide (0 ≤ x17_2) = true := decide_eq_true c58
     clear c58
     by_cases c59 : x17_2 < (t115.length : Int)
     rotate_left
     ·
      rw [if_neg c59] at H
      exact absurd H (by simp)
     rw [if_pos c59] at H
     have c59b0 : decide (x17_2 < (t115.length : Int)) = true := decide_eq_true c59
     clear c59
     by_cases c60 : (rd t108 x17_2) = (rd t115 x17_2)
     rotate_left
     ·
      rw [if_neg c60] at H
      exact absurd H (by simp)
     rw [if_pos c60] at H
     have c60b0 : ((rd t108 x17_2) == (rd t115 x17_2)) = true := beq_iff_eq.mpr c60
     have c60b1 : ((rd t108 x17_2) != (rd t115 x17_2)) = false := bne_eq_false_iff_eq.mpr c60
     clear c60
     have H' := am H
     clear H
     obtain ⟨Ao61, co61, eo61⟩ := Kd.R_slice HO_12.out
     subst eo61
     have p126 : 0 ≤ (x17_2 : Int) := od
     have q126 : x17_2 < (t108.length : Int) := od
     obtain ⟨ad126, e126, hx126_0⟩ := Kd.at_int (Kd.R_reads' HO_12.out).2.2 x17_2 p126 q126
     cases e126
     replace p126 := eq_true p126
     replace q126 := eq_true q126
     obtain ⟨Ao62, co62, eo62⟩ := Kd.R_slice HO_15.out
     subst eo62
     have p127 : 0 ≤ (x17_2 : Int) := od
     have q127 : x17_2 < (t115.length : Int) := od
     obtain ⟨ad127, e127, hx127_0⟩ := Kd.at_int (Kd.R_reads' HO_15.out).2.2 x17_2 p127 q127
     cases e127
     replace p127 := eq_true p127
     replace q127 := eq_true q127
     go_wp2
     repeat (go_quiet (fail); try go_wp2)
     go_roundg k2
     case measure => have := HJ7.out; have := HK2.out; omega
     case rel => exact ⟨(wrap64 (x17_2 + 1)), (by first | rfl | (simp; done) | (simp [*]; done)), H', ⟨by have := HJ7.out; have := HK2.out; omega⟩, ⟨by (with_reducible repeat (first | apply Kd.R_alloc | apply Kd.R_drewN | apply Kd.R_drew)); exact HO_12.out⟩, ⟨by (with_reducible repeat (first | apply Kd.R_alloc | apply Kd.R_drewN | apply Kd.R_drew)); exact HO_15.out⟩, ⟨by exact bl_g HB.out⟩⟩
end Go.Proofs.Ytfgfnflhdabmcaa.G
end
section
namespace Go.Proofs.Ytfgfnflhdabmcaa.Stmt
open Go.RowKit Go.Proofs.Ytfgfnflhdabmcaa.G Go.Proofs.YtfgfnflhdabmcaaW.PrintWords
def wf97 (x : S97) : Prop := ((Lit.int .i64 x.f0).wf = true) ∧ ((Lit.int .i64 x.f1).wf = true) ∧ ((Lit.int .i64 x.f2).wf = true)
def wt97 (x : S97) : Nat := (1 + (1 + (1))) + 1
def wf43 (x : S43) : Prop := ((Lit.int .i64 x.f0).wf = true) ∧ (x.f1.length * 24 ≤ 140737488351232 ∧ x.f1.length ≤ 9223372036854775807 ∧ ∀ y1 ∈ x.f1, wf97 y1)
def wt43 (x : S43) : Nat := (1 + (((x.f1.map wt97).sum + 1))) + 1
def wf61 (x : S61) : Prop := ((Lit.int .i64 x.f0).wf = true) ∧ ((Lit.int .i64 x.f1).wf = true) ∧ ((Lit.int .i64 x.f2).wf = true) ∧ (x.f3.length * 24 ≤ 140737488351232 ∧ x.f3.length ≤ 9223372036854775807 ∧ ∀ y1 ∈ x.f3, wf97 y1)
def wt61 (x : S61) : Nat := (1 + (1 + (1 + (((x.f3.map wt97).sum + 1))))) + 1
def EhframeWrites : Prop := ∀ (l0 : List (S43)) (l1 : List (S61)) (a2 : Int) (a3 : Bool), (l0.length * 32 ≤ 140737488351232 ∧ l0.length ≤ 9223372036854775807 ∧ ∀ y1 ∈ l0, wf43 y1) → (l1.length * 48 ≤ 140737488351232 ∧ l1.length ≤ 9223372036854775807 ∧ ∀ y1 ∈ l1, wf61 y1) → ((Lit.int .i64 a2).wf = true) → ∃ k, G.gangwaylaw14_EhframeWrites.f k l0 l1 a2 a3 = some true
end Go.Proofs.Ytfgfnflhdabmcaa.Stmt
end
section
namespace Go.Proofs.Ytfgfnflhdabmcaa.Eh
set_option linter.unusedSectionVars false
open Go.RowKit Go.Proofs.Ytfgfnflhdabmcaa.G Go.Proofs.YtfgfnflhdabmcaaW.PrintWords Go.Proofs.YtfgfnflhdabmcaaW.PrintLast Go.Proofs.YtfgfnflhdabmcaaW.PrintMore Go.Proofs.Ytfgfnflhdabmcaa.Bit Go.Proofs.Ytfgfnflhdabmcaa.Leb Go.Proofs.Ytfgfnflhdabmcaa.EhOf
theorem check_k (c : List S69) (f : List S46) (k : Nat) (hk : 3 * c.length + 3 * f.length + 40 ≤ k) : ehframe_Check.f k c f = some (checkV c f) := rfl
theorem check_good {c : List S69} {f : List S46} (h : checkV c f = 0) : c.length ≤ 4000 ∧ f.length ≤ 4000 ∧ (∀ x ∈ c, okC0 x = true) ∧ (∀ y ∈ f, okF0 y = true) ∧ (∀ x ∈ c, okC1 x = true) ∧ (∀ y ∈ f, okF1 c.length y = true) ∧ (∀ x ∈ c, okC2 x = true) ∧ (∀ y ∈ f, okF2 c y = true) := by
  unfold checkV at h
  split at h
  · cases h
  split at h
  · cases h
  split at h
  · cases h
  split at h
  · cases h
  split at h
  · cases h
  split at h
  · cases h
  split at h
  · cases h
  rename_i h0 h1 h2 h3 h4 h5 h6
  rw [Bool.not_eq_false] at h1 h2 h3 h4 h5 h6
  exact ⟨by omega, by omega, List.all_eq_true.1 h1, List.all_eq_true.1 h2, List.all_eq_true.1 h3, List.all_eq_true.1 h4, List.all_eq_true.1 h5, List.all_eq_true.1 h6⟩
end Go.Proofs.Ytfgfnflhdabmcaa.Eh
end
section
namespace Go.Proofs.Ytfgfnflhdabmcaa.CfaB
open Go.RowKit Go.Proofs.Ytfgfnflhdabmcaa.G Go.Proofs.YtfgfnflhdabmcaaW.PrintWords Go.Proofs.YtfgfnflhdabmcaaW.PrintLast Go.Proofs.YtfgfnflhdabmcaaW.PrintMore Go.Proofs.Ytfgfnflhdabmcaa.Bit Go.Proofs.Ytfgfnflhdabmcaa.Leb Go.Proofs.Ytfgfnflhdabmcaa.Cfa
theorem bytes_f {k r n : Int} (h : mayF k r n = true) (kk : Nat) (hk : 12 ≤ kk) : cfa_Op_bytes.f kk k r n = some (opB k r n) := if_pos h
def outB : List (Int × Int × Int) → List Int → List Int × Int
  | [], acc => (acc, 0)
  | (k, r, n) :: t, acc => if mayF k r n = true then outB t (acc ++ opB k r n) else ([], 130)
theorem opl_at (l : List S105) (i : Nat) (h : i < l.length) : opl (l.drop i) = ((rd_T105 l (i : Int)).f0, (rd_T105 l (i : Int)).f1, (rd_T105 l (i : Int)).f2) :: opl (l.drop (i + 1)) := by
  have hrd : rd_T105 l (i : Int) = l[i] := by simp [rd_T105, List.getD, h]
  rw [hrd, List.drop_eq_getElem_cons h]
  rfl
theorem write_l0 (l : List S105) (hl : l.length ≤ 4000) (d : Nat) : ∀ (kk i : Nat) (acc : List Int), i + d = l.length → d + 20 ≤ kk → acc.length ≤ 30 * i → cfa_Write.l0 kk acc l (l.length : Int) (i : Int) = some (outB (opl (l.drop i)) acc) := by
  induction d with
  | zero =>
    intro kk i acc h hk ha
    obtain ⟨kk, rfl⟩ : ∃ m, kk = m + 1 := ⟨kk - 1, by omega⟩
    rw [cfa_Write.l0, if_neg (by omega), List.drop_of_length_le (by omega)]
    rfl
  | succ d ih =>
    intro kk i acc h hk ha
    obtain ⟨kk, rfl⟩ : ∃ m, kk = m + 1 := ⟨kk - 1, by omega⟩
    rw [cfa_Write.l0, if_pos (by omega), if_pos (by omega), if_pos (by omega), opl_at l i (by omega)]
    generalize rd_T105 l (i : Int) = x
    unfold cfa_Op_may.f outB
    rw [Option.bind_some]
    by_cases c : mayF x.f0 x.f1 x.f2 = true
    · have hle := opB_le c
      rw [if_pos c, if_pos c, bytes_f c kk (by omega), Option.bind_some, if_pos (by omega), wrap64_id (by omega) (by omega), show (i : Int) + 1 = ((i + 1 : Nat) : Int) from by omega, ih kk (i + 1) _ (by omega) (by omega) (by rw [List.length_append]; omega)]
    · rw [if_neg c, if_neg c]
def writeV (l : List (Int × Int × Int)) : List Int × Int := if l.length > 4000 then ([], 6) else outB l []
theorem write_f (l : List S105) (kk : Nat) (hk : l.length + 20 ≤ kk) : cfa_Write.f kk l = some (writeV (opl l)) := by
  unfold cfa_Write.f writeV
  rw [opl_length]
  by_cases c : l.length > 4000
  · rw [if_pos c, if_pos (by omega)]
  · rw [if_neg c, if_neg (by omega)]
    exact write_l0 l (by omega) l.length kk 0 [] (by omega) (by omega) (by simp)
end Go.Proofs.Ytfgfnflhdabmcaa.CfaB
end
section
namespace Go.Proofs.Ytfgfnflhdabmcaa.Eh
open Go.RowKit Go.Proofs.Ytfgfnflhdabmcaa.G Go.Proofs.YtfgfnflhdabmcaaW.PrintWords Go.Proofs.YtfgfnflhdabmcaaW.PrintLast Go.Proofs.YtfgfnflhdabmcaaW.PrintMore Go.Proofs.Ytfgfnflhdabmcaa.Bit Go.Proofs.Ytfgfnflhdabmcaa.Leb Go.Proofs.Ytfgfnflhdabmcaa.EhOf
def wB (l : List S105) : List Int := (CfaB.writeV (Cfa.opl l)).1
theorem outB_le (l : List (Int × Int × Int)) : ∀ acc, (CfaB.outB l acc).1.length ≤ acc.length + 30 * l.length := by
  induction l with
  | nil => intro acc; simp [CfaB.outB]
  | cons o l ih =>
    intro acc
    obtain ⟨ok, or_, on⟩ := o
    simp only [CfaB.outB, List.length_cons]
    split
    · rename_i h
      have := ih (acc ++ CfaB.opB ok or_ on)
      have h2 := CfaB.opB_le h
      simp only [List.length_append] at this
      omega
    · simp
theorem wB_le {l : List S105} (h : l.length ≤ 4000) : (wB l).length ≤ 120000 := by
  unfold wB CfaB.writeV
  split
  · simp
  · have := outB_le (Cfa.opl l) []
    rw [Cfa.opl_length] at this
    simp only [List.length_nil, Nat.zero_add] at this
    omega
theorem write_at (l : List S105) (h : l.length ≤ 4000) (k : Nat) (hk : 5000 ≤ k) : ∃ e, cfa_Write.f k l = some (wB l, e) := ⟨(CfaB.writeV (Cfa.opl l)).2, CfaB.write_f l k (by omega)⟩
def low4 (n : Int) : List Int := leB (n % 18446744073709551616) 4
theorem low4_length (n : Int) : (low4 n).length = 4 := leB_length 4 _
theorem low_k (n : Int) (k : Nat) (hk : 9 ≤ k) : ehframe_low.f k n = some (low4 n) := by
  unfold ehframe_low.f low4
  rw [put_f n 8 k hk, show putV n 8 = (leB (n % 18446744073709551616) 8, 0) from by simp [putV, sizedB]]
  simp only [Option.bind_some]
  rw [if_pos (by rw [leB_length]; omega), show ((4 : Int).toNat) = 4 from rfl, leB_take 4 8 _ (by omega)]
def lack (n : Nat) : Nat := (12 - n % 8) % 8
def recB (b : List Int) : List Int := low4 ((b.length + lack b.length : Nat) : Int) ++ (b ++ List.replicate (lack b.length) 0)
theorem recB_length (b : List Int) : (recB b).length ≤ b.length + 11 := by
  unfold recB
  rw [List.length_append, low4_length, List.length_append, List.length_replicate]
  unfold lack
  omega
theorem record_l0 (d : Nat) : ∀ (k : Nat) (b : List Int), lack b.length = d → b.length ≤ 1000000 - d → d ≤ 8 → 20 ≤ k → ehframe_record.l0 (k + d + 1) b = some (low4 ((b.length + d : Nat) : Int) ++ (b ++ List.replicate d 0)) := by
  induction d with
  | zero =>
    intro k b h hb _ hk
    rw [show k + 0 + 1 = k + 1 from rfl, ehframe_record.l0, if_pos (by unfold lack at h; omega), low_k _ k (by omega)]
    simp only [Option.bind_some]
    rw [if_pos (by rw [low4_length]; omega)]
    simp
  | succ d ih =>
    intro k b h hb hd hk
    rw [show k + (d + 1) + 1 = (k + d + 1) + 1 from rfl, ehframe_record.l0, if_neg (by unfold lack at h; omega), if_pos (by omega)]
    have e := ih k (b ++ [0]) (by simp only [List.length_append, List.length_singleton]; unfold lack at h ⊢; omega) (by simp; omega) (by omega) hk
    rw [e]
    simp only [List.length_append, List.length_singleton, List.append_assoc, List.singleton_append]
    rw [show b.length + 1 + d = b.length + (d + 1) from by omega, List.replicate_succ]
theorem record_k (b : List Int) (hb : b.length ≤ 900000) (k : Nat) (hk : 40 ≤ k) : ehframe_record.f k b = some (recB b) := by
  unfold ehframe_record.f recB
  have hl : lack b.length < 8 := by unfold lack; omega
  obtain ⟨m, rfl⟩ : ∃ m, k = m + lack b.length + 1 := ⟨k - lack b.length - 1, by omega⟩
  exact record_l0 (lack b.length) m b rfl (by omega) (by omega) (by omega)
def pV (a0 v at_ : Int) : List Int × Int := if (ofF a0).2.2.2 = true then putS (ofF a0).1 (ofF a0).2.1 (ofF a0).2.2.1 v at_ 0 else ([], 140)
theorem ofF_size {a0 : Int} (h : (ofF a0).2.2.2 = true) : ofF a0 = ((ofF a0).1, (ofF a0).2.1, (ofF a0).2.2.1, true) ∧ ((ofF a0).1 = 0 ∨ (ofF a0).1 = 2 ∨ (ofF a0).1 = 4 ∨ (ofF a0).1 = 8) := by
  have h1 := enc_good a0 ⟨(ofF a0).1, (ofF a0).2.2.1, (ofF a0).2.1, by rw [← h]⟩
  exact ⟨(enc_size a0 h1).1, (enc_size a0 h1).2.1⟩
theorem put_k (a0 v at_ : Int) (hv : -9223372036854775808 ≤ v ∧ v ≤ 9223372036854775807) (k : Nat) (hk : 20 ≤ k) : ehframe_Put.f k a0 v at_ 0 = some (pV a0 v at_) := by
  unfold pV
  by_cases h : (ofF a0).2.2.2 = true
  · rw [if_pos h]
    exact prog_put (ofF_size h).1 (ofF_size h).2 v at_ 0 hv k hk
  · rw [if_neg h]
    rw [Bool.not_eq_true] at h
    unfold ehframe_Put.f
    rw [show ehframe_of.f a0 = some ((ofF a0).1, (ofF a0).2.1, (ofF a0).2.2.1, false) from congrArg some (by rw [← h])]
    rfl
theorem tailS_le (s : Int) (g : Bool) (x : Int) (hs : s = 0 ∨ s = 2 ∨ s = 4 ∨ s = 8) : (tailS s g x).1.length ≤ 10 := by
  unfold tailS
  split
  · simp
  rename_i hx
  have hf : farB x = false := by rw [← Bool.not_eq_true]; intro h; exact hx (.inl h)
  have hr := far_no hf
  split
  · split
    · exact CfaB.S_le (by omega) (by omega)
    · exact CfaB.U_le x
  · split
    · show (leB _ _).length ≤ 10
      rw [leB_length]; omega
    · simp
theorem pV_le (a0 v at_ : Int) : (pV a0 v at_).1.length ≤ 10 := by
  unfold pV
  split
  · rename_i h
    unfold putS
    split
    · simp
    · exact tailS_le _ _ _ (ofF_size h).2
  · simp
def e15 (a : Int) : Int := Go.bits .and .i64 a 15
def headB (enc : Int) : List Int := [0, 0, 0, 0, 1, 122, 82, 0, 1, 120, 16, 1, enc % 256]
def fdeB (n : Nat) (first : Int) (p q : List Int) (ops : List S105) : List Int := recB (low4 (wrap64 (wrap64 ((n : Int) + 4) - first)) ++ p ++ q ++ [0] ++ wB ops)
def inV (ci first enc a2 : Int) : List S46 → Nat → List Int → List Int → Option (List Int × List Int)
  | [], _, b, at_ => some (b, at_)
  | y :: l, i, b, at_ =>
    if y.f0 = ci then
      if (pV enc y.f1 (wrap64 (wrap64 (a2 + (b.length : Int)) + 8))).2 = 0 then
        if (pV (e15 enc) y.f2 0).2 = 0 then inV ci first enc a2 l (i + 1) (b ++ fdeB b.length first (pV enc y.f1 (wrap64 (wrap64 (a2 + (b.length : Int)) + 8))).1 (pV (e15 enc) y.f2 0).1 y.f3) (at_.set i (b.length : Int))
        else none
      else none
    else inV ci first enc a2 l (i + 1) b at_
def outV (fs : List S46) (a2 : Int) : List S69 → Nat → List Int → List Int → Option (List Int × List Int)
  | [], _, b, at_ => some (b, at_)
  | x :: l, ci, b, at_ => (inV (ci : Int) (b.length : Int) x.f0 a2 fs 0 (b ++ recB (headB x.f0 ++ wB x.f1)) at_).bind fun r => outV fs a2 l (ci + 1) r.1 r.2
theorem fde_le (n : Nat) (first : Int) (p q : List Int) (ops : List S105) (hp : p.length ≤ 10) (hq : q.length ≤ 10) (ho : ops.length ≤ 4000) : (fdeB n first p q ops).length ≤ 130000 := by
  have h1 := recB_length (low4 (wrap64 (wrap64 ((n : Int) + 4) - first)) ++ p ++ q ++ [0] ++ wB ops)
  have h2 := wB_le ho
  simp only [List.length_append, low4_length, List.length_singleton] at h1
  unfold fdeB
  omega
structure OkF (y : S46) : Prop where
  ops : y.f3.length ≤ 4000
  b : -9223372036854775808 ≤ y.f1 ∧ y.f1 ≤ 9223372036854775807
  s : -9223372036854775808 ≤ y.f2 ∧ y.f2 ≤ 9223372036854775807
theorem in_l1 (fs : List S46) (hn : fs.length ≤ 4000) (hok : ∀ y ∈ fs, OkF y) (a2 : Int) (e : Bool) (ci first : Int) (c : List S69) (cn cj enc : Int) (ops : List S105) (d : Nat) :
    ∀ (k i : Nat) (b at_ : List Int), i + d = fs.length → at_.length = fs.length → b.length + 130000 * d ≤ 100000000000000 → 5000 ≤ k →
      ehframe_Write.l1 (k + d + 1) fs a2 e b at_ ci first c cn cj fs (fs.length : Int) (i : Int) enc ops = match inV ci first enc a2 (fs.drop i) i b at_ with
        | none => some ([], [], 11)
        | some r => ehframe_Write.l0 k fs a2 e r.1 r.2 c cn (wrap64 (cj + 1)) := by
  induction d with
  | zero =>
    intro k i b at_ h _ _ hk
    rw [show k + 0 + 1 = k + 1 from rfl, ehframe_Write.l1, if_neg (by omega), List.drop_of_length_le (by omega)]
    rfl
  | succ d ih =>
    intro k i b at_ h ha hb hk
    have hi : i < fs.length := by omega
    have hy := atF fs i hi
    have hm : rd_T46 fs (i : Int) ∈ fs := List.mem_of_mem_drop (by rw [hy]; exact List.mem_cons_self)
    obtain ⟨o1, o2, o3⟩ := hok _ hm
    rw [show k + (d + 1) + 1 = (k + d + 1) + 1 from rfl, ehframe_Write.l1, if_pos (by omega), if_pos (by omega), if_pos (by omega), hy]
    generalize rd_T46 fs (i : Int) = y at o1 o2 o3
    simp only [inV]
    by_cases hci : y.f0 = ci
    · rw [if_pos hci, if_pos hci, if_pos (by omega), low_k _ _ (by omega)]
      simp only [Option.bind_some]
      rw [put_k enc y.f1 _ o2 _ (by omega)]
      simp only [Option.bind_some]
      have hp := pV_le enc y.f1 (wrap64 (wrap64 (a2 + (b.length : Int)) + 8))
      generalize pV enc y.f1 (wrap64 (wrap64 (a2 + (b.length : Int)) + 8)) = p at hp
      by_cases hp0 : p.2 = 0
      · rw [if_pos hp0, if_pos hp0, put_k _ y.f2 0 o3 _ (by omega)]
        simp only [Option.bind_some]
        rw [show Go.bits .and .i64 enc 15 = e15 enc from rfl]
        have hq := pV_le (e15 enc) y.f2 0
        generalize pV (e15 enc) y.f2 0 = q at hq
        by_cases hq0 : q.2 = 0
        · obtain ⟨er, hw⟩ := write_at y.f3 o1 (k + d + 1) (by omega)
          have hwl := wB_le o1
          rw [if_pos hq0, if_pos hq0, hw]
          simp only [Option.bind_some]
          rw [if_pos (by rw [low4_length]; omega)]
          simp only [List.length_append, low4_length]
          rw [if_pos (by omega), if_pos (by omega)]
          simp only [List.length_append, low4_length, List.length_singleton]
          rw [if_pos (by omega), record_k _ (by simp only [List.length_append, low4_length, List.length_singleton]; omega) _ (by omega)]
          simp only [Option.bind_some]
          have hfl := fde_le b.length first p.1 q.1 y.f3 hp hq o1
          rw [show recB (low4 (wrap64 (wrap64 ((b.length : Int) + 4) - first)) ++ p.1 ++ q.1 ++ [0] ++ wB y.f3) = fdeB b.length first p.1 q.1 y.f3 from rfl, if_pos (by omega), w1 hi hn, Int.toNat_natCast]
          exact ih k (i + 1) _ _ (by omega) (by rw [List.length_set]; exact ha) (by rw [List.length_append]; omega) hk
        · rw [if_neg hq0, if_neg hq0]
      · rw [if_neg hp0, if_neg hp0]
    · rw [if_neg hci, if_neg hci, w1 hi hn]
      exact ih k (i + 1) b at_ (by omega) ha (by omega) hk
theorem in_len (ci first enc a2 : Int) (l : List S46) (hok : ∀ y ∈ l, OkF y) : ∀ (i : Nat) (b at_ : List Int) (r : List Int × List Int), inV ci first enc a2 l i b at_ = some r → r.1.length ≤ b.length + 130000 * l.length ∧ r.2.length = at_.length := by
  induction l with
  | nil => intro i b at_ r h; simp only [inV, Option.some.injEq] at h; subst h; simp
  | cons y l ih =>
    intro i b at_ r h
    have ih' := ih (fun y hy => hok y (List.mem_cons_of_mem _ hy))
    simp only [inV] at h
    split at h
    · split at h
      · split at h
        · have := ih' _ _ _ _ h
          have h2 := fde_le b.length first (pV enc y.f1 (wrap64 (wrap64 (a2 + (b.length : Int)) + 8))).1 (pV (e15 enc) y.f2 0).1 y.f3 (pV_le _ _ _) (pV_le _ _ _) (hok y List.mem_cons_self).ops
          rw [List.length_append, List.length_set] at this
          simp only [List.length_cons]
          omega
        · cases h
      · cases h
    · have := ih' _ _ _ _ h
      simp only [List.length_cons]
      omega
def lastV (e : Bool) (b at_ : List Int) : List Int × List Int × Int :=
  if (((if e = true then b ++ [0, 0, 0, 0] else b).length : Nat) : Int) > 1048576 then ([], [], 6) else (if e = true then b ++ [0, 0, 0, 0] else b, at_, 0)
theorem out_l0 (fs : List S46) (hn : fs.length ≤ 4000) (hok : ∀ y ∈ fs, OkF y) (a2 : Int) (e : Bool) (c : List S69) (hc : c.length ≤ 4000) (hco : ∀ x ∈ c, x.f1.length ≤ 4000) (d : Nat) :
    ∀ (k ci : Nat) (b at_ : List Int), ci + d = c.length → at_.length = fs.length → b.length + 1000000000 * d ≤ 99000000000000 → 5000 ≤ k →
      ehframe_Write.l0 (k + d * (fs.length + 2) + 1) fs a2 e b at_ c (c.length : Int) (ci : Int) = some (match outV fs a2 (c.drop ci) ci b at_ with
        | none => ([], [], 11)
        | some r => lastV e r.1 r.2) := by
  induction d with
  | zero =>
    intro k ci b at_ h _ hb hk
    rw [Nat.zero_mul, show k + 0 + 1 = k + 1 from rfl, ehframe_Write.l0, if_neg (by omega), List.drop_of_length_le (by omega)]
    simp only [outV, lastV]
    cases e
    · simp only [Bool.false_eq_true, if_false]
      split <;> rfl
    · simp only [if_true, Option.bind_some]
      rw [if_pos (by simp; omega)]
      split <;> rfl
  | succ d ih =>
    intro k ci b at_ h ha hb hk
    have hi : ci < c.length := by omega
    have hy := atC c ci hi
    have hm : rd_T69 c (ci : Int) ∈ c := List.mem_of_mem_drop (by rw [hy]; exact List.mem_cons_self)
    have ho := hco _ hm
    rw [show k + (d + 1) * (fs.length + 2) + 1 = ((k + d * (fs.length + 2) + 1) + fs.length + 1) + 1 from by rw [Nat.succ_mul]; omega, ehframe_Write.l0, if_pos (by omega), if_pos (by omega), if_pos (by omega), hy]
    generalize rd_T69 c (ci : Int) = x at ho
    obtain ⟨er, hw⟩ := write_at x.f1 ho ((k + d * (fs.length + 2) + 1) + fs.length + 1) (by omega)
    have hwl := wB_le ho
    have hrl := recB_length (headB x.f0 ++ wB x.f1)
    simp only [List.length_append, show (headB x.f0).length = 13 from rfl] at hrl
    rw [hw]
    simp only [Option.bind_some, show ehframe_head.f x.f0 = some (headB x.f0) from rfl, show (headB x.f0).length = 13 from rfl]
    rw [if_pos (by omega), record_k _ (by simp only [List.length_append, show (headB x.f0).length = 13 from rfl]; omega) _ (by omega)]
    simp only [Option.bind_some]
    rw [if_pos (by omega)]
    have h1 := in_l1 fs hn hok a2 e (ci : Int) (b.length : Int) c (c.length : Int) (ci : Int) x.f0 x.f1 fs.length (k + d * (fs.length + 2) + 1) 0 (b ++ recB (headB x.f0 ++ wB x.f1)) at_ (by omega) ha (by rw [List.length_append]; omega) (by omega)
    rw [show ((0 : Nat) : Int) = 0 from rfl, List.drop_zero] at h1
    rw [h1]
    simp only [outV]
    cases hv : inV (ci : Int) (b.length : Int) x.f0 a2 fs 0 (b ++ recB (headB x.f0 ++ wB x.f1)) at_ with
    | none => rfl
    | some r =>
      have hl := in_len _ _ _ _ fs hok _ _ _ _ hv
      rw [List.length_append] at hl
      simp only [Option.bind_some]
      rw [w1 hi hc]
      exact ih k (ci + 1) r.1 r.2 (by omega) (by omega) (by omega) hk
def wrV (c : List S69) (fs : List S46) (a2 : Int) (e : Bool) : List Int × List Int × Int :=
  if checkV c fs = 0 then
    if a2 < 0 ∨ 576460752303423488 < a2 then ([], [], 11)
    else match outV fs a2 c 0 [] (List.replicate fs.length 0) with
      | none => ([], [], 11)
      | some r => lastV e r.1 r.2
  else ([], [], checkV c fs)
theorem okF_of {y : S46} {n : Nat} (h0 : okF0 y = true) (h1 : okF1 n y = true) : OkF y := by
  simp only [okF0, decide_eq_true_eq] at h0
  simp only [okF1, Bool.and_eq_true, decide_eq_true_eq, Bool.not_eq_true'] at h1
  have := far_no h1.1.1.2
  exact ⟨by omega, by omega, by omega⟩
theorem write_k (c : List S69) (fs : List S46) (a2 : Int) (e : Bool) (k : Nat) (hk : 20000 + 3 * c.length + 3 * fs.length + 4000 * 4002 ≤ k) : ehframe_Write.f k c fs a2 e = some (wrV c fs a2 e) := by
  unfold ehframe_Write.f wrV
  rw [check_k c fs k (by omega)]
  simp only [Option.bind_some]
  by_cases h : checkV c fs = 0
  · obtain ⟨hc, hf, g0, g1, g2, g3, g4, g5⟩ := check_good h
    rw [if_pos h, if_pos h]
    obtain ⟨k, rfl⟩ : ∃ m, k = m + 1 := ⟨k - 1, by omega⟩
    have bad : ehframe_Write.j0 (k + 1) c fs a2 e [] true = some ([], [], 11) := by rw [ehframe_Write.j0, if_pos rfl]
    by_cases ha : a2 < 0
    · rw [if_pos ha, if_pos (.inl ha), bad]
    · rw [if_neg ha]
      by_cases hb : a2 > 576460752303423488
      · rw [decide_eq_true hb, if_pos (.inr hb), bad]
      · rw [decide_eq_false hb, if_neg (by omega), ehframe_Write.j0, if_neg (by decide), if_pos (by omega), if_pos (by omega), Int.toNat_natCast]
        have hmul : c.length * (fs.length + 2) ≤ 4000 * 4002 := Nat.mul_le_mul hc (by omega)
        obtain ⟨m, rfl⟩ : ∃ m, k = m + c.length * (fs.length + 2) + 1 := ⟨k - c.length * (fs.length + 2) - 1, by omega⟩
        have h1 := out_l0 fs hf (fun y hy => okF_of (g1 y hy) (g3 y hy)) a2 e c hc (fun x hx => by have := g0 x hx; simp only [okC0, decide_eq_true_eq] at this; omega) c.length m 0 [] (List.replicate fs.length 0) (by omega) (by simp) (by simp; omega) (by omega)
        rw [show ((0 : Nat) : Int) = 0 from rfl, List.drop_zero] at h1
        exact h1.trans (congrArg some (by cases outV fs a2 c 0 [] (List.replicate fs.length 0) <;> rfl))
  · rw [if_neg h, if_neg h]
end Go.Proofs.Ytfgfnflhdabmcaa.Eh
end
section
namespace Go.Proofs.Ytfgfnflhdabmcaa.Eh
set_option linter.unusedSectionVars false
open Go.RowKit Go.Proofs.Ytfgfnflhdabmcaa.G Go.Proofs.YtfgfnflhdabmcaaW.PrintWords Go.Proofs.YtfgfnflhdabmcaaW.PrintLast Go.Proofs.YtfgfnflhdabmcaaW.PrintMore Go.Proofs.Ytfgfnflhdabmcaa.Bit Go.Proofs.Ytfgfnflhdabmcaa.Leb Go.Proofs.Ytfgfnflhdabmcaa.EhOf
theorem atCr (l : List S43) (i : Nat) (h : i < l.length) : l.drop i = rd_T43 l (i : Int) :: l.drop (i + 1) := by
  have hrd : rd_T43 l (i : Int) = l[i] := by simp [rd_T43, List.getD, h]
  rw [hrd, List.drop_eq_getElem_cons h]
theorem atFr (l : List S61) (i : Nat) (h : i < l.length) : l.drop i = rd_T61 l (i : Int) :: l.drop (i + 1) := by
  have hrd : rd_T61 l (i : Int) = l[i] := by simp [rd_T61, List.getD, h]
  rw [hrd, List.drop_eq_getElem_cons h]
theorem rcheck_k (c : List S43) (f : List S61) (hl : c.length < 9000000000000000000) (hm : f.length < 9000000000000000000) (hw : ∀ x ∈ c, -9223372036854775808 ≤ x.f0 ∧ x.f0 ≤ 9223372036854775807) (k : Nat) (hk : 3 * c.length + 3 * f.length + 40 ≤ k) : gangwayref14_Check.f k c f = some (checkV (c.map cieV) (f.map fdeV)) := by
  refine if_pos ?_
  rw [List.all_eq_true]
  intro x hx
  have := hw x hx
  simpa using this
end Go.Proofs.Ytfgfnflhdabmcaa.Eh
end
section
namespace Go.Proofs.Ytfgfnflhdabmcaa.CfaB
open Go.RowKit Go.Proofs.Ytfgfnflhdabmcaa.G Go.Proofs.YtfgfnflhdabmcaaW.PrintWords Go.Proofs.YtfgfnflhdabmcaaW.PrintLast Go.Proofs.YtfgfnflhdabmcaaW.PrintMore Go.Proofs.Ytfgfnflhdabmcaa.Bit Go.Proofs.Ytfgfnflhdabmcaa.Leb Go.Proofs.Ytfgfnflhdabmcaa.Cfa
theorem one_f {k r n : Int} (h : mayF k r n = true) (kk : Nat) (hk : 12 ≤ kk) : gangwayref13_one.f kk k r n = some (opB k r n) := if_pos h
theorem may_f (k r n : Int) (kk : Nat) (hk : 8 ≤ kk) : gangwayref13_May.f kk k r n = some (mayF k r n) := rfl
theorem conv_at (l : List S97) (i : Nat) (h : i < l.length) : opl (conv (l.drop i)) = ((rd_T97 l (i : Int)).f0, (rd_T97 l (i : Int)).f1, (rd_T97 l (i : Int)).f2) :: opl (conv (l.drop (i + 1))) := by
  have hrd : rd_T97 l (i : Int) = l[i] := by simp [rd_T97, List.getD, h]
  rw [hrd, List.drop_eq_getElem_cons h]
  rfl
theorem rwrite_l0 (l : List S97) (hl : l.length ≤ 4000) (d : Nat) : ∀ (kk i : Nat) (acc : List Int), i + d = l.length → d + 20 ≤ kk → acc.length ≤ 30 * i → gangwayref13_Write.l0 kk l acc (i : Int) = some (outB (opl (conv (l.drop i))) acc) := by
  induction d with
  | zero =>
    intro kk i acc h hk ha
    obtain ⟨kk, rfl⟩ : ∃ m, kk = m + 1 := ⟨kk - 1, by omega⟩
    rw [gangwayref13_Write.l0, if_neg (by omega), List.drop_of_length_le (by omega)]
    rfl
  | succ d ih =>
    intro kk i acc h hk ha
    obtain ⟨kk, rfl⟩ : ∃ m, kk = m + 1 := ⟨kk - 1, by omega⟩
    rw [gangwayref13_Write.l0, if_pos (by omega), if_pos (by omega), conv_at l i (by omega)]
    generalize rd_T97 l (i : Int) = x
    rw [may_f _ _ _ kk (by omega), Option.bind_some]
    unfold outB
    by_cases c : mayF x.f0 x.f1 x.f2 = true
    · have hle := opB_le c
      rw [if_pos c, if_pos c, one_f c kk (by omega), Option.bind_some, if_pos (by omega), wrap64_id (by omega) (by omega), show (i : Int) + 1 = ((i + 1 : Nat) : Int) from by omega, ih kk (i + 1) _ (by omega) (by omega) (by rw [List.length_append]; omega)]
    · rw [if_neg c, if_neg c]
theorem rwrite_f (l : List S97) (kk : Nat) (hk : l.length + 20 ≤ kk) : gangwayref13_Write.f kk l = some (writeV (opl (conv l))) := by
  unfold gangwayref13_Write.f writeV
  rw [opl_length, conv_length]
  by_cases c : l.length > 4000
  · rw [if_pos c, if_pos (by omega)]
  · rw [if_neg c, if_neg (by omega)]
    exact rwrite_l0 l (by omega) l.length kk 0 [] (by omega) (by omega) (by simp)
end Go.Proofs.Ytfgfnflhdabmcaa.CfaB
end
section
namespace Go.Proofs.Ytfgfnflhdabmcaa.Eh
set_option linter.unusedSectionVars false
open Go.RowKit Go.Proofs.Ytfgfnflhdabmcaa.G Go.Proofs.YtfgfnflhdabmcaaW.PrintWords Go.Proofs.YtfgfnflhdabmcaaW.PrintLast Go.Proofs.YtfgfnflhdabmcaaW.PrintMore Go.Proofs.Ytfgfnflhdabmcaa.Bit Go.Proofs.Ytfgfnflhdabmcaa.Leb Go.Proofs.Ytfgfnflhdabmcaa.EhOf
theorem rwrite_at (l : List S97) (h : l.length ≤ 4000) (k : Nat) (hk : 5000 ≤ k) : ∃ e, gangwayref13_Write.f k l = some (wB (Cfa.conv l), e) := ⟨(CfaB.writeV (Cfa.opl (Cfa.conv l))).2, CfaB.rwrite_f l k (by omega)⟩
theorem four_k (n : Int) (h0 : -2147483648 ≤ n) (h1 : n < 4294967296) (k : Nat) (hk : 30 ≤ k) : gangwayref14_four.f k n = some (low4 n) := by
  unfold gangwayref14_four.f low4
  rw [rput_k n 4 k hk]
  have e : putV n 4 = (leB (n % 18446744073709551616) 4, 0) := by
    unfold putV
    rw [if_pos (by decide), if_neg]
    · rfl
    · rintro ⟨_, h | h⟩
      · have : n < -2147483648 := by simpa using h
        omega
      · have : (4294967296 : Int) ≤ n := by simpa using h
        omega
  rw [e]
  rfl
theorem rrecord_l0 (d : Nat) : ∀ (k : Nat) (b : List Int), lack b.length = d → b.length ≤ 1000000 - d → d ≤ 8 → 40 ≤ k → gangwayref14_record.l0 (k + d + 1) b = some (low4 ((b.length + d : Nat) : Int) ++ (b ++ List.replicate d 0)) := by
  have tm : ∀ n : Nat, n ≤ 1000000 → Int.tmod (wrap64 ((n : Int) + 4)) 8 = (((n + 4) % 8 : Nat) : Int) := by
    intro n hn
    rw [show wrap64 ((n : Int) + 4) = ((n + 4 : Nat) : Int) from by unfold wrap64; omega, Int.tmod_eq_emod_of_nonneg (by omega)]
    omega
  induction d with
  | zero =>
    intro k b h hb _ hk
    rw [show k + 0 + 1 = k + 1 from rfl, gangwayref14_record.l0, tm _ (by omega), if_pos (by unfold lack at h; omega), four_k _ (by omega) (by omega) k (by omega)]
    simp only [Option.bind_some]
    rw [if_pos (by rw [low4_length]; omega)]
    simp
  | succ d ih =>
    intro k b h hb hd hk
    rw [show k + (d + 1) + 1 = (k + d + 1) + 1 from rfl, gangwayref14_record.l0, tm _ (by omega), if_neg (by unfold lack at h; omega), if_pos (by omega)]
    have e := ih k (b ++ [0]) (by simp only [List.length_append, List.length_singleton]; unfold lack at h ⊢; omega) (by simp; omega) (by omega) hk
    rw [e]
    simp only [List.length_append, List.length_singleton, List.append_assoc, List.singleton_append]
    rw [show b.length + 1 + d = b.length + (d + 1) from by omega, List.replicate_succ]
theorem rrecord_k (b : List Int) (hb : b.length ≤ 900000) (k : Nat) (hk : 60 ≤ k) : gangwayref14_record.f k b = some (recB b) := by
  unfold gangwayref14_record.f recB
  have hl : lack b.length < 8 := by unfold lack; omega
  obtain ⟨m, rfl⟩ : ∃ m, k = m + lack b.length + 1 := ⟨k - lack b.length - 1, by omega⟩
  exact rrecord_l0 (lack b.length) m b rfl (by omega) (by omega) (by omega)
theorem rcie_k (enc : Int) (l : List S97) (h : l.length ≤ 4000) (k : Nat) (hk : 5000 ≤ k) : gangwayref14_cie.f k enc l = some (recB (headB enc ++ wB (Cfa.conv l))) := by
  unfold gangwayref14_cie.f
  obtain ⟨e, hw⟩ := rwrite_at l h k hk
  have hwl := wB_le (l := Cfa.conv l) (by rw [Cfa.conv_length]; exact h)
  rw [hw]
  simp only [Option.bind_some]
  rw [four_k 0 (by omega) (by omega) k (by omega)]
  simp only [Option.bind_some]
  rw [if_pos (by rw [low4_length]; simp), if_pos (by rw [List.length_append, low4_length]; simp only [List.length_cons, List.length_nil]; omega)]
  rw [rrecord_k _ (by simp only [List.length_append, low4_length, List.length_cons, List.length_nil]; omega) k (by omega)]
  rfl
abbrev encs : List Int := [0, 1, 2, 3, 4, 9, 10, 11, 12, 16, 17, 18, 19, 20, 25, 26, 27, 28, 48, 49, 50, 51, 52, 57, 58, 59, 60]
theorem e15_of (a : Int) (h : a ∈ encs) : Int.tmod a 16 = e15 a ∧ 0 ≤ e15 a ∧ e15 a ≤ 15 := by
  simp only [encs, List.mem_cons, List.not_mem_nil, or_false] at h
  rcases h with rfl | rfl | rfl | rfl | rfl | rfl | rfl | rfl | rfl | rfl | rfl | rfl | rfl | rfl | rfl | rfl | rfl | rfl | rfl | rfl | rfl | rfl | rfl | rfl | rfl | rfl | rfl
  all_goals decide +kernel
theorem encs_range {a : Int} (h : a ∈ encs) : -9223372036854775808 ≤ a ∧ a ≤ 9223372036854775807 := by
  simp only [encs, List.mem_cons, List.not_mem_nil, or_false] at h
  omega
theorem rput_pV (a v at_ : Int) (w : -9223372036854775808 ≤ a ∧ a ≤ 9223372036854775807) (hv : -9223372036854775808 ≤ v ∧ v ≤ 9223372036854775807) (k : Nat) (hk : 60 ≤ k) : gangwayref14_Put.f k a v at_ 0 = some (pV a v at_) := by
  obtain ⟨r, h1, h2⟩ := put_same a v at_ 0 w hv k hk
  rw [put_k a v at_ hv k (by omega)] at h1
  rw [h2, ← Option.some.inj h1]
theorem wid (x : Int) (h0 : -9223372036854775808 ≤ x) (h1 : x < 9223372036854775808) : wrap64 x = x := by unfold wrap64; omega
theorem wsub (n first : Nat) (hn : n ≤ 1500000000) (hf : first ≤ 1500000000) : wrap64 (wrap64 ((n : Int) + 4) - (first : Int)) = (n : Int) + 4 - (first : Int) := by
  rw [wid ((n : Int) + 4) (by omega) (by omega), wid ((n : Int) + 4 - (first : Int)) (by omega) (by omega)]
theorem four_n (n first : Nat) (hn : n ≤ 1500000000) (hf : first ≤ 1500000000) (k : Nat) (hk : 30 ≤ k) : gangwayref14_four.f k (wrap64 (wrap64 ((n : Int) + 4) - (first : Int))) = some (low4 (wrap64 (wrap64 ((n : Int) + 4) - (first : Int)))) := by
  have h := wsub n first hn hf
  exact four_k _ (by omega) (by omega) k hk
theorem rfde_tail (x : Int) (p q w : List Int) (hp : p.length ≤ 10) (hq : q.length ≤ 10) (hw : w.length ≤ 120000) (k : Nat) (hk : 5000 ≤ k) (h4 : gangwayref14_four.f k x = some (low4 x)) :
    ((gangwayref14_four.f k x).bind fun t114 => (if t114.length + p.length < 140737488355328 then ((some (t114 ++ p : List Int)).bind fun y117 => (if y117.length + q.length < 140737488355328 then ((some (y117 ++ q : List Int)).bind fun y120 => (if y120.length < 140737488355328 then ((some (y120 ++ [0] : List Int)).bind fun y123 => (if y123.length + w.length < 140737488355328 then ((gangwayref14_record.f k (y123 ++ w)).bind fun t129 => (some (t129, (0 : Int)))) else (none))) else (none))) else (none))) else (none))) = some (recB (low4 x ++ p ++ q ++ [0] ++ w), 0) := by
  have e1 := low4_length x
  rw [h4]
  generalize low4 x = z at e1
  simp only [Option.bind_some]
  have e2 : (z ++ p).length ≤ 14 := by rw [List.length_append]; omega
  have e3 : (z ++ p ++ q).length ≤ 24 := by rw [List.length_append]; omega
  have e4 : (z ++ p ++ q ++ [0]).length ≤ 25 := by rw [List.length_append, List.length_singleton]; omega
  have e5 : (z ++ p ++ q ++ [0] ++ w).length ≤ 120025 := by rw [List.length_append]; omega
  rw [if_pos (by omega), if_pos (by omega), if_pos (by omega), if_pos (by omega), rrecord_k _ (by omega) k (by omega)]
  rfl
theorem rfde_k (y : S61) (ho : y.f3.length ≤ 4000) (hb : -9223372036854775808 ≤ y.f1 ∧ y.f1 ≤ 9223372036854775807) (hs : -9223372036854775808 ≤ y.f2 ∧ y.f2 ≤ 9223372036854775807) (enc : Int) (he : enc ∈ encs) (n first : Nat) (hn : n ≤ 1500000000) (hf : first ≤ 1500000000) (a2 : Int) (k : Nat) (hk : 5000 ≤ k) :
    gangwayref14_fde.f k y.f0 y.f1 y.f2 y.f3 enc (n : Int) (first : Int) a2 = some (if (pV enc y.f1 (wrap64 (wrap64 (a2 + (n : Int)) + 8))).2 = 0 then (if (pV (e15 enc) y.f2 0).2 = 0 then (fdeB n (first : Int) (pV enc y.f1 (wrap64 (wrap64 (a2 + (n : Int)) + 8))).1 (pV (e15 enc) y.f2 0).1 (Cfa.conv y.f3), 0) else ([], 11)) else ([], 11)) := by
  obtain ⟨t1, t2, t3⟩ := e15_of enc he
  have k60 : 60 ≤ k := by omega
  have r15 : -9223372036854775808 ≤ e15 enc ∧ e15 enc ≤ 9223372036854775807 := ⟨Int.le_trans (by decide) t2, Int.le_trans t3 (by decide)⟩
  clear t2 t3
  obtain ⟨er, hw⟩ := rwrite_at y.f3 ho k hk
  have hwl := wB_le (l := Cfa.conv y.f3) (by rw [Cfa.conv_length]; exact ho)
  have h4 := four_n n first hn hf k (by omega)
  unfold gangwayref14_fde.f
  rw [rput_pV enc y.f1 _ (encs_range he) hb k k60, Option.bind_some]
  have hp := pV_le enc y.f1 (wrap64 (wrap64 (a2 + (n : Int)) + 8))
  generalize pV enc y.f1 (wrap64 (wrap64 (a2 + (n : Int)) + 8)) = p at hp
  by_cases hp0 : p.2 = 0
  · rw [if_pos hp0, if_pos hp0, t1, rput_pV (e15 enc) y.f2 0 r15 hs k k60, Option.bind_some]
    have hq := pV_le (e15 enc) y.f2 0
    generalize pV (e15 enc) y.f2 0 = q at hq
    by_cases hq0 : q.2 = 0
    · rw [if_pos hq0, if_pos hq0, hw, Option.bind_some]
      exact rfde_tail _ p.1 q.1 (wB (Cfa.conv y.f3)) hp hq hwl k hk h4
    · rw [if_neg hq0, if_neg hq0]
  · rw [if_neg hp0, if_neg hp0]
theorem in_ge (ci first enc a2 : Int) (l : List S46) : ∀ (i : Nat) (b at_ : List Int) (r : List Int × List Int), inV ci first enc a2 l i b at_ = some r → b.length ≤ r.1.length := by
  induction l with
  | nil => intro i b at_ r h; simp only [inV, Option.some.injEq] at h; subst h; simp
  | cons y l ih =>
    intro i b at_ r h
    simp only [inV] at h
    split at h
    · split at h
      · split at h
        · have := ih _ _ _ _ h
          rw [List.length_append] at this
          omega
        · cases h
      · cases h
    · exact ih _ _ _ _ h
def cnt (ci : Int) (l : List S61) : Nat := l.countP fun y => decide (y.f0 = ci)
def rest (ci : Int) (l : List S61) : Nat := l.countP fun y => decide (ci ≤ y.f0)
theorem cnt_rest (ci : Int) (l : List S61) : rest ci l = cnt ci l + rest (ci + 1) l := by
  induction l with
  | nil => rfl
  | cons y l ih =>
    unfold rest cnt at ih ⊢
    rw [List.countP_cons, List.countP_cons, List.countP_cons, ih]
    by_cases h : y.f0 = ci
    · rw [if_pos (decide_eq_true (by omega)), if_pos (decide_eq_true h), if_neg (by simp; omega)]; omega
    · by_cases h2 : ci ≤ y.f0
      · rw [if_pos (decide_eq_true h2), if_neg (by simp; omega), if_pos (decide_eq_true (by omega))]; omega
      · rw [if_neg (by simp; omega), if_neg (by simp; omega), if_neg (by simp; omega)]; omega
theorem rest_le (ci : Int) (l : List S61) : rest ci l ≤ l.length := List.countP_le_length
structure OkR (y : S61) : Prop where
  ops : y.f3.length ≤ 4000
  b : -9223372036854775808 ≤ y.f1 ∧ y.f1 ≤ 9223372036854775807
  s : -9223372036854775808 ≤ y.f2 ∧ y.f2 ≤ 9223372036854775807
theorem in_cnt (ci first enc a2 : Int) (l : List S61) (hok : ∀ y ∈ l, OkR y) : ∀ (i : Nat) (b at_ : List Int) (r : List Int × List Int), inV ci first enc a2 (l.map fdeV) i b at_ = some r → r.1.length ≤ b.length + 130000 * cnt ci l ∧ r.2.length = at_.length := by
  induction l with
  | nil => intro i b at_ r h; simp only [List.map_nil, inV, Option.some.injEq] at h; subst h; simp
  | cons y l ih =>
    intro i b at_ r h
    have ih' := ih (fun y hy => hok y (List.mem_cons_of_mem _ hy))
    have hc : cnt ci (y :: l) = cnt ci l + if y.f0 = ci then 1 else 0 := by
      unfold cnt
      rw [List.countP_cons]
      by_cases h : y.f0 = ci <;> simp [h]
    simp only [List.map_cons, inV] at h
    by_cases hci : y.f0 = ci
    · rw [if_pos (show (fdeV y).f0 = ci from hci)] at h
      rw [hc, if_pos hci]
      split at h
      · split at h
        · have := ih' _ _ _ _ h
          have h2 := fde_le b.length first (pV enc (fdeV y).f1 (wrap64 (wrap64 (a2 + (b.length : Int)) + 8))).1 (pV (e15 enc) (fdeV y).f2 0).1 (fdeV y).f3 (pV_le _ _ _) (pV_le _ _ _) (by show (Cfa.conv y.f3).length ≤ 4000; rw [Cfa.conv_length]; exact (hok y List.mem_cons_self).ops)
          rw [List.length_append, List.length_set] at this
          omega
        · cases h
      · cases h
    · rw [if_neg (show ¬ (fdeV y).f0 = ci from hci)] at h
      rw [hc, if_neg hci]
      exact ih' _ _ _ _ h
theorem cnt_drop (ci : Int) (fs : List S61) (i : Nat) (h : i < fs.length) : cnt ci (fs.drop i) = cnt ci (fs.drop (i + 1)) + if (rd_T61 fs (i : Int)).f0 = ci then 1 else 0 := by
  rw [atFr fs i h]
  unfold cnt
  rw [List.countP_cons]
  by_cases h : (rd_T61 fs (i : Int)).f0 = ci <;> simp [h]
theorem rin_l1 (c : List S43) (fs : List S61) (hn : fs.length ≤ 4000) (hok : ∀ y ∈ fs, OkR y) (a2 : Int) (e fl : Bool) (ci : Nat) (hci : ci < c.length) (enc : Int) (he : enc = (rd_T43 c (ci : Int)).f0) (hem : enc ∈ encs) (first : Nat) (hfirst : first ≤ 1500000000) (d : Nat) :
    ∀ (k i : Nat) (b at_ : List Int), i + d = fs.length → at_.length = fs.length → b.length + 130000 * cnt (ci : Int) (fs.drop i) ≤ 1500000000 → 5000 ≤ k →
      gangwayref14_Write.l1 (k + d + 1) c fs a2 e b at_ fl (ci : Int) (first : Int) (i : Int) = match inV (ci : Int) (first : Int) enc a2 ((fs.drop i).map fdeV) i b at_ with
        | none => some ([], [], 11)
        | some r => gangwayref14_Write.l0 k c fs a2 e r.1 r.2 (fl || decide ((r.1.length : Int) > 1048576)) (wrap64 ((ci : Int) + 1)) := by
  induction d with
  | zero =>
    intro k i b at_ h _ _ hk
    rw [show k + 0 + 1 = k + 1 from rfl, gangwayref14_Write.l1, if_neg (by omega), List.drop_of_length_le (by omega)]
    simp only [List.map_nil, inV]
    cases fl
    · rw [if_neg (by decide), Bool.false_or]
    · rw [if_pos rfl, Bool.true_or]
  | succ d ih =>
    intro k i b at_ h ha hb hk
    have hi : i < fs.length := by omega
    have hy := atFr fs i hi
    have hcn := cnt_drop (ci : Int) fs i hi
    have hm := hok _ (rd_memF fs i hi)
    rw [show k + (d + 1) + 1 = (k + d + 1) + 1 from rfl, gangwayref14_Write.l1, if_pos (by omega), if_pos (by omega), hy]
    rw [hcn] at hb
    generalize rd_T61 fs (i : Int) = y at hm hb
    obtain ⟨o1, o2, o3⟩ := hm
    simp only [List.map_cons, inV]
    by_cases hc : y.f0 = (ci : Int)
    · rw [if_pos hc] at hb
      rw [if_pos hc, if_pos (show (fdeV y).f0 = (ci : Int) from hc), if_pos (by omega), if_pos (by omega), if_pos (by omega), ← he, rfde_k y o1 o2 o3 enc hem b.length first (by omega) hfirst a2 _ (by omega), Option.bind_some]
      rw [show (fdeV y).f1 = y.f1 from rfl, show (fdeV y).f2 = y.f2 from rfl, show (fdeV y).f3 = Cfa.conv y.f3 from rfl]
      have hp := pV_le enc y.f1 (wrap64 (wrap64 (a2 + (b.length : Int)) + 8))
      generalize pV enc y.f1 (wrap64 (wrap64 (a2 + (b.length : Int)) + 8)) = p at hp
      have hq := pV_le (e15 enc) y.f2 0
      generalize pV (e15 enc) y.f2 0 = q at hq
      by_cases hp0 : p.2 = 0
      · by_cases hq0 : q.2 = 0
        · have hfl := fde_le b.length (first : Int) p.1 q.1 (Cfa.conv y.f3) hp hq (by rw [Cfa.conv_length]; exact o1)
          rw [if_pos hp0, if_pos hp0, if_pos hq0, if_pos hq0, if_pos rfl, if_pos (by show b.length + (fdeB b.length (first : Int) p.1 q.1 (Cfa.conv y.f3)).length < 140737488355328; omega), w1 hi hn, Int.toNat_natCast]
          exact ih k (i + 1) _ _ (by omega) (by rw [List.length_set]; exact ha) (by rw [List.length_append]; dsimp only; omega) hk
        · rw [if_pos hp0, if_pos hp0, if_neg hq0, if_neg hq0, if_neg (by decide)]
      · rw [if_neg hp0, if_neg hp0, if_neg (by decide)]
    · rw [if_neg hc] at hb
      rw [if_neg hc, if_neg (show ¬ (fdeV y).f0 = (ci : Int) from hc), w1 hi hn]
      exact ih k (i + 1) b at_ (by omega) ha (by omega) hk
theorem rout_l0 (fs : List S61) (hn : fs.length ≤ 4000) (hok : ∀ y ∈ fs, OkR y) (a2 : Int) (e : Bool) (c : List S43) (hc : c.length ≤ 4000) (hco : ∀ x ∈ c, x.f1.length ≤ 4000) (hce : ∀ x ∈ c, x.f0 ∈ encs) (d : Nat) :
    ∀ (k ci : Nat) (b at_ : List Int) (fl : Bool), ci + d = c.length → at_.length = fs.length → b.length + 130000 * d + 130000 * rest (ci : Int) fs ≤ 1500000000 → (fl = true → (b.length : Int) > 1048576) → 5000 ≤ k →
      gangwayref14_Write.l0 (k + d * (fs.length + 2) + 1) c fs a2 e b at_ fl (ci : Int) = some (match outV (fs.map fdeV) a2 ((c.drop ci).map cieV) ci b at_ with
        | none => ([], [], 11)
        | some r => lastV e r.1 r.2) := by
  induction d with
  | zero =>
    intro k ci b at_ fl h _ hb hfl hk
    rw [Nat.zero_mul, show k + 0 + 1 = k + 1 from rfl, gangwayref14_Write.l0, if_neg (by omega), List.drop_of_length_le (by omega)]
    simp only [List.map_nil, outV, lastV]
    cases e
    · simp only [Bool.false_eq_true, if_false]
      cases fl
      · rw [if_neg (by decide)]
        split <;> rfl
      · rw [if_pos rfl, if_pos (hfl rfl)]
    · simp only [if_true, Option.bind_some]
      rw [if_pos (by simp; omega)]
      cases fl
      · rw [if_neg (by decide)]
        split <;> rfl
      · have := hfl rfl
        rw [if_pos rfl, if_pos (by rw [List.length_append]; omega)]
  | succ d ih =>
    intro k ci b at_ fl h ha hb hfl hk
    have hi : ci < c.length := by omega
    have hy := atCr c ci hi
    have hm := rd_memC c ci hi
    have ho := hco _ hm
    have he := hce _ hm
    have hr := cnt_rest (ci : Int) fs
    rw [show k + (d + 1) * (fs.length + 2) + 1 = ((k + d * (fs.length + 2) + 1) + fs.length + 1) + 1 from by rw [Nat.succ_mul]; omega, gangwayref14_Write.l0, if_pos (by omega), if_pos (by omega), hy, rcie_k _ _ ho _ (by omega), Option.bind_some]
    have hwl := wB_le (l := Cfa.conv (rd_T43 c (ci : Int)).f1) (by rw [Cfa.conv_length]; exact ho)
    have hrl := recB_length (headB (rd_T43 c (ci : Int)).f0 ++ wB (Cfa.conv (rd_T43 c (ci : Int)).f1))
    simp only [List.length_append, show (headB (rd_T43 c (ci : Int)).f0).length = 13 from rfl] at hrl
    rw [if_pos (by omega)]
    have h1 := rin_l1 c fs hn hok a2 e fl ci hi _ rfl he b.length (by omega) fs.length (k + d * (fs.length + 2) + 1) 0 (b ++ recB (headB (rd_T43 c (ci : Int)).f0 ++ wB (Cfa.conv (rd_T43 c (ci : Int)).f1))) at_ (by omega) ha (by rw [List.length_append, List.drop_zero]; omega) (by omega)
    rw [show ((0 : Nat) : Int) = 0 from rfl, List.drop_zero] at h1
    rw [h1]
    simp only [List.map_cons, outV]
    rw [show (cieV (rd_T43 c (ci : Int))).f0 = (rd_T43 c (ci : Int)).f0 from rfl, show (cieV (rd_T43 c (ci : Int))).f1 = Cfa.conv (rd_T43 c (ci : Int)).f1 from rfl]
    cases hv : inV (ci : Int) (b.length : Int) (rd_T43 c (ci : Int)).f0 a2 (fs.map fdeV) 0 (b ++ recB (headB (rd_T43 c (ci : Int)).f0 ++ wB (Cfa.conv (rd_T43 c (ci : Int)).f1))) at_ with
    | none => rfl
    | some r =>
      have hl := in_cnt _ _ _ _ fs hok _ _ _ _ hv
      have hg := in_ge _ _ _ _ _ _ _ _ _ hv
      rw [List.length_append] at hl hg
      simp only [Option.bind_some]
      rw [w1 hi hc]
      refine ih k (ci + 1) r.1 r.2 _ (by omega) (by omega) (by rw [show ((ci + 1 : Nat) : Int) = (ci : Int) + 1 from by omega]; omega) (fun hf => ?_) hk
      rw [Bool.or_eq_true, decide_eq_true_eq] at hf
      rcases hf with hf | hf
      · have := hfl hf; omega
      · exact hf
theorem rwrite_k (c : List S43) (fs : List S61) (hl : c.length < 9000000000000000000) (hm : fs.length < 9000000000000000000) (hw : ∀ x ∈ c, -9223372036854775808 ≤ x.f0 ∧ x.f0 ≤ 9223372036854775807) (a2 : Int) (e : Bool) (k : Nat) (hk : 20000 + 3 * c.length + 3 * fs.length + 4000 * 4002 ≤ k) : gangwayref14_Write.f k c fs a2 e = some (wrV (c.map cieV) (fs.map fdeV) a2 e) := by
  unfold gangwayref14_Write.f wrV
  rw [rcheck_k c fs hl hm hw k (by omega)]
  simp only [Option.bind_some]
  obtain ⟨k, rfl⟩ : ∃ m, k = m + 2 := ⟨k - 2, by omega⟩
  by_cases h : checkV (c.map cieV) (fs.map fdeV) = 0
  · obtain ⟨hc, hf, g0, g1, g2, g3, g4, g5⟩ := check_good h
    rw [List.length_map] at hc hf
    rw [if_pos h, if_pos h, h]
    have bad : gangwayref14_Write.j0 (k + 2) c fs a2 e 0 true = some ([], [], 11) := by rw [gangwayref14_Write.j0, if_pos rfl, gangwayref14_Write.j1, if_neg (by decide)]
    by_cases ha : a2 < 0
    · rw [if_pos ha, if_pos (.inl ha), bad]
    · rw [if_neg ha]
      by_cases hb : a2 > 576460752303423488
      · rw [decide_eq_true hb, if_pos (.inr hb), bad]
      · rw [decide_eq_false hb, if_neg (by omega), gangwayref14_Write.j0, if_neg (by decide), gangwayref14_Write.j1, if_pos rfl, if_pos (by omega), if_pos (by omega), Int.toNat_natCast]
        have hmul : c.length * (fs.length + 2) ≤ 4000 * 4002 := Nat.mul_le_mul hc (by omega)
        obtain ⟨m, rfl⟩ : ∃ m, k = m + c.length * (fs.length + 2) + 1 := ⟨k - c.length * (fs.length + 2) - 1, by omega⟩
        have hrl := rest_le ((0 : Nat) : Int) fs
        have h1 := rout_l0 fs hf (fun y hy => ?_) a2 e c hc (fun x hx => ?_) (fun x hx => ?_) c.length m 0 [] (List.replicate fs.length 0) false (by omega) (by simp) (by simp only [List.length_nil]; omega) (fun h => by cases h) (by omega)
        · rw [show ((0 : Nat) : Int) = 0 from rfl, List.drop_zero] at h1
          rw [List.length_map]
          exact h1.trans (congrArg some (by cases outV (fs.map fdeV) a2 (c.map cieV) 0 [] (List.replicate fs.length 0) <;> rfl))
        · have := okF_of (g1 _ (List.mem_map_of_mem hy)) (g3 _ (List.mem_map_of_mem hy))
          exact ⟨by have := this.ops; rw [show (fdeV y).f3 = Cfa.conv y.f3 from rfl, Cfa.conv_length] at this; exact this, this.b, this.s⟩
        · have := g0 _ (List.mem_map_of_mem hx)
          simp only [okC0, decide_eq_true_eq] at this
          rw [show (cieV x).f1 = Cfa.conv x.f1 from rfl, Cfa.conv_length] at this
          omega
        · have := g2 _ (List.mem_map_of_mem hx)
          have hv : (ofF x.f0).2.2.2 = true := this
          exact enc_good x.f0 ⟨(ofF x.f0).1, (ofF x.f0).2.2.1, (ofF x.f0).2.1, by rw [← hv]⟩
  · rw [if_neg h, if_neg h, gangwayref14_Write.j0, if_neg (by decide), gangwayref14_Write.j1, if_neg h]
end Go.Proofs.Ytfgfnflhdabmcaa.Eh
end
section
namespace Go.Proofs.Ytfgfnflhdabmcaa.Eh
open Go.RowKit Go.Proofs.Ytfgfnflhdabmcaa.G Go.Proofs.YtfgfnflhdabmcaaW.PrintWords Go.Proofs.YtfgfnflhdabmcaaW.PrintLast Go.Proofs.YtfgfnflhdabmcaaW.PrintMore
theorem lops_l0 (l : List S97) (hl : l.length < 5864062014805) (d : Nat) : ∀ (k n : Nat), n + d = l.length → d < k → gangwaylaw14_ops.l0 k l (Cfa.conv (l.take n)) (n : Int) = some (Cfa.conv l) := by
  induction d with
  | zero =>
    intro k n h hk
    obtain ⟨k, rfl⟩ : ∃ m, k = m + 1 := ⟨k - 1, by omega⟩
    rw [gangwaylaw14_ops.l0, if_neg (by omega), List.take_of_length_le (by omega)]
  | succ d ih =>
    intro k n h hk
    obtain ⟨k, rfl⟩ : ∃ m, k = m + 1 := ⟨k - 1, by omega⟩
    have hn : n < l.length := by omega
    rw [gangwaylaw14_ops.l0, if_pos (by omega), if_pos (by omega), if_pos (by rw [Cfa.conv_length, List.length_take]; omega), show wrap64 ((n : Int) + 1) = ((n + 1 : Nat) : Int) from by unfold wrap64; omega]
    have e : Cfa.conv (l.take n) ++ [(⟨(rd_T97 l (n : Int)).f0, (rd_T97 l (n : Int)).f1, (rd_T97 l (n : Int)).f2⟩ : S105)] = Cfa.conv (l.take (n + 1)) := by
      have hrd : rd_T97 l (n : Int) = l[n] := by simp [rd_T97, List.getD, hn]
      rw [hrd, List.take_succ_eq_append_getElem hn]
      unfold Cfa.conv
      rw [List.map_append]
      rfl
    rw [e]
    exact ih k (n + 1) (by omega) (by omega)
theorem lops_k (l : List S97) (hl : l.length < 5864062014805) (k : Nat) (hk : l.length < k) : gangwaylaw14_ops.f k l = some (Cfa.conv l) := by
  have h := lops_l0 l hl l.length k 0 (by omega) hk
  rw [List.take_zero] at h
  exact h
def mostC (l : List S43) : Nat := (l.map fun x => x.f1.length + 1).sum
def mostF (l : List S61) : Nat := (l.map fun y => y.f3.length + 1).sum
theorem mostC_ge (l : List S43) : l.length ≤ mostC l ∧ ∀ x ∈ l, x.f1.length < mostC l := by
  induction l with
  | nil => simp [mostC]
  | cons x l ih =>
    simp only [mostC, List.map_cons, List.sum_cons, List.length_cons] at ih ⊢
    refine ⟨by omega, fun y hy => ?_⟩
    rcases List.mem_cons.1 hy with rfl | hy
    · omega
    · have := ih.2 y hy; omega
theorem mostF_ge (l : List S61) : l.length ≤ mostF l ∧ ∀ y ∈ l, y.f3.length < mostF l := by
  induction l with
  | nil => simp [mostF]
  | cons x l ih =>
    simp only [mostF, List.map_cons, List.sum_cons, List.length_cons] at ih ⊢
    refine ⟨by omega, fun y hy => ?_⟩
    rcases List.mem_cons.1 hy with rfl | hy
    · omega
    · have := ih.2 y hy; omega
theorem tables_l1 (cs : List S69) (l : List S61) (hl : l.length < 2932031007402) (ho : ∀ y ∈ l, y.f3.length < 5864062014805) (d : Nat) :
    ∀ (k n : Nat), n + d = l.length → mostF l + d < k → gangwaylaw14_tables.l1 k l cs ((l.take n).map fdeV) (n : Int) = some (cs, l.map fdeV) := by
  induction d with
  | zero =>
    intro k n h hk
    obtain ⟨k, rfl⟩ : ∃ m, k = m + 1 := ⟨k - 1, by omega⟩
    rw [gangwaylaw14_tables.l1, if_neg (by omega), List.take_of_length_le (by omega)]
  | succ d ih =>
    intro k n h hk
    obtain ⟨k, rfl⟩ : ∃ m, k = m + 1 := ⟨k - 1, by omega⟩
    have hn : n < l.length := by omega
    have hrd : rd_T61 l (n : Int) = l[n] := by simp [rd_T61, List.getD, hn]
    have hm := List.getElem_mem hn
    rw [gangwaylaw14_tables.l1, if_pos (by omega), if_pos (by omega), hrd, lops_k _ (ho _ hm) k (by have := (mostF_ge l).2 _ hm; omega)]
    simp only [Option.bind_some]
    rw [if_pos (by rw [List.length_map, List.length_take]; omega), show wrap64 ((n : Int) + 1) = ((n + 1 : Nat) : Int) from by unfold wrap64; omega]
    have e : (l.take n).map fdeV ++ [(⟨l[n].f0, l[n].f1, l[n].f2, Cfa.conv l[n].f3⟩ : S46)] = (l.take (n + 1)).map fdeV := by
      rw [List.take_succ_eq_append_getElem hn, List.map_append]
      rfl
    rw [e]
    exact ih k (n + 1) (by omega) (by omega)
theorem tables_l0 (cl : List S43) (hc : cl.length < 4398046511104) (hco : ∀ x ∈ cl, x.f1.length < 5864062014805) (l : List S61) (hl : l.length < 2932031007402) (ho : ∀ y ∈ l, y.f3.length < 5864062014805) (d : Nat) :
    ∀ (k n : Nat), n + d = cl.length → mostC cl + d + mostF l + l.length + 1 < k → gangwaylaw14_tables.l0 k cl l ((cl.take n).map cieV) (n : Int) = some (cl.map cieV, l.map fdeV) := by
  induction d with
  | zero =>
    intro k n h hk
    obtain ⟨k, rfl⟩ : ∃ m, k = m + 1 := ⟨k - 1, by omega⟩
    rw [gangwaylaw14_tables.l0, if_neg (by omega), List.take_of_length_le (by omega)]
    have h1 := tables_l1 (cl.map cieV) l hl ho l.length k 0 (by omega) (by omega)
    rw [List.take_zero] at h1
    exact h1
  | succ d ih =>
    intro k n h hk
    obtain ⟨k, rfl⟩ : ∃ m, k = m + 1 := ⟨k - 1, by omega⟩
    have hn : n < cl.length := by omega
    have hrd : rd_T43 cl (n : Int) = cl[n] := by simp [rd_T43, List.getD, hn]
    have hm := List.getElem_mem hn
    rw [gangwaylaw14_tables.l0, if_pos (by omega), if_pos (by omega), hrd, lops_k _ (hco _ hm) k (by have := (mostC_ge cl).2 _ hm; omega)]
    simp only [Option.bind_some]
    rw [if_pos (by rw [List.length_map, List.length_take]; omega), show wrap64 ((n : Int) + 1) = ((n + 1 : Nat) : Int) from by unfold wrap64; omega]
    have e : (cl.take n).map cieV ++ [(⟨cl[n].f0, Cfa.conv cl[n].f1⟩ : S69)] = (cl.take (n + 1)).map cieV := by
      rw [List.take_succ_eq_append_getElem hn, List.map_append]
      rfl
    rw [e]
    exact ih k (n + 1) (by omega) (by omega)
theorem tables_k (cl : List S43) (hc : cl.length < 4398046511104) (hco : ∀ x ∈ cl, x.f1.length < 5864062014805) (l : List S61) (hl : l.length < 2932031007402) (ho : ∀ y ∈ l, y.f3.length < 5864062014805) (k : Nat) (hk : 2 * mostC cl + 2 * mostF l + 2 < k) :
    gangwaylaw14_tables.f k cl l = some (cl.map cieV, l.map fdeV) := by
  have h := tables_l0 cl hc hco l hl ho cl.length k 0 (by omega) (by have := (mostC_ge cl).1; have := (mostF_ge l).1; omega)
  rw [List.take_zero] at h
  exact h
theorem sameOps_l0 (l : List S97) (hl : l.length ≤ 9223372036854775807) (d : Nat) : ∀ (kk i : Nat), i + d = l.length → d < kk → gangwaylaw14_sameOps.l0 kk (Cfa.conv l) l (i : Int) = some true := by
  induction d with
  | zero =>
    intro kk i h hk
    obtain ⟨kk, rfl⟩ : ∃ m, kk = m + 1 := ⟨kk - 1, by omega⟩
    rw [gangwaylaw14_sameOps.l0, if_neg (by rw [Cfa.conv_length]; omega)]
  | succ d ih =>
    intro kk i h hk
    obtain ⟨kk, rfl⟩ : ∃ m, kk = m + 1 := ⟨kk - 1, by omega⟩
    have hi : i < l.length := by omega
    have e1 : rd_T105 (Cfa.conv l) (i : Int) = ⟨(rd_T97 l (i : Int)).f0, (rd_T97 l (i : Int)).f1, (rd_T97 l (i : Int)).f2⟩ := by simp [rd_T105, rd_T97, Cfa.conv, List.getD, hi]
    rw [gangwaylaw14_sameOps.l0, e1]
    have hc := Cfa.conv_length l
    simp only [hc, show ((i : Int) < (l.length : Int)) = True from eq_true (by omega), show (0 ≤ (i : Int)) = True from eq_true (by omega), if_true]
    rw [show wrap64 ((i : Int) + 1) = ((i + 1 : Nat) : Int) from by unfold wrap64; omega]
    exact ih kk (i + 1) (by omega) (by omega)
theorem sameOps_k (l : List S97) (hl : l.length ≤ 9223372036854775807) (k : Nat) (hk : l.length < k) : gangwaylaw14_sameOps.f k (Cfa.conv l) l = some true := by
  unfold gangwaylaw14_sameOps.f
  rw [if_pos (by rw [Cfa.conv_length])]
  exact sameOps_l0 l hl l.length k 0 (by omega) hk
theorem same_l1 (f : List S61) (hf : f.length < 9000000000000000000) (hfo : ∀ y ∈ f, y.f3.length ≤ 9223372036854775807) (d : Nat) : ∀ (kk i : Nat), i + d = f.length → mostF f + d < kk → gangwaylaw14_same.l1 kk (f.map fdeV) f (i : Int) = some true := by
  induction d with
  | zero =>
    intro kk i h hk
    obtain ⟨kk, rfl⟩ : ∃ m, kk = m + 1 := ⟨kk - 1, by omega⟩
    rw [gangwaylaw14_same.l1, if_neg (by omega)]
  | succ d ih =>
    intro kk i h hk
    obtain ⟨kk, rfl⟩ : ∃ m, kk = m + 1 := ⟨kk - 1, by omega⟩
    have hi : i < f.length := by omega
    have hm := rd_memF f i hi
    have hg := (mostF_ge f).2 _ hm
    have ho := hfo _ hm
    have e := sameOps_k (rd_T61 f (i : Int)).f3 ho kk (by omega)
    rw [gangwaylaw14_same.l1, if_pos (by omega), if_pos (by omega), if_pos (by rw [List.length_map]; omega), rd_fdeV f i hi]
    rw [if_pos (show (fdeV (rd_T61 f (i : Int))).f0 = (rd_T61 f (i : Int)).f0 from rfl), if_pos (show (fdeV (rd_T61 f (i : Int))).f1 = (rd_T61 f (i : Int)).f1 from rfl), if_pos (show (fdeV (rd_T61 f (i : Int))).f2 = (rd_T61 f (i : Int)).f2 from rfl)]
    rw [show (fdeV (rd_T61 f (i : Int))).f3 = Cfa.conv (rd_T61 f (i : Int)).f3 from rfl, e, Option.bind_some, if_pos rfl]
    rw [show wrap64 ((i : Int) + 1) = ((i + 1 : Nat) : Int) from by unfold wrap64; omega]
    exact ih kk (i + 1) (by omega) (by omega)
theorem same_l0 (c : List S43) (hc : c.length < 9000000000000000000) (hco : ∀ x ∈ c, x.f1.length ≤ 9223372036854775807) (f : List S61) (hf : f.length < 9000000000000000000) (hfo : ∀ y ∈ f, y.f3.length ≤ 9223372036854775807) (d : Nat) : ∀ (kk i : Nat), i + d = c.length → mostC c + d + mostF f + f.length + 1 < kk → gangwaylaw14_same.l0 kk (c.map cieV) (f.map fdeV) c f (i : Int) = some true := by
  induction d with
  | zero =>
    intro kk i h hk
    obtain ⟨kk, rfl⟩ : ∃ m, kk = m + 1 := ⟨kk - 1, by omega⟩
    rw [gangwaylaw14_same.l0, if_neg (by omega)]
    exact same_l1 f hf hfo f.length kk 0 (by omega) (by omega)
  | succ d ih =>
    intro kk i h hk
    obtain ⟨kk, rfl⟩ : ∃ m, kk = m + 1 := ⟨kk - 1, by omega⟩
    have hi : i < c.length := by omega
    have hm := rd_memC c i hi
    have hg := (mostC_ge c).2 _ hm
    have ho := hco _ hm
    have e := sameOps_k (rd_T43 c (i : Int)).f1 ho kk (by omega)
    rw [gangwaylaw14_same.l0, if_pos (by omega), if_pos (by omega), if_pos (by rw [List.length_map]; omega), rd_cieV c i hi]
    rw [if_pos (show (cieV (rd_T43 c (i : Int))).f0 = (rd_T43 c (i : Int)).f0 from rfl)]
    rw [show (cieV (rd_T43 c (i : Int))).f1 = Cfa.conv (rd_T43 c (i : Int)).f1 from rfl, e, Option.bind_some, if_pos rfl]
    rw [show wrap64 ((i : Int) + 1) = ((i + 1 : Nat) : Int) from by unfold wrap64; omega]
    exact ih kk (i + 1) (by omega) (by omega)
theorem same_k (c : List S43) (hc : c.length < 9000000000000000000) (hco : ∀ x ∈ c, x.f1.length ≤ 9223372036854775807) (f : List S61) (hf : f.length < 9000000000000000000) (hfo : ∀ y ∈ f, y.f3.length ≤ 9223372036854775807) (k : Nat) (hk : 2 * mostC c + 2 * mostF f + 3 < k) : gangwaylaw14_same.f k (c.map cieV) (f.map fdeV) c f = some true := by
  obtain ⟨k, rfl⟩ : ∃ m, k = m + 1 := ⟨k - 1, by omega⟩
  have h1 := (mostC_ge c).1
  have h2 := (mostF_ge f).1
  unfold gangwaylaw14_same.f
  rw [if_pos (by rw [List.length_map]), List.length_map, show ((f.length : Int) != (f.length : Int)) = false from bne_self_eq_false _, gangwaylaw14_same.j0, if_neg (by decide)]
  exact same_l0 c hc hco f hf hfo c.length k 0 (by omega) (by omega)
theorem live_60 : gangwaylaw14_live.f 60 = some true := by decide +kernel
theorem live_k (k : Nat) (hk : 60 ≤ k) : gangwaylaw14_live.f k = some true := at_rounds (g := fun k => gangwaylaw14_live.f k) (fun k => gangwaylaw14_live.mono k) hk live_60
end Go.Proofs.Ytfgfnflhdabmcaa.Eh
end
section
namespace Go.Proofs.Ytfgfnflhdabmcaa.Pure
open Go.RowKit Go.Proofs.Ytfgfnflhdabmcaa.G Go.Proofs.Ytfgfnflhdabmcaa.Stmt Go.Proofs.YtfgfnflhdabmcaaW.PrintWords Go.Proofs.YtfgfnflhdabmcaaW.PrintLast Go.Proofs.YtfgfnflhdabmcaaW.PrintMore Go.Proofs.Ytfgfnflhdabmcaa.Bit Go.Proofs.Ytfgfnflhdabmcaa.Leb Go.Proofs.Ytfgfnflhdabmcaa.Eh Go.Proofs.Ytfgfnflhdabmcaa.EhOf
theorem wf_int {a : Int} (h : (Lit.int .i64 a).wf = true) : -9223372036854775808 ≤ a ∧ a ≤ 9223372036854775807 := by
  simp [Lit.wf, IntKind.min, IntKind.max, IntKind.signed, IntKind.bits] at h
  omega
theorem writes_l0 (l : List Int) (hl : l.length < 9000000000000000000) (d : Nat) : ∀ (k i : Nat), i + d = l.length → 60 + d < k → gangwaylaw14_EhframeWrites.l0 k l l (i : Int) = some true := by
  induction d with
  | zero =>
    intro k i h hk
    obtain ⟨k, rfl⟩ : ∃ m, k = m + 1 := ⟨k - 1, by omega⟩
    rw [gangwaylaw14_EhframeWrites.l0, if_neg (by omega), live_k k (by omega)]
    rfl
  | succ d ih =>
    intro k i h hk
    obtain ⟨k, rfl⟩ : ∃ m, k = m + 1 := ⟨k - 1, by omega⟩
    rw [gangwaylaw14_EhframeWrites.l0, if_pos (by omega), if_pos (by omega), if_pos (by omega), if_pos rfl, show wrap64 ((i : Int) + 1) = ((i + 1 : Nat) : Int) from by unfold wrap64; omega]
    exact ih k (i + 1) (by omega) (by omega)
theorem lastV_len (e : Bool) (b at_ : List Int) : (lastV e b at_).2.1.length ≤ at_.length := by
  unfold lastV
  generalize (if e = true then b ++ [0, 0, 0, 0] else b) = z
  by_cases h : ((z.length : Nat) : Int) > 1048576
  · rw [if_pos h]; exact Nat.zero_le _
  · rw [if_neg h]; exact Nat.le_refl _
theorem writes_k (c : List S43) (fs : List S61) (a2 : Int) (e : Bool) (hc : c.length < 4398046511104) (hco : ∀ x ∈ c, x.f1.length < 5864062014805) (hf : fs.length < 2932031007402) (hfo : ∀ y ∈ fs, y.f3.length < 5864062014805) (hw : ∀ x ∈ c, -9223372036854775808 ≤ x.f0 ∧ x.f0 ≤ 9223372036854775807)
    (hat : (wrV (c.map cieV) (fs.map fdeV) a2 e).2.1.length < 9000000000000000000) : ∃ k, gangwaylaw14_EhframeWrites.f k c fs a2 e = some true := by
  have h1 := (mostC_ge c).1
  have h2 := (mostF_ge fs).1
  obtain ⟨k, hk⟩ : ∃ k, k = 40000 + 4 * mostC c + 5 * mostF fs + 4000 * 4002 + (wrV (c.map cieV) (fs.map fdeV) a2 e).2.1.length + 1 := ⟨_, rfl⟩
  refine ⟨k + 1, ?_⟩
  unfold gangwaylaw14_EhframeWrites.f
  rw [tables_k c hc hco fs hf hfo (k + 1) (by omega), Option.bind_some]
  dsimp only
  rw [write_k (c.map cieV) (fs.map fdeV) a2 e (k + 1) (by rw [List.length_map, List.length_map]; omega), Option.bind_some]
  rw [rwrite_k c fs (by omega) (by omega) hw a2 e (k + 1) (by omega), Option.bind_some]
  rw [check_k (c.map cieV) (fs.map fdeV) (k + 1) (by rw [List.length_map, List.length_map]; omega), Option.bind_some]
  rw [show gangwaylaw14_num.f (checkV (c.map cieV) (fs.map fdeV)) = some (checkV (c.map cieV) (fs.map fdeV)) from rfl, Option.bind_some]
  rw [rcheck_k c fs (by omega) (by omega) hw (k + 1) (by omega), Option.bind_some]
  rw [if_pos rfl, if_pos rfl, if_pos rfl]
  rw [show gangwaylaw14_num.f (wrV (c.map cieV) (fs.map fdeV) a2 e).2.2 = some (wrV (c.map cieV) (fs.map fdeV) a2 e).2.2 from rfl, Option.bind_some, if_pos rfl]
  rw [same_k c (by omega) (fun x hx => by have := hco x hx; omega) fs (by omega) (fun y hy => by have := hfo y hy; omega) (k + 1) (by omega), Option.bind_some]
  rw [gangwaylaw14_EhframeWrites.j0, if_neg (by decide)]
  exact writes_l0 _ hat (wrV (c.map cieV) (fs.map fdeV) a2 e).2.1.length k 0 (by omega) (by omega)
theorem out_len (fs : List S46) (a2 : Int) (l : List S69) (hok : ∀ y ∈ fs, OkF y) : ∀ (ci : Nat) (b at_ : List Int) (r : List Int × List Int), outV fs a2 l ci b at_ = some r → r.2.length = at_.length := by
  induction l with
  | nil => intro ci b at_ r h; simp only [outV, Option.some.injEq] at h; subst h; rfl
  | cons x l ih =>
    intro ci b at_ r h
    simp only [outV] at h
    obtain ⟨r1, h1, h2⟩ := Option.bind_eq_some_iff.1 h
    rw [ih _ _ _ _ h2]
    exact (in_len _ _ _ _ fs hok _ _ _ _ h1).2
theorem wrV_len (c : List S69) (fs : List S46) (a2 : Int) (e : Bool) : (wrV c fs a2 e).2.1.length ≤ 4000 := by
  unfold wrV
  by_cases h : checkV c fs = 0
  · obtain ⟨hc, hf, g0, g1, g2, g3, g4, g5⟩ := check_good h
    rw [if_pos h]
    split
    · simp
    · split
      · simp
      · rename_i r hr
        have h1 := out_len fs a2 c (fun y hy => okF_of (g1 y hy) (g3 y hy)) _ _ _ _ hr
        have h2 := lastV_len e r.1 r.2
        rw [List.length_replicate] at h1
        omega
  · rw [if_neg h]; simp
theorem EhframeWrites : Stmt.EhframeWrites := by
  intro l0 l1 a2 a3 w0 w1 w2
  obtain ⟨c1, c2, c3⟩ := w0
  obtain ⟨f1, f2, f3⟩ := w1
  exact writes_k l0 l1 a2 a3 (by omega) (fun x hx => by have := (c3 x hx).2.1; omega) (by omega) (fun y hy => by have := (f3 y hy).2.2.2.1; omega) (fun x hx => wf_int (c3 x hx).1) (by have := wrV_len (l0.map cieV) (l1.map fdeV) a2 a3; omega)
end Go.Proofs.Ytfgfnflhdabmcaa.Pure
end
section
namespace Go.Proofs.Ytfgfnflhdabmcaa.Opening
open Go.ChangeShapes Go.WideShapes Go.Proofs.YtfgfnflhdabmcaaW.PrintWords
structure Opens {α : Type} (P : Program) (t : TypeId) (d : Kd α) (wf : α → Prop) (wt : α → Nat) : Prop where
  cells : P.cellsOf t = d.sz
  op : ∀ {H : Type} {enc : TypeId × Value → H} {w : World} {base : Nat} {spare : Nat → Bool} {held : Bool} {fuel : Nat} {cs : List Value} {x : DataW H × List MemPlace},
    DataW.trod enc P w base spare held fuel t cs = some x → (∀ n ∈ x.1.weights P t, n ≤ 140737488351232) → ∃ a : α, d.K w a cs ∧ wf a ∧ wt a ≤ Rows.uptoBulk x.1
theorem opens_int {P : Program} {t : TypeId} (k : IntKind) (ht : P.underlying t = some (.int k)) (hc : P.cellsOf t = 1) : Opens P t (Kd.int k) (fun a => (Lit.int k a).wf = true) (fun _ => 1) :=
  ⟨hc, fun h _ => by
    obtain ⟨n, rfl, rfl, hw⟩ := DataW.trod_int ht h
    exact ⟨n, rfl, hw, by simp [Rows.uptoBulk]⟩⟩
theorem list_of {α : Type} {p : Nat → α → Prop} : ∀ {n : Nat}, (∀ i, i < n → ∃ a, p i a) → ∃ l : List α, l.length = n ∧ ∀ i (h : i < l.length), p i l[i]
  | 0, _ => ⟨[], rfl, fun i h => absurd h (Nat.not_lt_zero _)⟩
  | n + 1, h => by
    obtain ⟨l, hl, hp⟩ := list_of (n := n) (fun i hi => h i (Nat.lt_succ_of_lt hi))
    obtain ⟨a, ha⟩ := h n (Nat.lt_succ_self n)
    refine ⟨l ++ [a], by simp [hl], fun i hi => ?_⟩
    by_cases hlt : i < l.length
    · rw [List.getElem_append_left hlt]
      exact hp i hlt
    · have e : i = n := by simp at hi; omega
      subst e
      rw [List.getElem_append_right (by omega)]
      simpa [hl] using ha
theorem bulk_all {α H : Type} {wt : α → Nat} : ∀ {l : List α} {ds : List (DataW H)}, l.length ≤ ds.length → (∀ i (h : i < l.length) d, ds[i]? = some d → wt l[i] ≤ Rows.uptoBulk d) → (l.map wt).sum ≤ Rows.uptoBulkAll ds
  | [], _, _, _ => by simp
  | a :: l, [], h, _ => by simp at h
  | a :: l, d :: ds, h, hw => by
    have h0 := hw 0 (by simp) d rfl
    have h1 := bulk_all (l := l) (ds := ds) (by simpa using h) (fun i hi d' hd' => hw (i + 1) (by simpa using hi) d' (by simpa using hd'))
    simp only [List.map_cons, List.sum_cons, Rows.uptoBulkAll]
    simp at h0
    omega
theorem weights_all {H : Type} {P : Program} {e : TypeId} : ∀ {ds : List (DataW H)} {d : DataW H}, d ∈ ds → ∀ n ∈ d.weights P e, n ∈ DataW.weightsAll P e ds
  | d0 :: ds, d, h, n, hn => by
    simp only [DataW.weightsAll, List.mem_append]
    cases List.mem_cons.1 h with
    | inl e => subst e; exact .inl hn
    | inr e => exact .inr (weights_all e n hn)
theorem opens_slice {α : Type} {P : Program} {t e : TypeId} {d : Kd α} {wf : α → Prop} {wt : α → Nat} {b : Nat} (ho : Opens P e d wf wt) (ht : P.underlying t = some (.slice e)) (hc : P.cellsOf t = 1) (hb : P.bytesOf e = b) :
    Opens P t (Kd.slice e d) (fun l => l.length * b ≤ 140737488351232 ∧ l.length ≤ 9223372036854775807 ∧ ∀ a ∈ l, wf a) (fun l => (l.map wt).sum + 1) :=
  ⟨hc, fun {H enc w base spare held fuel cs x} h hz => by
    subst hb
    rcases DataW.trod_slice ht h with ⟨rfl, rfl⟩ | ⟨a, len, cap, elems, rest, n, _, rfl, rfl, hb, hl, hm, hlen, hel, hsp, hns⟩
    · exact ⟨[], ⟨none, 0, rfl, Nat.le_refl _, Kd.C_nil d w⟩, ⟨by simp, by simp, by simp⟩, by simp [Rows.uptoBulk]⟩
    · have hm' : cap ≤ 9223372036854775807 := hm
      have hz1 : (elems.length + rest.length) * P.bytesOf e ≤ 140737488351232 := hz _ (by simp [DataW.weights, ht])
      have hz2 : ∀ y ∈ elems, ∀ n ∈ y.1.weights P e, n ≤ 140737488351232 := fun y hy n hn => hz _ (by
        simp only [DataW.weights, ht, List.mem_cons, List.mem_append]
        exact .inr (.inl (weights_all (List.mem_map.2 ⟨y, hy, rfl⟩) n hn)))
      have each : ∀ i, i < len → ∃ a' : α, (∃ cs' y, w.cells? base (a.add (i * P.cellsOf e)) (P.cellsOf e) = some cs' ∧ d.K w a' cs' ∧ elems[i]? = some y ∧ wt a' ≤ Rows.uptoBulk y.1) ∧ wf a' := fun i hi => by
        have h1 := hel i hi
        rw [List.getElem?_eq_getElem (by omega)] at h1
        obtain ⟨cs', h2, h3⟩ := Option.bind_eq_some_iff.1 h1
        obtain ⟨a', k1, k2, k3⟩ := ho.op h3 (hz2 _ (List.getElem_mem _))
        exact ⟨a', ⟨cs', _, h2, k1, List.getElem?_eq_getElem (by omega), k3⟩, k2⟩
      obtain ⟨l, hl1, hl2⟩ := list_of each
      subst hl1
      refine ⟨l, ⟨some a, cap, rfl, hl, rfl, by omega, fun _ => ⟨a, rfl, fun j p hp => ?_⟩⟩, ⟨?_, by omega, fun a' ha' => ?_⟩, ?_⟩
      · obtain ⟨hj, rfl⟩ := List.getElem?_eq_some_iff.1 hp
        obtain ⟨⟨cs', y, h2, k1, _, _⟩, _⟩ := hl2 j hj
        obtain ⟨_, hcl, hcell⟩ := World.cells?_some h2
        refine ⟨cs', by rw [hcl, ho.cells], k1, fun i u hu => ?_⟩
        have hi : i < P.cellsOf e := by rw [← hcl]; exact (List.getElem?_eq_some_iff.1 hu).1
        have := hcell i hi
        rw [hu, ho.cells] at this
        rw [← this]
        congr 1
        unfold Addr.add
        by_cases hi0 : i = 0 <;> by_cases hj0 : j * d.sz = 0 <;> simp [hi0, hj0, Nat.add_assoc]
      · refine Nat.le_trans (Nat.mul_le_mul_right _ ?_) hz1
        omega
      · obtain ⟨j, hj, rfl⟩ := List.getElem_of_mem ha'
        exact (hl2 j hj).2
      · have := bulk_all (l := l) (ds := elems.map (·.1)) (wt := wt) (by simp; omega) (fun i hi dd hd => by
          obtain ⟨⟨_, y, _, _, hy, hw⟩, _⟩ := hl2 i hi
          rw [List.getElem?_map, hy] at hd
          simp at hd
          subst hd
          exact hw)
        simp only [Rows.uptoBulk]
        omega⟩
def OpensF {α : Type} (P : Program) (fs : List Field) (off : Nat) (d : Kd α) (wf : α → Prop) (wt : α → Nat) : Prop :=
  (∃ f r, fs = f :: r ∧ f.offset = off) ∧
  ∀ {H : Type} {enc : TypeId × Value → H} {w : World} {base : Nat} {spare : Nat → Bool} {held : Bool} {fuel : Nat} {cs : List Value} {xs : List (DataW H × List MemPlace)},
    cs.length = d.sz → xs.length = fs.length → (∀ (i : Nat) (f : Field), fs[i]? = some f → DataW.trod enc P w base spare held fuel f.type ((cs.drop (f.offset - off)).take (P.cellsOf f.type)) = xs[i]? ∧ off ≤ f.offset) →
    (∀ n ∈ DataW.weightsEach P (fs.map (·.type)) (xs.map (·.1)), n ≤ 140737488351232) → ∃ a : α, d.K w a cs ∧ wf a ∧ wt a ≤ Rows.uptoBulkAll (xs.map (·.1))
theorem opensF_one {α : Type} {P : Program} {f : Field} {off : Nat} {d : Kd α} {wf : α → Prop} {wt : α → Nat} (ho : Opens P f.type d wf wt) (hf : f.offset = off) : OpensF P [f] off d wf wt :=
  ⟨⟨f, [], rfl, hf⟩, fun {H enc w base spare held fuel cs xs} hc hx h hz => by
    match xs, hx with
    | [x], _ =>
      have h1 := (h 0 f rfl).1
      rw [hf, Nat.sub_self, List.drop_zero, ho.cells, List.take_of_length_le (by omega)] at h1
      obtain ⟨a, k1, k2, k3⟩ := ho.op (x := x) (by simpa using h1) (fun n hn => hz n (by simp [DataW.weightsEach, hn]))
      exact ⟨a, k1, k2, by simpa [Rows.uptoBulkAll] using k3⟩⟩
theorem opensF_cons {α β : Type} {P : Program} {f : Field} {fs : List Field} {off : Nat} {a : Kd α} {b : Kd β} {wfa : α → Prop} {wta : α → Nat} {wfb : β → Prop} {wtb : β → Nat} (ho : Opens P f.type a wfa wta) (hf : f.offset = off)
    (hr : OpensF P fs (off + a.sz) b wfb wtb) (hge : ∀ g ∈ fs, off + a.sz ≤ g.offset) : OpensF P (f :: fs) off (Kd.pair a b) (fun x => wfa x.1 ∧ wfb x.2) (fun x => wta x.1 + wtb x.2) :=
  ⟨⟨f, fs, rfl, hf⟩, fun {H enc w base spare held fuel cs xs} hc hx h hz => by
    match xs, hx with
    | x :: xs, hx =>
      have hc' : cs.length = a.sz + b.sz := hc
      have h1 := (h 0 f rfl).1
      rw [hf, Nat.sub_self, List.drop_zero, ho.cells] at h1
      obtain ⟨u, k1, k2, k3⟩ := ho.op (x := x) (by simpa using h1) (fun n hn => hz n (by simp [DataW.weightsEach, hn]))
      obtain ⟨v, j1, j2, j3⟩ := hr.2 (cs := cs.drop a.sz) (xs := xs) (by simp; omega) (by simpa using hx) (fun i g hg => by
        obtain ⟨h2, h3⟩ := h (i + 1) g (by simpa using hg)
        have h4 := hge g (List.mem_of_getElem? hg)
        refine ⟨?_, h4⟩
        rw [List.drop_drop, show a.sz + (g.offset - (off + a.sz)) = g.offset - off from by omega]
        simpa using h2) (fun n hn => hz n (by simp [DataW.weightsEach, hn]))
      refine ⟨(u, v), ⟨cs.take a.sz, cs.drop a.sz, (List.take_append_drop _ _).symm, k1, j1⟩, ⟨k2, j2⟩, ?_⟩
      simp only [List.map_cons, Rows.uptoBulkAll]
      omega⟩
theorem opens_struct {α β : Type} {P : Program} {t : TypeId} {fs : Array Field} {d : Kd α} {wf : α → Prop} {wt : α → Nat} (f : β → α) (g : α → β) (hfg : ∀ a, f (g a) = a) (ht : P.underlying t = some (.struct fs)) (hc : P.cellsOf t = d.sz)
    (ho : OpensF P fs.toList 0 d wf wt) : Opens P t (Kd.iso d f) (fun x => wf (f x)) (fun x => wt (f x) + 1) :=
  ⟨hc, fun {H enc w base spare held fuel cs x} h hz => by
    obtain ⟨xs, n, _, rfl, hl, hxl, hx⟩ := DataW.trod_struct ht h
    obtain ⟨a, k1, k2, k3⟩ := ho.2 (cs := cs) (xs := xs) (by rw [hl, hc]) (by simpa using hxl) (fun i fd hfd => ⟨by
      have := hx i fd (by simpa using hfd)
      simpa using this, Nat.zero_le _⟩) (fun m hm => hz m (by simpa [DataW.weights, ht] using hm))
    refine ⟨g a, ?_, ?_, ?_⟩
    · show d.K w (f (g a)) cs
      rw [hfg]
      exact k1
    · rw [hfg]
      exact k2
    · rw [hfg]
      simp only [Rows.uptoBulk]
      omega⟩
theorem weights_of {H : Type} {P : Program} {ts : List TypeId} {ds : List (DataW H)} (h : (DataW.weightsEach P ts ds).all (· ≤ reachBytes) = true) {j : Nat} {t : TypeId} {d : DataW H} (ht : ts[j]? = some t) (hd : ds[j]? = some d) : ∀ n ∈ d.weights P t, n ≤ 140737488351232 := fun n hn => by
  have := List.all_eq_true.1 h _ (DataW.weights_mem_each ht hd n hn)
  exact of_decide_eq_true this
end Go.Proofs.Ytfgfnflhdabmcaa.Opening
end
