/- Lemmas and contracts, one text behind the other: what the row of this claim needs; no conditions beyond those that each theorem names. -/
import Derived.Test.YtibkcnlcmempgaaVJ4
section
namespace Go.Proofs.Ytibkcnlcmempgaa.G
open Go.RowKit Go.Proofs.YtibkcnlcmempgaaW.PrintWords Go.Proofs.YtibkcnlcmempgaaW.PrintLast Go.Proofs.YtibkcnlcmempgaaW.PrintMore
attribute [local go_sem] max2_int min2_int max_two min_two max_three min_three max_four min_four   -- for this text's walks alone
set_option linter.unusedVariables false
set_option linter.unusedSimpArgs false
mutual
def gangwaylaw18_defined.l0 : Nat → List (S36) → ByteArray → Int → Option (Bool)
  | 0, _, _, _ => none
  | k + 1, x0, x1, x5 => if x5 < (x0.length : Int) then (gangwaylaw18_defined.l1 k x0 x1 x5 0) else (some false)
def gangwaylaw18_defined.l1 : Nat → List (S36) → ByteArray → Int → Int → Option (Bool)
  | 0, _, _, _, _ => none
  | k + 1, x0, x1, x5, x6 => if 0 ≤ x5 then (if x5 < (x0.length : Int) then (if x6 < (((rd_T36 x0 x5).f1).length : Int) then (if 0 ≤ x6 then (if ((rd_T38 ((rd_T36 x0 x5).f1) x6).f0).toList = x1.toList then (if ((rd_T38 ((rd_T36 x0 x5).f1) x6).f4) = 0 then (gangwaylaw18_defined.l1 k x0 x1 x5 (wrap64 (x6 + 1))) else (if ((rd_T38 ((rd_T36 x0 x5).f1) x6).f1).toList = ([] : List UInt8) then (gangwaylaw18_defined.l1 k x0 x1 x5 (wrap64 (x6 + 1))) else (some true))) else (gangwaylaw18_defined.l1 k x0 x1 x5 (wrap64 (x6 + 1)))) else (none)) else (gangwaylaw18_defined.l0 k x0 x1 (wrap64 (x5 + 1)))) else (none)) else (none)
end
def gangwaylaw18_defined.f (k : Nat) (l0 : List (S36)) (a1 : ByteArray) : Option (Bool) := gangwaylaw18_defined.l0 k l0 a1 0
set_option maxHeartbeats 8000000 in
set_option maxRecDepth 100000 in
theorem gangwaylaw18_defined.calls (k : Nat) (A0 : Option Addr) (c0 : Nat) (l0 : List (S36)) (a1 : ByteArray) (r : Bool) (w : World) (hr0 : Kd.C k36 w A0 l0.length l0) (hc0 : l0.length ≤ c0) (h : gangwaylaw18_defined.f k l0 a1 = some r) :
    Calls Try.prog 14 #[.slice A0 l0.length c0, .string a1] w fun e w' => e = .returned (.bool r) ∧ Below w.heap.size w w' := by
 have hu38 := Try.underlying38
 have HR0 := am hr0
 have HC0 := am hc0
 clear hr0 hc0
 have HB := am (Below.refl w.heap.size w)
 have H : (gangwaylaw18_defined.l0 k l0 a1 0) = some r := h
 clear h
 have H' := am H
 clear H
 go_enter Try.func14, Try.ntmps14
 go_wp2
 go_loopg [5] k (fun kq v5 w' => ∃ (x5_1 : Int), v5 = .int .i64 x5_1 ∧ Aside0 (gangwaylaw18_defined.l0 kq l0 a1 x5_1 = some r) ∧ Aside0 (kq ≤ k) ∧ Aside0 (Below w.heap.size w w'))
 case atStart => exact ⟨(0), (by first | rfl | (simp; done) | (simp [*]; done)), H', ⟨Nat.le_refl _⟩, ⟨by exact bl_g HB.out⟩⟩
 case round =>
  clear H'
  try clear c1
  try clear p2
  obtain ⟨x5_1, rfl, HA, HK1, HB⟩ := hrel
  cases gk with
  | zero => exact absurd HA.out (by simp [gangwaylaw18_defined.l0])
  | succ k1 =>
   have H := HA.out
   clear HA
   simp only [gangwaylaw18_defined.l0] at H
   by_cases c3 : x5_1 < (l0.length : Int)
   rotate_left
   ·
    rw [if_neg c3] at H
    have c3b0 : decide (x5_1 < (l0.length : Int)) = false := decide_eq_false c3
    clear c3
    obtain rfl := Option.some.inj H
    go_wp2
    go_ret
    exact ⟨rfl, by exact bl_g HB.out⟩
   rw [if_pos c3] at H
   have c3b0 : decide (x5_1 < (l0.length : Int)) = true := decide_eq_true c3
   clear c3
   have H' := am H
   clear H
   go_wp2
   go_loopg [6] k1 (fun kq v6 w' => ∃ (x6_2 : Int), v6 = .int .i64 x6_2 ∧ Aside0 (gangwaylaw18_defined.l1 kq l0 a1 x5_1 x6_2 = some r) ∧ Aside0 (kq ≤ k1) ∧ Aside0 (Below w.heap.size w w'))
   case atStart => exact ⟨(0), (by first | rfl | (simp; done) | (simp [*]; done)), H', ⟨Nat.le_refl _⟩, ⟨by exact bl_g HB.out⟩⟩
   case round =>
    clear H'
    try clear c1
    try clear p2
    try clear c3
    try clear c3b0
    try clear p2
    obtain ⟨x6_2, rfl, HA, HK2, HB⟩ := hrel
    cases gk with
    | zero => exact absurd HA.out (by simp [gangwaylaw18_defined.l1])
    | succ k2 =>
     have H := HA.out
     clear HA
     simp only [gangwaylaw18_defined.l1] at H
     by_cases c4 : 0 ≤ x5_1
     rotate_left
     ·
      rw [if_neg c4] at H
      exact absurd H (by simp)
     rw [if_pos c4] at H
     have c4b0 : decide (0 ≤ x5_1) = true := decide_eq_true c4
     clear c4
     by_cases c5 : x5_1 < (l0.length : Int)
     rotate_left
     ·
      rw [if_neg c5] at H
      exact absurd H (by simp)
     rw [if_pos c5] at H
     have c5b0 : decide (x5_1 < (l0.length : Int)) = true := decide_eq_true c5
     clear c5
     by_cases c6 : x6_2 < (((rd_T36 l0 x5_1).f1).length : Int)
     rotate_left
     ·
      rw [if_neg c6] at H
      have c6b0 : decide (x6_2 < (((rd_T36 l0 x5_1).f1).length : Int)) = false := decide_eq_false c6
      clear c6
      have H' := am H
      clear H
      have p101 : 0 ≤ (x5_1 : Int) := of_decide_eq_true (by first | (with_reducible assumption) | assumption)
      have q101 : x5_1 < (l0.length : Int) := of_decide_eq_true (by first | (with_reducible assumption) | assumption)
      obtain ⟨ad101, A101_0, c101_0, A101_1, c101_1, e101, hx101_0, hx101_1, hl101_0, hi101_0, hl101_1, hi101_1⟩ := at_T36 HR0.out x5_1 p101 q101
      cases e101
      replace hx101_0 := oc HB.out hx101_0
      replace hx101_1 := oc HB.out hx101_1
      have HR101_0 := am hi101_0
      have HC101_0 := am hl101_0
      clear hi101_0 hl101_0
      have HR101_1 := am hi101_1
      have HC101_1 := am hl101_1
      clear hi101_1 hl101_1
      replace p101 := eq_true p101
      replace q101 := eq_true q101
      go_wp2
      go_roundg k2
      case measure => have := HK1.out; have := HK2.out; omega
      case rel => exact ⟨(wrap64 (x5_1 + 1)), (by first | rfl | (simp; done) | (simp [*]; done)), H', ⟨by have := HK1.out; have := HK2.out; omega⟩, ⟨by exact bl_g HB.out⟩⟩
     rw [if_pos c6] at H
     have c6b0 : decide (x6_2 < (((rd_T36 l0 x5_1).f1).length : Int)) = true := decide_eq_true c6
     clear c6
     by_cases c7 : 0 ≤ x6_2
     rotate_left
     ·
      rw [if_neg c7] at H
      exact absurd H (by simp)
     rw [if_pos c7] at H
     have c7b0 : decide (0 ≤ x6_2) = true := decide_eq_true c7
     clear c7
     by_cases c8 : ((rd_T38 ((rd_T36 l0 x5_1).f1) x6_2).f0).toList = a1.toList
     rotate_left
     ·
      rw [if_neg c8] at H
      have c8b0 : (((rd_T38 ((rd_T36 l0 x5_1).f1) x6_2).f0).toList == a1.toList) = false := beq_eq_false_iff_ne.mpr c8
      have c8b1 : (((rd_T38 ((rd_T36 l0 x5_1).f1) x6_2).f0).toList != a1.toList) = true := bne_iff_ne.mpr c8
      have H' := am H
      clear H
      have p101 : 0 ≤ (x5_1 : Int) := of_decide_eq_true (by first | (with_reducible assumption) | assumption)
      have q101 : x5_1 < (l0.length : Int) := of_decide_eq_true (by first | (with_reducible assumption) | assumption)
      obtain ⟨ad101, A101_0, c101_0, A101_1, c101_1, e101, hx101_0, hx101_1, hl101_0, hi101_0, hl101_1, hi101_1⟩ := at_T36 HR0.out x5_1 p101 q101
      cases e101
      replace hx101_0 := oc HB.out hx101_0
      replace hx101_1 := oc HB.out hx101_1
      have HR101_0 := am hi101_0
      have HC101_0 := am hl101_0
      clear hi101_0 hl101_0
      have HR101_1 := am hi101_1
      have HC101_1 := am hl101_1
      clear hi101_1 hl101_1
      replace p101 := eq_true p101
      replace q101 := eq_true q101
      have p102 : 0 ≤ (x5_1 : Int) := of_decide_eq_true (by first | (with_reducible assumption) | assumption)
      have q102 : x5_1 < (l0.length : Int) := of_decide_eq_true (by first | (with_reducible assumption) | assumption)
      obtain ⟨ad102, A102_0, c102_0, A102_1, c102_1, e102, hx102_0, hx102_1, hl102_0, hi102_0, hl102_1, hi102_1⟩ := at_T36 HR0.out x5_1 p102 q102
      obtain rfl : ad101 = ad102 := (by injection e102)
      replace hx102_0 := oc HB.out hx102_0
      replace hx102_1 := oc HB.out hx102_1
      have HR102_0 := am hi102_0
      have HC102_0 := am hl102_0
      clear hi102_0 hl102_0
      have HR102_1 := am hi102_1
      have HC102_1 := am hl102_1
      clear hi102_1 hl102_1
      replace p102 := eq_true p102
      replace q102 := eq_true q102
      have ea_ := Option.some.inj (hx101_0.symm.trans hx102_0)
      injection ea_ with ea_ en_ ec_
      subst ea_
      subst ec_
      clear en_
      have ea_ := Option.some.inj (hx101_1.symm.trans hx102_1)
      injection ea_ with ea_ en_ ec_
      subst ea_
      subst ec_
      clear en_
      have p103 : 0 ≤ (x6_2 : Int) := of_decide_eq_true (by first | (with_reducible assumption) | assumption)
      have q103 : x6_2 < (((rd_T36 l0 x5_1).f1).length : Int) := of_decide_eq_true (by first | (with_reducible assumption) | assumption)
      obtain ⟨ad103, e103, hx103_0, hx103_1, hx103_2, hx103_3, hx103_4, hx103_5⟩ := at_T38 HR102_1.out x6_2 p103 q103
      cases e103
      replace hx103_0 := oc HB.out hx103_0
      replace hx103_1 := oc HB.out hx103_1
      replace hx103_2 := oc HB.out hx103_2
      replace hx103_3 := oc HB.out hx103_3
      replace hx103_4 := oc HB.out hx103_4
      replace hx103_5 := oc HB.out hx103_5
      replace p103 := eq_true p103
      replace q103 := eq_true q103
      go_wp2_with (first | ((with_reducible refine gate_dst (N := 7) rfl ?_); refine box_event ?hg (N := 7) ?hd (cs := #[.string (⟨#[]⟩ : ByteArray), .string (⟨#[]⟩ : ByteArray), .int .i64 0, .int .i64 0, .int .i64 0, .int .i64 0]) (t := 38) ?hr ?_; (case hd => rfl); (case hg => rfl); (case hr => go_simp; try rfl); intro gb104 hg w17 hbox hb; refine mv3 (am (below_step (by exact bl_o HB.out) hb)) (am (hbox)) (lei (by rw [hg]; exact (below_size (by exact bl_o HB.out)) : w.heap.size ≤ gb104)) ?_; clear HB; intro HB BK104 GW104; have GE104 := GW104; clear hb hbox hg; obtain ⟨hcz18_0, hcz18_1, hcz18_2, hcz18_3, hcz18_4, hcz18_5, hfz18_0, hfz18_1, hfz18_2, hfz18_3, hfz18_4, hfz18_5⟩ := cells6 BK104.out))
      go_roundg k2
      case measure => have := HK1.out; have := HK2.out; omega
      case rel => exact ⟨(wrap64 (x6_2 + 1)), (by first | rfl | (simp; done) | (simp [*]; done)), H', ⟨by have := HK1.out; have := HK2.out; omega⟩, ⟨by exact bl_g HB.out⟩⟩
     rw [if_pos c8] at H
     have c8b0 : (((rd_T38 ((rd_T36 l0 x5_1).f1) x6_2).f0).toList == a1.toList) = true := beq_iff_eq.mpr c8
     have c8b1 : (((rd_T38 ((rd_T36 l0 x5_1).f1) x6_2).f0).toList != a1.toList) = false := bne_eq_false_iff_eq.mpr c8
     clear c8
     by_cases c9 : ((rd_T38 ((rd_T36 l0 x5_1).f1) x6_2).f4) = 0
     ·
      rw [if_pos c9] at H
      have c9b0 : (((rd_T38 ((rd_T36 l0 x5_1).f1) x6_2).f4) == 0) = true := beq_iff_eq.mpr c9
      have c9b1 : (((rd_T38 ((rd_T36 l0 x5_1).f1) x6_2).f4) != 0) = false := bne_eq_false_iff_eq.mpr c9
      clear c9
      have H' := am H
      clear H
      have p101 : 0 ≤ (x5_1 : Int) := of_decide_eq_true (by first | (with_reducible assumption) | assumption)
      have q101 : x5_1 < (l0.length : Int) := of_decide_eq_true (by first | (with_reducible assumption) | assumption)
      obtain ⟨ad101, A101_0, c101_0, A101_1, c101_1, e101, hx101_0, hx101_1, hl101_0, hi101_0, hl101_1, hi101_1⟩ := at_T36 HR0.out x5_1 p101 q101
      cases e101
      replace hx101_0 := oc HB.out hx101_0
      replace hx101_1 := oc HB.out hx101_1
      have HR101_0 := am hi101_0
      have HC101_0 := am hl101_0
      clear hi101_0 hl101_0
      have HR101_1 := am hi101_1
      have HC101_1 := am hl101_1
      clear hi101_1 hl101_1
      replace p101 := eq_true p101
      replace q101 := eq_true q101
      have p102 : 0 ≤ (x5_1 : Int) := of_decide_eq_true (by first | (with_reducible assumption) | assumption)
      have q102 : x5_1 < (l0.length : Int) := of_decide_eq_true (by first | (with_reducible assumption) | assumption)
      obtain ⟨ad102, A102_0, c102_0, A102_1, c102_1, e102, hx102_0, hx102_1, hl102_0, hi102_0, hl102_1, hi102_1⟩ := at_T36 HR0.out x5_1 p102 q102
      obtain rfl : ad101 = ad102 := (by injection e102)
      replace hx102_0 := oc HB.out hx102_0
      replace hx102_1 := oc HB.out hx102_1
      have HR102_0 := am hi102_0
      have HC102_0 := am hl102_0
      clear hi102_0 hl102_0
      have HR102_1 := am hi102_1
      have HC102_1 := am hl102_1
      clear hi102_1 hl102_1
      replace p102 := eq_true p102
      replace q102 := eq_true q102
      have ea_ := Option.some.inj (hx101_0.symm.trans hx102_0)
      injection ea_ with ea_ en_ ec_
      subst ea_
      subst ec_
      clear en_
      have ea_ := Option.some.inj (hx101_1.symm.trans hx102_1)
      injection ea_ with ea_ en_ ec_
      subst ea_
      subst ec_
      clear en_
      have p103 : 0 ≤ (x6_2 : Int) := of_decide_eq_true (by first | (with_reducible assumption) | assumption)
      have q103 : x6_2 < (((rd_T36 l0 x5_1).f1).length : Int) := of_decide_eq_true (by first | (with_reducible assumption) | assumption)
      obtain ⟨ad103, e103, hx103_0, hx103_1, hx103_2, hx103_3, hx103_4, hx103_5⟩ := at_T38 HR102_1.out x6_2 p103 q103
      cases e103
      replace hx103_0 := oc HB.out hx103_0
      replace hx103_1 := oc HB.out hx103_1
      replace hx103_2 := oc HB.out hx103_2
      replace hx103_3 := oc HB.out hx103_3
      replace hx103_4 := oc HB.out hx103_4
      replace hx103_5 := oc HB.out hx103_5
      replace p103 := eq_true p103
      replace q103 := eq_true q103
      go_wp2_with (first | ((with_reducible refine gate_dst (N := 7) rfl ?_); refine box_event ?hg (N := 7) ?hd (cs := #[.string (⟨#[]⟩ : ByteArray), .string (⟨#[]⟩ : ByteArray), .int .i64 0, .int .i64 0, .int .i64 0, .int .i64 0]) (t := 38) ?hr ?_; (case hd => rfl); (case hg => rfl); (case hr => go_simp; try rfl); intro gb104 hg w10 hbox hb; refine mv3 (am (below_step (by exact bl_o HB.out) hb)) (am (hbox)) (lei (by rw [hg]; exact (below_size (by exact bl_o HB.out)) : w.heap.size ≤ gb104)) ?_; clear HB; intro HB BK104 GW104; have GE104 := GW104; clear hb hbox hg; obtain ⟨hcz11_0, hcz11_1, hcz11_2, hcz11_3, hcz11_4, hcz11_5, hfz11_0, hfz11_1, hfz11_2, hfz11_3, hfz11_4, hfz11_5⟩ := cells6 BK104.out))
      go_roundg k2
      case measure => have := HK1.out; have := HK2.out; omega
      case rel => exact ⟨(wrap64 (x6_2 + 1)), (by first | rfl | (simp; done) | (simp [*]; done)), H', ⟨by have := HK1.out; have := HK2.out; omega⟩, ⟨by exact bl_g HB.out⟩⟩
     rw [if_neg c9] at H
     have c9b0 : (((rd_T38 ((rd_T36 l0 x5_1).f1) x6_2).f4) == 0) = false := beq_eq_false_iff_ne.mpr c9
     have c9b1 : (((rd_T38 ((rd_T36 l0 x5_1).f1) x6_2).f4) != 0) = true := bne_iff_ne.mpr c9
     by_cases c12 : ((rd_T38 ((rd_T36 l0 x5_1).f1) x6_2).f1).toList = ([] : List UInt8)
     ·
      rw [if_pos c12] at H
      have c12b0 : (((rd_T38 ((rd_T36 l0 x5_1).f1) x6_2).f1).toList == ([] : List UInt8)) = true := beq_iff_eq.mpr c12
      have c12b1 : (((rd_T38 ((rd_T36 l0 x5_1).f1) x6_2).f1).toList != ([] : List UInt8)) = false := bne_eq_false_iff_eq.mpr c12
      clear c12
      have H' := am H
      clear H
      have p101 : 0 ≤ (x5_1 : Int) := of_decide_eq_true (by first | (with_reducible assumption) | assumption)
      have q101 : x5_1 < (l0.length : Int) := of_decide_eq_true (by first | (with_reducible assumption) | assumption)
      obtain ⟨ad101, A101_0, c101_0, A101_1, c101_1, e101, hx101_0, hx101_1, hl101_0, hi101_0, hl101_1, hi101_1⟩ := at_T36 HR0.out x5_1 p101 q101
      cases e101
      replace hx101_0 := oc HB.out hx101_0
      replace hx101_1 := oc HB.out hx101_1
      have HR101_0 := am hi101_0
      have HC101_0 := am hl101_0
      clear hi101_0 hl101_0
      have HR101_1 := am hi101_1
      have HC101_1 := am hl101_1
      clear hi101_1 hl101_1
      replace p101 := eq_true p101
      replace q101 := eq_true q101
      have p102 : 0 ≤ (x5_1 : Int) := of_decide_eq_true (by first | (with_reducible assumption) | assumption)
      have q102 : x5_1 < (l0.length : Int) := of_decide_eq_true (by first | (with_reducible assumption) | assumption)
      obtain ⟨ad102, A102_0, c102_0, A102_1, c102_1, e102, hx102_0, hx102_1, hl102_0, hi102_0, hl102_1, hi102_1⟩ := at_T36 HR0.out x5_1 p102 q102
      obtain rfl : ad101 = ad102 := (by injection e102)
      replace hx102_0 := oc HB.out hx102_0
      replace hx102_1 := oc HB.out hx102_1
      have HR102_0 := am hi102_0
      have HC102_0 := am hl102_0
      clear hi102_0 hl102_0
      have HR102_1 := am hi102_1
      have HC102_1 := am hl102_1
      clear hi102_1 hl102_1
      replace p102 := eq_true p102
      replace q102 := eq_true q102
      have ea_ := Option.some.inj (hx101_0.symm.trans hx102_0)
      injection ea_ with ea_ en_ ec_
      subst ea_
      subst ec_
      clear en_
      have ea_ := Option.some.inj (hx101_1.symm.trans hx102_1)
      injection ea_ with ea_ en_ ec_
      subst ea_
      subst ec_
      clear en_
      have p103 : 0 ≤ (x6_2 : Int) := of_decide_eq_true (by first | (with_reducible assumption) | assumption)
      have q103 : x6_2 < (((rd_T36 l0 x5_1).f1).length : Int) := of_decide_eq_true (by first | (with_reducible assumption) | assumption)
      obtain ⟨ad103, e103, hx103_0, hx103_1, hx103_2, hx103_3, hx103_4, hx103_5⟩ := at_T38 HR102_1.out x6_2 p103 q103
      cases e103
      replace hx103_0 := oc HB.out hx103_0
      replace hx103_1 := oc HB.out hx103_1
      replace hx103_2 := oc HB.out hx103_2
      replace hx103_3 := oc HB.out hx103_3
      replace hx103_4 := oc HB.out hx103_4
      replace hx103_5 := oc HB.out hx103_5
      replace p103 := eq_true p103
      replace q103 := eq_true q103
      go_wp2_with (first | ((with_reducible refine gate_dst (N := 7) rfl ?_); refine box_event ?hg (N := 7) ?hd (cs := #[.string (⟨#[]⟩ : ByteArray), .string (⟨#[]⟩ : ByteArray), .int .i64 0, .int .i64 0, .int .i64 0, .int .i64 0]) (t := 38) ?hr ?_; (case hd => rfl); (case hg => rfl); (case hr => go_simp; try rfl); intro gb104 hg w13 hbox hb; refine mv3 (am (below_step (by exact bl_o HB.out) hb)) (am (hbox)) (lei (by rw [hg]; exact (below_size (by exact bl_o HB.out)) : w.heap.size ≤ gb104)) ?_; clear HB; intro HB BK104 GW104; have GE104 := GW104; clear hb hbox hg; obtain ⟨hcz14_0, hcz14_1, hcz14_2, hcz14_3, hcz14_4, hcz14_5, hfz14_0, hfz14_1, hfz14_2, hfz14_3, hfz14_4, hfz14_5⟩ := cells6 BK104.out))
      go_roundg k2
      case measure => have := HK1.out; have := HK2.out; omega
      case rel => exact ⟨(wrap64 (x6_2 + 1)), (by first | rfl | (simp; done) | (simp [*]; done)), H', ⟨by have := HK1.out; have := HK2.out; omega⟩, ⟨by exact bl_g HB.out⟩⟩
     rw [if_neg c12] at H
     have c12b0 : (((rd_T38 ((rd_T36 l0 x5_1).f1) x6_2).f1).toList == ([] : List UInt8)) = false := beq_eq_false_iff_ne.mpr c12
     have c12b1 : (((rd_T38 ((rd_T36 l0 x5_1).f1) x6_2).f1).toList != ([] : List UInt8)) = true := bne_iff_ne.mpr c12
     obtain rfl := Option.some.inj H
     have p101 : 0 ≤ (x5_1 : Int) := of_decide_eq_true (by first | (with_reducible assumption) | assumption)
     have q101 : x5_1 < (l0.length : Int) := of_decide_eq_true (by first | (with_reducible assumption) | assumption)
     obtain ⟨ad101, A101_0, c101_0, A101_1, c101_1, e101, hx101_0, hx101_1, hl101_0, hi101_0, hl101_1, hi101_1⟩ := at_T36 HR0.out x5_1 p101 q101
     cases e101
     replace hx101_0 := oc HB.out hx101_0
     replace hx101_1 := oc HB.out hx101_1
     have HR101_0 := am hi101_0
     have HC101_0 := am hl101_0
     clear hi101_0 hl101_0
     have HR101_1 := am hi101_1
     have HC101_1 := am hl101_1
     clear hi101_1 hl101_1
     replace p101 := eq_true p101
     replace q101 := eq_true q101
     have p102 : 0 ≤ (x5_1 : Int) := of_decide_eq_true (by first | (with_reducible assumption) | assumption)
     have q102 : x5_1 < (l0.length : Int) := of_decide_eq_true (by first | (with_reducible assumption) | assumption)
     obtain ⟨ad102, A102_0, c102_0, A102_1, c102_1, e102, hx102_0, hx102_1, hl102_0, hi102_0, hl102_1, hi102_1⟩ := at_T36 HR0.out x5_1 p102 q102
     obtain rfl : ad101 = ad102 := (by injection e102)
     replace hx102_0 := oc HB.out hx102_0
     replace hx102_1 := oc HB.out hx102_1
     have HR102_0 := am hi102_0
     have HC102_0 := am hl102_0
     clear hi102_0 hl102_0
     have HR102_1 := am hi102_1
     have HC102_1 := am hl102_1
     clear hi102_1 hl102_1
     replace p102 := eq_true p102
     replace q102 := eq_true q102
     have ea_ := Option.some.inj (hx101_0.symm.trans hx102_0)
     injection ea_ with ea_ en_ ec_
     subst ea_
     subst ec_
     clear en_
     have ea_ := Option.some.inj (hx101_1.symm.trans hx102_1)
     injection ea_ with ea_ en_ ec_
     subst ea_
     subst ec_
     clear en_
     have p103 : 0 ≤ (x6_2 : Int) := of_decide_eq_true (by first | (with_reducible assumption) | assumption)
     have q103 : x6_2 < (((rd_T36 l0 x5_1).f1).length : Int) := of_decide_eq_true (by first | (with_reducible assumption) | assumption)
     obtain ⟨ad103, e103, hx103_0, hx103_1, hx103_2, hx103_3, hx103_4, hx103_5⟩ := at_T38 HR102_1.out x6_2 p103 q103
     cases e103
     replace hx103_0 := oc HB.out hx103_0
     replace hx103_1 := oc HB.out hx103_1
     replace hx103_2 := oc HB.out hx103_2
     replace hx103_3 := oc HB.out hx103_3
     replace hx103_4 := oc HB.out hx103_4
     replace hx103_5 := oc HB.out hx103_5
     replace p103 := eq_true p103
     replace q103 := eq_true q103
     go_wp2_with (first | ((with_reducible refine gate_dst (N := 7) rfl ?_); refine box_event ?hg (N := 7) ?hd (cs := #[.string (⟨#[]⟩ : ByteArray), .string (⟨#[]⟩ : ByteArray), .int .i64 0, .int .i64 0, .int .i64 0, .int .i64 0]) (t := 38) ?hr ?_; (case hd => rfl); (case hg => rfl); (case hr => go_simp; try rfl); intro gb104 hg w15 hbox hb; refine mv3 (am (below_step (by exact bl_o HB.out) hb)) (am (hbox)) (lei (by rw [hg]; exact (below_size (by exact bl_o HB.out)) : w.heap.size ≤ gb104)) ?_; clear HB; intro HB BK104 GW104; have GE104 := GW104; clear hb hbox hg; obtain ⟨hcz16_0, hcz16_1, hcz16_2, hcz16_3, hcz16_4, hcz16_5, hfz16_0, hfz16_1, hfz16_2, hfz16_3, hfz16_4, hfz16_5⟩ := cells6 BK104.out))
     go_ret
     exact ⟨rfl, by exact bl_g HB.out⟩
end Go.Proofs.Ytibkcnlcmempgaa.G
end
