/- Lemmas and contracts, one text behind the other: what the row of this claim needs; no conditions beyond those that each theorem names. -/
import Derived.Test.YtibkcnlcmempgaaVJ3
section
namespace Go.Proofs.Ytibkcnlcmempgaa.G
open Go.RowKit Go.Proofs.YtibkcnlcmempgaaW.PrintWords Go.Proofs.YtibkcnlcmempgaaW.PrintLast Go.Proofs.YtibkcnlcmempgaaW.PrintMore
attribute [local go_sem] max2_int min2_int max_two min_two max_three min_three max_four min_four   -- for this text's walks alone
set_option linter.unusedVariables false
set_option linter.unusedSimpArgs false
mutual
def gangwaylaw18_clash.l0 : Nat → List (S36) → Int → Option (Bool)
  | 0, _, _ => none
  | k + 1, x0, x3 => if x3 < (x0.length : Int) then (gangwaylaw18_clash.l1 k x0 x3 0) else (some false)
def gangwaylaw18_clash.l1 : Nat → List (S36) → Int → Int → Option (Bool)
  | 0, _, _, _ => none
  | k + 1, x0, x3, x4 => if x4 < x3 then (gangwaylaw18_clash.l2 k x0 x3 x4 0) else (gangwaylaw18_clash.l0 k x0 (wrap64 (x3 + 1)))
def gangwaylaw18_clash.l2 : Nat → List (S36) → Int → Int → Int → Option (Bool)
  | 0, _, _, _, _ => none
  | k + 1, x0, x3, x4, x5 => if 0 ≤ x3 then (if x3 < (x0.length : Int) then (if x5 < (((rd_T36 x0 x3).f0).length : Int) then (gangwaylaw18_clash.l3 k x0 x3 x4 x5 0) else (gangwaylaw18_clash.l1 k x0 x3 (wrap64 (x4 + 1)))) else (none)) else (none)
def gangwaylaw18_clash.l3 : Nat → List (S36) → Int → Int → Int → Int → Option (Bool)
  | 0, _, _, _, _, _ => none
  | k + 1, x0, x3, x4, x5, x6 => if 0 ≤ x4 then (if x4 < (x0.length : Int) then (if x6 < (((rd_T36 x0 x4).f0).length : Int) then (if 0 ≤ x3 then (if x3 < (x0.length : Int) then (if 0 ≤ x5 then (if x5 < (((rd_T36 x0 x3).f0).length : Int) then (if 0 ≤ x6 then (if ((rd_T72 ((rd_T36 x0 x3).f0) x5).f0).toList = ((rd_T72 ((rd_T36 x0 x4).f0) x6).f0).toList then (if ((rd_T72 ((rd_T36 x0 x3).f0) x5).f1) = ((rd_T72 ((rd_T36 x0 x4).f0) x6).f1) then (if ((rd_T72 ((rd_T36 x0 x3).f0) x5).f2) = ((rd_T72 ((rd_T36 x0 x4).f0) x6).f2) then (gangwaylaw18_clash.l3 k x0 x3 x4 x5 (wrap64 (x6 + 1))) else (some true)) else (some true)) else (gangwaylaw18_clash.l3 k x0 x3 x4 x5 (wrap64 (x6 + 1)))) else (none)) else (none)) else (none)) else (none)) else (none)) else (gangwaylaw18_clash.l2 k x0 x3 x4 (wrap64 (x5 + 1)))) else (none)) else (none)
end
def gangwaylaw18_clash.f (k : Nat) (l0 : List (S36)) : Option (Bool) := gangwaylaw18_clash.l0 k l0 0
set_option maxHeartbeats 8000000 in
set_option maxRecDepth 100000 in
theorem gangwaylaw18_clash.calls (k : Nat) (A0 : Option Addr) (c0 : Nat) (l0 : List (S36)) (r : Bool) (w : World) (hr0 : Kd.C k36 w A0 l0.length l0) (hc0 : l0.length ≤ c0) (h : gangwaylaw18_clash.f k l0 = some r) :
    Calls Try.prog 11 #[.slice A0 l0.length c0] w fun e w' => e = .returned (.bool r) ∧ Below w.heap.size w w' := by
 have hu72 := Try.underlying72
 have HR0 := am hr0
 have HC0 := am hc0
 clear hr0 hc0
 have HB := am (Below.refl w.heap.size w)
 have H : (gangwaylaw18_clash.l0 k l0 0) = some r := h
 clear h
 have H' := am H
 clear H
 go_enter Try.func11, Try.ntmps11
 go_wp2
 go_loopg [3] k (fun kq v3 w' => ∃ (x3_1 : Int), v3 = .int .i64 x3_1 ∧ Aside0 (gangwaylaw18_clash.l0 kq l0 x3_1 = some r) ∧ Aside0 (kq ≤ k) ∧ Aside0 (Below w.heap.size w w'))
 case atStart => exact ⟨(0), (by first | rfl | (simp; done) | (simp [*]; done)), H', ⟨Nat.le_refl _⟩, ⟨by exact bl_g HB.out⟩⟩
 case round =>
  clear H'
  try clear c1
  obtain ⟨x3_1, rfl, HA, HK1, HB⟩ := hrel
  cases gk with
  | zero => exact absurd HA.out (by simp [gangwaylaw18_clash.l0])
  | succ k1 =>
   have H := HA.out
   clear HA
   simp only [gangwaylaw18_clash.l0] at H
   by_cases c2 : x3_1 < (l0.length : Int)
   rotate_left
   ·
    rw [if_neg c2] at H
    have c2b0 : decide (x3_1 < (l0.length : Int)) = false := decide_eq_false c2
    clear c2
    obtain rfl := Option.some.inj H
    go_wp2
    go_ret
    exact ⟨rfl, by exact bl_g HB.out⟩
   rw [if_pos c2] at H
   have c2b0 : decide (x3_1 < (l0.length : Int)) = true := decide_eq_true c2
   clear c2
   have H' := am H
   clear H
   go_wp2
   go_loopg [4] k1 (fun kq v4 w' => ∃ (x4_2 : Int), v4 = .int .i64 x4_2 ∧ Aside0 (gangwaylaw18_clash.l1 kq l0 x3_1 x4_2 = some r) ∧ Aside0 (kq ≤ k1) ∧ Aside0 (Below w.heap.size w w'))
   case atStart => exact ⟨(0), (by first | rfl | (simp; done) | (simp [*]; done)), H', ⟨Nat.le_refl _⟩, ⟨by exact bl_g HB.out⟩⟩
   case round =>
    clear H'
    try clear c1
    try clear c2
    try clear c2b0
    try clear p2
    obtain ⟨x4_2, rfl, HA, HK2, HB⟩ := hrel
    cases gk with
    | zero => exact absurd HA.out (by simp [gangwaylaw18_clash.l1])
    | succ k2 =>
     have H := HA.out
     clear HA
     simp only [gangwaylaw18_clash.l1] at H
     by_cases c3 : x4_2 < x3_1
     rotate_left
     ·
      rw [if_neg c3] at H
      have c3b0 : decide (x4_2 < x3_1) = false := decide_eq_false c3
      clear c3
      have H' := am H
      clear H
      go_wp2
      go_roundg k2
      case measure => have := HK1.out; have := HK2.out; omega
      case rel => exact ⟨(wrap64 (x3_1 + 1)), (by first | rfl | (simp; done) | (simp [*]; done)), H', ⟨by have := HK1.out; have := HK2.out; omega⟩, ⟨by exact bl_g HB.out⟩⟩
     rw [if_pos c3] at H
     have c3b0 : decide (x4_2 < x3_1) = true := decide_eq_true c3
     clear c3
     have H' := am H
     clear H
     go_wp2
     go_loopg [5] k2 (fun kq v5 w' => ∃ (x5_3 : Int), v5 = .int .i64 x5_3 ∧ Aside0 (gangwaylaw18_clash.l2 kq l0 x3_1 x4_2 x5_3 = some r) ∧ Aside0 (kq ≤ k2) ∧ Aside0 (Below w.heap.size w w'))
     case atStart => exact ⟨(0), (by first | rfl | (simp; done) | (simp [*]; done)), H', ⟨Nat.le_refl _⟩, ⟨by exact bl_g HB.out⟩⟩
     case round =>
      clear H'
      try clear c1
      try clear c2
      try clear c2b0
      try clear p2
      try clear c3
      try clear c3b0
      try clear p2
      obtain ⟨x5_3, rfl, HA, HK3, HB⟩ := hrel
      cases gk with
      | zero => exact absurd HA.out (by simp [gangwaylaw18_clash.l2])
      | succ k3 =>
       have H := HA.out
       clear HA
       simp only [gangwaylaw18_clash.l2] at H
       by_cases c4 : 0 ≤ x3_1
       rotate_left
       ·
        rw [if_neg c4] at H
        exact absurd H (by simp)
       rw [if_pos c4] at H
       have c4b0 : decide (0 ≤ x3_1) = true := decide_eq_true c4
       clear c4
       by_cases c5 : x3_1 < (l0.length : Int)
       rotate_left
       ·
        rw [if_neg c5] at H
        exact absurd H (by simp)
       rw [if_pos c5] at H
       have c5b0 : decide (x3_1 < (l0.length : Int)) = true := decide_eq_true c5
       clear c5
       by_cases c6 : x5_3 < (((rd_T36 l0 x3_1).f0).length : Int)
       rotate_left
       ·
        rw [if_neg c6] at H
        have c6b0 : decide (x5_3 < (((rd_T36 l0 x3_1).f0).length : Int)) = false := decide_eq_false c6
        clear c6
        have H' := am H
        clear H
        have p101 : 0 ≤ (x3_1 : Int) := of_decide_eq_true (by first | (with_reducible assumption) | assumption)
        have q101 : x3_1 < (l0.length : Int) := of_decide_eq_true (by first | (with_reducible assumption) | assumption)
        obtain ⟨ad101, A101_0, c101_0, A101_1, c101_1, e101, hx101_0, hx101_1, hl101_0, hi101_0, hl101_1, hi101_1⟩ := at_T36 HR0.out x3_1 p101 q101
        cases e101
        replace hx101_0 := oc HB.out hx101_0
        replace hx101_1 := oc HB.out hx101_1
        have HR101_0 := am hi101_0
        have HC101_0 := am hl101_0
        clear hi101_0 hl101_0
        have HR101_1 := am hi101_1
        have HC101_1 := am hl101_1
        clear hi101_1 hl101_1
        replace p101 := eq_true p101
        replace q101 := eq_true q101
        go_wp2
        go_roundg k3
        case measure => have := HK1.out; have := HK2.out; have := HK3.out; omega
        case rel => exact ⟨(wrap64 (x4_2 + 1)), (by first | rfl | (simp; done) | (simp [*]; done)), H', ⟨by have := HK1.out; have := HK2.out; have := HK3.out; omega⟩, ⟨by exact bl_g HB.out⟩⟩
       rw [if_pos c6] at H
       have c6b0 : decide (x5_3 < (((rd_T36 l0 x3_1).f0).length : Int)) = true := decide_eq_true c6
       clear c6
       have H' := am H
       clear H
       have p101 : 0 ≤ (x3_1 : Int) := of_decide_eq_true (by first | (with_reducible assumption) | assumption)
       have q101 : x3_1 < (l0.length : Int) := of_decide_eq_true (by first | (with_reducible assumption) | assumption)
       obtain ⟨ad101, A101_0, c101_0, A101_1, c101_1, e101, hx101_0, hx101_1, hl101_0, hi101_0, hl101_1, hi101_1⟩ := at_T36 HR0.out x3_1 p101 q101
       cases e101
       replace hx101_0 := oc HB.out hx101_0
       replace hx101_1 := oc HB.out hx101_1
       have HR101_0 := am hi101_0
       have HC101_0 := am hl101_0
       clear hi101_0 hl101_0
       have HR101_1 := am hi101_1
       have HC101_1 := am hl101_1
       clear hi101_1 hl101_1
       replace p101 := eq_true p101
       replace q101 := eq_true q101
       go_wp2
       go_loopg [6] k3 (fun kq v6 w' => ∃ (x6_4 : Int), v6 = .int .i64 x6_4 ∧ Aside0 (gangwaylaw18_clash.l3 kq l0 x3_1 x4_2 x5_3 x6_4 = some r) ∧ Aside0 (kq ≤ k3) ∧ Aside0 (Below w.heap.size w w'))
       case atStart => exact ⟨(0), (by first | rfl | (simp; done) | (simp [*]; done)), H', ⟨Nat.le_refl _⟩, ⟨by exact bl_g HB.out⟩⟩
       case round =>
        clear H'
        try clear c1
        try clear p1
        try clear q1
        try clear hx1
        try clear c2
        try clear c2b0
        try clear p2
        try clear c3
        try clear c3b0
        try clear c4
        try clear c4b0
        try clear c5
        try clear c5b0
        try clear c6
        try clear c6b0
        try clear hx101_0
        try clear hx101_1
        try clear p101
        try clear p2
        try clear q101
        obtain ⟨x6_4, rfl, HA, HK4, HB⟩ := hrel
        cases gk with
        | zero => exact absurd HA.out (by simp [gangwaylaw18_clash.l3])
        | succ k4 =>
         have H := HA.out
         clear HA
         simp only [gangwaylaw18_clash.l3] at H
         by_cases c7 : 0 ≤ x4_2
         rotate_left
         ·
          rw [if_neg c7] at H
          exact absurd H (by simp)
         rw [if_pos c7] at H
         have c7b0 : decide (0 ≤ x4_2) = true := decide_eq_true c7
         clear c7
         by_cases c8 : x4_2 < (l0.length : Int)
         rotate_left
         ·
          rw [if_neg c8] at H
          exact absurd H (by simp)
         rw [if_pos c8] at H
         have c8b0 : decide (x4_2 < (l0.length : Int)) = true := decide_eq_true c8
         clear c8
         by_cases c9 : x6_4 < (((rd_T36 l0 x4_2).f0).length : Int)
         rotate_left
         ·
          rw [if_neg c9] at H
          have c9b0 : decide (x6_4 < (((rd_T36 l0 x4_2).f0).length : Int)) = false := decide_eq_false c9
          clear c9
          have H' := am H
          clear H
          have p102 : 0 ≤ (x4_2 : Int) := of_decide_eq_true (by first | (with_reducible assumption) | assumption)
          have q102 : x4_2 < (l0.length : Int) := of_decide_eq_true (by first | (with_reducible assumption) | assumption)
          obtain ⟨ad102, A102_0, c102_0, A102_1, c102_1, e102, hx102_0, hx102_1, hl102_0, hi102_0, hl102_1, hi102_1⟩ := at_T36 HR0.out x4_2 p102 q102
          obtain rfl : ad101 = ad102 := (by injection e102)
          replace hx102_0 := oc HB.out hx102_0
          replace hx102_1 := oc HB.out hx102_1
          have HR102_0 := am hi102_0
          have HC102_0 := am hl102_0
          clear hi102_0 hl102_0
          have HR102_1 := am hi102_1
          have HC102_1 := am hl102_1
          clear hi102_1 hl102_1
          replace p102 := eq_true p102
          replace q102 := eq_true q102
          go_wp2
          go_roundg k4
          case measure => have := HK1.out; have := HK2.out; have := HK3.out; have := HK4.out; omega
          case rel => exact ⟨(wrap64 (x5_3 + 1)), (by first | rfl | (simp; done) | (simp [*]; done)), H', ⟨by have := HK1.out; have := HK2.out; have := HK3.out; have := HK4.out; omega⟩, ⟨by exact bl_g HB.out⟩⟩
         rw [if_pos c9] at H
         have c9b0 : decide (x6_4 < (((rd_T36 l0 x4_2).f0).length : Int)) = true := decide_eq_true c9
         clear c9
         by_cases c10 : 0 ≤ x3_1
         rotate_left
         ·
          rw [if_neg c10] at H
          exact absurd H (by simp)
         rw [if_pos c10] at H
         have c10b0 : decide (0 ≤ x3_1) = true := decide_eq_true c10
         clear c10
         by_cases c11 : x3_1 < (l0.length : Int)
         rotate_left
         ·
          rw [if_neg c11] at H
          exact absurd H (by simp)
         rw [if_pos c11] at H
         have c11b0 : decide (x3_1 < (l0.length : Int)) = true := decide_eq_true c11
         clear c11
         by_cases c12 : 0 ≤ x5_3
         rotate_left
         ·
          rw [if_neg c12] at H
          exact absurd H (by simp)
         rw [if_pos c12] at H
         have c12b0 : decide (0 ≤ x5_3) = true := decide_eq_true c12
         clear c12
         by_cases c13 : x5_3 < (((rd_T36 l0 x3_1).f0).length : Int)
         rotate_left
         ·
          rw [if_neg c13] at H
          exact absurd H (by simp)
         rw [if_pos c13] at H
         have c13b0 : decide (x5_3 < (((rd_T36 l0 x3_1).f0).length : Int)) = true := decide_eq_true c13
         clear c13
         by_cases c14 : 0 ≤ x6_4
         rotate_left
         ·
          rw [if_neg c14] at H
          exact absurd H (by simp)
         rw [if_pos c14] at H
         have c14b0 : decide (0 ≤ x6_4) = true := decide_eq_true c14
         clear c14
         by_cases c15 : ((rd_T72 ((rd_T36 l0 x3_1).f0) x5_3).f0).toList = ((rd_T72 ((rd_T36 l0 x4_2).f0) x6_4).f0).toList
         rotate_left
         ·
          rw [if_neg c15] at H
          have c15b0 : (((rd_T72 ((rd_T36 l0 x3_1).f0) x5_3).f0).toList == ((rd_T72 ((rd_T36 l0 x4_2).f0) x6_4).f0).toList) = false := beq_eq_false_iff_ne.mpr c15
          have c15b1 : (((rd_T72 ((rd_T36 l0 x3_1).f0) x5_3).f0).toList != ((rd_T72 ((rd_T36 l0 x4_2).f0) x6_4).f0).toList) = true := bne_iff_ne.mpr c15
          have H' := am H
          clear H
          have p102 : 0 ≤ (x4_2 : Int) := of_decide_eq_true (by first | (with_reducible assumption) | assumption)
          have q102 : x4_2 < (l0.length : Int) := of_decide_eq_true (by first | (with_reducible assumption) | assumption)
          obtain ⟨ad102, A102_0, c102_0, A102_1, c102_1, e102, hx102_0, hx102_1, hl102_0, hi102_0, hl102_1, hi102_1⟩ := at_T36 HR0.out x4_2 p102 q102
          obtain rfl : ad101 = ad102 := (by injection e102)
          replace hx102_0 := oc HB.out hx102_0
          replace hx102_1 := oc HB.out hx102_1
          have HR102_0 := am hi102_0
          have HC102_0 := am hl102_0
          clear hi102_0 hl102_0
          have HR102_1 := am hi102_1
          have HC102_1 := am hl102_1
          clear hi102_1 hl102_1
          replace p102 := eq_true p102
          replace q102 := eq_true q102
          have p103 : 0 ≤ (x3_1 : Int) := of_decide_eq_true (by first | (with_reducible assumption) | assumption)
          have q103 : x3_1 < (l0.length : Int) := of_decide_eq_true (by first | (with_reducible assumption) | assumption)
          obtain ⟨ad103, A103_0, c103_0, A103_1, c103_1, e103, hx103_0, hx103_1, hl103_0, hi103_0, hl103_1, hi103_1⟩ := at_T36 HR0.out x3_1 p103 q103
          obtain rfl : ad101 = ad103 := (by injection e103)
          replace hx103_0 := oc HB.out hx103_0
          replace hx103_1 := oc HB.out hx103_1
          have HR103_0 := am hi103_0
          have HC103_0 := am hl103_0
          clear hi103_0 hl103_0
          have HR103_1 := am hi103_1
          have HC103_1 := am hl103_1
          clear hi103_1 hl103_1
          replace p103 := eq_true p103
          replace q103 := eq_true q103
          have p104 : 0 ≤ (x5_3 : Int) := of_decide_eq_true (by first | (with_reducible assumption) | assumption)
          have q104 : x5_3 < (((rd_T36 l0 x3_1).f0).length : Int) := of_decide_eq_true (by first | (with_reducible assumption) | assumption)
          obtain ⟨ad104, A104_4, c104_4, A104_6, c104_6, e104, hx104_0, hx104_1, hx104_2, hx104_3, hx104_4, hx104_5, hx104_6, hl104_4, hi104_4, hl104_6, hi104_6⟩ := at_T72 HR103_0.out x5_3 p104 q104
          cases e104
          replace hx104_0 := oc HB.out hx104_0
          replace hx104_1 := oc HB.out hx104_1
          replace hx104_2 := oc HB.out hx104_2
          replace hx104_3 := oc HB.out hx104_3
          replace hx104_4 := oc HB.out hx104_4
          replace hx104_5 := oc HB.out hx104_5
          replace hx104_6 := oc HB.out hx104_6
          have HR104_4 := am hi104_4
          have HC104_4 := am hl104_4
          clear hi104_4 hl104_4
          have HR104_6 := am hi104_6
          have HC104_6 := am hl104_6
          clear hi104_6 hl104_6
          replace p104 := eq_true p104
          replace q104 := eq_true q104
          go_wp2_with (first | ((with_reducible refine gate_dst (N := 7) rfl ?_); refine box_event ?hg (N := 7) ?hd (cs := #[.string (⟨#[]⟩ : ByteArray), .int .i64 0, .int .i64 0, .int .i64 0, .slice none 0 0, .int .i64 0, .slice none 0 0]) (t := 72) ?hr ?_; (case hd => rfl); (case hg => rfl); (case hr => go_simp; try rfl); intro gb105 hg w36 hbox hb; refine mv3 (am (below_step (by exact bl_o HB.out) hb)) (am (hbox)) (lei (by rw [hg]; exact (below_size (by exact bl_o HB.out)) : w.heap.size ≤ gb105)) ?_; clear HB; intro HB BK105 GW105; have GE105 := GW105; clear hb hbox hg; obtain ⟨hcz37_0, hcz37_1, hcz37_2, hcz37_3, hcz37_4, hcz37_5, hcz37_6, hfz37_0, hfz37_1, hfz37_2, hfz37_3, hfz37_4, hfz37_5, hfz37_6⟩ := cells7 BK105.out; have p106 : 0 ≤ (x4_2 : Int) := of_decide_eq_true (by first | (with_reducible assumption) | assumption); have q106 : x4_2 < (l0.length : Int) := of_decide_eq_true (by first | (with_reducible assumption) | assumption); obtain ⟨ad106, A106_0, c106_0, A106_1, c106_1, e106, hx106_0, hx106_1, hl106_0, hi106_0, hl106_1, hi106_1⟩ := at_T36 HR0.out x4_2 p106 q106; obtain rfl : ad101 = ad106 := (by injection e106); have hn106_0 : ad101.block ≠ gb105 := Nat.ne_of_lt (Nat.lt_of_lt_of_le (by have := World.block_lt_of_cell? _ _ hx106_0; first | rwa [add_block] at this | exact this) GW105.out); have hn106_1 : ad101.block ≠ gb105 := Nat.ne_of_lt (Nat.lt_of_lt_of_le (by have := World.block_lt_of_cell? _ _ hx106_0; first | rwa [add_block] at this | exact this) GW105.out); have hn106_2 : ad101.block ≠ gb105 := Nat.ne_of_lt (Nat.lt_of_lt_of_le (by have := World.block_lt_of_cell? _ _ hx106_0; first | rwa [add_block] at this | exact this) GW105.out); have hn106_3 : ad101.block ≠ gb105 := Nat.ne_of_lt (Nat.lt_of_lt_of_le (by have := World.block_lt_of_cell? _ _ hx106_0; first | rwa [add_block] at this | exact this) GW105.out); have hn106_4 : ad101.block ≠ gb105 := Nat.ne_of_lt (Nat.lt_of_lt_of_le (by have := World.block_lt_of_cell? _ _ hx106_0; first | rwa [add_block] at this | exact this) GW105.out); have hn106_5 : ad101.block ≠ gb105 := Nat.ne_of_lt (Nat.lt_of_lt_of_le (by have := World.block_lt_of_cell? _ _ hx106_0; first | rwa [add_block] at this | exact this) GW105.out); have hn106_6 : ad101.block ≠ gb105 := Nat.ne_of_lt (Nat.lt_of_lt_of_le (by have := World.block_lt_of_cell? _ _ hx106_0; first | rwa [add_block] at this | exact this) GW105.out); replace hx106_0 := oc HB.out hx106_0; replace hx106_1 := oc HB.out hx106_1; have HR106_0 := am hi106_0; have HC106_0 := am hl106_0; clear hi106_0 hl106_0; have HR106_1 := am hi106_1; have HC106_1 := am hl106_1; clear hi106_1 hl106_1; replace hx106_0 := (cell_far (p := ⟨gb105, 0, none⟩) (by first | (rw [add_block]; exact hn106_0) | (show (Addr.add _ _).block ≠ _; rw [add_block]; exact hn106_0) | exact hn106_0) (.string ((rd_T72 ((rd_T36 l0 x3_1).f0) x5_3).f0))).trans hx106_0; replace hx106_1 := (cell_far (p := ⟨gb105, 0, none⟩) (by first | (rw [add_block]; exact hn106_0) | (show (Addr.add _ _).block ≠ _; rw [add_block]; exact hn106_0) | exact hn106_0) (.string ((rd_T72 ((rd_T36 l0 x3_1).f0) x5_3).f0))).trans hx106_1; replace hx106_0 := (cell_far (p := ⟨gb105, 1, none⟩) (by first | (rw [add_block]; exact hn106_1) | (show (Addr.add _ _).block ≠ _; rw [add_block]; exact hn106_1) | exact hn106_1) (.int .i64 ((rd_T72 ((rd_T36 l0 x3_1).f0) x5_3).f1))).trans hx106_0; replace hx106_1 := (cell_far (p := ⟨gb105, 1, none⟩) (by first | (rw [add_block]; exact hn106_1) | (show (Addr.add _ _).block ≠ _; rw [add_block]; exact hn106_1) | exact hn106_1) (.int .i64 ((rd_T72 ((rd_T36 l0 x3_1).f0) x5_3).f1))).trans hx106_1; replace hx106_0 := (cell_far (p := ⟨gb105, 2, none⟩) (by first | (rw [add_block]; exact hn106_2) | (show (Addr.add _ _).block ≠ _; rw [add_block]; exact hn106_2) | exact hn106_2) (.int .i64 ((rd_T72 ((rd_T36 l0 x3_1).f0) x5_3).f2))).trans hx106_0; replace hx106_1 := (cell_far (p := ⟨gb105, 2, none⟩) (by first | (rw [add_block]; exact hn106_2) | (show (Addr.add _ _).block ≠ _; rw [add_block]; exact hn106_2) | exact hn106_2) (.int .i64 ((rd_T72 ((rd_T36 l0 x3_1).f0) x5_3).f2))).trans hx106_1; replace hx106_0 := (cell_far (p := ⟨gb105, 3, none⟩) (by first | (rw [add_block]; exact hn106_3) | (show (Addr.add _ _).block ≠ _; rw [add_block]; exact hn106_3) | exact hn106_3) (.int .i64 ((rd_T72 ((rd_T36 l0 x3_1).f0) x5_3).f3))).trans hx106_0; replace hx106_1 := (cell_far (p := ⟨gb105, 3, none⟩) (by first | (rw [add_block]; exact hn106_3) | (show (Addr.add _ _).block ≠ _; rw [add_block]; exact hn106_3) | exact hn106_3) (.int .i64 ((rd_T72 ((rd_T36 l0 x3_1).f0) x5_3).f3))).trans hx106_1; replace hx106_0 := (cell_far (p := ⟨gb105, 4, none⟩) (by first | (rw [add_block]; exact hn106_4) | (show (Addr.add _ _).block ≠ _; rw [add_block]; exact hn106_4) | exact hn106_4) (.slice A104_4 ((rd_T72 ((rd_T36 l0 x3_1).f0) x5_3).f4).length c104_4)).trans hx106_0; replace hx106_1 := (cell_far (p := ⟨gb105, 4, none⟩) (by first | (rw [add_block]; exact hn106_4) | (show (Addr.add _ _).block ≠ _; rw [add_block]; exact hn106_4) | exact hn106_4) (.slice A104_4 ((rd_T72 ((rd_T36 l0 x3_1).f0) x5_3).f4).length c104_4)).trans hx106_1; replace hx106_0 := (cell_far (p := ⟨gb105, 5, none⟩) (by first | (rw [add_block]; exact hn106_5) | (show (Addr.add _ _).block ≠ _; rw [add_block]; exact hn106_5) | exact hn106_5) (.int .i64 ((rd_T72 ((rd_T36 l0 x3_1).f0) x5_3).f5))).trans hx106_0; replace hx106_1 := (cell_far (p := ⟨gb105, 5, none⟩) (by first | (rw [add_block]; exact hn106_5) | (show (Addr.add _ _).block ≠ _; rw [add_block]; exact hn106_5) | exact hn106_5) (.int .i64 ((rd_T72 ((rd_T36 l0 x3_1).f0) x5_3).f5))).trans hx106_1; replace hx106_0 := (cell_far (p := ⟨gb105, 6, none⟩) (by first | (rw [add_block]; exact hn106_6) | (show (Addr.add _ _).block ≠ _; rw [add_block]; exact hn106_6) | exact hn106_6) (.slice A104_6 ((rd_T72 ((rd_T36 l0 x3_1).f0) x5_3).f6).length c104_6)).trans hx106_0; replace hx106_1 := (cell_far (p := ⟨gb105, 6, none⟩) (by first | (rw [add_block]; exact hn106_6) | (show (Addr.add _ _).block ≠ _; rw [add_block]; exact hn106_6) | exact hn106_6) (.slice A104_6 ((rd_T72 ((rd_T36 l0 x3_1).f0) x5_3).f6).length c104_6)).trans hx106_1; clear hn106_0 hn106_1 hn106_2 hn106_3 hn106_4 hn106_5 hn106_6; replace p106 := eq_true p106; replace q106 := eq_true q106; have p107 : 0 ≤ (x6_4 : Int) := of_decide_eq_true (by first | (with_reducible assumption) | assumption); have q107 : x6_4 < (((rd_T36 l0 x4_2).f0).length : Int) := of_decide_eq_true (by first | (with_reducible assumption) | assumption); obtain ⟨ad107, A107_4, c107_4, A107_6, c107_6, e107, hx107_0, hx107_1, hx107_2, hx107_3, hx107_4, hx107_5, hx107_6, hl107_4, hi107_4, hl107_6, hi107_6⟩ := at_T72 HR106_0.out x6_4 p107 q107; cases e107; have hn107_0 : ad107.block ≠ gb105 := Nat.ne_of_lt (Nat.lt_of_lt_of_le (by have := World.block_lt_of_cell? _ _ hx107_0; first | rwa [add_block] at this | exact this) GW105.out); have hn107_1 : ad107.block ≠ gb105 := Nat.ne_of_lt (Nat.lt_of_lt_of_le (by have := World.block_lt_of_cell? _ _ hx107_0; first | rwa [add_block] at this | exact this) GW105.out); have hn107_2 : ad107.block ≠ gb105 := Nat.ne_of_lt (Nat.lt_of_lt_of_le (by have := World.block_lt_of_cell? _ _ hx107_0; first | rwa [add_block] at this | exact this) GW105.out); have hn107_3 : ad107.block ≠ gb105 := Nat.ne_of_lt (Nat.lt_of_lt_of_le (by have := World.block_lt_of_cell? _ _ hx107_0; first | rwa [add_block] at this | exact this) GW105.out); have hn107_4 : ad107.block ≠ gb105 := Nat.ne_of_lt (Nat.lt_of_lt_of_le (by have := World.block_lt_of_cell? _ _ hx107_0; first | rwa [add_block] at this | exact this) GW105.out); have hn107_5 : ad107.block ≠ gb105 := Nat.ne_of_lt (Nat.lt_of_lt_of_le (by have := World.block_lt_of_cell? _ _ hx107_0; first | rwa [add_block] at this | exact this) GW105.out); have hn107_6 : ad107.block ≠ gb105 := Nat.ne_of_lt (Nat.lt_of_lt_of_le (by have := World.block_lt_of_cell? _ _ hx107_0; first | rwa [add_block] at this | exact this) GW105.out); replace hx107_0 := oc HB.out hx107_0; replace hx107_1 := oc HB.out hx107_1; replace hx107_2 := oc HB.out hx107_2; replace hx107_3 := oc HB.out hx107_3; replace hx107_4 := oc HB.out hx107_4; replace hx107_5 := oc HB.out hx107_5; replace hx107_6 := oc HB.out hx107_6; have HR107_4 := am hi107_4; have HC107_4 := am hl107_4; clear hi107_4 hl107_4; have HR107_6 := am hi107_6; have HC107_6 := am hl107_6; clear hi107_6 hl107_6; replace hx107_0 := (cell_far (p := ⟨gb105, 0, none⟩) (by first | (rw [add_block]; exact hn107_0) | (show (Addr.add _ _).block ≠ _; rw [add_block]; exact hn107_0) | exact hn107_0) (.string ((rd_T72 ((rd_T36 l0 x3_1).f0) x5_3).f0))).trans hx107_0; replace hx107_1 := (cell_far (p := ⟨gb105, 0, none⟩) (by first | (rw [add_block]; exact hn107_0) | (show (Addr.add _ _).block ≠ _; rw [add_block]; exact hn107_0) | exact hn107_0) (.string ((rd_T72 ((rd_T36 l0 x3_1).f0) x5_3).f0))).trans hx107_1; replace hx107_2 := (cell_far (p := ⟨gb105, 0, none⟩) (by first | (rw [add_block]; exact hn107_0) | (show (Addr.add _ _).block ≠ _; rw [add_block]; exact hn107_0) | exact hn107_0) (.string ((rd_T72 ((rd_T36 l0 x3_1).f0) x5_3).f0))).trans hx107_2; replace hx107_3 := (cell_far (p := ⟨gb105, 0, none⟩) (by first | (rw [add_block]; exact hn107_0) | (show (Addr.add _ _).block ≠ _; rw [add_block]; exact hn107_0) | exact hn107_0) (.string ((rd_T72 ((rd_T36 l0 x3_1).f0) x5_3).f0))).trans hx107_3; replace hx107_4 := (cell_far (p := ⟨gb105, 0, none⟩) (by first | (rw [add_block]; exact hn107_0) | (show (Addr.add _ _).block ≠ _; rw [add_block]; exact hn107_0) | exact hn107_0) (.string ((rd_T72 ((rd_T36 l0 x3_1).f0) x5_3).f0))).trans hx107_4; replace hx107_5 := (cell_far (p := ⟨gb105, 0, none⟩) (by first | (rw [add_block]; exact hn107_0) | (show (Addr.add _ _).block ≠ _; rw [add_block]; exact hn107_0) | exact hn107_0) (.string ((rd_T72 ((rd_T36 l0 x3_1).f0) x5_3).f0))).trans hx107_5; replace hx107_6 := (cell_far (p := ⟨gb105, 0, none⟩) (by first | (rw [add_block]; exact hn107_0) | (show (Addr.add _ _).block ≠ _; rw [add_block]; exact hn107_0) | exact hn107_0) (.string ((rd_T72 ((rd_T36 l0 x3_1).f0) x5_3).f0))).trans hx107_6; replace hx107_0 := (cell_far (p := ⟨gb105, 1, none⟩) (by first | (rw [add_block]; exact hn107_1) | (show (Addr.add _ _).block ≠ _; rw [add_block]; exact hn107_1) | exact hn107_1) (.int .i64 ((rd_T72 ((rd_T36 l0 x3_1).f0) x5_3).f1))).trans hx107_0; replace hx107_1 := (cell_far (p := ⟨gb105, 1, none⟩) (by first | (rw [add_block]; exact hn107_1) | (show (Addr.add _ _).block ≠ _; rw [add_block]; exact hn107_1) | exact hn107_1) (.int .i64 ((rd_T72 ((rd_T36 l0 x3_1).f0) x5_3).f1))).trans hx107_1; replace hx107_2 := (cell_far (p := ⟨gb105, 1, none⟩) (by first | (rw [add_block]; exact hn107_1) | (show (Addr.add _ _).block ≠ _; rw [add_block]; exact hn107_1) | exact hn107_1) (.int .i64 ((rd_T72 ((rd_T36 l0 x3_1).f0) x5_3).f1))).trans hx107_2; replace hx107_3 := (cell_far (p := ⟨gb105, 1, none⟩) (by first | (rw [add_block]; exact hn107_1) | (show (Addr.add _ _).block ≠ _; rw [add_block]; exact hn107_1) | exact hn107_1) (.int .i64 ((rd_T72 ((rd_T36 l0 x3_1).f0) x5_3).f1))).trans hx107_3; replace hx107_4 := (cell_far (p := ⟨gb105, 1, none⟩) (by first | (rw [add_block]; exact hn107_1) | (show (Addr.add _ _).block ≠ _; rw [add_block]; exact hn107_1) | exact hn107_1) (.int .i64 ((rd_T72 ((rd_T36 l0 x3_1).f0) x5_3).f1))).trans hx107_4; replace hx107_5 := (cell_far (p := ⟨gb105, 1, none⟩) (by first | (rw [add_block]; exact hn107_1) | (show (Addr.add _ _).block ≠ _; rw [add_block]; exact hn107_1) | exact hn107_1) (.int .i64 ((rd_T72 ((rd_T36 l0 x3_1).f0) x5_3).f1))).trans hx107_5; replace hx107_6 := (cell_far (p := ⟨gb105, 1, none⟩) (by first | (rw [add_block]; exact hn107_1) | (show (Addr.add _ _).block ≠ _; rw [add_block]; exact hn107_1) | exact hn107_1) (.int .i64 ((rd_T72 ((rd_T36 l0 x3_1).f0) x5_3).f1))).trans hx107_6; replace hx107_0 := (cell_far (p := ⟨gb105, 2, none⟩) (by first | (rw [add_block]; exact hn107_2) | (show (Addr.add _ _).block ≠ _; rw [add_block]; exact hn107_2) | exact hn107_2) (.int .i64 ((rd_T72 ((rd_T36 l0 x3_1).f0) x5_3).f2))).trans hx107_0; replace hx107_1 := (cell_far (p := ⟨gb105, 2, none⟩) (by first | (rw [add_block]; exact hn107_2) | (show (Addr.add _ _).block ≠ _; rw [add_block]; exact hn107_2) | exact hn107_2) (.int .i64 ((rd_T72 ((rd_T36 l0 x3_1).f0) x5_3).f2))).trans hx107_1; replace hx107_2 := (cell_far (p := ⟨gb105, 2, none⟩) (by first | (rw [add_block]; exact hn107_2) | (show (Addr.add _ _).block ≠ _; rw [add_block]; exact hn107_2) | exact hn107_2) (.int .i64 ((rd_T72 ((rd_T36 l0 x3_1).f0) x5_3).f2))).trans hx107_2; replace hx107_3 := (cell_far (p := ⟨gb105, 2, none⟩) (by first | (rw [add_block]; exact hn107_2) | (show (Addr.add _ _).block ≠ _; rw [add_block]; exact hn107_2) | exact hn107_2) (.int .i64 ((rd_T72 ((rd_T36 l0 x3_1).f0) x5_3).f2))).trans hx107_3; replace hx107_4 := (cell_far (p := ⟨gb105, 2, none⟩) (by first | (rw [add_block]; exact hn107_2) | (show (Addr.add _ _).block ≠ _; rw [add_block]; exact hn107_2) | exact hn107_2) (.int .i64 ((rd_T72 ((rd_T36 l0 x3_1).f0) x5_3).f2))).trans hx107_4; replace hx107_5 := (cell_far (p := ⟨gb105, 2, none⟩) (by first | (rw [add_block]; exact hn107_2) | (show (Addr.add _ _).block ≠ _; rw [add_block]; exact hn107_2) | exact hn107_2) (.int .i64 ((rd_T72 ((rd_T36 l0 x3_1).f0) x5_3).f2))).trans hx107_5; replace hx107_6 := (cell_far (p := ⟨gb105, 2, none⟩) (by first | (rw [add_block]; exact hn107_2) | (show (Addr.add _ _).block ≠ _; rw [add_block]; exact hn107_2) | exact hn107_2) (.int .i64 ((rd_T72 ((rd_T36 l0 x3_1).f0) x5_3).f2))).trans hx107_6; replace hx107_0 := (cell_far (p := ⟨gb105, 3, none⟩) (by first | (rw [add_block]; exact hn107_3) | (show (Addr.add _ _).block ≠ _; rw [add_block]; exact hn107_3) | exact hn107_3) (.int .i64 ((rd_T72 ((rd_T36 l0 x3_1).f0) x5_3).f3))).trans hx107_0; replace hx107_1 := (cell_far (p := ⟨gb105, 3, none⟩) (by first | (rw [add_block]; exact hn107_3) | (show (Addr.add _ _).block ≠ _; rw [add_block]; exact hn107_3) | exact hn107_3) (.int .i64 ((rd_T72 ((rd_T36 l0 x3_1).f0) x5_3).f3))).trans hx107_1; replace hx107_2 := (cell_far (p := ⟨gb105, 3, none⟩) (by first | (rw [add_block]; exact hn107_3) | (show (Addr.add _ _).block ≠ _; rw [add_block]; exact hn107_3) | exact hn107_3) (.int .i64 ((rd_T72 ((rd_T36 l0 x3_1).f0) x5_3).f3))).trans hx107_2; replace hx107_3 := (cell_far (p := ⟨gb105, 3, none⟩) (by first | (rw [add_block]; exact hn107_3) | (show (Addr.add _ _).block ≠ _; rw [add_block]; exact hn107_3) | exact hn107_3) (.int .i64 ((rd_T72 ((rd_T36 l0 x3_1).f0) x5_3).f3))).trans hx107_3; replace hx107_4 := (cell_far (p := ⟨gb105, 3, none⟩) (by first | (rw [add_block]; exact hn107_3) | (show (Addr.add _ _).block ≠ _; rw [add_block]; exact hn107_3) | exact hn107_3) (.int .i64 ((rd_T72 ((rd_T36 l0 x3_1).f0) x5_3).f3))).trans hx107_4; replace hx107_5 := (cell_far (p := ⟨gb105, 3, none⟩) (by first | (rw [add_block]; exact hn107_3) | (show (Addr.add _ _).block ≠ _; rw [add_block]; exact hn107_3) | exact hn107_3) (.int .i64 ((rd_T72 ((rd_T36 l0 x3_1).f0) x5_3).f3))).trans hx107_5; replace hx107_6 := (cell_far (p := ⟨gb105, 3, none⟩) (by first | (rw [add_block]; exact hn107_3) | (show (Addr.add _ _).block ≠ _; rw [add_block]; exact hn107_3) | exact hn107_3) (.int .i64 ((rd_T72 ((rd_T36 l0 x3_1).f0) x5_3).f3))).trans hx107_6; replace hx107_0 := (cell_far (p := ⟨gb105, 4, none⟩) (by first | (rw [add_block]; exact hn107_4) | (show (Addr.add _ _).block ≠ _; rw [add_block]; exact hn107_4) | exact hn107_4) (.slice A104_4 ((rd_T72 ((rd_T36 l0 x3_1).f0) x5_3).f4).length c104_4)).trans hx107_0; replace hx107_1 := (cell_far (p := ⟨gb105, 4, none⟩) (by first | (rw [add_block]; exact hn107_4) | (show (Addr.add _ _).block ≠ _; rw [add_block]; exact hn107_4) | exact hn107_4) (.slice A104_4 ((rd_T72 ((rd_T36 l0 x3_1).f0) x5_3).f4).length c104_4)).trans hx107_1; replace hx107_2 := (cell_far (p := ⟨gb105, 4, none⟩) (by first | (rw [add_block]; exact hn107_4) | (show (Addr.add _ _).block ≠ _; rw [add_block]; exact hn107_4) | exact hn107_4) (.slice A104_4 ((rd_T72 ((rd_T36 l0 x3_1).f0) x5_3).f4).length c104_4)).trans hx107_2; replace hx107_3 := (cell_far (p := ⟨gb105, 4, none⟩) (by first | (rw [add_block]; exact hn107_4) | (show (Addr.add _ _).block ≠ _; rw [add_block]; exact hn107_4) | exact hn107_4) (.slice A104_4 ((rd_T72 ((rd_T36 l0 x3_1).f0) x5_3).f4).length c104_4)).trans hx107_3; replace hx107_4 := (cell_far (p := ⟨gb105, 4, none⟩) (by first | (rw [add_block]; exact hn107_4) | (show (Addr.add _ _).block ≠ _; rw [add_block]; exact hn107_4) | exact hn107_4) (.slice A104_4 ((rd_T72 ((rd_T36 l0 x3_1).f0) x5_3).f4).length c104_4)).trans hx107_4; replace hx107_5 := (cell_far (p := ⟨gb105, 4, none⟩) (by first | (rw [add_block]; exact hn107_4) | (show (Addr.add _ _).block ≠ _; rw [add_block]; exact hn107_4) | exact hn107_4) (.slice A104_4 ((rd_T72 ((rd_T36 l0 x3_1).f0) x5_3).f4).length c104_4)).trans hx107_5; replace hx107_6 := (cell_far (p := ⟨gb105, 4, none⟩) (by first | (rw [add_block]; exact hn107_4) | (show (Addr.add _ _).block ≠ _; rw [add_block]; exact hn107_4) | exact hn107_4) (.slice A104_4 ((rd_T72 ((rd_T36 l0 x3_1).f0) x5_3).f4).length c104_4)).trans hx107_6; replace hx107_0 := (cell_far (p := ⟨gb105, 5, none⟩) (by first | (rw [add_block]; exact hn107_5) | (show (Addr.add _ _).block ≠ _; rw [add_block]; exact hn107_5) | exact hn107_5) (.int .i64 ((rd_T72 ((rd_T36 l0 x3_1).f0) x5_3).f5))).trans hx107_0; replace hx107_1 := (cell_far (p := ⟨gb105, 5, none⟩) (by first | (rw [add_block]; exact hn107_5) | (show (Addr.add _ _).block ≠ _; rw [add_block]; exact hn107_5) | exact hn107_5) (.int .i64 ((rd_T72 ((rd_T36 l0 x3_1).f0) x5_3).f5))).trans hx107_1; replace hx107_2 := (cell_far (p := ⟨gb105, 5, none⟩) (by first | (rw [add_block]; exact hn107_5) | (show (Addr.add _ _).block ≠ _; rw [add_block]; exact hn107_5) | exact hn107_5) (.int .i64 ((rd_T72 ((rd_T36 l0 x3_1).f0) x5_3).f5))).trans hx107_2; replace hx107_3 := (cell_far (p := ⟨gb105, 5, none⟩) (by first | (rw [add_block]; exact hn107_5) | (show (Addr.add _ _).block ≠ _; rw [add_block]; exact hn107_5) | exact hn107_5) (.int .i64 ((rd_T72 ((rd_T36 l0 x3_1).f0) x5_3).f5))).trans hx107_3; replace hx107_4 := (cell_far (p := ⟨gb105, 5, none⟩) (by first | (rw [add_block]; exact hn107_5) | (show (Addr.add _ _).block ≠ _; rw [add_block]; exact hn107_5) | exact hn107_5) (.int .i64 ((rd_T72 ((rd_T36 l0 x3_1).f0) x5_3).f5))).trans hx107_4; replace hx107_5 := (cell_far (p := ⟨gb105, 5, none⟩) (by first | (rw [add_block]; exact hn107_5) | (show (Addr.add _ _).block ≠ _; rw [add_block]; exact hn107_5) | exact hn107_5) (.int .i64 ((rd_T72 ((rd_T36 l0 x3_1).f0) x5_3).f5))).trans hx107_5; replace hx107_6 := (cell_far (p := ⟨gb105, 5, none⟩) (by first | (rw [add_block]; exact hn107_5) | (show (Addr.add _ _).block ≠ _; rw [add_block]; exact hn107_5) | exact hn107_5) (.int .i64 ((rd_T72 ((rd_T36 l0 x3_1).f0) x5_3).f5))).trans hx107_6; replace hx107_0 := (cell_far (p := ⟨gb105, 6, none⟩) (by first | (rw [add_block]; exact hn107_6) | (show (Addr.add _ _).block ≠ _; rw [add_block]; exact hn107_6) | exact hn107_6) (.slice A104_6 ((rd_T72 ((rd_T36 l0 x3_1).f0) x5_3).f6).length c104_6)).trans hx107_0; replace hx107_1 := (cell_far (p := ⟨gb105, 6, none⟩) (by first | (rw [add_block]; exact hn107_6) | (show (Addr.add _ _).block ≠ _; rw [add_block]; exact hn107_6) | exact hn107_6) (.slice A104_6 ((rd_T72 ((rd_T36 l0 x3_1).f0) x5_3).f6).length c104_6)).trans hx107_1; replace hx107_2 := (cell_far (p := ⟨gb105, 6, none⟩) (by first | (rw [add_block]; exact hn107_6) | (show (Addr.add _ _).block ≠ _; rw [add_block]; exact hn107_6) | exact hn107_6) (.slice A104_6 ((rd_T72 ((rd_T36 l0 x3_1).f0) x5_3).f6).length c104_6)).trans hx107_2; replace hx107_3 := (cell_far (p := ⟨gb105, 6, none⟩) (by first | (rw [add_block]; exact hn107_6) | (show (Addr.add _ _).block ≠ _; rw [add_block]; exact hn107_6) | exact hn107_6) (.slice A104_6 ((rd_T72 ((rd_T36 l0 x3_1).f0) x5_3).f6).length c104_6)).trans hx107_3; replace hx107_4 := (cell_far (p := ⟨gb105, 6, none⟩) (by first | (rw [add_block]; exact hn107_6) | (show (Addr.add _ _).block ≠ _; rw [add_block]; exact hn107_6) | exact hn107_6) (.slice A104_6 ((rd_T72 ((rd_T36 l0 x3_1).f0) x5_3).f6).length c104_6)).trans hx107_4; replace hx107_5 := (cell_far (p := ⟨gb105, 6, none⟩) (by first | (rw [add_block]; exact hn107_6) | (show (Addr.add _ _).block ≠ _; rw [add_block]; exact hn107_6) | exact hn107_6) (.slice A104_6 ((rd_T72 ((rd_T36 l0 x3_1).f0) x5_3).f6).length c104_6)).trans hx107_5; replace hx107_6 := (cell_far (p := ⟨gb105, 6, none⟩) (by first | (rw [add_block]; exact hn107_6) | (show (Addr.add _ _).block ≠ _; rw [add_block]; exact hn107_6) | exact hn107_6) (.slice A104_6 ((rd_T72 ((rd_T36 l0 x3_1).f0) x5_3).f6).length c104_6)).trans hx107_6; clear hn107_0 hn107_1 hn107_2 hn107_3 hn107_4 hn107_5 hn107_6; replace p107 := eq_true p107; replace q107 := eq_true q107) | ((with_reducible refine gate_dst (N := 8) rfl ?_); refine box_event ?hg (N := 8) ?hd (cs := #[.string (⟨#[]⟩ : ByteArray), .int .i64 0, .int .i64 0, .int .i64 0, .slice none 0 0, .int .i64 0, .slice none 0 0]) (t := 72) ?hr ?_; (case hd => rfl); (case hg => rfl); (case hr => go_simp; try rfl); intro gb108 hg w38 hbox hb; refine mv6 (am (blk_below (g := gb105) (o := .cells #[.string ((rd_T72 ((rd_T36 l0 x3_1).f0) x5_3).f0), .int .i64 ((rd_T72 ((rd_T36 l0 x3_1).f0) x5_3).f1), .int .i64 ((rd_T72 ((rd_T36 l0 x3_1).f0) x5_3).f2), .int .i64 ((rd_T72 ((rd_T36 l0 x3_1).f0) x5_3).f3), .slice A104_4 ((rd_T72 ((rd_T36 l0 x3_1).f0) x5_3).f4).length c104_4, .int .i64 ((rd_T72 ((rd_T36 l0 x3_1).f0) x5_3).f5), .slice A104_6 ((rd_T72 ((rd_T36 l0 x3_1).f0) x5_3).f6).length c104_6] 72 (0, 0)) (by (with_reducible repeat (first | refine blk_drewN ?_ _ | refine blk_drew ?_ | refine blk_alloc ?_ _)); refine blk_put (cs := #[.string ((rd_T72 ((rd_T36 l0 x3_1).f0) x5_3).f0), .int .i64 ((rd_T72 ((rd_T36 l0 x3_1).f0) x5_3).f1), .int .i64 ((rd_T72 ((rd_T36 l0 x3_1).f0) x5_3).f2), .int .i64 ((rd_T72 ((rd_T36 l0 x3_1).f0) x5_3).f3), .slice A104_4 ((rd_T72 ((rd_T36 l0 x3_1).f0) x5_3).f4).length c104_4, .int .i64 ((rd_T72 ((rd_T36 l0 x3_1).f0) x5_3).f5), .slice none 0 0]) ?_ 6 _ rfl; (with_reducible repeat (first | refine blk_drewN ?_ _ | refine blk_drew ?_ | refine blk_alloc ?_ _)); refine blk_put (cs := #[.string ((rd_T72 ((rd_T36 l0 x3_1).f0) x5_3).f0), .int .i64 ((rd_T72 ((rd_T36 l0 x3_1).f0) x5_3).f1), .int .i64 ((rd_T72 ((rd_T36 l0 x3_1).f0) x5_3).f2), .int .i64 ((rd_T72 ((rd_T36 l0 x3_1).f0) x5_3).f3), .slice A104_4 ((rd_T72 ((rd_T36 l0 x3_1).f0) x5_3).f4).length c104_4, .int .i64 0, .slice none 0 0]) ?_ 5 _ rfl; (with_reducible repeat (first | refine blk_drewN ?_ _ | refine blk_drew ?_ | refine blk_alloc ?_ _)); refine blk_put (cs := #[.string ((rd_T72 ((rd_T36 l0 x3_1).f0) x5_3).f0), .int .i64 ((rd_T72 ((rd_T36 l0 x3_1).f0) x5_3).f1), .int .i64 ((rd_T72 ((rd_T36 l0 x3_1).f0) x5_3).f2), .int .i64 ((rd_T72 ((rd_T36 l0 x3_1).f0) x5_3).f3), .slice none 0 0, .int .i64 0, .slice none 0 0]) ?_ 4 _ rfl; (with_reducible repeat (first | refine blk_drewN ?_ _ | refine blk_drew ?_ | refine blk_alloc ?_ _)); refine blk_put (cs := #[.string ((rd_T72 ((rd_T36 l0 x3_1).f0) x5_3).f0), .int .i64 ((rd_T72 ((rd_T36 l0 x3_1).f0) x5_3).f1), .int .i64 ((rd_T72 ((rd_T36 l0 x3_1).f0) x5_3).f2), .int .i64 0, .slice none 0 0, .int .i64 0, .slice none 0 0]) ?_ 3 _ rfl; (with_reducible repeat (first | refine blk_drewN ?_ _ | refine blk_drew ?_ | refine blk_alloc ?_ _)); refine blk_put (cs := #[.string ((rd_T72 ((rd_T36 l0 x3_1).f0) x5_3).f0), .int .i64 ((rd_T72 ((rd_T36 l0 x3_1).f0) x5_3).f1), .int .i64 0, .int .i64 0, .slice none 0 0, .int .i64 0, .slice none 0 0]) ?_ 2 _ rfl; (with_reducible repeat (first | refine blk_drewN ?_ _ | refine blk_drew ?_ | refine blk_alloc ?_ _)); refine blk_put (cs := #[.string ((rd_T72 ((rd_T36 l0 x3_1).f0) x5_3).f0), .int .i64 0, .int .i64 0, .int .i64 0, .slice none 0 0, .int .i64 0, .slice none 0 0]) ?_ 1 _ rfl; (with_reducible repeat (first | refine blk_drewN ?_ _ | refine blk_drew ?_ | refine blk_alloc ?_ _)); refine blk_put (cs := #[.string (⟨#[]⟩ : ByteArray), .int .i64 0, .int .i64 0, .int .i64 0, .slice none 0 0, .int .i64 0, .slice none 0 0]) ?_ 0 _ rfl; (with_reducible repeat (first | refine blk_drewN ?_ _ | refine blk_drew ?_ | refine blk_alloc ?_ _)); exact BK105.out) hb)) (am (below_step (by exact bl_g HB.out) hb)) (am (hbox)) (lei (by rw [hg]; exact (below_size (by exact bl_g HB.out)) : w.heap.size ≤ gb108)) (am ((by rw [hg]; exact Nat.ne_of_lt (blk_lt (g := gb105) (o := .cells #[.string ((rd_T72 ((rd_T36 l0 x3_1).f0) x5_3).f0), .int .i64 ((rd_T72 ((rd_T36 l0 x3_1).f0) x5_3).f1), .int .i64 ((rd_T72 ((rd_T36 l0 x3_1).f0) x5_3).f2), .int .i64 ((rd_T72 ((rd_T36 l0 x3_1).f0) x5_3).f3), .slice A104_4 ((rd_T72 ((rd_T36 l0 x3_1).f0) x5_3).f4).length c104_4, .int .i64 ((rd_T72 ((rd_T36 l0 x3_1).f0) x5_3).f5), .slice A104_6 ((rd_T72 ((rd_T36 l0 x3_1).f0) x5_3).f6).length c104_6] 72 (0, 0)) (by (with_reducible repeat (first | refine blk_drewN ?_ _ | refine blk_drew ?_ | refine blk_alloc ?_ _)); refine blk_put (cs := #[.string ((rd_T72 ((rd_T36 l0 x3_1).f0) x5_3).f0), .int .i64 ((rd_T72 ((rd_T36 l0 x3_1).f0) x5_3).f1), .int .i64 ((rd_T72 ((rd_T36 l0 x3_1).f0) x5_3).f2), .int .i64 ((rd_T72 ((rd_T36 l0 x3_1).f0) x5_3).f3), .slice A104_4 ((rd_T72 ((rd_T36 l0 x3_1).f0) x5_3).f4).length c104_4, .int .i64 ((rd_T72 ((rd_T36 l0 x3_1).f0) x5_3).f5), .slice none 0 0]) ?_ 6 _ rfl; (with_reducible repeat (first | refine blk_drewN ?_ _ | refine blk_drew ?_ | refine blk_alloc ?_ _)); refine blk_put (cs := #[.string ((rd_T72 ((rd_T36 l0 x3_1).f0) x5_3).f0), .int .i64 ((rd_T72 ((rd_T36 l0 x3_1).f0) x5_3).f1), .int .i64 ((rd_T72 ((rd_T36 l0 x3_1).f0) x5_3).f2), .int .i64 ((rd_T72 ((rd_T36 l0 x3_1).f0) x5_3).f3), .slice A104_4 ((rd_T72 ((rd_T36 l0 x3_1).f0) x5_3).f4).length c104_4, .int .i64 0, .slice none 0 0]) ?_ 5 _ rfl; (with_reducible repeat (first | refine blk_drewN ?_ _ | refine blk_drew ?_ | refine blk_alloc ?_ _)); refine blk_put (cs := #[.string ((rd_T72 ((rd_T36 l0 x3_1).f0) x5_3).f0), .int .i64 ((rd_T72 ((rd_T36 l0 x3_1).f0) x5_3).f1), .int .i64 ((rd_T72 ((rd_T36 l0 x3_1).f0) x5_3).f2), .int .i64 ((rd_T72 ((rd_T36 l0 x3_1).f0) x5_3).f3), .slice none 0 0, .int .i64 0, .slice none 0 0]) ?_ 4 _ rfl; (with_reducible repeat (first | refine blk_drewN ?_ _ | refine blk_drew ?_ | refine blk_alloc ?_ _)); refine blk_put (cs := #[.string ((rd_T72 ((rd_T36 l0 x3_1).f0) x5_3).f0), .int .i64 ((rd_T72 ((rd_T36 l0 x3_1).f0) x5_3).f1), .int .i64 ((rd_T72 ((rd_T36 l0 x3_1).f0) x5_3).f2), .int .i64 0, .slice none 0 0, .int .i64 0, .slice none 0 0]) ?_ 3 _ rfl; (with_reducible repeat (first | refine blk_drewN ?_ _ | refine blk_drew ?_ | refine blk_alloc ?_ _)); refine blk_put (cs := #[.string ((rd_T72 ((rd_T36 l0 x3_1).f0) x5_3).f0), .int .i64 ((rd_T72 ((rd_T36 l0 x3_1).f0) x5_3).f1), .int .i64 0, .int .i64 0, .slice none 0 0, .int .i64 0, .slice none 0 0]) ?_ 2 _ rfl; (with_reducible repeat (first | refine blk_drewN ?_ _ | refine blk_drew ?_ | refine blk_alloc ?_ _)); refine blk_put (cs := #[.string ((rd_T72 ((rd_T36 l0 x3_1).f0) x5_3).f0), .int .i64 0, .int .i64 0, .int .i64 0, .slice none 0 0, .int .i64 0, .slice none 0 0]) ?_ 1 _ rfl; (with_reducible repeat (first | refine blk_drewN ?_ _ | refine blk_drew ?_ | refine blk_alloc ?_ _)); refine blk_put (cs := #[.string (⟨#[]⟩ : ByteArray), .int .i64 0, .int .i64 0, .int .i64 0, .slice none 0 0, .int .i64 0, .slice none 0 0]) ?_ 0 _ rfl; (with_reducible repeat (first | refine blk_drewN ?_ _ | refine blk_drew ?_ | refine blk_alloc ?_ _)); exact BK105.out)) : gb105 ≠ gb108))) (am ((by rw [hg]; exact Nat.ne_of_gt (blk_lt (g := gb105) (o := .cells #[.string ((rd_T72 ((rd_T36 l0 x3_1).f0) x5_3).f0), .int .i64 ((rd_T72 ((rd_T36 l0 x3_1).f0) x5_3).f1), .int .i64 ((rd_T72 ((rd_T36 l0 x3_1).f0) x5_3).f2), .int .i64 ((rd_T72 ((rd_T36 l0 x3_1).f0) x5_3).f3), .slice A104_4 ((rd_T72 ((rd_T36 l0 x3_1).f0) x5_3).f4).length c104_4, .int .i64 ((rd_T72 ((rd_T36 l0 x3_1).f0) x5_3).f5), .slice A104_6 ((rd_T72 ((rd_T36 l0 x3_1).f0) x5_3).f6).length c104_6] 72 (0, 0)) (by (with_reducible repeat (first | refine blk_drewN ?_ _ | refine blk_drew ?_ | refine blk_alloc ?_ _)); refine blk_put (cs := #[.string ((rd_T72 ((rd_T36 l0 x3_1).f0) x5_3).f0), .int .i64 ((rd_T72 ((rd_T36 l0 x3_1).f0) x5_3).f1), .int .i64 ((rd_T72 ((rd_T36 l0 x3_1).f0) x5_3).f2), .int .i64 ((rd_T72 ((rd_T36 l0 x3_1).f0) x5_3).f3), .slice A104_4 ((rd_T72 ((rd_T36 l0 x3_1).f0) x5_3).f4).length c104_4, .int .i64 ((rd_T72 ((rd_T36 l0 x3_1).f0) x5_3).f5), .slice none 0 0]) ?_ 6 _ rfl; (with_reducible repeat (first | refine blk_drewN ?_ _ | refine blk_drew ?_ | refine blk_alloc ?_ _)); refine blk_put (cs := #[.string ((rd_T72 ((rd_T36 l0 x3_1).f0) x5_3).f0), .int .i64 ((rd_T72 ((rd_T36 l0 x3_1).f0) x5_3).f1), .int .i64 ((rd_T72 ((rd_T36 l0 x3_1).f0) x5_3).f2), .int .i64 ((rd_T72 ((rd_T36 l0 x3_1).f0) x5_3).f3), .slice A104_4 ((rd_T72 ((rd_T36 l0 x3_1).f0) x5_3).f4).length c104_4, .int .i64 0, .slice none 0 0]) ?_ 5 _ rfl; (with_reducible repeat (first | refine blk_drewN ?_ _ | refine blk_drew ?_ | refine blk_alloc ?_ _)); refine blk_put (cs := #[.string ((rd_T72 ((rd_T36 l0 x3_1).f0) x5_3).f0), .int .i64 ((rd_T72 ((rd_T36 l0 x3_1).f0) x5_3).f1), .int .i64 ((rd_T72 ((rd_T36 l0 x3_1).f0) x5_3).f2), .int .i64 ((rd_T72 ((rd_T36 l0 x3_1).f0) x5_3).f3), .slice none 0 0, .int .i64 0, .slice none 0 0]) ?_ 4 _ rfl; (with_reducible repeat (first | refine blk_drewN ?_ _ | refine blk_drew ?_ | refine blk_alloc ?_ _)); refine blk_put (cs := #[.string ((rd_T72 ((rd_T36 l0 x3_1).f0) x5_3).f0), .int .i64 ((rd_T72 ((rd_T36 l0 x3_1).f0) x5_3).f1), .int .i64 ((rd_T72 ((rd_T36 l0 x3_1).f0) x5_3).f2), .int .i64 0, .slice none 0 0, .int .i64 0, .slice none 0 0]) ?_ 3 _ rfl; (with_reducible repeat (first | refine blk_drewN ?_ _ | refine blk_drew ?_ | refine blk_alloc ?_ _)); refine blk_put (cs := #[.string ((rd_T72 ((rd_T36 l0 x3_1).f0) x5_3).f0), .int .i64 ((rd_T72 ((rd_T36 l0 x3_1).f0) x5_3).f1), .int .i64 0, .int .i64 0, .slice none 0 0, .int .i64 0, .slice none 0 0]) ?_ 2 _ rfl; (with_reducible repeat (first | refine blk_drewN ?_ _ | refine blk_drew ?_ | refine blk_alloc ?_ _)); refine blk_put (cs := #[.string ((rd_T72 ((rd_T36 l0 x3_1).f0) x5_3).f0), .int .i64 0, .int .i64 0, .int .i64 0, .slice none 0 0, .int .i64 0, .slice none 0 0]) ?_ 1 _ rfl; (with_reducible repeat (first | refine blk_drewN ?_ _ | refine blk_drew ?_ | refine blk_alloc ?_ _)); refine blk_put (cs := #[.string (⟨#[]⟩ : ByteArray), .int .i64 0, .int .i64 0, .int .i64 0, .slice none 0 0, .int .i64 0, .slice none 0 0]) ?_ 0 _ rfl; (with_reducible repeat (first | refine blk_drewN ?_ _ | refine blk_drew ?_ | refine blk_alloc ?_ _)); exact BK105.out)) : gb108 ≠ gb105))) ?_; clear BK105 HB; intro BK105 HB BK108 GW108 NB105_108 NB108_105; have GE108 := GW108; clear hb hbox hg; have hnb39 := NB108_105.out; have hnc39 := NB105_108.out; obtain ⟨hcz40_0, hcz40_1, hcz40_2, hcz40_3, hcz40_4, hcz40_5, hcz40_6, hfz40_0, hfz40_1, hfz40_2, hfz40_3, hfz40_4, hfz40_5, hfz40_6⟩ := cells7 BK108.out; obtain ⟨hcz41_0, hcz41_1, hcz41_2, hcz41_3, hcz41_4, hcz41_5, hcz41_6, hfz41_0, hfz41_1, hfz41_2, hfz41_3, hfz41_4, hfz41_5, hfz41_6⟩ := cells7 BK105.out))
          go_roundg k4
          case measure => have := HK1.out; have := HK2.out; have := HK3.out; have := HK4.out; omega
          case rel => exact ⟨(wrap64 (x6_4 + 1)), (by first | rfl | (simp; done) | (simp [*]; done)), H', ⟨by have := HK1.out; have := HK2.out; have := HK3.out; have := HK4.out; omega⟩, ⟨by exact bl_g HB.out⟩⟩
         rw [if_pos c15] at H
         have c15b0 : (((rd_T72 ((rd_T36 l0 x3_1).f0) x5_3).f0).toList == ((rd_T72 ((rd_T36 l0 x4_2).f0) x6_4).f0).toList) = true := beq_iff_eq.mpr c15
         have c15b1 : (((rd_T72 ((rd_T36 l0 x3_1).f0) x5_3).f0).toList != ((rd_T72 ((rd_T36 l0 x4_2).f0) x6_4).f0).toList) = false := bne_eq_false_iff_eq.mpr c15
         clear c15
         by_cases c16 : ((rd_T72 ((rd_T36 l0 x3_1).f0) x5_3).f1) = ((rd_T72 ((rd_T36 l0 x4_2).f0) x6_4).f1)
         rotate_left
         ·
          rw [if_neg c16] at H
          have c16b0 : (((rd_T72 ((rd_T36 l0 x3_1).f0) x5_3).f1) == ((rd_T72 ((rd_T36 l0 x4_2).f0) x6_4).f1)) = false := beq_eq_false_iff_ne.mpr c16
          have c16b1 : (((rd_T72 ((rd_T36 l0 x3_1).f0) x5_3).f1) != ((rd_T72 ((rd_T36 l0 x4_2).f0) x6_4).f1)) = true := bne_iff_ne.mpr c16
          obtain rfl := Option.some.inj H
          have p102 : 0 ≤ (x4_2 : Int) := of_decide_eq_true (by first | (with_reducible assumption) | assumption)
          have q102 : x4_2 < (l0.length : Int) := of_decide_eq_true (by first | (with_reducible assumption) | assumption)
          obtain ⟨ad102, A102_0, c102_0, A102_1, c102_1, e102, hx102_0, hx102_1, hl102_0, hi102_0, hl102_1, hi102_1⟩ := at_T36 HR0.out x4_2 p102 q102
          obtain rfl : ad101 = ad102 := (by injection e102)
          replace hx102_0 := oc HB.out hx102_0
          replace hx102_1 := oc HB.out hx102_1
          have HR102_0 := am hi102_0
          have HC102_0 := am hl102_0
          clear hi102_0 hl102_0
          have HR102_1 := am hi102_1
          have HC102_1 := am hl102_1
          clear hi102_1 hl102_1
          replace p102 := eq_true p102
          replace q102 := eq_true q102
          have p103 : 0 ≤ (x3_1 : Int) := of_decide_eq_true (by first | (with_reducible assumption) | assumption)
          have q103 : x3_1 < (l0.length : Int) := of_decide_eq_true (by first | (with_reducible assumption) | assumption)
          obtain ⟨ad103, A103_0, c103_0, A103_1, c103_1, e103, hx103_0, hx103_1, hl103_0, hi103_0, hl103_1, hi103_1⟩ := at_T36 HR0.out x3_1 p103 q103
          obtain rfl : ad101 = ad103 := (by injection e103)
          replace hx103_0 := oc HB.out hx103_0
          replace hx103_1 := oc HB.out hx103_1
          have HR103_0 := am hi103_0
          have HC103_0 := am hl103_0
          clear hi103_0 hl103_0
          have HR103_1 := am hi103_1
          have HC103_1 := am hl103_1
          clear hi103_1 hl103_1
          replace p103 := eq_true p103
          replace q103 := eq_true q103
          have p104 : 0 ≤ (x5_3 : Int) := of_decide_eq_true (by first | (with_reducible assumption) | assumption)
          have q104 : x5_3 < (((rd_T36 l0 x3_1).f0).length : Int) := of_decide_eq_true (by first | (with_reducible assumption) | assumption)
          obtain ⟨ad104, A104_4, c104_4, A104_6, c104_6, e104, hx104_0, hx104_1, hx104_2, hx104_3, hx104_4, hx104_5, hx104_6, hl104_4, hi104_4, hl104_6, hi104_6⟩ := at_T72 HR103_0.out x5_3 p104 q104
          cases e104
          replace hx104_0 := oc HB.out hx104_0
          replace hx104_1 := oc HB.out hx104_1
          replace hx104_2 := oc HB.out hx104_2
          replace hx104_3 := oc HB.out hx104_3
          replace hx104_4 := oc HB.out hx104_4
          replace hx104_5 := oc HB.out hx104_5
          replace hx104_6 := oc HB.out hx104_6
          have HR104_4 := am hi104_4
          have HC104_4 := am hl104_4
          clear hi104_4 hl104_4
          have HR104_6 := am hi104_6
          have HC104_6 := am hl104_6
          clear hi104_6 hl104_6
          replace p104 := eq_true p104
          replace q104 := eq_true q104
          go_wp2_with (first | ((with_reducible refine gate_dst (N := 7) rfl ?_); refine box_event ?hg (N := 7) ?hd (cs := #[.string (⟨#[]⟩ : ByteArray), .int .i64 0, .int .i64 0, .int .i64 0, .slice none 0 0, .int .i64 0, .slice none 0 0]) (t := 72) ?hr ?_; (case hd => rfl); (case hg => rfl); (case hr => go_simp; try rfl); intro gb105 hg w30 hbox hb; refine mv3 (am (below_step (by exact bl_o HB.out) hb)) (am (hbox)) (lei (by rw [hg]; exact (below_size (by exact bl_o HB.out)) : w.heap.size ≤ gb105)) ?_; clear HB; intro HB BK105 GW105; have GE105 := GW105; clear hb hbox hg; obtain ⟨hcz31_0, hcz31_1, hcz31_2, hcz31_3, hcz31_4, hcz31_5, hcz31_6, hfz31_0, hfz31_1, hfz31_2, hfz31_3, hfz31_4, hfz31_5, hfz31_6⟩ := cells7 BK105.out; have p106 : 0 ≤ (x4_2 : Int) := of_decide_eq_true (by first | (with_reducible assumption) | assumption); have q106 : x4_2 < (l0.length : Int) := of_decide_eq_true (by first | (with_reducible assumption) | assumption); obtain ⟨ad106, A106_0, c106_0, A106_1, c106_1, e106, hx106_0, hx106_1, hl106_0, hi106_0, hl106_1, hi106_1⟩ := at_T36 HR0.out x4_2 p106 q106; obtain rfl : ad101 = ad106 := (by injection e106); have hn106_0 : ad101.block ≠ gb105 := Nat.ne_of_lt (Nat.lt_of_lt_of_le (by have := World.block_lt_of_cell? _ _ hx106_0; first | rwa [add_block] at this | exact this) GW105.out); have hn106_1 : ad101.block ≠ gb105 := Nat.ne_of_lt (Nat.lt_of_lt_of_le (by have := World.block_lt_of_cell? _ _ hx106_0; first | rwa [add_block] at this | exact this) GW105.out); have hn106_2 : ad101.block ≠ gb105 := Nat.ne_of_lt (Nat.lt_of_lt_of_le (by have := World.block_lt_of_cell? _ _ hx106_0; first | rwa [add_block] at this | exact this) GW105.out); have hn106_3 : ad101.block ≠ gb105 := Nat.ne_of_lt (Nat.lt_of_lt_of_le (by have := World.block_lt_of_cell? _ _ hx106_0; first | rwa [add_block] at this | exact this) GW105.out); have hn106_4 : ad101.block ≠ gb105 := Nat.ne_of_lt (Nat.lt_of_lt_of_le (by have := World.block_lt_of_cell? _ _ hx106_0; first | rwa [add_block] at this | exact this) GW105.out); have hn106_5 : ad101.block ≠ gb105 := Nat.ne_of_lt (Nat.lt_of_lt_of_le (by have := World.block_lt_of_cell? _ _ hx106_0; first | rwa [add_block] at this | exact this) GW105.out); have hn106_6 : ad101.block ≠ gb105 := Nat.ne_of_lt (Nat.lt_of_lt_of_le (by have := World.block_lt_of_cell? _ _ hx106_0; first | rwa [add_block] at this | exact this) GW105.out); replace hx106_0 := oc HB.out hx106_0; replace hx106_1 := oc HB.out hx106_1; have HR106_0 := am hi106_0; have HC106_0 := am hl106_0; clear hi106_0 hl106_0; have HR106_1 := am hi106_1; have HC106_1 := am hl106_1; clear hi106_1 hl106_1; replace hx106_0 := (cell_far (p := ⟨gb105, 0, none⟩) (by first | (rw [add_block]; exact hn106_0) | (show (Addr.add _ _).block ≠ _; rw [add_block]; exact hn106_0) | exact hn106_0) (.string ((rd_T72 ((rd_T36 l0 x3_1).f0) x5_3).f0))).trans hx106_0; replace hx106_1 := (cell_far (p := ⟨gb105, 0, none⟩) (by first | (rw [add_block]; exact hn106_0) | (show (Addr.add _ _).block ≠ _; rw [add_block]; exact hn106_0) | exact hn106_0) (.string ((rd_T72 ((rd_T36 l0 x3_1).f0) x5_3).f0))).trans hx106_1; replace hx106_0 := (cell_far (p := ⟨gb105, 1, none⟩) (by first | (rw [add_block]; exact hn106_1) | (show (Addr.add _ _).block ≠ _; rw [add_block]; exact hn106_1) | exact hn106_1) (.int .i64 ((rd_T72 ((rd_T36 l0 x3_1).f0) x5_3).f1))).trans hx106_0; replace hx106_1 := (cell_far (p := ⟨gb105, 1, none⟩) (by first | (rw [add_block]; exact hn106_1) | (show (Addr.add _ _).block ≠ _; rw [add_block]; exact hn106_1) | exact hn106_1) (.int .i64 ((rd_T72 ((rd_T36 l0 x3_1).f0) x5_3).f1))).trans hx106_1; replace hx106_0 := (cell_far (p := ⟨gb105, 2, none⟩) (by first | (rw [add_block]; exact hn106_2) | (show (Addr.add _ _).block ≠ _; rw [add_block]; exact hn106_2) | exact hn106_2) (.int .i64 ((rd_T72 ((rd_T36 l0 x3_1).f0) x5_3).f2))).trans hx106_0; replace hx106_1 := (cell_far (p := ⟨gb105, 2, none⟩) (by first | (rw [add_block]; exact hn106_2) | (show (Addr.add _ _).block ≠ _; rw [add_block]; exact hn106_2) | exact hn106_2) (.int .i64 ((rd_T72 ((rd_T36 l0 x3_1).f0) x5_3).f2))).trans hx106_1; replace hx106_0 := (cell_far (p := ⟨gb105, 3, none⟩) (by first | (rw [add_block]; exact hn106_3) | (show (Addr.add _ _).block ≠ _; rw [add_block]; exact hn106_3) | exact hn106_3) (.int .i64 ((rd_T72 ((rd_T36 l0 x3_1).f0) x5_3).f3))).trans hx106_0; replace hx106_1 := (cell_far (p := ⟨gb105, 3, none⟩) (by first | (rw [add_block]; exact hn106_3) | (show (Addr.add _ _).block ≠ _; rw [add_block]; exact hn106_3) | exact hn106_3) (.int .i64 ((rd_T72 ((rd_T36 l0 x3_1).f0) x5_3).f3))).trans hx106_1; replace hx106_0 := (cell_far (p := ⟨gb105, 4, none⟩) (by first | (rw [add_block]; exact hn106_4) | (show (Addr.add _ _).block ≠ _; rw [add_block]; exact hn106_4) | exact hn106_4) (.slice A104_4 ((rd_T72 ((rd_T36 l0 x3_1).f0) x5_3).f4).length c104_4)).trans hx106_0; replace hx106_1 := (cell_far (p := ⟨gb105, 4, none⟩) (by first | (rw [add_block]; exact hn106_4) | (show (Addr.add _ _).block ≠ _; rw [add_block]; exact hn106_4) | exact hn106_4) (.slice A104_4 ((rd_T72 ((rd_T36 l0 x3_1).f0) x5_3).f4).length c104_4)).trans hx106_1; replace hx106_0 := (cell_far (p := ⟨gb105, 5, none⟩) (by first | (rw [add_block]; exact hn106_5) | (show (Addr.add _ _).block ≠ _; rw [add_block]; exact hn106_5) | exact hn106_5) (.int .i64 ((rd_T72 ((rd_T36 l0 x3_1).f0) x5_3).f5))).trans hx106_0; replace hx106_1 := (cell_far (p := ⟨gb105, 5, none⟩) (by first | (rw [add_block]; exact hn106_5) | (show (Addr.add _ _).block ≠ _; rw [add_block]; exact hn106_5) | exact hn106_5) (.int .i64 ((rd_T72 ((rd_T36 l0 x3_1).f0) x5_3).f5))).trans hx106_1; replace hx106_0 := (cell_far (p := ⟨gb105, 6, none⟩) (by first | (rw [add_block]; exact hn106_6) | (show (Addr.add _ _).block ≠ _; rw [add_block]; exact hn106_6) | exact hn106_6) (.slice A104_6 ((rd_T72 ((rd_T36 l0 x3_1).f0) x5_3).f6).length c104_6)).trans hx106_0; replace hx106_1 := (cell_far (p := ⟨gb105, 6, none⟩) (by first | (rw [add_block]; exact hn106_6) | (show (Addr.add _ _).block ≠ _; rw [add_block]; exact hn106_6) | exact hn106_6) (.slice A104_6 ((rd_T72 ((rd_T36 l0 x3_1).f0) x5_3).f6).length c104_6)).trans hx106_1; clear hn106_0 hn106_1 hn106_2 hn106_3 hn106_4 hn106_5 hn106_6; replace p106 := eq_true p106; replace q106 := eq_true q106; have p107 : 0 ≤ (x6_4 : Int) := of_decide_eq_true (by first | (with_reducible assumption) | assumption); have q107 : x6_4 < (((rd_T36 l0 x4_2).f0).length : Int) := of_decide_eq_true (by first | (with_reducible assumption) | assumption); obtain ⟨ad107, A107_4, c107_4, A107_6, c107_6, e107, hx107_0, hx107_1, hx107_2, hx107_3, hx107_4, hx107_5, hx107_6, hl107_4, hi107_4, hl107_6, hi107_6⟩ := at_T72 HR106_0.out x6_4 p107 q107; cases e107; have hn107_0 : ad107.block ≠ gb105 := Nat.ne_of_lt (Nat.lt_of_lt_of_le (by have := World.block_lt_of_cell? _ _ hx107_0; first | rwa [add_block] at this | exact this) GW105.out); have hn107_1 : ad107.block ≠ gb105 := Nat.ne_of_lt (Nat.lt_of_lt_of_le (by have := World.block_lt_of_cell? _ _ hx107_0; first | rwa [add_block] at this | exact this) GW105.out); have hn107_2 : ad107.block ≠ gb105 := Nat.ne_of_lt (Nat.lt_of_lt_of_le (by have := World.block_lt_of_cell? _ _ hx107_0; first | rwa [add_block] at this | exact this) GW105.out); have hn107_3 : ad107.block ≠ gb105 := Nat.ne_of_lt (Nat.lt_of_lt_of_le (by have := World.block_lt_of_cell? _ _ hx107_0; first | rwa [add_block] at this | exact this) GW105.out); have hn107_4 : ad107.block ≠ gb105 := Nat.ne_of_lt (Nat.lt_of_lt_of_le (by have := World.block_lt_of_cell? _ _ hx107_0; first | rwa [add_block] at this | exact this) GW105.out); have hn107_5 : ad107.block ≠ gb105 := Nat.ne_of_lt (Nat.lt_of_lt_of_le (by have := World.block_lt_of_cell? _ _ hx107_0; first | rwa [add_block] at this | exact this) GW105.out); have hn107_6 : ad107.block ≠ gb105 := Nat.ne_of_lt (Nat.lt_of_lt_of_le (by have := World.block_lt_of_cell? _ _ hx107_0; first | rwa [add_block] at this | exact this) GW105.out); replace hx107_0 := oc HB.out hx107_0; replace hx107_1 := oc HB.out hx107_1; replace hx107_2 := oc HB.out hx107_2; replace hx107_3 := oc HB.out hx107_3; replace hx107_4 := oc HB.out hx107_4; replace hx107_5 := oc HB.out hx107_5; replace hx107_6 := oc HB.out hx107_6; have HR107_4 := am hi107_4; have HC107_4 := am hl107_4; clear hi107_4 hl107_4; have HR107_6 := am hi107_6; have HC107_6 := am hl107_6; clear hi107_6 hl107_6; replace hx107_0 := (cell_far (p := ⟨gb105, 0, none⟩) (by first | (rw [add_block]; exact hn107_0) | (show (Addr.add _ _).block ≠ _; rw [add_block]; exact hn107_0) | exact hn107_0) (.string ((rd_T72 ((rd_T36 l0 x3_1).f0) x5_3).f0))).trans hx107_0; replace hx107_1 := (cell_far (p := ⟨gb105, 0, none⟩) (by first | (rw [add_block]; exact hn107_0) | (show (Addr.add _ _).block ≠ _; rw [add_block]; exact hn107_0) | exact hn107_0) (.string ((rd_T72 ((rd_T36 l0 x3_1).f0) x5_3).f0))).trans hx107_1; replace hx107_2 := (cell_far (p := ⟨gb105, 0, none⟩) (by first | (rw [add_block]; exact hn107_0) | (show (Addr.add _ _).block ≠ _; rw [add_block]; exact hn107_0) | exact hn107_0) (.string ((rd_T72 ((rd_T36 l0 x3_1).f0) x5_3).f0))).trans hx107_2; replace hx107_3 := (cell_far (p := ⟨gb105, 0, none⟩) (by first | (rw [add_block]; exact hn107_0) | (show (Addr.add _ _).block ≠ _; rw [add_block]; exact hn107_0) | exact hn107_0) (.string ((rd_T72 ((rd_T36 l0 x3_1).f0) x5_3).f0))).trans hx107_3; replace hx107_4 := (cell_far (p := ⟨gb105, 0, none⟩) (by first | (rw [add_block]; exact hn107_0) | (show (Addr.add _ _).block ≠ _; rw [add_block]; exact hn107_0) | exact hn107_0) (.string ((rd_T72 ((rd_T36 l0 x3_1).f0) x5_3).f0))).trans hx107_4; replace hx107_5 := (cell_far (p := ⟨gb105, 0, none⟩) (by first | (rw [add_block]; exact hn107_0) | (show (Addr.add _ _).block ≠ _; rw [add_block]; exact hn107_0) | exact hn107_0) (.string ((rd_T72 ((rd_T36 l0 x3_1).f0) x5_3).f0))).trans hx107_5; replace hx107_6 := (cell_far (p := ⟨gb105, 0, none⟩) (by first | (rw [add_block]; exact hn107_0) | (show (Addr.add _ _).block ≠ _; rw [add_block]; exact hn107_0) | exact hn107_0) (.string ((rd_T72 ((rd_T36 l0 x3_1).f0) x5_3).f0))).trans hx107_6; replace hx107_0 := (cell_far (p := ⟨gb105, 1, none⟩) (by first | (rw [add_block]; exact hn107_1) | (show (Addr.add _ _).block ≠ _; rw [add_block]; exact hn107_1) | exact hn107_1) (.int .i64 ((rd_T72 ((rd_T36 l0 x3_1).f0) x5_3).f1))).trans hx107_0; replace hx107_1 := (cell_far (p := ⟨gb105, 1, none⟩) (by first | (rw [add_block]; exact hn107_1) | (show (Addr.add _ _).block ≠ _; rw [add_block]; exact hn107_1) | exact hn107_1) (.int .i64 ((rd_T72 ((rd_T36 l0 x3_1).f0) x5_3).f1))).trans hx107_1; replace hx107_2 := (cell_far (p := ⟨gb105, 1, none⟩) (by first | (rw [add_block]; exact hn107_1) | (show (Addr.add _ _).block ≠ _; rw [add_block]; exact hn107_1) | exact hn107_1) (.int .i64 ((rd_T72 ((rd_T36 l0 x3_1).f0) x5_3).f1))).trans hx107_2; replace hx107_3 := (cell_far (p := ⟨gb105, 1, none⟩) (by first | (rw [add_block]; exact hn107_1) | (show (Addr.add _ _).block ≠ _; rw [add_block]; exact hn107_1) | exact hn107_1) (.int .i64 ((rd_T72 ((rd_T36 l0 x3_1).f0) x5_3).f1))).trans hx107_3; replace hx107_4 := (cell_far (p := ⟨gb105, 1, none⟩) (by first | (rw [add_block]; exact hn107_1) | (show (Addr.add _ _).block ≠ _; rw [add_block]; exact hn107_1) | exact hn107_1) (.int .i64 ((rd_T72 ((rd_T36 l0 x3_1).f0) x5_3).f1))).trans hx107_4; replace hx107_5 := (cell_far (p := ⟨gb105, 1, none⟩) (by first | (rw [add_block]; exact hn107_1) | (show (Addr.add _ _).block ≠ _; rw [add_block]; exact hn107_1) | exact hn107_1) (.int .i64 ((rd_T72 ((rd_T36 l0 x3_1).f0) x5_3).f1))).trans hx107_5; replace hx107_6 := (cell_far (p := ⟨gb105, 1, none⟩) (by first | (rw [add_block]; exact hn107_1) | (show (Addr.add _ _).block ≠ _; rw [add_block]; exact hn107_1) | exact hn107_1) (.int .i64 ((rd_T72 ((rd_T36 l0 x3_1).f0) x5_3).f1))).trans hx107_6; replace hx107_0 := (cell_far (p := ⟨gb105, 2, none⟩) (by first | (rw [add_block]; exact hn107_2) | (show (Addr.add _ _).block ≠ _; rw [add_block]; exact hn107_2) | exact hn107_2) (.int .i64 ((rd_T72 ((rd_T36 l0 x3_1).f0) x5_3).f2))).trans hx107_0; replace hx107_1 := (cell_far (p := ⟨gb105, 2, none⟩) (by first | (rw [add_block]; exact hn107_2) | (show (Addr.add _ _).block ≠ _; rw [add_block]; exact hn107_2) | exact hn107_2) (.int .i64 ((rd_T72 ((rd_T36 l0 x3_1).f0) x5_3).f2))).trans hx107_1; replace hx107_2 := (cell_far (p := ⟨gb105, 2, none⟩) (by first | (rw [add_block]; exact hn107_2) | (show (Addr.add _ _).block ≠ _; rw [add_block]; exact hn107_2) | exact hn107_2) (.int .i64 ((rd_T72 ((rd_T36 l0 x3_1).f0) x5_3).f2))).trans hx107_2; replace hx107_3 := (cell_far (p := ⟨gb105, 2, none⟩) (by first | (rw [add_block]; exact hn107_2) | (show (Addr.add _ _).block ≠ _; rw [add_block]; exact hn107_2) | exact hn107_2) (.int .i64 ((rd_T72 ((rd_T36 l0 x3_1).f0) x5_3).f2))).trans hx107_3; replace hx107_4 := (cell_far (p := ⟨gb105, 2, none⟩) (by first | (rw [add_block]; exact hn107_2) | (show (Addr.add _ _).block ≠ _; rw [add_block]; exact hn107_2) | exact hn107_2) (.int .i64 ((rd_T72 ((rd_T36 l0 x3_1).f0) x5_3).f2))).trans hx107_4; replace hx107_5 := (cell_far (p := ⟨gb105, 2, none⟩) (by first | (rw [add_block]; exact hn107_2) | (show (Addr.add _ _).block ≠ _; rw [add_block]; exact hn107_2) | exact hn107_2) (.int .i64 ((rd_T72 ((rd_T36 l0 x3_1).f0) x5_3).f2))).trans hx107_5; replace hx107_6 := (cell_far (p := ⟨gb105, 2, none⟩) (by first | (rw [add_block]; exact hn107_2) | (show (Addr.add _ _).block ≠ _; rw [add_block]; exact hn107_2) | exact hn107_2) (.int .i64 ((rd_T72 ((rd_T36 l0 x3_1).f0) x5_3).f2))).trans hx107_6; replace hx107_0 := (cell_far (p := ⟨gb105, 3, none⟩) (by first | (rw [add_block]; exact hn107_3) | (show (Addr.add _ _).block ≠ _; rw [add_block]; exact hn107_3) | exact hn107_3) (.int .i64 ((rd_T72 ((rd_T36 l0 x3_1).f0) x5_3).f3))).trans hx107_0; replace hx107_1 := (cell_far (p := ⟨gb105, 3, none⟩) (by first | (rw [add_block]; exact hn107_3) | (show (Addr.add _ _).block ≠ _; rw [add_block]; exact hn107_3) | exact hn107_3) (.int .i64 ((rd_T72 ((rd_T36 l0 x3_1).f0) x5_3).f3))).trans hx107_1; replace hx107_2 := (cell_far (p := ⟨gb105, 3, none⟩) (by first | (rw [add_block]; exact hn107_3) | (show (Addr.add _ _).block ≠ _; rw [add_block]; exact hn107_3) | exact hn107_3) (.int .i64 ((rd_T72 ((rd_T36 l0 x3_1).f0) x5_3).f3))).trans hx107_2; replace hx107_3 := (cell_far (p := ⟨gb105, 3, none⟩) (by first | (rw [add_block]; exact hn107_3) | (show (Addr.add _ _).block ≠ _; rw [add_block]; exact hn107_3) | exact hn107_3) (.int .i64 ((rd_T72 ((rd_T36 l0 x3_1).f0) x5_3).f3))).trans hx107_3; replace hx107_4 := (cell_far (p := ⟨gb105, 3, none⟩) (by first | (rw [add_block]; exact hn107_3) | (show (Addr.add _ _).block ≠ _; rw [add_block]; exact hn107_3) | exact hn107_3) (.int .i64 ((rd_T72 ((rd_T36 l0 x3_1).f0) x5_3).f3))).trans hx107_4; replace hx107_5 := (cell_far (p := ⟨gb105, 3, none⟩) (by first | (rw [add_block]; exact hn107_3) | (show (Addr.add _ _).block ≠ _; rw [add_block]; exact hn107_3) | exact hn107_3) (.int .i64 ((rd_T72 ((rd_T36 l0 x3_1).f0) x5_3).f3))).trans hx107_5; replace hx107_6 := (cell_far (p := ⟨gb105, 3, none⟩) (by first | (rw [add_block]; exact hn107_3) | (show (Addr.add _ _).block ≠ _; rw [add_block]; exact hn107_3) | exact hn107_3) (.int .i64 ((rd_T72 ((rd_T36 l0 x3_1).f0) x5_3).f3))).trans hx107_6; replace hx107_0 := (cell_far (p := ⟨gb105, 4, none⟩) (by first | (rw [add_block]; exact hn107_4) | (show (Addr.add _ _).block ≠ _; rw [add_block]; exact hn107_4) | exact hn107_4) (.slice A104_4 ((rd_T72 ((rd_T36 l0 x3_1).f0) x5_3).f4).length c104_4)).trans hx107_0; replace hx107_1 := (cell_far (p := ⟨gb105, 4, none⟩) (by first | (rw [add_block]; exact hn107_4) | (show (Addr.add _ _).block ≠ _; rw [add_block]; exact hn107_4) | exact hn107_4) (.slice A104_4 ((rd_T72 ((rd_T36 l0 x3_1).f0) x5_3).f4).length c104_4)).trans hx107_1; replace hx107_2 := (cell_far (p := ⟨gb105, 4, none⟩) (by first | (rw [add_block]; exact hn107_4) | (show (Addr.add _ _).block ≠ _; rw [add_block]; exact hn107_4) | exact hn107_4) (.slice A104_4 ((rd_T72 ((rd_T36 l0 x3_1).f0) x5_3).f4).length c104_4)).trans hx107_2; replace hx107_3 := (cell_far (p := ⟨gb105, 4, none⟩) (by first | (rw [add_block]; exact hn107_4) | (show (Addr.add _ _).block ≠ _; rw [add_block]; exact hn107_4) | exact hn107_4) (.slice A104_4 ((rd_T72 ((rd_T36 l0 x3_1).f0) x5_3).f4).length c104_4)).trans hx107_3; replace hx107_4 := (cell_far (p := ⟨gb105, 4, none⟩) (by first | (rw [add_block]; exact hn107_4) | (show (Addr.add _ _).block ≠ _; rw [add_block]; exact hn107_4) | exact hn107_4) (.slice A104_4 ((rd_T72 ((rd_T36 l0 x3_1).f0) x5_3).f4).length c104_4)).trans hx107_4; replace hx107_5 := (cell_far (p := ⟨gb105, 4, none⟩) (by first | (rw [add_block]; exact hn107_4) | (show (Addr.add _ _).block ≠ _; rw [add_block]; exact hn107_4) | exact hn107_4) (.slice A104_4 ((rd_T72 ((rd_T36 l0 x3_1).f0) x5_3).f4).length c104_4)).trans hx107_5; replace hx107_6 := (cell_far (p := ⟨gb105, 4, none⟩) (by first | (rw [add_block]; exact hn107_4) | (show (Addr.add _ _).block ≠ _; rw [add_block]; exact hn107_4) | exact hn107_4) (.slice A104_4 ((rd_T72 ((rd_T36 l0 x3_1).f0) x5_3).f4).length c104_4)).trans hx107_6; replace hx107_0 := (cell_far (p := ⟨gb105, 5, none⟩) (by first | (rw [add_block]; exact hn107_5) | (show (Addr.add _ _).block ≠ _; rw [add_block]; exact hn107_5) | exact hn107_5) (.int .i64 ((rd_T72 ((rd_T36 l0 x3_1).f0) x5_3).f5))).trans hx107_0; replace hx107_1 := (cell_far (p := ⟨gb105, 5, none⟩) (by first | (rw [add_block]; exact hn107_5) | (show (Addr.add _ _).block ≠ _; rw [add_block]; exact hn107_5) | exact hn107_5) (.int .i64 ((rd_T72 ((rd_T36 l0 x3_1).f0) x5_3).f5))).trans hx107_1; replace hx107_2 := (cell_far (p := ⟨gb105, 5, none⟩) (by first | (rw [add_block]; exact hn107_5) | (show (Addr.add _ _).block ≠ _; rw [add_block]; exact hn107_5) | exact hn107_5) (.int .i64 ((rd_T72 ((rd_T36 l0 x3_1).f0) x5_3).f5))).trans hx107_2; replace hx107_3 := (cell_far (p := ⟨gb105, 5, none⟩) (by first | (rw [add_block]; exact hn107_5) | (show (Addr.add _ _).block ≠ _; rw [add_block]; exact hn107_5) | exact hn107_5) (.int .i64 ((rd_T72 ((rd_T36 l0 x3_1).f0) x5_3).f5))).trans hx107_3; replace hx107_4 := (cell_far (p := ⟨gb105, 5, none⟩) (by first | (rw [add_block]; exact hn107_5) | (show (Addr.add _ _).block ≠ _; rw [add_block]; exact hn107_5) | exact hn107_5) (.int .i64 ((rd_T72 ((rd_T36 l0 x3_1).f0) x5_3).f5))).trans hx107_4; replace hx107_5 := (cell_far (p := ⟨gb105, 5, none⟩) (by first | (rw [add_block]; exact hn107_5) | (show (Addr.add _ _).block ≠ _; rw [add_block]; exact hn107_5) | exact hn107_5) (.int .i64 ((rd_T72 ((rd_T36 l0 x3_1).f0) x5_3).f5))).trans hx107_5; replace hx107_6 := (cell_far (p := ⟨gb105, 5, none⟩) (by first | (rw [add_block]; exact hn107_5) | (show (Addr.add _ _).block ≠ _; rw [add_block]; exact hn107_5) | exact hn107_5) (.int .i64 ((rd_T72 ((rd_T36 l0 x3_1).f0) x5_3).f5))).trans hx107_6; replace hx107_0 := (cell_far (p := ⟨gb105, 6, none⟩) (by first | (rw [add_block]; exact hn107_6) | (show (Addr.add _ _).block ≠ _; rw [add_block]; exact hn107_6) | exact hn107_6) (.slice A104_6 ((rd_T72 ((rd_T36 l0 x3_1).f0) x5_3).f6).length c104_6)).trans hx107_0; replace hx107_1 := (cell_far (p := ⟨gb105, 6, none⟩) (by first | (rw [add_block]; exact hn107_6) | (show (Addr.add _ _).block ≠ _; rw [add_block]; exact hn107_6) | exact hn107_6) (.slice A104_6 ((rd_T72 ((rd_T36 l0 x3_1).f0) x5_3).f6).length c104_6)).trans hx107_1; replace hx107_2 := (cell_far (p := ⟨gb105, 6, none⟩) (by first | (rw [add_block]; exact hn107_6) | (show (Addr.add _ _).block ≠ _; rw [add_block]; exact hn107_6) | exact hn107_6) (.slice A104_6 ((rd_T72 ((rd_T36 l0 x3_1).f0) x5_3).f6).length c104_6)).trans hx107_2; replace hx107_3 := (cell_far (p := ⟨gb105, 6, none⟩) (by first | (rw [add_block]; exact hn107_6) | (show (Addr.add _ _).block ≠ _; rw [add_block]; exact hn107_6) | exact hn107_6) (.slice A104_6 ((rd_T72 ((rd_T36 l0 x3_1).f0) x5_3).f6).length c104_6)).trans hx107_3; replace hx107_4 := (cell_far (p := ⟨gb105, 6, none⟩) (by first | (rw [add_block]; exact hn107_6) | (show (Addr.add _ _).block ≠ _; rw [add_block]; exact hn107_6) | exact hn107_6) (.slice A104_6 ((rd_T72 ((rd_T36 l0 x3_1).f0) x5_3).f6).length c104_6)).trans hx107_4; replace hx107_5 := (cell_far (p := ⟨gb105, 6, none⟩) (by first | (rw [add_block]; exact hn107_6) | (show (Addr.add _ _).block ≠ _; rw [add_block]; exact hn107_6) | exact hn107_6) (.slice A104_6 ((rd_T72 ((rd_T36 l0 x3_1).f0) x5_3).f6).length c104_6)).trans hx107_5; replace hx107_6 := (cell_far (p := ⟨gb105, 6, none⟩) (by first | (rw [add_block]; exact hn107_6) | (show (Addr.add _ _).block ≠ _; rw [add_block]; exact hn107_6) | exact hn107_6) (.slice A104_6 ((rd_T72 ((rd_T36 l0 x3_1).f0) x5_3).f6).length c104_6)).trans hx107_6; clear hn107_0 hn107_1 hn107_2 hn107_3 hn107_4 hn107_5 hn107_6; replace p107 := eq_true p107; replace q107 := eq_true q107) | ((with_reducible refine gate_dst (N := 8) rfl ?_); refine box_event ?hg (N := 8) ?hd (cs := #[.string (⟨#[]⟩ : ByteArray), .int .i64 0, .int .i64 0, .int .i64 0, .slice none 0 0, .int .i64 0, .slice none 0 0]) (t := 72) ?hr ?_; (case hd => rfl); (case hg => rfl); (case hr => go_simp; try rfl); intro gb108 hg w32 hbox hb; refine mv6 (am (blk_below (g := gb105) (o := .cells #[.string ((rd_T72 ((rd_T36 l0 x3_1).f0) x5_3).f0), .int .i64 ((rd_T72 ((rd_T36 l0 x3_1).f0) x5_3).f1), .int .i64 ((rd_T72 ((rd_T36 l0 x3_1).f0) x5_3).f2), .int .i64 ((rd_T72 ((rd_T36 l0 x3_1).f0) x5_3).f3), .slice A104_4 ((rd_T72 ((rd_T36 l0 x3_1).f0) x5_3).f4).length c104_4, .int .i64 ((rd_T72 ((rd_T36 l0 x3_1).f0) x5_3).f5), .slice A104_6 ((rd_T72 ((rd_T36 l0 x3_1).f0) x5_3).f6).length c104_6] 72 (0, 0)) (by (with_reducible repeat (first | refine blk_drewN ?_ _ | refine blk_drew ?_ | refine blk_alloc ?_ _)); refine blk_put (cs := #[.string ((rd_T72 ((rd_T36 l0 x3_1).f0) x5_3).f0), .int .i64 ((rd_T72 ((rd_T36 l0 x3_1).f0) x5_3).f1), .int .i64 ((rd_T72 ((rd_T36 l0 x3_1).f0) x5_3).f2), .int .i64 ((rd_T72 ((rd_T36 l0 x3_1).f0) x5_3).f3), .slice A104_4 ((rd_T72 ((rd_T36 l0 x3_1).f0) x5_3).f4).length c104_4, .int .i64 ((rd_T72 ((rd_T36 l0 x3_1).f0) x5_3).f5), .slice none 0 0]) ?_ 6 _ rfl; (with_reducible repeat (first | refine blk_drewN ?_ _ | refine blk_drew ?_ | refine blk_alloc ?_ _)); refine blk_put (cs := #[.string ((rd_T72 ((rd_T36 l0 x3_1).f0) x5_3).f0), .int .i64 ((rd_T72 ((rd_T36 l0 x3_1).f0) x5_3).f1), .int .i64 ((rd_T72 ((rd_T36 l0 x3_1).f0) x5_3).f2), .int .i64 ((rd_T72 ((rd_T36 l0 x3_1).f0) x5_3).f3), .slice A104_4 ((rd_T72 ((rd_T36 l0 x3_1).f0) x5_3).f4).length c104_4, .int .i64 0, .slice none 0 0]) ?_ 5 _ rfl; (with_reducible repeat (first | refine blk_drewN ?_ _ | refine blk_drew ?_ | refine blk_alloc ?_ _)); refine blk_put (cs := #[.string ((rd_T72 ((rd_T36 l0 x3_1).f0) x5_3).f0), .int .i64 ((rd_T72 ((rd_T36 l0 x3_1).f0) x5_3).f1), .int .i64 ((rd_T72 ((rd_T36 l0 x3_1).f0) x5_3).f2), .int .i64 ((rd_T72 ((rd_T36 l0 x3_1).f0) x5_3).f3), .slice none 0 0, .int .i64 0, .slice none 0 0]) ?_ 4 _ rfl; (with_reducible repeat (first | refine blk_drewN ?_ _ | refine blk_drew ?_ | refine blk_alloc ?_ _)); refine blk_put (cs := #[.string ((rd_T72 ((rd_T36 l0 x3_1).f0) x5_3).f0), .int .i64 ((rd_T72 ((rd_T36 l0 x3_1).f0) x5_3).f1), .int .i64 ((rd_T72 ((rd_T36 l0 x3_1).f0) x5_3).f2), .int .i64 0, .slice none 0 0, .int .i64 0, .slice none 0 0]) ?_ 3 _ rfl; (with_reducible repeat (first | refine blk_drewN ?_ _ | refine blk_drew ?_ | refine blk_alloc ?_ _)); refine blk_put (cs := #[.string ((rd_T72 ((rd_T36 l0 x3_1).f0) x5_3).f0), .int .i64 ((rd_T72 ((rd_T36 l0 x3_1).f0) x5_3).f1), .int .i64 0, .int .i64 0, .slice none 0 0, .int .i64 0, .slice none 0 0]) ?_ 2 _ rfl; (with_reducible repeat (first | refine blk_drewN ?_ _ | refine blk_drew ?_ | refine blk_alloc ?_ _)); refine blk_put (cs := #[.string ((rd_T72 ((rd_T36 l0 x3_1).f0) x5_3).f0), .int .i64 0, .int .i64 0, .int .i64 0, .slice none 0 0, .int .i64 0, .slice none 0 0]) ?_ 1 _ rfl; (with_reducible repeat (first | refine blk_drewN ?_ _ | refine blk_drew ?_ | refine blk_alloc ?_ _)); refine blk_put (cs := #[.string (⟨#[]⟩ : ByteArray), .int .i64 0, .int .i64 0, .int .i64 0, .slice none 0 0, .int .i64 0, .slice none 0 0]) ?_ 0 _ rfl; (with_reducible repeat (first | refine blk_drewN ?_ _ | refine blk_drew ?_ | refine blk_alloc ?_ _)); exact BK105.out) hb)) (am (below_step (by exact bl_g HB.out) hb)) (am (hbox)) (lei (by rw [hg]; exact (below_size (by exact bl_g HB.out)) : w.heap.size ≤ gb108)) (am ((by rw [hg]; exact Nat.ne_of_lt (blk_lt (g := gb105) (o := .cells #[.string ((rd_T72 ((rd_T36 l0 x3_1).f0) x5_3).f0), .int .i64 ((rd_T72 ((rd_T36 l0 x3_1).f0) x5_3).f1), .int .i64 ((rd_T72 ((rd_T36 l0 x3_1).f0) x5_3).f2), .int .i64 ((rd_T72 ((rd_T36 l0 x3_1).f0) x5_3).f3), .slice A104_4 ((rd_T72 ((rd_T36 l0 x3_1).f0) x5_3).f4).length c104_4, .int .i64 ((rd_T72 ((rd_T36 l0 x3_1).f0) x5_3).f5), .slice A104_6 ((rd_T72 ((rd_T36 l0 x3_1).f0) x5_3).f6).length c104_6] 72 (0, 0)) (by (with_reducible repeat (first | refine blk_drewN ?_ _ | refine blk_drew ?_ | refine blk_alloc ?_ _)); refine blk_put (cs := #[.string ((rd_T72 ((rd_T36 l0 x3_1).f0) x5_3).f0), .int .i64 ((rd_T72 ((rd_T36 l0 x3_1).f0) x5_3).f1), .int .i64 ((rd_T72 ((rd_T36 l0 x3_1).f0) x5_3).f2), .int .i64 ((rd_T72 ((rd_T36 l0 x3_1).f0) x5_3).f3), .slice A104_4 ((rd_T72 ((rd_T36 l0 x3_1).f0) x5_3).f4).length c104_4, .int .i64 ((rd_T72 ((rd_T36 l0 x3_1).f0) x5_3).f5), .slice none 0 0]) ?_ 6 _ rfl; (with_reducible repeat (first | refine blk_drewN ?_ _ | refine blk_drew ?_ | refine blk_alloc ?_ _)); refine blk_put (cs := #[.string ((rd_T72 ((rd_T36 l0 x3_1).f0) x5_3).f0), .int .i64 ((rd_T72 ((rd_T36 l0 x3_1).f0) x5_3).f1), .int .i64 ((rd_T72 ((rd_T36 l0 x3_1).f0) x5_3).f2), .int .i64 ((rd_T72 ((rd_T36 l0 x3_1).f0) x5_3).f3), .slice A104_4 ((rd_T72 ((rd_T36 l0 x3_1).f0) x5_3).f4).length c104_4, .int .i64 0, .slice none 0 0]) ?_ 5 _ rfl; (with_reducible repeat (first | refine blk_drewN ?_ _ | refine blk_drew ?_ | refine blk_alloc ?_ _)); refine blk_put (cs := #[.string ((rd_T72 ((rd_T36 l0 x3_1).f0) x5_3).f0), .int .i64 ((rd_T72 ((rd_T36 l0 x3_1).f0) x5_3).f1), .int .i64 ((rd_T72 ((rd_T36 l0 x3_1).f0) x5_3).f2), .int .i64 ((rd_T72 ((rd_T36 l0 x3_1).f0) x5_3).f3), .slice none 0 0, .int .i64 0, .slice none 0 0]) ?_ 4 _ rfl; (with_reducible repeat (first | refine blk_drewN ?_ _ | refine blk_drew ?_ | refine blk_alloc ?_ _)); refine blk_put (cs := #[.string ((rd_T72 ((rd_T36 l0 x3_1).f0) x5_3).f0), .int .i64 ((rd_T72 ((rd_T36 l0 x3_1).f0) x5_3).f1), .int .i64 ((rd_T72 ((rd_T36 l0 x3_1).f0) x5_3).f2), .int .i64 0, .slice none 0 0, .int .i64 0, .slice none 0 0]) ?_ 3 _ rfl; (with_reducible repeat (first | refine blk_drewN ?_ _ | refine blk_drew ?_ | refine blk_alloc ?_ _)); refine blk_put (cs := #[.string ((rd_T72 ((rd_T36 l0 x3_1).f0) x5_3).f0), .int .i64 ((rd_T72 ((rd_T36 l0 x3_1).f0) x5_3).f1), .int .i64 0, .int .i64 0, .slice none 0 0, .int .i64 0, .slice none 0 0]) ?_ 2 _ rfl; (with_reducible repeat (first | refine blk_drewN ?_ _ | refine blk_drew ?_ | refine blk_alloc ?_ _)); refine blk_put (cs := #[.string ((rd_T72 ((rd_T36 l0 x3_1).f0) x5_3).f0), .int .i64 0, .int .i64 0, .int .i64 0, .slice none 0 0, .int .i64 0, .slice none 0 0]) ?_ 1 _ rfl; (with_reducible repeat (first | refine blk_drewN ?_ _ | refine blk_drew ?_ | refine blk_alloc ?_ _)); refine blk_put (cs := #[.string (⟨#[]⟩ : ByteArray), .int .i64 0, .int .i64 0, .int .i64 0, .slice none 0 0, .int .i64 0, .slice none 0 0]) ?_ 0 _ rfl; (with_reducible repeat (first | refine blk_drewN ?_ _ | refine blk_drew ?_ | refine blk_alloc ?_ _)); exact BK105.out)) : gb105 ≠ gb108))) (am ((by rw [hg]; exact Nat.ne_of_gt (blk_lt (g := gb105) (o := .cells #[.string ((rd_T72 ((rd_T36 l0 x3_1).f0) x5_3).f0), .int .i64 ((rd_T72 ((rd_T36 l0 x3_1).f0) x5_3).f1), .int .i64 ((rd_T72 ((rd_T36 l0 x3_1).f0) x5_3).f2), .int .i64 ((rd_T72 ((rd_T36 l0 x3_1).f0) x5_3).f3), .slice A104_4 ((rd_T72 ((rd_T36 l0 x3_1).f0) x5_3).f4).length c104_4, .int .i64 ((rd_T72 ((rd_T36 l0 x3_1).f0) x5_3).f5), .slice A104_6 ((rd_T72 ((rd_T36 l0 x3_1).f0) x5_3).f6).length c104_6] 72 (0, 0)) (by (with_reducible repeat (first | refine blk_drewN ?_ _ | refine blk_drew ?_ | refine blk_alloc ?_ _)); refine blk_put (cs := #[.string ((rd_T72 ((rd_T36 l0 x3_1).f0) x5_3).f0), .int .i64 ((rd_T72 ((rd_T36 l0 x3_1).f0) x5_3).f1), .int .i64 ((rd_T72 ((rd_T36 l0 x3_1).f0) x5_3).f2), .int .i64 ((rd_T72 ((rd_T36 l0 x3_1).f0) x5_3).f3), .slice A104_4 ((rd_T72 ((rd_T36 l0 x3_1).f0) x5_3).f4).length c104_4, .int .i64 ((rd_T72 ((rd_T36 l0 x3_1).f0) x5_3).f5), .slice none 0 0]) ?_ 6 _ rfl; (with_reducible repeat (first | refine blk_drewN ?_ _ | refine blk_drew ?_ | refine blk_alloc ?_ _)); refine blk_put (cs := #[.string ((rd_T72 ((rd_T36 l0 x3_1).f0) x5_3).f0), .int .i64 ((rd_T72 ((rd_T36 l0 x3_1).f0) x5_3).f1), .int .i64 ((rd_T72 ((rd_T36 l0 x3_1).f0) x5_3).f2), .int .i64 ((rd_T72 ((rd_T36 l0 x3_1).f0) x5_3).f3), .slice A104_4 ((rd_T72 ((rd_T36 l0 x3_1).f0) x5_3).f4).length c104_4, .int .i64 0, .slice none 0 0]) ?_ 5 _ rfl; (with_reducible repeat (first | refine blk_drewN ?_ _ | refine blk_drew ?_ | refine blk_alloc ?_ _)); refine blk_put (cs := #[.string ((rd_T72 ((rd_T36 l0 x3_1).f0) x5_3).f0), .int .i64 ((rd_T72 ((rd_T36 l0 x3_1).f0) x5_3).f1), .int .i64 ((rd_T72 ((rd_T36 l0 x3_1).f0) x5_3).f2), .int .i64 ((rd_T72 ((rd_T36 l0 x3_1).f0) x5_3).f3), .slice none 0 0, .int .i64 0, .slice none 0 0]) ?_ 4 _ rfl; (with_reducible repeat (first | refine blk_drewN ?_ _ | refine blk_drew ?_ | refine blk_alloc ?_ _)); refine blk_put (cs := #[.string ((rd_T72 ((rd_T36 l0 x3_1).f0) x5_3).f0), .int .i64 ((rd_T72 ((rd_T36 l0 x3_1).f0) x5_3).f1), .int .i64 ((rd_T72 ((rd_T36 l0 x3_1).f0) x5_3).f2), .int .i64 0, .slice none 0 0, .int .i64 0, .slice none 0 0]) ?_ 3 _ rfl; (with_reducible repeat (first | refine blk_drewN ?_ _ | refine blk_drew ?_ | refine blk_alloc ?_ _)); refine blk_put (cs := #[.string ((rd_T72 ((rd_T36 l0 x3_1).f0) x5_3).f0), .int .i64 ((rd_T72 ((rd_T36 l0 x3_1).f0) x5_3).f1), .int .i64 0, .int .i64 0, .slice none 0 0, .int .i64 0, .slice none 0 0]) ?_ 2 _ rfl; (with_reducible repeat (first | refine blk_drewN ?_ _ | refine blk_drew ?_ | refine blk_alloc ?_ _)); refine blk_put (cs := #[.string ((rd_T72 ((rd_T36 l0 x3_1).f0) x5_3).f0), .int .i64 0, .int .i64 0, .int .i64 0, .slice none 0 0, .int .i64 0, .slice none 0 0]) ?_ 1 _ rfl; (with_reducible repeat (first | refine blk_drewN ?_ _ | refine blk_drew ?_ | refine blk_alloc ?_ _)); refine blk_put (cs := #[.string (⟨#[]⟩ : ByteArray), .int .i64 0, .int .i64 0, .int .i64 0, .slice none 0 0, .int .i64 0, .slice none 0 0]) ?_ 0 _ rfl; (with_reducible repeat (first | refine blk_drewN ?_ _ | refine blk_drew ?_ | refine blk_alloc ?_ _)); exact BK105.out)) : gb108 ≠ gb105))) ?_; clear BK105 HB; intro BK105 HB BK108 GW108 NB105_108 NB108_105; have GE108 := GW108; clear hb hbox hg; have hnb33 := NB108_105.out; have hnc33 := NB105_108.out; obtain ⟨hcz34_0, hcz34_1, hcz34_2, hcz34_3, hcz34_4, hcz34_5, hcz34_6, hfz34_0, hfz34_1, hfz34_2, hfz34_3, hfz34_4, hfz34_5, hfz34_6⟩ := cells7 BK108.out; obtain ⟨hcz35_0, hcz35_1, hcz35_2, hcz35_3, hcz35_4, hcz35_5, hcz35_6, hfz35_0, hfz35_1, hfz35_2, hfz35_3, hfz35_4, hfz35_5, hfz35_6⟩ := cells7 BK105.out))
          go_ret
          exact ⟨rfl, by exact bl_g HB.out⟩
         rw [if_pos c16] at H
         have c16b0 : (((rd_T72 ((rd_T36 l0 x3_1).f0) x5_3).f1) == ((rd_T72 ((rd_T36 l0 x4_2).f0) x6_4).f1)) = true := beq_iff_eq.mpr c16
         have c16b1 : (((rd_T72 ((rd_T36 l0 x3_1).f0) x5_3).f1) != ((rd_T72 ((rd_T36 l0 x4_2).f0) x6_4).f1)) = false := bne_eq_false_iff_eq.mpr c16
         clear c16
         by_cases c17 : ((rd_T72 ((rd_T36 l0 x3_1).f0) x5_3).f2) = ((rd_T72 ((rd_T36 l0 x4_2).f0) x6_4).f2)
         ·
          rw [if_pos c17] at H
          have c17b0 : (((rd_T72 ((rd_T36 l0 x3_1).f0) x5_3).f2) == ((rd_T72 ((rd_T36 l0 x4_2).f0) x6_4).f2)) = true := beq_iff_eq.mpr c17
          have c17b1 : (((rd_T72 ((rd_T36 l0 x3_1).f0) x5_3).f2) != ((rd_T72 ((rd_T36 l0 x4_2).f0) x6_4).f2)) = false := bne_eq_false_iff_eq.mpr c17
          clear c17
          have H' := am H
          clear H
          have p102 : 0 ≤ (x4_2 : Int) := of_decide_eq_true (by first | (with_reducible assumption) | assumption)
          have q102 : x4_2 < (l0.length : Int) := of_decide_eq_true (by first | (with_reducible assumption) | assumption)
          obtain ⟨ad102, A102_0, c102_0, A102_1, c102_1, e102, hx102_0, hx102_1, hl102_0, hi102_0, hl102_1, hi102_1⟩ := at_T36 HR0.out x4_2 p102 q102
          obtain rfl : ad101 = ad102 := (by injection e102)
          replace hx102_0 := oc HB.out hx102_0
          replace hx102_1 := oc HB.out hx102_1
          have HR102_0 := am hi102_0
          have HC102_0 := am hl102_0
          clear hi102_0 hl102_0
          have HR102_1 := am hi102_1
          have HC102_1 := am hl102_1
          clear hi102_1 hl102_1
          replace p102 := eq_true p102
          replace q102 := eq_true q102
          have p103 : 0 ≤ (x3_1 : Int) := of_decide_eq_true (by first | (with_reducible assumption) | assumption)
          have q103 : x3_1 < (l0.length : Int) := of_decide_eq_true (by first | (with_reducible assumption) | assumption)
          obtain ⟨ad103, A103_0, c103_0, A103_1, c103_1, e103, hx103_0, hx103_1, hl103_0, hi103_0, hl103_1, hi103_1⟩ := at_T36 HR0.out x3_1 p103 q103
          obtain rfl : ad101 = ad103 := (by injection e103)
          replace hx103_0 := oc HB.out hx103_0
          replace hx103_1 := oc HB.out hx103_1
          have HR103_0 := am hi103_0
          have HC103_0 := am hl103_0
          clear hi103_0 hl103_0
          have HR103_1 := am hi103_1
          have HC103_1 := am hl103_1
          clear hi103_1 hl103_1
          replace p103 := eq_true p103
          replace q103 := eq_true q103
          have p104 : 0 ≤ (x5_3 : Int) := of_decide_eq_true (by first | (with_reducible assumption) | assumption)
          have q104 : x5_3 < (((rd_T36 l0 x3_1).f0).length : Int) := of_decide_eq_true (by first | (with_reducible assumption) | assumption)
          obtain ⟨ad104, A104_4, c104_4, A104_6, c104_6, e104, hx104_0, hx104_1, hx104_2, hx104_3, hx104_4, hx104_5, hx104_6, hl104_4, hi104_4, hl104_6, hi104_6⟩ := at_T72 HR103_0.out x5_3 p104 q104
          cases e104
          replace hx104_0 := oc HB.out hx104_0
          replace hx104_1 := oc HB.out hx104_1
          replace hx104_2 := oc HB.out hx104_2
          replace hx104_3 := oc HB.out hx104_3
          replace hx104_4 := oc HB.out hx104_4
          replace hx104_5 := oc HB.out hx104_5
          replace hx104_6 := oc HB.out hx104_6
          have HR104_4 := am hi104_4
          have HC104_4 := am hl104_4
          clear hi104_4 hl104_4
          have HR104_6 := am hi104_6
          have HC104_6 := am hl104_6
          clear hi104_6 hl104_6
          replace p104 := eq_true p104
          replace q104 := eq_true q104
          go_wp2_with (first | ((with_reducible refine gate_dst (N := 7) rfl ?_); refine box_event ?hg (N := 7) ?hd (cs := #[.string (⟨#[]⟩ : ByteArray), .int .i64 0, .int .i64 0, .int .i64 0, .slice none 0 0, .int .i64 0, .slice none 0 0]) (t := 72) ?hr ?_; (case hd => rfl); (case hg => rfl); (case hr => go_simp; try rfl); intro gb105 hg w18 hbox hb; refine mv3 (am (below_step (by exact bl_o HB.out) hb)) (am (hbox)) (lei (by rw [hg]; exact (below_size (by exact bl_o HB.out)) : w.heap.size ≤ gb105)) ?_; clear HB; intro HB BK105 GW105; have GE105 := GW105; clear hb hbox hg; obtain ⟨hcz19_0, hcz19_1, hcz19_2, hcz19_3, hcz19_4, hcz19_5, hcz19_6, hfz19_0, hfz19_1, hfz19_2, hfz19_3, hfz19_4, hfz19_5, hfz19_6⟩ := cells7 BK105.out; have p106 : 0 ≤ (x4_2 : Int) := of_decide_eq_true (by first | (with_reducible assumption) | assumption); have q106 : x4_2 < (l0.length : Int) := of_decide_eq_true (by first | (with_reducible assumption) | assumption); obtain ⟨ad106, A106_0, c106_0, A106_1, c106_1, e106, hx106_0, hx106_1, hl106_0, hi106_0, hl106_1, hi106_1⟩ := at_T36 HR0.out x4_2 p106 q106; obtain rfl : ad101 = ad106 := (by injection e106); have hn106_0 : ad101.block ≠ gb105 := Nat.ne_of_lt (Nat.lt_of_lt_of_le (by have := World.block_lt_of_cell? _ _ hx106_0; first | rwa [add_block] at this | exact this) GW105.out); have hn106_1 : ad101.block ≠ gb105 := Nat.ne_of_lt (Nat.lt_of_lt_of_le (by have := World.block_lt_of_cell? _ _ hx106_0; first | rwa [add_block] at this | exact this) GW105.out); have hn106_2 : ad101.block ≠ gb105 := Nat.ne_of_lt (Nat.lt_of_lt_of_le (by have := World.block_lt_of_cell? _ _ hx106_0; first | rwa [add_block] at this | exact this) GW105.out); have hn106_3 : ad101.block ≠ gb105 := Nat.ne_of_lt (Nat.lt_of_lt_of_le (by have := World.block_lt_of_cell? _ _ hx106_0; first | rwa [add_block] at this | exact this) GW105.out); have hn106_4 : ad101.block ≠ gb105 := Nat.ne_of_lt (Nat.lt_of_lt_of_le (by have := World.block_lt_of_cell? _ _ hx106_0; first | rwa [add_block] at this | exact this) GW105.out); have hn106_5 : ad101.block ≠ gb105 := Nat.ne_of_lt (Nat.lt_of_lt_of_le (by have := World.block_lt_of_cell? _ _ hx106_0; first | rwa [add_block] at this | exact this) GW105.out); have hn106_6 : ad101.block ≠ gb105 := Nat.ne_of_lt (Nat.lt_of_lt_of_le (by have := World.block_lt_of_cell? _ _ hx106_0; first | rwa [add_block] at this | exact this) GW105.out); replace hx106_0 := oc HB.out hx106_0; replace hx106_1 := oc HB.out hx106_1; have HR106_0 := am hi106_0; have HC106_0 := am hl106_0; clear hi106_0 hl106_0; have HR106_1 := am hi106_1; have HC106_1 := am hl106_1; clear hi106_1 hl106_1; replace hx106_0 := (cell_far (p := ⟨gb105, 0, none⟩) (by first | (rw [add_block]; exact hn106_0) | (show (Addr.add _ _).block ≠ _; rw [add_block]; exact hn106_0) | exact hn106_0) (.string ((rd_T72 ((rd_T36 l0 x3_1).f0) x5_3).f0))).trans hx106_0; replace hx106_1 := (cell_far (p := ⟨gb105, 0, none⟩) (by first | (rw [add_block]; exact hn106_0) | (show (Addr.add _ _).block ≠ _; rw [add_block]; exact hn106_0) | exact hn106_0) (.string ((rd_T72 ((rd_T36 l0 x3_1).f0) x5_3).f0))).trans hx106_1; replace hx106_0 := (cell_far (p := ⟨gb105, 1, none⟩) (by first | (rw [add_block]; exact hn106_1) | (show (Addr.add _ _).block ≠ _; rw [add_block]; exact hn106_1) | exact hn106_1) (.int .i64 ((rd_T72 ((rd_T36 l0 x3_1).f0) x5_3).f1))).trans hx106_0; replace hx106_1 := (cell_far (p := ⟨gb105, 1, none⟩) (by first | (rw [add_block]; exact hn106_1) | (show (Addr.add _ _).block ≠ _; rw [add_block]; exact hn106_1) | exact hn106_1) (.int .i64 ((rd_T72 ((rd_T36 l0 x3_1).f0) x5_3).f1))).trans hx106_1; replace hx106_0 := (cell_far (p := ⟨gb105, 2, none⟩) (by first | (rw [add_block]; exact hn106_2) | (show (Addr.add _ _).block ≠ _; rw [add_block]; exact hn106_2) | exact hn106_2) (.int .i64 ((rd_T72 ((rd_T36 l0 x3_1).f0) x5_3).f2))).trans hx106_0; replace hx106_1 := (cell_far (p := ⟨gb105, 2, none⟩) (by first | (rw [add_block]; exact hn106_2) | (show (Addr.add _ _).block ≠ _; rw [add_block]; exact hn106_2) | exact hn106_2) (.int .i64 ((rd_T72 ((rd_T36 l0 x3_1).f0) x5_3).f2))).trans hx106_1; replace hx106_0 := (cell_far (p := ⟨gb105, 3, none⟩) (by first | (rw [add_block]; exact hn106_3) | (show (Addr.add _ _).block ≠ _; rw [add_block]; exact hn106_3) | exact hn106_3) (.int .i64 ((rd_T72 ((rd_T36 l0 x3_1).f0) x5_3).f3))).trans hx106_0; replace hx106_1 := (cell_far (p := ⟨gb105, 3, none⟩) (by first | (rw [add_block]; exact hn106_3) | (show (Addr.add _ _).block ≠ _; rw [add_block]; exact hn106_3) | exact hn106_3) (.int .i64 ((rd_T72 ((rd_T36 l0 x3_1).f0) x5_3).f3))).trans hx106_1; replace hx106_0 := (cell_far (p := ⟨gb105, 4, none⟩) (by first | (rw [add_block]; exact hn106_4) | (show (Addr.add _ _).block ≠ _; rw [add_block]; exact hn106_4) | exact hn106_4) (.slice A104_4 ((rd_T72 ((rd_T36 l0 x3_1).f0) x5_3).f4).length c104_4)).trans hx106_0; replace hx106_1 := (cell_far (p := ⟨gb105, 4, none⟩) (by first | (rw [add_block]; exact hn106_4) | (show (Addr.add _ _).block ≠ _; rw [add_block]; exact hn106_4) | exact hn106_4) (.slice A104_4 ((rd_T72 ((rd_T36 l0 x3_1).f0) x5_3).f4).length c104_4)).trans hx106_1; replace hx106_0 := (cell_far (p := ⟨gb105, 5, none⟩) (by first | (rw [add_block]; exact hn106_5) | (show (Addr.add _ _).block ≠ _; rw [add_block]; exact hn106_5) | exact hn106_5) (.int .i64 ((rd_T72 ((rd_T36 l0 x3_1).f0) x5_3).f5))).trans hx106_0; replace hx106_1 := (cell_far (p := ⟨gb105, 5, none⟩) (by first | (rw [add_block]; exact hn106_5) | (show (Addr.add _ _).block ≠ _; rw [add_block]; exact hn106_5) | exact hn106_5) (.int .i64 ((rd_T72 ((rd_T36 l0 x3_1).f0) x5_3).f5))).trans hx106_1; replace hx106_0 := (cell_far (p := ⟨gb105, 6, none⟩) (by first | (rw [add_block]; exact hn106_6) | (show (Addr.add _ _).block ≠ _; rw [add_block]; exact hn106_6) | exact hn106_6) (.slice A104_6 ((rd_T72 ((rd_T36 l0 x3_1).f0) x5_3).f6).length c104_6)).trans hx106_0; replace hx106_1 := (cell_far (p := ⟨gb105, 6, none⟩) (by first | (rw [add_block]; exact hn106_6) | (show (Addr.add _ _).block ≠ _; rw [add_block]; exact hn106_6) | exact hn106_6) (.slice A104_6 ((rd_T72 ((rd_T36 l0 x3_1).f0) x5_3).f6).length c104_6)).trans hx106_1; clear hn106_0 hn106_1 hn106_2 hn106_3 hn106_4 hn106_5 hn106_6; replace p106 := eq_true p106; replace q106 := eq_true q106; have p107 : 0 ≤ (x6_4 : Int) := of_decide_eq_true (by first | (with_reducible assumption) | assumption); have q107 : x6_4 < (((rd_T36 l0 x4_2).f0).length : Int) := of_decide_eq_true (by first | (with_reducible assumption) | assumption); obtain ⟨ad107, A107_4, c107_4, A107_6, c107_6, e107, hx107_0, hx107_1, hx107_2, hx107_3, hx107_4, hx107_5, hx107_6, hl107_4, hi107_4, hl107_6, hi107_6⟩ := at_T72 HR106_0.out x6_4 p107 q107; cases e107; have hn107_0 : ad107.block ≠ gb105 := Nat.ne_of_lt (Nat.lt_of_lt_of_le (by have := World.block_lt_of_cell? _ _ hx107_0; first | rwa [add_block] at this | exact this) GW105.out); have hn107_1 : ad107.block ≠ gb105 := Nat.ne_of_lt (Nat.lt_of_lt_of_le (by have := World.block_lt_of_cell? _ _ hx107_0; first | rwa [add_block] at this | exact this) GW105.out); have hn107_2 : ad107.block ≠ gb105 := Nat.ne_of_lt (Nat.lt_of_lt_of_le (by have := World.block_lt_of_cell? _ _ hx107_0; first | rwa [add_block] at this | exact this) GW105.out); have hn107_3 : ad107.block ≠ gb105 := Nat.ne_of_lt (Nat.lt_of_lt_of_le (by have := World.block_lt_of_cell? _ _ hx107_0; first | rwa [add_block] at this | exact this) GW105.out); have hn107_4 : ad107.block ≠ gb105 := Nat.ne_of_lt (Nat.lt_of_lt_of_le (by have := World.block_lt_of_cell? _ _ hx107_0; first | rwa [add_block] at this | exact this) GW105.out); have hn107_5 : ad107.block ≠ gb105 := Nat.ne_of_lt (Nat.lt_of_lt_of_le (by have := World.block_lt_of_cell? _ _ hx107_0; first | rwa [add_block] at this | exact this) GW105.out); have hn107_6 : ad107.block ≠ gb105 := Nat.ne_of_lt (Nat.lt_of_lt_of_le (by have := World.block_lt_of_cell? _ _ hx107_0; first | rwa [add_block] at this | exact this) GW105.out); replace hx107_0 := oc HB.out hx107_0; replace hx107_1 := oc HB.out hx107_1; replace hx107_2 := oc HB.out hx107_2; replace hx107_3 := oc HB.out hx107_3; replace hx107_4 := oc HB.out hx107_4; replace hx107_5 := oc HB.out hx107_5; replace hx107_6 := oc HB.out hx107_6; have HR107_4 := am hi107_4; have HC107_4 := am hl107_4; clear hi107_4 hl107_4; have HR107_6 := am hi107_6; have HC107_6 := am hl107_6; clear hi107_6 hl107_6; replace hx107_0 := (cell_far (p := ⟨gb105, 0, none⟩) (by first | (rw [add_block]; exact hn107_0) | (show (Addr.add _ _).block ≠ _; rw [add_block]; exact hn107_0) | exact hn107_0) (.string ((rd_T72 ((rd_T36 l0 x3_1).f0) x5_3).f0))).trans hx107_0; replace hx107_1 := (cell_far (p := ⟨gb105, 0, none⟩) (by first | (rw [add_block]; exact hn107_0) | (show (Addr.add _ _).block ≠ _; rw [add_block]; exact hn107_0) | exact hn107_0) (.string ((rd_T72 ((rd_T36 l0 x3_1).f0) x5_3).f0))).trans hx107_1; replace hx107_2 := (cell_far (p := ⟨gb105, 0, none⟩) (by first | (rw [add_block]; exact hn107_0) | (show (Addr.add _ _).block ≠ _; rw [add_block]; exact hn107_0) | exact hn107_0) (.string ((rd_T72 ((rd_T36 l0 x3_1).f0) x5_3).f0))).trans hx107_2; replace hx107_3 := (cell_far (p := ⟨gb105, 0, none⟩) (by first | (rw [add_block]; exact hn107_0) | (show (Addr.add _ _).block ≠ _; rw [add_block]; exact hn107_0) | exact hn107_0) (.string ((rd_T72 ((rd_T36 l0 x3_1).f0) x5_3).f0))).trans hx107_3; replace hx107_4 := (cell_far (p := ⟨gb105, 0, none⟩) (by first | (rw [add_block]; exact hn107_0) | (show (Addr.add _ _).block ≠ _; rw [add_block]; exact hn107_0) | exact hn107_0) (.string ((rd_T72 ((rd_T36 l0 x3_1).f0) x5_3).f0))).trans hx107_4; replace hx107_5 := (cell_far (p := ⟨gb105, 0, none⟩) (by first | (rw [add_block]; exact hn107_0) | (show (Addr.add _ _).block ≠ _; rw [add_block]; exact hn107_0) | exact hn107_0) (.string ((rd_T72 ((rd_T36 l0 x3_1).f0) x5_3).f0))).trans hx107_5; replace hx107_6 := (cell_far (p := ⟨gb105, 0, none⟩) (by first | (rw [add_block]; exact hn107_0) | (show (Addr.add _ _).block ≠ _; rw [add_block]; exact hn107_0) | exact hn107_0) (.string ((rd_T72 ((rd_T36 l0 x3_1).f0) x5_3).f0))).trans hx107_6; replace hx107_0 := (cell_far (p := ⟨gb105, 1, none⟩) (by first | (rw [add_block]; exact hn107_1) | (show (Addr.add _ _).block ≠ _; rw [add_block]; exact hn107_1) | exact hn107_1) (.int .i64 ((rd_T72 ((rd_T36 l0 x3_1).f0) x5_3).f1))).trans hx107_0; replace hx107_1 := (cell_far (p := ⟨gb105, 1, none⟩) (by first | (rw [add_block]; exact hn107_1) | (show (Addr.add _ _).block ≠ _; rw [add_block]; exact hn107_1) | exact hn107_1) (.int .i64 ((rd_T72 ((rd_T36 l0 x3_1).f0) x5_3).f1))).trans hx107_1; replace hx107_2 := (cell_far (p := ⟨gb105, 1, none⟩) (by first | (rw [add_block]; exact hn107_1) | (show (Addr.add _ _).block ≠ _; rw [add_block]; exact hn107_1) | exact hn107_1) (.int .i64 ((rd_T72 ((rd_T36 l0 x3_1).f0) x5_3).f1))).trans hx107_2; replace hx107_3 := (cell_far (p := ⟨gb105, 1, none⟩) (by first | (rw [add_block]; exact hn107_1) | (show (Addr.add _ _).block ≠ _; rw [add_block]; exact hn107_1) | exact hn107_1) (.int .i64 ((rd_T72 ((rd_T36 l0 x3_1).f0) x5_3).f1))).trans hx107_3; replace hx107_4 := (cell_far (p := ⟨gb105, 1, none⟩) (by first | (rw [add_block]; exact hn107_1) | (show (Addr.add _ _).block ≠ _; rw [add_block]; exact hn107_1) | exact hn107_1) (.int .i64 ((rd_T72 ((rd_T36 l0 x3_1).f0) x5_3).f1))).trans hx107_4; replace hx107_5 := (cell_far (p := ⟨gb105, 1, none⟩) (by first | (rw [add_block]; exact hn107_1) | (show (Addr.add _ _).block ≠ _; rw [add_block]; exact hn107_1) | exact hn107_1) (.int .i64 ((rd_T72 ((rd_T36 l0 x3_1).f0) x5_3).f1))).trans hx107_5; replace hx107_6 := (cell_far (p := ⟨gb105, 1, none⟩) (by first | (rw [add_block]; exact hn107_1) | (show (Addr.add _ _).block ≠ _; rw [add_block]; exact hn107_1) | exact hn107_1) (.int .i64 ((rd_T72 ((rd_T36 l0 x3_1).f0) x5_3).f1))).trans hx107_6; replace hx107_0 := (cell_far (p := ⟨gb105, 2, none⟩) (by first | (rw [add_block]; exact hn107_2) | (show (Addr.add _ _).block ≠ _; rw [add_block]; exact hn107_2) | exact hn107_2) (.int .i64 ((rd_T72 ((rd_T36 l0 x3_1).f0) x5_3).f2))).trans hx107_0; replace hx107_1 := (cell_far (p := ⟨gb105, 2, none⟩) (by first | (rw [add_block]; exact hn107_2) | (show (Addr.add _ _).block ≠ _; rw [add_block]; exact hn107_2) | exact hn107_2) (.int .i64 ((rd_T72 ((rd_T36 l0 x3_1).f0) x5_3).f2))).trans hx107_1; replace hx107_2 := (cell_far (p := ⟨gb105, 2, none⟩) (by first | (rw [add_block]; exact hn107_2) | (show (Addr.add _ _).block ≠ _; rw [add_block]; exact hn107_2) | exact hn107_2) (.int .i64 ((rd_T72 ((rd_T36 l0 x3_1).f0) x5_3).f2))).trans hx107_2; replace hx107_3 := (cell_far (p := ⟨gb105, 2, none⟩) (by first | (rw [add_block]; exact hn107_2) | (show (Addr.add _ _).block ≠ _; rw [add_block]; exact hn107_2) | exact hn107_2) (.int .i64 ((rd_T72 ((rd_T36 l0 x3_1).f0) x5_3).f2))).trans hx107_3; replace hx107_4 := (cell_far (p := ⟨gb105, 2, none⟩) (by first | (rw [add_block]; exact hn107_2) | (show (Addr.add _ _).block ≠ _; rw [add_block]; exact hn107_2) | exact hn107_2) (.int .i64 ((rd_T72 ((rd_T36 l0 x3_1).f0) x5_3).f2))).trans hx107_4; replace hx107_5 := (cell_far (p := ⟨gb105, 2, none⟩) (by first | (rw [add_block]; exact hn107_2) | (show (Addr.add _ _).block ≠ _; rw [add_block]; exact hn107_2) | exact hn107_2) (.int .i64 ((rd_T72 ((rd_T36 l0 x3_1).f0) x5_3).f2))).trans hx107_5; replace hx107_6 := (cell_far (p := ⟨gb105, 2, none⟩) (by first | (rw [add_block]; exact hn107_2) | (show (Addr.add _ _).block ≠ _; rw [add_block]; exact hn107_2) | exact hn107_2) (.int .i64 ((rd_T72 ((rd_T36 l0 x3_1).f0) x5_3).f2))).trans hx107_6; replace hx107_0 := (cell_far (p := ⟨gb105, 3, none⟩) (by first | (rw [add_block]; exact hn107_3) | (show (Addr.add _ _).block ≠ _; rw [add_block]; exact hn107_3) | exact hn107_3) (.int .i64 ((rd_T72 ((rd_T36 l0 x3_1).f0) x5_3).f3))).trans hx107_0; replace hx107_1 := (cell_far (p := ⟨gb105, 3, none⟩) (by first | (rw [add_block]; exact hn107_3) | (show (Addr.add _ _).block ≠ _; rw [add_block]; exact hn107_3) | exact hn107_3) (.int .i64 ((rd_T72 ((rd_T36 l0 x3_1).f0) x5_3).f3))).trans hx107_1; replace hx107_2 := (cell_far (p := ⟨gb105, 3, none⟩) (by first | (rw [add_block]; exact hn107_3) | (show (Addr.add _ _).block ≠ _; rw [add_block]; exact hn107_3) | exact hn107_3) (.int .i64 ((rd_T72 ((rd_T36 l0 x3_1).f0) x5_3).f3))).trans hx107_2; replace hx107_3 := (cell_far (p := ⟨gb105, 3, none⟩) (by first | (rw [add_block]; exact hn107_3) | (show (Addr.add _ _).block ≠ _; rw [add_block]; exact hn107_3) | exact hn107_3) (.int .i64 ((rd_T72 ((rd_T36 l0 x3_1).f0) x5_3).f3))).trans hx107_3; replace hx107_4 := (cell_far (p := ⟨gb105, 3, none⟩) (by first | (rw [add_block]; exact hn107_3) | (show (Addr.add _ _).block ≠ _; rw [add_block]; exact hn107_3) | exact hn107_3) (.int .i64 ((rd_T72 ((rd_T36 l0 x3_1).f0) x5_3).f3))).trans hx107_4; replace hx107_5 := (cell_far (p := ⟨gb105, 3, none⟩) (by first | (rw [add_block]; exact hn107_3) | (show (Addr.add _ _).block ≠ _; rw [add_block]; exact hn107_3) | exact hn107_3) (.int .i64 ((rd_T72 ((rd_T36 l0 x3_1).f0) x5_3).f3))).trans hx107_5; replace hx107_6 := (cell_far (p := ⟨gb105, 3, none⟩) (by first | (rw [add_block]; exact hn107_3) | (show (Addr.add _ _).block ≠ _; rw [add_block]; exact hn107_3) | exact hn107_3) (.int .i64 ((rd_T72 ((rd_T36 l0 x3_1).f0) x5_3).f3))).trans hx107_6; replace hx107_0 := (cell_far (p := ⟨gb105, 4, none⟩) (by first | (rw [add_block]; exact hn107_4) | (show (Addr.add _ _).block ≠ _; rw [add_block]; exact hn107_4) | exact hn107_4) (.slice A104_4 ((rd_T72 ((rd_T36 l0 x3_1).f0) x5_3).f4).length c104_4)).trans hx107_0; replace hx107_1 := (cell_far (p := ⟨gb105, 4, none⟩) (by first | (rw [add_block]; exact hn107_4) | (show (Addr.add _ _).block ≠ _; rw [add_block]; exact hn107_4) | exact hn107_4) (.slice A104_4 ((rd_T72 ((rd_T36 l0 x3_1).f0) x5_3).f4).length c104_4)).trans hx107_1; replace hx107_2 := (cell_far (p := ⟨gb105, 4, none⟩) (by first | (rw [add_block]; exact hn107_4) | (show (Addr.add _ _).block ≠ _; rw [add_block]; exact hn107_4) | exact hn107_4) (.slice A104_4 ((rd_T72 ((rd_T36 l0 x3_1).f0) x5_3).f4).length c104_4)).trans hx107_2; replace hx107_3 := (cell_far (p := ⟨gb105, 4, none⟩) (by first | (rw [add_block]; exact hn107_4) | (show (Addr.add _ _).block ≠ _; rw [add_block]; exact hn107_4) | exact hn107_4) (.slice A104_4 ((rd_T72 ((rd_T36 l0 x3_1).f0) x5_3).f4).length c104_4)).trans hx107_3; replace hx107_4 := (cell_far (p := ⟨gb105, 4, none⟩) (by first | (rw [add_block]; exact hn107_4) | (show (Addr.add _ _).block ≠ _; rw [add_block]; exact hn107_4) | exact hn107_4) (.slice A104_4 ((rd_T72 ((rd_T36 l0 x3_1).f0) x5_3).f4).length c104_4)).trans hx107_4; replace hx107_5 := (cell_far (p := ⟨gb105, 4, none⟩) (by first | (rw [add_block]; exact hn107_4) | (show (Addr.add _ _).block ≠ _; rw [add_block]; exact hn107_4) | exact hn107_4) (.slice A104_4 ((rd_T72 ((rd_T36 l0 x3_1).f0) x5_3).f4).length c104_4)).trans hx107_5; replace hx107_6 := (cell_far (p := ⟨gb105, 4, none⟩) (by first | (rw [add_block]; exact hn107_4) | (show (Addr.add _ _).block ≠ _; rw [add_block]; exact hn107_4) | exact hn107_4) (.slice A104_4 ((rd_T72 ((rd_T36 l0 x3_1).f0) x5_3).f4).length c104_4)).trans hx107_6; replace hx107_0 := (cell_far (p := ⟨gb105, 5, none⟩) (by first | (rw [add_block]; exact hn107_5) | (show (Addr.add _ _).block ≠ _; rw [add_block]; exact hn107_5) | exact hn107_5) (.int .i64 ((rd_T72 ((rd_T36 l0 x3_1).f0) x5_3).f5))).trans hx107_0; replace hx107_1 := (cell_far (p := ⟨gb105, 5, none⟩) (by first | (rw [add_block]; exact hn107_5) | (show (Addr.add _ _).block ≠ _; rw [add_block]; exact hn107_5) | exact hn107_5) (.int .i64 ((rd_T72 ((rd_T36 l0 x3_1).f0) x5_3).f5))).trans hx107_1; replace hx107_2 := (cell_far (p := ⟨gb105, 5, none⟩) (by first | (rw [add_block]; exact hn107_5) | (show (Addr.add _ _).block ≠ _; rw [add_block]; exact hn107_5) | exact hn107_5) (.int .i64 ((rd_T72 ((rd_T36 l0 x3_1).f0) x5_3).f5))).trans hx107_2; replace hx107_3 := (cell_far (p := ⟨gb105, 5, none⟩) (by first | (rw [add_block]; exact hn107_5) | (show (Addr.add _ _).block ≠ _; rw [add_block]; exact hn107_5) | exact hn107_5) (.int .i64 ((rd_T72 ((rd_T36 l0 x3_1).f0) x5_3).f5))).trans hx107_3; replace hx107_4 := (cell_far (p := ⟨gb105, 5, none⟩) (by first | (rw [add_block]; exact hn107_5) | (show (Addr.add _ _).block ≠ _; rw [add_block]; exact hn107_5) | exact hn107_5) (.int .i64 ((rd_T72 ((rd_T36 l0 x3_1).f0) x5_3).f5))).trans hx107_4; replace hx107_5 := (cell_far (p := ⟨gb105, 5, none⟩) (by first | (rw [add_block]; exact hn107_5) | (show (Addr.add _ _).block ≠ _; rw [add_block]; exact hn107_5) | exact hn107_5) (.int .i64 ((rd_T72 ((rd_T36 l0 x3_1).f0) x5_3).f5))).trans hx107_5; replace hx107_6 := (cell_far (p := ⟨gb105, 5, none⟩) (by first | (rw [add_block]; exact hn107_5) | (show (Addr.add _ _).block ≠ _; rw [add_block]; exact hn107_5) | exact hn107_5) (.int .i64 ((rd_T72 ((rd_T36 l0 x3_1).f0) x5_3).f5))).trans hx107_6; replace hx107_0 := (cell_far (p := ⟨gb105, 6, none⟩) (by first | (rw [add_block]; exact hn107_6) | (show (Addr.add _ _).block ≠ _; rw [add_block]; exact hn107_6) | exact hn107_6) (.slice A104_6 ((rd_T72 ((rd_T36 l0 x3_1).f0) x5_3).f6).length c104_6)).trans hx107_0; replace hx107_1 := (cell_far (p := ⟨gb105, 6, none⟩) (by first | (rw [add_block]; exact hn107_6) | (show (Addr.add _ _).block ≠ _; rw [add_block]; exact hn107_6) | exact hn107_6) (.slice A104_6 ((rd_T72 ((rd_T36 l0 x3_1).f0) x5_3).f6).length c104_6)).trans hx107_1; replace hx107_2 := (cell_far (p := ⟨gb105, 6, none⟩) (by first | (rw [add_block]; exact hn107_6) | (show (Addr.add _ _).block ≠ _; rw [add_block]; exact hn107_6) | exact hn107_6) (.slice A104_6 ((rd_T72 ((rd_T36 l0 x3_1).f0) x5_3).f6).length c104_6)).trans hx107_2; replace hx107_3 := (cell_far (p := ⟨gb105, 6, none⟩) (by first | (rw [add_block]; exact hn107_6) | (show (Addr.add _ _).block ≠ _; rw [add_block]; exact hn107_6) | exact hn107_6) (.slice A104_6 ((rd_T72 ((rd_T36 l0 x3_1).f0) x5_3).f6).length c104_6)).trans hx107_3; replace hx107_4 := (cell_far (p := ⟨gb105, 6, none⟩) (by first | (rw [add_block]; exact hn107_6) | (show (Addr.add _ _).block ≠ _; rw [add_block]; exact hn107_6) | exact hn107_6) (.slice A104_6 ((rd_T72 ((rd_T36 l0 x3_1).f0) x5_3).f6).length c104_6)).trans hx107_4; replace hx107_5 := (cell_far (p := ⟨gb105, 6, none⟩) (by first | (rw [add_block]; exact hn107_6) | (show (Addr.add _ _).block ≠ _; rw [add_block]; exact hn107_6) | exact hn107_6) (.slice A104_6 ((rd_T72 ((rd_T36 l0 x3_1).f0) x5_3).f6).length c104_6)).trans hx107_5; replace hx107_6 := (cell_far (p := ⟨gb105, 6, none⟩) (by first | (rw [add_block]; exact hn107_6) | (show (Addr.add _ _).block ≠ _; rw [add_block]; exact hn107_6) | exact hn107_6) (.slice A104_6 ((rd_T72 ((rd_T36 l0 x3_1).f0) x5_3).f6).length c104_6)).trans hx107_6; clear hn107_0 hn107_1 hn107_2 hn107_3 hn107_4 hn107_5 hn107_6; replace p107 := eq_true p107; replace q107 := eq_true q107) | ((with_reducible refine gate_dst (N := 8) rfl ?_); refine box_event ?hg (N := 8) ?hd (cs := #[.string (⟨#[]⟩ : ByteArray), .int .i64 0, .int .i64 0, .int .i64 0, .slice none 0 0, .int .i64 0, .slice none 0 0]) (t := 72) ?hr ?_; (case hd => rfl); (case hg => rfl); (case hr => go_simp; try rfl); intro gb108 hg w20 hbox hb; refine mv6 (am (blk_below (g := gb105) (o := .cells #[.string ((rd_T72 ((rd_T36 l0 x3_1).f0) x5_3).f0), .int .i64 ((rd_T72 ((rd_T36 l0 x3_1).f0) x5_3).f1), .int .i64 ((rd_T72 ((rd_T36 l0 x3_1).f0) x5_3).f2), .int .i64 ((rd_T72 ((rd_T36 l0 x3_1).f0) x5_3).f3), .slice A104_4 ((rd_T72 ((rd_T36 l0 x3_1).f0) x5_3).f4).length c104_4, .int .i64 ((rd_T72 ((rd_T36 l0 x3_1).f0) x5_3).f5), .slice A104_6 ((rd_T72 ((rd_T36 l0 x3_1).f0) x5_3).f6).length c104_6] 72 (0, 0)) (by (with_reducible repeat (first | refine blk_drewN ?_ _ | refine blk_drew ?_ | refine blk_alloc ?_ _)); refine blk_put (cs := #[.string ((rd_T72 ((rd_T36 l0 x3_1).f0) x5_3).f0), .int .i64 ((rd_T72 ((rd_T36 l0 x3_1).f0) x5_3).f1), .int .i64 ((rd_T72 ((rd_T36 l0 x3_1).f0) x5_3).f2), .int .i64 ((rd_T72 ((rd_T36 l0 x3_1).f0) x5_3).f3), .slice A104_4 ((rd_T72 ((rd_T36 l0 x3_1).f0) x5_3).f4).length c104_4, .int .i64 ((rd_T72 ((rd_T36 l0 x3_1).f0) x5_3).f5), .slice none 0 0]) ?_ 6 _ rfl; (with_reducible repeat (first | refine blk_drewN ?_ _ | refine blk_drew ?_ | refine blk_alloc ?_ _)); refine blk_put (cs := #[.string ((rd_T72 ((rd_T36 l0 x3_1).f0) x5_3).f0), .int .i64 ((rd_T72 ((rd_T36 l0 x3_1).f0) x5_3).f1), .int .i64 ((rd_T72 ((rd_T36 l0 x3_1).f0) x5_3).f2), .int .i64 ((rd_T72 ((rd_T36 l0 x3_1).f0) x5_3).f3), .slice A104_4 ((rd_T72 ((rd_T36 l0 x3_1).f0) x5_3).f4).length c104_4, .int .i64 0, .slice none 0 0]) ?_ 5 _ rfl; (with_reducible repeat (first | refine blk_drewN ?_ _ | refine blk_drew ?_ | refine blk_alloc ?_ _)); refine blk_put (cs := #[.string ((rd_T72 ((rd_T36 l0 x3_1).f0) x5_3).f0), .int .i64 ((rd_T72 ((rd_T36 l0 x3_1).f0) x5_3).f1), .int .i64 ((rd_T72 ((rd_T36 l0 x3_1).f0) x5_3).f2), .int .i64 ((rd_T72 ((rd_T36 l0 x3_1).f0) x5_3).f3), .slice none 0 0, .int .i64 0, .slice none 0 0]) ?_ 4 _ rfl; (with_reducible repeat (first | refine blk_drewN ?_ _ | refine blk_drew ?_ | refine blk_alloc ?_ _)); refine blk_put (cs := #[.string ((rd_T72 ((rd_T36 l0 x3_1).f0) x5_3).f0), .int .i64 ((rd_T72 ((rd_T36 l0 x3_1).f0) x5_3).f1), .int .i64 ((rd_T72 ((rd_T36 l0 x3_1).f0) x5_3).f2), .int .i64 0, .slice none 0 0, .int .i64 0, .slice none 0 0]) ?_ 3 _ rfl; (with_reducible repeat (first | refine blk_drewN ?_ _ | refine blk_drew ?_ | refine blk_alloc ?_ _)); refine blk_put (cs := #[.string ((rd_T72 ((rd_T36 l0 x3_1).f0) x5_3).f0), .int .i64 ((rd_T72 ((rd_T36 l0 x3_1).f0) x5_3).f1), .int .i64 0, .int .i64 0, .slice none 0 0, .int .i64 0, .slice none 0 0]) ?_ 2 _ rfl; (with_reducible repeat (first | refine blk_drewN ?_ _ | refine blk_drew ?_ | refine blk_alloc ?_ _)); refine blk_put (cs := #[.string ((rd_T72 ((rd_T36 l0 x3_1).f0) x5_3).f0), .int .i64 0, .int .i64 0, .int .i64 0, .slice none 0 0, .int .i64 0, .slice none 0 0]) ?_ 1 _ rfl; (with_reducible repeat (first | refine blk_drewN ?_ _ | refine blk_drew ?_ | refine blk_alloc ?_ _)); refine blk_put (cs := #[.string (⟨#[]⟩ : ByteArray), .int .i64 0, .int .i64 0, .int .i64 0, .slice none 0 0, .int .i64 0, .slice none 0 0]) ?_ 0 _ rfl; (with_reducible repeat (first | refine blk_drewN ?_ _ | refine blk_drew ?_ | refine blk_alloc ?_ _)); exact BK105.out) hb)) (am (below_step (by exact bl_g HB.out) hb)) (am (hbox)) (lei (by rw [hg]; exact (below_size (by exact bl_g HB.out)) : w.heap.size ≤ gb108)) (am ((by rw [hg]; exact Nat.ne_of_lt (blk_lt (g := gb105) (o := .cells #[.string ((rd_T72 ((rd_T36 l0 x3_1).f0) x5_3).f0), .int .i64 ((rd_T72 ((rd_T36 l0 x3_1).f0) x5_3).f1), .int .i64 ((rd_T72 ((rd_T36 l0 x3_1).f0) x5_3).f2), .int .i64 ((rd_T72 ((rd_T36 l0 x3_1).f0) x5_3).f3), .slice A104_4 ((rd_T72 ((rd_T36 l0 x3_1).f0) x5_3).f4).length c104_4, .int .i64 ((rd_T72 ((rd_T36 l0 x3_1).f0) x5_3).f5), .slice A104_6 ((rd_T72 ((rd_T36 l0 x3_1).f0) x5_3).f6).length c104_6] 72 (0, 0)) (by (with_reducible repeat (first | refine blk_drewN ?_ _ | refine blk_drew ?_ | refine blk_alloc ?_ _)); refine blk_put (cs := #[.string ((rd_T72 ((rd_T36 l0 x3_1).f0) x5_3).f0), .int .i64 ((rd_T72 ((rd_T36 l0 x3_1).f0) x5_3).f1), .int .i64 ((rd_T72 ((rd_T36 l0 x3_1).f0) x5_3).f2), .int .i64 ((rd_T72 ((rd_T36 l0 x3_1).f0) x5_3).f3), .slice A104_4 ((rd_T72 ((rd_T36 l0 x3_1).f0) x5_3).f4).length c104_4, .int .i64 ((rd_T72 ((rd_T36 l0 x3_1).f0) x5_3).f5), .slice none 0 0]) ?_ 6 _ rfl; (with_reducible repeat (first | refine blk_drewN ?_ _ | refine blk_drew ?_ | refine blk_alloc ?_ _)); refine blk_put (cs := #[.string ((rd_T72 ((rd_T36 l0 x3_1).f0) x5_3).f0), .int .i64 ((rd_T72 ((rd_T36 l0 x3_1).f0) x5_3).f1), .int .i64 ((rd_T72 ((rd_T36 l0 x3_1).f0) x5_3).f2), .int .i64 ((rd_T72 ((rd_T36 l0 x3_1).f0) x5_3).f3), .slice A104_4 ((rd_T72 ((rd_T36 l0 x3_1).f0) x5_3).f4).length c104_4, .int .i64 0, .slice none 0 0]) ?_ 5 _ rfl; (with_reducible repeat (first | refine blk_drewN ?_ _ | refine blk_drew ?_ | refine blk_alloc ?_ _)); refine blk_put (cs := #[.string ((rd_T72 ((rd_T36 l0 x3_1).f0) x5_3).f0), .int .i64 ((rd_T72 ((rd_T36 l0 x3_1).f0) x5_3).f1), .int .i64 ((rd_T72 ((rd_T36 l0 x3_1).f0) x5_3).f2), .int .i64 ((rd_T72 ((rd_T36 l0 x3_1).f0) x5_3).f3), .slice none 0 0, .int .i64 0, .slice none 0 0]) ?_ 4 _ rfl; (with_reducible repeat (first | refine blk_drewN ?_ _ | refine blk_drew ?_ | refine blk_alloc ?_ _)); refine blk_put (cs := #[.string ((rd_T72 ((rd_T36 l0 x3_1).f0) x5_3).f0), .int .i64 ((rd_T72 ((rd_T36 l0 x3_1).f0) x5_3).f1), .int .i64 ((rd_T72 ((rd_T36 l0 x3_1).f0) x5_3).f2), .int .i64 0, .slice none 0 0, .int .i64 0, .slice none 0 0]) ?_ 3 _ rfl; (with_reducible repeat (first | refine blk_drewN ?_ _ | refine blk_drew ?_ | refine blk_alloc ?_ _)); refine blk_put (cs := #[.string ((rd_T72 ((rd_T36 l0 x3_1).f0) x5_3).f0), .int .i64 ((rd_T72 ((rd_T36 l0 x3_1).f0) x5_3).f1), .int .i64 0, .int .i64 0, .slice none 0 0, .int .i64 0, .slice none 0 0]) ?_ 2 _ rfl; (with_reducible repeat (first | refine blk_drewN ?_ _ | refine blk_drew ?_ | refine blk_alloc ?_ _)); refine blk_put (cs := #[.string ((rd_T72 ((rd_T36 l0 x3_1).f0) x5_3).f0), .int .i64 0, .int .i64 0, .int .i64 0, .slice none 0 0, .int .i64 0, .slice none 0 0]) ?_ 1 _ rfl; (with_reducible repeat (first | refine blk_drewN ?_ _ | refine blk_drew ?_ | refine blk_alloc ?_ _)); refine blk_put (cs := #[.string (⟨#[]⟩ : ByteArray), .int .i64 0, .int .i64 0, .int .i64 0, .slice none 0 0, .int .i64 0, .slice none 0 0]) ?_ 0 _ rfl; (with_reducible repeat (first | refine blk_drewN ?_ _ | refine blk_drew ?_ | refine blk_alloc ?_ _)); exact BK105.out)) : gb105 ≠ gb108))) (am ((by rw [hg]; exact Nat.ne_of_gt (blk_lt (g := gb105) (o := .cells #[.string ((rd_T72 ((rd_T36 l0 x3_1).f0) x5_3).f0), .int .i64 ((rd_T72 ((rd_T36 l0 x3_1).f0) x5_3).f1), .int .i64 ((rd_T72 ((rd_T36 l0 x3_1).f0) x5_3).f2), .int .i64 ((rd_T72 ((rd_T36 l0 x3_1).f0) x5_3).f3), .slice A104_4 ((rd_T72 ((rd_T36 l0 x3_1).f0) x5_3).f4).length c104_4, .int .i64 ((rd_T72 ((rd_T36 l0 x3_1).f0) x5_3).f5), .slice A104_6 ((rd_T72 ((rd_T36 l0 x3_1).f0) x5_3).f6).length c104_6] 72 (0, 0)) (by (with_reducible repeat (first | refine blk_drewN ?_ _ | refine blk_drew ?_ | refine blk_alloc ?_ _)); refine blk_put (cs := #[.string ((rd_T72 ((rd_T36 l0 x3_1).f0) x5_3).f0), .int .i64 ((rd_T72 ((rd_T36 l0 x3_1).f0) x5_3).f1), .int .i64 ((rd_T72 ((rd_T36 l0 x3_1).f0) x5_3).f2), .int .i64 ((rd_T72 ((rd_T36 l0 x3_1).f0) x5_3).f3), .slice A104_4 ((rd_T72 ((rd_T36 l0 x3_1).f0) x5_3).f4).length c104_4, .int .i64 ((rd_T72 ((rd_T36 l0 x3_1).f0) x5_3).f5), .slice none 0 0]) ?_ 6 _ rfl; (with_reducible repeat (first | refine blk_drewN ?_ _ | refine blk_drew ?_ | refine blk_alloc ?_ _)); refine blk_put (cs := #[.string ((rd_T72 ((rd_T36 l0 x3_1).f0) x5_3).f0), .int .i64 ((rd_T72 ((rd_T36 l0 x3_1).f0) x5_3).f1), .int .i64 ((rd_T72 ((rd_T36 l0 x3_1).f0) x5_3).f2), .int .i64 ((rd_T72 ((rd_T36 l0 x3_1).f0) x5_3).f3), .slice A104_4 ((rd_T72 ((rd_T36 l0 x3_1).f0) x5_3).f4).length c104_4, .int .i64 0, .slice none 0 0]) ?_ 5 _ rfl; (with_reducible repeat (first | refine blk_drewN ?_ _ | refine blk_drew ?_ | refine blk_alloc ?_ _)); refine blk_put (cs := #[.string ((rd_T72 ((rd_T36 l0 x3_1).f0) x5_3).f0), .int .i64 ((rd_T72 ((rd_T36 l0 x3_1).f0) x5_3).f1), .int .i64 ((rd_T72 ((rd_T36 l0 x3_1).f0) x5_3).f2), .int .i64 ((rd_T72 ((rd_T36 l0 x3_1).f0) x5_3).f3), .slice none 0 0, .int .i64 0, .slice none 0 0]) ?_ 4 _ rfl; (with_reducible repeat (first | refine blk_drewN ?_ _ | refine blk_drew ?_ | refine blk_alloc ?_ _)); refine blk_put (cs := #[.string ((rd_T72 ((rd_T36 l0 x3_1).f0) x5_3).f0), .int .i64 ((rd_T72 ((rd_T36 l0 x3_1).f0) x5_3).f1), .int .i64 ((rd_T72 ((rd_T36 l0 x3_1).f0) x5_3).f2), .int .i64 0, .slice none 0 0, .int .i64 0, .slice none 0 0]) ?_ 3 _ rfl; (with_reducible repeat (first | refine blk_drewN ?_ _ | refine blk_drew ?_ | refine blk_alloc ?_ _)); refine blk_put (cs := #[.string ((rd_T72 ((rd_T36 l0 x3_1).f0) x5_3).f0), .int .i64 ((rd_T72 ((rd_T36 l0 x3_1).f0) x5_3).f1), .int .i64 0, .int .i64 0, .slice none 0 0, .int .i64 0, .slice none 0 0]) ?_ 2 _ rfl; (with_reducible repeat (first | refine blk_drewN ?_ _ | refine blk_drew ?_ | refine blk_alloc ?_ _)); refine blk_put (cs := #[.string ((rd_T72 ((rd_T36 l0 x3_1).f0) x5_3).f0), .int .i64 0, .int .i64 0, .int .i64 0, .slice none 0 0, .int .i64 0, .slice none 0 0]) ?_ 1 _ rfl; (with_reducible repeat (first | refine blk_drewN ?_ _ | refine blk_drew ?_ | refine blk_alloc ?_ _)); refine blk_put (cs := #[.string (⟨#[]⟩ : ByteArray), .int .i64 0, .int .i64 0, .int .i64 0, .slice none 0 0, .int .i64 0, .slice none 0 0]) ?_ 0 _ rfl; (with_reducible repeat (first | refine blk_drewN ?_ _ | refine blk_drew ?_ | refine blk_alloc ?_ _)); exact BK105.out)) : gb108 ≠ gb105))) ?_; clear BK105 HB; intro BK105 HB BK108 GW108 NB105_108 NB108_105; have GE108 := GW108; clear hb hbox hg; have hnb21 := NB108_105.out; have hnc21 := NB105_108.out; obtain ⟨hcz22_0, hcz22_1, hcz22_2, hcz22_3, hcz22_4, hcz22_5, hcz22_6, hfz22_0, hfz22_1, hfz22_2, hfz22_3, hfz22_4, hfz22_5, hfz22_6⟩ := cells7 BK108.out; obtain ⟨hcz23_0, hcz23_1, hcz23_2, hcz23_3, hcz23_4, hcz23_5, hcz23_6, hfz23_0, hfz23_1, hfz23_2, hfz23_3, hfz23_4, hfz23_5, hfz23_6⟩ := cells7 BK105.out))
          go_roundg k4
          case measure => have := HK1.out; have := HK2.out; have := HK3.out; have := HK4.out; omega
          case rel => exact ⟨(wrap64 (x6_4 + 1)), (by first | rfl | (simp; done) | (simp [*]; done)), H', ⟨by have := HK1.out; have := HK2.out; have := HK3.out; have := HK4.out; omega⟩, ⟨by exact bl_g HB.out⟩⟩
         rw [if_neg c17] at H
         have c17b0 : (((rd_T72 ((rd_T36 l0 x3_1).f0) x5_3).f2) == ((rd_T72 ((rd_T36 l0 x4_2).f0) x6_4).f2)) = false := beq_eq_false_iff_ne.mpr c17
         have c17b1 : (((rd_T72 ((rd_T36 l0 x3_1).f0) x5_3).f2) != ((rd_T72 ((rd_T36 l0 x4_2).f0) x6_4).f2)) = true := bne_iff_ne.mpr c17
         obtain rfl := Option.some.inj H
         have p102 : 0 ≤ (x4_2 : Int) := of_decide_eq_true (by first | (with_reducible assumption) | assumption)
         have q102 : x4_2 < (l0.length : Int) := of_decide_eq_true (by first | (with_reducible assumption) | assumption)
         obtain ⟨ad102, A102_0, c102_0, A102_1, c102_1, e102, hx102_0, hx102_1, hl102_0, hi102_0, hl102_1, hi102_1⟩ := at_T36 HR0.out x4_2 p102 q102
         obtain rfl : ad101 = ad102 := (by injection e102)
         replace hx102_0 := oc HB.out hx102_0
         replace hx102_1 := oc HB.out hx102_1
         have HR102_0 := am hi102_0
         have HC102_0 := am hl102_0
         clear hi102_0 hl102_0
         have HR102_1 := am hi102_1
         have HC102_1 := am hl102_1
         clear hi102_1 hl102_1
         replace p102 := eq_true p102
         replace q102 := eq_true q102
         have p103 : 0 ≤ (x3_1 : Int) := of_decide_eq_true (by first | (with_reducible assumption) | assumption)
         have q103 : x3_1 < (l0.length : Int) := of_decide_eq_true (by first | (with_reducible assumption) | assumption)
         obtain ⟨ad103, A103_0, c103_0, A103_1, c103_1, e103, hx103_0, hx103_1, hl103_0, hi103_0, hl103_1, hi103_1⟩ := at_T36 HR0.out x3_1 p103 q103
         obtain rfl : ad101 = ad103 := (by injection e103)
         replace hx103_0 := oc HB.out hx103_0
         replace hx103_1 := oc HB.out hx103_1
         have HR103_0 := am hi103_0
         have HC103_0 := am hl103_0
         clear hi103_0 hl103_0
         have HR103_1 := am hi103_1
         have HC103_1 := am hl103_1
         clear hi103_1 hl103_1
         replace p103 := eq_true p103
         replace q103 := eq_true q103
         have p104 : 0 ≤ (x5_3 : Int) := of_decide_eq_true (by first | (with_reducible assumption) | assumption)
         have q104 : x5_3 < (((rd_T36 l0 x3_1).f0).length : Int) := of_decide_eq_true (by first | (with_reducible assumption) | assumption)
         obtain ⟨ad104, A104_4, c104_4, A104_6, c104_6, e104, hx104_0, hx104_1, hx104_2, hx104_3, hx104_4, hx104_5, hx104_6, hl104_4, hi104_4, hl104_6, hi104_6⟩ := at_T72 HR103_0.out x5_3 p104 q104
         cases e104
         replace hx104_0 := oc HB.out hx104_0
         replace hx104_1 := oc HB.out hx104_1
         replace hx104_2 := oc HB.out hx104_2
         replace hx104_3 := oc HB.out hx104_3
         replace hx104_4 := oc HB.out hx104_4
         replace hx104_5 := oc HB.out hx104_5
         replace hx104_6 := oc HB.out hx104_6
         have HR104_4 := am hi104_4
         have HC104_4 := am hl104_4
         clear hi104_4 hl104_4
         have HR104_6 := am hi104_6
         have HC104_6 := am hl104_6
         clear hi104_6 hl104_6
         replace p104 := eq_true p104
         replace q104 := eq_true q104
         go_wp2_with (first | ((with_reducible refine gate_dst (N := 7) rfl ?_); refine box_event ?hg (N := 7) ?hd (cs := #[.string (⟨#[]⟩ : ByteArray), .int .i64 0, .int .i64 0, .int .i64 0, .slice none 0 0, .int .i64 0, .slice none 0 0]) (t := 72) ?hr ?_; (case hd => rfl); (case hg => rfl); (case hr => go_simp; try rfl); intro gb105 hg w24 hbox hb; refine mv3 (am (below_step (by exact bl_o HB.out) hb)) (am (hbox)) (lei (by rw [hg]; exact (below_size (by exact bl_o HB.out)) : w.heap.size ≤ gb105)) ?_; clear HB; intro HB BK105 GW105; have GE105 := GW105; clear hb hbox hg; obtain ⟨hcz25_0, hcz25_1, hcz25_2, hcz25_3, hcz25_4, hcz25_5, hcz25_6, hfz25_0, hfz25_1, hfz25_2, hfz25_3, hfz25_4, hfz25_5, hfz25_6⟩ := cells7 BK105.out; have p106 : 0 ≤ (x4_2 : Int) := of_decide_eq_true (by first | (with_reducible assumption) | assumption); have q106 : x4_2 < (l0.length : Int) := of_decide_eq_true (by first | (with_reducible assumption) | assumption); obtain ⟨ad106, A106_0, c106_0, A106_1, c106_1, e106, hx106_0, hx106_1, hl106_0, hi106_0, hl106_1, hi106_1⟩ := at_T36 HR0.out x4_2 p106 q106; obtain rfl : ad101 = ad106 := (by injection e106); have hn106_0 : ad101.block ≠ gb105 := Nat.ne_of_lt (Nat.lt_of_lt_of_le (by have := World.block_lt_of_cell? _ _ hx106_0; first | rwa [add_block] at this | exact this) GW105.out); have hn106_1 : ad101.block ≠ gb105 := Nat.ne_of_lt (Nat.lt_of_lt_of_le (by have := World.block_lt_of_cell? _ _ hx106_0; first | rwa [add_block] at this | exact this) GW105.out); have hn106_2 : ad101.block ≠ gb105 := Nat.ne_of_lt (Nat.lt_of_lt_of_le (by have := World.block_lt_of_cell? _ _ hx106_0; first | rwa [add_block] at this | exact this) GW105.out); have hn106_3 : ad101.block ≠ gb105 := Nat.ne_of_lt (Nat.lt_of_lt_of_le (by have := World.block_lt_of_cell? _ _ hx106_0; first | rwa [add_block] at this | exact this) GW105.out); have hn106_4 : ad101.block ≠ gb105 := Nat.ne_of_lt (Nat.lt_of_lt_of_le (by have := World.block_lt_of_cell? _ _ hx106_0; first | rwa [add_block] at this | exact this) GW105.out); have hn106_5 : ad101.block ≠ gb105 := Nat.ne_of_lt (Nat.lt_of_lt_of_le (by have := World.block_lt_of_cell? _ _ hx106_0; first | rwa [add_block] at this | exact this) GW105.out); have hn106_6 : ad101.block ≠ gb105 := Nat.ne_of_lt (Nat.lt_of_lt_of_le (by have := World.block_lt_of_cell? _ _ hx106_0; first | rwa [add_block] at this | exact this) GW105.out); replace hx106_0 := oc HB.out hx106_0; replace hx106_1 := oc HB.out hx106_1; have HR106_0 := am hi106_0; have HC106_0 := am hl106_0; clear hi106_0 hl106_0; have HR106_1 := am hi106_1; have HC106_1 := am hl106_1; clear hi106_1 hl106_1; replace hx106_0 := (cell_far (p := ⟨gb105, 0, none⟩) (by first | (rw [add_block]; exact hn106_0) | (show (Addr.add _ _).block ≠ _; rw [add_block]; exact hn106_0) | exact hn106_0) (.string ((rd_T72 ((rd_T36 l0 x3_1).f0) x5_3).f0))).trans hx106_0; replace hx106_1 := (cell_far (p := ⟨gb105, 0, none⟩) (by first | (rw [add_block]; exact hn106_0) | (show (Addr.add _ _).block ≠ _; rw [add_block]; exact hn106_0) | exact hn106_0) (.string ((rd_T72 ((rd_T36 l0 x3_1).f0) x5_3).f0))).trans hx106_1; replace hx106_0 := (cell_far (p := ⟨gb105, 1, none⟩) (by first | (rw [add_block]; exact hn106_1) | (show (Addr.add _ _).block ≠ _; rw [add_block]; exact hn106_1) | exact hn106_1) (.int .i64 ((rd_T72 ((rd_T36 l0 x3_1).f0) x5_3).f1))).trans hx106_0; replace hx106_1 := (cell_far (p := ⟨gb105, 1, none⟩) (by first | (rw [add_block]; exact hn106_1) | (show (Addr.add _ _).block ≠ _; rw [add_block]; exact hn106_1) | exact hn106_1) (.int .i64 ((rd_T72 ((rd_T36 l0 x3_1).f0) x5_3).f1))).trans hx106_1; replace hx106_0 := (cell_far (p := ⟨gb105, 2, none⟩) (by first | (rw [add_block]; exact hn106_2) | (show (Addr.add _ _).block ≠ _; rw [add_block]; exact hn106_2) | exact hn106_2) (.int .i64 ((rd_T72 ((rd_T36 l0 x3_1).f0) x5_3).f2))).trans hx106_0; replace hx106_1 := (cell_far (p := ⟨gb105, 2, none⟩) (by first | (rw [add_block]; exact hn106_2) | (show (Addr.add _ _).block ≠ _; rw [add_block]; exact hn106_2) | exact hn106_2) (.int .i64 ((rd_T72 ((rd_T36 l0 x3_1).f0) x5_3).f2))).trans hx106_1; replace hx106_0 := (cell_far (p := ⟨gb105, 3, none⟩) (by first | (rw [add_block]; exact hn106_3) | (show (Addr.add _ _).block ≠ _; rw [add_block]; exact hn106_3) | exact hn106_3) (.int .i64 ((rd_T72 ((rd_T36 l0 x3_1).f0) x5_3).f3))).trans hx106_0; replace hx106_1 := (cell_far (p := ⟨gb105, 3, none⟩) (by first | (rw [add_block]; exact hn106_3) | (show (Addr.add _ _).block ≠ _; rw [add_block]; exact hn106_3) | exact hn106_3) (.int .i64 ((rd_T72 ((rd_T36 l0 x3_1).f0) x5_3).f3))).trans hx106_1; replace hx106_0 := (cell_far (p := ⟨gb105, 4, none⟩) (by first | (rw [add_block]; exact hn106_4) | (show (Addr.add _ _).block ≠ _; rw [add_block]; exact hn106_4) | exact hn106_4) (.slice A104_4 ((rd_T72 ((rd_T36 l0 x3_1).f0) x5_3).f4).length c104_4)).trans hx106_0; replace hx106_1 := (cell_far (p := ⟨gb105, 4, none⟩) (by first | (rw [add_block]; exact hn106_4) | (show (Addr.add _ _).block ≠ _; rw [add_block]; exact hn106_4) | exact hn106_4) (.slice A104_4 ((rd_T72 ((rd_T36 l0 x3_1).f0) x5_3).f4).length c104_4)).trans hx106_1; replace hx106_0 := (cell_far (p := ⟨gb105, 5, none⟩) (by first | (rw [add_block]; exact hn106_5) | (show (Addr.add _ _).block ≠ _; rw [add_block]; exact hn106_5) | exact hn106_5) (.int .i64 ((rd_T72 ((rd_T36 l0 x3_1).f0) x5_3).f5))).trans hx106_0; replace hx106_1 := (cell_far (p := ⟨gb105, 5, none⟩) (by first | (rw [add_block]; exact hn106_5) | (show (Addr.add _ _).block ≠ _; rw [add_block]; exact hn106_5) | exact hn106_5) (.int .i64 ((rd_T72 ((rd_T36 l0 x3_1).f0) x5_3).f5))).trans hx106_1; replace hx106_0 := (cell_far (p := ⟨gb105, 6, none⟩) (by first | (rw [add_block]; exact hn106_6) | (show (Addr.add _ _).block ≠ _; rw [add_block]; exact hn106_6) | exact hn106_6) (.slice A104_6 ((rd_T72 ((rd_T36 l0 x3_1).f0) x5_3).f6).length c104_6)).trans hx106_0; replace hx106_1 := (cell_far (p := ⟨gb105, 6, none⟩) (by first | (rw [add_block]; exact hn106_6) | (show (Addr.add _ _).block ≠ _; rw [add_block]; exact hn106_6) | exact hn106_6) (.slice A104_6 ((rd_T72 ((rd_T36 l0 x3_1).f0) x5_3).f6).length c104_6)).trans hx106_1; clear hn106_0 hn106_1 hn106_2 hn106_3 hn106_4 hn106_5 hn106_6; replace p106 := eq_true p106; replace q106 := eq_true q106; have p107 : 0 ≤ (x6_4 : Int) := of_decide_eq_true (by first | (with_reducible assumption) | assumption); have q107 : x6_4 < (((rd_T36 l0 x4_2).f0).length : Int) := of_decide_eq_true (by first | (with_reducible assumption) | assumption); obtain ⟨ad107, A107_4, c107_4, A107_6, c107_6, e107, hx107_0, hx107_1, hx107_2, hx107_3, hx107_4, hx107_5, hx107_6, hl107_4, hi107_4, hl107_6, hi107_6⟩ := at_T72 HR106_0.out x6_4 p107 q107; cases e107; have hn107_0 : ad107.block ≠ gb105 := Nat.ne_of_lt (Nat.lt_of_lt_of_le (by have := World.block_lt_of_cell? _ _ hx107_0; first | rwa [add_block] at this | exact this) GW105.out); have hn107_1 : ad107.block ≠ gb105 := Nat.ne_of_lt (Nat.lt_of_lt_of_le (by have := World.block_lt_of_cell? _ _ hx107_0; first | rwa [add_block] at this | exact this) GW105.out); have hn107_2 : ad107.block ≠ gb105 := Nat.ne_of_lt (Nat.lt_of_lt_of_le (by have := World.block_lt_of_cell? _ _ hx107_0; first | rwa [add_block] at this | exact this) GW105.out); have hn107_3 : ad107.block ≠ gb105 := Nat.ne_of_lt (Nat.lt_of_lt_of_le (by have := World.block_lt_of_cell? _ _ hx107_0; first | rwa [add_block] at this | exact this) GW105.out); have hn107_4 : ad107.block ≠ gb105 := Nat.ne_of_lt (Nat.lt_of_lt_of_le (by have := World.block_lt_of_cell? _ _ hx107_0; first | rwa [add_block] at this | exact this) GW105.out); have hn107_5 : ad107.block ≠ gb105 := Nat.ne_of_lt (Nat.lt_of_lt_of_le (by have := World.block_lt_of_cell? _ _ hx107_0; first | rwa [add_block] at this | exact this) GW105.out); have hn107_6 : ad107.block ≠ gb105 := Nat.ne_of_lt (Nat.lt_of_lt_of_le (by have := World.block_lt_of_cell? _ _ hx107_0; first | rwa [add_block] at this | exact this) GW105.out); replace hx107_0 := oc HB.out hx107_0; replace hx107_1 := oc HB.out hx107_1; replace hx107_2 := oc HB.out hx107_2; replace hx107_3 := oc HB.out hx107_3; replace hx107_4 := oc HB.out hx107_4; replace hx107_5 := oc HB.out hx107_5; replace hx107_6 := oc HB.out hx107_6; have HR107_4 := am hi107_4; have HC107_4 := am hl107_4; clear hi107_4 hl107_4; have HR107_6 := am hi107_6; have HC107_6 := am hl107_6; clear hi107_6 hl107_6; replace hx107_0 := (cell_far (p := ⟨gb105, 0, none⟩) (by first | (rw [add_block]; exact hn107_0) | (show (Addr.add _ _).block ≠ _; rw [add_block]; exact hn107_0) | exact hn107_0) (.string ((rd_T72 ((rd_T36 l0 x3_1).f0) x5_3).f0))).trans hx107_0; replace hx107_1 := (cell_far (p := ⟨gb105, 0, none⟩) (by first | (rw [add_block]; exact hn107_0) | (show (Addr.add _ _).block ≠ _; rw [add_block]; exact hn107_0) | exact hn107_0) (.string ((rd_T72 ((rd_T36 l0 x3_1).f0) x5_3).f0))).trans hx107_1; replace hx107_2 := (cell_far (p := ⟨gb105, 0, none⟩) (by first | (rw [add_block]; exact hn107_0) | (show (Addr.add _ _).block ≠ _; rw [add_block]; exact hn107_0) | exact hn107_0) (.string ((rd_T72 ((rd_T36 l0 x3_1).f0) x5_3).f0))).trans hx107_2; replace hx107_3 := (cell_far (p := ⟨gb105, 0, none⟩) (by first | (rw [add_block]; exact hn107_0) | (show (Addr.add _ _).block ≠ _; rw [add_block]; exact hn107_0) | exact hn107_0) (.string ((rd_T72 ((rd_T36 l0 x3_1).f0) x5_3).f0))).trans hx107_3; replace hx107_4 := (cell_far (p := ⟨gb105, 0, none⟩) (by first | (rw [add_block]; exact hn107_0) | (show (Addr.add _ _).block ≠ _; rw [add_block]; exact hn107_0) | exact hn107_0) (.string ((rd_T72 ((rd_T36 l0 x3_1).f0) x5_3).f0))).trans hx107_4; replace hx107_5 := (cell_far (p := ⟨gb105, 0, none⟩) (by first | (rw [add_block]; exact hn107_0) | (show (Addr.add _ _).block ≠ _; rw [add_block]; exact hn107_0) | exact hn107_0) (.string ((rd_T72 ((rd_T36 l0 x3_1).f0) x5_3).f0))).trans hx107_5; replace hx107_6 := (cell_far (p := ⟨gb105, 0, none⟩) (by first | (rw [add_block]; exact hn107_0) | (show (Addr.add _ _).block ≠ _; rw [add_block]; exact hn107_0) | exact hn107_0) (.string ((rd_T72 ((rd_T36 l0 x3_1).f0) x5_3).f0))).trans hx107_6; replace hx107_0 := (cell_far (p := ⟨gb105, 1, none⟩) (by first | (rw [add_block]; exact hn107_1) | (show (Addr.add _ _).block ≠ _; rw [add_block]; exact hn107_1) | exact hn107_1) (.int .i64 ((rd_T72 ((rd_T36 l0 x3_1).f0) x5_3).f1))).trans hx107_0; replace hx107_1 := (cell_far (p := ⟨gb105, 1, none⟩) (by first | (rw [add_block]; exact hn107_1) | (show (Addr.add _ _).block ≠ _; rw [add_block]; exact hn107_1) | exact hn107_1) (.int .i64 ((rd_T72 ((rd_T36 l0 x3_1).f0) x5_3).f1))).trans hx107_1; replace hx107_2 := (cell_far (p := ⟨gb105, 1, none⟩) (by first | (rw [add_block]; exact hn107_1) | (show (Addr.add _ _).block ≠ _; rw [add_block]; exact hn107_1) | exact hn107_1) (.int .i64 ((rd_T72 ((rd_T36 l0 x3_1).f0) x5_3).f1))).trans hx107_2; replace hx107_3 := (cell_far (p := ⟨gb105, 1, none⟩) (by first | (rw [add_block]; exact hn107_1) | (show (Addr.add _ _).block ≠ _; rw [add_block]; exact hn107_1) | exact hn107_1) (.int .i64 ((rd_T72 ((rd_T36 l0 x3_1).f0) x5_3).f1))).trans hx107_3; replace hx107_4 := (cell_far (p := ⟨gb105, 1, none⟩) (by first | (rw [add_block]; exact hn107_1) | (show (Addr.add _ _).block ≠ _; rw [add_block]; exact hn107_1) | exact hn107_1) (.int .i64 ((rd_T72 ((rd_T36 l0 x3_1).f0) x5_3).f1))).trans hx107_4; replace hx107_5 := (cell_far (p := ⟨gb105, 1, none⟩) (by first | (rw [add_block]; exact hn107_1) | (show (Addr.add _ _).block ≠ _; rw [add_block]; exact hn107_1) | exact hn107_1) (.int .i64 ((rd_T72 ((rd_T36 l0 x3_1).f0) x5_3).f1))).trans hx107_5; replace hx107_6 := (cell_far (p := ⟨gb105, 1, none⟩) (by first | (rw [add_block]; exact hn107_1) | (show (Addr.add _ _).block ≠ _; rw [add_block]; exact hn107_1) | exact hn107_1) (.int .i64 ((rd_T72 ((rd_T36 l0 x3_1).f0) x5_3).f1))).trans hx107_6; replace hx107_0 := (cell_far (p := ⟨gb105, 2, none⟩) (by first | (rw [add_block]; exact hn107_2) | (show (Addr.add _ _).block ≠ _; rw [add_block]; exact hn107_2) | exact hn107_2) (.int .i64 ((rd_T72 ((rd_T36 l0 x3_1).f0) x5_3).f2))).trans hx107_0; replace hx107_1 := (cell_far (p := ⟨gb105, 2, none⟩) (by first | (rw [add_block]; exact hn107_2) | (show (Addr.add _ _).block ≠ _; rw [add_block]; exact hn107_2) | exact hn107_2) (.int .i64 ((rd_T72 ((rd_T36 l0 x3_1).f0) x5_3).f2))).trans hx107_1; replace hx107_2 := (cell_far (p := ⟨gb105, 2, none⟩) (by first | (rw [add_block]; exact hn107_2) | (show (Addr.add _ _).block ≠ _; rw [add_block]; exact hn107_2) | exact hn107_2) (.int .i64 ((rd_T72 ((rd_T36 l0 x3_1).f0) x5_3).f2))).trans hx107_2; replace hx107_3 := (cell_far (p := ⟨gb105, 2, none⟩) (by first | (rw [add_block]; exact hn107_2) | (show (Addr.add _ _).block ≠ _; rw [add_block]; exact hn107_2) | exact hn107_2) (.int .i64 ((rd_T72 ((rd_T36 l0 x3_1).f0) x5_3).f2))).trans hx107_3; replace hx107_4 := (cell_far (p := ⟨gb105, 2, none⟩) (by first | (rw [add_block]; exact hn107_2) | (show (Addr.add _ _).block ≠ _; rw [add_block]; exact hn107_2) | exact hn107_2) (.int .i64 ((rd_T72 ((rd_T36 l0 x3_1).f0) x5_3).f2))).trans hx107_4; replace hx107_5 := (cell_far (p := ⟨gb105, 2, none⟩) (by first | (rw [add_block]; exact hn107_2) | (show (Addr.add _ _).block ≠ _; rw [add_block]; exact hn107_2) | exact hn107_2) (.int .i64 ((rd_T72 ((rd_T36 l0 x3_1).f0) x5_3).f2))).trans hx107_5; replace hx107_6 := (cell_far (p := ⟨gb105, 2, none⟩) (by first | (rw [add_block]; exact hn107_2) | (show (Addr.add _ _).block ≠ _; rw [add_block]; exact hn107_2) | exact hn107_2) (.int .i64 ((rd_T72 ((rd_T36 l0 x3_1).f0) x5_3).f2))).trans hx107_6; replace hx107_0 := (cell_far (p := ⟨gb105, 3, none⟩) (by first | (rw [add_block]; exact hn107_3) | (show (Addr.add _ _).block ≠ _; rw [add_block]; exact hn107_3) | exact hn107_3) (.int .i64 ((rd_T72 ((rd_T36 l0 x3_1).f0) x5_3).f3))).trans hx107_0; replace hx107_1 := (cell_far (p := ⟨gb105, 3, none⟩) (by first | (rw [add_block]; exact hn107_3) | (show (Addr.add _ _).block ≠ _; rw [add_block]; exact hn107_3) | exact hn107_3) (.int .i64 ((rd_T72 ((rd_T36 l0 x3_1).f0) x5_3).f3))).trans hx107_1; replace hx107_2 := (cell_far (p := ⟨gb105, 3, none⟩) (by first | (rw [add_block]; exact hn107_3) | (show (Addr.add _ _).block ≠ _; rw [add_block]; exact hn107_3) | exact hn107_3) (.int .i64 ((rd_T72 ((rd_T36 l0 x3_1).f0) x5_3).f3))).trans hx107_2; replace hx107_3 := (cell_far (p := ⟨gb105, 3, none⟩) (by first | (rw [add_block]; exact hn107_3) | (show (Addr.add _ _).block ≠ _; rw [add_block]; exact hn107_3) | exact hn107_3) (.int .i64 ((rd_T72 ((rd_T36 l0 x3_1).f0) x5_3).f3))).trans hx107_3; replace hx107_4 := (cell_far (p := ⟨gb105, 3, none⟩) (by first | (rw [add_block]; exact hn107_3) | (show (Addr.add _ _).block ≠ _; rw [add_block]; exact hn107_3) | exact hn107_3) (.int .i64 ((rd_T72 ((rd_T36 l0 x3_1).f0) x5_3).f3))).trans hx107_4; replace hx107_5 := (cell_far (p := ⟨gb105, 3, none⟩) (by first | (rw [add_block]; exact hn107_3) | (show (Addr.add _ _).block ≠ _; rw [add_block]; exact hn107_3) | exact hn107_3) (.int .i64 ((rd_T72 ((rd_T36 l0 x3_1).f0) x5_3).f3))).trans hx107_5; replace hx107_6 := (cell_far (p := ⟨gb105, 3, none⟩) (by first | (rw [add_block]; exact hn107_3) | (show (Addr.add _ _).block ≠ _; rw [add_block]; exact hn107_3) | exact hn107_3) (.int .i64 ((rd_T72 ((rd_T36 l0 x3_1).f0) x5_3).f3))).trans hx107_6; replace hx107_0 := (cell_far (p := ⟨gb105, 4, none⟩) (by first | (rw [add_block]; exact hn107_4) | (show (Addr.add _ _).block ≠ _; rw [add_block]; exact hn107_4) | exact hn107_4) (.slice A104_4 ((rd_T72 ((rd_T36 l0 x3_1).f0) x5_3).f4).length c104_4)).trans hx107_0; replace hx107_1 := (cell_far (p := ⟨gb105, 4, none⟩) (by first | (rw [add_block]; exact hn107_4) | (show (Addr.add _ _).block ≠ _; rw [add_block]; exact hn107_4) | exact hn107_4) (.slice A104_4 ((rd_T72 ((rd_T36 l0 x3_1).f0) x5_3).f4).length c104_4)).trans hx107_1; replace hx107_2 := (cell_far (p := ⟨gb105, 4, none⟩) (by first | (rw [add_block]; exact hn107_4) | (show (Addr.add _ _).block ≠ _; rw [add_block]; exact hn107_4) | exact hn107_4) (.slice A104_4 ((rd_T72 ((rd_T36 l0 x3_1).f0) x5_3).f4).length c104_4)).trans hx107_2; replace hx107_3 := (cell_far (p := ⟨gb105, 4, none⟩) (by first | (rw [add_block]; exact hn107_4) | (show (Addr.add _ _).block ≠ _; rw [add_block]; exact hn107_4) | exact hn107_4) (.slice A104_4 ((rd_T72 ((rd_T36 l0 x3_1).f0) x5_3).f4).length c104_4)).trans hx107_3; replace hx107_4 := (cell_far (p := ⟨gb105, 4, none⟩) (by first | (rw [add_block]; exact hn107_4) | (show (Addr.add _ _).block ≠ _; rw [add_block]; exact hn107_4) | exact hn107_4) (.slice A104_4 ((rd_T72 ((rd_T36 l0 x3_1).f0) x5_3).f4).length c104_4)).trans hx107_4; replace hx107_5 := (cell_far (p := ⟨gb105, 4, none⟩) (by first | (rw [add_block]; exact hn107_4) | (show (Addr.add _ _).block ≠ _; rw [add_block]; exact hn107_4) | exact hn107_4) (.slice A104_4 ((rd_T72 ((rd_T36 l0 x3_1).f0) x5_3).f4).length c104_4)).trans hx107_5; replace hx107_6 := (cell_far (p := ⟨gb105, 4, none⟩) (by first | (rw [add_block]; exact hn107_4) | (show (Addr.add _ _).block ≠ _; rw [add_block]; exact hn107_4) | exact hn107_4) (.slice A104_4 ((rd_T72 ((rd_T36 l0 x3_1).f0) x5_3).f4).length c104_4)).trans hx107_6; replace hx107_0 := (cell_far (p := ⟨gb105, 5, none⟩) (by first | (rw [add_block]; exact hn107_5) | (show (Addr.add _ _).block ≠ _; rw [add_block]; exact hn107_5) | exact hn107_5) (.int .i64 ((rd_T72 ((rd_T36 l0 x3_1).f0) x5_3).f5))).trans hx107_0; replace hx107_1 := (cell_far (p := ⟨gb105, 5, none⟩) (by first | (rw [add_block]; exact hn107_5) | (show (Addr.add _ _).block ≠ _; rw [add_block]; exact hn107_5) | exact hn107_5) (.int .i64 ((rd_T72 ((rd_T36 l0 x3_1).f0) x5_3).f5))).trans hx107_1; replace hx107_2 := (cell_far (p := ⟨gb105, 5, none⟩) (by first | (rw [add_block]; exact hn107_5) | (show (Addr.add _ _).block ≠ _; rw [add_block]; exact hn107_5) | exact hn107_5) (.int .i64 ((rd_T72 ((rd_T36 l0 x3_1).f0) x5_3).f5))).trans hx107_2; replace hx107_3 := (cell_far (p := ⟨gb105, 5, none⟩) (by first | (rw [add_block]; exact hn107_5) | (show (Addr.add _ _).block ≠ _; rw [add_block]; exact hn107_5) | exact hn107_5) (.int .i64 ((rd_T72 ((rd_T36 l0 x3_1).f0) x5_3).f5))).trans hx107_3; replace hx107_4 := (cell_far (p := ⟨gb105, 5, none⟩) (by first | (rw [add_block]; exact hn107_5) | (show (Addr.add _ _).block ≠ _; rw [add_block]; exact hn107_5) | exact hn107_5) (.int .i64 ((rd_T72 ((rd_T36 l0 x3_1).f0) x5_3).f5))).trans hx107_4; replace hx107_5 := (cell_far (p := ⟨gb105, 5, none⟩) (by first | (rw [add_block]; exact hn107_5) | (show (Addr.add _ _).block ≠ _; rw [add_block]; exact hn107_5) | exact hn107_5) (.int .i64 ((rd_T72 ((rd_T36 l0 x3_1).f0) x5_3).f5))).trans hx107_5; replace hx107_6 := (cell_far (p := ⟨gb105, 5, none⟩) (by first | (rw [add_block]; exact hn107_5) | (show (Addr.add _ _).block ≠ _; rw [add_block]; exact hn107_5) | exact hn107_5) (.int .i64 ((rd_T72 ((rd_T36 l0 x3_1).f0) x5_3).f5))).trans hx107_6; replace hx107_0 := (cell_far (p := ⟨gb105, 6, none⟩) (by first | (rw [add_block]; exact hn107_6) | (show (Addr.add _ _).block ≠ _; rw [add_block]; exact hn107_6) | exact hn107_6) (.slice A104_6 ((rd_T72 ((rd_T36 l0 x3_1).f0) x5_3).f6).length c104_6)).trans hx107_0; replace hx107_1 := (cell_far (p := ⟨gb105, 6, none⟩) (by first | (rw [add_block]; exact hn107_6) | (show (Addr.add _ _).block ≠ _; rw [add_block]; exact hn107_6) | exact hn107_6) (.slice A104_6 ((rd_T72 ((rd_T36 l0 x3_1).f0) x5_3).f6).length c104_6)).trans hx107_1; replace hx107_2 := (cell_far (p := ⟨gb105, 6, none⟩) (by first | (rw [add_block]; exact hn107_6) | (show (Addr.add _ _).block ≠ _; rw [add_block]; exact hn107_6) | exact hn107_6) (.slice A104_6 ((rd_T72 ((rd_T36 l0 x3_1).f0) x5_3).f6).length c104_6)).trans hx107_2; replace hx107_3 := (cell_far (p := ⟨gb105, 6, none⟩) (by first | (rw [add_block]; exact hn107_6) | (show (Addr.add _ _).block ≠ _; rw [add_block]; exact hn107_6) | exact hn107_6) (.slice A104_6 ((rd_T72 ((rd_T36 l0 x3_1).f0) x5_3).f6).length c104_6)).trans hx107_3; replace hx107_4 := (cell_far (p := ⟨gb105, 6, none⟩) (by first | (rw [add_block]; exact hn107_6) | (show (Addr.add _ _).block ≠ _; rw [add_block]; exact hn107_6) | exact hn107_6) (.slice A104_6 ((rd_T72 ((rd_T36 l0 x3_1).f0) x5_3).f6).length c104_6)).trans hx107_4; replace hx107_5 := (cell_far (p := ⟨gb105, 6, none⟩) (by first | (rw [add_block]; exact hn107_6) | (show (Addr.add _ _).block ≠ _; rw [add_block]; exact hn107_6) | exact hn107_6) (.slice A104_6 ((rd_T72 ((rd_T36 l0 x3_1).f0) x5_3).f6).length c104_6)).trans hx107_5; replace hx107_6 := (cell_far (p := ⟨gb105, 6, none⟩) (by first | (rw [add_block]; exact hn107_6) | (show (Addr.add _ _).block ≠ _; rw [add_block]; exact hn107_6) | exact hn107_6) (.slice A104_6 ((rd_T72 ((rd_T36 l0 x3_1).f0) x5_3).f6).length c104_6)).trans hx107_6; clear hn107_0 hn107_1 hn107_2 hn107_3 hn107_4 hn107_5 hn107_6; replace p107 := eq_true p107; replace q107 := eq_true q107) | ((with_reducible refine gate_dst (N := 8) rfl ?_); refine box_event ?hg (N := 8) ?hd (cs := #[.string (⟨#[]⟩ : ByteArray), .int .i64 0, .int .i64 0, .int .i64 0, .slice none 0 0, .int .i64 0, .slice none 0 0]) (t := 72) ?hr ?_; (case hd => rfl); (case hg => rfl); (case hr => go_simp; try rfl); intro gb108 hg w26 hbox hb; refine mv6 (am (blk_below (g := gb105) (o := .cells #[.string ((rd_T72 ((rd_T36 l0 x3_1).f0) x5_3).f0), .int .i64 ((rd_T72 ((rd_T36 l0 x3_1).f0) x5_3).f1), .int .i64 ((rd_T72 ((rd_T36 l0 x3_1).f0) x5_3).f2), .int .i64 ((rd_T72 ((rd_T36 l0 x3_1).f0) x5_3).f3), .slice A104_4 ((rd_T72 ((rd_T36 l0 x3_1).f0) x5_3).f4).length c104_4, .int .i64 ((rd_T72 ((rd_T36 l0 x3_1).f0) x5_3).f5), .slice A104_6 ((rd_T72 ((rd_T36 l0 x3_1).f0) x5_3).f6).length c104_6] 72 (0, 0)) (by (with_reducible repeat (first | refine blk_drewN ?_ _ | refine blk_drew ?_ | refine blk_alloc ?_ _)); refine blk_put (cs := #[.string ((rd_T72 ((rd_T36 l0 x3_1).f0) x5_3).f0), .int .i64 ((rd_T72 ((rd_T36 l0 x3_1).f0) x5_3).f1), .int .i64 ((rd_T72 ((rd_T36 l0 x3_1).f0) x5_3).f2), .int .i64 ((rd_T72 ((rd_T36 l0 x3_1).f0) x5_3).f3), .slice A104_4 ((rd_T72 ((rd_T36 l0 x3_1).f0) x5_3).f4).length c104_4, .int .i64 ((rd_T72 ((rd_T36 l0 x3_1).f0) x5_3).f5), .slice none 0 0]) ?_ 6 _ rfl; (with_reducible repeat (first | refine blk_drewN ?_ _ | refine blk_drew ?_ | refine blk_alloc ?_ _)); refine blk_put (cs := #[.string ((rd_T72 ((rd_T36 l0 x3_1).f0) x5_3).f0), .int .i64 ((rd_T72 ((rd_T36 l0 x3_1).f0) x5_3).f1), .int .i64 ((rd_T72 ((rd_T36 l0 x3_1).f0) x5_3).f2), .int .i64 ((rd_T72 ((rd_T36 l0 x3_1).f0) x5_3).f3), .slice A104_4 ((rd_T72 ((rd_T36 l0 x3_1).f0) x5_3).f4).length c104_4, .int .i64 0, .slice none 0 0]) ?_ 5 _ rfl; (with_reducible repeat (first | refine blk_drewN ?_ _ | refine blk_drew ?_ | refine blk_alloc ?_ _)); refine blk_put (cs := #[.string ((rd_T72 ((rd_T36 l0 x3_1).f0) x5_3).f0), .int .i64 ((rd_T72 ((rd_T36 l0 x3_1).f0) x5_3).f1), .int .i64 ((rd_T72 ((rd_T36 l0 x3_1).f0) x5_3).f2), .int .i64 ((rd_T72 ((rd_T36 l0 x3_1).f0) x5_3).f3), .slice none 0 0, .int .i64 0, .slice none 0 0]) ?_ 4 _ rfl; (with_reducible repeat (first | refine blk_drewN ?_ _ | refine blk_drew ?_ | refine blk_alloc ?_ _)); refine blk_put (cs := #[.string ((rd_T72 ((rd_T36 l0 x3_1).f0) x5_3).f0), .int .i64 ((rd_T72 ((rd_T36 l0 x3_1).f0) x5_3).f1), .int .i64 ((rd_T72 ((rd_T36 l0 x3_1).f0) x5_3).f2), .int .i64 0, .slice none 0 0, .int .i64 0, .slice none 0 0]) ?_ 3 _ rfl; (with_reducible repeat (first | refine blk_drewN ?_ _ | refine blk_drew ?_ | refine blk_alloc ?_ _)); refine blk_put (cs := #[.string ((rd_T72 ((rd_T36 l0 x3_1).f0) x5_3).f0), .int .i64 ((rd_T72 ((rd_T36 l0 x3_1).f0) x5_3).f1), .int .i64 0, .int .i64 0, .slice none 0 0, .int .i64 0, .slice none 0 0]) ?_ 2 _ rfl; (with_reducible repeat (first | refine blk_drewN ?_ _ | refine blk_drew ?_ | refine blk_alloc ?_ _)); refine blk_put (cs := #[.string ((rd_T72 ((rd_T36 l0 x3_1).f0) x5_3).f0), .int .i64 0, .int .i64 0, .int .i64 0, .slice none 0 0, .int .i64 0, .slice none 0 0]) ?_ 1 _ rfl; (with_reducible repeat (first | refine blk_drewN ?_ _ | refine blk_drew ?_ | refine blk_alloc ?_ _)); refine blk_put (cs := #[.string (⟨#[]⟩ : ByteArray), .int .i64 0, .int .i64 0, .int .i64 0, .slice none 0 0, .int .i64 0, .slice none 0 0]) ?_ 0 _ rfl; (with_reducible repeat (first | refine blk_drewN ?_ _ | refine blk_drew ?_ | refine blk_alloc ?_ _)); exact BK105.out) hb)) (am (below_step (by exact bl_g HB.out) hb)) (am (hbox)) (lei (by rw [hg]; exact (below_size (by exact bl_g HB.out)) : w.heap.size ≤ gb108)) (am ((by rw [hg]; exact Nat.ne_of_lt (blk_lt (g := gb105) (o := .cells #[.string ((rd_T72 ((rd_T36 l0 x3_1).f0) x5_3).f0), .int .i64 ((rd_T72 ((rd_T36 l0 x3_1).f0) x5_3).f1), .int .i64 ((rd_T72 ((rd_T36 l0 x3_1).f0) x5_3).f2), .int .i64 ((rd_T72 ((rd_T36 l0 x3_1).f0) x5_3).f3), .slice A104_4 ((rd_T72 ((rd_T36 l0 x3_1).f0) x5_3).f4).length c104_4, .int .i64 ((rd_T72 ((rd_T36 l0 x3_1).f0) x5_3).f5), .slice A104_6 ((rd_T72 ((rd_T36 l0 x3_1).f0) x5_3).f6).length c104_6] 72 (0, 0)) (by (with_reducible repeat (first | refine blk_drewN ?_ _ | refine blk_drew ?_ | refine blk_alloc ?_ _)); refine blk_put (cs := #[.string ((rd_T72 ((rd_T36 l0 x3_1).f0) x5_3).f0), .int .i64 ((rd_T72 ((rd_T36 l0 x3_1).f0) x5_3).f1), .int .i64 ((rd_T72 ((rd_T36 l0 x3_1).f0) x5_3).f2), .int .i64 ((rd_T72 ((rd_T36 l0 x3_1).f0) x5_3).f3), .slice A104_4 ((rd_T72 ((rd_T36 l0 x3_1).f0) x5_3).f4).length c104_4, .int .i64 ((rd_T72 ((rd_T36 l0 x3_1).f0) x5_3).f5), .slice none 0 0]) ?_ 6 _ rfl; (with_reducible repeat (first | refine blk_drewN ?_ _ | refine blk_drew ?_ | refine blk_alloc ?_ _)); refine blk_put (cs := #[.string ((rd_T72 ((rd_T36 l0 x3_1).f0) x5_3).f0), .int .i64 ((rd_T72 ((rd_T36 l0 x3_1).f0) x5_3).f1), .int .i64 ((rd_T72 ((rd_T36 l0 x3_1).f0) x5_3).f2), .int .i64 ((rd_T72 ((rd_T36 l0 x3_1).f0) x5_3).f3), .slice A104_4 ((rd_T72 ((rd_T36 l0 x3_1).f0) x5_3).f4).length c104_4, .int .i64 0, .slice none 0 0]) ?_ 5 _ rfl; (with_reducible repeat (first | refine blk_drewN ?_ _ | refine blk_drew ?_ | refine blk_alloc ?_ _)); refine blk_put (cs := #[.string ((rd_T72 ((rd_T36 l0 x3_1).f0) x5_3).f0), .int .i64 ((rd_T72 ((rd_T36 l0 x3_1).f0) x5_3).f1), .int .i64 ((rd_T72 ((rd_T36 l0 x3_1).f0) x5_3).f2), .int .i64 ((rd_T72 ((rd_T36 l0 x3_1).f0) x5_3).f3), .slice none 0 0, .int .i64 0, .slice none 0 0]) ?_ 4 _ rfl; (with_reducible repeat (first | refine blk_drewN ?_ _ | refine blk_drew ?_ | refine blk_alloc ?_ _)); refine blk_put (cs := #[.string ((rd_T72 ((rd_T36 l0 x3_1).f0) x5_3).f0), .int .i64 ((rd_T72 ((rd_T36 l0 x3_1).f0) x5_3).f1), .int .i64 ((rd_T72 ((rd_T36 l0 x3_1).f0) x5_3).f2), .int .i64 0, .slice none 0 0, .int .i64 0, .slice none 0 0]) ?_ 3 _ rfl; (with_reducible repeat (first | refine blk_drewN ?_ _ | refine blk_drew ?_ | refine blk_alloc ?_ _)); refine blk_put (cs := #[.string ((rd_T72 ((rd_T36 l0 x3_1).f0) x5_3).f0), .int .i64 ((rd_T72 ((rd_T36 l0 x3_1).f0) x5_3).f1), .int .i64 0, .int .i64 0, .slice none 0 0, .int .i64 0, .slice none 0 0]) ?_ 2 _ rfl; (with_reducible repeat (first | refine blk_drewN ?_ _ | refine blk_drew ?_ | refine blk_alloc ?_ _)); refine blk_put (cs := #[.string ((rd_T72 ((rd_T36 l0 x3_1).f0) x5_3).f0), .int .i64 0, .int .i64 0, .int .i64 0, .slice none 0 0, .int .i64 0, .slice none 0 0]) ?_ 1 _ rfl; (with_reducible repeat (first | refine blk_drewN ?_ _ | refine blk_drew ?_ | refine blk_alloc ?_ _)); refine blk_put (cs := #[.string (⟨#[]⟩ : ByteArray), .int .i64 0, .int .i64 0, .int .i64 0, .slice none 0 0, .int .i64 0, .slice none 0 0]) ?_ 0 _ rfl; (with_reducible repeat (first | refine blk_drewN ?_ _ | refine blk_drew ?_ | refine blk_alloc ?_ _)); exact BK105.out)) : gb105 ≠ gb108))) (am ((by rw [hg]; exact Nat.ne_of_gt (blk_lt (g := gb105) (o := .cells #[.string ((rd_T72 ((rd_T36 l0 x3_1).f0) x5_3).f0), .int .i64 ((rd_T72 ((rd_T36 l0 x3_1).f0) x5_3).f1), .int .i64 ((rd_T72 ((rd_T36 l0 x3_1).f0) x5_3).f2), .int .i64 ((rd_T72 ((rd_T36 l0 x3_1).f0) x5_3).f3), .slice A104_4 ((rd_T72 ((rd_T36 l0 x3_1).f0) x5_3).f4).length c104_4, .int .i64 ((rd_T72 ((rd_T36 l0 x3_1).f0) x5_3).f5), .slice A104_6 ((rd_T72 ((rd_T36 l0 x3_1).f0) x5_3).f6).length c104_6] 72 (0, 0)) (by (with_reducible repeat (first | refine blk_drewN ?_ _ | refine blk_drew ?_ | refine blk_alloc ?_ _)); refine blk_put (cs := #[.string ((rd_T72 ((rd_T36 l0 x3_1).f0) x5_3).f0), .int .i64 ((rd_T72 ((rd_T36 l0 x3_1).f0) x5_3).f1), .int .i64 ((rd_T72 ((rd_T36 l0 x3_1).f0) x5_3).f2), .int .i64 ((rd_T72 ((rd_T36 l0 x3_1).f0) x5_3).f3), .slice A104_4 ((rd_T72 ((rd_T36 l0 x3_1).f0) x5_3).f4).length c104_4, .int .i64 ((rd_T72 ((rd_T36 l0 x3_1).f0) x5_3).f5), .slice none 0 0]) ?_ 6 _ rfl; (with_reducible repeat (first | refine blk_drewN ?_ _ | refine blk_drew ?_ | refine blk_alloc ?_ _)); refine blk_put (cs := #[.string ((rd_T72 ((rd_T36 l0 x3_1).f0) x5_3).f0), .int .i64 ((rd_T72 ((rd_T36 l0 x3_1).f0) x5_3).f1), .int .i64 ((rd_T72 ((rd_T36 l0 x3_1).f0) x5_3).f2), .int .i64 ((rd_T72 ((rd_T36 l0 x3_1).f0) x5_3).f3), .slice A104_4 ((rd_T72 ((rd_T36 l0 x3_1).f0) x5_3).f4).length c104_4, .int .i64 0, .slice none 0 0]) ?_ 5 _ rfl; (with_reducible repeat (first | refine blk_drewN ?_ _ | refine blk_drew ?_ | refine blk_alloc ?_ _)); refine blk_put (cs := #[.string ((rd_T72 ((rd_T36 l0 x3_1).f0) x5_3).f0), .int .i64 ((rd_T72 ((rd_T36 l0 x3_1).f0) x5_3).f1), .int .i64 ((rd_T72 ((rd_T36 l0 x3_1).f0) x5_3).f2), .int .i64 ((rd_T72 ((rd_T36 l0 x3_1).f0) x5_3).f3), .slice none 0 0, .int .i64 0, .slice none 0 0]) ?_ 4 _ rfl; (with_reducible repeat (first | refine blk_drewN ?_ _ | refine blk_drew ?_ | refine blk_alloc ?_ _)); refine blk_put (cs := #[.string ((rd_T72 ((rd_T36 l0 x3_1).f0) x5_3).f0), .int .i64 ((rd_T72 ((rd_T36 l0 x3_1).f0) x5_3).f1), .int .i64 ((rd_T72 ((rd_T36 l0 x3_1).f0) x5_3).f2), .int .i64 0, .slice none 0 0, .int .i64 0, .slice none 0 0]) ?_ 3 _ rfl; (with_reducible repeat (first | refine blk_drewN ?_ _ | refine blk_drew ?_ | refine blk_alloc ?_ _)); refine blk_put (cs := #[.string ((rd_T72 ((rd_T36 l0 x3_1).f0) x5_3).f0), .int .i64 ((rd_T72 ((rd_T36 l0 x3_1).f0) x5_3).f1), .int .i64 0, .int .i64 0, .slice none 0 0, .int .i64 0, .slice none 0 0]) ?_ 2 _ rfl; (with_reducible repeat (first | refine blk_drewN ?_ _ | refine blk_drew ?_ | refine blk_alloc ?_ _)); refine blk_put (cs := #[.string ((rd_T72 ((rd_T36 l0 x3_1).f0) x5_3).f0), .int .i64 0, .int .i64 0, .int .i64 0, .slice none 0 0, .int .i64 0, .slice none 0 0]) ?_ 1 _ rfl; (with_reducible repeat (first | refine blk_drewN ?_ _ | refine blk_drew ?_ | refine blk_alloc ?_ _)); refine blk_put (cs := #[.string (⟨#[]⟩ : ByteArray), .int .i64 0, .int .i64 0, .int .i64 0, .slice none 0 0, .int .i64 0, .slice none 0 0]) ?_ 0 _ rfl; (with_reducible repeat (first | refine blk_drewN ?_ _ | refine blk_drew ?_ | refine blk_alloc ?_ _)); exact BK105.out)) : gb108 ≠ gb105))) ?_; clear BK105 HB; intro BK105 HB BK108 GW108 NB105_108 NB108_105; have GE108 := GW108; clear hb hbox hg; have hnb27 := NB108_105.out; have hnc27 := NB105_108.out; obtain ⟨hcz28_0, hcz28_1, hcz28_2, hcz28_3, hcz28_4, hcz28_5, hcz28_6, hfz28_0, hfz28_1, hfz28_2, hfz28_3, hfz28_4, hfz28_5, hfz28_6⟩ := cells7 BK108.out; obtain ⟨hcz29_0, hcz29_1, hcz29_2, hcz29_3, hcz29_4, hcz29_5, hcz29_6, hfz29_0, hfz29_1, hfz29_2, hfz29_3, hfz29_4, hfz29_5, hfz29_6⟩ := cells7 BK105.out))
         go_ret
         exact ⟨rfl, by exact bl_g HB.out⟩
end Go.Proofs.Ytibkcnlcmempgaa.G
end
section
namespace Go.Proofs.Ytibkcnlcmempgaa.G
open Go.RowKit Go.Proofs.YtibkcnlcmempgaaW.PrintWords Go.Proofs.YtibkcnlcmempgaaW.PrintLast Go.Proofs.YtibkcnlcmempgaaW.PrintMore
attribute [local go_sem] max2_int min2_int max_two min_two max_three min_three max_four min_four   -- for this text's walks alone
set_option linter.unusedVariables false
set_option linter.unusedSimpArgs false
mutual
def gangwaylaw18_strong.l0 : Nat → List (S36) → ByteArray → Int → Int → Option (Int)
  | 0, _, _, _, _ => none
  | k + 1, x0, x1, x5, x6 => if x6 < (x0.length : Int) then (gangwaylaw18_strong.l1 k x0 x1 x5 x6 0) else (some x5)
def gangwaylaw18_strong.l1 : Nat → List (S36) → ByteArray → Int → Int → Int → Option (Int)
  | 0, _, _, _, _, _ => none
  | k + 1, x0, x1, x5, x6, x7 => if 0 ≤ x6 then (if x6 < (x0.length : Int) then (if x7 < (((rd_T36 x0 x6).f1).length : Int) then (if 0 ≤ x7 then (if ((rd_T38 ((rd_T36 x0 x6).f1) x7).f0).toList = x1.toList then (if ((rd_T38 ((rd_T36 x0 x6).f1) x7).f4) = 1 then (if ((rd_T38 ((rd_T36 x0 x6).f1) x7).f1).toList = ([] : List UInt8) then (gangwaylaw18_strong.l1 k x0 x1 x5 x6 (wrap64 (x7 + 1))) else (gangwaylaw18_strong.l1 k x0 x1 (wrap64 (x5 + 1)) x6 (wrap64 (x7 + 1)))) else (gangwaylaw18_strong.l1 k x0 x1 x5 x6 (wrap64 (x7 + 1)))) else (gangwaylaw18_strong.l1 k x0 x1 x5 x6 (wrap64 (x7 + 1)))) else (none)) else (gangwaylaw18_strong.l0 k x0 x1 x5 (wrap64 (x6 + 1)))) else (none)) else (none)
end
def gangwaylaw18_strong.f (k : Nat) (l0 : List (S36)) (a1 : ByteArray) : Option (Int) := gangwaylaw18_strong.l0 k l0 a1 0 0
set_option maxHeartbeats 8000000 in
set_option maxRecDepth 100000 in
theorem gangwaylaw18_strong.calls (k : Nat) (A0 : Option Addr) (c0 : Nat) (l0 : List (S36)) (a1 : ByteArray) (r : Int) (w : World) (hr0 : Kd.C k36 w A0 l0.length l0) (hc0 : l0.length ≤ c0) (h : gangwaylaw18_strong.f k l0 a1 = some r) :
    Calls Try.prog 12 #[.slice A0 l0.length c0, .string a1] w fun e w' => e = .returned (.int .i64 r) ∧ Below w.heap.size w w' := by
 have hu38 := Try.underlying38
 have HR0 := am hr0
 have HC0 := am hc0
 clear hr0 hc0
 have HB := am (Below.refl w.heap.size w)
 have H : (gangwaylaw18_strong.l0 k l0 a1 0 0) = some r := h
 clear h
 have H' := am H
 clear H
 go_enter Try.func12, Try.ntmps12
 go_wp2
 go_loopg [5, 6] k (fun kq v5 v6 w' => ∃ (x5_1 : Int) (x6_1 : Int), v5 = .int .i64 x5_1 ∧ v6 = .int .i64 x6_1 ∧ Aside0 (gangwaylaw18_strong.l0 kq l0 a1 x5_1 x6_1 = some r) ∧ Aside0 (kq ≤ k) ∧ Aside0 (Below w.heap.size w w'))
 case atStart => exact ⟨(0), (0), (by first | rfl | (simp; done) | (simp [*]; done)), (by first | rfl | (simp; done) | (simp [*]; done)), H', ⟨Nat.le_refl _⟩, ⟨by exact bl_g HB.out⟩⟩
 case round =>
  clear H'
  try clear c1
  try clear p2
  obtain ⟨x5_1, x6_1, rfl, rfl, HA, HK1, HB⟩ := hrel
  cases gk with
  | zero => exact absurd HA.out (by simp [gangwaylaw18_strong.l0])
  | succ k1 =>
   have H := HA.out
   clear HA
   simp only [gangwaylaw18_strong.l0] at H
   by_cases c3 : x6_1 < (l0.length : Int)
   rotate_left
   ·
    rw [if_neg c3] at H
    have c3b0 : decide (x6_1 < (l0.length : Int)) = false := decide_eq_false c3
    clear c3
    obtain rfl := Option.some.inj H
    go_wp2
    go_ret
    exact ⟨rfl, by exact bl_g HB.out⟩
   rw [if_pos c3] at H
   have c3b0 : decide (x6_1 < (l0.length : Int)) = true := decide_eq_true c3
   clear c3
   have H' := am H
   clear H
   go_wp2
   go_loopg [5, 7] k1 (fun kq v5 v7 w' => ∃ (x5_2 : Int) (x7_2 : Int), v5 = .int .i64 x5_2 ∧ v7 = .int .i64 x7_2 ∧ Aside0 (gangwaylaw18_strong.l1 kq l0 a1 x5_2 x6_1 x7_2 = some r) ∧ Aside0 (kq ≤ k1) ∧ Aside0 (Below w.heap.size w w'))
   case atStart => exact ⟨(x5_1), (0), (by first | rfl | (simp; done) | (simp [*]; done)), (by first | rfl | (simp; done) | (simp [*]; done)), H', ⟨Nat.le_refl _⟩, ⟨by exact bl_g HB.out⟩⟩
   case round =>
    clear H'
    try clear c1
    try clear p2
    try clear c3
    try clear c3b0
    try clear p2
    obtain ⟨x5_2, x7_2, rfl, rfl, HA, HK2, HB⟩ := hrel
    cases gk with
    | zero => exact absurd HA.out (by simp [gangwaylaw18_strong.l1])
    | succ k2 =>
     have H := HA.out
     clear HA
     simp only [gangwaylaw18_strong.l1] at H
     by_cases c4 : 0 ≤ x6_1
     rotate_left
     ·
      rw [if_neg c4] at H
      exact absurd H (by simp)
     rw [if_pos c4] at H
     have c4b0 : decide (0 ≤ x6_1) = true := decide_eq_true c4
     clear c4
     by_cases c5 : x6_1 < (l0.length : Int)
     rotate_left
     ·
      rw [if_neg c5] at H
      exact absurd H (by simp)
     rw [if_pos c5] at H
     have c5b0 : decide (x6_1 < (l0.length : Int)) = true := decide_eq_true c5
     clear c5
     by_cases c6 : x7_2 < (((rd_T36 l0 x6_1).f1).length : Int)
     rotate_left
     ·
      rw [if_neg c6] at H
      have c6b0 : decide (x7_2 < (((rd_T36 l0 x6_1).f1).length : Int)) = false := decide_eq_false c6
      clear c6
      have H' := am H
      clear H
      have p101 : 0 ≤ (x6_1 : Int) := of_decide_eq_true (by first | (with_reducible assumption) | assumption)
      have q101 : x6_1 < (l0.length : Int) := of_decide_eq_true (by first | (with_reducible assumption) | assumption)
      obtain ⟨ad101, A101_0, c101_0, A101_1, c101_1, e101, hx101_0, hx101_1, hl101_0, hi101_0, hl101_1, hi101_1⟩ := at_T36 HR0.out x6_1 p101 q101
      cases e101
      replace hx101_0 := oc HB.out hx101_0
      replace hx101_1 := oc HB.out hx101_1
      have HR101_0 := am hi101_0
      have HC101_0 := am hl101_0
      clear hi101_0 hl101_0
      have HR101_1 := am hi101_1
      have HC101_1 := am hl101_1
      clear hi101_1 hl101_1
      replace p101 := eq_true p101
      replace q101 := eq_true q101
      go_wp2
      go_roundg k2
      case measure => have := HK1.out; have := HK2.out; omega
      case rel => exact ⟨(x5_2), (wrap64 (x6_1 + 1)), (by first | rfl | (simp; done) | (simp [*]; done)), (by first | rfl | (simp; done) | (simp [*]; done)), H', ⟨by have := HK1.out; have := HK2.out; omega⟩, ⟨by exact bl_g HB.out⟩⟩
     rw [if_pos c6] at H
     have c6b0 : decide (x7_2 < (((rd_T36 l0 x6_1).f1).length : Int)) = true := decide_eq_true c6
     clear c6
     by_cases c7 : 0 ≤ x7_2
     rotate_left
     ·
      rw [if_neg c7] at H
      exact absurd H (by simp)
     rw [if_pos c7] at H
     have c7b0 : decide (0 ≤ x7_2) = true := decide_eq_true c7
     clear c7
     by_cases c8 : ((rd_T38 ((rd_T36 l0 x6_1).f1) x7_2).f0).toList = a1.toList
     rotate_left
     ·
      rw [if_neg c8] at H
      have c8b0 : (((rd_T38 ((rd_T36 l0 x6_1).f1) x7_2).f0).toList == a1.toList) = false := beq_eq_false_iff_ne.mpr c8
      have c8b1 : (((rd_T38 ((rd_T36 l0 x6_1).f1) x7_2).f0).toList != a1.toList) = true := bne_iff_ne.mpr c8
      have H' := am H
      clear H
      have p101 : 0 ≤ (x6_1 : Int) := of_decide_eq_true (by first | (with_reducible assumption) | assumption)
      have q101 : x6_1 < (l0.length : Int) := of_decide_eq_true (by first | (with_reducible assumption) | assumption)
      obtain ⟨ad101, A101_0, c101_0, A101_1, c101_1, e101, hx101_0, hx101_1, hl101_0, hi101_0, hl101_1, hi101_1⟩ := at_T36 HR0.out x6_1 p101 q101
      cases e101
      replace hx101_0 := oc HB.out hx101_0
      replace hx101_1 := oc HB.out hx101_1
      have HR101_0 := am hi101_0
      have HC101_0 := am hl101_0
      clear hi101_0 hl101_0
      have HR101_1 := am hi101_1
      have HC101_1 := am hl101_1
      clear hi101_1 hl101_1
      replace p101 := eq_true p101
      replace q101 := eq_true q101
      have p102 : 0 ≤ (x6_1 : Int) := of_decide_eq_true (by first | (with_reducible assumption) | assumption)
      have q102 : x6_1 < (l0.length : Int) := of_decide_eq_true (by first | (with_reducible assumption) | assumption)
      obtain ⟨ad102, A102_0, c102_0, A102_1, c102_1, e102, hx102_0, hx102_1, hl102_0, hi102_0, hl102_1, hi102_1⟩ := at_T36 HR0.out x6_1 p102 q102
      obtain rfl : ad101 = ad102 := (by injection e102)
      replace hx102_0 := oc HB.out hx102_0
      replace hx102_1 := oc HB.out hx102_1
      have HR102_0 := am hi102_0
      have HC102_0 := am hl102_0
      clear hi102_0 hl102_0
      have HR102_1 := am hi102_1
      have HC102_1 := am hl102_1
      clear hi102_1 hl102_1
      replace p102 := eq_true p102
      replace q102 := eq_true q102
      have ea_ := Option.some.inj (hx101_0.symm.trans hx102_0)
      injection ea_ with ea_ en_ ec_
      subst ea_
      subst ec_
      clear en_
      have ea_ := Option.some.inj (hx101_1.symm.trans hx102_1)
      injection ea_ with ea_ en_ ec_
      subst ea_
      subst ec_
      clear en_
      have p103 : 0 ≤ (x7_2 : Int) := of_decide_eq_true (by first | (with_reducible assumption) | assumption)
      have q103 : x7_2 < (((rd_T36 l0 x6_1).f1).length : Int) := of_decide_eq_true (by first | (with_reducible assumption) | assumption)
      obtain ⟨ad103, e103, hx103_0, hx103_1, hx103_2, hx103_3, hx103_4, hx103_5⟩ := at_T38 HR102_1.out x7_2 p103 q103
      cases e103
      replace hx103_0 := oc HB.out hx103_0
      replace hx103_1 := oc HB.out hx103_1
      replace hx103_2 := oc HB.out hx103_2
      replace hx103_3 := oc HB.out hx103_3
      replace hx103_4 := oc HB.out hx103_4
      replace hx103_5 := oc HB.out hx103_5
      replace p103 := eq_true p103
      replace q103 := eq_true q103
      go_wp2_with (first | ((with_reducible refine gate_dst (N := 8) rfl ?_); refine box_event ?hg (N := 8) ?hd (cs := #[.string (⟨#[]⟩ : ByteArray), .string (⟨#[]⟩ : ByteArray), .int .i64 0, .int .i64 0, .int .i64 0, .int .i64 0]) (t := 38) ?hr ?_; (case hd => rfl); (case hg => rfl); (case hr => go_simp; try rfl); intro gb104 hg w17 hbox hb; refine mv3 (am (below_step (by exact bl_o HB.out) hb)) (am (hbox)) (lei (by rw [hg]; exact (below_size (by exact bl_o HB.out)) : w.heap.size ≤ gb104)) ?_; clear HB; intro HB BK104 GW104; have GE104 := GW104; clear hb hbox hg; obtain ⟨hcz18_0, hcz18_1, hcz18_2, hcz18_3, hcz18_4, hcz18_5, hfz18_0, hfz18_1, hfz18_2, hfz18_3, hfz18_4, hfz18_5⟩ := cells6 BK104.out))
      go_roundg k2
      case measure => have := HK1.out; have := HK2.out; omega
      case rel => exact ⟨(x5_2), (wrap64 (x7_2 + 1)), (by first | rfl | (simp; done) | (simp [*]; done)), (by first | rfl | (simp; done) | (simp [*]; done)), H', ⟨by have := HK1.out; have := HK2.out; omega⟩, ⟨by exact bl_g HB.out⟩⟩
     rw [if_pos c8] at H
     have c8b0 : (((rd_T38 ((rd_T36 l0 x6_1).f1) x7_2).f0).toList == a1.toList) = true := beq_iff_eq.mpr c8
     have c8b1 : (((rd_T38 ((rd_T36 l0 x6_1).f1) x7_2).f0).toList != a1.toList) = false := bne_eq_false_iff_eq.mpr c8
     clear c8
     by_cases c9 : ((rd_T38 ((rd_T36 l0 x6_1).f1) x7_2).f4) = 1
     rotate_left
     ·
      rw [if_neg c9] at H
      have c9b0 : (((rd_T38 ((rd_T36 l0 x6_1).f1) x7_2).f4) == 1) = false := beq_eq_false_iff_ne.mpr c9
      have c9b1 : (((rd_T38 ((rd_T36 l0 x6_1).f1) x7_2).f4) != 1) = true := bne_iff_ne.mpr c9
      have H' := am H
      clear H
      have p101 : 0 ≤ (x6_1 : Int) := of_decide_eq_true (by first | (with_reducible assumption) | assumption)
      have q101 : x6_1 < (l0.length : Int) := of_decide_eq_true (by first | (with_reducible assumption) | assumption)
      obtain ⟨ad101, A101_0, c101_0, A101_1, c101_1, e101, hx101_0, hx101_1, hl101_0, hi101_0, hl101_1, hi101_1⟩ := at_T36 HR0.out x6_1 p101 q101
      cases e101
      replace hx101_0 := oc HB.out hx101_0
      replace hx101_1 := oc HB.out hx101_1
      have HR101_0 := am hi101_0
      have HC101_0 := am hl101_0
      clear hi101_0 hl101_0
      have HR101_1 := am hi101_1
      have HC101_1 := am hl101_1
      clear hi101_1 hl101_1
      replace p101 := eq_true p101
      replace q101 := eq_true q101
      have p102 : 0 ≤ (x6_1 : Int) := of_decide_eq_true (by first | (with_reducible assumption) | assumption)
      have q102 : x6_1 < (l0.length : Int) := of_decide_eq_true (by first | (with_reducible assumption) | assumption)
      obtain ⟨ad102, A102_0, c102_0, A102_1, c102_1, e102, hx102_0, hx102_1, hl102_0, hi102_0, hl102_1, hi102_1⟩ := at_T36 HR0.out x6_1 p102 q102
      obtain rfl : ad101 = ad102 := (by injection e102)
      replace hx102_0 := oc HB.out hx102_0
      replace hx102_1 := oc HB.out hx102_1
      have HR102_0 := am hi102_0
      have HC102_0 := am hl102_0
      clear hi102_0 hl102_0
      have HR102_1 := am hi102_1
      have HC102_1 := am hl102_1
      clear hi102_1 hl102_1
      replace p102 := eq_true p102
      replace q102 := eq_true q102
      have ea_ := Option.some.inj (hx101_0.symm.trans hx102_0)
      injection ea_ with ea_ en_ ec_
      subst ea_
      subst ec_
      clear en_
      have ea_ := Option.some.inj (hx101_1.symm.trans hx102_1)
      injection ea_ with ea_ en_ ec_
      subst ea_
      subst ec_
      clear en_
      have p103 : 0 ≤ (x7_2 : Int) := of_decide_eq_true (by first | (with_reducible assumption) | assumption)
      have q103 : x7_2 < (((rd_T36 l0 x6_1).f1).length : Int) := of_decide_eq_true (by first | (with_reducible assumption) | assumption)
      obtain ⟨ad103, e103, hx103_0, hx103_1, hx103_2, hx103_3, hx103_4, hx103_5⟩ := at_T38 HR102_1.out x7_2 p103 q103
      cases e103
      replace hx103_0 := oc HB.out hx103_0
      replace hx103_1 := oc HB.out hx103_1
      replace hx103_2 := oc HB.out hx103_2
      replace hx103_3 := oc HB.out hx103_3
      replace hx103_4 := oc HB.out hx103_4
      replace hx103_5 := oc HB.out hx103_5
      replace p103 := eq_true p103
      replace q103 := eq_true q103
      go_wp2_with (first | ((with_reducible refine gate_dst (N := 8) rfl ?_); refine box_event ?hg (N := 8) ?hd (cs := #[.string (⟨#[]⟩ : ByteArray), .string (⟨#[]⟩ : ByteArray), .int .i64 0, .int .i64 0, .int .i64 0, .int .i64 0]) (t := 38) ?hr ?_; (case hd => rfl); (case hg => rfl); (case hr => go_simp; try rfl); intro gb104 hg w15 hbox hb; refine mv3 (am (below_step (by exact bl_o HB.out) hb)) (am (hbox)) (lei (by rw [hg]; exact (below_size (by exact bl_o HB.out)) : w.heap.size ≤ gb104)) ?_; clear HB; intro HB BK104 GW104; have GE104 := GW104; clear hb hbox hg; obtain ⟨hcz16_0, hcz16_1, hcz16_2, hcz16_3, hcz16_4, hcz16_5, hfz16_0, hfz16_1, hfz16_2, hfz16_3, hfz16_4, hfz16_5⟩ := cells6 BK104.out))
      go_roundg k2
      case measure => have := HK1.out; have := HK2.out; omega
      case rel => exact ⟨(x5_2), (wrap64 (x7_2 + 1)), (by first | rfl | (simp; done) | (simp [*]; done)), (by first | rfl | (simp; done) | (simp [*]; done)), H', ⟨by have := HK1.out; have := HK2.out; omega⟩, ⟨by exact bl_g HB.out⟩⟩
     rw [if_pos c9] at H
     have c9b0 : (((rd_T38 ((rd_T36 l0 x6_1).f1) x7_2).f4) == 1) = true := beq_iff_eq.mpr c9
     have c9b1 : (((rd_T38 ((rd_T36 l0 x6_1).f1) x7_2).f4) != 1) = false := bne_eq_false_iff_eq.mpr c9
     clear c9
     by_cases c10 : ((rd_T38 ((rd_T36 l0 x6_1).f1) x7_2).f1).toList = ([] : List UInt8)
     ·
      rw [if_pos c10] at H
      have c10b0 : (((rd_T38 ((rd_T36 l0 x6_1).f1) x7_2).f1).toList == ([] : List UInt8)) = true := beq_iff_eq.mpr c10
      have c10b1 : (((rd_T38 ((rd_T36 l0 x6_1).f1) x7_2).f1).toList != ([] : List UInt8)) = false := bne_eq_false_iff_eq.mpr c10
      clear c10
      have H' := am H
      clear H
      have p101 : 0 ≤ (x6_1 : Int) := of_decide_eq_true (by first | (with_reducible assumption) | assumption)
      have q101 : x6_1 < (l0.length : Int) := of_decide_eq_true (by first | (with_reducible assumption) | assumption)
      obtain ⟨ad101, A101_0, c101_0, A101_1, c101_1, e101, hx101_0, hx101_1, hl101_0, hi101_0, hl101_1, hi101_1⟩ := at_T36 HR0.out x6_1 p101 q101
      cases e101
      replace hx101_0 := oc HB.out hx101_0
      replace hx101_1 := oc HB.out hx101_1
      have HR101_0 := am hi101_0
      have HC101_0 := am hl101_0
      clear hi101_0 hl101_0
      have HR101_1 := am hi101_1
      have HC101_1 := am hl101_1
      clear hi101_1 hl101_1
      replace p101 := eq_true p101
      replace q101 := eq_true q101
      have p102 : 0 ≤ (x6_1 : Int) := of_decide_eq_true (by first | (with_reducible assumption) | assumption)
      have q102 : x6_1 < (l0.length : Int) := of_decide_eq_true (by first | (with_reducible assumption) | assumption)
      obtain ⟨ad102, A102_0, c102_0, A102_1, c102_1, e102, hx102_0, hx102_1, hl102_0, hi102_0, hl102_1, hi102_1⟩ := at_T36 HR0.out x6_1 p102 q102
      obtain rfl : ad101 = ad102 := (by injection e102)
      replace hx102_0 := oc HB.out hx102_0
      replace hx102_1 := oc HB.out hx102_1
      have HR102_0 := am hi102_0
      have HC102_0 := am hl102_0
      clear hi102_0 hl102_0
      have HR102_1 := am hi102_1
      have HC102_1 := am hl102_1
      clear hi102_1 hl102_1
      replace p102 := eq_true p102
      replace q102 := eq_true q102
      have ea_ := Option.some.inj (hx101_0.symm.trans hx102_0)
      injection ea_ with ea_ en_ ec_
      subst ea_
      subst ec_
      clear en_
      have ea_ := Option.some.inj (hx101_1.symm.trans hx102_1)
      injection ea_ with ea_ en_ ec_
      subst ea_
      subst ec_
      clear en_
      have p103 : 0 ≤ (x7_2 : Int) := of_decide_eq_true (by first | (with_reducible assumption) | assumption)
      have q103 : x7_2 < (((rd_T36 l0 x6_1).f1).length : Int) := of_decide_eq_true (by first | (with_reducible assumption) | assumption)
      obtain ⟨ad103, e103, hx103_0, hx103_1, hx103_2, hx103_3, hx103_4, hx103_5⟩ := at_T38 HR102_1.out x7_2 p103 q103
      cases e103
      replace hx103_0 := oc HB.out hx103_0
      replace hx103_1 := oc HB.out hx103_1
      replace hx103_2 := oc HB.out hx103_2
      replace hx103_3 := oc HB.out hx103_3
      replace hx103_4 := oc HB.out hx103_4
      replace hx103_5 := oc HB.out hx103_5
      replace p103 := eq_true p103
      replace q103 := eq_true q103
      go_wp2_with (first | ((with_reducible refine gate_dst (N := 8) rfl ?_); refine box_event ?hg (N := 8) ?hd (cs := #[.string (⟨#[]⟩ : ByteArray), .string (⟨#[]⟩ : ByteArray), .int .i64 0, .int .i64 0, .int .i64 0, .int .i64 0]) (t := 38) ?hr ?_; (case hd => rfl); (case hg => rfl); (case hr => go_simp; try rfl); intro gb104 hg w11 hbox hb; refine mv3 (am (below_step (by exact bl_o HB.out) hb)) (am (hbox)) (lei (by rw [hg]; exact (below_size (by exact bl_o HB.out)) : w.heap.size ≤ gb104)) ?_; clear HB; intro HB BK104 GW104; have GE104 := GW104; clear hb hbox hg; obtain ⟨hcz12_0, hcz12_1, hcz12_2, hcz12_3, hcz12_4, hcz12_5, hfz12_0, hfz12_1, hfz12_2, hfz12_3, hfz12_4, hfz12_5⟩ := cells6 BK104.out))
      go_roundg k2
      case measure => have := HK1.out; have := HK2.out; omega
      case rel => exact ⟨(x5_2), (wrap64 (x7_2 + 1)), (by first | rfl | (simp; done) | (simp [*]; done)), (by first | rfl | (simp; done) | (simp [*]; done)), H', ⟨by have := HK1.out; have := HK2.out; omega⟩, ⟨by exact bl_g HB.out⟩⟩
     rw [if_neg c10] at H
     have c10b0 : (((rd_T38 ((rd_T36 l0 x6_1).f1) x7_2).f1).toList == ([] : List UInt8)) = false := beq_eq_false_iff_ne.mpr c10
     have c10b1 : (((rd_T38 ((rd_T36 l0 x6_1).f1) x7_2).f1).toList != ([] : List UInt8)) = true := bne_iff_ne.mpr c10
     have H' := am H
     clear H
     have p101 : 0 ≤ (x6_1 : Int) := of_decide_eq_true (by first | (with_reducible assumption) | assumption)
     have q101 : x6_1 < (l0.length : Int) := of_decide_eq_true (by first | (with_reducible assumption) | assumption)
     obtain ⟨ad101, A101_0, c101_0, A101_1, c101_1, e101, hx101_0, hx101_1, hl101_0, hi101_0, hl101_1, hi101_1⟩ := at_T36 HR0.out x6_1 p101 q101
     cases e101
     replace hx101_0 := oc HB.out hx101_0
     replace hx101_1 := oc HB.out hx101_1
     have HR101_0 := am hi101_0
     have HC101_0 := am hl101_0
     clear hi101_0 hl101_0
     have HR101_1 := am hi101_1
     have HC101_1 := am hl101_1
     clear hi101_1 hl101_1
     replace p101 := eq_true p101
     replace q101 := eq_true q101
     have p102 : 0 ≤ (x6_1 : Int) := of_decide_eq_true (by first | (with_reducible assumption) | assumption)
     have q102 : x6_1 < (l0.length : Int) := of_decide_eq_true (by first | (with_reducible assumption) | assumption)
     obtain ⟨ad102, A102_0, c102_0, A102_1, c102_1, e102, hx102_0, hx102_1, hl102_0, hi102_0, hl102_1, hi102_1⟩ := at_T36 HR0.out x6_1 p102 q102
     obtain rfl : ad101 = ad102 := (by injection e102)
     replace hx102_0 := oc HB.out hx102_0
     replace hx102_1 := oc HB.out hx102_1
     have HR102_0 := am hi102_0
     have HC102_0 := am hl102_0
     clear hi102_0 hl102_0
     have HR102_1 := am hi102_1
     have HC102_1 := am hl102_1
     clear hi102_1 hl102_1
     replace p102 := eq_true p102
     replace q102 := eq_true q102
     have ea_ := Option.some.inj (hx101_0.symm.trans hx102_0)
     injection ea_ with ea_ en_ ec_
     subst ea_
     subst ec_
     clear en_
     have ea_ := Option.some.inj (hx101_1.symm.trans hx102_1)
     injection ea_ with ea_ en_ ec_
     subst ea_
     subst ec_
     clear en_
     have p103 : 0 ≤ (x7_2 : Int) := of_decide_eq_true (by first | (with_reducible assumption) | assumption)
     have q103 : x7_2 < (((rd_T36 l0 x6_1).f1).length : Int) := of_decide_eq_true (by first | (with_reducible assumption) | assumption)
     obtain ⟨ad103, e103, hx103_0, hx103_1, hx103_2, hx103_3, hx103_4, hx103_5⟩ := at_T38 HR102_1.out x7_2 p103 q103
     cases e103
     replace hx103_0 := oc HB.out hx103_0
     replace hx103_1 := oc HB.out hx103_1
     replace hx103_2 := oc HB.out hx103_2
     replace hx103_3 := oc HB.out hx103_3
     replace hx103_4 := oc HB.out hx103_4
     replace hx103_5 := oc HB.out hx103_5
     replace p103 := eq_true p103
     replace q103 := eq_true q103
     go_wp2_with (first | ((with_reducible refine gate_dst (N := 8) rfl ?_); refine box_event ?hg (N := 8) ?hd (cs := #[.string (⟨#[]⟩ : ByteArray), .string (⟨#[]⟩ : ByteArray), .int .i64 0, .int .i64 0, .int .i64 0, .int .i64 0]) (t := 38) ?hr ?_; (case hd => rfl); (case hg => rfl); (case hr => go_simp; try rfl); intro gb104 hg w13 hbox hb; refine mv3 (am (below_step (by exact bl_o HB.out) hb)) (am (hbox)) (lei (by rw [hg]; exact (below_size (by exact bl_o HB.out)) : w.heap.size ≤ gb104)) ?_; clear HB; intro HB BK104 GW104; have GE104 := GW104; clear hb hbox hg; obtain ⟨hcz14_0, hcz14_1, hcz14_2, hcz14_3, hcz14_4, hcz14_5, hfz14_0, hfz14_1, hfz14_2, hfz14_3, hfz14_4, hfz14_5⟩ := cells6 BK104.out))
     go_roundg k2
     case measure => have := HK1.out; have := HK2.out; omega
     case rel => exact ⟨(wrap64 (x5_2 + 1)), (wrap64 (x7_2 + 1)), (by first | rfl | (simp; done) | (simp [*]; done)), (by first | rfl | (simp; done) | (simp [*]; done)), H', ⟨by have := HK1.out; have := HK2.out; omega⟩, ⟨by exact bl_g HB.out⟩⟩
end Go.Proofs.Ytibkcnlcmempgaa.G
end
section
namespace Go.Proofs.Ytibkcnlcmempgaa.G
open Go.RowKit Go.Proofs.YtibkcnlcmempgaaW.PrintWords Go.Proofs.YtibkcnlcmempgaaW.PrintLast Go.Proofs.YtibkcnlcmempgaaW.PrintMore
attribute [local go_sem] max2_int min2_int max_two min_two max_three min_three max_four min_four   -- for this text's walks alone
set_option linter.unusedVariables false
set_option linter.unusedSimpArgs false
mutual
def gangwaylaw18_mixed.l0 : Nat → List (S36) → ByteArray → Bool → Bool → Int → Option (Bool)
  | 0, _, _, _, _, _ => none
  | k + 1, x0, x1, x5, x6, x7 => if x7 < (x0.length : Int) then (gangwaylaw18_mixed.l1 k x0 x1 x5 x6 x7 0) else (if x5 = true then (some x6) else (some false))
def gangwaylaw18_mixed.l1 : Nat → List (S36) → ByteArray → Bool → Bool → Int → Int → Option (Bool)
  | 0, _, _, _, _, _, _ => none
  | k + 1, x0, x1, x5, x6, x7, x8 => if 0 ≤ x7 then (if x7 < (x0.length : Int) then (if x8 < (((rd_T36 x0 x7).f1).length : Int) then (if 0 ≤ x8 then (if ((rd_T38 ((rd_T36 x0 x7).f1) x8).f0).toList = x1.toList then (if ((rd_T38 ((rd_T36 x0 x7).f1) x8).f4) = 0 then (gangwaylaw18_mixed.l1 k x0 x1 x5 x6 x7 (wrap64 (x8 + 1))) else (if x5 = true then (if x6 = true then (gangwaylaw18_mixed.l1 k x0 x1 true true x7 (wrap64 (x8 + 1))) else (if ((rd_T38 ((rd_T36 x0 x7).f1) x8).f5) = 6 then (gangwaylaw18_mixed.l1 k x0 x1 true false x7 (wrap64 (x8 + 1))) else (gangwaylaw18_mixed.l1 k x0 x1 true (((rd_T38 ((rd_T36 x0 x7).f1) x8).f5) != 0) x7 (wrap64 (x8 + 1))))) else (if x6 = true then (gangwaylaw18_mixed.l1 k x0 x1 (((rd_T38 ((rd_T36 x0 x7).f1) x8).f5) == 6) true x7 (wrap64 (x8 + 1))) else (if ((rd_T38 ((rd_T36 x0 x7).f1) x8).f5) = 6 then (gangwaylaw18_mixed.l1 k x0 x1 (((rd_T38 ((rd_T36 x0 x7).f1) x8).f5) == 6) false x7 (wrap64 (x8 + 1))) else (gangwaylaw18_mixed.l1 k x0 x1 (((rd_T38 ((rd_T36 x0 x7).f1) x8).f5) == 6) (((rd_T38 ((rd_T36 x0 x7).f1) x8).f5) != 0) x7 (wrap64 (x8 + 1))))))) else (gangwaylaw18_mixed.l1 k x0 x1 x5 x6 x7 (wrap64 (x8 + 1)))) else (none)) else (gangwaylaw18_mixed.l0 k x0 x1 x5 x6 (wrap64 (x7 + 1)))) else (none)) else (none)
end
def gangwaylaw18_mixed.f (k : Nat) (l0 : List (S36)) (a1 : ByteArray) : Option (Bool) := gangwaylaw18_mixed.l0 k l0 a1 false false 0
set_option maxHeartbeats 8000000 in
set_option maxRecDepth 100000 in
theorem gangwaylaw18_mixed.calls (k : Nat) (A0 : Option Addr) (c0 : Nat) (l0 : List (S36)) (a1 : ByteArray) (r : Bool) (w : World) (hr0 : Kd.C k36 w A0 l0.length l0) (hc0 : l0.length ≤ c0) (h : gangwaylaw18_mixed.f k l0 a1 = some r) :
    Calls Try.prog 13 #[.slice A0 l0.length c0, .string a1] w fun e w' => e = .returned (.bool r) ∧ Below w.heap.size w w' := by
 have hu38 := Try.underlying38
 have HR0 := am hr0
 have HC0 := am hc0
 clear hr0 hc0
 have HB := am (Below.refl w.heap.size w)
 have H : (gangwaylaw18_mixed.l0 k l0 a1 false false 0) = some r := h
 clear h
 have H' := am H
 clear H
 go_enter Try.func13, Try.ntmps13
 go_wp2
 go_loopg [5, 6, 7] k (fun kq v5 v6 v7 w' => ∃ (x5_1 : Bool) (x6_1 : Bool) (x7_1 : Int), v5 = .bool x5_1 ∧ v6 = .bool x6_1 ∧ v7 = .int .i64 x7_1 ∧ Aside0 (gangwaylaw18_mixed.l0 kq l0 a1 x5_1 x6_1 x7_1 = some r) ∧ Aside0 (kq ≤ k) ∧ Aside0 (Below w.heap.size w w'))
 case atStart => exact ⟨(false), (false), (0), (by first | rfl | (simp; done) | (simp [*]; done)), (by first | rfl | (simp; done) | (simp [*]; done)), (by first | rfl | (simp; done) | (simp [*]; done)), H', ⟨Nat.le_refl _⟩, ⟨by exact bl_g HB.out⟩⟩
 case round =>
  clear H'
  try clear c1
  try clear p2
  obtain ⟨x5_1, x6_1, x7_1, rfl, rfl, rfl, HA, HK1, HB⟩ := hrel
  cases gk with
  | zero => exact absurd HA.out (by simp [gangwaylaw18_mixed.l0])
  | succ k1 =>
   have H := HA.out
   clear HA
   simp only [gangwaylaw18_mixed.l0] at H
   by_cases c3 : x7_1 < (l0.length : Int)
   rotate_left
   ·
    rw [if_neg c3] at H
    have c3b0 : decide (x7_1 < (l0.length : Int)) = false := decide_eq_false c3
    clear c3
    by_cases c31 : x5_1 = true
    ·
     subst c31
     replace H : (some x6_1) = some r := by rw [if_pos rfl] at H; exact H
     obtain rfl := Option.some.inj H
     go_wp2
     go_ret
     exact ⟨rfl, by exact bl_g HB.out⟩
    replace c31 := Bool.eq_false_iff.mpr c31
    subst c31
    replace H : (some false) = some r := by rw [if_neg (show ¬ (false = true) by decide)] at H; exact H
    obtain rfl := Option.some.inj H
    go_wp2
    go_ret
    exact ⟨rfl, by exact bl_g HB.out⟩
   rw [if_pos c3] at H
   have c3b0 : decide (x7_1 < (l0.length : Int)) = true := decide_eq_true c3
   clear c3
   have H' := am H
   clear H
   go_wp2
   go_loopg [5, 6, 8] k1 (fun kq v5 v6 v8 w' => ∃ (x5_2 : Bool) (x6_2 : Bool) (x8_2 : Int), v5 = .bool x5_2 ∧ v6 = .bool x6_2 ∧ v8 = .int .i64 x8_2 ∧ Aside0 (gangwaylaw18_mixed.l1 kq l0 a1 x5_2 x6_2 x7_1 x8_2 = some r) ∧ Aside0 (kq ≤ k1) ∧ Aside0 (Below w.heap.size w w'))
   case atStart => exact ⟨(x5_1), (x6_1), (0), (by first | rfl | (simp; done) | (simp [*]; done)), (by first | rfl | (simp; done) | (simp [*]; done)), (by first | rfl | (simp; done) | (simp [*]; done)), H', ⟨Nat.le_refl _⟩, ⟨by exact bl_g HB.out⟩⟩
   case round =>
    clear H'
    try clear c1
    try clear p2
    try clear c3
    try clear c3b0
    try clear p2
    obtain ⟨x5_2, x6_2, x8_2, rfl, rfl, rfl, HA, HK2, HB⟩ := hrel
    cases gk with
    | zero => exact absurd HA.out (by simp [gangwaylaw18_mixed.l1])
    | succ k2 =>
     have H := HA.out
     clear HA
     simp only [gangwaylaw18_mixed.l1] at H
     by_cases c4 : 0 ≤ x7_1
     rotate_left
     ·
      rw [if_neg c4] at H
      exact absurd H (by simp)
     rw [if_pos c4] at H
     have c4b0 : decide (0 ≤ x7_1) = true := decide_eq_true c4
     clear c4
     by_cases c5 : x7_1 < (l0.length : Int)
     rotate_left
     ·
      rw [if_neg c5] at H
      exact absurd H (by simp)
     rw [if_pos c5] at H
     have c5b0 : decide (x7_1 < (l0.length : Int)) = true := decide_eq_true c5
     clear c5
     by_cases c6 : x8_2 < (((rd_T36 l0 x7_1).f1).length : Int)
     rotate_left
     ·
      rw [if_neg c6] at H
      have c6b0 : decide (x8_2 < (((rd_T36 l0 x7_1).f1).length : Int)) = false := decide_eq_false c6
      clear c6
      have H' := am H
      clear H
      have p101 : 0 ≤ (x7_1 : Int) := of_decide_eq_true (by first | (with_reducible assumption) | assumption)
      have q101 : x7_1 < (l0.length : Int) := of_decide_eq_true (by first | (with_reducible assumption) | assumption)
      obtain ⟨ad101, A101_0, c101_0, A101_1, c101_1, e101, hx101_0, hx101_1, hl101_0, hi101_0, hl101_1, hi101_1⟩ := at_T36 HR0.out x7_1 p101 q101
      cases e101
      replace hx101_0 := oc HB.out hx101_0
      replace hx101_1 := oc HB.out hx101_1
      have HR101_0 := am hi101_0
      have HC101_0 := am hl101_0
      clear hi101_0 hl101_0
      have HR101_1 := am hi101_1
      have HC101_1 := am hl101_1
      clear hi101_1 hl101_1
      replace p101 := eq_true p101
      replace q101 := eq_true q101
      go_wp2
      go_roundg k2
      case measure => have := HK1.out; have := HK2.out; omega
      case rel => exact ⟨(x5_2), (x6_2), (wrap64 (x7_1 + 1)), (by first | rfl | (simp; done) | (simp [*]; done)), (by first | rfl | (simp; done) | (simp [*]; done)), (by first | rfl | (simp; done) | (simp [*]; done)), H', ⟨by have := HK1.out; have := HK2.out; omega⟩, ⟨by exact bl_g HB.out⟩⟩
     rw [if_pos c6] at H
     have c6b0 : decide (x8_2 < (((rd_T36 l0 x7_1).f1).length : Int)) = true := decide_eq_true c6
     clear c6
     by_cases c7 : 0 ≤ x8_2
     rotate_left
     ·
      rw [if_neg c7] at H
      exact absurd H (by simp)
     rw [if_pos c7] at H
     have c7b0 : decide (0 ≤ x8_2) = true := decide_eq_true c7
     clear c7
     by_cases c8 : ((rd_T38 ((rd_T36 l0 x7_1).f1) x8_2).f0).toList = a1.toList
     rotate_left
     ·
      rw [if_neg c8] at H
      have c8b0 : (((rd_T38 ((rd_T36 l0 x7_1).f1) x8_2).f0).toList == a1.toList) = false := beq_eq_false_iff_ne.mpr c8
      have c8b1 : (((rd_T38 ((rd_T36 l0 x7_1).f1) x8_2).f0).toList != a1.toList) = true := bne_iff_ne.mpr c8
      have H' := am H
      clear H
      have p101 : 0 ≤ (x7_1 : Int) := of_decide_eq_true (by first | (with_reducible assumption) | assumption)
      have q101 : x7_1 < (l0.length : Int) := of_decide_eq_true (by first | (with_reducible assumption) | assumption)
      obtain ⟨ad101, A101_0, c101_0, A101_1, c101_1, e101, hx101_0, hx101_1, hl101_0, hi101_0, hl101_1, hi101_1⟩ := at_T36 HR0.out x7_1 p101 q101
      cases e101
      replace hx101_0 := oc HB.out hx101_0
      replace hx101_1 := oc HB.out hx101_1
      have HR101_0 := am hi101_0
      have HC101_0 := am hl101_0
      clear hi101_0 hl101_0
      have HR101_1 := am hi101_1
      have HC101_1 := am hl101_1
      clear hi101_1 hl101_1
      replace p101 := eq_true p101
      replace q101 := eq_true q101
      have p102 : 0 ≤ (x7_1 : Int) := of_decide_eq_true (by first | (with_reducible assumption) | assumption)
      have q102 : x7_1 < (l0.length : Int) := of_decide_eq_true (by first | (with_reducible assumption) | assumption)
      obtain ⟨ad102, A102_0, c102_0, A102_1, c102_1, e102, hx102_0, hx102_1, hl102_0, hi102_0, hl102_1, hi102_1⟩ := at_T36 HR0.out x7_1 p102 q102
      obtain rfl : ad101 = ad102 := (by injection e102)
      replace hx102_0 := oc HB.out hx102_0
      replace hx102_1 := oc HB.out hx102_1
      have HR102_0 := am hi102_0
      have HC102_0 := am hl102_0
      clear hi102_0 hl102_0
      have HR102_1 := am hi102_1
      have HC102_1 := am hl102_1
      clear hi102_1 hl102_1
      replace p102 := eq_true p102
      replace q102 := eq_true q102
      have ea_ := Option.some.inj (hx101_0.symm.trans hx102_0)
      injection ea_ with ea_ en_ ec_
      subst ea_
      subst ec_
      clear en_
      have ea_ := Option.some.inj (hx101_1.symm.trans hx102_1)
      injection ea_ with ea_ en_ ec_
      subst ea_
      subst ec_
      clear en_
      have p103 : 0 ≤ (x8_2 : Int) := of_decide_eq_true (by first | (with_reducible assumption) | assumption)
      have q103 : x8_2 < (((rd_T36 l0 x7_1).f1).length : Int) := of_decide_eq_true (by first | (with_reducible assumption) | assumption)
      obtain ⟨ad103, e103, hx103_0, hx103_1, hx103_2, hx103_3, hx103_4, hx103_5⟩ := at_T38 HR102_1.out x8_2 p103 q103
      cases e103
      replace hx103_0 := oc HB.out hx103_0
      replace hx103_1 := oc HB.out hx103_1
      replace hx103_2 := oc HB.out hx103_2
      replace hx103_3 := oc HB.out hx103_3
      replace hx103_4 := oc HB.out hx103_4
      replace hx103_5 := oc HB.out hx103_5
      replace p103 := eq_true p103
      replace q103 := eq_true q103
      go_wp2_with (first | ((with_reducible refine gate_dst (N := 9) rfl ?_); refine box_event ?hg (N := 9) ?hd (cs := #[.string (⟨#[]⟩ : ByteArray), .string (⟨#[]⟩ : ByteArray), .int .i64 0, .int .i64 0, .int .i64 0, .int .i64 0]) (t := 38) ?hr ?_; (case hd => rfl); (case hg => rfl); (case hr => go_simp; try rfl); intro gb104 hg w29 hbox hb; refine mv3 (am (below_step (by exact bl_o HB.out) hb)) (am (hbox)) (lei (by rw [hg]; exact (below_size (by exact bl_o HB.out)) : w.heap.size ≤ gb104)) ?_; clear HB; intro HB BK104 GW104; have GE104 := GW104; clear hb hbox hg; obtain ⟨hcz30_0, hcz30_1, hcz30_2, hcz30_3, hcz30_4, hcz30_5, hfz30_0, hfz30_1, hfz30_2, hfz30_3, hfz30_4, hfz30_5⟩ := cells6 BK104.out))
      go_roundg k2
      case measure => have := HK1.out; have := HK2.out; omega
      case rel => exact ⟨(x5_2), (x6_2), (wrap64 (x8_2 + 1)), (by first | rfl | (simp; done) | (simp [*]; done)), (by first | rfl | (simp; done) | (simp [*]; done)), (by first | rfl | (simp; done) | (simp [*]; done)), H', ⟨by have := HK1.out; have := HK2.out; omega⟩, ⟨by exact bl_g HB.out⟩⟩
     rw [if_pos c8] at H
     have c8b0 : (((rd_T38 ((rd_T36 l0 x7_1).f1) x8_2).f0).toList == a1.toList) = true := beq_iff_eq.mpr c8
     have c8b1 : (((rd_T38 ((rd_T36 l0 x7_1).f1) x8_2).f0).toList != a1.toList) = false := bne_eq_false_iff_eq.mpr c8
     clear c8
     by_cases c9 : ((rd_T38 ((rd_T36 l0 x7_1).f1) x8_2).f4) = 0
     ·
      rw [if_pos c9] at H
      have c9b0 : (((rd_T38 ((rd_T36 l0 x7_1).f1) x8_2).f4) == 0) = true := beq_iff_eq.mpr c9
      have c9b1 : (((rd_T38 ((rd_T36 l0 x7_1).f1) x8_2).f4) != 0) = false := bne_eq_false_iff_eq.mpr c9
      clear c9
      have H' := am H
      clear H
      have p101 : 0 ≤ (x7_1 : Int) := of_decide_eq_true (by first | (with_reducible assumption) | assumption)
      have q101 : x7_1 < (l0.length : Int) := of_decide_eq_true (by first | (with_reducible assumption) | assumption)
      obtain ⟨ad101, A101_0, c101_0, A101_1, c101_1, e101, hx101_0, hx101_1, hl101_0, hi101_0, hl101_1, hi101_1⟩ := at_T36 HR0.out x7_1 p101 q101
      cases e101
      replace hx101_0 := oc HB.out hx101_0
      replace hx101_1 := oc HB.out hx101_1
      have HR101_0 := am hi101_0
      have HC101_0 := am hl101_0
      clear hi101_0 hl101_0
      have HR101_1 := am hi101_1
      have HC101_1 := am hl101_1
      clear hi101_1 hl101_1
      replace p101 := eq_true p101
      replace q101 := eq_true q101
      have p102 : 0 ≤ (x7_1 : Int) := of_decide_eq_true (by first | (with_reducible assumption) | assumption)
      have q102 : x7_1 < (l0.length : Int) := of_decide_eq_true (by first | (with_reducible assumption) | assumption)
      obtain ⟨ad102, A102_0, c102_0, A102_1, c102_1, e102, hx102_0, hx102_1, hl102_0, hi102_0, hl102_1, hi102_1⟩ := at_T36 HR0.out x7_1 p102 q102
      obtain rfl : ad101 = ad102 := (by injection e102)
      replace hx102_0 := oc HB.out hx102_0
      replace hx102_1 := oc HB.out hx102_1
      have HR102_0 := am hi102_0
      have HC102_0 := am hl102_0
      clear hi102_0 hl102_0
      have HR102_1 := am hi102_1
      have HC102_1 := am hl102_1
      clear hi102_1 hl102_1
      replace p102 := eq_true p102
      replace q102 := eq_true q102
      have ea_ := Option.some.inj (hx101_0.symm.trans hx102_0)
      injection ea_ with ea_ en_ ec_
      subst ea_
      subst ec_
      clear en_
      have ea_ := Option.some.inj (hx101_1.symm.trans hx102_1)
      injection ea_ with ea_ en_ ec_
      subst ea_
      subst ec_
      clear en_
      have p103 : 0 ≤ (x8_2 : Int) := of_decide_eq_true (by first | (with_reducible assumption) | assumption)
      have q103 : x8_2 < (((rd_T36 l0 x7_1).f1).length : Int) := of_decide_eq_true (by first | (with_reducible assumption) | assumption)
      obtain ⟨ad103, e103, hx103_0, hx103_1, hx103_2, hx103_3, hx103_4, hx103_5⟩ := at_T38 HR102_1.out x8_2 p103 q103
      cases e103
      replace hx103_0 := oc HB.out hx103_0
      replace hx103_1 := oc HB.out hx103_1
      replace hx103_2 := oc HB.out hx103_2
      replace hx103_3 := oc HB.out hx103_3
      replace hx103_4 := oc HB.out hx103_4
      replace hx103_5 := oc HB.out hx103_5
      replace p103 := eq_true p103
      replace q103 := eq_true q103
      go_wp2_with (first | ((with_reducible refine gate_dst (N := 9) rfl ?_); refine box_event ?hg (N := 9) ?hd (cs := #[.string (⟨#[]⟩ : ByteArray), .string (⟨#[]⟩ : ByteArray), .int .i64 0, .int .i64 0, .int .i64 0, .int .i64 0]) (t := 38) ?hr ?_; (case hd => rfl); (case hg => rfl); (case hr => go_simp; try rfl); intro gb104 hg w10 hbox hb; refine mv3 (am (below_step (by exact bl_o HB.out) hb)) (am (hbox)) (lei (by rw [hg]; exact (below_size (by exact bl_o HB.out)) : w.heap.size ≤ gb104)) ?_; clear HB; intro HB BK104 GW104; have GE104 := GW104; clear hb hbox hg; obtain ⟨hcz11_0, hcz11_1, hcz11_2, hcz11_3, hcz11_4, hcz11_5, hfz11_0, hfz11_1, hfz11_2, hfz11_3, hfz11_4, hfz11_5⟩ := cells6 BK104.out))
      go_roundg k2
      case measure => have := HK1.out; have := HK2.out; omega
      case rel => exact ⟨(x5_2), (x6_2), (wrap64 (x8_2 + 1)), (by first | rfl | (simp; done) | (simp [*]; done)), (by first | rfl | (simp; done) | (simp [*]; done)), (by first | rfl | (simp; done) | (simp [*]; done)), H', ⟨by have := HK1.out; have := HK2.out; omega⟩, ⟨by exact bl_g HB.out⟩⟩
     rw [if_neg c9] at H
     have c9b0 : (((rd_T38 ((rd_T36 l0 x7_1).f1) x8_2).f4) == 0) = false := beq_eq_false_iff_ne.mpr c9
     have c9b1 : (((rd_T38 ((rd_T36 l0 x7_1).f1) x8_2).f4) != 0) = true := bne_iff_ne.mpr c9
     by_cases c12 : x5_2 = true
     ·
      subst c12
      replace H : (if x6_2 = true then (gangwaylaw18_mixed.l1 k2 l0 a1 true true x7_1 (wrap64 (x8_2 + 1))) else (if ((rd_T38 ((rd_T36 l0 x7_1).f1) x8_2).f5) = 6 then (gangwaylaw18_mixed.l1 k2 l0 a1 true false x7_1 (wrap64 (x8_2 + 1))) else (gangwaylaw18_mixed.l1 k2 l0 a1 true (((rd_T38 ((rd_T36 l0 x7_1).f1) x8_2).f5) != 0) x7_1 (wrap64 (x8_2 + 1))))) = some r := by rw [if_pos rfl] at H; exact H
      by_cases c13 : x6_2 = true
      ·
       subst c13
       replace H : (gangwaylaw18_mixed.l1 k2 l0 a1 true true x7_1 (wrap64 (x8_2 + 1))) = some r := by rw [if_pos rfl] at H; exact H
       have H' := am H
       clear H
       have p101 : 0 ≤ (x7_1 : Int) := of_decide_eq_true (by first | (with_reducible assumption) | assumption)
       have q101 : x7_1 < (l0.length : Int) := of_decide_eq_true (by first | (with_reducible assumption) | assumption)
       obtain ⟨ad101, A101_0, c101_0, A101_1, c101_1, e101, hx101_0, hx101_1, hl101_0, hi101_0, hl101_1, hi101_1⟩ := at_T36 HR0.out x7_1 p101 q101
       cases e101
       replace hx101_0 := oc HB.out hx101_0
       replace hx101_1 := oc HB.out hx101_1
       have HR101_0 := am hi101_0
       have HC101_0 := am hl101_0
       clear hi101_0 hl101_0
       have HR101_1 := am hi101_1
       have HC101_1 := am hl101_1
       clear hi101_1 hl101_1
       replace p101 := eq_true p101
       replace q101 := eq_true q101
       have p102 : 0 ≤ (x7_1 : Int) := of_decide_eq_true (by first | (with_reducible assumption) | assumption)
       have q102 : x7_1 < (l0.length : Int) := of_decide_eq_true (by first | (with_reducible assumption) | assumption)
       obtain ⟨ad102, A102_0, c102_0, A102_1, c102_1, e102, hx102_0, hx102_1, hl102_0, hi102_0, hl102_1, hi102_1⟩ := at_T36 HR0.out x7_1 p102 q102
       obtain rfl : ad101 = ad102 := (by injection e102)
       replace hx102_0 := oc HB.out hx102_0
       replace hx102_1 := oc HB.out hx102_1
       have HR102_0 := am hi102_0
       have HC102_0 := am hl102_0
       clear hi102_0 hl102_0
       have HR102_1 := am hi102_1
       have HC102_1 := am hl102_1
       clear hi102_1 hl102_1
       replace p102 := eq_true p102
       replace q102 := eq_true q102
       have ea_ := Option.some.inj (hx101_0.symm.trans hx102_0)
       injection ea_ with ea_ en_ ec_
       subst ea_
       subst ec_
       clear en_
       have ea_ := Option.some.inj (hx101_1.symm.trans hx102_1)
       injection ea_ with ea_ en_ ec_
       subst ea_
       subst ec_
       clear en_
       have p103 : 0 ≤ (x8_2 : Int) := of_decide_eq_true (by first | (with_reducible assumption) | assumption)
       have q103 : x8_2 < (((rd_T36 l0 x7_1).f1).length : Int) := of_decide_eq_true (by first | (with_reducible assumption) | assumption)
       obtain ⟨ad103, e103, hx103_0, hx103_1, hx103_2, hx103_3, hx103_4, hx103_5⟩ := at_T38 HR102_1.out x8_2 p103 q103
       cases e103
       replace hx103_0 := oc HB.out hx103_0
       replace hx103_1 := oc HB.out hx103_1
       replace hx103_2 := oc HB.out hx103_2
       replace hx103_3 := oc HB.out hx103_3
       replace hx103_4 := oc HB.out hx103_4
       replace hx103_5 := oc HB.out hx103_5
       replace p103 := eq_true p103
       replace q103 := eq_true q103
       go_wp2_with (first | ((with_reducible refine gate_dst (N := 9) rfl ?_); refine box_event ?hg (N := 9) ?hd (cs := #[.string (⟨#[]⟩ : ByteArray), .string (⟨#[]⟩ : ByteArray), .int .i64 0, .int .i64 0, .int .i64 0, .int .i64 0]) (t := 38) ?hr ?_; (case hd => rfl); (case hg => rfl); (case hr => go_simp; try rfl); intro gb104 hg w14 hbox hb; refine mv3 (am (below_step (by exact bl_o HB.out) hb)) (am (hbox)) (lei (by rw [hg]; exact (below_size (by exact bl_o HB.out)) : w.heap.size ≤ gb104)) ?_; clear HB; intro HB BK104 GW104; have GE104 := GW104; clear hb hbox hg; obtain ⟨hcz15_0, hcz15_1, hcz15_2, hcz15_3, hcz15_4, hcz15_5, hfz15_0, hfz15_1, hfz15_2, hfz15_3, hfz15_4, hfz15_5⟩ := cells6 BK104.out))
       go_roundg k2
       case measure => have := HK1.out; have := HK2.out; omega
       case rel => exact ⟨(true), (true), (wrap64 (x8_2 + 1)), (by first | rfl | (simp; done) | (simp [*]; done)), (by first | rfl | (simp; done) | (simp [*]; done)), (by first | rfl | (simp; done) | (simp [*]; done)), H', ⟨by have := HK1.out; have := HK2.out; omega⟩, ⟨by exact bl_g HB.out⟩⟩
      replace c13 := Bool.eq_false_iff.mpr c13
      subst c13
      replace H : (if ((rd_T38 ((rd_T36 l0 x7_1).f1) x8_2).f5) = 6 then (gangwaylaw18_mixed.l1 k2 l0 a1 true false x7_1 (wrap64 (x8_2 + 1))) else (gangwaylaw18_mixed.l1 k2 l0 a1 true (((rd_T38 ((rd_T36 l0 x7_1).f1) x8_2).f5) != 0) x7_1 (wrap64 (x8_2 + 1)))) = some r := by rw [if_neg (show ¬ (false = true) by decide)] at H; exact H
      by_cases c16 : ((rd_T38 ((rd_T36 l0 x7_1).f1) x8_2).f5) = 6
      ·
       rw [if_pos c16] at H
       have c16b0 : (((rd_T38 ((rd_T36 l0 x7_1).f1) x8_2).f5) == 6) = true := beq_iff_eq.mpr c16
       have c16b1 : (((rd_T38 ((rd_T36 l0 x7_1).f1) x8_2).f5) != 6) = false := bne_eq_false_iff_eq.mpr c16
       clear c16
       have H' := am H
       clear H
       have p101 : 0 ≤ (x7_1 : Int) := of_decide_eq_true (by first | (with_reducible assumption) | assumption)
       have q101 : x7_1 < (l0.length : Int) := of_decide_eq_true (by first | (with_reducible assumption) | assumption)
       obtain ⟨ad101, A101_0, c101_0, A101_1, c101_1, e101, hx101_0, hx101_1, hl101_0, hi101_0, hl101_1, hi101_1⟩ := at_T36 HR0.out x7_1 p101 q101
       cases e101
       replace hx101_0 := oc HB.out hx101_0
       replace hx101_1 := oc HB.out hx101_1
       have HR101_0 := am hi101_0
       have HC101_0 := am hl101_0
       clear hi101_0 hl101_0
       have HR101_1 := am hi101_1
       have HC101_1 := am hl101_1
       clear hi101_1 hl101_1
       replace p101 := eq_true p101
       replace q101 := eq_true q101
       have p102 : 0 ≤ (x7_1 : Int) := of_decide_eq_true (by first | (with_reducible assumption) | assumption)
       have q102 : x7_1 < (l0.length : Int) := of_decide_eq_true (by first | (with_reducible assumption) | assumption)
       obtain ⟨ad102, A102_0, c102_0, A102_1, c102_1, e102, hx102_0, hx102_1, hl102_0, hi102_0, hl102_1, hi102_1⟩ := at_T36 HR0.out x7_1 p102 q102
       obtain rfl : ad101 = ad102 := (by injection e102)
       replace hx102_0 := oc HB.out hx102_0
       replace hx102_1 := oc HB.out hx102_1
       have HR102_0 := am hi102_0
       have HC102_0 := am hl102_0
       clear hi102_0 hl102_0
       have HR102_1 := am hi102_1
       have HC102_1 := am hl102_1
       clear hi102_1 hl102_1
       replace p102 := eq_true p102
       replace q102 := eq_true q102
       have ea_ := Option.some.inj (hx101_0.symm.trans hx102_0)
       injection ea_ with ea_ en_ ec_
       subst ea_
       subst ec_
       clear en_
       have ea_ := Option.some.inj (hx101_1.symm.trans hx102_1)
       injection ea_ with ea_ en_ ec_
       subst ea_
       subst ec_
       clear en_
       have p103 : 0 ≤ (x8_2 : Int) := of_decide_eq_true (by first | (with_reducible assumption) | assumption)
       have q103 : x8_2 < (((rd_T36 l0 x7_1).f1).length : Int) := of_decide_eq_true (by first | (with_reducible assumption) | assumption)
       obtain ⟨ad103, e103, hx103_0, hx103_1, hx103_2, hx103_3, hx103_4, hx103_5⟩ := at_T38 HR102_1.out x8_2 p103 q103
       cases e103
       replace hx103_0 := oc HB.out hx103_0
       replace hx103_1 := oc HB.out hx103_1
       replace hx103_2 := oc HB.out hx103_2
       replace hx103_3 := oc HB.out hx103_3
       replace hx103_4 := oc HB.out hx103_4
       replace hx103_5 := oc HB.out hx103_5
       replace p103 := eq_true p103
       replace q103 := eq_true q103
       go_wp2_with (first | ((with_reducible refine gate_dst (N := 9) rfl ?_); refine box_event ?hg (N := 9) ?hd (cs := #[.string (⟨#[]⟩ : ByteArray), .string (⟨#[]⟩ : ByteArray), .int .i64 0, .int .i64 0, .int .i64 0, .int .i64 0]) (t := 38) ?hr ?_; (case hd => rfl); (case hg => rfl); (case hr => go_simp; try rfl); intro gb104 hg w17 hbox hb; refine mv3 (am (below_step (by exact bl_o HB.out) hb)) (am (hbox)) (lei (by rw [hg]; exact (below_size (by exact bl_o HB.out)) : w.heap.size ≤ gb104)) ?_; clear HB; intro HB BK104 GW104; have GE104 := GW104; clear hb hbox hg; obtain ⟨hcz18_0, hcz18_1, hcz18_2, hcz18_3, hcz18_4, hcz18_5, hfz18_0, hfz18_1, hfz18_2, hfz18_3, hfz18_4, hfz18_5⟩ := cells6 BK104.out))
       go_roundg k2
       case measure => have := HK1.out; have := HK2.out; omega
       case rel => exact ⟨(true), (false), (wrap64 (x8_2 + 1)), (by first | rfl | (simp; done) | (simp [*]; done)), (by first | rfl | (simp; done) | (simp [*]; done)), (by first | rfl | (simp; done) | (simp [*]; done)), H', ⟨by have := HK1.out; have := HK2.out; omega⟩, ⟨by exact bl_g HB.out⟩⟩
      rw [if_neg c16] at H
      have c16b0 : (((rd_T38 ((rd_T36 l0 x7_1).f1) x8_2).f5) == 6) = false := beq_eq_false_iff_ne.mpr c16
      have c16b1 : (((rd_T38 ((rd_T36 l0 x7_1).f1) x8_2).f5) != 6) = true := bne_iff_ne.mpr c16
      have H' := am H
      clear H
      have p101 : 0 ≤ (x7_1 : Int) := of_decide_eq_true (by first | (with_reducible assumption) | assumption)
      have q101 : x7_1 < (l0.length : Int) := of_decide_eq_true (by first | (with_reducible assumption) | assumption)
      obtain ⟨ad101, A101_0, c101_0, A101_1, c101_1, e101, hx101_0, hx101_1, hl101_0, hi101_0, hl101_1, hi101_1⟩ := at_T36 HR0.out x7_1 p101 q101
      cases e101
      replace hx101_0 := oc HB.out hx101_0
      replace hx101_1 := oc HB.out hx101_1
      have HR101_0 := am hi101_0
      have HC101_0 := am hl101_0
      clear hi101_0 hl101_0
      have HR101_1 := am hi101_1
      have HC101_1 := am hl101_1
      clear hi101_1 hl101_1
      replace p101 := eq_true p101
      replace q101 := eq_true q101
      have p102 : 0 ≤ (x7_1 : Int) := of_decide_eq_true (by first | (with_reducible assumption) | assumption)
      have q102 : x7_1 < (l0.length : Int) := of_decide_eq_true (by first | (with_reducible assumption) | assumption)
      obtain ⟨ad102, A102_0, c102_0, A102_1, c102_1, e102, hx102_0, hx102_1, hl102_0, hi102_0, hl102_1, hi102_1⟩ := at_T36 HR0.out x7_1 p102 q102
      obtain rfl : ad101 = ad102 := (by injection e102)
      replace hx102_0 := oc HB.out hx102_0
      replace hx102_1 := oc HB.out hx102_1
      have HR102_0 := am hi102_0
      have HC102_0 := am hl102_0
      clear hi102_0 hl102_0
      have HR102_1 := am hi102_1
      have HC102_1 := am hl102_1
      clear hi102_1 hl102_1
      replace p102 := eq_true p102
      replace q102 := eq_true q102
      have ea_ := Option.some.inj (hx101_0.symm.trans hx102_0)
      injection ea_ with ea_ en_ ec_
      subst ea_
      subst ec_
      clear en_
      have ea_ := Option.some.inj (hx101_1.symm.trans hx102_1)
      injection ea_ with ea_ en_ ec_
      subst ea_
      subst ec_
      clear en_
      have p103 : 0 ≤ (x8_2 : Int) := of_decide_eq_true (by first | (with_reducible assumption) | assumption)
      have q103 : x8_2 < (((rd_T36 l0 x7_1).f1).length : Int) := of_decide_eq_true (by first | (with_reducible assumption) | assumption)
      obtain ⟨ad103, e103, hx103_0, hx103_1, hx103_2, hx103_3, hx103_4, hx103_5⟩ := at_T38 HR102_1.out x8_2 p103 q103
      cases e103
      replace hx103_0 := oc HB.out hx103_0
      replace hx103_1 := oc HB.out hx103_1
      replace hx103_2 := oc HB.out hx103_2
      replace hx103_3 := oc HB.out hx103_3
      replace hx103_4 := oc HB.out hx103_4
      replace hx103_5 := oc HB.out hx103_5
      replace p103 := eq_true p103
      replace q103 := eq_true q103
      go_wp2_with (first | ((with_reducible refine gate_dst (N := 9) rfl ?_); refine box_event ?hg (N := 9) ?hd (cs := #[.string (⟨#[]⟩ : ByteArray), .string (⟨#[]⟩ : ByteArray), .int .i64 0, .int .i64 0, .int .i64 0, .int .i64 0]) (t := 38) ?hr ?_; (case hd => rfl); (case hg => rfl); (case hr => go_simp; try rfl); intro gb104 hg w19 hbox hb; refine mv3 (am (below_step (by exact bl_o HB.out) hb)) (am (hbox)) (lei (by rw [hg]; exact (below_size (by exact bl_o HB.out)) : w.heap.size ≤ gb104)) ?_; clear HB; intro HB BK104 GW104; have GE104 := GW104; clear hb hbox hg; obtain ⟨hcz20_0, hcz20_1, hcz20_2, hcz20_3, hcz20_4, hcz20_5, hfz20_0, hfz20_1, hfz20_2, hfz20_3, hfz20_4, hfz20_5⟩ := cells6 BK104.out))
      go_roundg k2
      case measure => have := HK1.out; have := HK2.out; omega
      case rel => exact ⟨(true), ((((rd_T38 ((rd_T36 l0 x7_1).f1) x8_2).f5) != 0)), (wrap64 (x8_2 + 1)), (by first | rfl | (simp; done) | (simp [*]; done)), (by first | rfl | (simp; done) | (simp [*]; done)), (by first | rfl | (simp; done) | (simp [*]; done)), H', ⟨by have := HK1.out; have := HK2.out; omega⟩, ⟨by exact bl_g HB.out⟩⟩
     replace c12 := Bool.eq_false_iff.mpr c12
     subst c12
     replace H : (if x6_2 = true then (gangwaylaw18_mixed.l1 k2 l0 a1 (((rd_T38 ((rd_T36 l0 x7_1).f1) x8_2).f5) == 6) true x7_1 (wrap64 (x8_2 + 1))) else (if ((rd_T38 ((rd_T36 l0 x7_1).f1) x8_2).f5) = 6 then (gangwaylaw18_mixed.l1 k2 l0 a1 (((rd_T38 ((rd_T36 l0 x7_1).f1) x8_2).f5) == 6) false x7_1 (wrap64 (x8_2 + 1))) else (gangwaylaw18_mixed.l1 k2 l0 a1 (((rd_T38 ((rd_T36 l0 x7_1).f1) x8_2).f5) == 6) (((rd_T38 ((rd_T36 l0 x7_1).f1) x8_2).f5) != 0) x7_1 (wrap64 (x8_2 + 1))))) = some r := by rw [if_neg (show ¬ (false = true) by decide)] at H; exact H
     by_cases c21 : x6_2 = true
     ·
      subst c21
      replace H : (gangwaylaw18_mixed.l1 k2 l0 a1 (((rd_T38 ((rd_T36 l0 x7_1).f1) x8_2).f5) == 6) true x7_1 (wrap64 (x8_2 + 1))) = some r := by rw [if_pos rfl] at H; exact H
      have H' := am H
      clear H
      have p101 : 0 ≤ (x7_1 : Int) := of_decide_eq_true (by first | (with_reducible assumption) | assumption)
      have q101 : x7_1 < (l0.length : Int) := of_decide_eq_true (by first | (with_reducible assumption) | assumption)
      obtain ⟨ad101, A101_0, c101_0, A101_1, c101_1, e101, hx101_0, hx101_1, hl101_0, hi101_0, hl101_1, hi101_1⟩ := at_T36 HR0.out x7_1 p101 q101
      cases e101
      replace hx101_0 := oc HB.out hx101_0
      replace hx101_1 := oc HB.out hx101_1
      have HR101_0 := am hi101_0
      have HC101_0 := am hl101_0
      clear hi101_0 hl101_0
      have HR101_1 := am hi101_1
      have HC101_1 := am hl101_1
      clear hi101_1 hl101_1
      replace p101 := eq_true p101
      replace q101 := eq_true q101
      have p102 : 0 ≤ (x7_1 : Int) := of_decide_eq_true (by first | (with_reducible assumption) | assumption)
      have q102 : x7_1 < (l0.length : Int) := of_decide_eq_true (by first | (with_reducible assumption) | assumption)
      obtain ⟨ad102, A102_0, c102_0, A102_1, c102_1, e102, hx102_0, hx102_1, hl102_0, hi102_0, hl102_1, hi102_1⟩ := at_T36 HR0.out x7_1 p102 q102
      obtain rfl : ad101 = ad102 := (by injection e102)
      replace hx102_0 := oc HB.out hx102_0
      replace hx102_1 := oc HB.out hx102_1
      have HR102_0 := am hi102_0
      have HC102_0 := am hl102_0
      clear hi102_0 hl102_0
      have HR102_1 := am hi102_1
      have HC102_1 := am hl102_1
      clear hi102_1 hl102_1
      replace p102 := eq_true p102
      replace q102 := eq_true q102
      have ea_ := Option.some.inj (hx101_0.symm.trans hx102_0)
      injection ea_ with ea_ en_ ec_
      subst ea_
      subst ec_
      clear en_
      have ea_ := Option.some.inj (hx101_1.symm.trans hx102_1)
      injection ea_ with ea_ en_ ec_
      subst ea_
      subst ec_
      clear en_
      have p103 : 0 ≤ (x8_2 : Int) := of_decide_eq_true (by first | (with_reducible assumption) | assumption)
      have q103 : x8_2 < (((rd_T36 l0 x7_1).f1).length : Int) := of_decide_eq_true (by first | (with_reducible assumption) | assumption)
      obtain ⟨ad103, e103, hx103_0, hx103_1, hx103_2, hx103_3, hx103_4, hx103_5⟩ := at_T38 HR102_1.out x8_2 p103 q103
      cases e103
      replace hx103_0 := oc HB.out hx103_0
      replace hx103_1 := oc HB.out hx103_1
      replace hx103_2 := oc HB.out hx103_2
      replace hx103_3 := oc HB.out hx103_3
      replace hx103_4 := oc HB.out hx103_4
      replace hx103_5 := oc HB.out hx103_5
      replace p103 := eq_true p103
      replace q103 := eq_true q103
      go_wp2_with (first | ((with_reducible refine gate_dst (N := 9) rfl ?_); refine box_event ?hg (N := 9) ?hd (cs := #[.string (⟨#[]⟩ : ByteArray), .string (⟨#[]⟩ : ByteArray), .int .i64 0, .int .i64 0, .int .i64 0, .int .i64 0]) (t := 38) ?hr ?_; (case hd => rfl); (case hg => rfl); (case hr => go_simp; try rfl); intro gb104 hg w22 hbox hb; refine mv3 (am (below_step (by exact bl_o HB.out) hb)) (am (hbox)) (lei (by rw [hg]; exact (below_size (by exact bl_o HB.out)) : w.heap.size ≤ gb104)) ?_; clear HB; intro HB BK104 GW104; have GE104 := GW104; clear hb hbox hg; obtain ⟨hcz23_0, hcz23_1, hcz23_2, hcz23_3, hcz23_4, hcz23_5, hfz23_0, hfz23_1, hfz23_2, hfz23_3, hfz23_4, hfz23_5⟩ := cells6 BK104.out))
      go_roundg k2
      case measure => have := HK1.out; have := HK2.out; omega
      case rel => exact ⟨((((rd_T38 ((rd_T36 l0 x7_1).f1) x8_2).f5) == 6)), (true), (wrap64 (x8_2 + 1)), (by first | rfl | (simp; done) | (simp [*]; done)), (by first | rfl | (simp; done) | (simp [*]; done)), (by first | rfl | (simp; done) | (simp [*]; done)), H', ⟨by have := HK1.out; have := HK2.out; omega⟩, ⟨by exact bl_g HB.out⟩⟩
     replace c21 := Bool.eq_false_iff.mpr c21
     subst c21
     replace H : (if ((rd_T38 ((rd_T36 l0 x7_1).f1) x8_2).f5) = 6 then (gangwaylaw18_mixed.l1 k2 l0 a1 (((rd_T38 ((rd_T36 l0 x7_1).f1) x8_2).f5) == 6) false x7_1 (wrap64 (x8_2 + 1))) else (gangwaylaw18_mixed.l1 k2 l0 a1 (((rd_T38 ((rd_T36 l0 x7_1).f1) x8_2).f5) == 6) (((rd_T38 ((rd_T36 l0 x7_1).f1) x8_2).f5) != 0) x7_1 (wrap64 (x8_2 + 1)))) = some r := by rw [if_neg (show ¬ (false = true) by decide)] at H; exact H
     by_cases c24 : ((rd_T38 ((rd_T36 l0 x7_1).f1) x8_2).f5) = 6
     ·
      rw [if_pos c24] at H
      have c24b0 : (((rd_T38 ((rd_T36 l0 x7_1).f1) x8_2).f5) == 6) = true := beq_iff_eq.mpr c24
      have c24b1 : (((rd_T38 ((rd_T36 l0 x7_1).f1) x8_2).f5) != 6) = false := bne_eq_false_iff_eq.mpr c24
      clear c24
      have H' := am H
      clear H
      have p101 : 0 ≤ (x7_1 : Int) := of_decide_eq_true (by first | (with_reducible assumption) | assumption)
      have q101 : x7_1 < (l0.length : Int) := of_decide_eq_true (by first | (with_reducible assumption) | assumption)
      obtain ⟨ad101, A101_0, c101_0, A101_1, c101_1, e101, hx101_0, hx101_1, hl101_0, hi101_0, hl101_1, hi101_1⟩ := at_T36 HR0.out x7_1 p101 q101
      cases e101
      replace hx101_0 := oc HB.out hx101_0
      replace hx101_1 := oc HB.out hx101_1
      have HR101_0 := am hi101_0
      have HC101_0 := am hl101_0
      clear hi101_0 hl101_0
      have HR101_1 := am hi101_1
      have HC101_1 := am hl101_1
      clear hi101_1 hl101_1
      replace p101 := eq_true p101
      replace q101 := eq_true q101
      have p102 : 0 ≤ (x7_1 : Int) := of_decide_eq_true (by first | (with_reducible assumption) | assumption)
      have q102 : x7_1 < (l0.length : Int) := of_decide_eq_true (by first | (with_reducible assumption) | assumption)
      obtain ⟨ad102, A102_0, c102_0, A102_1, c102_1, e102, hx102_0, hx102_1, hl102_0, hi102_0, hl102_1, hi102_1⟩ := at_T36 HR0.out x7_1 p102 q102
      obtain rfl : ad101 = ad102 := (by injection e102)
      replace hx102_0 := oc HB.out hx102_0
      replace hx102_1 := oc HB.out hx102_1
      have HR102_0 := am hi102_0
      have HC102_0 := am hl102_0
      clear hi102_0 hl102_0
      have HR102_1 := am hi102_1
      have HC102_1 := am hl102_1
      clear hi102_1 hl102_1
      replace p102 := eq_true p102
      replace q102 := eq_true q102
      have ea_ := Option.some.inj (hx101_0.symm.trans hx102_0)
      injection ea_ with ea_ en_ ec_
      subst ea_
      subst ec_
      clear en_
      have ea_ := Option.some.inj (hx101_1.symm.trans hx102_1)
      injection ea_ with ea_ en_ ec_
      subst ea_
      subst ec_
      clear en_
      have p103 : 0 ≤ (x8_2 : Int) := of_decide_eq_true (by first | (with_reducible assumption) | assumption)
      have q103 : x8_2 < (((rd_T36 l0 x7_1).f1).length : Int) := of_decide_eq_true (by first | (with_reducible assumption) | assumption)
      obtain ⟨ad103, e103, hx103_0, hx103_1, hx103_2, hx103_3, hx103_4, hx103_5⟩ := at_T38 HR102_1.out x8_2 p103 q103
      cases e103
      replace hx103_0 := oc HB.out hx103_0
      replace hx103_1 := oc HB.out hx103_1
      replace hx103_2 := oc HB.out hx103_2
      replace hx103_3 := oc HB.out hx103_3
      replace hx103_4 := oc HB.out hx103_4
      replace hx103_5 := oc HB.out hx103_5
      replace p103 := eq_true p103
      replace q103 := eq_true q103
      go_wp2_with (first | ((with_reducible refine gate_dst (N := 9) rfl ?_); refine box_event ?hg (N := 9) ?hd (cs := #[.string (⟨#[]⟩ : ByteArray), .string (⟨#[]⟩ : ByteArray), .int .i64 0, .int .i64 0, .int .i64 0, .int .i64 0]) (t := 38) ?hr ?_; (case hd => rfl); (case hg => rfl); (case hr => go_simp; try rfl); intro gb104 hg w25 hbox hb; refine mv3 (am (below_step (by exact bl_o HB.out) hb)) (am (hbox)) (lei (by rw [hg]; exact (below_size (by exact bl_o HB.out)) : w.heap.size ≤ gb104)) ?_; clear HB; intro HB BK104 GW104; have GE104 := GW104; clear hb hbox hg; obtain ⟨hcz26_0, hcz26_1, hcz26_2, hcz26_3, hcz26_4, hcz26_5, hfz26_0, hfz26_1, hfz26_2, hfz26_3, hfz26_4, hfz26_5⟩ := cells6 BK104.out))
      go_roundg k2
      case measure => have := HK1.out; have := HK2.out; omega
      case rel => exact ⟨((((rd_T38 ((rd_T36 l0 x7_1).f1) x8_2).f5) == 6)), (false), (wrap64 (x8_2 + 1)), (by first | rfl | (simp; done) | (simp [*]; done)), (by first | rfl | (simp; done) | (simp [*]; done)), (by first | rfl | (simp; done) | (simp [*]; done)), H', ⟨by have := HK1.out; have := HK2.out; omega⟩, ⟨by exact bl_g HB.out⟩⟩
     rw [if_neg c24] at H
     have c24b0 : (((rd_T38 ((rd_T36 l0 x7_1).f1) x8_2).f5) == 6) = false := beq_eq_false_iff_ne.mpr c24
     have c24b1 : (((rd_T38 ((rd_T36 l0 x7_1).f1) x8_2).f5) != 6) = true := bne_iff_ne.mpr c24
     have H' := am H
     clear H
     have p101 : 0 ≤ (x7_1 : Int) := of_decide_eq_true (by first | (with_reducible assumption) | assumption)
     have q101 : x7_1 < (l0.length : Int) := of_decide_eq_true (by first | (with_reducible assumption) | assumption)
     obtain ⟨ad101, A101_0, c101_0, A101_1, c101_1, e101, hx101_0, hx101_1, hl101_0, hi101_0, hl101_1, hi101_1⟩ := at_T36 HR0.out x7_1 p101 q101
     cases e101
     replace hx101_0 := oc HB.out hx101_0
     replace hx101_1 := oc HB.out hx101_1
     have HR101_0 := am hi101_0
     have HC101_0 := am hl101_0
     clear hi101_0 hl101_0
     have HR101_1 := am hi101_1
     have HC101_1 := am hl101_1
     clear hi101_1 hl101_1
     replace p101 := eq_true p101
     replace q101 := eq_true q101
     have p102 : 0 ≤ (x7_1 : Int) := of_decide_eq_true (by first | (with_reducible assumption) | assumption)
     have q102 : x7_1 < (l0.length : Int) := of_decide_eq_true (by first | (with_reducible assumption) | assumption)
     obtain ⟨ad102, A102_0, c102_0, A102_1, c102_1, e102, hx102_0, hx102_1, hl102_0, hi102_0, hl102_1, hi102_1⟩ := at_T36 HR0.out x7_1 p102 q102
     obtain rfl : ad101 = ad102 := (by injection e102)
     replace hx102_0 := oc HB.out hx102_0
     replace hx102_1 := oc HB.out hx102_1
     have HR102_0 := am hi102_0
     have HC102_0 := am hl102_0
     clear hi102_0 hl102_0
     have HR102_1 := am hi102_1
     have HC102_1 := am hl102_1
     clear hi102_1 hl102_1
     replace p102 := eq_true p102
     replace q102 := eq_true q102
     have ea_ := Option.some.inj (hx101_0.symm.trans hx102_0)
     injection ea_ with ea_ en_ ec_
     subst ea_
     subst ec_
     clear en_
     have ea_ := Option.some.inj (hx101_1.symm.trans hx102_1)
     injection ea_ with ea_ en_ ec_
     subst ea_
     subst ec_
     clear en_
     have p103 : 0 ≤ (x8_2 : Int) := of_decide_eq_true (by first | (with_reducible assumption) | assumption)
     have q103 : x8_2 < (((rd_T36 l0 x7_1).f1).length : Int) := of_decide_eq_true (by first | (with_reducible assumption) | assumption)
     obtain ⟨ad103, e103, hx103_0, hx103_1, hx103_2, hx103_3, hx103_4, hx103_5⟩ := at_T38 HR102_1.out x8_2 p103 q103
     cases e103
     replace hx103_0 := oc HB.out hx103_0
     replace hx103_1 := oc HB.out hx103_1
     replace hx103_2 := oc HB.out hx103_2
     replace hx103_3 := oc HB.out hx103_3
     replace hx103_4 := oc HB.out hx103_4
     replace hx103_5 := oc HB.out hx103_5
     replace p103 := eq_true p103
     replace q103 := eq_true q103
     go_wp2_with (first | ((with_reducible refine gate_dst (N := 9) rfl ?_); refine box_event ?hg (N := 9) ?hd (cs := #[.string (⟨#[]⟩ : ByteArray), .string (⟨#[]⟩ : ByteArray), .int .i64 0, .int .i64 0, .int .i64 0, .int .i64 0]) (t := 38) ?hr ?_; (case hd => rfl); (case hg => rfl); (case hr => go_simp; try rfl); intro gb104 hg w27 hbox hb; refine mv3 (am (below_step (by exact bl_o HB.out) hb)) (am (hbox)) (lei (by rw [hg]; exact (below_size (by exact bl_o HB.out)) : w.heap.size ≤ gb104)) ?_; clear HB; intro HB BK104 GW104; have GE104 := GW104; clear hb hbox hg; obtain ⟨hcz28_0, hcz28_1, hcz28_2, hcz28_3, hcz28_4, hcz28_5, hfz28_0, hfz28_1, hfz28_2, hfz28_3, hfz28_4, hfz28_5⟩ := cells6 BK104.out))
     go_roundg k2
     case measure => have := HK1.out; have := HK2.out; omega
     case rel => exact ⟨((((rd_T38 ((rd_T36 l0 x7_1).f1) x8_2).f5) == 6)), ((((rd_T38 ((rd_T36 l0 x7_1).f1) x8_2).f5) != 0)), (wrap64 (x8_2 + 1)), (by first | rfl | (simp; done) | (simp [*]; done)), (by first | rfl | (simp; done) | (simp [*]; done)), (by first | rfl | (simp; done) | (simp [*]; done)), H', ⟨by have := HK1.out; have := HK2.out; omega⟩, ⟨by exact bl_g HB.out⟩⟩
end Go.Proofs.Ytibkcnlcmempgaa.G
end
