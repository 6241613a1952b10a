/- Lemmas and contracts, one text behind the other: what the row of this claim needs; no conditions beyond those that each theorem names. -/
import Derived.Test.YtibkcnlcmempgaaRows
import Derived.ChangeArms
import Derived.DataReads
import Derived.SizedLaws
import Derived.Test.YtibkcnlcmempgaaVL4
section
namespace Go.Proofs.Ytibkcnlcmempgaa.G
open Go.RowKit Go.Proofs.YtibkcnlcmempgaaW.PrintWords Go.Proofs.YtibkcnlcmempgaaW.PrintLast Go.Proofs.YtibkcnlcmempgaaW.PrintMore
attribute [local go_sem] max2_int min2_int max_two min_two max_three min_three max_four min_four   -- for this text's walks alone
set_option linter.unusedVariables false
set_option linter.unusedSimpArgs false
def gangwaylaw18_ResolveLooks.l0 : Nat → List (S36) → List (S50) → Int → ByteArray → List (S42) → Int → Option (Bool)
 | 0, _, _, _, _, _, _ => none
 | k + 1, x0, x1, x2, x3, x9, x10 => if x10 < (x1.length : Int) then (if 0 ≤ x10 then (if x9.length < 2932031007402 then (gangwaylaw18_ResolveLooks.l0 k x0 x1 x2 x3 (x9 ++ [(⟨(rd_T50 x1 x10).f0, (rd_T50 x1 x10).f1, (rd_T50 x1 x10).f2, (rd_T50 x1 x10).f3, (rd_T50 x1 x10).f4⟩ : S42)]) (wrap64 (x10 + 1))) else (none)) else (none)) else ((resolve_Find.f k x9 x3).bind fun bt109 => ((gangwayref18_Find.f k x1 x3).bind fun bt116 => ((resolve_Look.f k x0 x9 x2 x3).bind fun bt123 => ((gangwayref18_Look.f k x0 x1 x2 x3).bind fun bt126 => (if (bt109.2.2.2.2.2 == bt116.2.2.2.2.2) = true then (if bt109.1.toList = bt116.1.toList then (if bt109.2.1 = bt116.2.1 then (if bt109.2.2.1 = bt116.2.2.1 then (if bt109.2.2.2.1 = bt116.2.2.2.1 then (if bt109.2.2.2.2.1 = bt116.2.2.2.2.1 then (if bt123.1 = bt126.1 then (if bt123.2.1 = bt126.2.1 then ((gangwaylaw18_num.f bt123.2.2).bind fun t129 => (if t129 = bt126.2.2 then ((gangwaylaw18_live.f).bind fun t130 => (some t130)) else (none))) else (none)) else (none)) else (none)) else (none)) else (none)) else (none)) else (none)) else (none))))))
def gangwaylaw18_ResolveLooks.f (k : Nat) (l0 : List (S36)) (l1 : List (S50)) (a2 : Int) (a3 : ByteArray) : Option (Bool) := gangwaylaw18_ResolveLooks.l0 k l0 l1 a2 a3 ([] : List (S42)) 0
def gangwaylaw18_ResolveLooks.T5 : Bool × List (List Nat × List Nat) := (true, [([], []), ([], []), ([], []), ([1, 2], [1, 2]), ([3], [3]), ([4], [4]), ([], []), ([], []), ([6, 7], [6, 7]), ([8], [8]), ([9], [9]), ([], []), ([], []), ([11, 12], [11, 12]), ([13], [13]), ([14], [14]), ([], []), ([], []), ([16, 17], [16, 17]), ([18], [18]), ([19], [19]), ([], []), ([], []), ([21, 22], [21, 22]), ([23], [23]), ([24], [24]), ([5, 10, 15, 20, 25], [5, 10, 15, 20, 25]), ([26], [26]), ([0, 27], [0, 27]), ([28, 28, 0, 1, 2, 3, 4, 5, 6, 7, 8, 9, 10, 11, 12, 13, 14, 15, 16, 17, 18, 19, 20, 21, 22, 23, 24, 25, 26, 27, 28], [0, 28])])
def gangwaylaw18_ResolveLooks.B5 : List Nat := [0, 0, 0, 6, 14, 30, 0, 0, 192, 448, 960, 0, 0, 6144, 14336, 30720, 0, 0, 196608, 458752, 983040, 0, 0, 6291456, 14680064, 31457280, 67108862, 134217726, 268435455, 536870911]
theorem gangwaylaw18_ResolveLooks.tab5 : rtab .any (opsOf Try.f6 5) = gangwaylaw18_ResolveLooks.T5 := by kernel_rfl
theorem gangwaylaw18_ResolveLooks.bits5 : waitsOk gangwaylaw18_ResolveLooks.T5.2 gangwaylaw18_ResolveLooks.B5 = true := by kernel_rfl
set_option maxHeartbeats 8000000 in
set_option maxRecDepth 100000 in
theorem gangwaylaw18_ResolveLooks.calls (k : Nat) (A0 : Option Addr) (c0 : Nat) (l0 : List (S36)) (A1 : Option Addr) (c1 : Nat) (l1 : List (S50)) (a2 : Int) (a3 : ByteArray) (r : Bool) (w : World) (hr0 : Kd.C k36 w A0 l0.length l0) (hc0 : l0.length ≤ c0) (hr1 : Kd.C k50 w A1 l1.length l1) (hc1 : l1.length ≤ c1) (h : gangwaylaw18_ResolveLooks.f k l0 l1 a2 a3 = some r) :
  Calls Try.prog 6 #[.slice A0 l0.length c0, .slice A1 l1.length c1, .int .i64 a2, .string a3] w fun e w' => e = .returned (.bool r) ∧ Below w.heap.size w w' := by
 have hu42 := Try.underlying42
 have hu50 := Try.underlying50
 have HR0 := Aside0.mk hr0
 have HC0 := Aside0.mk hc0
 clear hr0 hc0
 have HR1 := Aside0.mk hr1
 have HC1 := Aside0.mk hc1
 clear hr1 hc1
 have HB := Aside0.mk (Below.refl w.heap.size w)
 have H : (gangwaylaw18_ResolveLooks.l0 k l0 l1 a2 a3 ([] : List (S42)) 0) = some r := h
 clear h
 have H' := Aside0.mk H
 clear H
 go_enter Try.func6, Try.ntmps6
 go_wp2
 go_loopg [9, 10] k (fun kq v9 v10 w' => ∃ (x9_1 : List (S42)) (x10_1 : Int), v10 = .int .i64 x10_1 ∧ Aside0 (gangwaylaw18_ResolveLooks.l0 kq l0 l1 a2 a3 x9_1 x10_1 = some r) ∧ Aside0 (kq ≤ k) ∧ Aside0 (Kd.R k42 42 w' w.heap.size (fun _ => True) v9 x9_1) ∧ Aside0 (Below w.heap.size w w'))
 case atStart => exact ⟨(([] : List (S42))), (0), (by first | rfl | (simp; done) | (simp [*]; done) | (simp [show ∀ l_ : List UInt8, (l_ != []) = !l_.isEmpty from fun l_ => by cases l_ <;> rfl]; done) | (congr 1; refine congr (congrArg (Go.bits _ _) ?_) ?_ <;> omega)), H', ⟨Nat.le_refl _⟩, ⟨by first | exact Kd.R_nil _ _ _ _ _ | exact Kd.N_nil _ _ _ _ _ | exact Kd.V_nil _ _ _ _ _ | exact Kd.Q_nil _ _ _ _ _ | exact Kd.S_nil _ _ _ _ _⟩, ⟨by repeat (first | (with_reducible first | exact HB.out | apply below_alloc | apply pw_below_drewN | apply below_drew1) | exact HB.out)⟩⟩
 case round =>
  clear H'
  try clear c1
  try clear p2
  obtain ⟨x9_1, x10_1, rfl, HA, HK1, HO_9, HB⟩ := hrel
  cases gk with
  | zero => exact absurd HA.out (by simp [gangwaylaw18_ResolveLooks.l0])
  | succ k1 =>
   have H := HA.out
   clear HA
   simp only [gangwaylaw18_ResolveLooks.l0] at H
   by_cases c5 : x10_1 < (l1.length : Int)
   ·
    rw [if_pos c5] at H
    have c5b0 : decide (x10_1 < (l1.length : Int)) = true := decide_eq_true c5
    clear c5
    by_cases c6 : 0 ≤ x10_1
    ·
     rw [if_pos c6] at H
     have c6b0 : decide (0 ≤ x10_1) = true := decide_eq_true c6
     clear c6
     by_cases c7 : x9_1.length < 2932031007402
     ·
      rw [if_pos c7] at H
      have LMc7 := Aside0.mk c7
      clear c7
      obtain ⟨y106, hy106⟩ : ∃ y_ : List (S42), y_ = (x9_1 ++ [(⟨(rd_T50 l1 x10_1).f0, (rd_T50 l1 x10_1).f1, (rd_T50 l1 x10_1).f2, (rd_T50 l1 x10_1).f3, (rd_T50 l1 x10_1).f4⟩ : S42)]) := ⟨_, rfl⟩
      replace H : (gangwaylaw18_ResolveLooks.l0 k1 l0 l1 a2 a3 y106 (wrap64 (x10_1 + 1))) = some r := by first | (rw [hy106]; with_reducible exact H) | (have H2_ := (Option.bind_some _ _).symm.trans H; rw [hy106]; with_reducible exact H2_) | (have H2_ := (Option.bind_some _ _).symm.trans H; with_reducible exact H2_) | with_reducible exact H | (rw [hy106]; exact H) | exact H
      have Ny106 := Aside0.mk hy106
      clear hy106
      have H' := Aside0.mk H
      clear H
      try go_wp2
      have n0_ := Aside0.mk (Kd.R_drew HO_9.out)
      have n1_ := Aside0.mk (below_drew1 HB.out)
      clear HO_9
      clear HB
      have HO_9 := n0_
      have HB := n1_
      clear n0_ n1_
      have p101 : 0 ≤ (x10_1 : Int) := of_decide_eq_true (by first | (with_reducible assumption) | assumption)
      have q101 : x10_1 < (l1.length : Int) := of_decide_eq_true (by first | (with_reducible assumption) | assumption)
      obtain ⟨ad101, e101, hx101_0, hx101_1, hx101_2, hx101_3, hx101_4⟩ := at_T50 HR1.out x10_1 p101 q101
      have hw101_4 := hx101_4
      have hw101_3 := hx101_3
      have hw101_2 := hx101_2
      have hw101_1 := hx101_1
      have hw101_0 := hx101_0
      cases e101
      replace hx101_0 := (HB.out.cell (World.block_lt_of_cell? w _ hx101_0)).trans hx101_0
      replace hx101_1 := (HB.out.cell (World.block_lt_of_cell? w _ hx101_1)).trans hx101_1
      replace hx101_2 := (HB.out.cell (World.block_lt_of_cell? w _ hx101_2)).trans hx101_2
      replace hx101_3 := (HB.out.cell (World.block_lt_of_cell? w _ hx101_3)).trans hx101_3
      replace hx101_4 := (HB.out.cell (World.block_lt_of_cell? w _ hx101_4)).trans hx101_4
      replace p101 := eq_true p101
      replace q101 := eq_true q101
      have p102 : 0 ≤ (x10_1 : Int) := of_decide_eq_true (by first | (with_reducible assumption) | assumption)
      have q102 : x10_1 < (l1.length : Int) := of_decide_eq_true (by first | (with_reducible assumption) | assumption)
      obtain ⟨ad102, e102, hx102_0, hx102_1, hx102_2, hx102_3, hx102_4⟩ := at_T50 HR1.out x10_1 p102 q102
      have hw102_4 := hx102_4
      have hw102_3 := hx102_3
      have hw102_2 := hx102_2
      have hw102_1 := hx102_1
      have hw102_0 := hx102_0
      obtain rfl : ad101 = ad102 := (by injection e102)
      replace hx102_0 := (HB.out.cell (World.block_lt_of_cell? w _ hx102_0)).trans hx102_0
      replace hx102_1 := (HB.out.cell (World.block_lt_of_cell? w _ hx102_1)).trans hx102_1
      replace hx102_2 := (HB.out.cell (World.block_lt_of_cell? w _ hx102_2)).trans hx102_2
      replace hx102_3 := (HB.out.cell (World.block_lt_of_cell? w _ hx102_3)).trans hx102_3
      replace hx102_4 := (HB.out.cell (World.block_lt_of_cell? w _ hx102_4)).trans hx102_4
      replace p102 := eq_true p102
      replace q102 := eq_true q102
      have p103 : 0 ≤ (x10_1 : Int) := of_decide_eq_true (by first | (with_reducible assumption) | assumption)
      have q103 : x10_1 < (l1.length : Int) := of_decide_eq_true (by first | (with_reducible assumption) | assumption)
      obtain ⟨ad103, e103, hx103_0, hx103_1, hx103_2, hx103_3, hx103_4⟩ := at_T50 HR1.out x10_1 p103 q103
      have hw103_4 := hx103_4
      have hw103_3 := hx103_3
      have hw103_2 := hx103_2
      have hw103_1 := hx103_1
      have hw103_0 := hx103_0
      obtain rfl : ad101 = ad103 := (by injection e103)
      replace hx103_0 := (HB.out.cell (World.block_lt_of_cell? w _ hx103_0)).trans hx103_0
      replace hx103_1 := (HB.out.cell (World.block_lt_of_cell? w _ hx103_1)).trans hx103_1
      replace hx103_2 := (HB.out.cell (World.block_lt_of_cell? w _ hx103_2)).trans hx103_2
      replace hx103_3 := (HB.out.cell (World.block_lt_of_cell? w _ hx103_3)).trans hx103_3
      replace hx103_4 := (HB.out.cell (World.block_lt_of_cell? w _ hx103_4)).trans hx103_4
      replace p103 := eq_true p103
      replace q103 := eq_true q103
      have p104 : 0 ≤ (x10_1 : Int) := of_decide_eq_true (by first | (with_reducible assumption) | assumption)
      have q104 : x10_1 < (l1.length : Int) := of_decide_eq_true (by first | (with_reducible assumption) | assumption)
      obtain ⟨ad104, e104, hx104_0, hx104_1, hx104_2, hx104_3, hx104_4⟩ := at_T50 HR1.out x10_1 p104 q104
      have hw104_4 := hx104_4
      have hw104_3 := hx104_3
      have hw104_2 := hx104_2
      have hw104_1 := hx104_1
      have hw104_0 := hx104_0
      obtain rfl : ad101 = ad104 := (by injection e104)
      replace hx104_0 := (HB.out.cell (World.block_lt_of_cell? w _ hx104_0)).trans hx104_0
      replace hx104_1 := (HB.out.cell (World.block_lt_of_cell? w _ hx104_1)).trans hx104_1
      replace hx104_2 := (HB.out.cell (World.block_lt_of_cell? w _ hx104_2)).trans hx104_2
      replace hx104_3 := (HB.out.cell (World.block_lt_of_cell? w _ hx104_3)).trans hx104_3
      replace hx104_4 := (HB.out.cell (World.block_lt_of_cell? w _ hx104_4)).trans hx104_4
      replace p104 := eq_true p104
      replace q104 := eq_true q104
      have p105 : 0 ≤ (x10_1 : Int) := of_decide_eq_true (by first | (with_reducible assumption) | assumption)
      have q105 : x10_1 < (l1.length : Int) := of_decide_eq_true (by first | (with_reducible assumption) | assumption)
      obtain ⟨ad105, e105, hx105_0, hx105_1, hx105_2, hx105_3, hx105_4⟩ := at_T50 HR1.out x10_1 p105 q105
      have hw105_4 := hx105_4
      have hw105_3 := hx105_3
      have hw105_2 := hx105_2
      have hw105_1 := hx105_1
      have hw105_0 := hx105_0
      obtain rfl : ad101 = ad105 := (by injection e105)
      replace hx105_0 := (HB.out.cell (World.block_lt_of_cell? w _ hx105_0)).trans hx105_0
      replace hx105_1 := (HB.out.cell (World.block_lt_of_cell? w _ hx105_1)).trans hx105_1
      replace hx105_2 := (HB.out.cell (World.block_lt_of_cell? w _ hx105_2)).trans hx105_2
      replace hx105_3 := (HB.out.cell (World.block_lt_of_cell? w _ hx105_3)).trans hx105_3
      replace hx105_4 := (HB.out.cell (World.block_lt_of_cell? w _ hx105_4)).trans hx105_4
      replace p105 := eq_true p105
      replace q105 := eq_true q105
      refine start_ (n := 30) (S := fun w' => w'.cell? (ad101.add ((x10_1).toNat * 5)) = some (.string ((rd_T50 l1 x10_1).f0)) ∧ w'.cell? ⟨(ad101.add ((x10_1).toNat * 5)).block, (ad101.add ((x10_1).toNat * 5)).off + 1, none⟩ = some (.int .i64 ((rd_T50 l1 x10_1).f1)) ∧ w'.cell? ⟨(ad101.add ((x10_1).toNat * 5)).block, (ad101.add ((x10_1).toNat * 5)).off + 2, none⟩ = some (.int .i64 ((rd_T50 l1 x10_1).f2)) ∧ w'.cell? ⟨(ad101.add ((x10_1).toNat * 5)).block, (ad101.add ((x10_1).toNat * 5)).off + 3, none⟩ = some (.int .i64 ((rd_T50 l1 x10_1).f3)) ∧ w'.cell? ⟨(ad101.add ((x10_1).toNat * 5)).block, (ad101.add ((x10_1).toNat * 5)).off + 4, none⟩ = some (.int .i64 ((rd_T50 l1 x10_1).f4)) ∧ w'.cell? (ad101.add ((x10_1).toNat * 5)) = some (.string ((rd_T50 l1 x10_1).f0)) ∧ w'.cell? ⟨(ad101.add ((x10_1).toNat * 5)).block, (ad101.add ((x10_1).toNat * 5)).off + 1, none⟩ = some (.int .i64 ((rd_T50 l1 x10_1).f1)) ∧ w'.cell? ⟨(ad101.add ((x10_1).toNat * 5)).block, (ad101.add ((x10_1).toNat * 5)).off + 2, none⟩ = some (.int .i64 ((rd_T50 l1 x10_1).f2)) ∧ w'.cell? ⟨(ad101.add ((x10_1).toNat * 5)).block, (ad101.add ((x10_1).toNat * 5)).off + 3, none⟩ = some (.int .i64 ((rd_T50 l1 x10_1).f3)) ∧ w'.cell? ⟨(ad101.add ((x10_1).toNat * 5)).block, (ad101.add ((x10_1).toNat * 5)).off + 4, none⟩ = some (.int .i64 ((rd_T50 l1 x10_1).f4)) ∧ w'.cell? (ad101.add ((x10_1).toNat * 5)) = some (.string ((rd_T50 l1 x10_1).f0)) ∧ w'.cell? ⟨(ad101.add ((x10_1).toNat * 5)).block, (ad101.add ((x10_1).toNat * 5)).off + 1, none⟩ = some (.int .i64 ((rd_T50 l1 x10_1).f1)) ∧ w'.cell? ⟨(ad101.add ((x10_1).toNat * 5)).block, (ad101.add ((x10_1).toNat * 5)).off + 2, none⟩ = some (.int .i64 ((rd_T50 l1 x10_1).f2)) ∧ w'.cell? ⟨(ad101.add ((x10_1).toNat * 5)).block, (ad101.add ((x10_1).toNat * 5)).off + 3, none⟩ = some (.int .i64 ((rd_T50 l1 x10_1).f3)) ∧ w'.cell? ⟨(ad101.add ((x10_1).toNat * 5)).block, (ad101.add ((x10_1).toNat * 5)).off + 4, none⟩ = some (.int .i64 ((rd_T50 l1 x10_1).f4)) ∧ w'.cell? (ad101.add ((x10_1).toNat * 5)) = some (.string ((rd_T50 l1 x10_1).f0)) ∧ w'.cell? ⟨(ad101.add ((x10_1).toNat * 5)).block, (ad101.add ((x10_1).toNat * 5)).off + 1, none⟩ = some (.int .i64 ((rd_T50 l1 x10_1).f1)) ∧ w'.cell? ⟨(ad101.add ((x10_1).toNat * 5)).block, (ad101.add ((x10_1).toNat * 5)).off + 2, none⟩ = some (.int .i64 ((rd_T50 l1 x10_1).f2)) ∧ w'.cell? ⟨(ad101.add ((x10_1).toNat * 5)).block, (ad101.add ((x10_1).toNat * 5)).off + 3, none⟩ = some (.int .i64 ((rd_T50 l1 x10_1).f3)) ∧ w'.cell? ⟨(ad101.add ((x10_1).toNat * 5)).block, (ad101.add ((x10_1).toNat * 5)).off + 4, none⟩ = some (.int .i64 ((rd_T50 l1 x10_1).f4)) ∧ w'.cell? (ad101.add ((x10_1).toNat * 5)) = some (.string ((rd_T50 l1 x10_1).f0)) ∧ w'.cell? ⟨(ad101.add ((x10_1).toNat * 5)).block, (ad101.add ((x10_1).toNat * 5)).off + 1, none⟩ = some (.int .i64 ((rd_T50 l1 x10_1).f1)) ∧ w'.cell? ⟨(ad101.add ((x10_1).toNat * 5)).block, (ad101.add ((x10_1).toNat * 5)).off + 2, none⟩ = some (.int .i64 ((rd_T50 l1 x10_1).f2)) ∧ w'.cell? ⟨(ad101.add ((x10_1).toNat * 5)).block, (ad101.add ((x10_1).toNat * 5)).off + 3, none⟩ = some (.int .i64 ((rd_T50 l1 x10_1).f3)) ∧ w'.cell? ⟨(ad101.add ((x10_1).toNat * 5)).block, (ad101.add ((x10_1).toNat * 5)).off + 4, none⟩ = some (.int .i64 ((rd_T50 l1 x10_1).f4))) (ds := []) #[false, false, false, false, false, false, false, false, false, false, false, false, false, false, false, false, false, false, false, false, false, false, false, false, false, false, false, false, false, false] (by kernel_rfl) rfl rfl ⟨((HB.out.cell (World.block_lt_of_cell? w _ hw101_0)).trans hw101_0), ((HB.out.cell (World.block_lt_of_cell? w _ hw101_1)).trans hw101_1), ((HB.out.cell (World.block_lt_of_cell? w _ hw101_2)).trans hw101_2), ((HB.out.cell (World.block_lt_of_cell? w _ hw101_3)).trans hw101_3), ((HB.out.cell (World.block_lt_of_cell? w _ hw101_4)).trans hw101_4), ((HB.out.cell (World.block_lt_of_cell? w _ hw102_0)).trans hw102_0), ((HB.out.cell (World.block_lt_of_cell? w _ hw102_1)).trans hw102_1), ((HB.out.cell (World.block_lt_of_cell? w _ hw102_2)).trans hw102_2), ((HB.out.cell (World.block_lt_of_cell? w _ hw102_3)).trans hw102_3), ((HB.out.cell (World.block_lt_of_cell? w _ hw102_4)).trans hw102_4), ((HB.out.cell (World.block_lt_of_cell? w _ hw103_0)).trans hw103_0), ((HB.out.cell (World.block_lt_of_cell? w _ hw103_1)).trans hw103_1), ((HB.out.cell (World.block_lt_of_cell? w _ hw103_2)).trans hw103_2), ((HB.out.cell (World.block_lt_of_cell? w _ hw103_3)).trans hw103_3), ((HB.out.cell (World.block_lt_of_cell? w _ hw103_4)).trans hw103_4), ((HB.out.cell (World.block_lt_of_cell? w _ hw104_0)).trans hw104_0), ((HB.out.cell (World.block_lt_of_cell? w _ hw104_1)).trans hw104_1), ((HB.out.cell (World.block_lt_of_cell? w _ hw104_2)).trans hw104_2), ((HB.out.cell (World.block_lt_of_cell? w _ hw104_3)).trans hw104_3), ((HB.out.cell (World.block_lt_of_cell? w _ hw104_4)).trans hw104_4), ((HB.out.cell (World.block_lt_of_cell? w _ hw105_0)).trans hw105_0), ((HB.out.cell (World.block_lt_of_cell? w _ hw105_1)).trans hw105_1), ((HB.out.cell (World.block_lt_of_cell? w _ hw105_2)).trans hw105_2), ((HB.out.cell (World.block_lt_of_cell? w _ hw105_3)).trans hw105_3), ((HB.out.cell (World.block_lt_of_cell? w _ hw105_4)).trans hw105_4)⟩ (fun hHeld => ?_); refine with_tabW gangwaylaw18_ResolveLooks.tab5 gangwaylaw18_ResolveLooks.bits5 (fun HT_ HW_ => ?_)
      generalize wr.drew = w8 at HO_9 HB hx101_0 hx101_1 hx101_2 hx101_3 hx101_4 hx102_0 hx102_1 hx102_2 hx102_3 hx102_4 hx103_0 hx103_1 hx103_2 hx103_3 hx103_4 hx104_0 hx104_1 hx104_2 hx104_3 hx104_4 hx105_0 hx105_1 hx105_2 hx105_3 hx105_4 hHeld ⊢
      refine pure_ (i := 0) (N := some 27) (v := ?_) (a' := ?_) #[true, false, false, false, false, false, false, false, false, false, false, false, false, false, false, false, false, false, false, false, false, false, false, false, false, false, false, false, false, false] rfl rfl (any_of HT_.out (by kernel_rfl)) (fun _ _ _ h => h) (Or.inl ⟨by rfl, ?_⟩) ?_ ?_
      rotate_left
      ·
       intro w'
       go_simp
       with_reducible rfl
      rotate_left
      ·
       simp only [Act.put, List.setIfInBounds_toArray, List.set_cons_zero, List.set_cons_succ, i64_w, i32_w]
       rfl
      refine pure_ (i := 1) (N := some 28) (v := ?_) (a' := ?_) #[true, true, false, false, false, false, false, false, false, false, false, false, false, false, false, false, false, false, false, false, false, false, false, false, false, false, false, false, false, false] rfl rfl (any_of HT_.out (by kernel_rfl)) (fun _ _ _ h => h) (Or.inl ⟨by rfl, ?_⟩) ?_ ?_
      rotate_left
      ·
       intro w'
       go_simp
       with_reducible rfl
      rotate_left
      ·
       simp only [Act.put, List.setIfInBounds_toArray, List.set_cons_zero, List.set_cons_succ, i64_w, i32_w]
       rfl
      refine pure_ (i := 2) (N := some 29) (v := ?_) (a' := ?_) #[true, true, true, false, false, false, false, false, false, false, false, false, false, false, false, false, false, false, false, false, false, false, false, false, false, false, false, false, false, false] rfl rfl (any_of HT_.out (by kernel_rfl)) (fun _ _ _ h => h) (Or.inl ⟨by rfl, ?_⟩) ?_ ?_
      rotate_left
      ·
       intro w'
       go_simp
       with_reducible rfl
      rotate_left
      ·
       simp only [Act.put, List.setIfInBounds_toArray, List.set_cons_zero, List.set_cons_succ, i64_w, i32_w]
       rfl
      refine pure_ (i := 3) (N := some 30) (v := ?_) (a' := ?_) #[true, true, true, true, false, false, false, false, false, false, false, false, false, false, false, false, false, false, false, false, false, false, false, false, false, false, false, false, false, false] rfl rfl (any_of HT_.out (by kernel_rfl)) (fun _ _ _ h => h) (Or.inl ⟨by rfl, ?_⟩) ?_ ?_
      rotate_left
      ·
       intro w'
       go_simp
       with_reducible rfl
      rotate_left
      ·
       simp only [Act.put, List.setIfInBounds_toArray, List.set_cons_zero, List.set_cons_succ, i64_w, i32_w]
       rfl
      refine pure_ (i := 4) (N := some 31) (v := ?_) (a' := ?_) #[true, true, true, true, true, false, false, false, false, false, false, false, false, false, false, false, false, false, false, false, false, false, false, false, false, false, false, false, false, false] rfl rfl (any_of HT_.out (by kernel_rfl)) (fun _ _ _ h => h) (Or.inl ⟨by rfl, ?_⟩) ?_ ?_
      rotate_left
      ·
       intro w'
       go_simp
       with_reducible rfl
      rotate_left
      ·
       simp only [Act.put, List.setIfInBounds_toArray, List.set_cons_zero, List.set_cons_succ, i64_w, i32_w]
       rfl
      refine pure_ (i := 6) (N := some 33) (v := ?_) (a' := ?_) #[true, true, true, true, true, false, true, false, false, false, false, false, false, false, false, false, false, false, false, false, false, false, false, false, false, false, false, false, false, false] rfl rfl (any_of HT_.out (by kernel_rfl)) (fun _ _ _ h => h) (Or.inl ⟨by rfl, ?_⟩) ?_ ?_
      rotate_left
      ·
       intro w'
       go_simp
       with_reducible rfl
      rotate_left
      ·
       simp only [Act.put, List.setIfInBounds_toArray, List.set_cons_zero, List.set_cons_succ, i64_w, i32_w]
       rfl
      refine pure_ (i := 7) (N := some 34) (v := ?_) (a' := ?_) #[true, true, true, true, true, false, true, true, false, false, false, false, false, false, false, false, false, false, false, false, false, false, false, false, false, false, false, false, false, false] rfl rfl (any_of HT_.out (by kernel_rfl)) (fun _ _ _ h => h) (Or.inl ⟨by rfl, ?_⟩) ?_ ?_
      rotate_left
      ·
       intro w'
       go_simp
       with_reducible rfl
      rotate_left
      ·
       simp only [Act.put, List.setIfInBounds_toArray, List.set_cons_zero, List.set_cons_succ, i64_w, i32_w]
       rfl
      refine pure_ (i := 8) (N := some 35) (v := ?_) (a' := ?_) #[true, true, true, true, true, false, true, true, true, false, false, false, false, false, false, false, false, false, false, false, false, false, false, false, false, false, false, false, false, false] rfl rfl (any_of HT_.out (by kernel_rfl)) (fun _ _ _ h => h) (Or.inl ⟨by rfl, ?_⟩) ?_ ?_
      rotate_left
      ·
       intro w'
       go_simp
       with_reducible rfl
      rotate_left
      ·
       simp only [Act.put, List.setIfInBounds_toArray, List.set_cons_zero, List.set_cons_succ, i64_w, i32_w]
       rfl
      refine pure_ (i := 9) (N := some 36) (v := ?_) (a' := ?_) #[true, true, true, true, true, false, true, true, true, true, false, false, false, false, false, false, false, false, false, false, false, false, false, false, false, false, false, false, false, false] rfl rfl (any_of HT_.out (by kernel_rfl)) (fun _ _ _ h => h) (Or.inl ⟨by rfl, ?_⟩) ?_ ?_
      rotate_left
      ·
       intro w'
       go_simp
       with_reducible rfl
      rotate_left
      ·
       simp only [Act.put, List.setIfInBounds_toArray, List.set_cons_zero, List.set_cons_succ, i64_w, i32_w]
       rfl
      refine pure_ (i := 11) (N := some 38) (v := ?_) (a' := ?_) #[true, true, true, true, true, false, true, true, true, true, false, true, false, false, false, false, false, false, false, false, false, false, false, false, false, false, false, false, false, false] rfl rfl (any_of HT_.out (by kernel_rfl)) (fun _ _ _ h => h) (Or.inl ⟨by rfl, ?_⟩) ?_ ?_
      rotate_left
      ·
       intro w'
       go_simp
       with_reducible rfl
      rotate_left
      ·
       simp only [Act.put, List.setIfInBounds_toArray, List.set_cons_zero, List.set_cons_succ, i64_w, i32_w]
       rfl
      refine pure_ (i := 12) (N := some 39) (v := ?_) (a' := ?_) #[true, true, true, true, true, false, true, true, true, true, false, true, true, false, false, false, false, false, false, false, false, false, false, false, false, false, false, false, false, false] rfl rfl (any_of HT_.out (by kernel_rfl)) (fun _ _ _ h => h) (Or.inl ⟨by rfl, ?_⟩) ?_ ?_
      rotate_left
      ·
       intro w'
       go_simp
       with_reducible rfl
      rotate_left
      ·
       simp only [Act.put, List.setIfInBounds_toArray, List.set_cons_zero, List.set_cons_succ, i64_w, i32_w]
       rfl
      refine pure_ (i := 13) (N := some 40) (v := ?_) (a' := ?_) #[true, true, true, true, true, false, true, true, true, true, false, true, true, true, false, false, false, false, false, false, false, false, false, false, false, false, false, false, false, false] rfl rfl (any_of HT_.out (by kernel_rfl)) (fun _ _ _ h => h) (Or.inl ⟨by rfl, ?_⟩) ?_ ?_
      rotate_left
      ·
       intro w'
       go_simp
       with_reducible rfl
      rotate_left
      ·
       simp only [Act.put, List.setIfInBounds_toArray, List.set_cons_zero, List.set_cons_succ, i64_w, i32_w]
       rfl
      refine pure_ (i := 14) (N := some 41) (v := ?_) (a' := ?_) #[true, true, true, true, true, false, true, true, true, true, false, true, true, true, true, false, false, false, false, false, false, false, false, false, false, false, false, false, false, false] rfl rfl (any_of HT_.out (by kernel_rfl)) (fun _ _ _ h => h) (Or.inl ⟨by rfl, ?_⟩) ?_ ?_
      rotate_left
      ·
       intro w'
       go_simp
       with_reducible rfl
      rotate_left
      ·
       simp only [Act.put, List.setIfInBounds_toArray, List.set_cons_zero, List.set_cons_succ, i64_w, i32_w]
       rfl
      refine pure_ (i := 16) (N := some 43) (v := ?_) (a' := ?_) #[true, true, true, true, true, false, true, true, true, true, false, true, true, true, true, false, true, false, false, false, false, false, false, false, false, false, false, false, false, false] rfl rfl (any_of HT_.out (by kernel_rfl)) (fun _ _ _ h => h) (Or.inl ⟨by rfl, ?_⟩) ?_ ?_
      rotate_left
      ·
       intro w'
       go_simp
       with_reducible rfl
      rotate_left
      ·
       simp only [Act.put, List.setIfInBounds_toArray, List.set_cons_zero, List.set_cons_succ, i64_w, i32_w]
       rfl
      refine pure_ (i := 17) (N := some 44) (v := ?_) (a' := ?_) #[true, true, true, true, true, false, true, true, true, true, false, true, true, true, true, false, true, true, false, false, false, false, false, false, false, false, false, false, false, false] rfl rfl (any_of HT_.out (by kernel_rfl)) (fun _ _ _ h => h) (Or.inl ⟨by rfl, ?_⟩) ?_ ?_
      rotate_left
      ·
       intro w'
       go_simp
       with_reducible rfl
      rotate_left
      ·
       simp only [Act.put, List.setIfInBounds_toArray, List.set_cons_zero, List.set_cons_succ, i64_w, i32_w]
       rfl
      refine pure_ (i := 18) (N := some 45) (v := ?_) (a' := ?_) #[true, true, true, true, true, false, true, true, true, true, false, true, true, true, true, false, true, true, true, false, false, false, false, false, false, false, false, false, false, false] rfl rfl (any_of HT_.out (by kernel_rfl)) (fun _ _ _ h => h) (Or.inl ⟨by rfl, ?_⟩) ?_ ?_
      rotate_left
      ·
       intro w'
       go_simp
       with_reducible rfl
      rotate_left
      ·
       simp only [Act.put, List.setIfInBounds_toArray, List.set_cons_zero, List.set_cons_succ, i64_w, i32_w]
       rfl
      refine pure_ (i := 19) (N := some 46) (v := ?_) (a' := ?_) #[true, true, true, true, true, false, true, true, true, true, false, true, true, true, true, false, true, true, true, true, false, false, false, false, false, false, false, false, false, false] rfl rfl (any_of HT_.out (by kernel_rfl)) (fun _ _ _ h => h) (Or.inl ⟨by rfl, ?_⟩) ?_ ?_
      rotate_left
      ·
       intro w'
       go_simp
       with_reducible rfl
      rotate_left
      ·
       simp only [Act.put, List.setIfInBounds_toArray, List.set_cons_zero, List.set_cons_succ, i64_w, i32_w]
       rfl
      refine pure_ (i := 21) (N := some 48) (v := ?_) (a' := ?_) #[true, true, true, true, true, false, true, true, true, true, false, true, true, true, true, false, true, true, true, true, false, true, false, false, false, false, false, false, false, false] rfl rfl (any_of HT_.out (by kernel_rfl)) (fun _ _ _ h => h) (Or.inl ⟨by rfl, ?_⟩) ?_ ?_
      rotate_left
      ·
       intro w'
       go_simp
       with_reducible rfl
      rotate_left
      ·
       simp only [Act.put, List.setIfInBounds_toArray, List.set_cons_zero, List.set_cons_succ, i64_w, i32_w]
       rfl
      refine pure_ (i := 22) (N := some 49) (v := ?_) (a' := ?_) #[true, true, true, true, true, false, true, true, true, true, false, true, true, true, true, false, true, true, true, true, false, true, true, false, false, false, false, false, false, false] rfl rfl (any_of HT_.out (by kernel_rfl)) (fun _ _ _ h => h) (Or.inl ⟨by rfl, ?_⟩) ?_ ?_
      rotate_left
      ·
       intro w'
       go_simp
       with_reducible rfl
      rotate_left
      ·
       simp only [Act.put, List.setIfInBounds_toArray, List.set_cons_zero, List.set_cons_succ, i64_w, i32_w]
       rfl
      refine pure_ (i := 23) (N := some 50) (v := ?_) (a' := ?_) #[true, true, true, true, true, false, true, true, true, true, false, true, true, true, true, false, true, true, true, true, false, true, true, true, false, false, false, false, false, false] rfl rfl (any_of HT_.out (by kernel_rfl)) (fun _ _ _ h => h) (Or.inl ⟨by rfl, ?_⟩) ?_ ?_
      rotate_left
      ·
       intro w'
       go_simp
       with_reducible rfl
      rotate_left
      ·
       simp only [Act.put, List.setIfInBounds_toArray, List.set_cons_zero, List.set_cons_succ, i64_w, i32_w]
       rfl
      refine pure_ (i := 24) (N := some 51) (v := ?_) (a' := ?_) #[true, true, true, true, true, false, true, true, true, true, false, true, true, true, true, false, true, true, true, true, false, true, true, true, true, false, false, false, false, false] rfl rfl (any_of HT_.out (by kernel_rfl)) (fun _ _ _ h => h) (Or.inl ⟨by rfl, ?_⟩) ?_ ?_
      rotate_left
      ·
       intro w'
       go_simp
       with_reducible rfl
      rotate_left
      ·
       simp only [Act.put, List.setIfInBounds_toArray, List.set_cons_zero, List.set_cons_succ, i64_w, i32_w]
       rfl
      refine take_ (i := 5) (N := some 32) (v := ?_) (a' := ?_) #[true, true, true, true, true, true, true, true, true, true, false, true, true, true, true, false, true, true, true, true, false, true, true, true, true, false, false, false, false, false] rfl rfl (take_ofW HT_.out HW_.out (by kernel_rfl)) (fun _ _ _ h => h) (Or.inl ⟨by rfl, ?_⟩) hHeld ?_ ?_
      rotate_left
      ·
       rintro w' ⟨s0, s1, s2, s3, s4, s5, s6, s7, s8, s9, s10, s11, s12, s13, s14, s15, s16, s17, s18, s19, s20, s21, s22, s23, s24⟩
       go_simp
       with_reducible rfl
      rotate_left
      ·
       simp only [Act.put, List.setIfInBounds_toArray, List.set_cons_zero, List.set_cons_succ, i64_w, i32_w]
       rfl
      refine take_ (i := 10) (N := some 37) (v := ?_) (a' := ?_) #[true, true, true, true, true, true, true, true, true, true, true, true, true, true, true, false, true, true, true, true, false, true, true, true, true, false, false, false, false, false] rfl rfl (take_ofW HT_.out HW_.out (by kernel_rfl)) (fun _ _ _ h => h) (Or.inl ⟨by rfl, ?_⟩) hHeld ?_ ?_
      rotate_left
      ·
       rintro w' ⟨s0, s1, s2, s3, s4, s5, s6, s7, s8, s9, s10, s11, s12, s13, s14, s15, s16, s17, s18, s19, s20, s21, s22, s23, s24⟩
       go_simp
       with_reducible rfl
      rotate_left
      ·
       simp only [Act.put, List.setIfInBounds_toArray, List.set_cons_zero, List.set_cons_succ, i64_w, i32_w]
       rfl
      refine take_ (i := 15) (N := some 42) (v := ?_) (a' := ?_) #[true, true, true, true, true, true, true, true, true, true, true, true, true, true, true, true, true, true, true, true, false, true, true, true, true, false, false, false, false, false] rfl rfl (take_ofW HT_.out HW_.out (by kernel_rfl)) (fun _ _ _ h => h) (Or.inl ⟨by rfl, ?_⟩) hHeld ?_ ?_
      rotate_left
      ·
       rintro w' ⟨s0, s1, s2, s3, s4, s5, s6, s7, s8, s9, s10, s11, s12, s13, s14, s15, s16, s17, s18, s19, s20, s21, s22, s23, s24⟩
       go_simp
       with_reducible rfl
      rotate_left
      ·
       simp only [Act.put, List.setIfInBounds_toArray, List.set_cons_zero, List.set_cons_succ, i64_w, i32_w]
       rfl
      refine take_ (i := 20) (N := some 47) (v := ?_) (a' := ?_) #[true, true, true, true, true, true, true, true, true, true, true, true, true, true, true, true, true, true, true, true, true, true, true, true, true, false, false, false, false, false] rfl rfl (take_ofW HT_.out HW_.out (by kernel_rfl)) (fun _ _ _ h => h) (Or.inl ⟨by rfl, ?_⟩) hHeld ?_ ?_
      rotate_left
      ·
       rintro w' ⟨s0, s1, s2, s3, s4, s5, s6, s7, s8, s9, s10, s11, s12, s13, s14, s15, s16, s17, s18, s19, s20, s21, s22, s23, s24⟩
       go_simp
       with_reducible rfl
      rotate_left
      ·
       simp only [Act.put, List.setIfInBounds_toArray, List.set_cons_zero, List.set_cons_succ, i64_w, i32_w]
       rfl
      refine take_ (i := 25) (N := some 52) (v := ?_) (a' := ?_) #[true, true, true, true, true, true, true, true, true, true, true, true, true, true, true, true, true, true, true, true, true, true, true, true, true, true, false, false, false, false] rfl rfl (take_ofW HT_.out HW_.out (by kernel_rfl)) (fun _ _ _ h => h) (Or.inl ⟨by rfl, ?_⟩) hHeld ?_ ?_
      rotate_left
      ·
       rintro w' ⟨s0, s1, s2, s3, s4, s5, s6, s7, s8, s9, s10, s11, s12, s13, s14, s15, s16, s17, s18, s19, s20, s21, s22, s23, s24⟩
       go_simp
       with_reducible rfl
      rotate_left
      ·
       simp only [Act.put, List.setIfInBounds_toArray, List.set_cons_zero, List.set_cons_succ, i64_w, i32_w]
       rfl
      refine pure_ (i := 26) (N := some 53) (v := ?_) (a' := ?_) #[true, true, true, true, true, true, true, true, true, true, true, true, true, true, true, true, true, true, true, true, true, true, true, true, true, true, true, false, false, false] rfl rfl (any_of HT_.out (by kernel_rfl)) (fun _ _ _ h => h) (Or.inl ⟨by rfl, ?_⟩) ?_ ?_
      rotate_left
      ·
       intro w'
       go_simp
       with_reducible rfl
      rotate_left
      ·
       simp only [Act.put, List.setIfInBounds_toArray, List.set_cons_zero, List.set_cons_succ, i64_w, i32_w]
       rfl
      refine one_ (i := 27) (N := some 54) #[true, true, true, true, true, true, true, true, true, true, true, true, true, true, true, true, true, true, true, true, true, true, true, true, true, true, true, true, false, false] rfl rfl (one_of HT_.out (by kernel_rfl)) (by decide) (fun K hK => ?_)
      refine value_ (w1 := ?_) (v := ?_) (by rfl) rfl ?_ ?_
      rotate_left 2
      ·
       go_simp
       constructor
       ·
        rfl
       ·
        rfl
      refine hK.out _ _ ⟨(World.cell?_alloc_lt _ _ _ (World.block_lt_of_cell? _ _ (((HB.out.cell (World.block_lt_of_cell? w _ hw101_0)).trans hw101_0)))).trans (((HB.out.cell (World.block_lt_of_cell? w _ hw101_0)).trans hw101_0)), (World.cell?_alloc_lt _ _ _ (World.block_lt_of_cell? _ _ (((HB.out.cell (World.block_lt_of_cell? w _ hw101_1)).trans hw101_1)))).trans (((HB.out.cell (World.block_lt_of_cell? w _ hw101_1)).trans hw101_1)), (World.cell?_alloc_lt _ _ _ (World.block_lt_of_cell? _ _ (((HB.out.cell (World.block_lt_of_cell? w _ hw101_2)).trans hw101_2)))).trans (((HB.out.cell (World.block_lt_of_cell? w _ hw101_2)).trans hw101_2)), (World.cell?_alloc_lt _ _ _ (World.block_lt_of_cell? _ _ (((HB.out.cell (World.block_lt_of_cell? w _ hw101_3)).trans hw101_3)))).trans (((HB.out.cell (World.block_lt_of_cell? w _ hw101_3)).trans hw101_3)), (World.cell?_alloc_lt _ _ _ (World.block_lt_of_cell? _ _ (((HB.out.cell (World.block_lt_of_cell? w _ hw101_4)).trans hw101_4)))).trans (((HB.out.cell (World.block_lt_of_cell? w _ hw101_4)).trans hw101_4)), (World.cell?_alloc_lt _ _ _ (World.block_lt_of_cell? _ _ (((HB.out.cell (World.block_lt_of_cell? w _ hw102_0)).trans hw102_0)))).trans (((HB.out.cell (World.block_lt_of_cell? w _ hw102_0)).trans hw102_0)), (World.cell?_alloc_lt _ _ _ (World.block_lt_of_cell? _ _ (((HB.out.cell (World.block_lt_of_cell? w _ hw102_1)).trans hw102_1)))).trans (((HB.out.cell (World.block_lt_of_cell? w _ hw102_1)).trans hw102_1)), (World.cell?_alloc_lt _ _ _ (World.block_lt_of_cell? _ _ (((HB.out.cell (World.block_lt_of_cell? w _ hw102_2)).trans hw102_2)))).trans (((HB.out.cell (World.block_lt_of_cell? w _ hw102_2)).trans hw102_2)), (World.cell?_alloc_lt _ _ _ (World.block_lt_of_cell? _ _ (((HB.out.cell (World.block_lt_of_cell? w _ hw102_3)).trans hw102_3)))).trans (((HB.out.cell (World.block_lt_of_cell? w _ hw102_3)).trans hw102_3)), (World.cell?_alloc_lt _ _ _ (World.block_lt_of_cell? _ _ (((HB.out.cell (World.block_lt_of_cell? w _ hw102_4)).trans hw102_4)))).trans (((HB.out.cell (World.block_lt_of_cell? w _ hw102_4)).trans hw102_4)), (World.cell?_alloc_lt _ _ _ (World.block_lt_of_cell? _ _ (((HB.out.cell (World.block_lt_of_cell? w _ hw103_0)).trans hw103_0)))).trans (((HB.out.cell (World.block_lt_of_cell? w _ hw103_0)).trans hw103_0)), (World.cell?_alloc_lt _ _ _ (World.block_lt_of_cell? _ _ (((HB.out.cell (World.block_lt_of_cell? w _ hw103_1)).trans hw103_1)))).trans (((HB.out.cell (World.block_lt_of_cell? w _ hw103_1)).trans hw103_1)), (World.cell?_alloc_lt _ _ _ (World.block_lt_of_cell? _ _ (((HB.out.cell (World.block_lt_of_cell? w _ hw103_2)).trans hw103_2)))).trans (((HB.out.cell (World.block_lt_of_cell? w _ hw103_2)).trans hw103_2)), (World.cell?_alloc_lt _ _ _ (World.block_lt_of_cell? _ _ (((HB.out.cell (World.block_lt_of_cell? w _ hw103_3)).trans hw103_3)))).trans (((HB.out.cell (World.block_lt_of_cell? w _ hw103_3)).trans hw103_3)), (World.cell?_alloc_lt _ _ _ (World.block_lt_of_cell? _ _ (((HB.out.cell (World.block_lt_of_cell? w _ hw103_4)).trans hw103_4)))).trans (((HB.out.cell (World.block_lt_of_cell? w _ hw103_4)).trans hw103_4)), (World.cell?_alloc_lt _ _ _ (World.block_lt_of_cell? _ _ (((HB.out.cell (World.block_lt_of_cell? w _ hw104_0)).trans hw104_0)))).trans (((HB.out.cell (World.block_lt_of_cell? w _ hw104_0)).trans hw104_0)), (World.cell?_alloc_lt _ _ _ (World.block_lt_of_cell? _ _ (((HB.out.cell (World.block_lt_of_cell? w _ hw104_1)).trans hw104_1)))).trans (((HB.out.cell (World.block_lt_of_cell? w _ hw104_1)).trans hw104_1)), (World.cell?_alloc_lt _ _ _ (World.block_lt_of_cell? _ _ (((HB.out.cell (World.block_lt_of_cell? w _ hw104_2)).trans hw104_2)))).trans (((HB.out.cell (World.block_lt_of_cell? w _ hw104_2)).trans hw104_2)), (World.cell?_alloc_lt _ _ _ (World.block_lt_of_cell? _ _ (((HB.out.cell (World.block_lt_of_cell? w _ hw104_3)).trans hw104_3)))).trans (((HB.out.cell (World.block_lt_of_cell? w _ hw104_3)).trans hw104_3)), (World.cell?_alloc_lt _ _ _ (World.block_lt_of_cell? _ _ (((HB.out.cell (World.block_lt_of_cell? w _ hw104_4)).trans hw104_4)))).trans (((HB.out.cell (World.block_lt_of_cell? w _ hw104_4)).trans hw104_4)), (World.cell?_alloc_lt _ _ _ (World.block_lt_of_cell? _ _ (((HB.out.cell (World.block_lt_of_cell? w _ hw105_0)).trans hw105_0)))).trans (((HB.out.cell (World.block_lt_of_cell? w _ hw105_0)).trans hw105_0)), (World.cell?_alloc_lt _ _ _ (World.block_lt_of_cell? _ _ (((HB.out.cell (World.block_lt_of_cell? w _ hw105_1)).trans hw105_1)))).trans (((HB.out.cell (World.block_lt_of_cell? w _ hw105_1)).trans hw105_1)), (World.cell?_alloc_lt _ _ _ (World.block_lt_of_cell? _ _ (((HB.out.cell (World.block_lt_of_cell? w _ hw105_2)).trans hw105_2)))).trans (((HB.out.cell (World.block_lt_of_cell? w _ hw105_2)).trans hw105_2)), (World.cell?_alloc_lt _ _ _ (World.block_lt_of_cell? _ _ (((HB.out.cell (World.block_lt_of_cell? w _ hw105_3)).trans hw105_3)))).trans (((HB.out.cell (World.block_lt_of_cell? w _ hw105_3)).trans hw105_3)), (World.cell?_alloc_lt _ _ _ (World.block_lt_of_cell? _ _ (((HB.out.cell (World.block_lt_of_cell? w _ hw105_4)).trans hw105_4)))).trans (((HB.out.cell (World.block_lt_of_cell? w _ hw105_4)).trans hw105_4))⟩ (fun hHeld => ?_)
      clear hK K
      refine norm_ (a' := ?_) ?_ ?_
      rotate_left
      ·
       show Act.put _ (some 54) _ = _
       simp only [Act.put, List.setIfInBounds_toArray, List.set_cons_zero, List.set_cons_succ, i64_w, i32_w]
       rfl
      refine one_ (i := 28) (N := some 55) #[true, true, true, true, true, true, true, true, true, true, true, true, true, true, true, true, true, true, true, true, true, true, true, true, true, true, true, true, true, false] rfl rfl (one_of HT_.out (by kernel_rfl)) (by decide) (fun K hK => ?_)
      refine Kd.R_append_step k42 (w0 := w) w.heap.size (by rfl) (.tmp 27) (.tmp 54) 23 42 (.agg #[(.string ⟨#[]⟩), (.int .i64 0), (.int .i64 0), (.int .i64 0), (.int .i64 0)]) 48 rfl Try.underlying23 info42 rfl (by decide) (by omega) u9 x9_1 (⟨(rd_T50 l1 x10_1).f0, (rd_T50 l1 x10_1).f1, (rd_T50 l1 x10_1).f2, (rd_T50 l1 x10_1).f3, (rd_T50 l1 x10_1).f4⟩ : S42) [.string ((rd_T50 l1 x10_1).f0), .int .i64 ((rd_T50 l1 x10_1).f1), .int .i64 ((rd_T50 l1 x10_1).f2), .int .i64 ((rd_T50 l1 x10_1).f3), .int .i64 ((rd_T50 l1 x10_1).f4)] (fun _ => True) (fun _ => False) rfl rfl ?aP (fun _ hk => hk.elim) ?aF ?aO ?aB ?aS ?aL ?_
      (case aP => exact k42_mkM _ _ _ (⟨(rd_T50 l1 x10_1).f0, (rd_T50 l1 x10_1).f1, (rd_T50 l1 x10_1).f2, (rd_T50 l1 x10_1).f3, (rd_T50 l1 x10_1).f4⟩ : S42))
      (case aB => exact (by repeat (first | (with_reducible first | exact HB.out | apply below_alloc | apply pw_below_drewN | apply below_drew1) | exact HB.out)))
      (case aF => exact (fun _ _ => trivial))
      (case aO => exact (by (with_reducible repeat (first | apply Kd.R_alloc | apply Kd.R_drewN | apply Kd.R_drew)); exact HO_9.out))
      (case aS => exact (below_size (by repeat (first | (with_reducible first | exact HB.out | apply below_alloc | apply pw_below_drewN | apply below_drew1) | exact HB.out))))
      (case aL => have := LMc7.out; omega)
      intro v107 w9 ho hb hg hat
      rw [← Ny106.out] at ho
      have n0_ := Aside0.mk (hb)
      have n1_ := Aside0.mk (ho)
      clear HB
      clear HO_9
      have HB := n0_
      have HO108 := n1_
      clear n0_ n1_
      clear ho hb hg hat
      refine hK.out _ _ ⟨((HB.out.cell (World.block_lt_of_cell? w _ hw101_0)).trans hw101_0), ((HB.out.cell (World.block_lt_of_cell? w _ hw101_1)).trans hw101_1), ((HB.out.cell (World.block_lt_of_cell? w _ hw101_2)).trans hw101_2), ((HB.out.cell (World.block_lt_of_cell? w _ hw101_3)).trans hw101_3), ((HB.out.cell (World.block_lt_of_cell? w _ hw101_4)).trans hw101_4), ((HB.out.cell (World.block_lt_of_cell? w _ hw102_0)).trans hw102_0), ((HB.out.cell (World.block_lt_of_cell? w _ hw102_1)).trans hw102_1), ((HB.out.cell (World.block_lt_of_cell? w _ hw102_2)).trans hw102_2), ((HB.out.cell (World.block_lt_of_cell? w _ hw102_3)).trans hw102_3), ((HB.out.cell (World.block_lt_of_cell? w _ hw102_4)).trans hw102_4), ((HB.out.cell (World.block_lt_of_cell? w _ hw103_0)).trans hw103_0), ((HB.out.cell (World.block_lt_of_cell? w _ hw103_1)).trans hw103_1), ((HB.out.cell (World.block_lt_of_cell? w _ hw103_2)).trans hw103_2), ((HB.out.cell (World.block_lt_of_cell? w _ hw103_3)).trans hw103_3), ((HB.out.cell (World.block_lt_of_cell? w _ hw103_4)).trans hw103_4), ((HB.out.cell (World.block_lt_of_cell? w _ hw104_0)).trans hw104_0), ((HB.out.cell (World.block_lt_of_cell? w _ hw104_1)).trans hw104_1), ((HB.out.cell (World.block_lt_of_cell? w _ hw104_2)).trans hw104_2), ((HB.out.cell (World.block_lt_of_cell? w _ hw104_3)).trans hw104_3), ((HB.out.cell (World.block_lt_of_cell? w _ hw104_4)).trans hw104_4), ((HB.out.cell (World.block_lt_of_cell? w _ hw105_0)).trans hw105_0), ((HB.out.cell (World.block_lt_of_cell? w _ hw105_1)).trans hw105_1), ((HB.out.cell (World.block_lt_of_cell? w _ hw105_2)).trans hw105_2), ((HB.out.cell (World.block_lt_of_cell? w _ hw105_3)).trans hw105_3), ((HB.out.cell (World.block_lt_of_cell? w _ hw105_4)).trans hw105_4)⟩ (fun hHeld => ?_)
      clear hK K
      refine norm_ (a' := ?_) ?_ ?_
      rotate_left
      ·
       show Act.put _ (some 55) _ = _
       simp only [Act.put, List.setIfInBounds_toArray, List.set_cons_zero, List.set_cons_succ, i64_w, i32_w]
       rfl
      refine pure_ (i := 29) (N := some 9) (v := ?_) (a' := ?_) #[true, true, true, true, true, true, true, true, true, true, true, true, true, true, true, true, true, true, true, true, true, true, true, true, true, true, true, true, true, true] rfl rfl (any_of HT_.out (by kernel_rfl)) (fun _ _ _ h => h) (Or.inl ⟨by rfl, ?_⟩) ?_ ?_
      rotate_left
      ·
       intro w'
       go_simp
       with_reducible rfl
      rotate_left
      ·
       simp only [Act.put, List.setIfInBounds_toArray, List.set_cons_zero, List.set_cons_succ, i64_w, i32_w]
       rfl
      refine done_ (done_of HT_.out (by kernel_rfl)) ?_
      try go_wp2
      go_roundg k1
      case measure => have := HK1.out; omega
      case rel => exact ⟨(y106), (wrap64 (x10_1 + 1)), (by first | rfl | (simp; done) | (simp [*]; done) | (simp [show ∀ l_ : List UInt8, (l_ != []) = !l_.isEmpty from fun l_ => by cases l_ <;> rfl]; done) | (congr 1; refine congr (congrArg (Go.bits _ _) ?_) ?_ <;> omega)), H', ⟨by have := HK1.out; omega⟩, ⟨by (with_reducible repeat (first | apply Kd.R_alloc | apply Kd.R_drewN | apply Kd.R_drew)); exact HO108.out⟩, ⟨by repeat (first | (with_reducible first | exact HB.out | apply below_alloc | apply pw_below_drewN | apply below_drew1) | exact HB.out)⟩⟩
     ·
      rw [if_neg c7] at H
      exact absurd H (by simp)
    ·
     rw [if_neg c6] at H
     exact absurd H (by simp)
   ·
    rw [if_neg c5] at H
    have c5b0 : decide (x10_1 < (l1.length : Int)) = false := decide_eq_false c5
    clear c5
    replace H := Option.bind_eq_some_iff.mp H
    obtain ⟨⟨t109, t110, t111, t112, t113, t114⟩, A100, H⟩ := H
    replace H : ((gangwayref18_Find.f k1 l1 a3).bind fun bt116 => ((resolve_Look.f k1 l0 x9_1 a2 a3).bind fun bt123 => ((gangwayref18_Look.f k1 l0 l1 a2 a3).bind fun bt126 => (if (t114 == bt116.2.2.2.2.2) = true then (if t109.toList = bt116.1.toList then (if t110 = bt116.2.1 then (if t111 = bt116.2.2.1 then (if t112 = bt116.2.2.2.1 then (if t113 = bt116.2.2.2.2.1 then (if bt123.1 = bt126.1 then (if bt123.2.1 = bt126.2.1 then ((gangwaylaw18_num.f bt123.2.2).bind fun t129 => (if t129 = bt126.2.2 then ((gangwaylaw18_live.f).bind fun t130 => (some t130)) else (none))) else (none)) else (none)) else (none)) else (none)) else (none)) else (none)) else (none)) else (none))))) = some r := H
    have A10 := Aside0.mk A100
    clear A100
    replace H := Option.bind_eq_some_iff.mp H
    obtain ⟨⟨t116, t117, t118, t119, t120, t121⟩, A110, H⟩ := H
    replace H : ((resolve_Look.f k1 l0 x9_1 a2 a3).bind fun bt123 => ((gangwayref18_Look.f k1 l0 l1 a2 a3).bind fun bt126 => (if (t114 == t121) = true then (if t109.toList = t116.toList then (if t110 = t117 then (if t111 = t118 then (if t112 = t119 then (if t113 = t120 then (if bt123.1 = bt126.1 then (if bt123.2.1 = bt126.2.1 then ((gangwaylaw18_num.f bt123.2.2).bind fun t129 => (if t129 = bt126.2.2 then ((gangwaylaw18_live.f).bind fun t130 => (some t130)) else (none))) else (none)) else (none)) else (none)) else (none)) else (none)) else (none)) else (none)) else (none)))) = some r := H
    have A11 := Aside0.mk A110
    clear A110
    replace H := Option.bind_eq_some_iff.mp H
    obtain ⟨⟨t123, t124, t125⟩, A120, H⟩ := H
    replace H : ((gangwayref18_Look.f k1 l0 l1 a2 a3).bind fun bt126 => (if (t114 == t121) = true then (if t109.toList = t116.toList then (if t110 = t117 then (if t111 = t118 then (if t112 = t119 then (if t113 = t120 then (if t123 = bt126.1 then (if t124 = bt126.2.1 then ((gangwaylaw18_num.f t125).bind fun t129 => (if t129 = bt126.2.2 then ((gangwaylaw18_live.f).bind fun t130 => (some t130)) else (none))) else (none)) else (none)) else (none)) else (none)) else (none)) else (none)) else (none)) else (none))) = some r := H
    have A12 := Aside0.mk A120
    clear A120
    replace H := Option.bind_eq_some_iff.mp H
    obtain ⟨⟨t126, t127, t128⟩, A130, H⟩ := H
    replace H : (if (t114 == t121) = true then (if t109.toList = t116.toList then (if t110 = t117 then (if t111 = t118 then (if t112 = t119 then (if t113 = t120 then (if t123 = t126 then (if t124 = t127 then ((gangwaylaw18_num.f t125).bind fun t129 => (if t129 = t128 then ((gangwaylaw18_live.f).bind fun t130 => (some t130)) else (none))) else (none)) else (none)) else (none)) else (none)) else (none)) else (none)) else (none)) else (none)) = some r := H
    have A13 := Aside0.mk A130
    clear A130
    by_cases c14 : (t114 == t121) = true
    ·
     rw [if_pos c14] at H
     have c14b0 : (t114 == t121) = true := c14
     (try (have c14b1 : decide (t114 = t121) = true := by simpa using c14))
     (try (have c14b2 : (t114 == t121) = true := by simpa using c14))
     clear c14
     by_cases c15 : t109.toList = t116.toList
     ·
      rw [if_pos c15] at H
      have c15b0 : (t109.toList == t116.toList) = true := beq_iff_eq.mpr c15
      have c15b1 : (t109.toList != t116.toList) = false := bne_eq_false_iff_eq.mpr c15
      clear c15
      by_cases c16 : t110 = t117
      ·
       rw [if_pos c16] at H
       have c16b0 : (t110 == t117) = true := beq_iff_eq.mpr c16
       have c16b1 : (t110 != t117) = false := bne_eq_false_iff_eq.mpr c16
       clear c16
       by_cases c17 : t111 = t118
       ·
        rw [if_pos c17] at H
        have c17b0 : (t111 == t118) = true := beq_iff_eq.mpr c17
        have c17b1 : (t111 != t118) = false := bne_eq_false_iff_eq.mpr c17
        clear c17
        by_cases c18 : t112 = t119
        ·
         rw [if_pos c18] at H
         have c18b0 : (t112 == t119) = true := beq_iff_eq.mpr c18
         have c18b1 : (t112 != t119) = false := bne_eq_false_iff_eq.mpr c18
         clear c18
         by_cases c19 : t113 = t120
         ·
          rw [if_pos c19] at H
          have c19b0 : (t113 == t120) = true := beq_iff_eq.mpr c19
          have c19b1 : (t113 != t120) = false := bne_eq_false_iff_eq.mpr c19
          clear c19
          by_cases c20 : t123 = t126
          ·
           rw [if_pos c20] at H
           have c20b0 : (t123 == t126) = true := beq_iff_eq.mpr c20
           have c20b1 : (t123 != t126) = false := bne_eq_false_iff_eq.mpr c20
           clear c20
           by_cases c21 : t124 = t127
           ·
            rw [if_pos c21] at H
            have c21b0 : (t124 == t127) = true := beq_iff_eq.mpr c21
            have c21b1 : (t124 != t127) = false := bne_eq_false_iff_eq.mpr c21
            clear c21
            replace H := Option.bind_eq_some_iff.mp H
            obtain ⟨t129, A220, H⟩ := H
            replace H : (if t129 = t128 then ((gangwaylaw18_live.f).bind fun t130 => (some t130)) else (none)) = some r := H
            have A22 := Aside0.mk A220
            clear A220
            by_cases c23 : t129 = t128
            ·
             rw [if_pos c23] at H
             have c23b0 : (t129 == t128) = true := beq_iff_eq.mpr c23
             have c23b1 : (t129 != t128) = false := bne_eq_false_iff_eq.mpr c23
             clear c23
             replace H := Option.bind_eq_some_iff.mp H
             obtain ⟨t130, A240, H⟩ := H
             replace H : (some t130) = some r := H
             have A24 := Aside0.mk A240
             clear A240
             obtain rfl := Option.some.inj H
             obtain ⟨Ao25, co25, eo25⟩ := Kd.R_slice HO_9.out
             subst eo25
             go_wp2_with (first | ((with_reducible refine gate_callee (f := 17) rfl ?_); refine goesL_ (some 59) rfl rfl Try.func17 (by kernel_rfl) rfl #[.slice Ao25 x9_1.length co25, .string a3] rfl (by (try simp only [List.map_toArray, List.map_cons, List.map_nil]); first | done | rfl | (simp only [List.length_drop, List.length_take]; rfl)) ?_; (with_reducible refine (resolve_Find.calls k1 _ _ x9_1 a3 t109 t110 t111 t112 t113 t114 _ ?side1 ?side2 A10.out).mono ?_); (case side1 => repeat (first | exact (Kd.R_reads' HO_9.out).2.2 | (with_reducible refine Kd.C_alloc ?_ _) | (with_reducible refine Kd.C_drewN ?_ _) | (with_reducible refine Kd.C_drew ?_))); (case side2 => exact (Kd.R_reads' HO_9.out).2.1); rintro e w26 ⟨rfl, hb⟩; refine ⟨_, rfl, ?_⟩; have n0_ := Aside0.mk (Kd.R_below (by (with_reducible repeat (first | apply Kd.R_alloc | apply Kd.R_drewN | apply Kd.R_drew)); exact HO_9.out) hb); have n1_ := Aside0.mk (below_step (by repeat (first | (with_reducible first | exact HB.out | apply below_alloc | apply pw_below_drewN | apply below_drew1) | exact HB.out)) hb); clear HO_9; clear HB; have HO_9 := n0_; have HB := n1_; clear n0_ n1_; (try clear hb); (try clear hb2); (try clear hk); (try clear hi)) | ((with_reducible refine gate_dst (N := 11) rfl ?_); refine box_event ?hg (N := 11) ?hd (cs := #[.string (⟨#[]⟩ : ByteArray), .int .i64 0, .int .i64 0, .int .i64 0, .int .i64 0]) (t := 42) ?hr ?_; (case hd => rfl); (case hg => rfl); (case hr => first | (go_simp; done) | (go_simp; rfl)); intro gb115 hg w27 hbox hb; have n0_ := Aside0.mk (Kd.R_below (Kd.R_elderB (by (with_reducible repeat (first | apply Kd.R_alloc | apply Kd.R_drewN | apply Kd.R_drew)); exact HO_9.out) gb115 (Nat.le_of_eq hg.symm)) hb); have n1_ := Aside0.mk (below_step (by repeat (first | (with_reducible first | exact HB.out | apply below_alloc | apply pw_below_drewN | apply below_drew1) | exact HB.out)) hb); have n2_ := Aside0.mk (hbox); have n3_ := Aside0.mk ((by rw [hg]; exact (below_size (by repeat (first | (with_reducible first | exact HB.out | apply below_alloc | apply pw_below_drewN | apply below_drew1) | exact HB.out))) : w.heap.size ≤ gb115)); have n4_ := Aside0.mk ((by rw [hg]; exact (below_size (by repeat (first | (with_reducible first | exact HB.out | apply below_alloc | apply pw_below_drewN | apply below_drew1) | exact HB.out))) : w.heap.size ≤ gb115)); clear HO_9; clear HB; have HO_9 := n0_; have HB := n1_; have BK115 := n2_; have GW115 := n3_; have GE115 := n4_; clear n0_ n1_ n2_ n3_ n4_; clear hb hbox hg; have hcz28_0 : w27.cell? ⟨gb115, 0, none⟩ = some (.string (⟨#[]⟩ : ByteArray)) := (blk_cell BK115.out 0).trans rfl; have hcz28_1 : w27.cell? ⟨gb115, 1, none⟩ = some (.int .i64 0) := (blk_cell BK115.out 1).trans rfl; have hcz28_2 : w27.cell? ⟨gb115, 2, none⟩ = some (.int .i64 0) := (blk_cell BK115.out 2).trans rfl; have hcz28_3 : w27.cell? ⟨gb115, 3, none⟩ = some (.int .i64 0) := (blk_cell BK115.out 3).trans rfl; have hcz28_4 : w27.cell? ⟨gb115, 4, none⟩ = some (.int .i64 0) := (blk_cell BK115.out 4).trans rfl; have hfz28_0 := blk_frozen BK115.out 0; have hfz28_1 := blk_frozen BK115.out 1; have hfz28_2 := blk_frozen BK115.out 2; have hfz28_3 := blk_frozen BK115.out 3; have hfz28_4 := blk_frozen BK115.out 4) | ((with_reducible refine gate_callee (f := 18) rfl ?_); refine goesL_ (some 65) rfl rfl Try.func18 (by kernel_rfl) rfl #[.slice A1 l1.length c1, .string a3] rfl (by (try simp only [List.map_toArray, List.map_cons, List.map_nil]); first | done | rfl | (simp only [List.length_drop, List.length_take]; rfl)) ?_; (with_reducible refine (gangwayref18_Find.calls k1 _ _ l1 a3 t116 t117 t118 t119 t120 t121 _ ?side1 ?side2 A11.out).mono ?_); (case side1 => exact Kd.C_below HR1.out (by repeat (first | (with_reducible first | exact HB.out | apply below_alloc | apply pw_below_drewN | apply below_drew1 | refine below_set ?_ GE115.out) | exact HB.out))); (case side2 => exact HC1.out); rintro e w29 ⟨rfl, hb⟩; refine ⟨_, rfl, ?_⟩; have n0_ := Aside0.mk (Kd.R_below (by (with_reducible repeat (first | apply Kd.R_alloc | apply Kd.R_drewN | apply Kd.R_drew)); exact (Kd.R_mono (Kd.R_far (p := ⟨gb115, 4, none⟩) (Kd.R_far (p := ⟨gb115, 3, none⟩) (Kd.R_far (p := ⟨gb115, 2, none⟩) (Kd.R_far (p := ⟨gb115, 1, none⟩) (Kd.R_far (p := ⟨gb115, 0, none⟩) (Kd.R_mono HO_9.out (fun k_ hk => (⟨hk, hk.2⟩ : _ ∧ k_ ≠ gb115))) (fun _ hk => hk.2) (.string t109)) (fun _ hk => hk.2) (.int .i64 t110)) (fun _ hk => hk.2) (.int .i64 t111)) (fun _ hk => hk.2) (.int .i64 t112)) (fun _ hk => hk.2) (.int .i64 t113)) (fun _ h_ => h_.1))) hb); have n1_ := Aside0.mk (blk_below (g := gb115) (o := .cells #[.string t109, .int .i64 t110, .int .i64 t111, .int .i64 t112, .int .i64 t113] 42 (0, 0)) (by (with_reducible repeat (first | refine blk_drewN ?_ _ | refine blk_drew ?_ | refine blk_alloc ?_ _)); refine blk_put (cs := #[.string t109, .int .i64 t110, .int .i64 t111, .int .i64 t112, .int .i64 0]) ?_ 4 _ rfl; (with_reducible repeat (first | refine blk_drewN ?_ _ | refine blk_drew ?_ | refine blk_alloc ?_ _)); refine blk_put (cs := #[.string t109, .int .i64 t110, .int .i64 t111, .int .i64 0, .int .i64 0]) ?_ 3 _ rfl; (with_reducible repeat (first | refine blk_drewN ?_ _ | refine blk_drew ?_ | refine blk_alloc ?_ _)); refine blk_put (cs := #[.string t109, .int .i64 t110, .int .i64 0, .int .i64 0, .int .i64 0]) ?_ 2 _ rfl; (with_reducible repeat (first | refine blk_drewN ?_ _ | refine blk_drew ?_ | refine blk_alloc ?_ _)); refine blk_put (cs := #[.string t109, .int .i64 0, .int .i64 0, .int .i64 0, .int .i64 0]) ?_ 1 _ rfl; (with_reducible repeat (first | refine blk_drewN ?_ _ | refine blk_drew ?_ | refine blk_alloc ?_ _)); refine blk_put (cs := #[.string (⟨#[]⟩ : ByteArray), .int .i64 0, .int .i64 0, .int .i64 0, .int .i64 0]) ?_ 0 _ rfl; (with_reducible repeat (first | refine blk_drewN ?_ _ | refine blk_drew ?_ | refine blk_alloc ?_ _)); exact BK115.out) hb); have n2_ := Aside0.mk (below_step (by repeat (first | (with_reducible first | exact HB.out | apply below_alloc | apply pw_below_drewN | apply below_drew1 | refine below_set ?_ GE115.out) | exact HB.out)) hb); clear HO_9; clear BK115; clear HB; have HO_9 := n0_; have BK115 := n1_; have HB := n2_; clear n0_ n1_ n2_; (try clear hb); (try clear hb2); (try clear hk); (try clear hi)) | ((with_reducible refine gate_dst (N := 13) rfl ?_); refine box_event ?hg (N := 13) ?hd (cs := #[.string (⟨#[]⟩ : ByteArray), .int .i64 0, .int .i64 0, .int .i64 0, .int .i64 0]) (t := 50) ?hr ?_; (case hd => rfl); (case hg => rfl); (case hr => first | (go_simp; done) | (go_simp; rfl)); intro gb122 hg w30 hbox hb; have n0_ := Aside0.mk (Kd.R_below (by (with_reducible repeat (first | apply Kd.R_alloc | apply Kd.R_drewN | apply Kd.R_drew)); exact HO_9.out) hb); have n1_ := Aside0.mk (blk_below (g := gb115) (o := .cells #[.string t109, .int .i64 t110, .int .i64 t111, .int .i64 t112, .int .i64 t113] 42 (0, 0)) (by (with_reducible repeat (first | refine blk_drewN ?_ _ | refine blk_drew ?_ | refine blk_alloc ?_ _)); exact BK115.out) hb); have n2_ := Aside0.mk (below_step (by repeat (first | (with_reducible first | exact HB.out | apply below_alloc | apply pw_below_drewN | apply below_drew1 | refine below_set ?_ GE115.out) | exact HB.out)) hb); have n3_ := Aside0.mk (hbox); have n4_ := Aside0.mk ((by rw [hg]; exact (below_size (by repeat (first | (with_reducible first | exact HB.out | apply below_alloc | apply pw_below_drewN | apply below_drew1 | refine below_set ?_ GE115.out) | exact HB.out))) : w.heap.size ≤ gb122)); have n5_ := Aside0.mk ((by rw [hg]; exact (below_size (by repeat (first | (with_reducible first | exact HB.out | apply below_alloc | apply pw_below_drewN | apply below_drew1 | refine below_set ?_ GE115.out) | exact HB.out))) : w.heap.size ≤ gb122)); have n6_ := Aside0.mk ((by rw [hg]; exact Nat.ne_of_lt (blk_lt (g := gb115) (o := .cells #[.string t109, .int .i64 t110, .int .i64 t111, .int .i64 t112, .int .i64 t113] 42 (0, 0)) (by (with_reducible repeat (first | refine blk_drewN ?_ _ | refine blk_drew ?_ | refine blk_alloc ?_ _)); exact BK115.out)) : gb115 ≠ gb122)); have n7_ := Aside0.mk ((by rw [hg]; exact Nat.ne_of_gt (blk_lt (g := gb115) (o := .cells #[.string t109, .int .i64 t110, .int .i64 t111, .int .i64 t112, .int .i64 t113] 42 (0, 0)) (by (with_reducible repeat (first | refine blk_drewN ?_ _ | refine blk_drew ?_ | refine blk_alloc ?_ _)); exact BK115.out)) : gb122 ≠ gb115)); clear HO_9; clear BK115; clear HB; have HO_9 := n0_; have BK115 := n1_; have HB := n2_; have BK122 := n3_; have GW122 := n4_; have GE122 := n5_; have NB115_122 := n6_; have NB122_115 := n7_; clear n0_ n1_ n2_ n3_ n4_ n5_ n6_ n7_; clear hb hbox hg; have hnb31 := NB122_115.out; have hnc31 := NB115_122.out; have hcz32_0 : w30.cell? ⟨gb122, 0, none⟩ = some (.string (⟨#[]⟩ : ByteArray)) := (blk_cell BK122.out 0).trans rfl; have hcz32_1 : w30.cell? ⟨gb122, 1, none⟩ = some (.int .i64 0) := (blk_cell BK122.out 1).trans rfl; have hcz32_2 : w30.cell? ⟨gb122, 2, none⟩ = some (.int .i64 0) := (blk_cell BK122.out 2).trans rfl; have hcz32_3 : w30.cell? ⟨gb122, 3, none⟩ = some (.int .i64 0) := (blk_cell BK122.out 3).trans rfl; have hcz32_4 : w30.cell? ⟨gb122, 4, none⟩ = some (.int .i64 0) := (blk_cell BK122.out 4).trans rfl; have hfz32_0 := blk_frozen BK122.out 0; have hfz32_1 := blk_frozen BK122.out 1; have hfz32_2 := blk_frozen BK122.out 2; have hfz32_3 := blk_frozen BK122.out 3; have hfz32_4 := blk_frozen BK122.out 4) | ((with_reducible refine gate_callee (f := 19) rfl ?_); refine goesL_ (some 73) rfl rfl Try.func19 (by kernel_rfl) rfl #[.slice A0 l0.length c0, .slice Ao25 x9_1.length co25, .int .i64 a2, .string a3] rfl (by (try simp only [List.map_toArray, List.map_cons, List.map_nil]); first | done | rfl | (simp only [List.length_drop, List.length_take]; rfl)) ?_; (with_reducible refine (resolve_Look.calls k1 _ _ l0 _ _ x9_1 a2 a3 t123 t124 t125 _ ?side1 ?side2 ?side3 ?side4 A12.out).mono ?_); (case side1 => exact Kd.C_below HR0.out (by repeat (first | (with_reducible first | exact HB.out | apply below_alloc | apply pw_below_drewN | apply below_drew1 | refine below_set ?_ GE115.out | refine below_set ?_ GE122.out) | exact HB.out))); (case side2 => exact HC0.out); (case side3 => refine (Kd.R_reads' (e := 42) (base := w.heap.size) (ok := fun k_ => (True ∧ k_ ≠ gb115)) (n := x9_1.length) (c := co25) ?_).2.2; exact (by (with_reducible repeat (first | apply Kd.R_alloc | apply Kd.R_drewN | apply Kd.R_drew)); exact (Kd.R_mono (Kd.R_far (p := ⟨gb122, 4, none⟩) (Kd.R_far (p := ⟨gb122, 3, none⟩) (Kd.R_far (p := ⟨gb122, 2, none⟩) (Kd.R_far (p := ⟨gb122, 1, none⟩) (Kd.R_far (p := ⟨gb122, 0, none⟩) (Kd.R_types HO_9.out BK122.out (by decide)) (fun _ hk => hk.2) (.string t116)) (fun _ hk => hk.2) (.int .i64 t117)) (fun _ hk => hk.2) (.int .i64 t118)) (fun _ hk => hk.2) (.int .i64 t119)) (fun _ hk => hk.2) (.int .i64 t120)) (fun _ h_ => h_.1)))); (case side4 => exact (Kd.R_reads' HO_9.out).2.1); rintro e w33 ⟨rfl, hb⟩; refine ⟨_, rfl, ?_⟩; have n0_ := Aside0.mk (Kd.R_below (by (with_reducible repeat (first | apply Kd.R_alloc | apply Kd.R_drewN | apply Kd.R_drew)); exact (Kd.R_mono (Kd.R_far (p := ⟨gb122, 4, none⟩) (Kd.R_far (p := ⟨gb122, 3, none⟩) (Kd.R_far (p := ⟨gb122, 2, none⟩) (Kd.R_far (p := ⟨gb122, 1, none⟩) (Kd.R_far (p := ⟨gb122, 0, none⟩) (Kd.R_types HO_9.out BK122.out (by decide)) (fun _ hk => hk.2) (.string t116)) (fun _ hk => hk.2) (.int .i64 t117)) (fun _ hk => hk.2) (.int .i64 t118)) (fun _ hk => hk.2) (.int .i64 t119)) (fun _ hk => hk.2) (.int .i64 t120)) (fun _ h_ => h_.1))) hb); have n1_ := Aside0.mk (blk_below (g := gb115) (o := .cells #[.string t109, .int .i64 t110, .int .i64 t111, .int .i64 t112, .int .i64 t113] 42 (0, 0)) (by (with_reducible repeat (first | refine blk_drewN ?_ _ | refine blk_drew ?_ | refine blk_alloc ?_ _)); refine blk_far ?_ NB115_122.out _; (with_reducible repeat (first | refine blk_drewN ?_ _ | refine blk_drew ?_ | refine blk_alloc ?_ _)); refine blk_far ?_ NB115_122.out _; (with_reducible repeat (first | refine blk_drewN ?_ _ | refine blk_drew ?_ | refine blk_alloc ?_ _)); refine blk_far ?_ NB115_122.out _; (with_reducible repeat (first | refine blk_drewN ?_ _ | refine blk_drew ?_ | refine blk_alloc ?_ _)); refine blk_far ?_ NB115_122.out _; (with_reducible repeat (first | refine blk_drewN ?_ _ | refine blk_drew ?_ | refine blk_alloc ?_ _)); refine blk_far ?_ NB115_122.out _; (with_reducible repeat (first | refine blk_drewN ?_ _ | refine blk_drew ?_ | refine blk_alloc ?_ _)); exact BK115.out) hb); have n2_ := Aside0.mk (blk_below (g := gb122) (o := .cells #[.string t116, .int .i64 t117, .int .i64 t118, .int .i64 t119, .int .i64 t120] 50 (0, 0)) (by (with_reducible repeat (first | refine blk_drewN ?_ _ | refine blk_drew ?_ | refine blk_alloc ?_ _)); refine blk_put (cs := #[.string t116, .int .i64 t117, .int .i64 t118, .int .i64 t119, .int .i64 0]) ?_ 4 _ rfl; (with_reducible repeat (first | refine blk_drewN ?_ _ | refine blk_drew ?_ | refine blk_alloc ?_ _)); refine blk_put (cs := #[.string t116, .int .i64 t117, .int .i64 t118, .int .i64 0, .int .i64 0]) ?_ 3 _ rfl; (with_reducible repeat (first | refine blk_drewN ?_ _ | refine blk_drew ?_ | refine blk_alloc ?_ _)); refine blk_put (cs := #[.string t116, .int .i64 t117, .int .i64 0, .int .i64 0, .int .i64 0]) ?_ 2 _ rfl; (with_reducible repeat (first | refine blk_drewN ?_ _ | refine blk_drew ?_ | refine blk_alloc ?_ _)); refine blk_put (cs := #[.string t116, .int .i64 0, .int .i64 0, .int .i64 0, .int .i64 0]) ?_ 1 _ rfl; (with_reducible repeat (first | refine blk_drewN ?_ _ | refine blk_drew ?_ | refine blk_alloc ?_ _)); refine blk_put (cs := #[.string (⟨#[]⟩ : ByteArray), .int .i64 0, .int .i64 0, .int .i64 0, .int .i64 0]) ?_ 0 _ rfl; (with_reducible repeat (first | refine blk_drewN ?_ _ | refine blk_drew ?_ | refine blk_alloc ?_ _)); exact BK122.out) hb); have n3_ := Aside0.mk (below_step (by repeat (first | (with_reducible first | exact HB.out | apply below_alloc | apply pw_below_drewN | apply below_drew1 | refine below_set ?_ GE115.out | refine below_set ?_ GE122.out) | exact HB.out)) hb); clear HO_9; clear BK115; clear BK122; clear HB; have HO_9 := n0_; have BK115 := n1_; have BK122 := n2_; have HB := n3_; clear n0_ n1_ n2_ n3_; (try clear hb); (try clear hb2); (try clear hk); (try clear hi)) | ((with_reducible refine gate_callee (f := 20) rfl ?_); refine goesL_ (some 82) rfl rfl Try.func20 (by kernel_rfl) rfl #[.slice A0 l0.length c0, .slice A1 l1.length c1, .int .i64 a2, .string a3] rfl (by (try simp only [List.map_toArray, List.map_cons, List.map_nil]); first | done | rfl | (simp only [List.length_drop, List.length_take]; rfl)) ?_; (with_reducible refine (gangwayref18_Look.calls k1 _ _ l0 _ _ l1 a2 a3 t126 t127 t128 _ ?side1 ?side2 ?side3 ?side4 A13.out).mono ?_); (case side1 => repeat (first | exact (Kd.C_below HR0.out HB.out) | (with_reducible refine Kd.C_alloc ?_ _) | (with_reducible refine Kd.C_drewN ?_ _) | (with_reducible refine Kd.C_drew ?_))); (case side2 => exact HC0.out); (case side3 => repeat (first | exact (Kd.C_below HR1.out HB.out) | (with_reducible refine Kd.C_alloc ?_ _) | (with_reducible refine Kd.C_drewN ?_ _) | (with_reducible refine Kd.C_drew ?_))); (case side4 => exact HC1.out); rintro e w34 ⟨rfl, hb⟩; refine ⟨_, rfl, ?_⟩; have n0_ := Aside0.mk (Kd.R_below (by (with_reducible repeat (first | apply Kd.R_alloc | apply Kd.R_drewN | apply Kd.R_drew)); exact HO_9.out) hb); have n1_ := Aside0.mk (blk_below (g := gb115) (o := .cells #[.string t109, .int .i64 t110, .int .i64 t111, .int .i64 t112, .int .i64 t113] 42 (0, 0)) (by (with_reducible repeat (first | refine blk_drewN ?_ _ | refine blk_drew ?_ | refine blk_alloc ?_ _)); exact BK115.out) hb); have n2_ := Aside0.mk (blk_below (g := gb122) (o := .cells #[.string t116, .int .i64 t117, .int .i64 t118, .int .i64 t119, .int .i64 t120] 50 (0, 0)) (by (with_reducible repeat (first | refine blk_drewN ?_ _ | refine blk_drew ?_ | refine blk_alloc ?_ _)); exact BK122.out) hb); have n3_ := Aside0.mk (below_step (by repeat (first | (with_reducible first | exact HB.out | apply below_alloc | apply pw_below_drewN | apply below_drew1 | refine below_set ?_ GE115.out | refine below_set ?_ GE122.out) | exact HB.out)) hb); clear HO_9; clear BK115; clear BK122; clear HB; have HO_9 := n0_; have BK115 := n1_; have BK122 := n2_; have HB := n3_; clear n0_ n1_ n2_ n3_; (try clear hb); (try clear hb2); (try clear hk); (try clear hi); have hcz35_0 : w34.cell? ⟨gb115, 0, none⟩ = some (.string t109) := (blk_cell BK115.out 0).trans rfl; have hcz35_1 : w34.cell? ⟨gb115, 1, none⟩ = some (.int .i64 t110) := (blk_cell BK115.out 1).trans rfl; have hcz35_2 : w34.cell? ⟨gb115, 2, none⟩ = some (.int .i64 t111) := (blk_cell BK115.out 2).trans rfl; have hcz35_3 : w34.cell? ⟨gb115, 3, none⟩ = some (.int .i64 t112) := (blk_cell BK115.out 3).trans rfl; have hcz35_4 : w34.cell? ⟨gb115, 4, none⟩ = some (.int .i64 t113) := (blk_cell BK115.out 4).trans rfl; have hfz35_0 := blk_frozen BK115.out 0; have hfz35_1 := blk_frozen BK115.out 1; have hfz35_2 := blk_frozen BK115.out 2; have hfz35_3 := blk_frozen BK115.out 3; have hfz35_4 := blk_frozen BK115.out 4; have hcz36_0 : w34.cell? ⟨gb122, 0, none⟩ = some (.string t116) := (blk_cell BK122.out 0).trans rfl; have hcz36_1 : w34.cell? ⟨gb122, 1, none⟩ = some (.int .i64 t117) := (blk_cell BK122.out 1).trans rfl; have hcz36_2 : w34.cell? ⟨gb122, 2, none⟩ = some (.int .i64 t118) := (blk_cell BK122.out 2).trans rfl; have hcz36_3 : w34.cell? ⟨gb122, 3, none⟩ = some (.int .i64 t119) := (blk_cell BK122.out 3).trans rfl; have hcz36_4 : w34.cell? ⟨gb122, 4, none⟩ = some (.int .i64 t120) := (blk_cell BK122.out 4).trans rfl; have hfz36_0 := blk_frozen BK122.out 0; have hfz36_1 := blk_frozen BK122.out 1; have hfz36_2 := blk_frozen BK122.out 2; have hfz36_3 := blk_frozen BK122.out 3; have hfz36_4 := blk_frozen BK122.out 4) | (go_at_call 8; (with_reducible refine (gangwaylaw18_num.calls t125 t129 _ A22.out).mono ?_); rintro e w' ⟨rfl, ⟨nd, rfl⟩⟩) | (go_at_call 10; (with_reducible refine (gangwaylaw18_live.calls  t130 _ A24.out).mono ?_); rintro e w37 ⟨rfl, hb⟩; have n0_ := Aside0.mk (Kd.R_below (by (with_reducible repeat (first | apply Kd.R_alloc | apply Kd.R_drewN | apply Kd.R_drew)); exact HO_9.out) hb); have n1_ := Aside0.mk (blk_below (g := gb115) (o := .cells #[.string t109, .int .i64 t110, .int .i64 t111, .int .i64 t112, .int .i64 t113] 42 (0, 0)) (by (with_reducible repeat (first | refine blk_drewN ?_ _ | refine blk_drew ?_ | refine blk_alloc ?_ _)); exact BK115.out) hb); have n2_ := Aside0.mk (blk_below (g := gb122) (o := .cells #[.string t116, .int .i64 t117, .int .i64 t118, .int .i64 t119, .int .i64 t120] 50 (0, 0)) (by (with_reducible repeat (first | refine blk_drewN ?_ _ | refine blk_drew ?_ | refine blk_alloc ?_ _)); exact BK122.out) hb); have n3_ := Aside0.mk (below_step (by repeat (first | (with_reducible first | exact HB.out | apply below_alloc | apply pw_below_drewN | apply below_drew1 | refine below_set ?_ GE115.out | refine below_set ?_ GE122.out) | exact HB.out)) hb); clear HO_9; clear BK115; clear BK122; clear HB; have HO_9 := n0_; have BK115 := n1_; have BK122 := n2_; have HB := n3_; clear n0_ n1_ n2_ n3_; (try clear hb); (try clear hb2); (try clear hk); (try clear hi)))
             go_ret
             exact ⟨by first | rfl | (simp [errW_none, errW_some] <;> rfl) | (simp [*, errW_none, errW_some] <;> rfl), by repeat (first | (with_reducible first | exact HB.out | apply below_alloc | apply pw_below_drewN | apply below_drew1 | refine below_set ?_ GE115.out | refine below_set ?_ GE122.out) | exact HB.out)⟩
            ·
             rw [if_neg c23] at H
             exact absurd H (by simp)
           ·
            rw [if_neg c21] at H
            exact absurd H (by simp)
          ·
           rw [if_neg c20] at H
           exact absurd H (by simp)
         ·
          rw [if_neg c19] at H
          exact absurd H (by simp)
        ·
         rw [if_neg c18] at H
         exact absurd H (by simp)
       ·
        rw [if_neg c17] at H
        exact absurd H (by simp)
      ·
       rw [if_neg c16] at H
       exact absurd H (by simp)
     ·
      rw [if_neg c15] at H
      exact absurd H (by simp)
    ·
     rw [if_neg c14] at H
     exact absurd H (by simp)
end Go.Proofs.Ytibkcnlcmempgaa.G
end
section
namespace Go.Proofs.Ytibkcnlcmempgaa.Stmt
open Go.RowKit Go.Proofs.Ytibkcnlcmempgaa.G Go.Proofs.YtibkcnlcmempgaaW.PrintWords
set_option linter.unusedVariables false
def wf146 (x : S146) : Prop := ((Lit.int .i64 x.f0).wf = true) ∧ ((Lit.int .i64 x.f1).wf = true) ∧ (x.f2.size ≤ 140737488351232) ∧ ((Lit.int .i64 x.f3).wf = true)
def wt146 (x : S146) : Nat := (1 + (1 + ((x.f2.size + 1) + (1)))) + 1
def wf72 (x : S72) : Prop := (x.f0.size ≤ 140737488351232) ∧ ((Lit.int .i64 x.f1).wf = true) ∧ ((Lit.int .i64 x.f2).wf = true) ∧ ((Lit.int .i64 x.f3).wf = true) ∧ (x.f4.length * 1 ≤ 140737488351232 ∧ x.f4.length ≤ 9223372036854775807 ∧ ∀ y1 ∈ x.f4, (Lit.int .u8 y1).wf = true) ∧ ((Lit.int .i64 x.f5).wf = true) ∧ (x.f6.length * 40 ≤ 140737488351232 ∧ x.f6.length ≤ 9223372036854775807 ∧ ∀ y1 ∈ x.f6, wf146 y1)
def wt72 (x : S72) : Nat := ((x.f0.size + 1) + (1 + (1 + (1 + (((x.f4.map (fun y => 1)).sum + 1) + (1 + (((x.f6.map wt146).sum + 1)))))))) + 1
def wf38 (x : S38) : Prop := (x.f0.size ≤ 140737488351232) ∧ (x.f1.size ≤ 140737488351232) ∧ ((Lit.int .i64 x.f2).wf = true) ∧ ((Lit.int .i64 x.f3).wf = true) ∧ ((Lit.int .i64 x.f4).wf = true) ∧ ((Lit.int .i64 x.f5).wf = true)
def wt38 (x : S38) : Nat := ((x.f0.size + 1) + ((x.f1.size + 1) + (1 + (1 + (1 + (1)))))) + 1
def wf36 (x : S36) : Prop := (x.f0.length * 96 ≤ 140737488351232 ∧ x.f0.length ≤ 9223372036854775807 ∧ ∀ y1 ∈ x.f0, wf72 y1) ∧ (x.f1.length * 64 ≤ 140737488351232 ∧ x.f1.length ≤ 9223372036854775807 ∧ ∀ y1 ∈ x.f1, wf38 y1)
def wt36 (x : S36) : Nat := (((x.f0.map wt72).sum + 1) + (((x.f1.map wt38).sum + 1))) + 1
def wf50 (x : S50) : Prop := (x.f0.size ≤ 140737488351232) ∧ ((Lit.int .i64 x.f1).wf = true) ∧ ((Lit.int .i64 x.f2).wf = true) ∧ ((Lit.int .i64 x.f3).wf = true) ∧ ((Lit.int .i64 x.f4).wf = true)
def wt50 (x : S50) : Nat := ((x.f0.size + 1) + (1 + (1 + (1 + (1))))) + 1
def ResolveLooks : Prop := ∀ (l0 : List (S36)) (l1 : List (S50)) (a2 : Int) (a3 : ByteArray), (l0.length * 48 ≤ 140737488351232 ∧ l0.length ≤ 9223372036854775807 ∧ ∀ y1 ∈ l0, wf36 y1) → (l1.length * 48 ≤ 140737488351232 ∧ l1.length ≤ 9223372036854775807 ∧ ∀ y1 ∈ l1, wf50 y1) → ((Lit.int .i64 a2).wf = true) → (a3.size ≤ 140737488351232) → ∃ k, G.gangwaylaw18_ResolveLooks.f k l0 l1 a2 a3 = some true
end Go.Proofs.Ytibkcnlcmempgaa.Stmt
end
section
namespace Go.Proofs.Ytibkcnlcmempgaa.Pure
open Go.RowKit Go.Proofs.Ytibkcnlcmempgaa.G Go.Proofs.Ytibkcnlcmempgaa.Stmt Go.Proofs.YtibkcnlcmempgaaW.PrintWords
set_option linter.unusedVariables false
set_option linter.unusedSimpArgs false
def conv (l : List S50) : List S42 := l.map fun x => ⟨x.f0, x.f1, x.f2, x.f3, x.f4⟩
theorem conv_len (l : List S50) : (conv l).length = l.length := List.length_map _
theorem conv_at (l : List S50) (i : Nat) (h : i < l.length) : rd_T42 (conv l) (i : Int) = ⟨(rd_T50 l (i : Int)).f0, (rd_T50 l (i : Int)).f1, (rd_T50 l (i : Int)).f2, (rd_T50 l (i : Int)).f3, (rd_T50 l (i : Int)).f4⟩ := by
  simp [rd_T42, rd_T50, conv, List.getD, h]
theorem next (i : Nat) (h : i < 1000000000000000) : wrap64 ((i : Int) + 1) = ((i + 1 : Nat) : Int) := by
  unfold wrap64
  omega
theorem find_both (l : List S50) (n : ByteArray) (hl : l.length < 1000000000000000) (e : Nat) : ∀ (m i : Nat), i + m = l.length → ∃ r, resolve_Find.l0 (m + 1 + e) n (conv l) ((conv l).length : Int) (i : Int) = some r ∧ gangwayref18_Find.l0 (m + 1 + e) l n (i : Int) = some r := by
  intro m
  induction m with
  | zero =>
    intro i hi
    refine ⟨(⟨#[]⟩, 0, 0, 0, 0, false), ?_, ?_⟩
    · rw [show 0 + 1 + e = e + 1 by omega, resolve_Find.l0, if_neg (by rw [conv_len]; omega)]
    · rw [show 0 + 1 + e = e + 1 by omega, gangwayref18_Find.l0, if_neg (by omega)]
  | succ m ih =>
    intro i hi
    have e1 : resolve_Find.l0 (m + 1 + 1 + e) n (conv l) ((conv l).length : Int) (i : Int) = if (rd_T50 l (i : Int)).f0.toList = n.toList then some ((rd_T50 l (i : Int)).f0, (rd_T50 l (i : Int)).f1, (rd_T50 l (i : Int)).f2, (rd_T50 l (i : Int)).f3, (rd_T50 l (i : Int)).f4, true) else resolve_Find.l0 (m + 1 + e) n (conv l) ((conv l).length : Int) ((i + 1 : Nat) : Int) := by
      rw [show m + 1 + 1 + e = (m + 1 + e) + 1 by omega, resolve_Find.l0, if_pos (by rw [conv_len]; omega), if_pos (by omega), if_pos (by rw [conv_len]; omega), conv_at l i (by omega), next i (by omega)]
    have e2 : gangwayref18_Find.l0 (m + 1 + 1 + e) l n (i : Int) = if (rd_T50 l (i : Int)).f0.toList = n.toList then some ((rd_T50 l (i : Int)).f0, (rd_T50 l (i : Int)).f1, (rd_T50 l (i : Int)).f2, (rd_T50 l (i : Int)).f3, (rd_T50 l (i : Int)).f4, true) else gangwayref18_Find.l0 (m + 1 + e) l n ((i + 1 : Nat) : Int) := by
      rw [show m + 1 + 1 + e = (m + 1 + e) + 1 by omega, gangwayref18_Find.l0, if_pos (by omega), if_pos (by omega), next i (by omega)]
    rw [e1, e2]
    by_cases h : (rd_T50 l (i : Int)).f0.toList = n.toList
    · rw [if_pos h, if_pos h]
      exact ⟨_, rfl, rfl⟩
    · rw [if_neg h, if_neg h]
      exact ih (i + 1) (by omega)
theorem find_same (l : List S50) (n : ByteArray) (hl : l.length < 1000000000000000) (k : Nat) (hk : l.length + 1 ≤ k) : ∃ r, resolve_Find.f k (conv l) n = some r ∧ gangwayref18_Find.f k l n = some r := by
  have h := find_both l n hl (k - (l.length + 1)) l.length 0 (by omega)
  rw [show l.length + 1 + (k - (l.length + 1)) = k by omega] at h
  exact h
theorem look_both (l : List S36) (t : List S50) (a : Int) (n : ByteArray) (ht : t.length < 1000000000000000) (h0 : 0 ≤ a) (h1 : a < (l.length : Int)) (K : Nat) (hK : t.length + 1 ≤ K) (hs : (rd_T36 l a).f1.length < 1000000000000000) :
    ∀ (m i : Nat) (b : Bool), i + m = (rd_T36 l a).f1.length → ∃ r, resolve_Look.l0 (K + m + 1) (conv t) a n b ((rd_T36 l a).f1) ((rd_T36 l a).f1.length : Int) (i : Int) = some r ∧ gangwayref18_Look.l0 (K + m + 1) l t a n b (i : Int) = some r := by
  intro m
  induction m with
  | zero =>
    intro i b hi
    obtain ⟨r, hr1, hr2⟩ := find_same t n ht K hK
    rw [Nat.add_zero, resolve_Look.l0, gangwayref18_Look.l0, if_neg (by omega), if_pos h0, if_pos h1, if_neg (by omega), hr1, hr2]
    simp only [Option.bind_some]
    cases b <;> cases hb : r.2.2.2.2.2 <;> simp
  | succ m ih =>
    intro i b hi
    have e1 : resolve_Look.l0 (K + (m + 1) + 1) (conv t) a n b ((rd_T36 l a).f1) ((rd_T36 l a).f1.length : Int) (i : Int) = if (rd_T38 (rd_T36 l a).f1 (i : Int)).f0.toList = n.toList then (if (rd_T38 (rd_T36 l a).f1 (i : Int)).f4 = 0 then some (a, (i : Int), 0) else resolve_Look.l0 (K + m + 1) (conv t) a n true (rd_T36 l a).f1 ((rd_T36 l a).f1.length : Int) ((i + 1 : Nat) : Int)) else resolve_Look.l0 (K + m + 1) (conv t) a n b (rd_T36 l a).f1 ((rd_T36 l a).f1.length : Int) ((i + 1 : Nat) : Int) := by
      rw [show K + (m + 1) + 1 = (K + m + 1) + 1 by omega, resolve_Look.l0, if_pos (by omega), if_pos (by omega), if_pos (by omega), next i (by omega)]
    have e2 : gangwayref18_Look.l0 (K + (m + 1) + 1) l t a n b (i : Int) = if (rd_T38 (rd_T36 l a).f1 (i : Int)).f0.toList = n.toList then (if (rd_T38 (rd_T36 l a).f1 (i : Int)).f4 = 0 then some (a, (i : Int), 0) else (if b = true then gangwayref18_Look.l0 (K + m + 1) l t a n true ((i + 1 : Nat) : Int) else gangwayref18_Look.l0 (K + m + 1) l t a n ((rd_T38 (rd_T36 l a).f1 (i : Int)).f0.toList == n.toList) ((i + 1 : Nat) : Int))) else (if b = true then gangwayref18_Look.l0 (K + m + 1) l t a n true ((i + 1 : Nat) : Int) else gangwayref18_Look.l0 (K + m + 1) l t a n ((rd_T38 (rd_T36 l a).f1 (i : Int)).f0.toList == n.toList) ((i + 1 : Nat) : Int)) := by
      rw [show K + (m + 1) + 1 = (K + m + 1) + 1 by omega, gangwayref18_Look.l0, if_pos h0, if_pos h1, if_pos (by omega), if_pos (by omega), next i (by omega)]
    rw [e1, e2]
    by_cases h : (rd_T38 (rd_T36 l a).f1 (i : Int)).f0.toList = n.toList
    · rw [if_pos h, if_pos h]
      by_cases h2 : (rd_T38 (rd_T36 l a).f1 (i : Int)).f4 = 0
      · rw [if_pos h2, if_pos h2]
        exact ⟨_, rfl, rfl⟩
      · rw [if_neg h2, if_neg h2]
        have hb : ((rd_T38 (rd_T36 l a).f1 (i : Int)).f0.toList == n.toList) = true := by rw [h]; exact beq_self_eq_true _
        rw [hb]
        obtain ⟨r, hr1, hr2⟩ := ih (i + 1) true (by omega)
        refine ⟨r, hr1, ?_⟩
        rw [hr2]
        simp
    · rw [if_neg h, if_neg h]
      have hb : ((rd_T38 (rd_T36 l a).f1 (i : Int)).f0.toList == n.toList) = false := by simpa using h
      rw [hb]
      obtain ⟨r, hr1, hr2⟩ := ih (i + 1) b (by omega)
      refine ⟨r, hr1, ?_⟩
      cases b <;> simpa using hr2
theorem look_same (l : List S36) (t : List S50) (a : Int) (n : ByteArray) (ht : t.length < 1000000000000000) (hs : ∀ f ∈ l, f.f1.length < 1000000000000000) :
    ∃ M, ∀ k, M ≤ k → ∃ r, resolve_Look.f k l (conv t) a n = some r ∧ gangwayref18_Look.f k l t a n = some r := by
  by_cases h0 : a < 0
  · refine ⟨1, fun k hk => ⟨(0, 0, 1), ?_, ?_⟩⟩
    · obtain ⟨k, rfl⟩ : ∃ k', k = k' + 1 := ⟨k - 1, by omega⟩
      rw [resolve_Look.f, if_pos h0, resolve_Look.j0, if_pos rfl]
    · obtain ⟨k, rfl⟩ : ∃ k', k = k' + 1 := ⟨k - 1, by omega⟩
      rw [gangwayref18_Look.f, if_pos h0, gangwayref18_Look.j0, if_pos rfl]
  by_cases h1 : a ≥ (l.length : Int)
  · refine ⟨1, fun k hk => ⟨(0, 0, 1), ?_, ?_⟩⟩
    · obtain ⟨k, rfl⟩ : ∃ k', k = k' + 1 := ⟨k - 1, by omega⟩
      rw [resolve_Look.f, if_neg h0, resolve_Look.j0, if_pos (by simpa using h1)]
    · obtain ⟨k, rfl⟩ : ∃ k', k = k' + 1 := ⟨k - 1, by omega⟩
      rw [gangwayref18_Look.f, if_neg h0, gangwayref18_Look.j0, if_pos (by simpa using h1)]
  have hd : decide (a ≥ (l.length : Int)) = false := by simpa using h1
  have hf : (rd_T36 l a).f1.length < 1000000000000000 := hs _ (by
    unfold rd_T36
    rw [List.getD_eq_getElem?_getD, List.getElem?_eq_getElem (by omega)]
    exact List.getElem_mem _)
  refine ⟨t.length + 1 + (rd_T36 l a).f1.length + 2, fun k hk => ?_⟩
  obtain ⟨K, rfl, hK⟩ : ∃ K, k = (K + (rd_T36 l a).f1.length + 1) + 1 ∧ t.length + 1 ≤ K := ⟨k - (rd_T36 l a).f1.length - 2, by omega, by omega⟩
  obtain ⟨r, hr1, hr2⟩ := look_both l t a n ht (by omega) (by omega) K hK hf (rd_T36 l a).f1.length 0 false (by omega)
  refine ⟨r, ?_, ?_⟩
  · rw [resolve_Look.f, if_neg h0, hd, resolve_Look.j0, if_neg (by simp), if_pos (by omega), if_pos (by omega)]
    exact hr1
  · rw [gangwayref18_Look.f, if_neg h0, hd, gangwayref18_Look.j0, if_neg (by simp)]
    exact hr2
theorem conv_take (l : List S50) (i : Nat) (h : i < l.length) : conv (l.take (i + 1)) = conv (l.take i) ++ [⟨(rd_T50 l (i : Int)).f0, (rd_T50 l (i : Int)).f1, (rd_T50 l (i : Int)).f2, (rd_T50 l (i : Int)).f3, (rd_T50 l (i : Int)).f4⟩] := by
  unfold conv
  rw [List.take_succ_eq_append_getElem h, List.map_append]
  have e : rd_T50 l (i : Int) = l[i] := by simp [rd_T50, List.getD, h]
  rw [e]
  rfl
theorem law (l : List S36) (t : List S50) (a : Int) (n : ByteArray) (ht : t.length < 2932031007402) (hs : ∀ f ∈ l, f.f1.length < 1000000000000000) : ∃ k, gangwaylaw18_ResolveLooks.f k l t a n = some true := by
  obtain ⟨M, hM⟩ := look_same l t a n (by omega) hs
  have main : ∀ (m i : Nat), i + m = t.length → gangwaylaw18_ResolveLooks.l0 ((M + t.length + 1) + m + 1) l t a n (conv (t.take i)) (i : Int) = some true := by
    intro m
    induction m with
    | zero =>
      intro i hi
      obtain ⟨r, hr1, hr2⟩ := hM (M + t.length + 1) (by omega)
      obtain ⟨s, hs1, hs2⟩ := find_same t n (by omega) (M + t.length + 1) (by omega)
      rw [Nat.add_zero, gangwaylaw18_ResolveLooks.l0, if_neg (by omega), List.take_of_length_le (by omega), hr1, hr2, hs1, hs2]
      simp only [Option.bind_some, gangwaylaw18_num.f, gangwaylaw18_live.f, beq_self_eq_true, if_true]
    | succ m ih =>
      intro i hi
      rw [show (M + t.length + 1) + (m + 1) + 1 = ((M + t.length + 1) + m + 1) + 1 by omega, gangwaylaw18_ResolveLooks.l0, if_pos (by omega), if_pos (by omega), if_pos (by rw [conv_len, List.length_take]; omega), next i (by omega), ← conv_take t i (by omega)]
      exact ih (i + 1) (by omega)
  exact ⟨_, main t.length 0 (by omega)⟩
theorem ResolveLooks : Stmt.ResolveLooks := by
  intro l t a n h0 h1 h2 h3
  refine law l t a n (by have := h1.1; omega) (fun f hf => ?_)
  have := (h0.2.2 f hf).2.1
  omega
end Go.Proofs.Ytibkcnlcmempgaa.Pure
end
section
namespace Go.Proofs.Ytibkcnlcmempgaa.Opening
set_option linter.unusedVariables false
set_option linter.unusedSimpArgs false
open Go.ChangeShapes Go.WideShapes Go.Proofs.YtibkcnlcmempgaaW.PrintWords
/-- A datum of type t opens as a value of kind d: it is well (wf), and its bulk is at least its weight (wt). -/
structure Opens {α : Type} (P : Program) (t : TypeId) (d : Kd α) (wf : α → Prop) (wt : α → Nat) : Prop where
  cells : P.cellsOf t = d.sz
  op : ∀ {H : Type} {enc : TypeId × Value → H} {w : World} {base : Nat} {spare : Nat → Bool} {held : Bool} {fuel : Nat} {cs : List Value} {x : DataW H × List MemPlace},
    DataW.trod enc P w base spare held fuel t cs = some x → (∀ n ∈ x.1.weights P t, n ≤ 140737488351232) → ∃ a : α, d.K w a cs ∧ wf a ∧ wt a ≤ Rows.uptoBulk x.1
theorem opens_int {P : Program} {t : TypeId} (k : IntKind) (ht : P.underlying t = some (.int k)) (hc : P.cellsOf t = 1) : Opens P t (Kd.int k) (fun a => (Lit.int k a).wf = true) (fun _ => 1) :=
  ⟨hc, fun h _ => by
    obtain ⟨n, rfl, rfl, hw⟩ := DataW.trod_int ht h
    exact ⟨n, rfl, hw, by simp [Rows.uptoBulk]⟩⟩
theorem opens_string {P : Program} {t : TypeId} (ht : P.underlying t = some .string) (hc : P.cellsOf t = 1) : Opens P t Kd.string (fun a => a.size ≤ 140737488351232) (fun a => a.size + 1) :=
  ⟨hc, fun h hz => by
    obtain ⟨s, rfl, rfl, _⟩ := DataW.trod_string ht h
    have e : s.data.toList.length = s.size := by rw [Array.length_toList]; rfl
    refine ⟨s, rfl, ?_, by simp only [Rows.uptoBulk]; omega⟩
    rw [← e]
    exact hz _ (by simp [DataW.weights])⟩
theorem list_of {α : Type} {p : Nat → α → Prop} : ∀ {n : Nat}, (∀ i, i < n → ∃ a, p i a) → ∃ l : List α, l.length = n ∧ ∀ i (h : i < l.length), p i l[i]
  | 0, _ => ⟨[], rfl, fun i h => absurd h (Nat.not_lt_zero _)⟩
  | n + 1, h => by
    obtain ⟨l, hl, hp⟩ := list_of (n := n) (fun i hi => h i (Nat.lt_succ_of_lt hi))
    obtain ⟨a, ha⟩ := h n (Nat.lt_succ_self n)
    refine ⟨l ++ [a], by simp [hl], fun i hi => ?_⟩
    by_cases hlt : i < l.length
    · rw [List.getElem_append_left hlt]
      exact hp i hlt
    · have e : i = n := by simp at hi; omega
      subst e
      rw [List.getElem_append_right (by omega)]
      simpa [hl] using ha
theorem bulk_all {α H : Type} {wt : α → Nat} : ∀ {l : List α} {ds : List (DataW H)}, l.length ≤ ds.length → (∀ i (h : i < l.length) d, ds[i]? = some d → wt l[i] ≤ Rows.uptoBulk d) → (l.map wt).sum ≤ Rows.uptoBulkAll ds
  | [], _, _, _ => by simp
  | a :: l, [], h, _ => by simp at h
  | a :: l, d :: ds, h, hw => by
    have h0 := hw 0 (by simp) d rfl
    have h1 := bulk_all (l := l) (ds := ds) (by simpa using h) (fun i hi d' hd' => hw (i + 1) (by simpa using hi) d' (by simpa using hd'))
    simp only [List.map_cons, List.sum_cons, Rows.uptoBulkAll]
    simp at h0
    omega
theorem weights_all {H : Type} {P : Program} {e : TypeId} : ∀ {ds : List (DataW H)} {d : DataW H}, d ∈ ds → ∀ n ∈ d.weights P e, n ∈ DataW.weightsAll P e ds
  | d0 :: ds, d, h, n, hn => by
    simp only [DataW.weightsAll, List.mem_append]
    cases List.mem_cons.1 h with
    | inl e => subst e; exact .inl hn
    | inr e => exact .inr (weights_all e n hn)
theorem opens_slice {α : Type} {P : Program} {t e : TypeId} {d : Kd α} {wf : α → Prop} {wt : α → Nat} {b : Nat} (ho : Opens P e d wf wt) (ht : P.underlying t = some (.slice e)) (hc : P.cellsOf t = 1) (hb : P.bytesOf e = b) :
    Opens P t (Kd.slice e d) (fun l => l.length * b ≤ 140737488351232 ∧ l.length ≤ 9223372036854775807 ∧ ∀ a ∈ l, wf a) (fun l => (l.map wt).sum + 1) :=
  ⟨hc, fun {H enc w base spare held fuel cs x} h hz => by
    subst hb
    rcases DataW.trod_slice ht h with ⟨rfl, rfl⟩ | ⟨a, len, cap, elems, rest, n, _, rfl, rfl, hb, hl, hm, hlen, hel, hsp, hns⟩
    · exact ⟨[], ⟨none, 0, rfl, Nat.le_refl _, Kd.C_nil d w⟩, ⟨by simp, by simp, by simp⟩, by simp [Rows.uptoBulk]⟩
    · have hm' : cap ≤ 9223372036854775807 := hm
      have hz1 : (elems.length + rest.length) * P.bytesOf e ≤ 140737488351232 := hz _ (by simp [DataW.weights, ht])
      have hz2 : ∀ y ∈ elems, ∀ n ∈ y.1.weights P e, n ≤ 140737488351232 := fun y hy n hn => hz _ (by
        simp only [DataW.weights, ht, List.mem_cons, List.mem_append]
        exact .inr (.inl (weights_all (List.mem_map.2 ⟨y, hy, rfl⟩) n hn)))
      have each : ∀ i, i < len → ∃ a' : α, (∃ cs' y, w.cells? base (a.add (i * P.cellsOf e)) (P.cellsOf e) = some cs' ∧ d.K w a' cs' ∧ elems[i]? = some y ∧ wt a' ≤ Rows.uptoBulk y.1) ∧ wf a' := fun i hi => by
        have h1 := hel i hi
        rw [List.getElem?_eq_getElem (by omega)] at h1
        obtain ⟨cs', h2, h3⟩ := Option.bind_eq_some_iff.1 h1
        obtain ⟨a', k1, k2, k3⟩ := ho.op h3 (hz2 _ (List.getElem_mem _))
        exact ⟨a', ⟨cs', _, h2, k1, List.getElem?_eq_getElem (by omega), k3⟩, k2⟩
      obtain ⟨l, hl1, hl2⟩ := list_of each
      subst hl1
      refine ⟨l, ⟨some a, cap, rfl, hl, rfl, by omega, fun _ => ⟨a, rfl, fun j p hp => ?_⟩⟩, ⟨?_, by omega, fun a' ha' => ?_⟩, ?_⟩
      · obtain ⟨hj, rfl⟩ := List.getElem?_eq_some_iff.1 hp
        obtain ⟨⟨cs', y, h2, k1, _, _⟩, _⟩ := hl2 j hj
        obtain ⟨_, hcl, hcell⟩ := World.cells?_some h2
        refine ⟨cs', by rw [hcl, ho.cells], k1, fun i u hu => ?_⟩
        have hi : i < P.cellsOf e := by rw [← hcl]; exact (List.getElem?_eq_some_iff.1 hu).1
        have := hcell i hi
        rw [hu, ho.cells] at this
        rw [← this]
        congr 1
        unfold Addr.add
        by_cases hi0 : i = 0 <;> by_cases hj0 : j * d.sz = 0 <;> simp [hi0, hj0, Nat.add_assoc]
      · refine Nat.le_trans (Nat.mul_le_mul_right _ ?_) hz1
        omega
      · obtain ⟨j, hj, rfl⟩ := List.getElem_of_mem ha'
        exact (hl2 j hj).2
      · have := bulk_all (l := l) (ds := elems.map (·.1)) (wt := wt) (by simp; omega) (fun i hi dd hd => by
          obtain ⟨⟨_, y, _, _, hy, hw⟩, _⟩ := hl2 i hi
          rw [List.getElem?_map, hy] at hd
          simp at hd
          subst hd
          exact hw)
        simp only [Rows.uptoBulk]
        omega⟩
/-- The fields from one on, whose cells begin at off. -/
def OpensF {α : Type} (P : Program) (fs : List Field) (off : Nat) (d : Kd α) (wf : α → Prop) (wt : α → Nat) : Prop :=
  (∃ f r, fs = f :: r ∧ f.offset = off) ∧
  ∀ {H : Type} {enc : TypeId × Value → H} {w : World} {base : Nat} {spare : Nat → Bool} {held : Bool} {fuel : Nat} {cs : List Value} {xs : List (DataW H × List MemPlace)},
    cs.length = d.sz → xs.length = fs.length → (∀ (i : Nat) (f : Field), fs[i]? = some f → DataW.trod enc P w base spare held fuel f.type ((cs.drop (f.offset - off)).take (P.cellsOf f.type)) = xs[i]? ∧ off ≤ f.offset) →
    (∀ n ∈ DataW.weightsEach P (fs.map (·.type)) (xs.map (·.1)), n ≤ 140737488351232) → ∃ a : α, d.K w a cs ∧ wf a ∧ wt a ≤ Rows.uptoBulkAll (xs.map (·.1))
theorem opensF_one {α : Type} {P : Program} {f : Field} {off : Nat} {d : Kd α} {wf : α → Prop} {wt : α → Nat} (ho : Opens P f.type d wf wt) (hf : f.offset = off) : OpensF P [f] off d wf wt :=
  ⟨⟨f, [], rfl, hf⟩, fun {H enc w base spare held fuel cs xs} hc hx h hz => by
    match xs, hx with
    | [x], _ =>
      have h1 := (h 0 f rfl).1
      rw [hf, Nat.sub_self, List.drop_zero, ho.cells, List.take_of_length_le (by omega)] at h1
      obtain ⟨a, k1, k2, k3⟩ := ho.op (x := x) (by simpa using h1) (fun n hn => hz n (by simp [DataW.weightsEach, hn]))
      exact ⟨a, k1, k2, by simpa [Rows.uptoBulkAll] using k3⟩⟩
theorem opensF_cons {α β : Type} {P : Program} {f : Field} {fs : List Field} {off : Nat} {a : Kd α} {b : Kd β} {wfa : α → Prop} {wta : α → Nat} {wfb : β → Prop} {wtb : β → Nat} (ho : Opens P f.type a wfa wta) (hf : f.offset = off)
    (hr : OpensF P fs (off + a.sz) b wfb wtb) (hge : ∀ g ∈ fs, off + a.sz ≤ g.offset) : OpensF P (f :: fs) off (Kd.pair a b) (fun x => wfa x.1 ∧ wfb x.2) (fun x => wta x.1 + wtb x.2) :=
  ⟨⟨f, fs, rfl, hf⟩, fun {H enc w base spare held fuel cs xs} hc hx h hz => by
    match xs, hx with
    | x :: xs, hx =>
      have hc' : cs.length = a.sz + b.sz := hc
      have h1 := (h 0 f rfl).1
      rw [hf, Nat.sub_self, List.drop_zero, ho.cells] at h1
      obtain ⟨u, k1, k2, k3⟩ := ho.op (x := x) (by simpa using h1) (fun n hn => hz n (by simp [DataW.weightsEach, hn]))
      obtain ⟨v, j1, j2, j3⟩ := hr.2 (cs := cs.drop a.sz) (xs := xs) (by simp; omega) (by simpa using hx) (fun i g hg => by
        obtain ⟨h2, h3⟩ := h (i + 1) g (by simpa using hg)
        have h4 := hge g (List.mem_of_getElem? hg)
        refine ⟨?_, h4⟩
        rw [List.drop_drop, show a.sz + (g.offset - (off + a.sz)) = g.offset - off from by omega]
        simpa using h2) (fun n hn => hz n (by simp [DataW.weightsEach, hn]))
      refine ⟨(u, v), ⟨cs.take a.sz, cs.drop a.sz, (List.take_append_drop _ _).symm, k1, j1⟩, ⟨k2, j2⟩, ?_⟩
      simp only [List.map_cons, Rows.uptoBulkAll]
      omega⟩
theorem opens_struct {α β : Type} {P : Program} {t : TypeId} {fs : Array Field} {d : Kd α} {wf : α → Prop} {wt : α → Nat} (f : β → α) (g : α → β) (hfg : ∀ a, f (g a) = a) (ht : P.underlying t = some (.struct fs)) (hc : P.cellsOf t = d.sz)
    (ho : OpensF P fs.toList 0 d wf wt) : Opens P t (Kd.iso d f) (fun x => wf (f x)) (fun x => wt (f x) + 1) :=
  ⟨hc, fun {H enc w base spare held fuel cs x} h hz => by
    obtain ⟨xs, n, _, rfl, hl, hxl, hx⟩ := DataW.trod_struct ht h
    obtain ⟨a, k1, k2, k3⟩ := ho.2 (cs := cs) (xs := xs) (by rw [hl, hc]) (by simpa using hxl) (fun i fd hfd => ⟨by
      have := hx i fd (by simpa using hfd)
      simpa using this, Nat.zero_le _⟩) (fun m hm => hz m (by simpa [DataW.weights, ht] using hm))
    refine ⟨g a, ?_, ?_, ?_⟩
    · show d.K w (f (g a)) cs
      rw [hfg]
      exact k1
    · rw [hfg]
      exact k2
    · rw [hfg]
      simp only [Rows.uptoBulk]
      omega⟩
/-- The size of each part, out of the row's own reach. -/
theorem weights_of {H : Type} {P : Program} {ts : List TypeId} {ds : List (DataW H)} (h : (DataW.weightsEach P ts ds).all (· ≤ reachBytes) = true) {j : Nat} {t : TypeId} {d : DataW H} (ht : ts[j]? = some t) (hd : ds[j]? = some d) : ∀ n ∈ d.weights P t, n ≤ 140737488351232 := fun n hn => by
  have := List.all_eq_true.1 h _ (DataW.weights_mem_each ht hd n hn)
  exact of_decide_eq_true this
end Go.Proofs.Ytibkcnlcmempgaa.Opening
end
