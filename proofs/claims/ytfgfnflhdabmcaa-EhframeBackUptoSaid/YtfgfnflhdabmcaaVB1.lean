/- Lemmas and contracts, one text behind the other: what the row of this claim needs; no conditions beyond those that each theorem names. -/
import Derived.Maps.Own
import Derived.WideMake
import Derived.WideShapes
import Derived.RangeFuncKeeps
import Derived.Outline
import Derived.BigQuiet
import Derived.Deep.MidRow
import Derived.StillTailTactics
import Derived.Great.BuildSlice
import Derived.Test.YtfgfnflhdabmcaaVB0
set_option linter.unusedVariables false
set_option linter.unusedSimpArgs false
set_option maxRecDepth 100000
section
namespace Go.Proofs.Ytfgfnflhdabmcaa.G
open Go.RowKit Go.Proofs.YtfgfnflhdabmcaaW.PrintWords Go.Proofs.YtfgfnflhdabmcaaW.PrintLast Go.Proofs.YtfgfnflhdabmcaaW.PrintMore
attribute [local go_sem] max2_int min2_int max_two min_two max_three min_three max_four min_four
mutual
def gangwaylaw14_tables.l0 : Nat → List (S43) → List (S61) → List (S69) → Int → Option ((List (S69)) × (List (S46)))
  | 0, _, _, _, _ => none
  | k + 1, x0, x1, x6, x8 => if x8 < (x0.length : Int) then (if 0 ≤ x8 then ((gangwaylaw14_ops.f k ((rd_T43 x0 x8).f1)).bind fun t103 => (if x6.length < 4398046511104 then (gangwaylaw14_tables.l0 k x0 x1 (x6 ++ [(⟨(rd_T43 x0 x8).f0, t103⟩ : S69)]) (wrap64 (x8 + 1))) else (none))) else (none)) else (gangwaylaw14_tables.l1 k x1 x6 ([] : List (S46)) 0)
def gangwaylaw14_tables.l1 : Nat → List (S61) → List (S69) → List (S46) → Int → Option ((List (S69)) × (List (S46)))
  | 0, _, _, _, _ => none
  | k + 1, x1, x6, x7, x9 => if x9 < (x1.length : Int) then (if 0 ≤ x9 then ((gangwaylaw14_ops.f k ((rd_T61 x1 x9).f3)).bind fun t113 => (if x7.length < 2932031007402 then (gangwaylaw14_tables.l1 k x1 x6 (x7 ++ [(⟨(rd_T61 x1 x9).f0, (rd_T61 x1 x9).f1, (rd_T61 x1 x9).f2, t113⟩ : S46)]) (wrap64 (x9 + 1))) else (none))) else (none)) else (some (x6, x7))
end
def gangwaylaw14_tables.f (k : Nat) (l0 : List (S43)) (l1 : List (S61)) : Option ((List (S69)) × (List (S46))) := gangwaylaw14_tables.l0 k l0 l1 ([] : List (S69)) 0
def gangwaylaw14_tables.T6 : Bool × List (List Nat × List Nat) := (true, [([], []), ([], []), ([], []), ([1, 2], [1, 2]), ([3], [3]), ([4], [4]), ([], []), ([], []), ([6, 7], [6, 7]), ([8], [8]), ([9], [9]), ([10], [10]), ([5, 11], [5, 11]), ([12], [12]), ([0, 13, 11], [0, 13]), ([14, 14, 0, 1, 2, 3, 4, 5, 6, 7, 8, 9, 10, 11, 12, 13, 14], [0, 14])])
def gangwaylaw14_tables.B6 : List Nat := [0, 0, 0, 6, 14, 30, 0, 0, 192, 448, 960, 1984, 4094, 8190, 16383, 32767]
theorem gangwaylaw14_tables.tab6 : rtab .any (opsOf Try.f8 6) = gangwaylaw14_tables.T6 := by kernel_rfl
theorem gangwaylaw14_tables.bits6 : waitsOk gangwaylaw14_tables.T6.2 gangwaylaw14_tables.B6 = true := by kernel_rfl
def gangwaylaw14_tables.T10 : Bool × List (List Nat × List Nat) := (true, [([], []), ([], []), ([], []), ([1, 2], [1, 2]), ([3], [3]), ([4], [4]), ([], []), ([], []), ([6, 7], [6, 7]), ([8], [8]), ([9], [9]), ([], []), ([], []), ([11, 12], [11, 12]), ([13], [13]), ([14], [14]), ([], []), ([], []), ([16, 17], [16, 17]), ([18], [18]), ([19], [19]), ([20], [20]), ([5, 10, 15, 21], [5, 10, 15, 21]), ([22], [22]), ([0, 23, 21], [0, 23]), ([24, 24, 0, 1, 2, 3, 4, 5, 6, 7, 8, 9, 10, 11, 12, 13, 14, 15, 16, 17, 18, 19, 20, 21, 22, 23, 24], [0, 24])])
def gangwaylaw14_tables.B10 : List Nat := [0, 0, 0, 6, 14, 30, 0, 0, 192, 448, 960, 0, 0, 6144, 14336, 30720, 0, 0, 196608, 458752, 983040, 2031616, 4194302, 8388606, 16777215, 33554431]
theorem gangwaylaw14_tables.tab10 : rtab .any (opsOf Try.f8 10) = gangwaylaw14_tables.T10 := by kernel_rfl
theorem gangwaylaw14_tables.bits10 : waitsOk gangwaylaw14_tables.T10.2 gangwaylaw14_tables.B10 = true := by kernel_rfl
set_option maxHeartbeats 8000000 in
theorem gangwaylaw14_tables.calls (k : Nat) (A0 : Option Addr) (c0 : Nat) (l0 : List (S43)) (A1 : Option Addr) (c1 : Nat) (l1 : List (S61)) (r1 : List (S69)) (r2 : List (S46)) (w : World) (hr0 : Kd.C k43 w A0 l0.length l0) (hc0 : l0.length ≤ c0) (hr1 : Kd.C k61 w A1 l1.length l1) (hc1 : l1.length ≤ c1) (h : gangwaylaw14_tables.f k l0 l1 = some (r1, r2)) :
    Calls Try.prog 8 #[.slice A0 l0.length c0, .slice A1 l1.length c1] w fun e w' => ∃ v0_ v1_ : Value, e = .returned (.tuple #[v0_, v1_]) ∧ Kd.S k69 69 w' w.heap.size (fun _ => True) v0_ r1 ∧ Kd.S k46 46 w' w.heap.size (fun _ => True) v1_ r2 ∧ Below w.heap.size w w' := by
 have hu69 := Try.underlying69
 have hu46 := Try.underlying46
 have HR0 := am hr0
 have HC0 := am hc0
 clear hr0 hc0
 have HR1 := am hr1
 have HC1 := am hc1
 clear hr1 hc1
 have HB := am (Below.refl w.heap.size w)
 have H : (gangwaylaw14_tables.l0 k l0 l1 ([] : List (S69)) 0) = some (r1, r2) := h
 clear h
 have H' := am H
 clear H
 go_enter Try.func8, Try.ntmps8
 go_wp2
 go_loopg [6, 8] k (fun kq v6 v8 w' => ∃ (x6_1 : List (S69)) (x8_1 : Int), v8 = .int .i64 x8_1 ∧ Aside0 (gangwaylaw14_tables.l0 kq l0 l1 x6_1 x8_1 = some (r1, r2)) ∧ Aside0 (kq ≤ k) ∧ Aside0 (Kd.S k69 69 w' w.heap.size (fun _ => True) v6 x6_1) ∧ Aside0 (Below w.heap.size w w'))
 case atStart => exact ⟨(([] : List (S69))), (0), (by first | rfl | (simp; done) | (simp [*]; done)), H', ⟨Nat.le_refl _⟩, ⟨by first | exact Kd.S_nil _ _ _ _ _ | exact Kd.N_nil _ _ _ _ _ | exact Kd.V_nil _ _ _ _ _ | exact Kd.Q_nil _ _ _ _ _ | exact Kd.R_nil _ _ _ _ _⟩, ⟨by exact bl_g HB.out⟩⟩
 case round =>
  clear H'
  try clear c1
  try clear p2
  obtain ⟨x6_1, x8_1, rfl, HA, HK1, HO_6, HB⟩ := hrel
  cases gk with
  | zero => exact absurd HA.out (by simp [gangwaylaw14_tables.l0])
  | succ k1 =>
   have H := HA.out
   clear HA
   simp only [gangwaylaw14_tables.l0] at H
   by_cases c3 : x8_1 < (l0.length : Int)
   ·
    rw [if_pos c3] at H
    have c3b0 : decide (x8_1 < (l0.length : Int)) = true := decide_eq_true c3
    clear c3
    by_cases c4 : 0 ≤ x8_1
    rotate_left
    ·
     rw [if_neg c4] at H
     exact absurd H (by simp)
    rw [if_pos c4] at H
    have c4b0 : decide (0 ≤ x8_1) = true := decide_eq_true c4
    clear c4
    replace H := Option.bind_eq_some_iff.mp H
    obtain ⟨t103, A50, H⟩ := H
    replace H : (if x6_1.length < 4398046511104 then (gangwaylaw14_tables.l0 k1 l0 l1 (x6_1 ++ [(⟨(rd_T43 l0 x8_1).f0, t103⟩ : S69)]) (wrap64 (x8_1 + 1))) else (none)) = some (r1, r2) := H
    have A5 := am A50
    clear A50
    by_cases c6 : x6_1.length < 4398046511104
    rotate_left
    ·
     rw [if_neg c6] at H
     exact absurd H (by simp)
    rw [if_pos c6] at H
    have LMc6 := am c6
    clear c6
    obtain ⟨y106, hy106⟩ : ∃ y_ : List (S69), y_ = (x6_1 ++ [(⟨(rd_T43 l0 x8_1).f0, t103⟩ : S69)]) := ⟨_, rfl⟩
    replace H : (gangwaylaw14_tables.l0 k1 l0 l1 y106 (wrap64 (x8_1 + 1))) = some (r1, r2) := by first | (rw [hy106]; with_reducible exact H) | (have H2_ := (Option.bind_some _ _).symm.trans H; rw [hy106]; with_reducible exact H2_)
    have Ny106 := am hy106
    clear hy106
    have H' := am H
    clear H
    try go_wp2
    have n0_ := am (Kd.S_drew HO_6.out)
    have n1_ := am (below_drew1 HB.out)
    clear HO_6
    clear HB
    have HO_6 := n0_
    have HB := n1_
    clear n0_ n1_
    have p101 : 0 ≤ (x8_1 : Int) := od
    have q101 : x8_1 < (l0.length : Int) := od
    obtain ⟨ad101, A101_1, c101_1, e101, hx101_0, hx101_1, hl101_1, hi101_1⟩ := at_T43 HR0.out x8_1 p101 q101
    have hw101_1 := hx101_1
    have hw101_0 := hx101_0
    cases e101
    replace hx101_0 := oc HB.out hx101_0
    replace hx101_1 := oc HB.out hx101_1
    have HR101_1 := am hi101_1
    have HC101_1 := am hl101_1
    clear hi101_1 hl101_1
    replace p101 := eq_true p101
    replace q101 := eq_true q101
    have p102 : 0 ≤ (x8_1 : Int) := od
    have q102 : x8_1 < (l0.length : Int) := od
    obtain ⟨ad102, A102_1, c102_1, e102, hx102_0, hx102_1, hl102_1, hi102_1⟩ := at_T43 HR0.out x8_1 p102 q102
    have hw102_1 := hx102_1
    have hw102_0 := hx102_0
    obtain rfl : ad101 = ad102 := (by injection e102)
    replace hx102_0 := oc HB.out hx102_0
    replace hx102_1 := oc HB.out hx102_1
    have HR102_1 := am hi102_1
    have HC102_1 := am hl102_1
    clear hi102_1 hl102_1
    replace p102 := eq_true p102
    replace q102 := eq_true q102
    have ea_ := Option.some.inj (hx101_1.symm.trans hx102_1)
    injection ea_ with ea_ en_ ec_
    subst ea_
    subst ec_
    clear en_
    refine start_ (n := 16) (S := fun w' => w'.cell? (ad101.add ((x8_1).toNat * 2)) = some (.int .i64 ((rd_T43 l0 x8_1).f0)) ∧ w'.cell? ⟨(ad101.add ((x8_1).toNat * 2)).block, (ad101.add ((x8_1).toNat * 2)).off + 1, none⟩ = some (.slice A101_1 ((rd_T43 l0 x8_1).f1).length c101_1) ∧ w'.cell? (ad101.add ((x8_1).toNat * 2)) = some (.int .i64 ((rd_T43 l0 x8_1).f0)) ∧ w'.cell? ⟨(ad101.add ((x8_1).toNat * 2)).block, (ad101.add ((x8_1).toNat * 2)).off + 1, none⟩ = some (.slice A101_1 ((rd_T43 l0 x8_1).f1).length c101_1)) (ds := []) (bm 16 0) (by kernel_rfl) rfl rfl ⟨(oc HB.out hw101_0 :), (oc HB.out hw101_1 :), (oc HB.out hw102_0 :), (oc HB.out hw102_1 :)⟩ (fun hHeld => ?_); refine with_tabW gangwaylaw14_tables.tab6 gangwaylaw14_tables.bits6 (fun HT_ HW_ => ?_)
    generalize wr.drew = w7 at HO_6 HB HR101_1 HR102_1 hx101_0 hx101_1 hx102_0 hx102_1 hHeld ⊢
    refine pure_ (i := 0) (N := some 16) (v := ?_) (a' := ?_) (bm 16 1) rfl rfl (any_of HT_.out (by kernel_rfl)) (fun _ _ _ h => h) (Or.inl ⟨by rfl, ?_⟩) ?_ ?_
    rotate_left
    ·
     intro w'
     go_simp
     with_reducible rfl
    rotate_left
    ·
     simp only [pz]
     rfl
    refine pure_ (i := 1) (N := some 17) (v := ?_) (a' := ?_) (bm 16 3) rfl rfl (any_of HT_.out (by kernel_rfl)) (fun _ _ _ h => h) (Or.inl ⟨by rfl, ?_⟩) ?_ ?_
    rotate_left
    ·
     intro w'
     go_simp
     with_reducible rfl
    rotate_left
    ·
     simp only [pz]
     rfl
    refine pure_ (i := 2) (N := some 18) (v := ?_) (a' := ?_) (bm 16 7) rfl rfl (any_of HT_.out (by kernel_rfl)) (fun _ _ _ h => h) (Or.inl ⟨by rfl, ?_⟩) ?_ ?_
    rotate_left
    ·
     intro w'
     go_simp
     with_reducible rfl
    rotate_left
    ·
     simp only [pz]
     rfl
    refine pure_ (i := 3) (N := some 19) (v := ?_) (a' := ?_) (bm 16 15) rfl rfl (any_of HT_.out (by kernel_rfl)) (fun _ _ _ h => h) (Or.inl ⟨by rfl, ?_⟩) ?_ ?_
    rotate_left
    ·
     intro w'
     go_simp
     with_reducible rfl
    rotate_left
    ·
     simp only [pz]
     rfl
    refine pure_ (i := 4) (N := some 20) (v := ?_) (a' := ?_) (bm 16 31) rfl rfl (any_of HT_.out (by kernel_rfl)) (fun _ _ _ h => h) (Or.inl ⟨by rfl, ?_⟩) ?_ ?_
    rotate_left
    ·
     intro w'
     go_simp
     with_reducible rfl
    rotate_left
    ·
     simp only [pz]
     rfl
    refine pure_ (i := 6) (N := some 22) (v := ?_) (a' := ?_) (bm 16 95) rfl rfl (any_of HT_.out (by kernel_rfl)) (fun _ _ _ h => h) (Or.inl ⟨by rfl, ?_⟩) ?_ ?_
    rotate_left
    ·
     intro w'
     go_simp
     with_reducible rfl
    rotate_left
    ·
     simp only [pz]
     rfl
    refine pure_ (i := 7) (N := some 23) (v := ?_) (a' := ?_) (bm 16 223) rfl rfl (any_of HT_.out (by kernel_rfl)) (fun _ _ _ h => h) (Or.inl ⟨by rfl, ?_⟩) ?_ ?_
    rotate_left
    ·
     intro w'
     go_simp
     with_reducible rfl
    rotate_left
    ·
     simp only [pz]
     rfl
    refine pure_ (i := 8) (N := some 24) (v := ?_) (a' := ?_) (bm 16 479) rfl rfl (any_of HT_.out (by kernel_rfl)) (fun _ _ _ h => h) (Or.inl ⟨by rfl, ?_⟩) ?_ ?_
    rotate_left
    ·
     intro w'
     go_simp
     with_reducible rfl
    rotate_left
    ·
     simp only [pz]
     rfl
    refine pure_ (i := 9) (N := some 25) (v := ?_) (a' := ?_) (bm 16 991) rfl rfl (any_of HT_.out (by kernel_rfl)) (fun _ _ _ h => h) (Or.inl ⟨by rfl, ?_⟩) ?_ ?_
    rotate_left
    ·
     intro w'
     go_simp
     with_reducible rfl
    rotate_left
    ·
     simp only [pz]
     rfl
    refine take_ (i := 5) (N := some 21) (v := ?_) (a' := ?_) (bm 16 1023) rfl rfl (take_ofW HT_.out HW_.out (by kernel_rfl)) (fun _ _ _ h => h) (Or.inl ⟨by rfl, ?_⟩) hHeld ?_ ?_
    rotate_left
    ·
     rintro w' ⟨s0, s1, s2, s3⟩
     go_simp
     with_reducible rfl
    rotate_left
    ·
     simp only [pz]
     rfl
    refine take_ (i := 10) (N := some 26) (v := ?_) (a' := ?_) (bm 16 2047) rfl rfl (take_ofW HT_.out HW_.out (by kernel_rfl)) (fun _ _ _ h => h) (Or.inl ⟨by rfl, ?_⟩) hHeld ?_ ?_
    rotate_left
    ·
     rintro w' ⟨s0, s1, s2, s3⟩
     go_simp
     with_reducible rfl
    rotate_left
    ·
     simp only [pz]
     rfl
    refine one_ (i := 11) (N := some 27) (bm 16 4095) rfl rfl (one_of HT_.out (by kernel_rfl)) (by decide) (fun K hK => ?_)
    refine goes_ Try.func22 (by kernel_rfl) rfl #[.slice A101_1 ((rd_T43 l0 x8_1).f1).length c101_1] (by rfl) rfl rfl (by simp only [ml]; try rfl) ?_
    with_reducible refine (gangwaylaw14_ops.calls k1 _ _ ((rd_T43 l0 x8_1).f1) t103 _ ?side1 ?side2 A5.out).mono ?_
    (case side1 => exact Kd.C_o (Kd.C_below HR102_1.out HB.out))
    (case side2 => exact HC102_1.out)
    rintro e w8 ⟨v104, rfl, ho0, hb⟩
    refine ⟨_, rfl, ?_⟩
    have n0_ := am (Kd.S_elder' (by (with_reducible repeat (first | apply Kd.S_alloc | apply Kd.S_drewN | apply Kd.S_drew)); exact HO_6.out) (Kd.R_base ho0) hb)
    have n1_ := am (Kd.R_lower ho0 (below_size (by exact bl_o HB.out)))
    have n2_ := am (below_step (by exact bl_o HB.out) hb)
    clear HO_6
    clear HB
    have HO_6 := n0_
    have HO105 := n1_
    have HB := n2_
    clear n0_ n1_ n2_
    (try clear hb)
    (try clear hb2)
    (try clear hk)
    (try clear hi)
    (try clear ho0)
    obtain ⟨Ao9, co9, eo9⟩ := Kd.R_slice HO105.out
    (first | subst eo9 | (injection eo9 with f1_ f2_ f3_; have f4_ := f1_.symm; have f5_ := f3_.symm; clear f1_ f2_ f3_; subst f4_; subst f5_))
    refine hK.out _ _ ⟨(oc HB.out hw101_0 :), (oc HB.out hw101_1 :), (oc HB.out hw102_0 :), (oc HB.out hw102_1 :)⟩ (fun hHeld => ?_)
    clear hK K
    refine norm_ (a' := ?_) ?_ ?_
    rotate_left
    ·
     show Act.put _ (some 27) _ = _
     simp only [pz]
     rfl
    refine pure_ (i := 12) (N := some 28) (v := ?_) (a' := ?_) (bm 16 8191) rfl rfl (any_of HT_.out (by kernel_rfl)) (fun _ _ _ h => h) (Or.inl ⟨by rfl, ?_⟩) ?_ ?_
    rotate_left
    ·
     intro w'
     go_simp
     with_reducible rfl
    rotate_left
    ·
     simp only [pz]
     rfl
    refine one_ (i := 13) (N := some 29) (bm 16 16383) rfl rfl (one_of HT_.out (by kernel_rfl)) (by decide) (fun K hK => ?_)
    refine value_ (w1 := ?_) (v := ?_) (by rfl) rfl ?_ ?_
    rotate_left 2
    ·
     go_simp
     constructor
     ·
      rfl
     rfl
    refine hK.out _ _ ⟨(World.cell?_alloc_lt _ _ _ (World.block_lt_of_cell? _ _ ((oc HB.out hw101_0 :)))).trans ((oc HB.out hw101_0 :)), (World.cell?_alloc_lt _ _ _ (World.block_lt_of_cell? _ _ ((oc HB.out hw101_1 :)))).trans ((oc HB.out hw101_1 :)), (World.cell?_alloc_lt _ _ _ (World.block_lt_of_cell? _ _ ((oc HB.out hw102_0 :)))).trans ((oc HB.out hw102_0 :)), (World.cell?_alloc_lt _ _ _ (World.block_lt_of_cell? _ _ ((oc HB.out hw102_1 :)))).trans ((oc HB.out hw102_1 :))⟩ (fun hHeld => ?_)
    clear hK K
    refine norm_ (a' := ?_) ?_ ?_
    rotate_left
    ·
     show Act.put _ (some 29) _ = _
     simp only [pz]
     rfl
    refine one_ (i := 14) (N := some 30) (bm 16 32767) rfl rfl (one_of HT_.out (by kernel_rfl)) (by decide) (fun K hK => ?_)
    refine Kd.S_append_step k69 (w0 := w) w.heap.size (by rfl) (.tmp 16) (.tmp 29) 24 69 (.agg #[(.int .i64 0), (.slice none 0 0)]) 32 rfl Try.underlying24 info69 rfl (by decide) (by omega) u6 x6_1 (⟨(rd_T43 l0 x8_1).f0, t103⟩ : S69) [.int .i64 ((rd_T43 l0 x8_1).f0), .slice Ao9 t103.length co9] (fun _ => True) (fun k_ => some k_ = (.slice Ao9 t103.length co9 : Value).ownBlock) rfl rfl ?aP (fun k_ hk_ => ((Kd.R_mono (ok' := fun k_ => ((fun _ => True)) k_ ∧ some k_ ≠ (u6 : Value).ownBlock) (Kd.R_apart' (HO105.out) (Kd.S_typed HO_6.out) (by decide)) (fun k_ hk => ⟨trivial, hk.2⟩))).1 k_ hk_.symm) ?aF ?aO ?aB ?aS ?aL ?_
    (case aP => exact k69_mkM _ _ _ (⟨(rd_T43 l0 x8_1).f0, t103⟩ : S69) (Kd.R_mono (Kd.R_tight rfl (Kd.R_mono (ok' := fun k_ => ((fun _ => True)) k_ ∧ some k_ ≠ (u6 : Value).ownBlock) (Kd.R_apart' (HO105.out) (Kd.S_typed HO_6.out) (by decide)) (fun k_ hk => ⟨trivial, hk.2⟩))) (fun _ h_ => h_)))
    (case aB => exact (by exact bl_o HB.out))
    (case aF => exact (fun _ _ => trivial))
    (case aO => exact (by (with_reducible repeat (first | apply Kd.S_alloc | apply Kd.S_drewN | apply Kd.S_drew)); exact Kd.S_mono HO_6.out (fun k_ hk => ⟨trivial, fun e_ => hk.2 e_⟩)))
    (case aS => exact (below_size (by exact bl_o HB.out)))
    (case aL => have := LMc6.out; omega)
    intro v107 w10 ho hb hg hat
    rw [← Ny106.out] at ho
    have n0_ := am (hb)
    have n1_ := am (ho)
    clear HB
    clear HO_6
    clear HO105
    have HB := n0_
    have HO108 := n1_
    clear n0_ n1_
    clear ho hb hg hat
    refine hK.out _ _ ⟨(oc HB.out hw101_0 :), (oc HB.out hw101_1 :), (oc HB.out hw102_0 :), (oc HB.out hw102_1 :)⟩ (fun hHeld => ?_)
    clear hK K
    refine norm_ (a' := ?_) ?_ ?_
    rotate_left
    ·
     show Act.put _ (some 30) _ = _
     simp only [pz]
     rfl
    refine pure_ (i := 15) (N := some 6) (v := ?_) (a' := ?_) (bm 16 65535) rfl rfl (any_of HT_.out (by kernel_rfl)) (fun _ _ _ h => h) (Or.inl ⟨by rfl, ?_⟩) ?_ ?_
    rotate_left
    ·
     intro w'
     go_simp
     with_reducible rfl
    rotate_left
    ·
     simp only [pz]
     rfl
    refine done_ (done_of HT_.out (by kernel_rfl)) ?_
    try go_wp2
    go_roundg k1
    case measure => have := HK1.out; omega
    case rel => exact ⟨(y106), (wrap64 (x8_1 + 1)), (by first | rfl | (simp; done) | (simp [*]; done)), H', ⟨by have := HK1.out; omega⟩, ⟨by (with_reducible repeat (first | apply Kd.S_alloc | apply Kd.S_drewN | apply Kd.S_drew)); exact HO108.out⟩, ⟨by exact bl_g HB.out⟩⟩
   rw [if_neg c3] at H
   have c3b0 : decide (x8_1 < (l0.length : Int)) = false := decide_eq_false c3
   clear c3
   have H' := am H
   clear H
   go_wp2
   go_loopg [7, 9] k1 (fun kq v7 v9 w' => ∃ (x7_2 : List (S46)) (x9_2 : Int), v9 = .int .i64 x9_2 ∧ Aside0 (gangwaylaw14_tables.l1 kq l1 x6_1 x7_2 x9_2 = some (r1, r2)) ∧ Aside0 (kq ≤ k1) ∧ Aside0 (Kd.S k69 69 w' w.heap.size (fun _ => True) u6 x6_1) ∧ Aside0 (Kd.S k46 46 w' w.heap.size (fun _ => True) v7 x7_2) ∧ Aside0 (Below w.heap.size w w'))
   case atStart => exact ⟨(([] : List (S46))), (0), (by first | rfl | (simp; done) | (simp [*]; done)), H', ⟨Nat.le_refl _⟩, ⟨by (with_reducible repeat (first | apply Kd.S_alloc | apply Kd.S_drewN | apply Kd.S_drew)); exact HO_6.out⟩, ⟨by first | exact Kd.S_nil _ _ _ _ _ | exact Kd.N_nil _ _ _ _ _ | exact Kd.V_nil _ _ _ _ _ | exact Kd.Q_nil _ _ _ _ _ | exact Kd.R_nil _ _ _ _ _⟩, ⟨by exact bl_g HB.out⟩⟩
   case round =>
    clear H'
    try clear c1
    try clear p1
    try clear q1
    try clear hx1
    try clear c2
    try clear p2
    try clear c3
    try clear c3b0
    try clear c4
    try clear c4b0
    try clear c6
    try clear p6
    try clear c8
    try clear c10
    try clear p10
    try clear q10
    try clear hx10
    try clear hx101_0
    try clear hx101_1
    try clear hx102_0
    try clear hx102_1
    try clear p101
    try clear p102
    try clear p2
    try clear q101
    try clear q102
    obtain ⟨x7_2, x9_2, rfl, HA, HK2, HO_6, HO_7, HB⟩ := hrel
    cases gk with
    | zero => exact absurd HA.out (by simp [gangwaylaw14_tables.l1])
    | succ k2 =>
     have H := HA.out
     clear HA
     simp only [gangwaylaw14_tables.l1] at H
     by_cases c11 : x9_2 < (l1.length : Int)
     rotate_left
     ·
      rw [if_neg c11] at H
      have c11b0 : decide (x9_2 < (l1.length : Int)) = false := decide_eq_false c11
      clear c11
      simp only [Option.some.injEq, Prod.mk.injEq] at H
      obtain ⟨rfl, rfl⟩ := H
      go_wp2
      go_ret2
      exact ⟨_, _, rfl, by (with_reducible repeat (first | apply Kd.S_alloc | apply Kd.S_drewN | apply Kd.S_drew)); exact HO_6.out, by (with_reducible repeat (first | apply Kd.S_alloc | apply Kd.S_drewN | apply Kd.S_drew)); exact HO_7.out, by exact bl_g HB.out⟩
     rw [if_pos c11] at H
     have c11b0 : decide (x9_2 < (l1.length : Int)) = true := decide_eq_true c11
     clear c11
     by_cases c12 : 0 ≤ x9_2
     rotate_left
     ·
      rw [if_neg c12] at H
      exact absurd H (by simp)
     rw [if_pos c12] at H
     have c12b0 : decide (0 ≤ x9_2) = true := decide_eq_true c12
     clear c12
     replace H := Option.bind_eq_some_iff.mp H
     obtain ⟨t113, A130, H⟩ := H
     replace H : (if x7_2.length < 2932031007402 then (gangwaylaw14_tables.l1 k2 l1 x6_1 (x7_2 ++ [(⟨(rd_T61 l1 x9_2).f0, (rd_T61 l1 x9_2).f1, (rd_T61 l1 x9_2).f2, t113⟩ : S46)]) (wrap64 (x9_2 + 1))) else (none)) = some (r1, r2) := H
     have A13 := am A130
     clear A130
     by_cases c14 : x7_2.length < 2932031007402
     rotate_left
     ·
      rw [if_neg c14] at H
      exact absurd H (by simp)
     rw [if_pos c14] at H
     have LMc14 := am c14
     clear c14
     obtain ⟨y116, hy116⟩ : ∃ y_ : List (S46), y_ = (x7_2 ++ [(⟨(rd_T61 l1 x9_2).f0, (rd_T61 l1 x9_2).f1, (rd_T61 l1 x9_2).f2, t113⟩ : S46)]) := ⟨_, rfl⟩
     replace H : (gangwaylaw14_tables.l1 k2 l1 x6_1 y116 (wrap64 (x9_2 + 1))) = some (r1, r2) := by first | (rw [hy116]; with_reducible exact H) | (have H2_ := (Option.bind_some _ _).symm.trans H; rw [hy116]; with_reducible exact H2_)
     have Ny116 := am hy116
     clear hy116
     have H' := am H
     clear H
     try go_wp2
     have n0_ := am (Kd.S_drew HO_6.out)
     have n1_ := am (Kd.S_drew HO_7.out)
     have n2_ := am (below_drew1 HB.out)
     clear HO_6
     clear HO_7
     clear HB
     have HO_6 := n0_
     have HO_7 := n1_
     have HB := n2_
     clear n0_ n1_ n2_
     have p109 : 0 ≤ (x9_2 : Int) := od
     have q109 : x9_2 < (l1.length : Int) := od
     obtain ⟨ad109, A109_3, c109_3, e109, hx109_0, hx109_1, hx109_2, hx109_3, hl109_3, hi109_3⟩ := at_T61 HR1.out x9_2 p109 q109
     have hw109_3 := hx109_3
     have hw109_2 := hx109_2
     have hw109_1 := hx109_1
     have hw109_0 := hx109_0
     cases e109
     replace hx109_0 := oc HB.out hx109_0
     replace hx109_1 := oc HB.out hx109_1
     replace hx109_2 := oc HB.out hx109_2
     replace hx109_3 := oc HB.out hx109_3
     have HR109_3 := am hi109_3
     have HC109_3 := am hl109_3
     clear hi109_3 hl109_3
     replace p109 := eq_true p109
     replace q109 := eq_true q109
     have p110 : 0 ≤ (x9_2 : Int) := od
     have q110 : x9_2 < (l1.length : Int) := od
     obtain ⟨ad110, A110_3, c110_3, e110, hx110_0, hx110_1, hx110_2, hx110_3, hl110_3, hi110_3⟩ := at_T61 HR1.out x9_2 p110 q110
     have hw110_3 := hx110_3
     have hw110_2 := hx110_2
     have hw110_1 := hx110_1
     have hw110_0 := hx110_0
     obtain rfl : ad109 = ad110 := (by injection e110)
     replace hx110_0 := oc HB.out hx110_0
     replace hx110_1 := oc HB.out hx110_1
     replace hx110_2 := oc HB.out hx110_2
     replace hx110_3 := oc HB.out hx110_3
     have HR110_3 := am hi110_3
     have HC110_3 := am hl110_3
     clear hi110_3 hl110_3
     replace p110 := eq_true p110
     replace q110 := eq_true q110
     have ea_ := Option.some.inj (hx109_3.symm.trans hx110_3)
     injection ea_ with ea_ en_ ec_
     subst ea_
     subst ec_
     clear en_
     have p111 : 0 ≤ (x9_2 : Int) := od
     have q111 : x9_2 < (l1.length : Int) := od
     obtain ⟨ad111, A111_3, c111_3, e111, hx111_0, hx111_1, hx111_2, hx111_3, hl111_3, hi111_3⟩ := at_T61 HR1.out x9_2 p111 q111
     have hw111_3 := hx111_3
     have hw111_2 := hx111_2
     have hw111_1 := hx111_1
     have hw111_0 := hx111_0
     obtain rfl : ad109 = ad111 := (by injection e111)
     replace hx111_0 := oc HB.out hx111_0
     replace hx111_1 := oc HB.out hx111_1
     replace hx111_2 := oc HB.out hx111_2
     replace hx111_3 := oc HB.out hx111_3
     have HR111_3 := am hi111_3
     have HC111_3 := am hl111_3
     clear hi111_3 hl111_3
     replace p111 := eq_true p111
     replace q111 := eq_true q111
     have ea_ := Option.some.inj (hx109_3.symm.trans hx111_3)
     injection ea_ with ea_ en_ ec_
     subst ea_
     subst ec_
     clear en_
     have p112 : 0 ≤ (x9_2 : Int) := od
     have q112 : x9_2 < (l1.length : Int) := od
     obtain ⟨ad112, A112_3, c112_3, e112, hx112_0, hx112_1, hx112_2, hx112_3, hl112_3, hi112_3⟩ := at_T61 HR1.out x9_2 p112 q112
     have hw112_3 := hx112_3
     have hw112_2 := hx112_2
     have hw112_1 := hx112_1
     have hw112_0 := hx112_0
     obtain rfl : ad109 = ad112 := (by injection e112)
     replace hx112_0 := oc HB.out hx112_0
     replace hx112_1 := oc HB.out hx112_1
     replace hx112_2 := oc HB.out hx112_2
     replace hx112_3 := oc HB.out hx112_3
     have HR112_3 := am hi112_3
     have HC112_3 := am hl112_3
     clear hi112_3 hl112_3
     replace p112 := eq_true p112
     replace q112 := eq_true q112
     have ea_ := Option.some.inj (hx109_3.symm.trans hx112_3)
     injection ea_ with ea_ en_ ec_
     subst ea_
     subst ec_
     clear en_
     refine start_ (n := 26) (S := fun w' => w'.cell? (ad109.add ((x9_2).toNat * 4)) = some (.int .i64 ((rd_T61 l1 x9_2).f0)) ∧ w'.cell? ⟨(ad109.add ((x9_2).toNat * 4)).block, (ad109.add ((x9_2).toNat * 4)).off + 1, none⟩ = some (.int .i64 ((rd_T61 l1 x9_2).f1)) ∧ w'.cell? ⟨(ad109.add ((x9_2).toNat * 4)).block, (ad109.add ((x9_2).toNat * 4)).off + 2, none⟩ = some (.int .i64 ((rd_T61 l1 x9_2).f2)) ∧ w'.cell? ⟨(ad109.add ((x9_2).toNat * 4)).block, (ad109.add ((x9_2).toNat * 4)).off + 3, none⟩ = some (.slice A109_3 ((rd_T61 l1 x9_2).f3).length c109_3) ∧ w'.cell? (ad109.add ((x9_2).toNat * 4)) = some (.int .i64 ((rd_T61 l1 x9_2).f0)) ∧ w'.cell? ⟨(ad109.add ((x9_2).toNat * 4)).block, (ad109.add ((x9_2).toNat * 4)).off + 1, none⟩ = some (.int .i64 ((rd_T61 l1 x9_2).f1)) ∧ w'.cell? ⟨(ad109.add ((x9_2).toNat * 4)).block, (ad109.add ((x9_2).toNat * 4)).off + 2, none⟩ = some (.int .i64 ((rd_T61 l1 x9_2).f2)) ∧ w'.cell? ⟨(ad109.add ((x9_2).toNat * 4)).block, (ad109.add ((x9_2).toNat * 4)).off + 3, none⟩ = some (.slice A109_3 ((rd_T61 l1 x9_2).f3).length c109_3) ∧ w'.cell? (ad109.add ((x9_2).toNat * 4)) = some (.int .i64 ((rd_T61 l1 x9_2).f0)) ∧ w'.cell? ⟨(ad109.add ((x9_2).toNat * 4)).block, (ad109.add ((x9_2).toNat * 4)).off + 1, none⟩ = some (.int .i64 ((rd_T61 l1 x9_2).f1)) ∧ w'.cell? ⟨(ad109.add ((x9_2).toNat * 4)).block, (ad109.add ((x9_2).toNat * 4)).off + 2, none⟩ = some (.int .i64 ((rd_T61 l1 x9_2).f2)) ∧ w'.cell? ⟨(ad109.add ((x9_2).toNat * 4)).block, (ad109.add ((x9_2).toNat * 4)).off + 3, none⟩ = some (.slice A109_3 ((rd_T61 l1 x9_2).f3).length c109_3) ∧ w'.cell? (ad109.add ((x9_2).toNat * 4)) = some (.int .i64 ((rd_T61 l1 x9_2).f0)) ∧ w'.cell? ⟨(ad109.add ((x9_2).toNat * 4)).block, (ad109.add ((x9_2).toNat * 4)).off + 1, none⟩ = some (.int .i64 ((rd_T61 l1 x9_2).f1)) ∧ w'.cell? ⟨(ad109.add ((x9_2).toNat * 4)).block, (ad109.add ((x9_2).toNat * 4)).off + 2, none⟩ = some (.int .i64 ((rd_T61 l1 x9_2).f2)) ∧ w'.cell? ⟨(ad109.add ((x9_2).toNat * 4)).block, (ad109.add ((x9_2).toNat * 4)).off + 3, none⟩ = some (.slice A109_3 ((rd_T61 l1 x9_2).f3).length c109_3)) (ds := []) (bm 26 0) (by kernel_rfl) rfl rfl ⟨(oc HB.out hw109_0 :), (oc HB.out hw109_1 :), (oc HB.out hw109_2 :), (oc HB.out hw109_3 :), (oc HB.out hw110_0 :), (oc HB.out hw110_1 :), (oc HB.out hw110_2 :), (oc HB.out hw110_3 :), (oc HB.out hw111_0 :), (oc HB.out hw111_1 :), (oc HB.out hw111_2 :), (oc HB.out hw111_3 :), (oc HB.out hw112_0 :), (oc HB.out hw112_1 :), (oc HB.out hw112_2 :), (oc HB.out hw112_3 :)⟩ (fun hHeld => ?_); refine with_tabW gangwaylaw14_tables.tab10 gangwaylaw14_tables.bits10 (fun HT_ HW_ => ?_)
     generalize wr.drew = w15 at HO_6 HO_7 HB HR109_3 HR110_3 HR111_3 HR112_3 hx109_0 hx109_1 hx109_2 hx109_3 hx110_0 hx110_1 hx110_2 hx110_3 hx111_0 hx111_1 hx111_2 hx111_3 hx112_0 hx112_1 hx112_2 hx112_3 hHeld ⊢
     refine pure_ (i := 0) (N := some 37) (v := ?_) (a' := ?_) (bm 26 1) rfl rfl (any_of HT_.out (by kernel_rfl)) (fun _ _ _ h => h) (Or.inl ⟨by rfl, ?_⟩) ?_ ?_
     rotate_left
     ·
      intro w'
      go_simp
      with_reducible rfl
     rotate_left
     ·
      simp only [pz]
      rfl
     refine pure_ (i := 1) (N := some 38) (v := ?_) (a' := ?_) (bm 26 3) rfl rfl (any_of HT_.out (by kernel_rfl)) (fun _ _ _ h => h) (Or.inl ⟨by rfl, ?_⟩) ?_ ?_
     rotate_left
     ·
      intro w'
      go_simp
      with_reducible rfl
     rotate_left
     ·
      simp only [pz]
      rfl
     refine pure_ (i := 2) (N := some 39) (v := ?_) (a' := ?_) (bm 26 7) rfl rfl (any_of HT_.out (by kernel_rfl)) (fun _ _ _ h => h) (Or.inl ⟨by rfl, ?_⟩) ?_ ?_
     rotate_left
     ·
      intro w'
      go_simp
      with_reducible rfl
     rotate_left
     ·
      simp only [pz]
      rfl
     refine pure_ (i := 3) (N := some 40) (v := ?_) (a' := ?_) (bm 26 15) rfl rfl (any_of HT_.out (by kernel_rfl)) (fun _ _ _ h => h) (Or.inl ⟨by rfl, ?_⟩) ?_ ?_
     rotate_left
     ·
      intro w'
      go_simp
      with_reducible rfl
     rotate_left
     ·
      simp only [pz]
      rfl
     refine pure_ (i := 4) (N := some 41) (v := ?_) (a' := ?_) (bm 26 31) rfl rfl (any_of HT_.out (by kernel_rfl)) (fun _ _ _ h => h) (Or.inl ⟨by rfl, ?_⟩) ?_ ?_
     rotate_left
     ·
      intro w'
      go_simp
      with_reducible rfl
     rotate_left
     ·
      simp only [pz]
      rfl
     refine pure_ (i := 6) (N := some 43) (v := ?_) (a' := ?_) (bm 26 95) rfl rfl (any_of HT_.out (by kernel_rfl)) (fun _ _ _ h => h) (Or.inl ⟨by rfl, ?_⟩) ?_ ?_
     rotate_left
     ·
      intro w'
      go_simp
      with_reducible rfl
     rotate_left
     ·
      simp only [pz]
      rfl
     refine pure_ (i := 7) (N := some 44) (v := ?_) (a' := ?_) (bm 26 223) rfl rfl (any_of HT_.out (by kernel_rfl)) (fun _ _ _ h => h) (Or.inl ⟨by rfl, ?_⟩) ?_ ?_
     rotate_left
     ·
      intro w'
      go_simp
      with_reducible rfl
     rotate_left
     ·
      simp only [pz]
      rfl
     refine pure_ (i := 8) (N := some 45) (v := ?_) (a' := ?_) (bm 26 479) rfl rfl (any_of HT_.out (by kernel_rfl)) (fun _ _ _ h => h) (Or.inl ⟨by rfl, ?_⟩) ?_ ?_
     rotate_left
     ·
      intro w'
      go_simp
      with_reducible rfl
     rotate_left
     ·
      simp only [pz]
      rfl
     refine pure_ (i := 9) (N := some 46) (v := ?_) (a' := ?_) (bm 26 991) rfl rfl (any_of HT_.out (by kernel_rfl)) (fun _ _ _ h => h) (Or.inl ⟨by rfl, ?_⟩) ?_ ?_
     rotate_left
     ·
      intro w'
      go_simp
      with_reducible rfl
     rotate_left
     ·
      simp only [pz]
      rfl
     refine pure_ (i := 11) (N := some 48) (v := ?_) (a' := ?_) (bm 26 3039) rfl rfl (any_of HT_.out (by kernel_rfl)) (fun _ _ _ h => h) (Or.inl ⟨by rfl, ?_⟩) ?_ ?_
     rotate_left
     ·
      intro w'
      go_simp
      with_reducible rfl
     rotate_left
     ·
      simp only [pz]
      rfl
     refine pure_ (i := 12) (N := some 49) (v := ?_) (a' := ?_) (bm 26 7135) rfl rfl (any_of HT_.out (by kernel_rfl)) (fun _ _ _ h => h) (Or.inl ⟨by rfl, ?_⟩) ?_ ?_
     rotate_left
     ·
      intro w'
      go_simp
      with_reducible rfl
     rotate_left
     ·
      simp only [pz]
      rfl
     refine pure_ (i := 13) (N := some 50) (v := ?_) (a' := ?_) (bm 26 15327) rfl rfl (any_of HT_.out (by kernel_rfl)) (fun _ _ _ h => h) (Or.inl ⟨by rfl, ?_⟩) ?_ ?_
     rotate_left
     ·
      intro w'
      go_simp
      with_reducible rfl
     rotate_left
     ·
      simp only [pz]
      rfl
     refine pure_ (i := 14) (N := some 51) (v := ?_) (a' := ?_) (bm 26 31711) rfl rfl (any_of HT_.out (by kernel_rfl)) (fun _ _ _ h => h) (Or.inl ⟨by rfl, ?_⟩) ?_ ?_
     rotate_left
     ·
      intro w'
      go_simp
      with_reducible rfl
     rotate_left
     ·
      simp only [pz]
      rfl
     refine pure_ (i := 16) (N := some 53) (v := ?_) (a' := ?_) (bm 26 97247) rfl rfl (any_of HT_.out (by kernel_rfl)) (fun _ _ _ h => h) (Or.inl ⟨by rfl, ?_⟩) ?_ ?_
     rotate_left
     ·
      intro w'
      go_simp
      with_reducible rfl
     rotate_left
     ·
      simp only [pz]
      rfl
     refine pure_ (i := 17) (N := some 54) (v := ?_) (a' := ?_) (bm 26 228319) rfl rfl (any_of HT_.out (by kernel_rfl)) (fun _ _ _ h => h) (Or.inl ⟨by rfl, ?_⟩) ?_ ?_
     rotate_left
     ·
      intro w'
      go_simp
      with_reducible rfl
     rotate_left
     ·
      simp only [pz]
      rfl
     refine pure_ (i := 18) (N := some 55) (v := ?_) (a' := ?_) (bm 26 490463) rfl rfl (any_of HT_.out (by kernel_rfl)) (fun _ _ _ h => h) (Or.inl ⟨by rfl, ?_⟩) ?_ ?_
     rotate_left
     ·
      intro w'
      go_simp
      with_reducible rfl
     rotate_left
     ·
      simp only [pz]
      rfl
     refine pure_ (i := 19) (N := some 56) (v := ?_) (a' := ?_) (bm 26 1014751) rfl rfl (any_of HT_.out (by kernel_rfl)) (fun _ _ _ h => h) (Or.inl ⟨by rfl, ?_⟩) ?_ ?_
     rotate_left
     ·
      intro w'
      go_simp
      with_reducible rfl
     rotate_left
     ·
      simp only [pz]
      rfl
     refine take_ (i := 5) (N := some 42) (v := ?_) (a' := ?_) (bm 26 1014783) rfl rfl (take_ofW HT_.out HW_.out (by kernel_rfl)) (fun _ _ _ h => h) (Or.inl ⟨by rfl, ?_⟩) hHeld ?_ ?_
     rotate_left
     ·
      rintro w' ⟨s0, s1, s2, s3, s4, s5, s6, s7, s8, s9, s10, s11, s12, s13, s14, s15⟩
      go_simp
      with_reducible rfl
     rotate_left
     ·
      simp only [pz]
      rfl
     refine take_ (i := 10) (N := some 47) (v := ?_) (a' := ?_) (bm 26 1015807) rfl rfl (take_ofW HT_.out HW_.out (by kernel_rfl)) (fun _ _ _ h => h) (Or.inl ⟨by rfl, ?_⟩) hHeld ?_ ?_
     rotate_left
     ·
      rintro w' ⟨s0, s1, s2, s3, s4, s5, s6, s7, s8, s9, s10, s11, s12, s13, s14, s15⟩
      go_simp
      with_reducible rfl
     rotate_left
     ·
      simp only [pz]
      rfl
     refine take_ (i := 15) (N := some 52) (v := ?_) (a' := ?_) (bm 26 1048575) rfl rfl (take_ofW HT_.out HW_.out (by kernel_rfl)) (fun _ _ _ h => h) (Or.inl ⟨by rfl, ?_⟩) hHeld ?_ ?_
     rotate_left
     ·
      rintro w' ⟨s0, s1, s2, s3, s4, s5, s6, s7, s8, s9, s10, s11, s12, s13, s14, s15⟩
      go_simp
      with_reducible rfl
     rotate_left
     ·
      simp only [pz]
      rfl
     refine take_ (i := 20) (N := some 57) (v := ?_) (a' := ?_) (bm 26 2097151) rfl rfl (take_ofW HT_.out HW_.out (by kernel_rfl)) (fun _ _ _ h => h) (Or.inl ⟨by rfl, ?_⟩) hHeld ?_ ?_
     rotate_left
     ·
      rintro w' ⟨s0, s1, s2, s3, s4, s5, s6, s7, s8, s9, s10, s11, s12, s13, s14, s15⟩
      go_simp
      with_reducible rfl
     rotate_left
     ·
      simp only [pz]
      rfl
     refine one_ (i := 21) (N := some 58) (bm 26 4194303) rfl rfl (one_of HT_.out (by kernel_rfl)) (by decide) (fun K hK => ?_)
     refine goes_ Try.func22 (by kernel_rfl) rfl #[.slice A109_3 ((rd_T61 l1 x9_2).f3).length c109_3] (by rfl) rfl rfl (by simp only [ml]; try rfl) ?_
     with_reducible refine (gangwaylaw14_ops.calls k2 _ _ ((rd_T61 l1 x9_2).f3) t113 _ ?side1 ?side2 A13.out).mono ?_
     (case side1 => exact Kd.C_o (Kd.C_below HR112_3.out HB.out))
     (case side2 => exact HC112_3.out)
     rintro e w16 ⟨v114, rfl, ho0, hb⟩
     refine ⟨_, rfl, ?_⟩
     have n0_ := am (Kd.S_elder' (by (with_reducible repeat (first | apply Kd.S_alloc | apply Kd.S_drewN | apply Kd.S_drew)); exact HO_6.out) (Kd.R_base ho0) hb)
     have n1_ := am (Kd.S_elder' (by (with_reducible repeat (first | apply Kd.S_alloc | apply Kd.S_drewN | apply Kd.S_drew)); exact HO_7.out) (Kd.R_base ho0) hb)
     have n2_ := am (Kd.R_lower ho0 (below_size (by exact bl_o HB.out)))
     have n3_ := am (below_step (by exact bl_o HB.out) hb)
     clear HO_6
     clear HO_7
     clear HB
     have HO_6 := n0_
     have HO_7 := n1_
     have HO115 := n2_
     have HB := n3_
     clear n0_ n1_ n2_ n3_
     (try clear hb)
     (try clear hb2)
     (try clear hk)
     (try clear hi)
     (try clear ho0)
     obtain ⟨Ao17, co17, eo17⟩ := Kd.R_slice HO115.out
     (first | subst eo17 | (injection eo17 with f1_ f2_ f3_; have f4_ := f1_.symm; have f5_ := f3_.symm; clear f1_ f2_ f3_; subst f4_; subst f5_))
     refine hK.out _ _ ⟨(oc HB.out hw109_0 :), (oc HB.out hw109_1 :), (oc HB.out hw109_2 :), (oc HB.out hw109_3 :), (oc HB.out hw110_0 :), (oc HB.out hw110_1 :), (oc HB.out hw110_2 :), (oc HB.out hw110_3 :), (oc HB.out hw111_0 :), (oc HB.out hw111_1 :), (oc HB.out hw111_2 :), (oc HB.out hw111_3 :), (oc HB.out hw112_0 :), (oc HB.out hw112_1 :), (oc HB.out hw112_2 :), (oc HB.out hw112_3 :)⟩ (fun hHeld => ?_)
     clear hK K
     refine norm_ (a' := ?_) ?_ ?_
     rotate_left
     ·
      show Act.put _ (some 58) _ = _
      simp only [pz]
      rfl
     refine pure_ (i := 22) (N := some 59) (v := ?_) (a' := ?_) (bm 26 8388607) rfl rfl (any_of HT_.out (by kernel_rfl)) (fun _ _ _ h => h) (Or.inl ⟨by rfl, ?_⟩) ?_ ?_
     rotate_left
     ·
      intro w'
      go_simp
      with_reducible rfl
     rotate_left
     ·
      simp only [pz]
      rfl
     refine one_ (i := 23) (N := some 60) (bm 26 16777215) rfl rfl (one_of HT_.out (by kernel_rfl)) (by decide) (fun K hK => ?_)
     refine value_ (w1 := ?_) (v := ?_) (by rfl) rfl ?_ ?_
     rotate_left 2
     ·
      go_simp
      constructor
      ·
       rfl
      rfl
     refine hK.out _ _ ⟨(World.cell?_alloc_lt _ _ _ (World.block_lt_of_cell? _ _ ((oc HB.out hw109_0 :)))).trans ((oc HB.out hw109_0 :)), (World.cell?_alloc_lt _ _ _ (World.block_lt_of_cell? _ _ ((oc HB.out hw109_1 :)))).trans ((oc HB.out hw109_1 :)), (World.cell?_alloc_lt _ _ _ (World.block_lt_of_cell? _ _ ((oc HB.out hw109_2 :)))).trans ((oc HB.out hw109_2 :)), (World.cell?_alloc_lt _ _ _ (World.block_lt_of_cell? _ _ ((oc HB.out hw109_3 :)))).trans ((oc HB.out hw109_3 :)), (World.cell?_alloc_lt _ _ _ (World.block_lt_of_cell? _ _ ((oc HB.out hw110_0 :)))).trans ((oc HB.out hw110_0 :)), (World.cell?_alloc_lt _ _ _ (World.block_lt_of_cell? _ _ ((oc HB.out hw110_1 :)))).trans ((oc HB.out hw110_1 :)), (World.cell?_alloc_lt _ _ _ (World.block_lt_of_cell? _ _ ((oc HB.out hw110_2 :)))).trans ((oc HB.out hw110_2 :)), (World.cell?_alloc_lt _ _ _ (World.block_lt_of_cell? _ _ ((oc HB.out hw110_3 :)))).trans ((oc HB.out hw110_3 :)), (World.cell?_alloc_lt _ _ _ (World.block_lt_of_cell? _ _ ((oc HB.out hw111_0 :)))).trans ((oc HB.out hw111_0 :)), (World.cell?_alloc_lt _ _ _ (World.block_lt_of_cell? _ _ ((oc HB.out hw111_1 :)))).trans ((oc HB.out hw111_1 :)), (World.cell?_alloc_lt _ _ _ (World.block_lt_of_cell? _ _ ((oc HB.out hw111_2 :)))).trans ((oc HB.out hw111_2 :)), (World.cell?_alloc_lt _ _ _ (World.block_lt_of_cell? _ _ ((oc HB.out hw111_3 :)))).trans ((oc HB.out hw111_3 :)), (World.cell?_alloc_lt _ _ _ (World.block_lt_of_cell? _ _ ((oc HB.out hw112_0 :)))).trans ((oc HB.out hw112_0 :)), (World.cell?_alloc_lt _ _ _ (World.block_lt_of_cell? _ _ ((oc HB.out hw112_1 :)))).trans ((oc HB.out hw112_1 :)), (World.cell?_alloc_lt _ _ _ (World.block_lt_of_cell? _ _ ((oc HB.out hw112_2 :)))).trans ((oc HB.out hw112_2 :)), (World.cell?_alloc_lt _ _ _ (World.block_lt_of_cell? _ _ ((oc HB.out hw112_3 :)))).trans ((oc HB.out hw112_3 :))⟩ (fun hHeld => ?_)
     clear hK K
     refine norm_ (a' := ?_) ?_ ?_
     rotate_left
     ·
      show Act.put _ (some 60) _ = _
      simp only [pz]
      rfl
     refine one_ (i := 24) (N := some 61) (bm 26 33554431) rfl rfl (one_of HT_.out (by kernel_rfl)) (by decide) (fun K hK => ?_)
     refine Kd.S_append_step k46 (w0 := w) w.heap.size (by rfl) (.tmp 37) (.tmp 60) 25 46 (.agg #[(.int .i64 0), (.int .i64 0), (.int .i64 0), (.slice none 0 0)]) 48 rfl Try.underlying25 info46 rfl (by decide) (by omega) u7 x7_2 (⟨(rd_T61 l1 x9_2).f0, (rd_T61 l1 x9_2).f1, (rd_T61 l1 x9_2).f2, t113⟩ : S46) [.int .i64 ((rd_T61 l1 x9_2).f0), .int .i64 ((rd_T61 l1 x9_2).f1), .int .i64 ((rd_T61 l1 x9_2).f2), .slice Ao17 t113.length co17] (fun _ => True) (fun k_ => some k_ = (.slice Ao17 t113.length co17 : Value).ownBlock) rfl rfl ?aP (fun k_ hk_ => ((Kd.R_mono (ok' := fun k_ => ((fun _ => True)) k_ ∧ some k_ ≠ (u7 : Value).ownBlock) (Kd.R_apart' (HO115.out) (Kd.S_typed HO_7.out) (by decide)) (fun k_ hk => ⟨trivial, hk.2⟩))).1 k_ hk_.symm) ?aF ?aO ?aB ?aS ?aL ?_
     (case aP => exact k46_mkM _ _ _ (⟨(rd_T61 l1 x9_2).f0, (rd_T61 l1 x9_2).f1, (rd_T61 l1 x9_2).f2, t113⟩ : S46) (Kd.R_mono (Kd.R_tight rfl (Kd.R_mono (ok' := fun k_ => ((fun _ => True)) k_ ∧ some k_ ≠ (u7 : Value).ownBlock) (Kd.R_apart' (HO115.out) (Kd.S_typed HO_7.out) (by decide)) (fun k_ hk => ⟨trivial, hk.2⟩))) (fun _ h_ => h_)))
     (case aB => exact (by exact bl_o HB.out))
     (case aF => exact (fun _ _ => trivial))
     (case aO => exact (by (with_reducible repeat (first | apply Kd.S_alloc | apply Kd.S_drewN | apply Kd.S_drew)); exact Kd.S_mono HO_7.out (fun k_ hk => ⟨trivial, fun e_ => hk.2 e_⟩)))
     (case aS => exact (below_size (by exact bl_o HB.out)))
     (case aL => have := LMc14.out; omega)
     intro v117 w18 ho hb hg hat
     rw [← Ny116.out] at ho
     have n0_ := am (Kd.S_over' (by (with_reducible repeat (first | apply Kd.S_alloc | apply Kd.S_drewN | apply Kd.S_drew)); exact HO_6.out) (Kd.S_typed (by (with_reducible repeat (first | apply Kd.S_alloc | apply Kd.S_drewN | apply Kd.S_drew)); exact HO_7.out)) (by decide) hg)
     have n1_ := am (hb)
     have n2_ := am (ho)
     clear HO_6
     clear HB
     clear HO_7
     clear HO115
     have HO_6 := n0_
     have HB := n1_
     have HO118 := n2_
     clear n0_ n1_ n2_
     clear ho hb hg hat
     refine hK.out _ _ ⟨(oc HB.out hw109_0 :), (oc HB.out hw109_1 :), (oc HB.out hw109_2 :), (oc HB.out hw109_3 :), (oc HB.out hw110_0 :), (oc HB.out hw110_1 :), (oc HB.out hw110_2 :), (oc HB.out hw110_3 :), (oc HB.out hw111_0 :), (oc HB.out hw111_1 :), (oc HB.out hw111_2 :), (oc HB.out hw111_3 :), (oc HB.out hw112_0 :), (oc HB.out hw112_1 :), (oc HB.out hw112_2 :), (oc HB.out hw112_3 :)⟩ (fun hHeld => ?_)
     clear hK K
     refine norm_ (a' := ?_) ?_ ?_
     rotate_left
     ·
      show Act.put _ (some 61) _ = _
      simp only [pz]
      rfl
     refine pure_ (i := 25) (N := some 7) (v := ?_) (a' := ?_) (bm 26 67108863) rfl rfl (any_of HT_.out (by kernel_rfl)) (fun _ _ _ h => h) (Or.inl ⟨by rfl, ?_⟩) ?_ ?_
     rotate_left
     ·
      intro w'
      go_simp
      with_reducible rfl
     rotate_left
     ·
      simp only [pz]
      rfl
     refine done_ (done_of HT_.out (by kernel_rfl)) ?_
     try go_wp2
     go_roundg k2
     case measure => have := HK1.out; have := HK2.out; omega
     case rel => exact ⟨(y116), (wrap64 (x9_2 + 1)), (by first | rfl | (simp; done) | (simp [*]; done)), H', ⟨by have := HK1.out; have := HK2.out; omega⟩, ⟨by (with_reducible repeat (first | apply Kd.S_alloc | apply Kd.S_drewN | apply Kd.S_drew)); exact Kd.S_mono HO_6.out (fun _ hk => trivial)⟩, ⟨by (with_reducible repeat (first | apply Kd.S_alloc | apply Kd.S_drewN | apply Kd.S_drew)); exact HO118.out⟩, ⟨by exact bl_g HB.out⟩⟩
end Go.Proofs.Ytfgfnflhdabmcaa.G
end
section
namespace Go.Proofs.Ytfgfnflhdabmcaa.LitMap
open Go.Instr Go.RowKit
theorem keyI (x : Int) : MapKept.IsKey (.int .i64 : TypeDesc) (.int .i64 x) := by simp [MapKept.IsKey]
theorem run_put {P : Program} {t k e : TypeId} {w : World} {b : Nat} {es : Array MapEntry} {clock : Nat} (ht : P.underlying t = some (.map k e)) (hk : P.underlying k = some (.int .i64)) (hb : w.heap[b]? = some (.map es clock))
    (x : Int) (hn : findNow (.int .i64) (.int .i64 x) es.toList 0 = some none) (v : Value) :
    (Instr.mapUpdate t (.map (some b)) (.int .i64 x) v).run P w = .ok () (w.putObj b (.map (es.push { key := .int .i64 x, val := v, born := clock }) (clock + 1))) := by
  have hc : (Instr.checkKey false 10000 k (.int .i64 x)).run P w = .ok () w := MapKept.run_checkKey (k := .int .i64 x) hk (keyI x) false 9999
  simp [Instr.mapUpdate, run_underlying ht, MapKept.run_getObj_map hb, hc, MapKept.run_findKey hk hn, MapKept.run_setObj_map _ hb, Result.andThen, World.putObj]
theorem run_look {P : Program} {t k e : TypeId} {w : World} {b : Nat} {es : Array MapEntry} {clock : Nat} (ht : P.underlying t = some (.map k e)) (hk : P.underlying k = some (.int .i64)) (hb : w.heap[b]? = some (.map es clock))
    (x : Int) (i : Nat) (v : Value) (hn : findNow (.int .i64) (.int .i64 x) es.toList 0 = some (some (i, v))) :
    (Instr.lookup t (.map (some b)) (.int .i64 x) true).run P w = .ok (.tuple #[v, .bool true]) w := by
  simp [Instr.lookup, run_underlying ht, MapKept.run_getObj_map hb, MapKept.run_checkKey (k := .int .i64 x) hk (keyI x), MapKept.run_findKey hk hn, Result.andThen]
theorem run_look_none {P : Program} {t k e : TypeId} {w : World} {b : Nat} {es : Array MapEntry} {clock : Nat} (ht : P.underlying t = some (.map k e)) (hk : P.underlying k = some (.int .i64)) (hb : w.heap[b]? = some (.map es clock))
    (x : Int) (z : Value) (hz : (zeroValue e).run P w = .ok z w) (hn : findNow (.int .i64) (.int .i64 x) es.toList 0 = some none) :
    (Instr.lookup t (.map (some b)) (.int .i64 x) true).run P w = .ok (.tuple #[z, .bool false]) w := by
  simp [Instr.lookup, run_underlying ht, MapKept.run_getObj_map hb, MapKept.run_checkKey (k := .int .i64 x) hk (keyI x), MapKept.run_findKey hk hn, hz, Result.andThen]
theorem wp_put {P : Program} (w : World) {ops : Array Oper} {rest : List Oper} {o : Oper} {a : Act} {Q : Exit → Act → World → Prop}
    (hg : o.guard = none) (m x v : Operand) (t : TypeId) (hop : o.op = Op.insert t m x v) (k e : TypeId) (ht : P.underlying t = some (.map k e)) (hk : P.underlying k = some (.int .i64)) (w0 : World) (b : Nat) (es : Array MapEntry) (clock : Nat)
    (hm : a.eval m = .map (some b)) (hb : w.heap[b]? = some (.map es clock)) (hB : Below w0.heap.size w0 w) (hw0 : w0.heap.size ≤ b) (n : Int) (u : Value) (hx : a.eval x = .int .i64 n) (hv : a.eval v = u) (hn : findNow (.int .i64) (.int .i64 n) es.toList 0 = some none)
    (hK : ∀ w', w'.heap[b]? = some (.map (es.push { key := .int .i64 n, val := u, born := clock }) (clock + 1)) → Below w0.heap.size w0 w' → w'.heap.size = w.heap.size → wpList P ops Q rest (a.put o.dst undef) w') :
    wpList P ops Q (o :: rest) a w := by
  refine wpList_plain hg fun K' hK' => ?_
  have hrun := run_put ht hk hb n hn u
  have hlt : b < w.heap.size := (Array.getElem?_eq_some_iff.1 hb).1
  unfold Oper.wp
  simp [execOp, hop, hm, hx, hv, hrun, Result.andThen]
  refine hK' _ _ (hK _ (World.putObj_heap_same hlt) (hB.grown (grownBy_putObj' w b _) hB.size (fun j e => by cases e; exact hw0)) (by simp [World.putObj]))
end Go.Proofs.Ytfgfnflhdabmcaa.LitMap
end
section
namespace Go.Proofs.Ytfgfnflhdabmcaa.EhOf
open Go.RowKit Go.Proofs.Ytfgfnflhdabmcaa.G Go.Proofs.YtfgfnflhdabmcaaW.PrintWords Go.Proofs.YtfgfnflhdabmcaaW.PrintLast Go.Proofs.YtfgfnflhdabmcaaW.PrintMore Go.Instr
def fm (s : Int) (g : Bool) : Value := .agg #[.int .i64 s, .bool g]
def ent (k s : Int) (g : Bool) (n : Nat) : MapEntry := { key := .int .i64 k, val := fm s g, born := n }
def lit : Array MapEntry := #[ent 0 8 true 0, ent 1 0 false 1, ent 2 2 false 2, ent 3 4 false 3, ent 4 8 false 4, ent 9 0 true 5, ent 10 2 true 6, ent 11 4 true 7, ent 12 8 true 8]
def formOf (k : Int) : Int × Bool × Bool :=
  if k = 0 then (8, true, true) else if k = 1 then (0, false, true) else if k = 2 then (2, false, true) else if k = 3 then (4, false, true) else if k = 4 then (8, false, true)
  else if k = 9 then (0, true, true) else if k = 10 then (2, true, true) else if k = 11 then (4, true, true) else if k = 12 then (8, true, true) else (0, false, false)
def ofF (a0 : Int) : Int × Bool × Int × Bool :=
  if a0 < 0 ∨ 255 < a0 then (0, false, 0, false)
  else if a0 - a0 % 16 ≠ 0 ∧ a0 - a0 % 16 ≠ 16 ∧ a0 - a0 % 16 ≠ 48 then (0, false, 0, false)
  else ((formOf (a0 % 16)).1, (formOf (a0 % 16)).2.1, a0 - a0 % 16, (formOf (a0 % 16)).2.2)
theorem zform (w : World) : (zeroValue 76).run Try.prog w = .ok (fm 0 false) w := by kernel_rfl
theorem look_all {w : World} {b : Nat} (hb : w.heap[b]? = some (.map lit 9)) (k : Int) (h0 : 0 ≤ k) (h1 : k < 16) :
    (Instr.lookup 109 (.map (some b)) (.int .i64 k) true).run Try.prog w = .ok (.tuple #[fm (formOf k).1 (formOf k).2.1, .bool (formOf k).2.2]) w := by
 have hk : k = 0 ∨ k = 1 ∨ k = 2 ∨ k = 3 ∨ k = 4 ∨ k = 5 ∨ k = 6 ∨ k = 7 ∨ k = 8 ∨ k = 9 ∨ k = 10 ∨ k = 11 ∨ k = 12 ∨ k = 13 ∨ k = 14 ∨ k = 15 := by omega
 clear h0 h1
 have ht := Try.underlying109
 have hi := Try.underlying3
 rcases hk with rfl | rfl | rfl | rfl | rfl | rfl | rfl | rfl | rfl | rfl | rfl | rfl | rfl | rfl | rfl | rfl
 ·
  exact LitMap.run_look ht hi hb 0 0 (fm 8 true) rfl
 ·
  exact LitMap.run_look ht hi hb 1 1 (fm 0 false) rfl
 ·
  exact LitMap.run_look ht hi hb 2 2 (fm 2 false) rfl
 ·
  exact LitMap.run_look ht hi hb 3 3 (fm 4 false) rfl
 ·
  exact LitMap.run_look ht hi hb 4 4 (fm 8 false) rfl
 ·
  exact LitMap.run_look_none ht hi hb 5 _ (zform w) rfl
 ·
  exact LitMap.run_look_none ht hi hb 6 _ (zform w) rfl
 ·
  exact LitMap.run_look_none ht hi hb 7 _ (zform w) rfl
 ·
  exact LitMap.run_look_none ht hi hb 8 _ (zform w) rfl
 ·
  exact LitMap.run_look ht hi hb 9 5 (fm 0 true) rfl
 ·
  exact LitMap.run_look ht hi hb 10 6 (fm 2 true) rfl
 ·
  exact LitMap.run_look ht hi hb 11 7 (fm 4 true) rfl
 ·
  exact LitMap.run_look ht hi hb 12 8 (fm 8 true) rfl
 ·
  exact LitMap.run_look_none ht hi hb 13 _ (zform w) rfl
 ·
  exact LitMap.run_look_none ht hi hb 14 _ (zform w) rfl
 exact LitMap.run_look_none ht hi hb 15 _ (zform w) rfl
theorem forms_calls (w : World) : Calls Try.prog 63 #[] w fun e w' => e = .returned (.map (some w.heap.size)) ∧ w'.heap[w.heap.size]? = some (.map lit 9) ∧ Below w.heap.size w w' ∧ w'.heap.size = w.heap.size + 1 := by
 have ht := am Try.underlying109
 have hi := am Try.underlying3
 have hmm := @run_makeMap_plain Try.prog
 have HB := am (below_alloc (Below.refl w.heap.size w) (.map #[] 0))
 have HM := am (blk_new w (.map #[] 0))
 have HZ := am (show (w.alloc (.map #[] 0)).heap.size = w.heap.size + 1 by simp)
 go_enter Try.func63, Try.ntmps63
 go_wp2_with (refine LitMap.wp_put _ rfl _ _ _ 109 rfl 3 76 ht.out hi.out w w.heap.size _ _ rfl HM.out HB.out (Nat.le_refl _) _ _ rfl rfl rfl ?_; intro w1 hm_ hb_ hz_; have n0 := am hm_; have n1 := am hb_; have n2 := am (hz_.trans HZ.out); clear hm_ hb_ hz_ HM HB HZ; have HM := n0; have HB := n1; have HZ := n2; clear n0 n1 n2)
 go_ret
 exact ⟨rfl, HM.out, HB.out, HZ.out⟩
theorem bits_of : ∀ n : Fin 256, bits BinOp.andNot .i64 ((n.val : Nat) : Int) 15 = ((n.val : Nat) : Int) - ((n.val : Nat) : Int) % 16 ∧ bits BinOp.and .i64 ((n.val : Nat) : Int) 15 = ((n.val : Nat) : Int) % 16 := by decide +kernel
theorem bits_at (a : Int) (h0 : 0 ≤ a) (h1 : a ≤ 255) : bits BinOp.andNot .i64 a 15 = a - a % 16 ∧ bits BinOp.and .i64 a 15 = a % 16 := by
 have h := bits_of ⟨a.toNat, by omega⟩
 rwa [Int.toNat_of_nonneg h0] at h
theorem of_far (a0 : Int) (w : World) (h : a0 < 0 ∨ 255 < a0) : Calls Try.prog 29 #[.int .i64 a0] w fun e w' => e = .returned (.tuple #[fm 0 false, .int .i64 0, .bool false]) ∧ Below w.heap.size w w' := by
 have hsz := blk_new w (.cells #[.int .i64 0, .bool false] 76)
 by_cases h0 : a0 < 0
 ·
  clear h
  go_enter Try.func29, Try.ntmps29
  go_wp2
  exact bodyPost_ret (v := .tuple #[.agg #[.int .i64 0, .bool false], .int .i64 0, .bool false]) (by simp [results, Try.results29, go_sem]) rfl ⟨rfl, below_alloc (Below.refl _ _) _⟩
 have h1 : 255 < a0 := by omega
 clear h
 go_enter Try.func29, Try.ntmps29
 go_wp2
 exact bodyPost_ret (v := .tuple #[.agg #[.int .i64 0, .bool false], .int .i64 0, .bool false]) (by simp [results, Try.results29, go_sem]) rfl ⟨rfl, below_alloc (Below.refl _ _) _⟩
theorem of_none (a0 q : Int) (w : World) (h0 : 0 ≤ a0) (h1 : a0 ≤ 255) (hq : bits BinOp.andNot .i64 a0 15 = q) (q0 : q ≠ 0) (q1 : q ≠ 16) (q2 : q ≠ 48) :
    Calls Try.prog 29 #[.int .i64 a0] w fun e w' => e = .returned (.tuple #[fm 0 false, .int .i64 0, .bool false]) ∧ Below w.heap.size w w' := by
 have b0 : (q != 0) = true := bne_iff_ne.mpr q0
 have b1 : (q != 16) = true := bne_iff_ne.mpr q1
 have b2 : (q != 48) = true := bne_iff_ne.mpr q2
 clear q0 q1 q2
 go_enter Try.func29, Try.ntmps29
 go_wp2
 exact bodyPost_ret (v := .tuple #[.agg #[.int .i64 0, .bool false], .int .i64 0, .bool false]) (by simp [results, Try.results29, go_sem]) rfl ⟨rfl, below_alloc (Below.refl _ _) _⟩
theorem of_some (a0 q m : Int) (w : World) (h0 : 0 ≤ a0) (h1 : a0 ≤ 255) (hq : bits BinOp.andNot .i64 a0 15 = q) (hm : bits BinOp.and .i64 a0 15 = m) (m0 : 0 ≤ m) (m1 : m < 16) (hqq : q = 0 ∨ q = 16 ∨ q = 48) :
    Calls Try.prog 29 #[.int .i64 a0] w fun e w' => e = .returned (.tuple #[fm (formOf m).1 (formOf m).2.1, .int .i64 q, .bool (formOf m).2.2]) ∧ Below w.heap.size w w' := by
 have HM := am (And.intro m0 m1)
 obtain ⟨s, hs⟩ : ∃ s, s = (formOf m).1 := ⟨_, rfl⟩
 obtain ⟨g, hg⟩ : ∃ g, g = (formOf m).2.1 := ⟨_, rfl⟩
 obtain ⟨ok, hok⟩ : ∃ ok, ok = (formOf m).2.2 := ⟨_, rfl⟩
 rw [← hs, ← hg, ← hok]
 have HL := am (fun (W : World) (b : Nat) (hb : W.heap[b]? = some (.map lit 9)) => look_all hb m m0 m1)
 rw [← hs, ← hg, ← hok] at HL
 clear m0 m1 hs hg hok
 have hbb : ((q != 0) = false) ∨ ((q != 0) = true ∧ (q != 16) = false) ∨ ((q != 0) = true ∧ (q != 16) = true ∧ (q != 48) = false) := by
  rcases hqq with rfl | rfl | rfl
  ·
   exact .inl rfl
  ·
   exact .inr (.inl ⟨rfl, rfl⟩)
  exact .inr (.inr ⟨rfl, rfl, rfl⟩)
 clear hqq
 rcases hbb with b0 | ⟨b0, b1⟩ | ⟨b0, b1, b2⟩
 all_goals
   have HW := am (blk_new w (.cells #[.int .i64 0, .bool false] 76))
   have HB := am (below_alloc (Below.refl w.heap.size w) (.cells #[.int .i64 0, .bool false] 76))
   have HZ := am (show (w.alloc (.cells #[.int .i64 0, .bool false] 76)).heap.size = w.heap.size + 1 by simp)
   go_enter Try.func29, Try.ntmps29
   go_wp2_with fail
   generalize w.alloc (.cells #[.int .i64 0, .bool false] 76) = W at HW HB HZ ⊢
   refine (forms_calls W).mono ?_
   rintro e w1 ⟨rfl, hm1, hb1, hz1⟩
   have hl := HL.out w1 _ hm1
   simp only [fm] at hl
   have hB : w.heap.size < W.heap.size := by rw [HZ.out]; omega
   have hc0 : w1.cell? ⟨w.heap.size, 0, none⟩ = some (.int .i64 0) := (hb1.cell hB).trans ((blk_cell HW.out 0).trans rfl)
   have hc1 : w1.cell? ⟨w.heap.size, 1, none⟩ = some (.bool false) := (hb1.cell hB).trans ((blk_cell HW.out 1).trans rfl)
   have hf0 : w1.frozen? ⟨w.heap.size, 0, none⟩ = false := (hb1.frozen hB).trans (blk_frozen HW.out 0)
   have hf1 : w1.frozen? ⟨w.heap.size, 1, none⟩ = false := (hb1.frozen hB).trans (blk_frozen HW.out 1)
   have HB1 := am (HB.out.trans (hb1.mono (Nat.le_of_lt hB)))
   have HK1 := am ((hb1.block _ hB).trans HW.out)
   clear hm1 hb1 hz1
   go_wp2
   obtain ⟨w5, hw5⟩ : ∃ W5, W5 = ((((w1.setCell ⟨w.heap.size, 0, none⟩ (.int .i64 s)).setCell ⟨w.heap.size, 1, none⟩ (.bool g)).setCell ⟨w.heap.size, 0, none⟩ (.int .i64 s)).setCell ⟨w.heap.size, 1, none⟩ (.bool g)) := ⟨_, rfl⟩
   rw [← hw5]
   have hk1 : w1.heap[w.heap.size]? = some (.cells #[.int .i64 0, .bool false] 76 (0, 0)) := HK1.out
   have hk5 : w5.heap[w.heap.size]? = some (.cells #[.int .i64 s, .bool g] 76 (0, 0)) := by
     rw [hw5]
     exact blk_put (cs := #[.int .i64 s, .bool g]) (blk_put (cs := #[.int .i64 s, .bool g]) (blk_put (cs := #[.int .i64 s, .bool false]) (blk_put (cs := #[.int .i64 0, .bool false]) hk1 0 _ rfl) 1 _ rfl) 0 _ rfl) 1 _ rfl
   have hb5 : Below w.heap.size w w5 := by
     rw [hw5]
     repeat (first | exact HB1.out | refine below_set ?_ (Nat.le_refl _))
   have d0 : w5.cell? ⟨w.heap.size, 0, none⟩ = some (.int .i64 s) := (blk_cell hk5 0).trans rfl
   have d1 : w5.cell? ⟨w.heap.size, 1, none⟩ = some (.bool g) := (blk_cell hk5 1).trans rfl
   clear hw5 hk1 hc0 hc1 hf0 hf1 hl
   exact bodyPost_ret (v := .tuple #[.agg #[.int .i64 s, .bool g], .int .i64 q, .bool ok]) (by simp [results, Try.results29, go_sem, d0, d1]) rfl ⟨rfl, hb5⟩
theorem of_calls (a0 : Int) (w : World) : Calls Try.prog 29 #[.int .i64 a0] w fun e w' => e = .returned (.tuple #[.agg #[.int .i64 (ofF a0).1, .bool (ofF a0).2.1], .int .i64 (ofF a0).2.2.1, .bool (ofF a0).2.2.2]) ∧ Below w.heap.size w w' := by
 unfold ofF
 by_cases h : a0 < 0 ∨ 255 < a0
 ·
  rw [if_pos h]
  exact of_far a0 w h
 rw [if_neg h]
 have h0 : 0 ≤ a0 := by omega
 have h1 : a0 ≤ 255 := by omega
 obtain ⟨e1, e2⟩ := bits_at a0 h0 h1
 by_cases h2 : a0 - a0 % 16 ≠ 0 ∧ a0 - a0 % 16 ≠ 16 ∧ a0 - a0 % 16 ≠ 48
 ·
  rw [if_pos h2]
  exact of_none a0 _ w h0 h1 e1 h2.1 h2.2.1 h2.2.2
 rw [if_neg h2]
 exact of_some a0 (a0 - a0 % 16) (a0 % 16) w h0 h1 e1 e2 (by omega) (by omega) (by omega)
end Go.Proofs.Ytfgfnflhdabmcaa.EhOf
end
section
namespace Go.Proofs.Ytfgfnflhdabmcaa.G
open Go.RowKit Go.Proofs.YtfgfnflhdabmcaaW.PrintWords Go.Proofs.YtfgfnflhdabmcaaW.PrintLast Go.Proofs.YtfgfnflhdabmcaaW.PrintMore
attribute [local go_sem] max2_int min2_int max_two min_two max_three min_three max_four min_four
def ehframe_of.f (a0 : Int) : Option (Int × Bool × Int × Bool) := some (EhOf.ofF a0)
theorem ehframe_of.calls (a0 r1 : Int) (r2 : Bool) (r3 : Int) (r4 : Bool) (w : World) (h : ehframe_of.f a0 = some (r1, r2, r3, r4)) :
    Calls Try.prog 29 #[.int .i64 a0] w fun e w' => e = .returned (.tuple #[.agg #[.int .i64 r1, .bool r2], .int .i64 r3, .bool r4]) ∧ Below w.heap.size w w' := by
 have e := Option.some.inj h
 have hc := EhOf.of_calls a0 w
 rw [e] at hc
 exact hc
def ehframe_near.l0 : Nat → List Int → Int → Int → Option (Bool)
  | 0, _, _, _ => none
  | k + 1, x5, x6, x7 => if x7 < x6 then (if 0 ≤ x7 then (if x7 < (x5.length : Int) then (if (rd x5 x7) < (-1152921504606846976) then (some false) else (if (rd x5 x7) > 1152921504606846976 then (some false) else (ehframe_near.l0 k x5 x6 (wrap64 (x7 + 1))))) else (none)) else (none)) else (some true)
def ehframe_near.f (k : Nat) (l0 : List Int) : Option (Bool) := ehframe_near.l0 k l0 (l0.length : Int) 0
theorem ehframe_near.mono_l : ∀ k, (∀ y0 y1 y2, LeO (ehframe_near.l0 k y0 y1 y2) (ehframe_near.l0 (k + 1) y0 y1 y2))
  | 0 => fun _ _ _ r h => by simp [ehframe_near.l0] at h
  | k + 1 => by
    have ih0 := ehframe_near.mono_l k
    · intro y0 y1 y2
      unfold ehframe_near.l0
      repeat' first
      | (with_reducible exact ih0 _ _ _)
      | (with_reducible exact LeO.refl _)
      | (with_reducible exact LeO.none _)
      | (with_reducible refine LeO.ite ?_ ?_)
      | (with_reducible refine LeO.bind ?_ (fun _ => ?_))
      | exact ih0 _ _ _
      | exact LeO.none _
      | refine LeO.ite ?_ ?_
      | refine LeO.bind ?_ (fun _ => ?_)
theorem ehframe_near.mono : ∀ a0 k, LeO (ehframe_near.f k a0) (ehframe_near.f (k + 1) a0) := by
 intro a0 k
 have ih0 := ehframe_near.mono_l k
 unfold ehframe_near.f
 repeat' first
     | (with_reducible exact ih0 _ _ _)
     | (with_reducible exact LeO.refl _)
     | (with_reducible exact LeO.none _)
     | (with_reducible refine LeO.ite ?_ ?_)
     | (with_reducible refine LeO.bind ?_ (fun _ => ?_))
     | exact ih0 _ _ _
     | exact LeO.none _
     | refine LeO.ite ?_ ?_
     | refine LeO.bind ?_ (fun _ => ?_)
set_option maxHeartbeats 8000000 in
theorem ehframe_near.calls (k : Nat) (A0 : Option Addr) (c0 : Nat) (l0 : List Int) (r : Bool) (w : World) (hr0 : Kd.C (Kd.int .i64) w A0 l0.length l0) (hc0 : l0.length ≤ c0) (h : ehframe_near.f k l0 = some r) :
    Calls Try.prog 30 #[.slice A0 l0.length c0] w fun e w' => e = .returned (.bool r) ∧ Drawn0 w w' := by
 have HR0 := am hr0
 have HC0 := am hc0
 clear hr0 hc0
 have H : (ehframe_near.l0 k l0 (l0.length : Int) 0) = some r := h
 clear h
 have H' := am H
 clear H
 go_enter Try.func30, Try.ntmps30
 go_wp2
 go_loopg [7] k (fun kq v7 w' => ∃ (x7_1 : Int), v7 = .int .i64 x7_1 ∧ Aside0 (ehframe_near.l0 kq l0 (l0.length : Int) x7_1 = some r) ∧ Aside0 (kq ≤ k) ∧ Drawn0 w w')
 case atStart => exact ⟨(0), (by first | rfl | (simp; done) | (simp [*]; done)), H', ⟨Nat.le_refl _⟩, by repeat (first | exact Drawn0.refl _ | apply Drawn0.step)⟩
 case round =>
  clear H'
  obtain ⟨x7_1, rfl, HA, HK1, ⟨m1, rfl⟩⟩ := hrel
  cases gk with
  | zero => exact absurd HA.out (by simp [ehframe_near.l0])
  | succ k1 =>
   have H := HA.out
   clear HA
   simp only [ehframe_near.l0] at H
   by_cases c2 : x7_1 < (l0.length : Int)
   rotate_left
   ·
    rw [if_neg c2] at H
    have c2b0 : decide (x7_1 < (l0.length : Int)) = false := decide_eq_false c2
    clear c2
    obtain rfl := Option.some.inj H
    go_wp2
    go_ret
    exact ⟨by first | rfl | (simp; done) | (simp [*]; done), by repeat (first | exact Drawn0.refl _ | apply Drawn0.step)⟩
   rw [if_pos c2] at H
   have c2b0 : decide (x7_1 < (l0.length : Int)) = true := decide_eq_true c2
   clear c2
   by_cases c3 : 0 ≤ x7_1
   rotate_left
   ·
    rw [if_neg c3] at H
    exact absurd H (by simp)
   rw [if_pos c3] at H
   have c3b0 : decide (0 ≤ x7_1) = true := decide_eq_true c3
   clear c3
   by_cases c4 : x7_1 < (l0.length : Int)
   rotate_left
   ·
    rw [if_neg c4] at H
    exact absurd H (by simp)
   rw [if_pos c4] at H
   have c4b0 : decide (x7_1 < (l0.length : Int)) = true := decide_eq_true c4
   clear c4
   by_cases c5 : (rd l0 x7_1) < (-1152921504606846976)
   ·
    rw [if_pos c5] at H
    have c5b0 : decide ((rd l0 x7_1) < (-1152921504606846976)) = true := decide_eq_true c5
    clear c5
    obtain rfl := Option.some.inj H
    have p101 : 0 ≤ (x7_1 : Int) := od
    have q101 : x7_1 < (l0.length : Int) := od
    obtain ⟨ad101, e101, hx101_0⟩ := Kd.at_int HR0.out x7_1 p101 q101
    cases e101
    replace p101 := eq_true p101
    replace q101 := eq_true q101
    go_wp2
    go_ret
    exact ⟨by first | rfl | (simp; done) | (simp [*]; done), by repeat (first | exact Drawn0.refl _ | apply Drawn0.step)⟩
   rw [if_neg c5] at H
   have c5b0 : decide ((rd l0 x7_1) < (-1152921504606846976)) = false := decide_eq_false c5
   clear c5
   by_cases c6 : (rd l0 x7_1) > 1152921504606846976
   ·
    rw [if_pos c6] at H
    have c6b0 : decide (1152921504606846976 < (rd l0 x7_1)) = true := decide_eq_true c6
    clear c6
    obtain rfl := Option.some.inj H
    have p101 : 0 ≤ (x7_1 : Int) := od
    have q101 : x7_1 < (l0.length : Int) := od
    obtain ⟨ad101, e101, hx101_0⟩ := Kd.at_int HR0.out x7_1 p101 q101
    cases e101
    replace p101 := eq_true p101
    replace q101 := eq_true q101
    go_wp2
    go_ret
    exact ⟨by first | rfl | (simp; done) | (simp [*]; done), by repeat (first | exact Drawn0.refl _ | apply Drawn0.step)⟩
   rw [if_neg c6] at H
   have c6b0 : decide (1152921504606846976 < (rd l0 x7_1)) = false := decide_eq_false c6
   clear c6
   have H' := am H
   clear H
   have p101 : 0 ≤ (x7_1 : Int) := od
   have q101 : x7_1 < (l0.length : Int) := od
   obtain ⟨ad101, e101, hx101_0⟩ := Kd.at_int HR0.out x7_1 p101 q101
   cases e101
   replace p101 := eq_true p101
   replace q101 := eq_true q101
   go_wp2
   go_roundg k1
   case measure => have := HK1.out; omega
   case rel => exact ⟨(wrap64 (x7_1 + 1)), (by first | rfl | (simp; done) | (simp [*]; done)), H', ⟨by have := HK1.out; omega⟩, by repeat (first | exact Drawn0.refl _ | apply Drawn0.step)⟩
def leb_Sleb.l0 : Nat → Int → List Int → Option (List Int)
  | 0, _, _ => none
  | k + 1, x0, x3 => if x0 < (-64) then (if x3.length < 140737488355328 then (leb_Sleb.l0 k (x0 / 128) (x3 ++ [Go.bits .or .u8 ((x0) % 256) 128])) else (none)) else (if x0 > 63 then (if x3.length < 140737488355328 then (leb_Sleb.l0 k (x0 / 128) (x3 ++ [Go.bits .or .u8 ((x0) % 256) 128])) else (none)) else (if x3.length < 140737488355328 then (some (x3 ++ [Go.bits .and .u8 ((x0) % 256) 127])) else (none)))
def leb_Sleb.f (k : Nat) (a0 : Int) : Option (List Int) := leb_Sleb.l0 k a0 ([] : List Int)
theorem leb_Sleb.mono_l : ∀ k, (∀ y0 y1, LeO (leb_Sleb.l0 k y0 y1) (leb_Sleb.l0 (k + 1) y0 y1))
  | 0 => fun _ _ r h => by simp [leb_Sleb.l0] at h
  | k + 1 => by
    have ih0 := leb_Sleb.mono_l k
    · intro y0 y1
      unfold leb_Sleb.l0
      repeat' first
      | (with_reducible exact ih0 _ _)
      | (with_reducible exact LeO.refl _)
      | (with_reducible exact LeO.none _)
      | (with_reducible refine LeO.ite ?_ ?_)
      | (with_reducible refine LeO.bind ?_ (fun _ => ?_))
      | exact ih0 _ _
      | exact LeO.none _
      | refine LeO.ite ?_ ?_
      | refine LeO.bind ?_ (fun _ => ?_)
theorem leb_Sleb.mono : ∀ a0 k, LeO (leb_Sleb.f k a0) (leb_Sleb.f (k + 1) a0) := by
 intro a0 k
 have ih0 := leb_Sleb.mono_l k
 unfold leb_Sleb.f
 repeat' first
     | (with_reducible exact ih0 _ _)
     | (with_reducible exact LeO.refl _)
     | (with_reducible exact LeO.none _)
     | (with_reducible refine LeO.ite ?_ ?_)
     | (with_reducible refine LeO.bind ?_ (fun _ => ?_))
     | exact ih0 _ _
     | exact LeO.none _
     | refine LeO.ite ?_ ?_
     | refine LeO.bind ?_ (fun _ => ?_)
set_option maxHeartbeats 8000000 in
theorem leb_Sleb.calls (k : Nat) (a0 : Int) (r : List Int) (w : World) (h : leb_Sleb.f k a0 = some r) :
    Calls Try.prog 37 #[.int .i64 a0] w fun e w' => ∃ v0_ : Value, e = .returned (v0_) ∧ Kd.R (Kd.int .u8) 5 w' w.heap.size (fun _ => True) v0_ r ∧ Below w.heap.size w w' := by
 have HB := am (Below.refl w.heap.size w)
 have H : (leb_Sleb.l0 k a0 ([] : List Int)) = some r := h
 clear h
 have H' := am H
 clear H
 go_enter Try.func37, Try.ntmps37
 go_wp2
 go_loopg [0, 3] k (fun kq v0 v3 w' => ∃ (x0_1 : Int) (x3_1 : List Int), v0 = .int .i64 x0_1 ∧ Aside0 (leb_Sleb.l0 kq x0_1 x3_1 = some r) ∧ Aside0 (kq ≤ k) ∧ Aside0 (Kd.R (Kd.int .u8) 5 w' w.heap.size (fun _ => True) v3 x3_1) ∧ Aside0 (Below w.heap.size w w'))
 case atStart => exact ⟨(a0), (([] : List Int)), (by first | rfl | (simp; done) | (simp [*]; done)), H', ⟨Nat.le_refl _⟩, ⟨by first | exact Kd.R_nil _ _ _ _ _ | exact Kd.N_nil _ _ _ _ _⟩, ⟨by exact bl_g HB.out⟩⟩
 case round =>
  clear H'
  obtain ⟨x0_1, x3_1, rfl, HA, HK1, HO_3, HB⟩ := hrel
  cases gk with
  | zero => exact absurd HA.out (by simp [leb_Sleb.l0])
  | succ k1 =>
   have H := HA.out
   clear HA
   simp only [leb_Sleb.l0] at H
   by_cases c2 : x0_1 < (-64)
   ·
    rw [if_pos c2] at H
    have c2b0 : decide (x0_1 < (-64)) = true := decide_eq_true c2
    clear c2
    by_cases c3 : x3_1.length < 140737488355328
    rotate_left
    ·
     rw [if_neg c3] at H
     exact absurd H (by simp)
    rw [if_pos c3] at H
    have LMc3 := am c3
    clear c3
    obtain ⟨y101, hy101⟩ : ∃ y_ : List Int, y_ = (x3_1 ++ [Go.bits .or .u8 ((x0_1) % 256) 128]) := ⟨_, rfl⟩
    replace H : (leb_Sleb.l0 k1 (x0_1 / 128) y101) = some r := by first | (rw [hy101]; with_reducible exact H) | (have H2_ := (Option.bind_some _ _).symm.trans H; rw [hy101]; with_reducible exact H2_)
    have Ny101 := am hy101
    clear hy101
    have H' := am H
    clear H
    go_wp2_with (first | ((with_reducible refine gate_builtin (b := .append) (xs := #[.tmp 12, .tmp 16]) rfl ?_); at_builtin; refine Kd.R_append (Kd.int .u8) (w0 := w) w.heap.size rfl (.tmp 12) (.tmp 16) 28 5 (.int .u8 0) 1 rfl Try.underlying28 info5 rfl (by decide) (by omega) u3 x3_1 (Go.bits .or .u8 ((x0_1) % 256) 128) [.int .u8 (Go.bits .or .u8 ((x0_1) % 256) 128)] (fun _ => True) (fun _ => False) rfl rfl ?aP (fun _ hk => hk.elim) ?aF ?aO ?aB ?aS ?aL ?_; (case aP => exact rfl); (case aB => exact (by exact bl_o HB.out)); (case aF => exact (fun _ _ => trivial)); (case aO => exact (Kd.R_o HO_3.out)); (case aS => exact (below_size (by exact bl_o HB.out))); (case aL => have := LMc3.out; omega); intro v102 w4 ho hb hg hat; rw [← Ny101.out] at ho; refine mv2 (am (hb)) (am (ho)) ?_; clear HB HO_3; intro HB HO103; clear ho hb hg hat))
    go_roundg k1
    case measure => have := HK1.out; omega
    case rel => exact ⟨(x0_1 / 128), (y101), (by first | rfl | (simp; done) | (simp [*]; done)), H', ⟨by have := HK1.out; omega⟩, ⟨by (with_reducible repeat (first | apply Kd.R_alloc | apply Kd.R_drewN | apply Kd.R_drew)); exact HO103.out⟩, ⟨by exact bl_g HB.out⟩⟩
   rw [if_neg c2] at H
   have c2b0 : decide (x0_1 < (-64)) = false := decide_eq_false c2
   clear c2
   by_cases c5 : x0_1 > 63
   ·
    rw [if_pos c5] at H
    have c5b0 : decide (63 < x0_1) = true := decide_eq_true c5
    clear c5
    by_cases c6 : x3_1.length < 140737488355328
    rotate_left
    ·
     rw [if_neg c6] at H
     exact absurd H (by simp)
    rw [if_pos c6] at H
    have LMc6 := am c6
    clear c6
    obtain ⟨y104, hy104⟩ : ∃ y_ : List Int, y_ = (x3_1 ++ [Go.bits .or .u8 ((x0_1) % 256) 128]) := ⟨_, rfl⟩
    replace H : (leb_Sleb.l0 k1 (x0_1 / 128) y104) = some r := by first | (rw [hy104]; with_reducible exact H) | (have H2_ := (Option.bind_some _ _).symm.trans H; rw [hy104]; with_reducible exact H2_)
    have Ny104 := am hy104
    clear hy104
    have H' := am H
    clear H
    go_wp2_with (first | ((with_reducible refine gate_builtin (b := .append) (xs := #[.tmp 12, .tmp 16]) rfl ?_); at_builtin; refine Kd.R_append (Kd.int .u8) (w0 := w) w.heap.size rfl (.tmp 12) (.tmp 16) 28 5 (.int .u8 0) 1 rfl Try.underlying28 info5 rfl (by decide) (by omega) u3 x3_1 (Go.bits .or .u8 ((x0_1) % 256) 128) [.int .u8 (Go.bits .or .u8 ((x0_1) % 256) 128)] (fun _ => True) (fun _ => False) rfl rfl ?aP (fun _ hk => hk.elim) ?aF ?aO ?aB ?aS ?aL ?_; (case aP => exact rfl); (case aB => exact (by exact bl_o HB.out)); (case aF => exact (fun _ _ => trivial)); (case aO => exact (Kd.R_o HO_3.out)); (case aS => exact (below_size (by exact bl_o HB.out))); (case aL => have := LMc6.out; omega); intro v105 w7 ho hb hg hat; rw [← Ny104.out] at ho; refine mv2 (am (hb)) (am (ho)) ?_; clear HB HO_3; intro HB HO106; clear ho hb hg hat))
    go_roundg k1
    case measure => have := HK1.out; omega
    case rel => exact ⟨(x0_1 / 128), (y104), (by first | rfl | (simp; done) | (simp [*]; done)), H', ⟨by have := HK1.out; omega⟩, ⟨by (with_reducible repeat (first | apply Kd.R_alloc | apply Kd.R_drewN | apply Kd.R_drew)); exact HO106.out⟩, ⟨by exact bl_g HB.out⟩⟩
   rw [if_neg c5] at H
   have c5b0 : decide (63 < x0_1) = false := decide_eq_false c5
   clear c5
   by_cases c8 : x3_1.length < 140737488355328
   rotate_left
   ·
    rw [if_neg c8] at H
    exact absurd H (by simp)
   rw [if_pos c8] at H
   have LMc8 := am c8
   clear c8
   obtain ⟨y107, hy107⟩ : ∃ y_ : List Int, y_ = (x3_1 ++ [Go.bits .and .u8 ((x0_1) % 256) 127]) := ⟨_, rfl⟩
   replace H : (some y107) = some r := by first | (rw [hy107]; with_reducible exact H) | (have H2_ := (Option.bind_some _ _).symm.trans H; rw [hy107]; with_reducible exact H2_)
   have Ny107 := am hy107
   clear hy107
   obtain rfl := Option.some.inj H
   go_wp2_with (first | ((with_reducible refine gate_builtin (b := .append) (xs := #[.tmp 18, .tmp 22]) rfl ?_); at_builtin; refine Kd.R_append (Kd.int .u8) (w0 := w) w.heap.size rfl (.tmp 18) (.tmp 22) 28 5 (.int .u8 0) 1 rfl Try.underlying28 info5 rfl (by decide) (by omega) u3 x3_1 (Go.bits .and .u8 ((x0_1) % 256) 127) [.int .u8 (Go.bits .and .u8 ((x0_1) % 256) 127)] (fun _ => True) (fun _ => False) rfl rfl ?aP (fun _ hk => hk.elim) ?aF ?aO ?aB ?aS ?aL ?_; (case aP => exact rfl); (case aB => exact (by exact bl_o HB.out)); (case aF => exact (fun _ _ => trivial)); (case aO => exact (Kd.R_o HO_3.out)); (case aS => exact (below_size (by exact bl_o HB.out))); (case aL => have := LMc8.out; omega); intro v108 w9 ho hb hg hat; rw [← Ny107.out] at ho; refine mv2 (am (hb)) (am (ho)) ?_; clear HB HO_3; intro HB HO109; clear ho hb hg hat))
   go_ret
   exact ⟨_, rfl, by (with_reducible repeat (first | apply Kd.R_alloc | apply Kd.R_drewN | apply Kd.R_drew)); exact HO109.out, by exact bl_g HB.out⟩
def leb_Uleb.l0 : Nat → List Int → Int → Option (List Int)
  | 0, _, _ => none
  | k + 1, x3, x4 => if x4 > 127 then (if x3.length < 140737488355328 then (leb_Uleb.l0 k (x3 ++ [Go.bits .or .u8 ((x4) % 256) 128]) (x4 / 128)) else (none)) else (if x3.length < 140737488355328 then (some (x3 ++ [(x4) % 256])) else (none))
def leb_Uleb.f (k : Nat) (a0 : Int) : Option (List Int) := leb_Uleb.l0 k ([] : List Int) (IntKind.u64.wrap (a0))
theorem leb_Uleb.mono_l : ∀ k, (∀ y0 y1, LeO (leb_Uleb.l0 k y0 y1) (leb_Uleb.l0 (k + 1) y0 y1))
  | 0 => fun _ _ r h => by simp [leb_Uleb.l0] at h
  | k + 1 => by
    have ih0 := leb_Uleb.mono_l k
    · intro y0 y1
      unfold leb_Uleb.l0
      repeat' first
      | (with_reducible exact ih0 _ _)
      | (with_reducible exact LeO.refl _)
      | (with_reducible exact LeO.none _)
      | (with_reducible refine LeO.ite ?_ ?_)
      | (with_reducible refine LeO.bind ?_ (fun _ => ?_))
      | exact ih0 _ _
      | exact LeO.none _
      | refine LeO.ite ?_ ?_
      | refine LeO.bind ?_ (fun _ => ?_)
theorem leb_Uleb.mono : ∀ a0 k, LeO (leb_Uleb.f k a0) (leb_Uleb.f (k + 1) a0) := by
 intro a0 k
 have ih0 := leb_Uleb.mono_l k
 unfold leb_Uleb.f
 repeat' first
     | (with_reducible exact ih0 _ _)
     | (with_reducible exact LeO.refl _)
     | (with_reducible exact LeO.none _)
     | (with_reducible refine LeO.ite ?_ ?_)
     | (with_reducible refine LeO.bind ?_ (fun _ => ?_))
     | exact ih0 _ _
     | exact LeO.none _
     | refine LeO.ite ?_ ?_
     | refine LeO.bind ?_ (fun _ => ?_)
set_option maxHeartbeats 8000000 in
theorem leb_Uleb.calls (k : Nat) (a0 : Int) (r : List Int) (w : World) (h : leb_Uleb.f k a0 = some r) :
    Calls Try.prog 38 #[.int .i64 a0] w fun e w' => ∃ v0_ : Value, e = .returned (v0_) ∧ Kd.R (Kd.int .u8) 5 w' w.heap.size (fun _ => True) v0_ r ∧ Below w.heap.size w w' := by
 have HB := am (Below.refl w.heap.size w)
 have H : (leb_Uleb.l0 k ([] : List Int) (IntKind.u64.wrap (a0))) = some r := h
 clear h
 have H' := am H
 clear H
 go_enter Try.func38, Try.ntmps38
 go_wp2
 go_loopg [3, 4] k (fun kq v3 v4 w' => ∃ (x3_1 : List Int) (x4_1 : Int), v4 = .int .u64 x4_1 ∧ Aside0 (leb_Uleb.l0 kq x3_1 x4_1 = some r) ∧ Aside0 (kq ≤ k) ∧ Aside0 (Kd.R (Kd.int .u8) 5 w' w.heap.size (fun _ => True) v3 x3_1) ∧ Aside0 (Below w.heap.size w w'))
 case atStart => exact ⟨(([] : List Int)), (IntKind.u64.wrap (a0)), (by first | rfl | (simp; done) | (simp [*]; done)), H', ⟨Nat.le_refl _⟩, ⟨by first | exact Kd.R_nil _ _ _ _ _ | exact Kd.N_nil _ _ _ _ _⟩, ⟨by exact bl_g HB.out⟩⟩
 case round =>
  clear H'
  obtain ⟨x3_1, x4_1, rfl, HA, HK1, HO_3, HB⟩ := hrel
  cases gk with
  | zero => exact absurd HA.out (by simp [leb_Uleb.l0])
  | succ k1 =>
   have H := HA.out
   clear HA
   simp only [leb_Uleb.l0] at H
   by_cases c2 : x4_1 > 127
   ·
    rw [if_pos c2] at H
    have c2b0 : decide (127 < x4_1) = true := decide_eq_true c2
    clear c2
    by_cases c3 : x3_1.length < 140737488355328
    rotate_left
    ·
     rw [if_neg c3] at H
     exact absurd H (by simp)
    rw [if_pos c3] at H
    have LMc3 := am c3
    clear c3
    obtain ⟨y101, hy101⟩ : ∃ y_ : List Int, y_ = (x3_1 ++ [Go.bits .or .u8 ((x4_1) % 256) 128]) := ⟨_, rfl⟩
    replace H : (leb_Uleb.l0 k1 y101 (x4_1 / 128)) = some r := by first | (rw [hy101]; with_reducible exact H) | (have H2_ := (Option.bind_some _ _).symm.trans H; rw [hy101]; with_reducible exact H2_)
    have Ny101 := am hy101
    clear hy101
    have H' := am H
    clear H
    go_wp2_with (first | ((with_reducible refine gate_builtin (b := .append) (xs := #[.tmp 11, .tmp 15]) rfl ?_); at_builtin; refine Kd.R_append (Kd.int .u8) (w0 := w) w.heap.size rfl (.tmp 11) (.tmp 15) 28 5 (.int .u8 0) 1 rfl Try.underlying28 info5 rfl (by decide) (by omega) u3 x3_1 (Go.bits .or .u8 ((x4_1) % 256) 128) [.int .u8 (Go.bits .or .u8 ((x4_1) % 256) 128)] (fun _ => True) (fun _ => False) rfl rfl ?aP (fun _ hk => hk.elim) ?aF ?aO ?aB ?aS ?aL ?_; (case aP => exact rfl); (case aB => exact (by exact bl_o HB.out)); (case aF => exact (fun _ _ => trivial)); (case aO => exact (Kd.R_o HO_3.out)); (case aS => exact (below_size (by exact bl_o HB.out))); (case aL => have := LMc3.out; omega); intro v102 w4 ho hb hg hat; rw [← Ny101.out] at ho; refine mv2 (am (hb)) (am (ho)) ?_; clear HB HO_3; intro HB HO103; clear ho hb hg hat))
    go_roundg k1
    case measure => have := HK1.out; omega
    case rel => exact ⟨(y101), (x4_1 / 128), (by first | rfl | (simp; done) | (simp [*]; done)), H', ⟨by have := HK1.out; omega⟩, ⟨by (with_reducible repeat (first | apply Kd.R_alloc | apply Kd.R_drewN | apply Kd.R_drew)); exact HO103.out⟩, ⟨by exact bl_g HB.out⟩⟩
   rw [if_neg c2] at H
   have c2b0 : decide (127 < x4_1) = false := decide_eq_false c2
   clear c2
   by_cases c5 : x3_1.length < 140737488355328
   rotate_left
   ·
    rw [if_neg c5] at H
    exact absurd H (by simp)
   rw [if_pos c5] at H
   have LMc5 := am c5
   clear c5
   obtain ⟨y104, hy104⟩ : ∃ y_ : List Int, y_ = (x3_1 ++ [(x4_1) % 256]) := ⟨_, rfl⟩
   replace H : (some y104) = some r := by first | (rw [hy104]; with_reducible exact H) | (have H2_ := (Option.bind_some _ _).symm.trans H; rw [hy104]; with_reducible exact H2_)
   have Ny104 := am hy104
   clear hy104
   obtain rfl := Option.some.inj H
   go_wp2_with (first | ((with_reducible refine gate_builtin (b := .append) (xs := #[.tmp 17, .tmp 20]) rfl ?_); at_builtin; refine Kd.R_append (Kd.int .u8) (w0 := w) w.heap.size rfl (.tmp 17) (.tmp 20) 28 5 (.int .u8 0) 1 rfl Try.underlying28 info5 rfl (by decide) (by omega) u3 x3_1 ((x4_1) % 256) [.int .u8 ((x4_1) % 256)] (fun _ => True) (fun _ => False) rfl rfl ?aP (fun _ hk => hk.elim) ?aF ?aO ?aB ?aS ?aL ?_; (case aP => exact rfl); (case aB => exact (by exact bl_o HB.out)); (case aF => exact (fun _ _ => trivial)); (case aO => exact (Kd.R_o HO_3.out)); (case aS => exact (below_size (by exact bl_o HB.out))); (case aL => have := LMc5.out; omega); intro v105 w6 ho hb hg hat; rw [← Ny104.out] at ho; refine mv2 (am (hb)) (am (ho)) ?_; clear HB HO_3; intro HB HO106; clear ho hb hg hat))
   go_ret
   exact ⟨_, rfl, by (with_reducible repeat (first | apply Kd.R_alloc | apply Kd.R_drewN | apply Kd.R_drew)); exact HO106.out, by exact bl_g HB.out⟩
def leb_Fits.j0 : Nat → Int → Int → Bool → Bool → Option (Bool)
  | 0, _, _, _, _ => none
  | k + 1, x0, x1, x2, x7 => if x7 = true then (some false) else (if x2 = true then (if x1 = 64 then (some true) else (if 0 ≤ (wrap64 (x1 - 1)) then (if x0 ≥ (shl .i64 (-1) (wrap64 (x1 - 1))) then (some (decide (x0 < (shl .i64 1 (wrap64 (x1 - 1)))))) else (some false)) else (none))) else (if x0 < 0 then (some false) else (if x1 ≥ 63 then (some true) else (if 0 ≤ x1 then (some (decide (x0 < (shl .i64 1 x1)))) else (none)))))
def leb_Fits.f (k : Nat) (a0 : Int) (a1 : Int) (a2 : Bool) : Option (Bool) := if a1 < 1 then (leb_Fits.j0 k a0 a1 a2 true) else (leb_Fits.j0 k a0 a1 a2 (decide (a1 > 64)))
theorem leb_Fits.mono_l : ∀ k, (∀ y0 y1 y2 y3, LeO (leb_Fits.j0 k y0 y1 y2 y3) (leb_Fits.j0 (k + 1) y0 y1 y2 y3))
  | 0 => fun _ _ _ _ r h => by simp [leb_Fits.j0] at h
  | k + 1 => by
    have ih0 := leb_Fits.mono_l k
    · intro y0 y1 y2 y3
      unfold leb_Fits.j0
      repeat' first
      | (with_reducible exact ih0 _ _ _ _)
      | (with_reducible exact LeO.refl _)
      | (with_reducible exact LeO.none _)
      | (with_reducible refine LeO.ite ?_ ?_)
      | (with_reducible refine LeO.bind ?_ (fun _ => ?_))
      | exact ih0 _ _ _ _
      | exact LeO.none _
      | refine LeO.ite ?_ ?_
      | refine LeO.bind ?_ (fun _ => ?_)
theorem leb_Fits.mono : ∀ a0 a1 a2 k, LeO (leb_Fits.f k a0 a1 a2) (leb_Fits.f (k + 1) a0 a1 a2) := by
 intro a0 a1 a2 k
 have ih0 := leb_Fits.mono_l k
 unfold leb_Fits.f
 repeat' first
     | (with_reducible exact ih0 _ _ _ _)
     | (with_reducible exact LeO.refl _)
     | (with_reducible exact LeO.none _)
     | (with_reducible refine LeO.ite ?_ ?_)
     | (with_reducible refine LeO.bind ?_ (fun _ => ?_))
     | exact ih0 _ _ _ _
     | exact LeO.none _
     | refine LeO.ite ?_ ?_
     | refine LeO.bind ?_ (fun _ => ?_)
set_option maxHeartbeats 8000000 in
theorem leb_Fits.calls (k : Nat) (a0 : Int) (a1 : Int) (a2 : Bool) (r : Bool) (w : World) (h : leb_Fits.f k a0 a1 a2 = some r) :
    Calls Try.prog 39 #[.int .i64 a0, .int .i64 a1, .bool a2] w fun e w' => e = .returned (.bool r) ∧ Drawn0 w w' := by
 have H : (if a1 < 1 then (leb_Fits.j0 k a0 a1 a2 true) else (leb_Fits.j0 k a0 a1 a2 (decide (a1 > 64)))) = some r := h
 clear h
 have HC4 := am H
 clear H
 go_enter Try.func39, Try.ntmps39
 go_upto_region 1 with (fail)
 go_cut [7] (fun v7 wc => ∃ (kq : Nat) (x7_3 : Bool), v7 = .bool x7_3 ∧ Aside0 (leb_Fits.j0 kq a0 a1 a2 x7_3 = some r) ∧ Aside0 (kq ≤ k) ∧ Drawn0 w wc)
 case first =>
  have H := HC4.out
  clear HC4
  by_cases c5 : a1 < 1
  ·
   rw [if_pos c5] at H
   have c5b0 : decide (a1 < 1) = true := decide_eq_true c5
   clear c5
   (first | rw [c5b0] | (simp only [i64_w, i32_w]; rw [c5b0]) | skip)
   have H' := am H
   clear H
   go_wp2
   go_meet
   case rel => exact ⟨_, (true), (by first | rfl | (simp; done) | (simp [*]; done)), H', ⟨by first | omega | exact Nat.le_refl _⟩, by repeat (first | exact Drawn0.refl _ | apply Drawn0.step)⟩
  rw [if_neg c5] at H
  have c5b0 : decide (a1 < 1) = false := decide_eq_false c5
  clear c5
  (first | rw [c5b0] | (simp only [i64_w, i32_w]; rw [c5b0]) | skip)
  have H' := am H
  clear H
  go_wp2
  go_meet
  case rel => exact ⟨_, (decide (a1 > 64)), (by first | rfl | (simp; done) | (simp [*]; done)), H', ⟨by first | omega | exact Nat.le_refl _⟩, by repeat (first | exact Drawn0.refl _ | apply Drawn0.step)⟩
 case rest =>
  clear HC4
  try clear p2
  try clear c3
  try clear c5
  try clear c5b0
  obtain ⟨kq, x7_3, rfl, HA, HJ3, ⟨mc3, rfl⟩⟩ := hcut
  cases kq with
  | zero => exact absurd HA.out (by simp [leb_Fits.j0])
  | succ kj3 =>
   have H := HA.out
   clear HA
   simp only [leb_Fits.j0] at H
   by_cases c6 : x7_3 = true
   ·
    subst c6
    replace H : (some false) = some r := by rw [if_pos rfl] at H; exact H
    obtain rfl := Option.some.inj H
    go_wp2
    go_ret
    exact ⟨by first | rfl | (simp; done) | (simp [*]; done), by repeat (first | exact Drawn0.refl _ | apply Drawn0.step)⟩
   replace c6 := Bool.eq_false_iff.mpr c6
   subst c6
   replace H : (if a2 = true then (if a1 = 64 then (some true) else (if 0 ≤ (wrap64 (a1 - 1)) then (if a0 ≥ (shl .i64 (-1) (wrap64 (a1 - 1))) then (some (decide (a0 < (shl .i64 1 (wrap64 (a1 - 1)))))) else (some false)) else (none))) else (if a0 < 0 then (some false) else (if a1 ≥ 63 then (some true) else (if 0 ≤ a1 then (some (decide (a0 < (shl .i64 1 a1)))) else (none))))) = some r := by rw [if_neg (show ¬ (false = true) by decide)] at H; exact H
   by_cases c7 : a2 = true
   rotate_left
   ·
    replace c7 := Bool.eq_false_iff.mpr c7
    subst c7
    replace H : (if a0 < 0 then (some false) else (if a1 ≥ 63 then (some true) else (if 0 ≤ a1 then (some (decide (a0 < (shl .i64 1 a1)))) else (none)))) = some r := by rw [if_neg (show ¬ (false = true) by decide)] at H; exact H
    by_cases c15 : a0 < 0
    ·
     rw [if_pos c15] at H
     have c15b0 : decide (a0 < 0) = true := decide_eq_true c15
     clear c15
     obtain rfl := Option.some.inj H
     go_wp2
     go_ret
     exact ⟨by first | rfl | (simp; done) | (simp [*]; done), by repeat (first | exact Drawn0.refl _ | apply Drawn0.step)⟩
    rw [if_neg c15] at H
    have c15b0 : decide (a0 < 0) = false := decide_eq_false c15
    clear c15
    by_cases c16 : a1 ≥ 63
    ·
     rw [if_pos c16] at H
     have c16b0 : decide (63 ≤ a1) = true := decide_eq_true c16
     clear c16
     obtain rfl := Option.some.inj H
     go_wp2
     go_ret
     exact ⟨by first | rfl | (simp; done) | (simp [*]; done), by repeat (first | exact Drawn0.refl _ | apply Drawn0.step)⟩
    rw [if_neg c16] at H
    have c16b0 : decide (63 ≤ a1) = false := decide_eq_false c16
    clear c16
    by_cases c17 : 0 ≤ a1
    rotate_left
    ·
     rw [if_neg c17] at H
     exact absurd H (by simp)
    rw [if_pos c17] at H
    have c17b0 := eq_true c17
    have c17b1 : decide (0 ≤ a1) = true := decide_eq_true c17
    clear c17
    obtain ⟨ji18, hji18⟩ : ∃ j_ : Int, (shl .i64 1 a1) = j_ := ⟨_, rfl⟩
    replace H : (some (decide (a0 < (ji18)))) = some r := by first | (rw [hji18] at H; exact H) | (simp only [hji18] at H ⊢; exact H)
    have hji18_ : (IntKind.i64.wrap (1 * 2 ^ min a1.toNat 64)) = ji18 := hji18
    have hji18z : a1 ≤ 64 → (IntKind.i64.wrap (1 * 2 ^ a1.toNat)) = ji18 := shl_small hji18
    have hji18u : (IntKind.i64.wrap (2 ^ min a1.toNat 64)) = ji18 := by have h_ := hji18_; rw [Int.one_mul] at h_; exact h_
    have hji18v : a1 ≤ 64 → (IntKind.i64.wrap (2 ^ a1.toNat)) = ji18 := fun hle_ => by have h_ := hji18z hle_; rw [Int.one_mul] at h_; exact h_
    have hji18y : (wrap64 (1 * 2 ^ min a1.toNat 64)) = ji18 := (i64_w _).symm.trans hji18_
    have hji18x : a1 ≤ 64 → (wrap64 (1 * 2 ^ a1.toNat)) = ji18 := fun h_ => (i64_w _).symm.trans (hji18z h_)
    obtain rfl := Option.some.inj H
    go_wp2
    go_ret
    exact ⟨by first | rfl | (simp; done) | (simp only [← hji18] <;> (first | rfl | simp)) | (simp [*]; done), by repeat (first | exact Drawn0.refl _ | apply Drawn0.step)⟩
   subst c7
   replace H : (if a1 = 64 then (some true) else (if 0 ≤ (wrap64 (a1 - 1)) then (if a0 ≥ (shl .i64 (-1) (wrap64 (a1 - 1))) then (some (decide (a0 < (shl .i64 1 (wrap64 (a1 - 1)))))) else (some false)) else (none))) = some r := by rw [if_pos rfl] at H; exact H
   by_cases c8 : a1 = 64
   ·
    rw [if_pos c8] at H
    have c8b0 : (a1 == 64) = true := beq_iff_eq.mpr c8
    have c8b1 : (a1 != 64) = false := bne_eq_false_iff_eq.mpr c8
    clear c8
    obtain rfl := Option.some.inj H
    go_wp2
    go_ret
    exact ⟨by first | rfl | (simp; done) | (simp [*]; done), by repeat (first | exact Drawn0.refl _ | apply Drawn0.step)⟩
   rw [if_neg c8] at H
   have c8b0 : (a1 == 64) = false := beq_eq_false_iff_ne.mpr c8
   have c8b1 : (a1 != 64) = true := bne_iff_ne.mpr c8
   obtain ⟨ji9, hji9⟩ : ∃ j_ : Int, (wrap64 (a1 - 1)) = j_ := ⟨_, rfl⟩
   replace H : (if 0 ≤ (ji9) then (if a0 ≥ (shl .i64 (-1) (ji9)) then (some (decide (a0 < (shl .i64 1 (ji9))))) else (some false)) else (none)) = some r := by first | (rw [hji9] at H; exact H) | (simp only [hji9] at H ⊢; exact H)
   have hji9w : (IntKind.i64.wrap (a1 - 1)) = ji9 := (i64_w _).trans hji9
   by_cases c10 : 0 ≤ (ji9)
   rotate_left
   ·
    rw [if_neg c10] at H
    exact absurd H (by simp)
   rw [if_pos c10] at H
   have c10b0 := eq_true c10
   have c10b1 : decide (0 ≤ (ji9)) = true := decide_eq_true c10
   clear c10
   obtain ⟨ji11, hji11⟩ : ∃ j_ : Int, (shl .i64 (-1) (ji9)) = j_ := ⟨_, rfl⟩
   replace H : (if a0 ≥ (ji11) then (some (decide (a0 < (shl .i64 1 (ji9))))) else (some false)) = some r := by first | (rw [hji11] at H; exact H) | (simp only [hji11] at H ⊢; exact H)
   have hji11_ : (IntKind.i64.wrap ((-1) * 2 ^ min (ji9).toNat 64)) = ji11 := hji11
   have hji11z : (ji9) ≤ 64 → (IntKind.i64.wrap ((-1) * 2 ^ (ji9).toNat)) = ji11 := shl_small hji11
   (try (have hji11n : (IntKind.i64.wrap (-2 ^ min (ji9).toNat 64)) = ji11 := (congrArg IntKind.i64.wrap (Int.neg_one_mul _).symm).trans hji11_))
   (try (have hji11m : (ji9) ≤ 64 → (IntKind.i64.wrap (-2 ^ (ji9).toNat)) = ji11 := fun hle_ => (congrArg IntKind.i64.wrap (Int.neg_one_mul _).symm).trans (hji11z hle_)))
   (try (have hji11ny : (wrap64 (-2 ^ min (ji9).toNat 64)) = ji11 := (i64_w _).symm.trans hji11n))
   (try (have hji11my : (ji9) ≤ 64 → (wrap64 (-2 ^ (ji9).toNat)) = ji11 := fun h_ => (i64_w _).symm.trans (hji11m h_)))
   have hji11y : (wrap64 ((-1) * 2 ^ min (ji9).toNat 64)) = ji11 := (i64_w _).symm.trans hji11_
   have hji11x : (ji9) ≤ 64 → (wrap64 ((-1) * 2 ^ (ji9).toNat)) = ji11 := fun h_ => (i64_w _).symm.trans (hji11z h_)
   by_cases c12 : a0 ≥ (ji11)
   rotate_left
   ·
    rw [if_neg c12] at H
    have c12b0 : decide ((ji11) ≤ a0) = false := decide_eq_false c12
    clear c12
    obtain rfl := Option.some.inj H
    go_wp2
    go_ret
    exact ⟨by first | rfl | (simp; done) | (simp only [← hji9, ← hji11] <;> (first | rfl | simp)) | (simp [*]; done), by repeat (first | exact Drawn0.refl _ | apply Drawn0.step)⟩
   rw [if_pos c12] at H
   have c12b0 : decide ((ji11) ≤ a0) = true := decide_eq_true c12
   clear c12
   have c13b0 := eq_true (od : 0 ≤ (ji9))
   obtain ⟨ji14, hji14⟩ : ∃ j_ : Int, (shl .i64 1 (ji9)) = j_ := ⟨_, rfl⟩
   replace H : (some (decide (a0 < (ji14)))) = some r := by first | (rw [hji14] at H; exact H) | (simp only [hji14] at H ⊢; exact H)
   have hji14_ : (IntKind.i64.wrap (1 * 2 ^ min (ji9).toNat 64)) = ji14 := hji14
   have hji14z : (ji9) ≤ 64 → (IntKind.i64.wrap (1 * 2 ^ (ji9).toNat)) = ji14 := shl_small hji14
   have hji14u : (IntKind.i64.wrap (2 ^ min (ji9).toNat 64)) = ji14 := by have h_ := hji14_; rw [Int.one_mul] at h_; exact h_
   have hji14v : (ji9) ≤ 64 → (IntKind.i64.wrap (2 ^ (ji9).toNat)) = ji14 := fun hle_ => by have h_ := hji14z hle_; rw [Int.one_mul] at h_; exact h_
   have hji14y : (wrap64 (1 * 2 ^ min (ji9).toNat 64)) = ji14 := (i64_w _).symm.trans hji14_
   have hji14x : (ji9) ≤ 64 → (wrap64 (1 * 2 ^ (ji9).toNat)) = ji14 := fun h_ => (i64_w _).symm.trans (hji14z h_)
   obtain rfl := Option.some.inj H
   go_wp2
   go_ret
   exact ⟨by first | rfl | (simp; done) | (simp only [← hji9, ← hji11, ← hji14] <;> (first | rfl | simp)) | (simp [*]; done), by repeat (first | exact Drawn0.refl _ | apply Drawn0.step)⟩
def leb_sized.f (a0 : Int) : Option (Bool) := if a0 = 1 then (some true) else (if a0 = 2 then (some true) else (if a0 = 4 then (some true) else (some (a0 == 8))))
set_option maxHeartbeats 8000000 in
theorem leb_sized.calls (a0 : Int) (r : Bool) (w : World) (h : leb_sized.f a0 = some r) :
    Calls Try.prog 66 #[.int .i64 a0] w fun e w' => e = .returned (.bool r) ∧ Drawn0 w w' := by
 have H : (if a0 = 1 then (some true) else (if a0 = 2 then (some true) else (if a0 = 4 then (some true) else (some (a0 == 8))))) = some r := h
 clear h
 by_cases c2 : a0 = 1
 ·
  rw [if_pos c2] at H
  have c2b0 : (a0 == 1) = true := beq_iff_eq.mpr c2
  have c2b1 : (a0 != 1) = false := bne_eq_false_iff_eq.mpr c2
  clear c2
  obtain rfl := Option.some.inj H
  go_enter Try.func66, Try.ntmps66
  go_wp2
  go_ret
  exact ⟨by first | rfl | (simp; done) | (simp [*]; done), by repeat (first | exact Drawn0.refl _ | apply Drawn0.step)⟩
 rw [if_neg c2] at H
 have c2b0 : (a0 == 1) = false := beq_eq_false_iff_ne.mpr c2
 have c2b1 : (a0 != 1) = true := bne_iff_ne.mpr c2
 by_cases c3 : a0 = 2
 ·
  rw [if_pos c3] at H
  have c3b0 : (a0 == 2) = true := beq_iff_eq.mpr c3
  have c3b1 : (a0 != 2) = false := bne_eq_false_iff_eq.mpr c3
  clear c3
  obtain rfl := Option.some.inj H
  go_enter Try.func66, Try.ntmps66
  go_wp2
  go_ret
  exact ⟨by first | rfl | (simp; done) | (simp [*]; done), by repeat (first | exact Drawn0.refl _ | apply Drawn0.step)⟩
 rw [if_neg c3] at H
 have c3b0 : (a0 == 2) = false := beq_eq_false_iff_ne.mpr c3
 have c3b1 : (a0 != 2) = true := bne_iff_ne.mpr c3
 by_cases c4 : a0 = 4
 ·
  rw [if_pos c4] at H
  have c4b0 : (a0 == 4) = true := beq_iff_eq.mpr c4
  have c4b1 : (a0 != 4) = false := bne_eq_false_iff_eq.mpr c4
  clear c4
  obtain rfl := Option.some.inj H
  go_enter Try.func66, Try.ntmps66
  go_wp2
  go_ret
  exact ⟨by first | rfl | (simp; done) | (simp [*]; done), by repeat (first | exact Drawn0.refl _ | apply Drawn0.step)⟩
 rw [if_neg c4] at H
 have c4b0 : (a0 == 4) = false := beq_eq_false_iff_ne.mpr c4
 have c4b1 : (a0 != 4) = true := bne_iff_ne.mpr c4
 obtain rfl := Option.some.inj H
 go_enter Try.func66, Try.ntmps66
 go_wp2
 go_ret
 exact ⟨by first | rfl | (simp; done) | (simp [*]; done), by repeat (first | exact Drawn0.refl _ | apply Drawn0.step)⟩
def leb_low_uint64.l0 : Nat → Int → List Int → Int → Int → Option (List Int)
  | 0, _, _, _, _ => none
  | k + 1, x0, x5, x7, x8 => if x8 < x7 then (if 0 ≤ (wrap64 (8 * x8)) then (if x5.length < 140737488355328 then (leb_low_uint64.l0 k x0 (x5 ++ [(shr .u64 x0 (wrap64 (8 * x8))) % 256]) x7 (wrap64 (x8 + 1))) else (none)) else (none)) else (some x5)
def leb_low_uint64.f (k : Nat) (a0 : Int) (a1 : Int) : Option (List Int) := leb_low_uint64.l0 k a0 ([] : List Int) a1 0
theorem leb_low_uint64.mono_l : ∀ k, (∀ y0 y1 y2 y3, LeO (leb_low_uint64.l0 k y0 y1 y2 y3) (leb_low_uint64.l0 (k + 1) y0 y1 y2 y3))
  | 0 => fun _ _ _ _ r h => by simp [leb_low_uint64.l0] at h
  | k + 1 => by
    have ih0 := leb_low_uint64.mono_l k
    · intro y0 y1 y2 y3
      unfold leb_low_uint64.l0
      repeat' first
      | (with_reducible exact ih0 _ _ _ _)
      | (with_reducible exact LeO.refl _)
      | (with_reducible exact LeO.none _)
      | (with_reducible refine LeO.ite ?_ ?_)
      | (with_reducible refine LeO.bind ?_ (fun _ => ?_))
      | exact ih0 _ _ _ _
      | exact LeO.none _
      | refine LeO.ite ?_ ?_
      | refine LeO.bind ?_ (fun _ => ?_)
theorem leb_low_uint64.mono : ∀ a0 a1 k, LeO (leb_low_uint64.f k a0 a1) (leb_low_uint64.f (k + 1) a0 a1) := by
 intro a0 a1 k
 have ih0 := leb_low_uint64.mono_l k
 unfold leb_low_uint64.f
 repeat' first
     | (with_reducible exact ih0 _ _ _ _)
     | (with_reducible exact LeO.refl _)
     | (with_reducible exact LeO.none _)
     | (with_reducible refine LeO.ite ?_ ?_)
     | (with_reducible refine LeO.bind ?_ (fun _ => ?_))
     | exact ih0 _ _ _ _
     | exact LeO.none _
     | refine LeO.ite ?_ ?_
     | refine LeO.bind ?_ (fun _ => ?_)
set_option maxHeartbeats 8000000 in
theorem leb_low_uint64.calls (k : Nat) (a0 : Int) (a1 : Int) (r : List Int) (w : World) (h : leb_low_uint64.f k a0 a1 = some r) :
    Calls Try.prog 67 #[.int .u64 a0, .int .i64 a1] w fun e w' => ∃ v0_ : Value, e = .returned (v0_) ∧ Kd.R (Kd.int .u8) 5 w' w.heap.size (fun _ => True) v0_ r ∧ Below w.heap.size w w' := by
 have HB := am (Below.refl w.heap.size w)
 have H : (leb_low_uint64.l0 k a0 ([] : List Int) a1 0) = some r := h
 clear h
 have H' := am H
 clear H
 go_enter Try.func67, Try.ntmps67
 go_wp2
 go_loopg [5, 8] k (fun kq v5 v8 w' => ∃ (x5_1 : List Int) (x8_1 : Int), v8 = .int .i64 x8_1 ∧ Aside0 (leb_low_uint64.l0 kq a0 x5_1 a1 x8_1 = some r) ∧ Aside0 (kq ≤ k) ∧ Aside0 (Kd.R (Kd.int .u8) 5 w' w.heap.size (fun _ => True) v5 x5_1) ∧ Aside0 (Below w.heap.size w w'))
 case atStart => exact ⟨(([] : List Int)), (0), (by first | rfl | (simp; done) | (simp [*]; done)), H', ⟨Nat.le_refl _⟩, ⟨by first | exact Kd.R_nil _ _ _ _ _ | exact Kd.N_nil _ _ _ _ _⟩, ⟨by exact bl_g HB.out⟩⟩
 case round =>
  clear H'
  try clear p2
  obtain ⟨x5_1, x8_1, rfl, HA, HK1, HO_5, HB⟩ := hrel
  cases gk with
  | zero => exact absurd HA.out (by simp [leb_low_uint64.l0])
  | succ k1 =>
   have H := HA.out
   clear HA
   simp only [leb_low_uint64.l0] at H
   by_cases c3 : x8_1 < a1
   rotate_left
   ·
    rw [if_neg c3] at H
    have c3b0 : decide (x8_1 < a1) = false := decide_eq_false c3
    clear c3
    obtain rfl := Option.some.inj H
    go_wp2
    go_ret
    exact ⟨_, rfl, by (with_reducible repeat (first | apply Kd.R_alloc | apply Kd.R_drewN | apply Kd.R_drew)); exact HO_5.out, by exact bl_g HB.out⟩
   rw [if_pos c3] at H
   have c3b0 : decide (x8_1 < a1) = true := decide_eq_true c3
   clear c3
   obtain ⟨ji4, hji4⟩ : ∃ j_ : Int, (wrap64 (8 * x8_1)) = j_ := ⟨_, rfl⟩
   replace H : (if 0 ≤ (ji4) then (if x5_1.length < 140737488355328 then (leb_low_uint64.l0 k1 a0 (x5_1 ++ [(shr .u64 a0 (ji4)) % 256]) a1 (wrap64 (x8_1 + 1))) else (none)) else (none)) = some r := by first | (rw [hji4] at H; exact H) | (simp only [hji4] at H ⊢; exact H)
   have hji4w : (IntKind.i64.wrap (8 * x8_1)) = ji4 := (i64_w _).trans hji4
   by_cases c5 : 0 ≤ (ji4)
   rotate_left
   ·
    rw [if_neg c5] at H
    exact absurd H (by simp)
   rw [if_pos c5] at H
   have c5b0 := eq_true c5
   have c5b1 : decide (0 ≤ (ji4)) = true := decide_eq_true c5
   clear c5
   obtain ⟨ji6, hji6⟩ : ∃ j_ : Int, (shr .u64 a0 (ji4)) = j_ := ⟨_, rfl⟩
   replace H : (if x5_1.length < 140737488355328 then (leb_low_uint64.l0 k1 a0 (x5_1 ++ [(ji6) % 256]) a1 (wrap64 (x8_1 + 1))) else (none)) = some r := by first | (rw [hji6] at H; exact H) | (simp only [hji6] at H ⊢; exact H)
   have hji6_ : (a0 / 2 ^ min (ji4).toNat 64) = ji6 := hji6
   have hji6z : (ji4) ≤ 64 → (a0 / 2 ^ (ji4).toNat) = ji6 := shr_small hji6
   by_cases c7 : x5_1.length < 140737488355328
   rotate_left
   ·
    rw [if_neg c7] at H
    exact absurd H (by simp)
   rw [if_pos c7] at H
   have LMc7 := am c7
   clear c7
   obtain ⟨y101, hy101⟩ : ∃ y_ : List Int, y_ = (x5_1 ++ [(ji6) % 256]) := ⟨_, rfl⟩
   replace H : (leb_low_uint64.l0 k1 a0 y101 a1 (wrap64 (x8_1 + 1))) = some r := by first | (rw [hy101]; with_reducible exact H) | (have H2_ := (Option.bind_some _ _).symm.trans H; rw [hy101]; with_reducible exact H2_)
   have Ny101 := am hy101
   clear hy101
   have H' := am H
   clear H
   go_wp2_with (first | ((with_reducible refine gate_builtin (b := .append) (xs := #[.tmp 11, .tmp 17]) rfl ?_); at_builtin; refine Kd.R_append (Kd.int .u8) (w0 := w) w.heap.size rfl (.tmp 11) (.tmp 17) 28 5 (.int .u8 0) 1 rfl Try.underlying28 info5 rfl (by decide) (by omega) u5 x5_1 ((ji6) % 256) [.int .u8 ((ji6) % 256)] (fun _ => True) (fun _ => False) rfl rfl ?aP (fun _ hk => hk.elim) ?aF ?aO ?aB ?aS ?aL ?_; (case aP => exact rfl); (case aB => exact (by exact bl_o HB.out)); (case aF => exact (fun _ _ => trivial)); (case aO => exact (Kd.R_o HO_5.out)); (case aS => exact (below_size (by exact bl_o HB.out))); (case aL => have := LMc7.out; omega); intro v102 w8 ho hb hg hat; rw [← Ny101.out] at ho; refine mv2 (am (hb)) (am (ho)) ?_; clear HB HO_5; intro HB HO103; clear ho hb hg hat))
   go_roundg k1
   case measure => have := HK1.out; omega
   case rel => exact ⟨(y101), (wrap64 (x8_1 + 1)), (by first | rfl | (simp; done) | (simp [*]; done)), H', ⟨by have := HK1.out; omega⟩, ⟨by (with_reducible repeat (first | apply Kd.R_alloc | apply Kd.R_drewN | apply Kd.R_drew)); exact HO103.out⟩, ⟨by exact bl_g HB.out⟩⟩
def leb_Put.f (k : Nat) (a0 : Int) (a1 : Int) : Option (List Int × Int) := (leb_sized.f a1).bind fun t101 => (if t101 = true then (if a1 < 8 then (if 0 ≤ (wrap64 ((wrap64 (8 * a1)) - 1)) then (if a0 < (shl .i64 (-1) (wrap64 ((wrap64 (8 * a1)) - 1))) then (some (([] : List Int), 11)) else (if 0 ≤ (wrap64 (8 * a1)) then (if a0 ≥ (shl .i64 1 (wrap64 (8 * a1))) then (some (([] : List Int), 11)) else ((leb_low_uint64.f k (IntKind.u64.wrap (a0)) a1).bind fun t102 => (some (t102, 0)))) else (none))) else (none)) else ((leb_low_uint64.f k (IntKind.u64.wrap (a0)) a1).bind fun t105 => (some (t105, 0)))) else (some (([] : List Int), 1)))
theorem leb_Put.mono : ∀ a0 a1 k, LeO (leb_Put.f k a0 a1) (leb_Put.f (k + 1) a0 a1) := by
 intro a0 a1 k
 unfold leb_Put.f
 repeat' first
     | (with_reducible exact leb_low_uint64.mono _ _ _)
     | (with_reducible exact LeO.refl _)
     | (with_reducible exact LeO.none _)
     | (with_reducible refine LeO.ite ?_ ?_)
     | (with_reducible refine LeO.bind ?_ (fun _ => ?_))
     | exact leb_low_uint64.mono _ _ _
     | exact LeO.none _
     | refine LeO.ite ?_ ?_
     | refine LeO.bind ?_ (fun _ => ?_)
set_option maxHeartbeats 8000000 in
theorem leb_Put.calls (k : Nat) (a0 : Int) (a1 : Int) (r1 : List Int) (r2 : Int) (w : World) (h : leb_Put.f k a0 a1 = some (r1, r2)) :
    Calls Try.prog 40 #[.int .i64 a0, .int .i64 a1] w fun e w' => ∃ v0_ : Value, e = .returned (.tuple #[v0_, .int .i64 r2]) ∧ Kd.R (Kd.int .u8) 5 w' w.heap.size (fun _ => True) v0_ r1 ∧ Below w.heap.size w w' := by
 have HB := am (Below.refl w.heap.size w)
 have H : ((leb_sized.f a1).bind fun t101 => (if t101 = true then (if a1 < 8 then (if 0 ≤ (wrap64 ((wrap64 (8 * a1)) - 1)) then (if a0 < (shl .i64 (-1) (wrap64 ((wrap64 (8 * a1)) - 1))) then (some (([] : List Int), 11)) else (if 0 ≤ (wrap64 (8 * a1)) then (if a0 ≥ (shl .i64 1 (wrap64 (8 * a1))) then (some (([] : List Int), 11)) else ((leb_low_uint64.f k (IntKind.u64.wrap (a0)) a1).bind fun t102 => (some (t102, 0)))) else (none))) else (none)) else ((leb_low_uint64.f k (IntKind.u64.wrap (a0)) a1).bind fun t105 => (some (t105, 0)))) else (some (([] : List Int), 1)))) = some (r1, r2) := h
 clear h
 replace H := Option.bind_eq_some_iff.mp H
 obtain ⟨t101, A30, H⟩ := H
 replace H : (if t101 = true then (if a1 < 8 then (if 0 ≤ (wrap64 ((wrap64 (8 * a1)) - 1)) then (if a0 < (shl .i64 (-1) (wrap64 ((wrap64 (8 * a1)) - 1))) then (some (([] : List Int), 11)) else (if 0 ≤ (wrap64 (8 * a1)) then (if a0 ≥ (shl .i64 1 (wrap64 (8 * a1))) then (some (([] : List Int), 11)) else ((leb_low_uint64.f k (IntKind.u64.wrap (a0)) a1).bind fun t102 => (some (t102, 0)))) else (none))) else (none)) else ((leb_low_uint64.f k (IntKind.u64.wrap (a0)) a1).bind fun t105 => (some (t105, 0)))) else (some (([] : List Int), 1))) = some (r1, r2) := H
 have A3 := am A30
 clear A30
 by_cases c4 : t101 = true
 rotate_left
 ·
  replace c4 := Bool.eq_false_iff.mpr c4
  subst c4
  replace H : (some (([] : List Int), 1)) = some (r1, r2) := by rw [if_neg (show ¬ (false = true) by decide)] at H; exact H
  simp only [Option.some.injEq, Prod.mk.injEq] at H
  obtain ⟨rfl, rfl⟩ := H
  go_enter Try.func40, Try.ntmps40
  go_wp2_with (first | ((with_reducible refine gate_callee (f := 66) rfl ?_); refine goesL_ (some 8) rfl rfl Try.func66 (by kernel_rfl) rfl #[.int .i64 a1] rfl (by simp only [ml]; try rfl) ?_; (with_reducible refine (leb_sized.calls a1 false _ A3.out).mono ?_); rintro e w' ⟨rfl, ⟨nd, rfl⟩⟩; refine ⟨_, rfl, ?_⟩))
  go_ret2
  exact ⟨_, rfl, by first | exact Kd.R_nil _ _ _ _ _ | exact Kd.N_nil _ _ _ _ _, by exact bl_g HB.out⟩
 subst c4
 replace H : (if a1 < 8 then (if 0 ≤ (wrap64 ((wrap64 (8 * a1)) - 1)) then (if a0 < (shl .i64 (-1) (wrap64 ((wrap64 (8 * a1)) - 1))) then (some (([] : List Int), 11)) else (if 0 ≤ (wrap64 (8 * a1)) then (if a0 ≥ (shl .i64 1 (wrap64 (8 * a1))) then (some (([] : List Int), 11)) else ((leb_low_uint64.f k (IntKind.u64.wrap (a0)) a1).bind fun t102 => (some (t102, 0)))) else (none))) else (none)) else ((leb_low_uint64.f k (IntKind.u64.wrap (a0)) a1).bind fun t105 => (some (t105, 0)))) = some (r1, r2) := by rw [if_pos rfl] at H; exact H
 by_cases c5 : a1 < 8
 rotate_left
 ·
  rw [if_neg c5] at H
  have c5b0 : decide (a1 < 8) = false := decide_eq_false c5
  clear c5
  replace H := Option.bind_eq_some_iff.mp H
  obtain ⟨t105, A160, H⟩ := H
  replace H : (some (t105, 0)) = some (r1, r2) := H
  have A16 := am A160
  clear A160
  simp only [Option.some.injEq, Prod.mk.injEq] at H
  obtain ⟨rfl, rfl⟩ := H
  go_enter Try.func40, Try.ntmps40
  go_wp2_with (first | ((with_reducible refine gate_callee (f := 66) rfl ?_); refine goesL_ (some 8) rfl rfl Try.func66 (by kernel_rfl) rfl #[.int .i64 a1] rfl (by simp only [ml]; try rfl) ?_; (with_reducible refine (leb_sized.calls a1 true _ A3.out).mono ?_); rintro e w' ⟨rfl, ⟨nd, rfl⟩⟩; refine ⟨_, rfl, ?_⟩) | ((with_reducible refine gate_callee (f := 67) rfl ?_); refine goesL_ (some 31) rfl rfl Try.func67 (by kernel_rfl) rfl #[.int .u64 (IntKind.u64.wrap (a0)), .int .i64 a1] rfl (by simp only [ml]; try rfl) ?_; (with_reducible refine (leb_low_uint64.calls k (IntKind.u64.wrap (a0)) a1 t105 _ A16.out).mono ?_); rintro e w17 ⟨v106, rfl, ho0, hb⟩; refine ⟨_, rfl, ?_⟩; refine mv2 (am (Kd.R_lower ho0 (below_size (by exact bl_o HB.out)))) (am (below_step (by exact bl_o HB.out) hb)) ?_; clear HB; intro HO107 HB))
  go_ret2
  exact ⟨_, rfl, by (with_reducible repeat (first | apply Kd.R_alloc | apply Kd.R_drewN | apply Kd.R_drew)); exact HO107.out, by exact bl_g HB.out⟩
 rw [if_pos c5] at H
 have c5b0 : decide (a1 < 8) = true := decide_eq_true c5
 clear c5
 obtain ⟨ji6, hji6⟩ : ∃ j_ : Int, (wrap64 ((wrap64 (8 * a1)) - 1)) = j_ := ⟨_, rfl⟩
 replace H : (if 0 ≤ (ji6) then (if a0 < (shl .i64 (-1) (ji6)) then (some (([] : List Int), 11)) else (if 0 ≤ (wrap64 (8 * a1)) then (if a0 ≥ (shl .i64 1 (wrap64 (8 * a1))) then (some (([] : List Int), 11)) else ((leb_low_uint64.f k (IntKind.u64.wrap (a0)) a1).bind fun t102 => (some (t102, 0)))) else (none))) else (none)) = some (r1, r2) := by first | (rw [hji6] at H; exact H) | (simp only [hji6] at H ⊢; exact H)
 (try rw [hji6] at A3)
 have hji6w : (IntKind.i64.wrap ((wrap64 (8 * a1)) - 1)) = ji6 := (i64_w _).trans hji6
 by_cases c7 : 0 ≤ (ji6)
 rotate_left
 ·
  rw [if_neg c7] at H
  exact absurd H (by simp)
 rw [if_pos c7] at H
 have c7b0 := eq_true c7
 have c7b1 : decide (0 ≤ (ji6)) = true := decide_eq_true c7
 clear c7
 obtain ⟨ji8, hji8⟩ : ∃ j_ : Int, (shl .i64 (-1) (ji6)) = j_ := ⟨_, rfl⟩
 replace H : (if a0 < (ji8) then (some (([] : List Int), 11)) else (if 0 ≤ (wrap64 (8 * a1)) then (if a0 ≥ (shl .i64 1 (wrap64 (8 * a1))) then (some (([] : List Int), 11)) else ((leb_low_uint64.f k (IntKind.u64.wrap (a0)) a1).bind fun t102 => (some (t102, 0)))) else (none))) = some (r1, r2) := by first | (rw [hji8] at H; exact H) | (simp only [hji8] at H ⊢; exact H)
 (try rw [hji8] at A3)
 have hji8_ : (IntKind.i64.wrap ((-1) * 2 ^ min (ji6).toNat 64)) = ji8 := hji8
 have hji8z : (ji6) ≤ 64 → (IntKind.i64.wrap ((-1) * 2 ^ (ji6).toNat)) = ji8 := shl_small hji8
 (try (have hji8n : (IntKind.i64.wrap (-2 ^ min (ji6).toNat 64)) = ji8 := (congrArg IntKind.i64.wrap (Int.neg_one_mul _).symm).trans hji8_))
 (try (have hji8m : (ji6) ≤ 64 → (IntKind.i64.wrap (-2 ^ (ji6).toNat)) = ji8 := fun hle_ => (congrArg IntKind.i64.wrap (Int.neg_one_mul _).symm).trans (hji8z hle_)))
 (try (have hji8ny : (wrap64 (-2 ^ min (ji6).toNat 64)) = ji8 := (i64_w _).symm.trans hji8n))
 (try (have hji8my : (ji6) ≤ 64 → (wrap64 (-2 ^ (ji6).toNat)) = ji8 := fun h_ => (i64_w _).symm.trans (hji8m h_)))
 have hji8y : (wrap64 ((-1) * 2 ^ min (ji6).toNat 64)) = ji8 := (i64_w _).symm.trans hji8_
 have hji8x : (ji6) ≤ 64 → (wrap64 ((-1) * 2 ^ (ji6).toNat)) = ji8 := fun h_ => (i64_w _).symm.trans (hji8z h_)
 by_cases c9 : a0 < (ji8)
 ·
  rw [if_pos c9] at H
  have c9b0 : decide (a0 < (ji8)) = true := decide_eq_true c9
  clear c9
  simp only [Option.some.injEq, Prod.mk.injEq] at H
  obtain ⟨rfl, rfl⟩ := H
  go_enter Try.func40, Try.ntmps40
  go_wp2_with (first | ((with_reducible refine gate_callee (f := 66) rfl ?_); refine goesL_ (some 8) rfl rfl Try.func66 (by kernel_rfl) rfl #[.int .i64 a1] rfl (by simp only [ml]; try rfl) ?_; (with_reducible refine (leb_sized.calls a1 true _ A3.out).mono ?_); rintro e w' ⟨rfl, ⟨nd, rfl⟩⟩; refine ⟨_, rfl, ?_⟩))
  go_ret2
  exact ⟨_, by first | rfl | (simp [errW_none, errW_some] <;> rfl) | (simp only [← hji6, ← hji8]; first | rfl | (simp [errW_none, errW_some] <;> rfl)) | (simp [*, errW_none, errW_some] <;> rfl), by first | exact Kd.R_nil _ _ _ _ _ | exact Kd.N_nil _ _ _ _ _, by exact bl_g HB.out⟩
 rw [if_neg c9] at H
 have c9b0 : decide (a0 < (ji8)) = false := decide_eq_false c9
 clear c9
 obtain ⟨ji10, hji10⟩ : ∃ j_ : Int, (wrap64 (8 * a1)) = j_ := ⟨_, rfl⟩
 replace H : (if 0 ≤ (ji10) then (if a0 ≥ (shl .i64 1 (ji10)) then (some (([] : List Int), 11)) else ((leb_low_uint64.f k (IntKind.u64.wrap (a0)) a1).bind fun t102 => (some (t102, 0)))) else (none)) = some (r1, r2) := by first | (rw [hji10] at H; exact H) | (simp only [hji10] at H ⊢; exact H)
 (try rw [hji10] at A3)
 have hji10w : (IntKind.i64.wrap (8 * a1)) = ji10 := (i64_w _).trans hji10
 (try (have hji10ji6 : (wrap64 (ji10 - 1)) = ji6 := by (rw [← hji10]; exact hji6)))
 (try (have hji10ji6w : (IntKind.i64.wrap (ji10 - 1)) = ji6 := (i64_w _).trans hji10ji6))
 by_cases c11 : 0 ≤ (ji10)
 rotate_left
 ·
  rw [if_neg c11] at H
  exact absurd H (by simp)
 rw [if_pos c11] at H
 have c11b0 := eq_true c11
 have c11b1 : decide (0 ≤ (ji10)) = true := decide_eq_true c11
 clear c11
 obtain ⟨ji12, hji12⟩ : ∃ j_ : Int, (shl .i64 1 (ji10)) = j_ := ⟨_, rfl⟩
 replace H : (if a0 ≥ (ji12) then (some (([] : List Int), 11)) else ((leb_low_uint64.f k (IntKind.u64.wrap (a0)) a1).bind fun t102 => (some (t102, 0)))) = some (r1, r2) := by first | (rw [hji12] at H; exact H) | (simp only [hji12] at H ⊢; exact H)
 (try rw [hji12] at A3)
 have hji12_ : (IntKind.i64.wrap (1 * 2 ^ min (ji10).toNat 64)) = ji12 := hji12
 have hji12z : (ji10) ≤ 64 → (IntKind.i64.wrap (1 * 2 ^ (ji10).toNat)) = ji12 := shl_small hji12
 have hji12u : (IntKind.i64.wrap (2 ^ min (ji10).toNat 64)) = ji12 := by have h_ := hji12_; rw [Int.one_mul] at h_; exact h_
 have hji12v : (ji10) ≤ 64 → (IntKind.i64.wrap (2 ^ (ji10).toNat)) = ji12 := fun hle_ => by have h_ := hji12z hle_; rw [Int.one_mul] at h_; exact h_
 have hji12y : (wrap64 (1 * 2 ^ min (ji10).toNat 64)) = ji12 := (i64_w _).symm.trans hji12_
 have hji12x : (ji10) ≤ 64 → (wrap64 (1 * 2 ^ (ji10).toNat)) = ji12 := fun h_ => (i64_w _).symm.trans (hji12z h_)
 by_cases c13 : a0 ≥ (ji12)
 ·
  rw [if_pos c13] at H
  have c13b0 : decide ((ji12) ≤ a0) = true := decide_eq_true c13
  clear c13
  simp only [Option.some.injEq, Prod.mk.injEq] at H
  obtain ⟨rfl, rfl⟩ := H
  go_enter Try.func40, Try.ntmps40
  go_wp2_with (first | ((with_reducible refine gate_callee (f := 66) rfl ?_); refine goesL_ (some 8) rfl rfl Try.func66 (by kernel_rfl) rfl #[.int .i64 a1] rfl (by simp only [ml]; try rfl) ?_; (with_reducible refine (leb_sized.calls a1 true _ A3.out).mono ?_); rintro e w' ⟨rfl, ⟨nd, rfl⟩⟩; refine ⟨_, rfl, ?_⟩))
  go_ret2
  exact ⟨_, by first | rfl | (simp [errW_none, errW_some] <;> rfl) | (simp only [← hji6, ← hji8, ← hji10, ← hji12]; first | rfl | (simp [errW_none, errW_some] <;> rfl)) | (simp [*, errW_none, errW_some] <;> rfl), by first | exact Kd.R_nil _ _ _ _ _ | exact Kd.N_nil _ _ _ _ _, by exact bl_g HB.out⟩
 rw [if_neg c13] at H
 have c13b0 : decide ((ji12) ≤ a0) = false := decide_eq_false c13
 clear c13
 replace H := Option.bind_eq_some_iff.mp H
 obtain ⟨t102, A140, H⟩ := H
 replace H : (some (t102, 0)) = some (r1, r2) := H
 have A14 := am A140
 clear A140
 simp only [Option.some.injEq, Prod.mk.injEq] at H
 obtain ⟨rfl, rfl⟩ := H
 go_enter Try.func40, Try.ntmps40
 go_wp2_with (first | ((with_reducible refine gate_callee (f := 66) rfl ?_); refine goesL_ (some 8) rfl rfl Try.func66 (by kernel_rfl) rfl #[.int .i64 a1] rfl (by simp only [ml]; try rfl) ?_; (with_reducible refine (leb_sized.calls a1 true _ A3.out).mono ?_); rintro e w' ⟨rfl, ⟨nd, rfl⟩⟩; refine ⟨_, rfl, ?_⟩) | ((with_reducible refine gate_callee (f := 67) rfl ?_); refine goesL_ (some 31) rfl rfl Try.func67 (by kernel_rfl) rfl #[.int .u64 (IntKind.u64.wrap (a0)), .int .i64 a1] rfl (by simp only [ml]; try rfl) ?_; (with_reducible refine (leb_low_uint64.calls k (IntKind.u64.wrap (a0)) a1 t102 _ A14.out).mono ?_); rintro e w15 ⟨v103, rfl, ho0, hb⟩; refine ⟨_, rfl, ?_⟩; refine mv2 (am (Kd.R_lower ho0 (below_size (by exact bl_o HB.out)))) (am (below_step (by exact bl_o HB.out) hb)) ?_; clear HB; intro HO104 HB))
 go_ret2
 exact ⟨_, by first | rfl | (simp [errW_none, errW_some] <;> rfl) | (simp only [← hji6, ← hji8, ← hji10, ← hji12]; first | rfl | (simp [errW_none, errW_some] <;> rfl)) | (simp [*, errW_none, errW_some] <;> rfl), by (with_reducible repeat (first | apply Kd.R_alloc | apply Kd.R_drewN | apply Kd.R_drew)); exact HO104.out, by exact bl_g HB.out⟩
mutual
def ehframe_Put.j0 : Nat → Int → Int → Bool → Option (List Int × Int)
  | 0, _, _, _ => none
  | k + 1, x1, x106000, x106001 => (ehframe_near.f k (([x1] : List Int))).bind fun t113 => (if t113 = true then (if x106001 = true then (ehframe_Put.j1 k x1 false x106000 x106001) else (ehframe_Put.j1 k x1 (decide (x1 < 0)) x106000 x106001)) else (ehframe_Put.j1 k x1 true x106000 x106001))
def ehframe_Put.j1 : Nat → Int → Bool → Int → Bool → Option (List Int × Int)
  | 0, _, _, _, _ => none
  | k + 1, x1, x52, x106000, x106001 => if x52 = true then (some (([] : List Int), 11)) else (if x106000 = 0 then (ehframe_Put.j2 k x1 x106001 x106000 x106001) else (ehframe_Put.j2 k x1 false x106000 x106001))
def ehframe_Put.j2 : Nat → Int → Bool → Int → Bool → Option (List Int × Int)
  | 0, _, _, _, _ => none
  | k + 1, x1, x53, x106000, x106001 => if x53 = true then ((leb_Sleb.f k x1).bind fun t114 => (some (t114, 0))) else (if x106000 = 0 then ((leb_Uleb.f k x1).bind fun t117 => (some (t117, 0))) else ((leb_Fits.f k x1 (wrap64 (8 * x106000)) x106001).bind fun t120 => (if t120 = true then ((leb_Put.f k x1 8).bind fun bt121 => (if 0 ≤ x106000 then (if x106000 ≤ (bt121.1.length : Int) then (some ((bt121.1.take (x106000 : Int).toNat), 0)) else (none)) else (none))) else (some (([] : List Int), 11)))))
end
def ehframe_Put.f (k : Nat) (a0 : Int) (a1 : Int) (a2 : Int) (a3 : Int) : Option (List Int × Int) := (ehframe_of.f a0).bind fun bt101 => (if bt101.2.2.2 = true then ((ehframe_near.f k (([a1, a2, a3] : List Int))).bind fun t109 => (if t109 = true then (if bt101.2.2.1 = 16 then (ehframe_Put.j0 k (wrap64 (a1 - a2)) bt101.1 bt101.2.1) else (if bt101.2.2.1 = 48 then (ehframe_Put.j0 k (wrap64 (a1 - a3)) bt101.1 bt101.2.1) else (ehframe_Put.j0 k a1 bt101.1 bt101.2.1))) else (some (([] : List Int), 11)))) else (some (([] : List Int), 140)))
theorem ehframe_Put.mono_l : ∀ k, (∀ y0 y1 y2, LeO (ehframe_Put.j0 k y0 y1 y2) (ehframe_Put.j0 (k + 1) y0 y1 y2)) ∧ (∀ y0 y1 y2 y3, LeO (ehframe_Put.j1 k y0 y1 y2 y3) (ehframe_Put.j1 (k + 1) y0 y1 y2 y3)) ∧ (∀ y0 y1 y2 y3, LeO (ehframe_Put.j2 k y0 y1 y2 y3) (ehframe_Put.j2 (k + 1) y0 y1 y2 y3))
  | 0 => ⟨fun _ _ _ r h => by simp [ehframe_Put.j0] at h, fun _ _ _ _ r h => by simp [ehframe_Put.j1] at h, fun _ _ _ _ r h => by simp [ehframe_Put.j2] at h⟩
  | k + 1 => by
    obtain ⟨ih0, ih1, ih2⟩ := ehframe_Put.mono_l k
    refine ⟨?_, ?_, ?_⟩
    · intro y0 y1 y2
      unfold ehframe_Put.j0
      repeat' first
      | (with_reducible exact ih0 _ _ _)
      | (with_reducible exact ih1 _ _ _ _)
      | (with_reducible exact ih2 _ _ _ _)
      | (with_reducible exact ehframe_near.mono _ _)
      | (with_reducible exact leb_Fits.mono _ _ _ _)
      | (with_reducible exact leb_Put.mono _ _ _)
      | (with_reducible exact leb_Sleb.mono _ _)
      | (with_reducible exact leb_Uleb.mono _ _)
      | (with_reducible exact LeO.refl _)
      | (with_reducible exact LeO.none _)
      | (with_reducible refine LeO.ite ?_ ?_)
      | (with_reducible refine LeO.bind ?_ (fun _ => ?_))
      | exact ih0 _ _ _
      | exact ih1 _ _ _ _
      | exact ih2 _ _ _ _
      | exact ehframe_near.mono _ _
      | exact leb_Fits.mono _ _ _ _
      | exact leb_Put.mono _ _ _
      | exact leb_Sleb.mono _ _
      | exact leb_Uleb.mono _ _
      | exact LeO.none _
      | refine LeO.ite ?_ ?_
      | refine LeO.bind ?_ (fun _ => ?_)
    · intro y0 y1 y2 y3
      unfold ehframe_Put.j1
      repeat' first
      | (with_reducible exact ih0 _ _ _)
      | (with_reducible exact ih1 _ _ _ _)
      | (with_reducible exact ih2 _ _ _ _)
      | (with_reducible exact ehframe_near.mono _ _)
      | (with_reducible exact leb_Fits.mono _ _ _ _)
      | (with_reducible exact leb_Put.mono _ _ _)
      | (with_reducible exact leb_Sleb.mono _ _)
      | (with_reducible exact leb_Uleb.mono _ _)
      | (with_reducible exact LeO.refl _)
      | (with_reducible exact LeO.none _)
      | (with_reducible refine LeO.ite ?_ ?_)
      | (with_reducible refine LeO.bind ?_ (fun _ => ?_))
      | exact ih0 _ _ _
      | exact ih1 _ _ _ _
      | exact ih2 _ _ _ _
      | exact ehframe_near.mono _ _
      | exact leb_Fits.mono _ _ _ _
      | exact leb_Put.mono _ _ _
      | exact leb_Sleb.mono _ _
      | exact leb_Uleb.mono _ _
      | exact LeO.none _
      | refine LeO.ite ?_ ?_
      | refine LeO.bind ?_ (fun _ => ?_)
    · intro y0 y1 y2 y3
      unfold ehframe_Put.j2
      repeat' first
      | (with_reducible exact ih0 _ _ _)
      | (with_reducible exact ih1 _ _ _ _)
      | (with_reducible exact ih2 _ _ _ _)
      | (with_reducible exact ehframe_near.mono _ _)
      | (with_reducible exact leb_Fits.mono _ _ _ _)
      | (with_reducible exact leb_Put.mono _ _ _)
      | (with_reducible exact leb_Sleb.mono _ _)
      | (with_reducible exact leb_Uleb.mono _ _)
      | (with_reducible exact LeO.refl _)
      | (with_reducible exact LeO.none _)
      | (with_reducible refine LeO.ite ?_ ?_)
      | (with_reducible refine LeO.bind ?_ (fun _ => ?_))
      | exact ih0 _ _ _
      | exact ih1 _ _ _ _
      | exact ih2 _ _ _ _
      | exact ehframe_near.mono _ _
      | exact leb_Fits.mono _ _ _ _
      | exact leb_Put.mono _ _ _
      | exact leb_Sleb.mono _ _
      | exact leb_Uleb.mono _ _
      | exact LeO.none _
      | refine LeO.ite ?_ ?_
      | refine LeO.bind ?_ (fun _ => ?_)
theorem ehframe_Put.mono : ∀ a0 a1 a2 a3 k, LeO (ehframe_Put.f k a0 a1 a2 a3) (ehframe_Put.f (k + 1) a0 a1 a2 a3) := by
 intro a0 a1 a2 a3 k
 obtain ⟨ih0, ih1, ih2⟩ := ehframe_Put.mono_l k
 unfold ehframe_Put.f
 repeat' first
     | (with_reducible exact ih0 _ _ _)
     | (with_reducible exact ih1 _ _ _ _)
     | (with_reducible exact ih2 _ _ _ _)
     | (with_reducible exact ehframe_near.mono _ _)
     | (with_reducible exact leb_Fits.mono _ _ _ _)
     | (with_reducible exact leb_Put.mono _ _ _)
     | (with_reducible exact leb_Sleb.mono _ _)
     | (with_reducible exact leb_Uleb.mono _ _)
     | (with_reducible exact LeO.refl _)
     | (with_reducible exact LeO.none _)
     | (with_reducible refine LeO.ite ?_ ?_)
     | (with_reducible refine LeO.bind ?_ (fun _ => ?_))
     | exact ih0 _ _ _
     | exact ih1 _ _ _ _
     | exact ih2 _ _ _ _
     | exact ehframe_near.mono _ _
     | exact leb_Fits.mono _ _ _ _
     | exact leb_Put.mono _ _ _
     | exact leb_Sleb.mono _ _
     | exact leb_Uleb.mono _ _
     | exact LeO.none _
     | refine LeO.ite ?_ ?_
     | refine LeO.bind ?_ (fun _ => ?_)
set_option maxHeartbeats 8000000 in
theorem ehframe_Put.calls (k : Nat) (a0 : Int) (a1 : Int) (a2 : Int) (a3 : Int) (r1 : List Int) (r2 : Int) (w : World) (h : ehframe_Put.f k a0 a1 a2 a3 = some (r1, r2)) :
    Calls Try.prog 16 #[.int .i64 a0, .int .i64 a1, .int .i64 a2, .int .i64 a3] w fun e w' => ∃ v0_ : Value, e = .returned (.tuple #[v0_, .int .i64 r2]) ∧ Kd.R (Kd.int .u8) 5 w' w.heap.size (fun _ => True) v0_ r1 ∧ Below w.heap.size w w' := by
 have hu76 := Try.underlying76
 have HB := am (Below.refl w.heap.size w)
 have H : ((ehframe_of.f a0).bind fun bt101 => (if bt101.2.2.2 = true then ((ehframe_near.f k (([a1, a2, a3] : List Int))).bind fun t109 => (if t109 = true then (if bt101.2.2.1 = 16 then (ehframe_Put.j0 k (wrap64 (a1 - a2)) bt101.1 bt101.2.1) else (if bt101.2.2.1 = 48 then (ehframe_Put.j0 k (wrap64 (a1 - a3)) bt101.1 bt101.2.1) else (ehframe_Put.j0 k a1 bt101.1 bt101.2.1))) else (some (([] : List Int), 11)))) else (some (([] : List Int), 140)))) = some (r1, r2) := h
 clear h
 replace H := Option.bind_eq_some_iff.mp H
 obtain ⟨⟨t101, t102, t103, t104⟩, A50, H⟩ := H
 replace H : (if t104 = true then ((ehframe_near.f k (([a1, a2, a3] : List Int))).bind fun t109 => (if t109 = true then (if t103 = 16 then (ehframe_Put.j0 k (wrap64 (a1 - a2)) t101 t102) else (if t103 = 48 then (ehframe_Put.j0 k (wrap64 (a1 - a3)) t101 t102) else (ehframe_Put.j0 k a1 t101 t102))) else (some (([] : List Int), 11)))) else (some (([] : List Int), 140))) = some (r1, r2) := H
 have A5 := am A50
 clear A50
 by_cases c6 : t104 = true
 rotate_left
 ·
  replace c6 := Bool.eq_false_iff.mpr c6
  subst c6
  replace H : (some (([] : List Int), 140)) = some (r1, r2) := by rw [if_neg (show ¬ (false = true) by decide)] at H; exact H
  simp only [Option.some.injEq, Prod.mk.injEq] at H
  obtain ⟨rfl, rfl⟩ := H
  go_enter Try.func16, Try.ntmps16
  go_wp2_with (first | ((with_reducible refine gate_callee (f := 29) rfl ?_); refine goesL_ (some 17) rfl rfl Try.func29 (by kernel_rfl) rfl #[.int .i64 a0] rfl (by simp only [ml]; try rfl) ?_; (with_reducible refine (ehframe_of.calls a0 t101 t102 t103 false _ A5.out).mono ?_); rintro e w62 ⟨rfl, hb⟩; refine ⟨_, rfl, ?_⟩; have n0_ := am (below_step (by exact bl_o HB.out) hb); clear HB; have HB := n0_; clear n0_) | ((with_reducible refine gate_dst (N := 10) rfl ?_); refine box_event ?hg (N := 10) ?hd (cs := #[.int .i64 0, .bool false]) (t := 76) ?hr ?_; (case hd => rfl); (case hg => rfl); (case hr => go_simp; try rfl); intro gb105 hg w63 hbox hb; refine mv3 (am (below_step (by exact bl_o HB.out) hb)) (am (hbox)) (lei (by rw [hg]; exact (below_size (by exact bl_o HB.out)) : w.heap.size ≤ gb105)) ?_; clear HB; intro HB BK105 GW105; have GE105 := GW105; clear hb hbox hg; obtain ⟨hcz64_0, hcz64_1, hfz64_0, hfz64_1⟩ := cells2 BK105.out))
  go_ret2
  exact ⟨_, rfl, by first | exact Kd.R_nil _ _ _ _ _ | exact Kd.N_nil _ _ _ _ _, by exact bl_g HB.out⟩
 subst c6
 replace H : ((ehframe_near.f k (([a1, a2, a3] : List Int))).bind fun t109 => (if t109 = true then (if t103 = 16 then (ehframe_Put.j0 k (wrap64 (a1 - a2)) t101 t102) else (if t103 = 48 then (ehframe_Put.j0 k (wrap64 (a1 - a3)) t101 t102) else (ehframe_Put.j0 k a1 t101 t102))) else (some (([] : List Int), 11)))) = some (r1, r2) := by rw [if_pos rfl] at H; exact H
 obtain ⟨y106, hy106⟩ : ∃ y_ : List Int, y_ = (([a1, a2, a3] : List Int)) := ⟨_, rfl⟩
 replace H : ((ehframe_near.f k y106).bind fun t109 => (if t109 = true then (if t103 = 16 then (ehframe_Put.j0 k (wrap64 (a1 - a2)) t101 t102) else (if t103 = 48 then (ehframe_Put.j0 k (wrap64 (a1 - a3)) t101 t102) else (ehframe_Put.j0 k a1 t101 t102))) else (some (([] : List Int), 11)))) = some (r1, r2) := by first | (rw [hy106]; with_reducible exact H) | (have H2_ := (Option.bind_some _ _).symm.trans H; rw [hy106]; with_reducible exact H2_)
 have Ny106 := am hy106
 clear hy106
 replace H := Option.bind_eq_some_iff.mp H
 obtain ⟨t109, A70, H⟩ := H
 replace H : (if t109 = true then (if t103 = 16 then (ehframe_Put.j0 k (wrap64 (a1 - a2)) t101 t102) else (if t103 = 48 then (ehframe_Put.j0 k (wrap64 (a1 - a3)) t101 t102) else (ehframe_Put.j0 k a1 t101 t102))) else (some (([] : List Int), 11))) = some (r1, r2) := H
 have A7 := am A70
 clear A70
 by_cases c8 : t109 = true
 rotate_left
 ·
  replace c8 := Bool.eq_false_iff.mpr c8
  subst c8
  replace H : (some (([] : List Int), 11)) = some (r1, r2) := by rw [if_neg (show ¬ (false = true) by decide)] at H; exact H
  simp only [Option.some.injEq, Prod.mk.injEq] at H
  obtain ⟨rfl, rfl⟩ := H
  go_enter Try.func16, Try.ntmps16
  go_wp2_with (first | ((with_reducible refine gate_callee (f := 29) rfl ?_); refine goesL_ (some 17) rfl rfl Try.func29 (by kernel_rfl) rfl #[.int .i64 a0] rfl (by simp only [ml]; try rfl) ?_; (with_reducible refine (ehframe_of.calls a0 t101 t102 t103 true _ A5.out).mono ?_); rintro e w56 ⟨rfl, hb⟩; refine ⟨_, rfl, ?_⟩; have n0_ := am (below_step (by exact bl_o HB.out) hb); clear HB; have HB := n0_; clear n0_) | ((with_reducible refine gate_dst (N := 10) rfl ?_); refine box_event ?hg (N := 10) ?hd (cs := #[.int .i64 0, .bool false]) (t := 76) ?hr ?_; (case hd => rfl); (case hg => rfl); (case hr => go_simp; try rfl); intro gb105 hg w57 hbox hb; refine mv3 (am (below_step (by exact bl_o HB.out) hb)) (am (hbox)) (lei (by rw [hg]; exact (below_size (by exact bl_o HB.out)) : w.heap.size ≤ gb105)) ?_; clear HB; intro HB BK105 GW105; have GE105 := GW105; clear hb hbox hg; obtain ⟨hcz58_0, hcz58_1, hfz58_0, hfz58_1⟩ := cells2 BK105.out) | ((with_reducible refine gate_dst (N := 26) rfl ?_); refine Kd.R_lit (Kd.int .i64) _ 3 ?hg (N := 26) ?hd (xs := ([a1, a2, a3] : List Int)) (inner := [.int .i64 a1, .int .i64 a2, .int .i64 a3]) (ok := fun _ => True) (okp := fun _ => True) ?hr ?hp (fun _ hk => hk) trivial (Below.refl _ _) (Nat.le_refl _) (by simp) ?_; (case hd => rfl); (case hg => rfl); (case hr => go_simp; try rfl); (case hp => exact (Reps.one (show Kd.M (Kd.int .i64) _ _ _ a1 [.int .i64 a1] from rfl) (Reps.one (show Kd.M (Kd.int .i64) _ _ _ a2 [.int .i64 a2] from rfl) (Reps.one (show Kd.M (Kd.int .i64) _ _ _ a3 [.int .i64 a3] from rfl) (Reps.none _ _))))); intro v107 w59 ho60 hb hg_ hnew_; clear hg_ hnew_; (first | rw [← Ny106.out] at ho60 | (simp only [Int.reduceToNat] at ho60; rw [← Ny106.out] at ho60)); refine mv3 (am (Kd.R_lower ho60 (below_size (by exact bl_g HB.out)))) (am (blk_below (g := gb105) (o := .cells #[.int .i64 t101, .bool t102] 76 (0, 0)) (bps BK105.out rfl) hb)) (am (below_step (by exact bl_g HB.out) hb)) ?_; clear BK105 HB; intro HO108 BK105 HB; clear hb ho60; obtain ⟨Ao61, co61, eo61⟩ := Kd.R_slice HO108.out; subst eo61) | ((with_reducible refine gate_callee (f := 30) rfl ?_); refine goesL_ (some 27) rfl rfl Try.func30 (by kernel_rfl) rfl #[.slice Ao61 y106.length co61] rfl (by simp only [ml]; try rfl) ?_; (with_reducible refine (ehframe_near.calls k _ _ y106 false _ ?side1 ?side2 A7.out).mono ?_); (case side1 => exact Kd.C_o ((Kd.R_reads' HO108.out).2.2)); (case side2 => exact (Kd.R_reads' HO108.out).2.1); rintro e w' ⟨rfl, ⟨nd, rfl⟩⟩; refine ⟨_, rfl, ?_⟩))
  go_ret2
  exact ⟨_, rfl, by first | exact Kd.R_nil _ _ _ _ _ | exact Kd.N_nil _ _ _ _ _, by exact bl_g HB.out⟩
 subst c8
 replace H : (if t103 = 16 then (ehframe_Put.j0 k (wrap64 (a1 - a2)) t101 t102) else (if t103 = 48 then (ehframe_Put.j0 k (wrap64 (a1 - a3)) t101 t102) else (ehframe_Put.j0 k a1 t101 t102))) = some (r1, r2) := by rw [if_pos rfl] at H; exact H
 have HC9 := am H
 clear H
 go_enter Try.func16, Try.ntmps16
 go_upto_block 0 with (first | ((with_reducible refine gate_callee (f := 29) rfl ?_); refine goesL_ (some 17) rfl rfl Try.func29 (by kernel_rfl) rfl #[.int .i64 a0] rfl (by simp only [ml]; try rfl) ?_; (with_reducible refine (ehframe_of.calls a0 t101 t102 t103 true _ A5.out).mono ?_); rintro e w10 ⟨rfl, hb⟩; refine ⟨_, rfl, ?_⟩; have n0_ := am (below_step (by exact bl_o HB.out) hb); clear HB; have HB := n0_; clear n0_) | ((with_reducible refine gate_dst (N := 10) rfl ?_); refine box_event ?hg (N := 10) ?hd (cs := #[.int .i64 0, .bool false]) (t := 76) ?hr ?_; (case hd => rfl); (case hg => rfl); (case hr => go_simp; try rfl); intro gb105 hg w11 hbox hb; refine mv3 (am (below_step (by exact bl_o HB.out) hb)) (am (hbox)) (lei (by rw [hg]; exact (below_size (by exact bl_o HB.out)) : w.heap.size ≤ gb105)) ?_; clear HB; intro HB BK105 GW105; have GE105 := GW105; clear hb hbox hg; obtain ⟨hcz12_0, hcz12_1, hfz12_0, hfz12_1⟩ := cells2 BK105.out) | ((with_reducible refine gate_dst (N := 26) rfl ?_); refine Kd.R_lit (Kd.int .i64) _ 3 ?hg (N := 26) ?hd (xs := ([a1, a2, a3] : List Int)) (inner := [.int .i64 a1, .int .i64 a2, .int .i64 a3]) (ok := fun _ => True) (okp := fun _ => True) ?hr ?hp (fun _ hk => hk) trivial (Below.refl _ _) (Nat.le_refl _) (by simp) ?_; (case hd => rfl); (case hg => rfl); (case hr => go_simp; try rfl); (case hp => exact (Reps.one (show Kd.M (Kd.int .i64) _ _ _ a1 [.int .i64 a1] from rfl) (Reps.one (show Kd.M (Kd.int .i64) _ _ _ a2 [.int .i64 a2] from rfl) (Reps.one (show Kd.M (Kd.int .i64) _ _ _ a3 [.int .i64 a3] from rfl) (Reps.none _ _))))); intro v107 w13 ho14 hb hg_ hnew_; clear hg_ hnew_; (first | rw [← Ny106.out] at ho14 | (simp only [Int.reduceToNat] at ho14; rw [← Ny106.out] at ho14)); refine mv3 (am (Kd.R_lower ho14 (below_size (by exact bl_g HB.out)))) (am (blk_below (g := gb105) (o := .cells #[.int .i64 t101, .bool t102] 76 (0, 0)) (bps BK105.out rfl) hb)) (am (below_step (by exact bl_g HB.out) hb)) ?_; clear BK105 HB; intro HO108 BK105 HB; clear hb ho14; obtain ⟨Ao15, co15, eo15⟩ := Kd.R_slice HO108.out; subst eo15) | ((with_reducible refine gate_callee (f := 30) rfl ?_); refine goesL_ (some 27) rfl rfl Try.func30 (by kernel_rfl) rfl #[.slice Ao15 y106.length co15] rfl (by simp only [ml]; try rfl) ?_; (with_reducible refine (ehframe_near.calls k _ _ y106 true _ ?side1 ?side2 A7.out).mono ?_); (case side1 => exact Kd.C_o ((Kd.R_reads' HO108.out).2.2)); (case side2 => exact (Kd.R_reads' HO108.out).2.1); rintro e w' ⟨rfl, ⟨nd, rfl⟩⟩; refine ⟨_, rfl, ?_⟩))
 (try simp only [Act.put, List.setIfInBounds_toArray, List.set_cons_zero, List.set_cons_succ])
 go_cut [1] (fun v1 wc => ∃ (kq : Nat) (x1_8 : Int), v1 = .int .i64 x1_8 ∧ Aside0 (ehframe_Put.j0 kq x1_8 t101 t102 = some (r1, r2)) ∧ Aside0 (kq ≤ k) ∧ Aside0 (wc.heap[gb105]? = some (.cells #[.int .i64 t101, .bool t102] 76 (0, 0))) ∧ Aside0 (Below w.heap.size w wc))
 case first =>
  have H := HC9.out
  clear HC9
  by_cases c16 : t103 = 16
  ·
   rw [if_pos c16] at H
   have c16b0 : (t103 == 16) = true := beq_iff_eq.mpr c16
   have c16b1 : (t103 != 16) = false := bne_eq_false_iff_eq.mpr c16
   clear c16
   (first | rw [c16b0] | (simp only [i64_w, i32_w]; rw [c16b0]) | skip)
   have H' := am H
   clear H
   go_wp2
   go_meet
   case rel => exact ⟨_, (wrap64 (a1 - a2)), (by first | rfl | (simp; done) | (simp [*]; done)), H', ⟨by first | omega | exact Nat.le_refl _⟩, ⟨by (with_reducible repeat (first | refine blk_drewN ?_ _ | refine blk_drew ?_ | refine blk_alloc ?_ _)); exact BK105.out⟩, ⟨by exact bl_g HB.out⟩⟩
  rw [if_neg c16] at H
  have c16b0 : (t103 == 16) = false := beq_eq_false_iff_ne.mpr c16
  have c16b1 : (t103 != 16) = true := bne_iff_ne.mpr c16
  (first | rw [c16b0] | (simp only [i64_w, i32_w]; rw [c16b0]) | skip)
  by_cases c17 : t103 = 48
  ·
   rw [if_pos c17] at H
   have c17b0 : (t103 == 48) = true := beq_iff_eq.mpr c17
   have c17b1 : (t103 != 48) = false := bne_eq_false_iff_eq.mpr c17
   clear c17
   have H' := am H
   clear H
   go_wp2
   go_meet
   case rel => exact ⟨_, (wrap64 (a1 - a3)), (by first | rfl | (simp; done) | (simp [*]; done)), H', ⟨by first | omega | exact Nat.le_refl _⟩, ⟨by (with_reducible repeat (first | refine blk_drewN ?_ _ | refine blk_drew ?_ | refine blk_alloc ?_ _)); exact BK105.out⟩, ⟨by exact bl_g HB.out⟩⟩
  rw [if_neg c17] at H
  have c17b0 : (t103 == 48) = false := beq_eq_false_iff_ne.mpr c17
  have c17b1 : (t103 != 48) = true := bne_iff_ne.mpr c17
  have H' := am H
  clear H
  go_wp2
  go_meet
  case rel => exact ⟨_, (a1), (by first | rfl | (simp; done) | (simp [*]; done)), H', ⟨by first | omega | exact Nat.le_refl _⟩, ⟨by (with_reducible repeat (first | refine blk_drewN ?_ _ | refine blk_drew ?_ | refine blk_alloc ?_ _)); exact BK105.out⟩, ⟨by exact bl_g HB.out⟩⟩
 case rest =>
  clear HC9
  try clear c1
  try clear c2
  try clear p2
  try clear c3
  try clear c6
  try clear p6
  try clear c8
  try clear c16
  try clear c16b0
  try clear c16b1
  try clear c17
  try clear c17b0
  try clear c17b1
  try clear hcz12_0
  try clear hcz12_1
  try clear hfz12_0
  try clear hfz12_1
  obtain ⟨kq, x1_8, rfl, HA, HJ8, BK105, HB⟩ := hcut
  cases kq with
  | zero => exact absurd HA.out (by simp [ehframe_Put.j0])
  | succ kj8 =>
   have H := HA.out
   clear HA
   simp only [ehframe_Put.j0] at H
   have HC18 := am H
   clear H
   go_upto_region 11 with (fail)
   go_cut [52] (fun v52 wc => ∃ (kq : Nat) (x52_17 : Bool), v52 = .bool x52_17 ∧ Aside0 (ehframe_Put.j1 kq x1_8 x52_17 t101 t102 = some (r1, r2)) ∧ Aside0 (kq ≤ kj8) ∧ Aside0 (wc.heap[gb105]? = some (.cells #[.int .i64 t101, .bool t102] 76 (0, 0))) ∧ Aside0 (Below w.heap.size w wc))
   case first =>
    have H := HC18.out
    clear HC18
    obtain ⟨y110, hy110⟩ : ∃ y_ : List Int, y_ = (([x1_8] : List Int)) := ⟨_, rfl⟩
    replace H : ((ehframe_near.f kj8 y110).bind fun t113 => (if t113 = true then (if t102 = true then (ehframe_Put.j1 kj8 x1_8 false t101 t102) else (ehframe_Put.j1 kj8 x1_8 (decide (x1_8 < 0)) t101 t102)) else (ehframe_Put.j1 kj8 x1_8 true t101 t102))) = some (r1, r2) := by first | (rw [hy110]; with_reducible exact H) | (have H2_ := (Option.bind_some _ _).symm.trans H; rw [hy110]; with_reducible exact H2_)
    have Ny110 := am hy110
    clear hy110
    replace H := Option.bind_eq_some_iff.mp H
    obtain ⟨t113, A190, H⟩ := H
    replace H : (if t113 = true then (if t102 = true then (ehframe_Put.j1 kj8 x1_8 false t101 t102) else (ehframe_Put.j1 kj8 x1_8 (decide (x1_8 < 0)) t101 t102)) else (ehframe_Put.j1 kj8 x1_8 true t101 t102)) = some (r1, r2) := H
    have A19 := am A190
    clear A190
    by_cases c20 : t113 = true
    rotate_left
    ·
     replace c20 := Bool.eq_false_iff.mpr c20
     subst c20
     replace H : (ehframe_Put.j1 kj8 x1_8 true t101 t102) = some (r1, r2) := by rw [if_neg (show ¬ (false = true) by decide)] at H; exact H
     have H' := am H
     clear H
     go_wp2_with (first | ((with_reducible refine gate_dst (N := 41) rfl ?_); refine Kd.R_lit (Kd.int .i64) _ 3 ?hg (N := 41) ?hd (xs := ([x1_8] : List Int)) (inner := [.int .i64 x1_8]) (ok := fun _ => True) (okp := fun _ => True) ?hr ?hp (fun _ hk => hk) trivial (Below.refl _ _) (Nat.le_refl _) (by simp) ?_; (case hd => rfl); (case hg => rfl); (case hr => go_simp; try rfl); (case hp => exact (Reps.one (show Kd.M (Kd.int .i64) _ _ _ x1_8 [.int .i64 x1_8] from rfl) (Reps.none _ _))); intro v111 w30 ho31 hb hg_ hnew_; clear hg_ hnew_; (first | rw [← Ny110.out] at ho31 | (simp only [Int.reduceToNat] at ho31; rw [← Ny110.out] at ho31)); refine mv3 (am (Kd.R_lower ho31 (below_size (by exact bl_g HB.out)))) (am (blk_below (blk_o BK105.out) hb)) (am (below_step (by exact bl_g HB.out) hb)) ?_; clear BK105 HB; intro HO112 BK105 HB; clear hb ho31; obtain ⟨Ao32, co32, eo32⟩ := Kd.R_slice HO112.out; subst eo32) | ((with_reducible refine gate_callee (f := 30) rfl ?_); refine goesL_ (some 42) rfl rfl Try.func30 (by kernel_rfl) rfl #[.slice Ao32 y110.length co32] rfl (by simp only [ml]; try rfl) ?_; (with_reducible refine (ehframe_near.calls kj8 _ _ y110 false _ ?side1 ?side2 A19.out).mono ?_); (case side1 => exact Kd.C_o ((Kd.R_reads' HO112.out).2.2)); (case side2 => exact (Kd.R_reads' HO112.out).2.1); rintro e w' ⟨rfl, ⟨nd, rfl⟩⟩; refine ⟨_, rfl, ?_⟩))
     go_meet
     case rel => exact ⟨_, (true), (by first | rfl | (simp; done) | (simp [*]; done)), H', ⟨by have := HJ8.out; first | omega | exact Nat.le_refl _⟩, ⟨by (with_reducible repeat (first | refine blk_drewN ?_ _ | refine blk_drew ?_ | refine blk_alloc ?_ _)); exact BK105.out⟩, ⟨by exact bl_g HB.out⟩⟩
    subst c20
    replace H : (if t102 = true then (ehframe_Put.j1 kj8 x1_8 false t101 t102) else (ehframe_Put.j1 kj8 x1_8 (decide (x1_8 < 0)) t101 t102)) = some (r1, r2) := by rw [if_pos rfl] at H; exact H
    by_cases c21 : t102 = true
    ·
     subst c21
     replace H : (ehframe_Put.j1 kj8 x1_8 false t101 true) = some (r1, r2) := by rw [if_pos rfl] at H; exact H
     have H' := am H
     clear H
     go_wp2_with (first | ((with_reducible refine gate_dst (N := 41) rfl ?_); refine Kd.R_lit (Kd.int .i64) _ 3 ?hg (N := 41) ?hd (xs := ([x1_8] : List Int)) (inner := [.int .i64 x1_8]) (ok := fun _ => True) (okp := fun _ => True) ?hr ?hp (fun _ hk => hk) trivial (Below.refl _ _) (Nat.le_refl _) (by simp) ?_; (case hd => rfl); (case hg => rfl); (case hr => go_simp; try rfl); (case hp => exact (Reps.one (show Kd.M (Kd.int .i64) _ _ _ x1_8 [.int .i64 x1_8] from rfl) (Reps.none _ _))); intro v111 w22 ho23 hb hg_ hnew_; clear hg_ hnew_; (first | rw [← Ny110.out] at ho23 | (simp only [Int.reduceToNat] at ho23; rw [← Ny110.out] at ho23)); refine mv3 (am (Kd.R_lower ho23 (below_size (by exact bl_g HB.out)))) (am (blk_below (blk_o BK105.out) hb)) (am (below_step (by exact bl_g HB.out) hb)) ?_; clear BK105 HB; intro HO112 BK105 HB; clear hb ho23; obtain ⟨Ao24, co24, eo24⟩ := Kd.R_slice HO112.out; subst eo24) | ((with_reducible refine gate_callee (f := 30) rfl ?_); refine goesL_ (some 42) rfl rfl Try.func30 (by kernel_rfl) rfl #[.slice Ao24 y110.length co24] rfl (by simp only [ml]; try rfl) ?_; (with_reducible refine (ehframe_near.calls kj8 _ _ y110 true _ ?side1 ?side2 A19.out).mono ?_); (case side1 => exact Kd.C_o ((Kd.R_reads' HO112.out).2.2)); (case side2 => exact (Kd.R_reads' HO112.out).2.1); rintro e w' ⟨rfl, ⟨nd, rfl⟩⟩; refine ⟨_, rfl, ?_⟩; obtain ⟨hcz25_0, hcz25_1, hfz25_0, hfz25_1⟩ := cells2 BK105.out))
     go_meet
     case rel => exact ⟨_, (false), (by first | rfl | (simp; done) | (simp [*]; done)), H', ⟨by have := HJ8.out; first | omega | exact Nat.le_refl _⟩, ⟨by (with_reducible repeat (first | refine blk_drewN ?_ _ | refine blk_drew ?_ | refine blk_alloc ?_ _)); exact BK105.out⟩, ⟨by exact bl_g HB.out⟩⟩
    replace c21 := Bool.eq_false_iff.mpr c21
    subst c21
    replace H : (ehframe_Put.j1 kj8 x1_8 (decide (x1_8 < 0)) t101 false) = some (r1, r2) := by rw [if_neg (show ¬ (false = true) by decide)] at H; exact H
    have H' := am H
    clear H
    go_wp2_with (first | ((with_reducible refine gate_dst (N := 41) rfl ?_); refine Kd.R_lit (Kd.int .i64) _ 3 ?hg (N := 41) ?hd (xs := ([x1_8] : List Int)) (inner := [.int .i64 x1_8]) (ok := fun _ => True) (okp := fun _ => True) ?hr ?hp (fun _ hk => hk) trivial (Below.refl _ _) (Nat.le_refl _) (by simp) ?_; (case hd => rfl); (case hg => rfl); (case hr => go_simp; try rfl); (case hp => exact (Reps.one (show Kd.M (Kd.int .i64) _ _ _ x1_8 [.int .i64 x1_8] from rfl) (Reps.none _ _))); intro v111 w26 ho27 hb hg_ hnew_; clear hg_ hnew_; (first | rw [← Ny110.out] at ho27 | (simp only [Int.reduceToNat] at ho27; rw [← Ny110.out] at ho27)); refine mv3 (am (Kd.R_lower ho27 (below_size (by exact bl_g HB.out)))) (am (blk_below (blk_o BK105.out) hb)) (am (below_step (by exact bl_g HB.out) hb)) ?_; clear BK105 HB; intro HO112 BK105 HB; clear hb ho27; obtain ⟨Ao28, co28, eo28⟩ := Kd.R_slice HO112.out; subst eo28) | ((with_reducible refine gate_callee (f := 30) rfl ?_); refine goesL_ (some 42) rfl rfl Try.func30 (by kernel_rfl) rfl #[.slice Ao28 y110.length co28] rfl (by simp only [ml]; try rfl) ?_; (with_reducible refine (ehframe_near.calls kj8 _ _ y110 true _ ?side1 ?side2 A19.out).mono ?_); (case side1 => exact Kd.C_o ((Kd.R_reads' HO112.out).2.2)); (case side2 => exact (Kd.R_reads' HO112.out).2.1); rintro e w' ⟨rfl, ⟨nd, rfl⟩⟩; refine ⟨_, rfl, ?_⟩; obtain ⟨hcz29_0, hcz29_1, hfz29_0, hfz29_1⟩ := cells2 BK105.out))
    go_meet
    case rel => exact ⟨_, (decide (x1_8 < 0)), (by first | rfl | (simp; done) | (simp [*]; done)), H', ⟨by have := HJ8.out; first | omega | exact Nat.le_refl _⟩, ⟨by (with_reducible repeat (first | refine blk_drewN ?_ _ | refine blk_drew ?_ | refine blk_alloc ?_ _)); exact BK105.out⟩, ⟨by exact bl_g HB.out⟩⟩
   case rest =>
    clear HC18
    try clear c1
    try clear c2
    try clear p2
    try clear c3
    try clear c6
    try clear p6
    try clear c8
    try clear c16
    try clear c16b0
    try clear c16b1
    try clear c17
    try clear c17b0
    try clear c17b1
    try clear c20
    try clear c21
    try clear c29
    try clear c30
    try clear hcz12_0
    try clear hcz12_1
    try clear hcz25_0
    try clear hcz25_1
    try clear hcz29_0
    try clear hcz29_1
    try clear hfz12_0
    try clear hfz12_1
    try clear hfz25_0
    try clear hfz25_1
    try clear hfz29_0
    try clear hfz29_1
    try clear p2
    try clear p6
    obtain ⟨kq, x52_17, rfl, HA, HJ17, BK105, HB⟩ := hcut
    cases kq with
    | zero => exact absurd HA.out (by simp [ehframe_Put.j1])
    | succ kj17 =>
     have H := HA.out
     clear HA
     simp only [ehframe_Put.j1] at H
     by_cases c33 : x52_17 = true
     ·
      subst c33
      replace H : (some (([] : List Int), 11)) = some (r1, r2) := by rw [if_pos rfl] at H; exact H
      simp only [Option.some.injEq, Prod.mk.injEq] at H
      obtain ⟨rfl, rfl⟩ := H
      go_wp2
      go_ret2
      exact ⟨_, rfl, by first | exact Kd.R_nil _ _ _ _ _ | exact Kd.N_nil _ _ _ _ _, by exact bl_g HB.out⟩
     replace c33 := Bool.eq_false_iff.mpr c33
     subst c33
     replace H : (if t101 = 0 then (ehframe_Put.j2 kj17 x1_8 t102 t101 t102) else (ehframe_Put.j2 kj17 x1_8 false t101 t102)) = some (r1, r2) := by rw [if_neg (show ¬ (false = true) by decide)] at H; exact H
     have HC34 := am H
     clear H
     go_upto_region 13 with (fail)
     go_cut [53] (fun v53 wc => ∃ (kq : Nat) (x53_33 : Bool), v53 = .bool x53_33 ∧ Aside0 (ehframe_Put.j2 kq x1_8 x53_33 t101 t102 = some (r1, r2)) ∧ Aside0 (kq ≤ kj17) ∧ Aside0 (wc.heap[gb105]? = some (.cells #[.int .i64 t101, .bool t102] 76 (0, 0))) ∧ Aside0 (Below w.heap.size w wc))
     case first =>
      have H := HC34.out
      clear HC34
      by_cases c35 : t101 = 0
      ·
       rw [if_pos c35] at H
       have c35b0 : (t101 == 0) = true := beq_iff_eq.mpr c35
       have c35b1 : (t101 != 0) = false := bne_eq_false_iff_eq.mpr c35
       clear c35
       (first | rw [c35b0] | (simp only [i64_w, i32_w]; rw [c35b0]) | skip)
       have H' := am H
       clear H
       obtain ⟨hcz36_0, hcz36_1, hfz36_0, hfz36_1⟩ := cells2 BK105.out
       go_wp2
       go_meet
       case rel => exact ⟨_, (t102), (by first | rfl | (simp; done) | (simp [*]; done)), H', ⟨by have := HJ8.out; have := HJ17.out; first | omega | exact Nat.le_refl _⟩, ⟨by (with_reducible repeat (first | refine blk_drewN ?_ _ | refine blk_drew ?_ | refine blk_alloc ?_ _)); exact BK105.out⟩, ⟨by exact bl_g HB.out⟩⟩
      rw [if_neg c35] at H
      have c35b0 : (t101 == 0) = false := beq_eq_false_iff_ne.mpr c35
      have c35b1 : (t101 != 0) = true := bne_iff_ne.mpr c35
      (first | rw [c35b0] | (simp only [i64_w, i32_w]; rw [c35b0]) | skip)
      have H' := am H
      clear H
      obtain ⟨hcz37_0, hcz37_1, hfz37_0, hfz37_1⟩ := cells2 BK105.out
      go_wp2
      go_meet
      case rel => exact ⟨_, (false), (by first | rfl | (simp; done) | (simp [*]; done)), H', ⟨by have := HJ8.out; have := HJ17.out; first | omega | exact Nat.le_refl _⟩, ⟨by (with_reducible repeat (first | refine blk_drewN ?_ _ | refine blk_drew ?_ | refine blk_alloc ?_ _)); exact BK105.out⟩, ⟨by exact bl_g HB.out⟩⟩
     case rest =>
      clear HC34
      try clear c1
      try clear c2
      try clear p2
      try clear c3
      try clear c6
      try clear p6
      try clear c8
      try clear c16
      try clear c16b0
      try clear c16b1
      try clear c17
      try clear c17b0
      try clear c17b1
      try clear c20
      try clear c21
      try clear c29
      try clear c30
      try clear c33
      try clear c35
      try clear c35b0
      try clear c35b1
      try clear hcz12_0
      try clear hcz12_1
      try clear hcz25_0
      try clear hcz25_1
      try clear hcz29_0
      try clear hcz29_1
      try clear hcz36_0
      try clear hcz36_1
      try clear hcz37_0
      try clear hcz37_1
      try clear hfz12_0
      try clear hfz12_1
      try clear hfz25_0
      try clear hfz25_1
      try clear hfz29_0
      try clear hfz29_1
      try clear hfz36_0
      try clear hfz36_1
      try clear hfz37_0
      try clear hfz37_1
      try clear p2
      try clear p6
      obtain ⟨kq, x53_33, rfl, HA, HJ33, BK105, HB⟩ := hcut
      cases kq with
      | zero => exact absurd HA.out (by simp [ehframe_Put.j2])
      | succ kj33 =>
       have H := HA.out
       clear HA
       simp only [ehframe_Put.j2] at H
       by_cases c38 : x53_33 = true
       ·
        subst c38
        replace H : ((leb_Sleb.f kj33 x1_8).bind fun t114 => (some (t114, 0))) = some (r1, r2) := by rw [if_pos rfl] at H; exact H
        replace H := Option.bind_eq_some_iff.mp H
        obtain ⟨t114, A390, H⟩ := H
        replace H : (some (t114, 0)) = some (r1, r2) := H
        have A39 := am A390
        clear A390
        simp only [Option.some.injEq, Prod.mk.injEq] at H
        obtain ⟨rfl, rfl⟩ := H
        go_wp2_with (first | ((with_reducible refine gate_callee (f := 37) rfl ?_); refine goesL_ (some 62) rfl rfl Try.func37 (by kernel_rfl) rfl #[.int .i64 x1_8] rfl (by simp only [ml]; try rfl) ?_; (with_reducible refine (leb_Sleb.calls kj33 x1_8 t114 _ A39.out).mono ?_); rintro e w40 ⟨v115, rfl, ho0, hb⟩; refine ⟨_, rfl, ?_⟩; refine mv3 (am (Kd.R_lower ho0 (below_size (by exact bl_g HB.out)))) (am (blk_below (blk_o BK105.out) hb)) (am (below_step (by exact bl_g HB.out) hb)) ?_; clear BK105 HB; intro HO116 BK105 HB))
        go_ret2
        exact ⟨_, rfl, by (with_reducible repeat (first | apply Kd.R_alloc | apply Kd.R_drewN | apply Kd.R_drew)); exact HO116.out, by exact bl_g HB.out⟩
       replace c38 := Bool.eq_false_iff.mpr c38
       subst c38
       replace H : (if t101 = 0 then ((leb_Uleb.f kj33 x1_8).bind fun t117 => (some (t117, 0))) else ((leb_Fits.f kj33 x1_8 (wrap64 (8 * t101)) t102).bind fun t120 => (if t120 = true then ((leb_Put.f kj33 x1_8 8).bind fun bt121 => (if 0 ≤ t101 then (if t101 ≤ (bt121.1.length : Int) then (some ((bt121.1.take (t101 : Int).toNat), 0)) else (none)) else (none))) else (some (([] : List Int), 11))))) = some (r1, r2) := by rw [if_neg (show ¬ (false = true) by decide)] at H; exact H
       by_cases c41 : t101 = 0
       ·
        rw [if_pos c41] at H
        have c41b0 : (t101 == 0) = true := beq_iff_eq.mpr c41
        have c41b1 : (t101 != 0) = false := bne_eq_false_iff_eq.mpr c41
        clear c41
        replace H := Option.bind_eq_some_iff.mp H
        obtain ⟨t117, A420, H⟩ := H
        replace H : (some (t117, 0)) = some (r1, r2) := H
        have A42 := am A420
        clear A420
        simp only [Option.some.injEq, Prod.mk.injEq] at H
        obtain ⟨rfl, rfl⟩ := H
        obtain ⟨hcz43_0, hcz43_1, hfz43_0, hfz43_1⟩ := cells2 BK105.out
        go_wp2_with (first | ((with_reducible refine gate_callee (f := 38) rfl ?_); refine goesL_ (some 68) rfl rfl Try.func38 (by kernel_rfl) rfl #[.int .i64 x1_8] rfl (by simp only [ml]; try rfl) ?_; (with_reducible refine (leb_Uleb.calls kj33 x1_8 t117 _ A42.out).mono ?_); rintro e w44 ⟨v118, rfl, ho0, hb⟩; refine ⟨_, rfl, ?_⟩; refine mv3 (am (Kd.R_lower ho0 (below_size (by exact bl_g HB.out)))) (am (blk_below (blk_o BK105.out) hb)) (am (below_step (by exact bl_g HB.out) hb)) ?_; clear BK105 HB; intro HO119 BK105 HB))
        go_ret2
        exact ⟨_, rfl, by (with_reducible repeat (first | apply Kd.R_alloc | apply Kd.R_drewN | apply Kd.R_drew)); exact HO119.out, by exact bl_g HB.out⟩
       rw [if_neg c41] at H
       have c41b0 : (t101 == 0) = false := beq_eq_false_iff_ne.mpr c41
       have c41b1 : (t101 != 0) = true := bne_iff_ne.mpr c41
       replace H := Option.bind_eq_some_iff.mp H
       obtain ⟨t120, A450, H⟩ := H
       replace H : (if t120 = true then ((leb_Put.f kj33 x1_8 8).bind fun bt121 => (if 0 ≤ t101 then (if t101 ≤ (bt121.1.length : Int) then (some ((bt121.1.take (t101 : Int).toNat), 0)) else (none)) else (none))) else (some (([] : List Int), 11))) = some (r1, r2) := H
       have A45 := am A450
       clear A450
       by_cases c46 : t120 = true
       rotate_left
       ·
        replace c46 := Bool.eq_false_iff.mpr c46
        subst c46
        replace H : (some (([] : List Int), 11)) = some (r1, r2) := by rw [if_neg (show ¬ (false = true) by decide)] at H; exact H
        simp only [Option.some.injEq, Prod.mk.injEq] at H
        obtain ⟨rfl, rfl⟩ := H
        obtain ⟨hcz55_0, hcz55_1, hfz55_0, hfz55_1⟩ := cells2 BK105.out
        go_wp2_with (first | ((with_reducible refine gate_callee (f := 39) rfl ?_); refine goesL_ (some 76) rfl rfl Try.func39 (by kernel_rfl) rfl #[.int .i64 x1_8, .int .i64 (wrap64 (8 * t101)), .bool t102] rfl (by simp only [ml]; try rfl) ?_; (with_reducible refine (leb_Fits.calls kj33 x1_8 (wrap64 (8 * t101)) t102 false _ A45.out).mono ?_); rintro e w' ⟨rfl, ⟨nd, rfl⟩⟩; refine ⟨_, rfl, ?_⟩))
        go_ret2
        exact ⟨_, rfl, by first | exact Kd.R_nil _ _ _ _ _ | exact Kd.N_nil _ _ _ _ _, by exact bl_g HB.out⟩
       subst c46
       replace H : ((leb_Put.f kj33 x1_8 8).bind fun bt121 => (if 0 ≤ t101 then (if t101 ≤ (bt121.1.length : Int) then (some ((bt121.1.take (t101 : Int).toNat), 0)) else (none)) else (none))) = some (r1, r2) := by rw [if_pos rfl] at H; exact H
       replace H := Option.bind_eq_some_iff.mp H
       obtain ⟨⟨t121, t122⟩, A470, H⟩ := H
       replace H : (if 0 ≤ t101 then (if t101 ≤ (t121.length : Int) then (some ((t121.take (t101 : Int).toNat), 0)) else (none)) else (none)) = some (r1, r2) := H
       have A47 := am A470
       clear A470
       by_cases c48 : 0 ≤ t101
       rotate_left
       ·
        rw [if_neg c48] at H
        exact absurd H (by simp)
       rw [if_pos c48] at H
       have c48b0 := eq_true c48
       have c48b1 : decide (0 ≤ t101) = true := decide_eq_true c48
       clear c48
       by_cases c49 : t101 ≤ (t121.length : Int)
       rotate_left
       ·
        rw [if_neg c49] at H
        exact absurd H (by simp)
       rw [if_pos c49] at H
       have c49b0 := eq_true c49
       have c49b1 : decide (t101 ≤ (t121.length : Int)) = true := decide_eq_true c49
       clear c49
       obtain ⟨y125, hy125⟩ : ∃ y_ : List Int, y_ = (t121.take (t101 : Int).toNat) := ⟨_, rfl⟩
       replace H : (some (y125, 0)) = some (r1, r2) := by first | (rw [hy125]; with_reducible exact H) | (have H2_ := (Option.bind_some _ _).symm.trans H; rw [hy125]; with_reducible exact H2_)
       have Ny125 := am hy125
       clear hy125
       simp only [Option.some.injEq, Prod.mk.injEq] at H
       obtain ⟨rfl, rfl⟩ := H
       obtain ⟨hcz50_0, hcz50_1, hfz50_0, hfz50_1⟩ := cells2 BK105.out
       go_wp2_with (first | ((with_reducible refine gate_callee (f := 39) rfl ?_); refine goesL_ (some 76) rfl rfl Try.func39 (by kernel_rfl) rfl #[.int .i64 x1_8, .int .i64 (wrap64 (8 * t101)), .bool t102] rfl (by simp only [ml]; try rfl) ?_; (with_reducible refine (leb_Fits.calls kj33 x1_8 (wrap64 (8 * t101)) t102 true _ A45.out).mono ?_); rintro e w' ⟨rfl, ⟨nd, rfl⟩⟩; refine ⟨_, rfl, ?_⟩) | ((with_reducible refine gate_callee (f := 40) rfl ?_); refine goesL_ (some 80) rfl rfl Try.func40 (by kernel_rfl) rfl #[.int .i64 x1_8, .int .i64 8] rfl (by simp only [ml]; try rfl) ?_; (with_reducible refine (leb_Put.calls kj33 x1_8 8 t121 t122 _ A47.out).mono ?_); rintro e w51 ⟨v123, rfl, ho0, hb⟩; refine ⟨_, rfl, ?_⟩; refine mv3 (am (Kd.R_lower ho0 (below_size (by exact bl_g HB.out)))) (am (blk_below (blk_o BK105.out) hb)) (am (below_step (by exact bl_g HB.out) hb)) ?_; clear BK105 HB; intro HO124 BK105 HB; obtain ⟨hcz52_0, hcz52_1, hfz52_0, hfz52_1⟩ := cells2 BK105.out; obtain ⟨Ao53, co53, eo53⟩ := Kd.R_slice HO124.out; subst eo53; have q54 : (t101 : Int) ≤ ((t121.length : Int) : Int) := od; obtain ⟨i054, hi054, _, hsz54, _⟩ := info_parts info5; have hcut54 := cut_to (P := Try.prog) 28 5 .i64 Try.underlying28 hi054 Ao53 t121.length co53 t101 (od) q54 (Kd.R_reads' HO124.out).2.1; have hr54 := Kd.R_take (m := (t101 : Int).toNat) HO124.out (by omega); have hy54 : y125.length = (t101 : Int).toNat := (by rw [Ny125.out, List.length_take]; omega); rw [← Ny125.out] at hr54; rw [← hy54] at hr54 hcut54; clear hy54 hi054 hsz54 HO124; have HO127 := am hr54; clear hr54; replace q54 := eq_true q54))
       go_ret2
       exact ⟨_, rfl, by (with_reducible repeat (first | apply Kd.R_alloc | apply Kd.R_drewN | apply Kd.R_drew)); exact HO127.out, by exact bl_g HB.out⟩
def mayF (k r n : Int) : Bool :=
  if k = 0 ∨ k = 9 ∨ k = 10 then decide (r = 0) && decide (n = 0)
  else if k = 1 ∨ k = 3 then decide (r = 0) && (decide (0 ≤ n) && decide (n ≤ 2147483647))
  else if k = 2 then decide (0 ≤ r) && (decide (r ≤ 16) && (decide (0 ≤ n) && decide (n ≤ 2147483647)))
  else if k = 4 ∨ k = 6 ∨ k = 7 ∨ k = 8 then decide (n = 0) && (decide (0 ≤ r) && decide (r ≤ 16))
  else if k = 5 then decide (n.tmod 8 = 0) && (decide (0 ≤ r) && (decide (r ≤ 16) && (decide (-2147483648 ≤ n) && decide (n ≤ 2147483640))))
  else false
def cfa_Op_may.f (a0_0 a0_1 a0_2 : Int) : Option Bool := some (mayF a0_0 a0_1 a0_2)
theorem may_ne {a b : Int} (h : a ≠ b) : (a == b) = false ∧ (a != b) = true := ⟨beq_eq_false_iff_ne.mpr h, bne_iff_ne.mpr h⟩
theorem may_eq {a b : Int} (h : a = b) : (a == b) = true ∧ (a != b) = false := ⟨beq_iff_eq.mpr h, bne_eq_false_iff_eq.mpr h⟩
theorem cfa_Op_may.one (k r n : Int) (w : World) (hk : k = 0 ∨ k = 9 ∨ k = 10) :
    Calls Try.prog 58 #[.agg #[.int .i64 k, .int .i64 r, .int .i64 n]] w fun e w' => e = .returned (.bool (mayF k r n)) ∧ Below w.heap.size w w' := by
 by_cases hr : r = 0
 rotate_left
 ·
  obtain ⟨c1, c2⟩ := may_ne hr
  have e : mayF k r n = false := by rcases hk with rfl | rfl | rfl <;> simp [mayF, hr]
  rw [e]
  clear e hr
  rcases hk with rfl | rfl | rfl <;>
  ·
   go_enter Try.func58, Try.ntmps58
   go_wp2
   go_ret
   exact ⟨rfl, below_alloc (Below.refl _ _) _⟩
 subst hr
 by_cases hn : n = 0
 ·
  subst hn
  rcases hk with rfl | rfl | rfl <;>
  ·
   go_enter Try.func58, Try.ntmps58
   go_wp2
   go_ret
   exact ⟨rfl, below_alloc (Below.refl _ _) _⟩
 obtain ⟨c1, c2⟩ := may_ne hn
 have e : mayF k 0 n = false := by rcases hk with rfl | rfl | rfl <;> simp [mayF, hn]
 rw [e]
 clear e hn
 rcases hk with rfl | rfl | rfl <;>
 ·
  go_enter Try.func58, Try.ntmps58
  go_wp2
  go_ret
  exact ⟨rfl, below_alloc (Below.refl _ _) _⟩
theorem may_ge (a b : Int) : (∃ v, decide (b ≤ a) = v ∧ decide (a ≥ b) = v) := ⟨_, rfl, rfl⟩
theorem may_le (a b : Int) : (∃ v, decide (a ≤ b) = v) := ⟨_, rfl⟩
theorem cfa_Op_may.two (k r n : Int) (w : World) (hk : k = 1 ∨ k = 3) :
    Calls Try.prog 58 #[.agg #[.int .i64 k, .int .i64 r, .int .i64 n]] w fun e w' => e = .returned (.bool (mayF k r n)) ∧ Below w.heap.size w w' := by
 by_cases hr : r = 0
 ·
  subst hr
  have e : mayF k 0 n = (decide (0 ≤ n) && decide (n ≤ 2147483647)) := by rcases hk with rfl | rfl <;> simp [mayF]
  rw [e]
  clear e
  obtain ⟨v1, h1, g1⟩ := may_ge n 0
  obtain ⟨v2, h2⟩ := may_le n 2147483647
  rw [h1, h2]
  clear h1
  cases v1 <;> cases v2 <;> rcases hk with rfl | rfl <;>
  ·
   go_enter Try.func58, Try.ntmps58
   go_wp2
   go_ret
   exact ⟨rfl, below_alloc (Below.refl _ _) _⟩
 obtain ⟨c1, c2⟩ := may_ne hr
 have e : mayF k r n = false := by rcases hk with rfl | rfl <;> simp [mayF, hr]
 rw [e]
 clear e hr
 rcases hk with rfl | rfl <;>
 ·
  go_enter Try.func58, Try.ntmps58
  go_wp2
  go_ret
  exact ⟨rfl, below_alloc (Below.refl _ _) _⟩
set_option maxHeartbeats 4000000 in
theorem cfa_Op_may.three (r n : Int) (w : World) :
    Calls Try.prog 58 #[.agg #[.int .i64 2, .int .i64 r, .int .i64 n]] w fun e w' => e = .returned (.bool (mayF 2 r n)) ∧ Below w.heap.size w w' := by
 have e : mayF 2 r n = (decide (0 ≤ r) && (decide (r ≤ 16) && (decide (0 ≤ n) && decide (n ≤ 2147483647)))) := by simp [mayF]
 rw [e]
 clear e
 obtain ⟨v1, h1, g1⟩ := may_ge r 0
 obtain ⟨v2, h2⟩ := may_le r 16
 obtain ⟨v3, h3, g3⟩ := may_ge n 0
 obtain ⟨v4, h4⟩ := may_le n 2147483647
 rw [h1, h2, h3, h4]
 clear h1 h3
 cases v1 <;> cases v2 <;> cases v3 <;> cases v4 <;>
 ·
  go_enter Try.func58, Try.ntmps58
  go_wp2
  go_ret
  exact ⟨rfl, below_alloc (Below.refl _ _) _⟩
set_option maxHeartbeats 4000000 in
theorem cfa_Op_may.four (k r n : Int) (w : World) (hk : k = 4 ∨ k = 6 ∨ k = 7 ∨ k = 8) :
    Calls Try.prog 58 #[.agg #[.int .i64 k, .int .i64 r, .int .i64 n]] w fun e w' => e = .returned (.bool (mayF k r n)) ∧ Below w.heap.size w w' := by
 by_cases hn : n = 0
 ·
  subst hn
  have e : mayF k r 0 = (decide (0 ≤ r) && decide (r ≤ 16)) := by rcases hk with rfl | rfl | rfl | rfl <;> simp [mayF]
  rw [e]
  clear e
  obtain ⟨v1, h1, g1⟩ := may_ge r 0
  obtain ⟨v2, h2⟩ := may_le r 16
  rw [h1, h2]
  clear h1
  cases v1 <;> cases v2 <;> rcases hk with rfl | rfl | rfl | rfl <;>
  ·
   go_enter Try.func58, Try.ntmps58
   go_wp2
   go_ret
   exact ⟨rfl, below_alloc (Below.refl _ _) _⟩
 obtain ⟨c1, c2⟩ := may_ne hn
 have e : mayF k r n = false := by rcases hk with rfl | rfl | rfl | rfl <;> simp [mayF, hn]
 rw [e]
 clear e hn
 rcases hk with rfl | rfl | rfl | rfl <;>
 ·
  go_enter Try.func58, Try.ntmps58
  go_wp2
  go_ret
  exact ⟨rfl, below_alloc (Below.refl _ _) _⟩
set_option maxHeartbeats 4000000 in
theorem cfa_Op_may.five (r n : Int) (w : World) :
    Calls Try.prog 58 #[.agg #[.int .i64 5, .int .i64 r, .int .i64 n]] w fun e w' => e = .returned (.bool (mayF 5 r n)) ∧ Below w.heap.size w w' := by
 have e : mayF 5 r n = (decide (n.tmod 8 = 0) && (decide (0 ≤ r) && (decide (r ≤ 16) && (decide (-2147483648 ≤ n) && decide (n ≤ 2147483640))))) := by simp [mayF]
 rw [e]
 clear e
 by_cases hm : n.tmod 8 = 0
 rotate_left
 ·
  obtain ⟨c1, c2⟩ := may_ne hm
  rw [decide_eq_false hm]
  clear hm
  go_enter Try.func58, Try.ntmps58
  go_wp2
  go_ret
  exact ⟨rfl, below_alloc (Below.refl _ _) _⟩
 obtain ⟨c1, c2⟩ := may_eq hm
 rw [decide_eq_true hm]
 obtain ⟨v1, h1, g1⟩ := may_ge r 0
 obtain ⟨v2, h2⟩ := may_le r 16
 obtain ⟨v3, h3, g3⟩ := may_ge n (-2147483648)
 obtain ⟨v4, h4⟩ := may_le n 2147483640
 rw [h1, h2, h3, h4]
 clear h1 h3 hm
 cases v1 <;> cases v2 <;> cases v3 <;> cases v4 <;>
 ·
  go_enter Try.func58, Try.ntmps58
  go_wp2
  go_ret
  exact ⟨rfl, below_alloc (Below.refl _ _) _⟩
theorem cfa_Op_may.none_ (k r n : Int) (w : World) (h0 : k ≠ 0) (h1 : k ≠ 1) (h2 : k ≠ 2) (h3 : k ≠ 3) (h4 : k ≠ 4) (h5 : k ≠ 5) (h6 : k ≠ 6) (h7 : k ≠ 7) (h8 : k ≠ 8) (h9 : k ≠ 9) (h10 : k ≠ 10) :
    Calls Try.prog 58 #[.agg #[.int .i64 k, .int .i64 r, .int .i64 n]] w fun e w' => e = .returned (.bool (mayF k r n)) ∧ Below w.heap.size w w' := by
 have e : mayF k r n = false := by simp [mayF, *]
 rw [e]
 clear e
 obtain ⟨c0, _⟩ := may_ne h0
 obtain ⟨c1, _⟩ := may_ne h1
 obtain ⟨c2, _⟩ := may_ne h2
 obtain ⟨c3, _⟩ := may_ne h3
 obtain ⟨c4, _⟩ := may_ne h4
 obtain ⟨c5, _⟩ := may_ne h5
 obtain ⟨c6, _⟩ := may_ne h6
 obtain ⟨c7, _⟩ := may_ne h7
 obtain ⟨c8, _⟩ := may_ne h8
 obtain ⟨c9, _⟩ := may_ne h9
 obtain ⟨c10, _⟩ := may_ne h10
 clear h0 h1 h2 h3 h4 h5 h6 h7 h8 h9 h10
 go_enter Try.func58, Try.ntmps58
 go_wp2
 go_ret
 exact ⟨rfl, below_alloc (Below.refl _ _) _⟩
theorem cfa_Op_may.calls (a0_0 a0_1 a0_2 : Int) (r : Bool) (w : World) (h : cfa_Op_may.f a0_0 a0_1 a0_2 = some r) :
    Calls Try.prog 58 #[.agg #[.int .i64 a0_0, .int .i64 a0_1, .int .i64 a0_2]] w fun e w' => e = .returned (.bool r) ∧ Below w.heap.size w w' := by
 obtain rfl := Option.some.inj h
 by_cases hA : a0_0 = 0 ∨ a0_0 = 9 ∨ a0_0 = 10
 ·
  exact cfa_Op_may.one _ _ _ w hA
 by_cases hB : a0_0 = 1 ∨ a0_0 = 3
 ·
  exact cfa_Op_may.two _ _ _ w hB
 by_cases hC : a0_0 = 2
 ·
  subst hC
  exact cfa_Op_may.three _ _ w
 by_cases hD : a0_0 = 4 ∨ a0_0 = 6 ∨ a0_0 = 7 ∨ a0_0 = 8
 ·
  exact cfa_Op_may.four _ _ _ w hD
 by_cases hE : a0_0 = 5
 ·
  subst hE
  exact cfa_Op_may.five _ _ w
 exact cfa_Op_may.none_ _ _ _ w (by omega) (by omega) (by omega) (by omega) (by omega) (by omega) (by omega) (by omega) (by omega) (by omega) (by omega)
end Go.Proofs.Ytfgfnflhdabmcaa.G
end
section
namespace Go.Proofs.Ytfgfnflhdabmcaa.Cfa
open Go.RowKit Go.Proofs.Ytfgfnflhdabmcaa.G Go.Proofs.YtfgfnflhdabmcaaW.PrintWords Go.Proofs.YtfgfnflhdabmcaaW.PrintLast Go.Proofs.YtfgfnflhdabmcaaW.PrintMore
abbrev Row := List Int
structure T where
  rows : List Row
  now : Row
  first : Row
  kept : List Row
  size : Int
  begun : Bool
def row0 : Row := 0 :: -1 :: 0 :: List.replicate 34 0
def fresh (size : Int) : T := ⟨[], row0, List.replicate 37 0, [], size, false⟩
def ru (r : Int) : Nat := 3 + r.toNat * 2
def act (t : T) (k r n : Int) : Option T :=
  if k = 0 then some t
  else if k = 1 then if n = 0 then some t else if t.now.getD 0 0 + n ≤ t.size then some { t with rows := t.rows ++ [t.now], now := t.now.set 0 (t.now.getD 0 0 + n) } else none
  else if k = 2 then some { t with now := (t.now.set 1 r).set 2 n }
  else if k = 3 then if 0 ≤ t.now.getD 1 0 then some { t with now := t.now.set 2 n } else none
  else if k = 4 then if 0 ≤ t.now.getD 1 0 then some { t with now := t.now.set 1 r } else none
  else if k = 5 then some { t with now := (t.now.set (ru r) 2).set (ru r + 1) n }
  else if k = 6 then some { t with now := (t.now.set (ru r) (t.first.getD (ru r) 0)).set (ru r + 1) (t.first.getD (ru r + 1) 0) }
  else if k = 7 then some { t with now := (t.now.set (ru r) 1).set (ru r + 1) 0 }
  else if k = 8 then some { t with now := (t.now.set (ru r) 0).set (ru r + 1) 0 }
  else if k = 9 then if t.kept.length + 1 ≤ 64 then some { t with kept := t.kept ++ [t.now] } else none
  else if t.kept = [] then none else some { t with now := (t.kept.getLastD []).set 0 (t.now.getD 0 0), kept := t.kept.dropLast }
def does (t : T) (k r n : Int) : Option T :=
  if mayF k r n = false then none
  else if t.begun = false ∧ (k = 1 ∨ k = 9 ∨ k = 10 ∨ k = 6) then none
  else act t k r n
def doAll (t : T) : List (Int × Int × Int) → Option T
  | [] => some t
  | o :: l => (does t o.1 o.2.1 o.2.2).bind fun t' => doAll t' l
def begin_ (t : T) (l : List (Int × Int × Int)) : Option T :=
  (doAll t l).bind fun t' => if 0 ≤ t'.now.getD 1 0 then some { t' with first := t'.now, begun := true } else none
def run (initial ops : List (Int × Int × Int)) (size : Int) : Option T := (begin_ (fresh size) initial).bind fun t => doAll t ops
def rowsOf (initial ops : List (Int × Int × Int)) (size : Int) : List Row × Int :=
  if size < 0 ∨ 1048576 < size then ([], 11)
  else if 4000 < initial.length ∨ 4000 < ops.length then ([], 6)
  else match run initial ops size with
    | none => ([], 130)
    | some t => (t.rows ++ [t.now], 0)
theorem ite_cases {α : Type} {p : Prop} [Decidable p] {a b c : α} (e : (if p then a else b) = c) : (p ∧ a = c) ∨ (¬ p ∧ b = c) := by
  by_cases h : p
  · rw [if_pos h] at e; exact .inl ⟨h, e⟩
  · rw [if_neg h] at e; exact .inr ⟨h, e⟩
structure Good (t : T) : Prop where
  now : t.now.length = 37
  first : t.first.length = 37
  rows : ∀ r ∈ t.rows, r.length = 37
  kept : ∀ r ∈ t.kept, r.length = 37
  at0 : 0 ≤ t.now.getD 0 0
  size : t.size ≤ 1048576
  atS : 0 ≤ t.size → t.now.getD 0 0 ≤ t.size
theorem good_fresh (size : Int) (h : size ≤ 1048576) : Good (fresh size) := ⟨rfl, rfl, by simp [fresh], by simp [fresh], by simp [fresh, row0], h, fun h => h⟩
theorem getD_set_ne {l : Row} {i j : Nat} (h : i ≠ j) (x : Int) : (l.set i x).getD j 0 = l.getD j 0 := by
  simp [List.getD_eq_getElem?_getD, List.getElem?_set_ne h]
theorem getD_set_eq {l : Row} {i : Nat} (h : i < l.length) (x : Int) : (l.set i x).getD i 0 = x := by
  simp [List.getD_eq_getElem?_getD, h]
theorem ru_ne (r : Int) : ru r ≠ 0 ∧ ru r + 1 ≠ 0 := by unfold ru; omega
theorem getLastD_mem {l : List Row} (h : l ≠ []) : l.getLastD [] ∈ l := by
  rw [List.getLastD_eq_getLast?, List.getLast?_eq_some_getLast h]
  exact List.getLast_mem h
theorem may_n {k r n : Int} (h : mayF k r n = true) (hk : k = 1) : 0 ≤ n ∧ n ≤ 2147483647 := by
  subst hk
  simp [mayF] at h
  omega
theorem may_r {k r n : Int} (h : mayF k r n = true) : 0 ≤ r ∧ r ≤ 16 := by
  unfold mayF at h
  split at h
  · simp only [Bool.and_eq_true, decide_eq_true_eq] at h; omega
  split at h
  · simp only [Bool.and_eq_true, decide_eq_true_eq] at h; omega
  split at h
  · simp only [Bool.and_eq_true, decide_eq_true_eq] at h; omega
  split at h
  · simp only [Bool.and_eq_true, decide_eq_true_eq] at h; omega
  split at h
  · simp only [Bool.and_eq_true, decide_eq_true_eq] at h; omega
  · cases h
theorem may_k {k r n : Int} (h : mayF k r n = true) : 0 ≤ k ∧ k ≤ 10 := by
  unfold mayF at h
  split at h
  · omega
  split at h
  · omega
  split at h
  · omega
  split at h
  · omega
  split at h
  · omega
  · cases h
theorem good_act {t t' : T} {k r n : Int} (h : Good t) (hm : mayF k r n = true) (e : act t k r n = some t') : Good t' := by
  obtain ⟨h1, h2, h3, h4, h5, h6, h7⟩ := h
  have hr := ru_ne r
  unfold act at e
  rcases ite_cases e with ⟨cc, e⟩ | ⟨cc, e⟩
  · cases e; exact ⟨h1, h2, h3, h4, h5, h6, h7⟩
  rcases ite_cases e with ⟨cc, e⟩ | ⟨cc, e⟩
  · have hn := may_n hm cc
    rcases ite_cases e with ⟨cc, e⟩ | ⟨cc, e⟩
    · cases e; exact ⟨h1, h2, h3, h4, h5, h6, h7⟩
    rcases ite_cases e with ⟨cc, e⟩ | ⟨cc, e⟩
    · cases e
      have hs := cc
      refine ⟨by simpa using h1, h2, fun q hq => ?_, h4, ?_, h6, fun _ => ?_⟩
      · rcases List.mem_append.1 hq with hq | hq
        · exact h3 q hq
        · rw [List.mem_singleton.1 hq]; exact h1
      · show 0 ≤ (t.now.set 0 _).getD 0 0
        rw [getD_set_eq (by omega)]; omega
      · show (t.now.set 0 _).getD 0 0 ≤ t.size
        rw [getD_set_eq (by omega)]; exact hs
    · cases e
  rcases ite_cases e with ⟨cc, e⟩ | ⟨cc, e⟩
  · cases e
    refine ⟨by simpa using h1, h2, h3, h4, ?_, h6, fun hz => ?_⟩
    · show 0 ≤ ((t.now.set 1 r).set 2 n).getD 0 0
      rw [getD_set_ne (by decide), getD_set_ne (by decide)]; exact h5
    · show ((t.now.set 1 r).set 2 n).getD 0 0 ≤ t.size
      rw [getD_set_ne (by decide), getD_set_ne (by decide)]; exact h7 hz
  rcases ite_cases e with ⟨cc, e⟩ | ⟨cc, e⟩
  · rcases ite_cases e with ⟨cc, e⟩ | ⟨cc, e⟩
    · cases e
      refine ⟨by simpa using h1, h2, h3, h4, ?_, h6, fun hz => ?_⟩
      · show 0 ≤ (t.now.set 2 n).getD 0 0
        rw [getD_set_ne (by decide)]; exact h5
      · show (t.now.set 2 n).getD 0 0 ≤ t.size
        rw [getD_set_ne (by decide)]; exact h7 hz
    · cases e
  rcases ite_cases e with ⟨cc, e⟩ | ⟨cc, e⟩
  · rcases ite_cases e with ⟨cc, e⟩ | ⟨cc, e⟩
    · cases e
      refine ⟨by simpa using h1, h2, h3, h4, ?_, h6, fun hz => ?_⟩
      · show 0 ≤ (t.now.set 1 r).getD 0 0
        rw [getD_set_ne (by decide)]; exact h5
      · show (t.now.set 1 r).getD 0 0 ≤ t.size
        rw [getD_set_ne (by decide)]; exact h7 hz
    · cases e
  have two : ∀ x y : Int, Good { t with now := (t.now.set (ru r) x).set (ru r + 1) y } := fun x y => by
    refine ⟨by simpa using h1, h2, h3, h4, ?_, h6, fun hz => ?_⟩
    · show 0 ≤ ((t.now.set (ru r) x).set (ru r + 1) y).getD 0 0
      rw [getD_set_ne hr.2, getD_set_ne hr.1]; exact h5
    · show ((t.now.set (ru r) x).set (ru r + 1) y).getD 0 0 ≤ t.size
      rw [getD_set_ne hr.2, getD_set_ne hr.1]; exact h7 hz
  rcases ite_cases e with ⟨cc, e⟩ | ⟨cc, e⟩
  · cases e; exact two _ _
  rcases ite_cases e with ⟨cc, e⟩ | ⟨cc, e⟩
  · cases e; exact two _ _
  rcases ite_cases e with ⟨cc, e⟩ | ⟨cc, e⟩
  · cases e; exact two _ _
  rcases ite_cases e with ⟨cc, e⟩ | ⟨cc, e⟩
  · cases e; exact two _ _
  rcases ite_cases e with ⟨cc, e⟩ | ⟨cc, e⟩
  · rcases ite_cases e with ⟨cc, e⟩ | ⟨cc, e⟩
    · cases e
      refine ⟨h1, h2, h3, fun q hq => ?_, h5, h6, h7⟩
      rcases List.mem_append.1 hq with hq | hq
      · exact h4 q hq
      · rw [List.mem_singleton.1 hq]; exact h1
    · cases e
  rcases ite_cases e with ⟨cc, e⟩ | ⟨cc, e⟩
  · cases e
  · have hne := cc
    cases e
    have hl := h4 _ (getLastD_mem hne)
    refine ⟨by simpa using hl, h2, h3, fun q hq => h4 q (List.dropLast_subset _ hq), ?_, h6, fun hz => ?_⟩
    · show 0 ≤ ((t.kept.getLastD []).set 0 (t.now.getD 0 0)).getD 0 0
      rw [getD_set_eq (by omega)]; exact h5
    · show ((t.kept.getLastD []).set 0 (t.now.getD 0 0)).getD 0 0 ≤ t.size
      rw [getD_set_eq (by omega)]; exact h7 hz
theorem act_size {t t' : T} {k r n : Int} (e : act t k r n = some t') : t'.size = t.size ∧ t'.begun = t.begun ∧ t'.first = t.first ∧ t'.rows.length ≤ t.rows.length + 1 ∧ t'.kept.length ≤ t.kept.length + 1 := by
  have hc : ∀ {x : T}, some x = some t' → x.size = t.size → x.begun = t.begun → x.first = t.first → x.rows.length ≤ t.rows.length + 1 → x.kept.length ≤ t.kept.length + 1 → t'.size = t.size ∧ t'.begun = t.begun ∧ t'.first = t.first ∧ t'.rows.length ≤ t.rows.length + 1 ∧ t'.kept.length ≤ t.kept.length + 1 := by
    intro x hx a b c d e
    cases hx
    exact ⟨a, b, c, d, e⟩
  have hn : ∀ {p : Prop} [Decidable p] {x : T}, (if p then some x else none) = some t' → some x = some t' := by
    intro p _ x h
    split at h
    · exact h
    · cases h
  unfold act at e
  rcases ite_cases e with ⟨cc, e⟩ | ⟨cc, e⟩
  · exact hc e rfl rfl rfl (Nat.le_succ _) (Nat.le_succ _)
  rcases ite_cases e with ⟨cc, e⟩ | ⟨cc, e⟩
  · rcases ite_cases e with ⟨cc, e⟩ | ⟨cc, e⟩
    · exact hc e rfl rfl rfl (Nat.le_succ _) (Nat.le_succ _)
    · exact hc (hn e) rfl rfl rfl (by simp) (Nat.le_succ _)
  rcases ite_cases e with ⟨cc, e⟩ | ⟨cc, e⟩
  · exact hc e rfl rfl rfl (Nat.le_succ _) (Nat.le_succ _)
  rcases ite_cases e with ⟨cc, e⟩ | ⟨cc, e⟩
  · exact hc (hn e) rfl rfl rfl (Nat.le_succ _) (Nat.le_succ _)
  rcases ite_cases e with ⟨cc, e⟩ | ⟨cc, e⟩
  · exact hc (hn e) rfl rfl rfl (Nat.le_succ _) (Nat.le_succ _)
  rcases ite_cases e with ⟨cc, e⟩ | ⟨cc, e⟩
  · exact hc e rfl rfl rfl (Nat.le_succ _) (Nat.le_succ _)
  rcases ite_cases e with ⟨cc, e⟩ | ⟨cc, e⟩
  · exact hc e rfl rfl rfl (Nat.le_succ _) (Nat.le_succ _)
  rcases ite_cases e with ⟨cc, e⟩ | ⟨cc, e⟩
  · exact hc e rfl rfl rfl (Nat.le_succ _) (Nat.le_succ _)
  rcases ite_cases e with ⟨cc, e⟩ | ⟨cc, e⟩
  · exact hc e rfl rfl rfl (Nat.le_succ _) (Nat.le_succ _)
  rcases ite_cases e with ⟨cc, e⟩ | ⟨cc, e⟩
  · exact hc (hn e) rfl rfl rfl (Nat.le_succ _) (by simp)
  rcases ite_cases e with ⟨cc, e⟩ | ⟨cc, e⟩
  · cases e
  · exact hc e rfl rfl rfl (Nat.le_succ _) (by simp; omega)
theorem does_size {t t' : T} {k r n : Int} (e : does t k r n = some t') : t'.size = t.size ∧ t'.begun = t.begun ∧ t'.first = t.first ∧ t'.rows.length ≤ t.rows.length + 1 ∧ t'.kept.length ≤ t.kept.length + 1 := by
  unfold does at e
  rcases ite_cases e with ⟨cc, e⟩ | ⟨cc, e⟩
  · cases e
  rcases ite_cases e with ⟨cc, e⟩ | ⟨cc, e⟩
  · cases e
  exact act_size e
def zrow : List Int := List.replicate 37 0
theorem zrow_len : zrow.length = 37 := by unfold zrow; simp
def rowK : Kd Row := Kd.arr 37 (Kd.int .i64) (by decide)
theorem info145 : (Try.prog.info? 145).map (fun i => (i.zero, i.size, i.bytes)) = some (some (.agg (Array.replicate 37 (.int .i64 0))), 37, 296) := by kernel_rfl
def cells (rv kv : Value) (t : T) : List Value := rv :: (nums .i64 t.now ++ (nums .i64 t.first ++ [kv, .int .i64 t.size, .bool t.begun]))
structure Tab (w : World) (base g : Nat) (t : T) (rv kv : Value) : Prop where
  good : Good t
  lo : base ≤ g
  blk : w.heap[g]? = some (.cells (cells rv kv t).toArray 147 (0, 0))
  rows : Kd.R rowK 145 w base (fun k => k ≠ g ∧ some k ≠ kv.ownBlock) rv t.rows
  kept : Kd.R rowK 145 w base (fun k => k ≠ g ∧ some k ≠ rv.ownBlock) kv t.kept
section
variable {w w' : World} {base g : Nat} {t t' : T} {rv kv rv' kv' : Value}
theorem cells_len (h : Good t) : (cells rv kv t).length = 78 := by
 simp [cells, nums_length, h.now, h.first]
theorem nums_get {l : List Int} {j : Nat} (hj : j < l.length) : (nums .i64 l)[j]? = some (.int .i64 (l.getD j 0)) := by
 simp [nums, List.getElem?_eq_getElem hj, List.getD_eq_getElem?_getD]
theorem cells_now (h : Good t) (j : Nat) (hj : j < 37) : (cells rv kv t)[1 + j]? = some (.int .i64 (t.now.getD j 0)) := by
 rw [cells, Nat.add_comm, List.getElem?_cons_succ, List.getElem?_append_left (by rw [nums_length, h.now]; exact hj)]
 exact nums_get (by rw [h.now]; exact hj)
theorem cells_first (h : Good t) (j : Nat) (hj : j < 37) : (cells rv kv t)[38 + j]? = some (.int .i64 (t.first.getD j 0)) := by
 rw [cells, show 38 + j = (37 + j) + 1 from by omega, List.getElem?_cons_succ, List.getElem?_append_right (by rw [nums_length, h.now]; omega), nums_length, h.now, Nat.add_sub_cancel_left,
   List.getElem?_append_left (by rw [nums_length, h.first]; exact hj)]
 exact nums_get (by rw [h.first]; exact hj)
theorem cells_tail (h : Good t) (j : Nat) : (cells rv kv t)[75 + j]? = [kv, .int .i64 t.size, .bool t.begun][j]? := by
 rw [cells, show 75 + j = (74 + j) + 1 from by omega, List.getElem?_cons_succ, List.getElem?_append_right (by rw [nums_length, h.now]; omega), nums_length, h.now,
   List.getElem?_append_right (by rw [nums_length, h.first]; omega), nums_length, h.first, show 74 + j - 37 - 37 = j from by omega]
theorem Tab.cell (h : Tab w base g t rv kv) (j : Nat) : w.cell? ⟨g, j, none⟩ = (cells rv kv t)[j]? := by
 rw [cell_of_row w g j _ _ _ h.blk, List.getElem?_toArray]
theorem Tab.free (h : Tab w base g t rv kv) (j : Nat) : w.frozen? ⟨g, j, none⟩ = false := blk_frozen h.blk j
theorem Tab.rowsC (h : Tab w base g t rv kv) : w.cell? ⟨g, 0, none⟩ = some rv := by rw [h.cell]; rfl
theorem Tab.now (h : Tab w base g t rv kv) (j : Nat) (hj : j < 37) : w.cell? ⟨g, 1 + j, none⟩ = some (.int .i64 (t.now.getD j 0)) := by rw [h.cell, cells_now h.good j hj]
theorem Tab.first (h : Tab w base g t rv kv) (j : Nat) (hj : j < 37) : w.cell? ⟨g, 38 + j, none⟩ = some (.int .i64 (t.first.getD j 0)) := by rw [h.cell, cells_first h.good j hj]
theorem Tab.keptC (h : Tab w base g t rv kv) : w.cell? ⟨g, 75, none⟩ = some kv := by rw [h.cell]; exact cells_tail h.good 0
theorem Tab.size (h : Tab w base g t rv kv) : w.cell? ⟨g, 76, none⟩ = some (.int .i64 t.size) := by rw [h.cell]; exact cells_tail h.good 1
theorem Tab.begun (h : Tab w base g t rv kv) : w.cell? ⟨g, 77, none⟩ = some (.bool t.begun) := by rw [h.cell]; exact cells_tail h.good 2
theorem Tab.below (h : Tab w base g t rv kv) (hb : Below w.heap.size w w') : Tab w' base g t rv kv :=
  ⟨h.good, h.lo, blk_below h.blk hb, Kd.R_below h.rows hb, Kd.R_below h.kept hb⟩
theorem Tab.turn (h : Tab w base g t rv kv) (hg : w.grownBy w' (some g)) (good : Good t') (hb : w'.heap[g]? = some (.cells (cells rv kv t').toArray 147 (0, 0))) (hr : t'.rows = t.rows) (hk : t'.kept = t.kept) : Tab w' base g t' rv kv :=
  ⟨good, h.lo, hb, by rw [hr]; exact Kd.R_grown h.rows hg (fun k hk e => hk.1 (Option.some.inj e)), by rw [hk]; exact Kd.R_grown h.kept hg (fun k hk e => hk.1 (Option.some.inj e))⟩
theorem grown_set (w : World) (g j : Nat) (v : Value) : w.grownBy (w.setCell ⟨g, j, none⟩ v) (some g) :=
  ⟨rfl, rfl, rfl, by simp [World.setCell], fun k _ hk => Below.heap_setCell w ⟨g, j, none⟩ v k (fun e => hk (by rw [e]))⟩
theorem grown_drew {row : Option Nat} (h : w.grownBy w' row) : w.grownBy w'.drew row := ⟨h.os, h.tape, h.output, h.size, h.block⟩
theorem grown_alloc {row : Option Nat} (h : w.grownBy w' row) (o : Obj) : w.grownBy (w'.alloc o) row := World.grownBy.trans h (World.grownBy_alloc _ _ _)
theorem grown_set' (h : w.grownBy w' (some g)) (j : Nat) (v : Value) : w.grownBy (w'.setCell ⟨g, j, none⟩ v) (some g) := World.grownBy.trans h (grown_set _ _ _ _)
theorem grown_below' {row : Option Nat} (h : w.grownBy w' row) {w2 : World} (hb : Below w'.heap.size w' w2) : w.grownBy w2 row := World.grownBy.trans h (grown_of_below hb row)
theorem below_grown (hg : w.grownBy w' (some g)) (h0 : base ≤ w.heap.size) (h1 : base ≤ g) : Below base w w' := (Below.refl base w).grown hg h0 (fun k hk => by cases hk; exact h1)
theorem set_now (hb : w.heap[g]? = some (.cells (cells rv kv t).toArray 147 (0, 0))) (h : Good t) (j : Nat) (hj : j < 37) (x : Int) :
    (w.setCell ⟨g, 1 + j, none⟩ (.int .i64 x)).heap[g]? = some (.cells (cells rv kv { t with now := t.now.set j x }).toArray 147 (0, 0)) := by
 refine blk_put hb _ _ ?_
 rw [List.setIfInBounds_toArray, cells, cells, Nat.add_comm, List.set_cons_succ, List.set_append_left _ _ (by rw [nums_length, h.now]; exact hj)]
 simp [nums, List.map_set]
theorem set_rows (hb : w.heap[g]? = some (.cells (cells rv kv t).toArray 147 (0, 0))) (v : Value) (rs : List Row) :
    (w.setCell ⟨g, 0, none⟩ v).heap[g]? = some (.cells (cells v kv { t with rows := rs }).toArray 147 (0, 0)) := by
 refine blk_put hb _ _ ?_
 rw [List.setIfInBounds_toArray]
 rfl
theorem set_kept (hb : w.heap[g]? = some (.cells (cells rv kv t).toArray 147 (0, 0))) (h : Good t) (v : Value) (ks : List Row) :
    (w.setCell ⟨g, 75, none⟩ v).heap[g]? = some (.cells (cells rv v { t with kept := ks }).toArray 147 (0, 0)) := by
 refine blk_put hb _ _ ?_
 rw [List.setIfInBounds_toArray, cells, cells, show 75 = 74 + 1 from rfl, List.set_cons_succ, List.set_append_right _ _ (by rw [nums_length, h.now]; omega), nums_length, h.now,
   List.set_append_right _ _ (by rw [nums_length, h.first]; omega), nums_length, h.first]
 rfl
theorem set_begun (hb : w.heap[g]? = some (.cells (cells rv kv t).toArray 147 (0, 0))) (h : Good t) (b : Bool) :
    (w.setCell ⟨g, 77, none⟩ (.bool b)).heap[g]? = some (.cells (cells rv kv { t with begun := b }).toArray 147 (0, 0)) := by
 refine blk_put hb _ _ ?_
 rw [List.setIfInBounds_toArray, cells, cells, show 77 = 76 + 1 from rfl, List.set_cons_succ, List.set_append_right _ _ (by rw [nums_length, h.now]; omega), nums_length, h.now,
   List.set_append_right _ _ (by rw [nums_length, h.first]; omega), nums_length, h.first]
 rfl
theorem rule_at (g o m : Nat) (hm : m ≤ 16) (W : World) : (Instr.indexAt 143 (.pointer (some ⟨g, o, none⟩)) (.int .i64 (m : Int))).run Try.prog W = .ok (.pointer (some ⟨g, o + m * 2, none⟩)) W := by
 have h1 : Try.prog.arrayLen 143 = 17 := by kernel_rfl
 have h2 : Try.prog.elem 143 = 142 := by kernel_rfl
 have h3 : (sizeOf 142).run Try.prog W = .ok 2 W := by kernel_rfl
 rw [run_indexAt_array (P := Try.prog) W _ _ _ _ (by rw [h1, h2]; exact Try.underlying143), h1, if_pos (by omega), h2, h3]
 simp only [Result.andThen, Int.toNat_natCast, Addr.add_mid]
theorem still_tail {P : Program} {id : Nat} {Q : Exit → Act → World → Prop} {a : Act} {w : World} {l : List Oper} (n : Nat) (hm : P.follows .mixedOrders = true) (hB : Region.lexTailB .any l.toArray n = true)
    (h : wpStill P l.toArray w.drew (fun a' => wpList P l.toArray Q (l.drop n) a' w.drew) (l.take n) a) : (Code.region id l.toArray true).wp P Q a w := wp_region_still_tail n hm hB h
theorem fill_list (vs : List Value) : ∀ (k : Nat) (cs : Array Value), cs.size = k + vs.length → ((vs.zipIdx k).foldl (fun cs (x : Value × Nat) => cs.setIfInBounds (0 + x.2) x.1) cs).toList = cs.toList.take k ++ vs := by
 induction vs with
 | nil =>
  intro k cs h
  simp only [List.zipIdx_nil, List.foldl_nil, List.append_nil]
  rw [List.take_of_length_le (by rw [List.length_nil] at h; rw [Array.length_toList]; omega)]
 | cons v vs ih =>
  intro k cs h
  rw [List.length_cons] at h
  rw [List.zipIdx_cons, List.foldl_cons, ih (k + 1) _ (by simp; omega)]
  simp only [Nat.zero_add, Array.toList_setIfInBounds]
  rw [List.take_succ_eq_append_getElem (by simp; omega), List.take_set, List.set_eq_of_length_le (by simp; omega)]
  simp
theorem fill_all (vs : List Value) (cs : Array Value) (h : cs.size = vs.length) : vs.toArray.zipIdx.foldl (fun cs (x : Value × Nat) => cs.setIfInBounds (0 + x.2) x.1) cs = vs.toArray := by
 have h1 := fill_list vs 0 cs (by omega)
 apply Array.ext'
 rw [← Array.foldl_toList, Array.toList_zipIdx]
 simpa using h1
theorem build_row (l : List Int) (hl : l.length = 37) (W : World) : (Instr.buildSlice 111 1 #[(0, .agg (nums .i64 l).toArray)]).run Try.prog W = .ok (.slice (some ⟨W.heap.size, 0, none⟩) 1 1) (W.alloc (.cells (nums .i64 l).toArray 145)) := by
 obtain ⟨i0, hi, hzz⟩ := Option.map_eq_some_iff.1 info145
 simp only [Prod.mk.injEq] at hzz
 obtain ⟨hz0, hz1, hz2⟩ := hzz
 refine run_buildSlice (P := Try.prog) W _ 145 1 _ _ i0 _ Try.underlying111 hi hz0 (by rw [hz1]; decide) (by rw [hz1]; decide) ?_
 have hn : (nums .i64 l).length = 37 := by rw [nums_length, hl]
 simp only [Instr.fill, hz1, Nat.zero_mul, Value.cells, List.size_toArray, hn]
 rw [if_neg (by simp)]
 simp only [Option.some.injEq]
 exact fill_all _ _ (by simp [hn])
theorem wp_build_row {o : Oper} {a : Act} {w : World} {K : Act → World → Prop} {Q : Exit → Act → World → Prop} (x : Operand) (ho : o.op = .buildSlice 111 1 #[(0, x)]) (l : List Int) (hl : l.length = 37) (hx : a.eval x = .agg (nums .i64 l).toArray)
    (h : K (a.put o.dst (.slice (some ⟨w.heap.size, 0, none⟩) 1 1)) (w.alloc (.cells (nums .i64 l).toArray 145))) : o.wp Try.prog a w K Q := by
 unfold Oper.wp execOp
 have hb := build_row l hl w
 simp only [ho, List.map_toArray, List.map_cons, List.map_nil, hx, Sem.run_bind, hb, Result.andThen_ok]
 exact h
theorem load_row_y {ops : Array Oper} {S : World → Prop} {op : Oper} {a : Act} (hw : Region.wanted op (yielded ops a.tmps) = true) (x : Operand) (ho : op.op = .load 145 x) (b o : Nat) (hx : a.eval x = .pointer (some ⟨b, o, none⟩)) (l : List Int) (hl : l.length = 37)
    (hS : ∀ w, S w → w.rangeAt b o (nums .i64 l)) : YieldsIf Try.prog ops S op (.agg (nums .i64 l).toArray) a :=
  yieldsIf_load_mid hw 145 x ho b o hx _ _ hS Try.underlying145 rfl (by rw [nums_length, hl]; kernel_rfl)
theorem row_M (w : World) (base : Nat) (ok : Nat → Prop) (l : List Int) (hl : l.length = 37) : rowK.M w base ok l (nums .i64 l) := Kd.arr_of_cells (n := 37) (enc := Value.int .i64) (h1 := fun _ => rfl) (hs := by decide) hl
theorem row_K {w : World} {l : List Int} {cs : List Value} (h : rowK.K w l cs) : l.length = 37 ∧ cs = nums .i64 l := Kd.arr_cells (n := 37) (enc := Value.int .i64) (h1 := fun _ => rfl) (hs := by decide) h
section
variable {w w1 W : World} {base g : Nat} {t : T} {rv kv v1 : Value}
theorem Tab.nowR (h : Tab w base g t rv kv) : w.rangeAt g 1 (nums .i64 t.now) := fun j v hv => by
  have hj : j < 37 := by
    have := (List.getElem?_eq_some_iff.1 hv).1
    rwa [nums_length, h.good.now] at this
  rw [h.now j hj, ← hv, nums_get (by rw [h.good.now]; exact hj)]
theorem R_beside {e e' base : Nat} {rv kv v1 : Value} {xs : List Row} (h : Kd.R rowK e W base (fun k => k ≠ g ∧ some k ≠ kv.ownBlock) rv xs) (hg : W.grownBy w1 kv.ownBlock) (hat : v1.ownBlock = kv.ownBlock ∨ ∃ b, v1.ownBlock = some b ∧ W.heap.size ≤ b) :
    Kd.R rowK e w1 base (fun k => k ≠ g ∧ some k ≠ v1.ownBlock) rv xs := by
 have h1 := Kd.R_bound h
 refine Kd.R_mono (Kd.R_grown h1 hg (fun k hk => hk.1.2)) (fun k hk => ⟨hk.1.1, ?_⟩)
 rcases hat with hat | ⟨b, hb, hle⟩
 ·
  rw [hat]; exact hk.1.2
 rw [hb]
 intro e
 injection e with e
 have := hk.2.2.1
 omega
theorem Tab.kept_app (h : Tab w base g t rv kv) (hb : Below w.heap.size w W) (hg : W.grownBy w1 kv.ownBlock) (hat : v1.ownBlock = kv.ownBlock ∨ ∃ b, v1.ownBlock = some b ∧ W.heap.size ≤ b) {ks : List Row} (ho : Kd.R rowK 145 w1 base (fun k => k ≠ g ∧ some k ≠ rv.ownBlock) v1 ks)
    (good : Good { t with kept := ks }) : Tab (w1.setCell ⟨g, 75, none⟩ v1) base g { t with kept := ks } rv v1 := by
 have h1 := h.below hb
 have hc := blk_grown h1.blk hg (fun e => (h1.kept.1 g e.symm).1 rfl)
 exact ⟨good, h.lo, set_kept hc h.good v1 ks, Kd.R_far (p := ⟨g, 75, none⟩) (R_beside (e' := 0) h1.rows hg hat) (fun k hk => hk.1) v1, Kd.R_far (p := ⟨g, 75, none⟩) ho (fun k hk => hk.1) v1⟩
theorem Tab.rows_app (h : Tab w base g t rv kv) (hb : Below w.heap.size w W) (hg : W.grownBy w1 rv.ownBlock) (hat : v1.ownBlock = rv.ownBlock ∨ ∃ b, v1.ownBlock = some b ∧ W.heap.size ≤ b) {rs : List Row} (ho : Kd.R rowK 145 w1 base (fun k => k ≠ g ∧ some k ≠ kv.ownBlock) v1 rs)
    (good : Good { t with rows := rs }) : Tab (w1.setCell ⟨g, 0, none⟩ v1) base g { t with rows := rs } v1 kv := by
 have h1 := h.below hb
 have hc := blk_grown h1.blk hg (fun e => (h1.rows.1 g e.symm).1 rfl)
 exact ⟨good, h.lo, set_rows hc v1 rs, Kd.R_far (p := ⟨g, 0, none⟩) ho (fun k hk => hk.1) v1, Kd.R_far (p := ⟨g, 0, none⟩) (R_beside (e' := 0) h1.kept hg hat) (fun k hk => hk.1) v1⟩
end
end
theorem setCells_block {w : World} {g o : Nat} {e : TypeId} {cur : Array Value} (vs : List Value) (h : w.heap[g]? = some (.cells cur e (0, 0))) (hl : o + vs.length ≤ cur.size) :
    (w.setCells g o vs).heap[g]? = some (.cells (cur.toList.take o ++ vs ++ cur.toList.drop (o + vs.length)).toArray e (0, 0)) := by
 obtain ⟨cur', h1, h2, h3⟩ := setCells_row vs o w cur h hl
 rw [h1, ← h3]
structure RowTy (tr ts : TypeId) : Prop where
  info : (Try.prog.info? tr).map (fun i => (i.zero, i.size, i.bytes)) = some (some (.agg (Array.replicate 37 (.int .i64 0))), 37, 296)
  under : ∃ d, Try.prog.underlying tr = some d ∧ d.isRow = true
  slice : Try.prog.underlying ts = some (.slice tr)
theorem rowTy : RowTy 145 111 := ⟨info145, ⟨_, Try.underlying145, rfl⟩, Try.underlying111⟩
section
variable {tr ts : TypeId} (T : RowTy tr ts) {ops : Array Oper} {rest : List Oper} {op : Oper} {a : Act} {w : World} {Q : Exit → Act → World → Prop} {l : List Int}
include T
theorem RowTy.sz (hl : l.length = 37) : (Try.prog.info? tr).map (·.size) = some (nums .i64 l).length := by
 obtain ⟨i0, hi, hzz⟩ := Option.map_eq_some_iff.1 T.info
 simp only [Prod.mk.injEq] at hzz
 rw [hi, Option.map_some, hzz.2.1, nums_length, hl]
theorem load_rowW (hgd : op.guard = none) (x : Operand) (ho : op.op = .load tr x) (b o : Nat) (hx : a.eval x = .pointer (some ⟨b, o, none⟩)) (l : List Int) (hl : l.length = 37) (hc : w.rangeAt b o (nums .i64 l))
    (h : wpList Try.prog ops Q rest (a.put op.dst (.agg (nums .i64 l).toArray)) w) : wpList Try.prog ops Q (op :: rest) a w := by
 obtain ⟨d, hd, hr⟩ := T.under
 exact wpList_load_mid hgd tr x ho b o hx _ d hc hd hr (T.sz hl) h
theorem store_rowW (hgd : op.guard = none) (x y : Operand) (ho : op.op = .store tr x y) (b o : Nat) (l : List Int) (hl : l.length = 37) (hx : a.eval x = .pointer (some ⟨b, o, none⟩)) (hy : a.eval y = .agg (nums .i64 l).toArray) (ht : w.there b o 37)
    (h : wpList Try.prog ops Q rest (a.put op.dst undef) (w.setCells b o (nums .i64 l))) : wpList Try.prog ops Q (op :: rest) a w := by
 have hn : (nums .i64 l).toArray.size = 37 := by rw [List.size_toArray, nums_length, hl]
 refine wpList_store_mid hgd tr x y ho b o _ hx hy (by rw [hn]; exact ht) (by rw [hn]; have := T.sz hl; rwa [nums_length, hl] at this) (all_oneCell_toArray (fun v hv => ?_)) (by simpa using h)
 obtain ⟨n, _, rfl⟩ := List.mem_map.1 hv
 rfl
theorem alloc_rowK {K : Act → World → Prop} (ho : op.op = .alloc tr) (h : K (a.put op.dst (.pointer (some ⟨w.heap.size, 0, none⟩))) (w.alloc (.cells (nums .i64 zrow).toArray tr))) : op.wp Try.prog a w K Q := by
 obtain ⟨i0, hi, hzz⟩ := Option.map_eq_some_iff.1 T.info
 simp only [Prod.mk.injEq] at hzz
 obtain ⟨hz0, hz1, hz2⟩ := hzz
 have hz : (zeroValue tr).run Try.prog w = .ok (.agg (nums .i64 zrow).toArray) w := by
  have hZ : Array.replicate 37 (Value.int .i64 0) = (nums .i64 zrow).toArray := by
   rw [zrow, nums, List.map_replicate, List.toArray_replicate]
  rw [hZ] at hz0
  generalize (nums .i64 zrow).toArray = Z at *
  simp [zeroValue, typeInfo, hi, hz0]
 generalize (nums .i64 zrow).toArray = Z at *
 have hr : (execOp a.eval op).run Try.prog w = .ok (.value (.pointer (some ⟨w.heap.size, 0, none⟩))) (w.alloc (.cells Z tr)) := by
  unfold execOp
  simp only [ho, Instr.alloc, Sem.run_bind, hz, Result.andThen_ok]
  simp [newVar, newRow, Value.cells]
 unfold Oper.wp
 rw [hr]
 exact h
theorem store_rowK {K : Act → World → Prop} (x y : Operand) (ho : op.op = .store tr x y) (b o : Nat) (l : List Int) (hl : l.length = 37) (hx : a.eval x = .pointer (some ⟨b, o, none⟩)) (hy : a.eval y = .agg (nums .i64 l).toArray) (ht : w.there b o 37)
    (h : K (a.put op.dst undef) (w.setCells b o (nums .i64 l))) : op.wp Try.prog a w K Q := by
 have hn : (nums .i64 l).toArray.size = 37 := by rw [List.size_toArray, nums_length, hl]
 refine wp_store_mid tr x y ho b o _ hx hy (by rw [hn]; exact ht) (by rw [hn]; have := T.sz hl; rwa [nums_length, hl] at this) (all_oneCell_toArray (fun v hv => ?_)) (by simpa using h)
 obtain ⟨n, _, rfl⟩ := List.mem_map.1 hv
 rfl
end
theorem box_new {tr : TypeId} {w : World} {l : List Int} {g : Nat} (hg : g = w.heap.size) (hl : l.length = 37) : ((w.alloc (.cells (nums .i64 zrow).toArray tr)).setCells g 0 (nums .i64 l)).heap[g]? = some (.cells (nums .i64 l).toArray tr (0, 0)) ∧
    Below w.heap.size w ((w.alloc (.cells (nums .i64 zrow).toArray tr)).setCells g 0 (nums .i64 l)) := by
 subst hg
 have h0 := blk_new w (.cells (nums .i64 zrow).toArray tr)
 have hn : (nums .i64 zrow).length = 37 := by rw [nums_length, zrow_len]
 have hn2 : (nums .i64 l).length = 37 := by rw [nums_length, hl]
 refine ⟨?_, ?_⟩
 ·
  rw [setCells_block (nums .i64 l) h0 (by rw [hn2, List.size_toArray, hn]; decide)]
  rw [List.take_zero, List.nil_append, hn2, List.drop_of_length_le (by rw [hn]; decide), List.append_nil]
 obtain ⟨h1, h2, h3, h4⟩ := setCells_same w.heap.size (nums .i64 l) 0 (w.alloc (.cells (nums .i64 zrow).toArray tr))
 have hb := below_alloc (Below.refl w.heap.size w) (.cells (nums .i64 zrow).toArray tr)
 exact ⟨h1.trans hb.os, h2.trans hb.tape, h3.trans hb.output, by rw [h4]; exact hb.size, fun k hk => (setCells_far _ 0 k (by omega)).trans (hb.block k hk)⟩
theorem grown_setCells (w : World) (g o : Nat) (vs : List Value) : w.grownBy (w.setCells g o vs) (some g) := by
 obtain ⟨h1, h2, h3, h4⟩ := setCells_same g vs o w
 exact ⟨h1, h2, h3, by rw [h4]; exact Nat.le_refl _, fun k _ hk => setCells_far vs o k (fun e => hk (by rw [e]))⟩
section
variable {w w' : World} {base g : Nat} {t t' : T} {rv kv : Value}
theorem set_nowAll (hb : w.heap[g]? = some (.cells (cells rv kv t).toArray 147 (0, 0))) (h : Good t) (l : Row) (hl : l.length = 37) :
    (w.setCells g 1 (nums .i64 l)).heap[g]? = some (.cells (cells rv kv { t with now := l }).toArray 147 (0, 0)) := by
 rw [setCells_block _ hb (by rw [nums_length, hl, List.size_toArray, cells_len h]; omega), nums_length, hl]
 rw [cells, cells]
 simp only [List.take_succ_cons, List.take_zero, List.drop_succ_cons, List.cons_append, List.nil_append]
 rw [List.drop_left' (by rw [nums_length, h.now])]
theorem set_firstAll (hb : w.heap[g]? = some (.cells (cells rv kv t).toArray 147 (0, 0))) (h : Good t) (l : Row) (hl : l.length = 37) :
    (w.setCells g 38 (nums .i64 l)).heap[g]? = some (.cells (cells rv kv { t with first := l }).toArray 147 (0, 0)) := by
 rw [setCells_block _ hb (by rw [nums_length, hl, List.size_toArray, cells_len h]; omega), nums_length, hl]
 rw [cells, cells]
 have h1 : (nums .i64 t.now).length = 37 := by rw [nums_length, h.now]
 have h2 : (nums .i64 t.first).length = 37 := by rw [nums_length, h.first]
 rw [show 38 = 37 + 1 from rfl, show 37 + 1 + 37 = 74 + 1 from rfl, List.take_succ_cons, List.drop_succ_cons, List.take_left' h1, ← List.append_assoc (nums .i64 t.now), List.drop_left' (by rw [List.length_append, h1, h2])]
 simp only [List.cons_append, List.append_assoc]
theorem there_of_blk {cs : Array Value} {e : TypeId} {b o n : Nat} (hb : w.heap[b]? = some (.cells cs e (0, 0))) (hl : o + n ≤ cs.size) : w.there b o n := fun j hj => by
  refine ⟨?_, blk_frozen hb _⟩
  rw [blk_cell hb, Array.getElem?_eq_getElem (by omega)]
  rfl
theorem range_of_blk {cs : List Value} {e : TypeId} {b : Nat} (hb : w.heap[b]? = some (.cells cs.toArray e (0, 0))) : w.rangeAt b 0 cs := fun j v hv => by
  rw [blk_cell hb, List.getElem?_toArray, Nat.zero_add]
  exact hv
end
def Post (base g : Nat) (w : World) (r : Option T) (e : Ending) (w' : World) : Prop :=
  e = .returned (.bool r.isSome) ∧ Below base w w' ∧ ∀ t', r = some t' → ∃ rv kv, Tab w' base g t' rv kv
section
variable {w w' : World} {base g : Nat} {t t' : T} {rv kv : Value} {k r n : Int}
theorem Post.turn (h : Tab w base g t rv kv) (hb : base ≤ w.heap.size) (hg : w.grownBy w' (some g)) (hm : mayF k r n = true) (e : act t k r n = some t') (hr : t'.rows = t.rows) (hk : t'.kept = t.kept)
    (hc : w'.heap[g]? = some (.cells (cells rv kv t').toArray 147 (0, 0))) : Post base g w (act t k r n) (.returned (.bool true)) w' := by
 rw [e]
 refine ⟨rfl, below_grown hg hb h.lo, fun t2 e2 => ?_⟩
 cases e2
 exact ⟨rv, kv, h.turn hg (good_act h.good hm e) hc hr hk⟩
theorem Post.false (hb : Below base w w') (e : act t k r n = none) : Post base g w (act t k r n) (.returned (.bool false)) w' := by
 rw [e]
 exact ⟨rfl, hb, fun _ h => by cases h⟩
theorem now_at (h : Tab w base g t rv kv) (m : Nat) (hm : m ≤ 16) : (w.cell? ⟨g, 4 + m * 2, none⟩ = some (.int .i64 (t.now.getD (ru m) 0)) ∧ w.cell? ⟨g, 4 + m * 2 + 1, none⟩ = some (.int .i64 (t.now.getD (ru m + 1) 0))) ∧
    (w.frozen? ⟨g, 4 + m * 2, none⟩ = false ∧ w.frozen? ⟨g, 4 + m * 2 + 1, none⟩ = false) := by
 refine ⟨⟨?_, ?_⟩, h.free _, h.free _⟩
 ·
  rw [← h.now (ru m) (by simp only [ru]; omega), show 1 + ru m = 4 + m * 2 from by simp only [ru]; omega]
 rw [← h.now (ru m + 1) (by simp only [ru]; omega), show 1 + (ru m + 1) = 4 + m * 2 + 1 from by simp only [ru]; omega]
theorem set_rule (hb : w.heap[g]? = some (.cells (cells rv kv t).toArray 147 (0, 0))) (h : Good t) (m : Nat) (hm : m ≤ 16) (x y : Int) :
    ((w.setCell ⟨g, 4 + m * 2, none⟩ (.int .i64 x)).setCell ⟨g, 4 + m * 2 + 1, none⟩ (.int .i64 y)).heap[g]? = some (.cells (cells rv kv { t with now := (t.now.set (ru m) x).set (ru m + 1) y }).toArray 147 (0, 0)) := by
 have h1 := set_now hb h (ru m) (by simp only [ru]; omega) x
 have h2 := set_now (t := { t with now := t.now.set (ru m) x }) h1 ⟨by simpa using h.now, h.first, h.rows, h.kept, by show 0 ≤ (t.now.set (ru m) x).getD 0 0; rw [getD_set_ne (ru_ne _).1]; exact h.at0, h.size, by show _ → (t.now.set (ru m) x).getD 0 0 ≤ _; rw [getD_set_ne (ru_ne _).1]; exact h.atS⟩ (ru m + 1) (by simp only [ru]; omega) y
 rw [show 1 + ru m = 4 + m * 2 from by simp only [ru]; omega, show 1 + (ru m + 1) = 4 + m * 2 + 1 from by simp only [ru]; omega] at h2
 exact h2
theorem good_set1 (h : Good t) (x : Int) : Good { t with now := t.now.set 1 x } :=
  ⟨by simpa using h.now, h.first, h.rows, h.kept, by show 0 ≤ (t.now.set 1 x).getD 0 0; rw [getD_set_ne (by decide)]; exact h.at0, h.size, by show _ → (t.now.set 1 x).getD 0 0 ≤ _; rw [getD_set_ne (by decide)]; exact h.atS⟩
end
theorem nop_calls (w : World) (base g : Nat) (t : T) (rv kv : Value) (h : Tab w base g t rv kv) (hb : base ≤ w.heap.size) (r n : Int) (hm : mayF 0 r n = true) :
    Calls Try.prog 95 #[.pointer (some ⟨g, 0, none⟩), .agg #[.int .i64 0, .int .i64 r, .int .i64 n]] w (Post base g w (act t 0 r n)) := by
 go_enter Try.func95, Try.ntmps95
 go_wp2
 go_ret
 exact Post.turn h hb (grown_alloc (World.grownBy.refl _ _) _) hm rfl rfl rfl (blk_alloc h.blk _)
theorem offset_calls (w : World) (base g : Nat) (t : T) (rv kv : Value) (h : Tab w base g t rv kv) (hb : base ≤ w.heap.size) (r n : Int) (hm : mayF 5 r n = true) :
    Calls Try.prog 100 #[.pointer (some ⟨g, 0, none⟩), .agg #[.int .i64 5, .int .i64 r, .int .i64 n]] w (Post base g w (act t 5 r n)) := by
 obtain ⟨hr0, hr1⟩ := may_r hm
 obtain ⟨m, rfl⟩ := Int.eq_ofNat_of_zero_le hr0
 obtain ⟨⟨f1, f2⟩, f3, f4⟩ := now_at h m (by omega)
 have hg := blk_lt h.blk
 have H := am h
 have HM := am hm
 have hix := rule_at g 4 m (by omega)
 have H1 := am hr1
 have HB := am hb
 clear h hb hm hr0 hr1
 go_enter Try.func100, Try.ntmps100
 go_wp2
 refine still_tail 10 (by kernel_rfl) (by kernel_rfl) ?_
 simp only [List.take_succ_cons, List.take_zero, List.drop_succ_cons, List.drop_zero]
 repeat still_step
 refine wpStill_nil ?_
 go_wp2
 go_ret
 exact Post.turn H.out HB.out (grown_drew (grown_alloc (grown_set' (grown_set _ _ _ _) _ _) _)) HM.out rfl rfl rfl (blk_alloc (set_rule H.out.blk H.out.good m (by have := H1.out; omega) 2 n) _)
theorem undefined_calls (w : World) (base g : Nat) (t : T) (rv kv : Value) (h : Tab w base g t rv kv) (hb : base ≤ w.heap.size) (r n : Int) (hm : mayF 7 r n = true) :
    Calls Try.prog 102 #[.pointer (some ⟨g, 0, none⟩), .agg #[.int .i64 7, .int .i64 r, .int .i64 n]] w (Post base g w (act t 7 r n)) := by
 obtain ⟨hr0, hr1⟩ := may_r hm
 obtain ⟨m, rfl⟩ := Int.eq_ofNat_of_zero_le hr0
 obtain ⟨⟨f1, f2⟩, f3, f4⟩ := now_at h m (by omega)
 have hg := blk_lt h.blk
 have H := am h
 have HM := am hm
 have hix := rule_at g 4 m (by omega)
 have H1 := am hr1
 have HB := am hb
 clear h hb hm hr0 hr1
 go_enter Try.func102, Try.ntmps102
 go_wp2
 refine still_tail 8 (by kernel_rfl) (by kernel_rfl) ?_
 simp only [List.take_succ_cons, List.take_zero, List.drop_succ_cons, List.drop_zero]
 repeat still_step
 refine wpStill_nil ?_
 go_wp2
 go_ret
 exact Post.turn H.out HB.out (grown_drew (grown_alloc (grown_set' (grown_set _ _ _ _) _ _) _)) HM.out rfl rfl rfl (blk_alloc (set_rule H.out.blk H.out.good m (by have := H1.out; omega) 1 0) _)
theorem sameValue_calls (w : World) (base g : Nat) (t : T) (rv kv : Value) (h : Tab w base g t rv kv) (hb : base ≤ w.heap.size) (r n : Int) (hm : mayF 8 r n = true) :
    Calls Try.prog 103 #[.pointer (some ⟨g, 0, none⟩), .agg #[.int .i64 8, .int .i64 r, .int .i64 n]] w (Post base g w (act t 8 r n)) := by
 obtain ⟨hr0, hr1⟩ := may_r hm
 obtain ⟨m, rfl⟩ := Int.eq_ofNat_of_zero_le hr0
 obtain ⟨⟨f1, f2⟩, f3, f4⟩ := now_at h m (by omega)
 have hg := blk_lt h.blk
 have H := am h
 have HM := am hm
 have hix := rule_at g 4 m (by omega)
 have H1 := am hr1
 have HB := am hb
 clear h hb hm hr0 hr1
 go_enter Try.func103, Try.ntmps103
 go_wp2
 refine still_tail 8 (by kernel_rfl) (by kernel_rfl) ?_
 simp only [List.take_succ_cons, List.take_zero, List.drop_succ_cons, List.drop_zero]
 repeat still_step
 refine wpStill_nil ?_
 go_wp2
 go_ret
 exact Post.turn H.out HB.out (grown_drew (grown_alloc (grown_set' (grown_set _ _ _ _) _ _) _)) HM.out rfl rfl rfl (blk_alloc (set_rule H.out.blk H.out.good m (by have := H1.out; omega) 0 0) _)
theorem defOffset_calls (w : World) (base g : Nat) (t : T) (rv kv : Value) (h : Tab w base g t rv kv) (hb : base ≤ w.heap.size) (r n : Int) (hm : mayF 3 r n = true) :
    Calls Try.prog 98 #[.pointer (some ⟨g, 0, none⟩), .agg #[.int .i64 3, .int .i64 r, .int .i64 n]] w (Post base g w (act t 3 r n)) := by
 have f1 : w.cell? ⟨g, 2, none⟩ = some (.int .i64 (t.now.getD 1 0)) := h.now 1 (by omega)
 have f2 : w.cell? ⟨g, 3, none⟩ = some (.int .i64 (t.now.getD 2 0)) := h.now 2 (by omega)
 have f3 := h.free 2
 have f4 := h.free 3
 have hg := blk_lt h.blk
 have e : act t 3 r n = if 0 ≤ t.now.getD 1 0 then some { t with now := t.now.set 2 n } else none := rfl
 have HE := am e
 have H := am h
 have HM := am hm
 have HB := am hb
 obtain ⟨x, hx⟩ : ∃ x, t.now.getD 1 0 = x := ⟨_, rfl⟩
 rw [hx] at f1
 have HX := am hx
 clear h hb hm e hx
 obtain ⟨v, h1, g1⟩ := may_ge x 0
 have H1 := am h1
 clear h1
 go_enter Try.func98, Try.ntmps98
 go_wp2
 go_ret
 have hgr : w.grownBy ((w.setCell ⟨g, 1 + 2, none⟩ (.int .i64 n)).alloc (.cells #[.int .i64 3, .int .i64 r, .int .i64 n] 105)) (some g) := grown_alloc (grown_set _ _ _ _) _
 have he := HE.out
 rw [HX.out] at he
 have h1 := H1.out
 cases v with
 | true =>
  rw [if_pos (of_decide_eq_true h1)] at he
  exact Post.turn H.out HB.out hgr HM.out he rfl rfl (blk_alloc (set_now H.out.blk H.out.good 2 (by omega) n) _)
 | false =>
  rw [if_neg (of_decide_eq_false h1)] at he
  exact Post.false (below_grown hgr HB.out H.out.lo) he
theorem defRegister_calls (w : World) (base g : Nat) (t : T) (rv kv : Value) (h : Tab w base g t rv kv) (hb : base ≤ w.heap.size) (r n : Int) (hm : mayF 4 r n = true) :
    Calls Try.prog 99 #[.pointer (some ⟨g, 0, none⟩), .agg #[.int .i64 4, .int .i64 r, .int .i64 n]] w (Post base g w (act t 4 r n)) := by
 have f1 : w.cell? ⟨g, 2, none⟩ = some (.int .i64 (t.now.getD 1 0)) := h.now 1 (by omega)
 have f2 : w.cell? ⟨g, 3, none⟩ = some (.int .i64 (t.now.getD 2 0)) := h.now 2 (by omega)
 have f3 := h.free 2
 have f4 := h.free 3
 have hg := blk_lt h.blk
 have e : act t 4 r n = if 0 ≤ t.now.getD 1 0 then some { t with now := t.now.set 1 r } else none := rfl
 have HE := am e
 have H := am h
 have HM := am hm
 have HB := am hb
 obtain ⟨x, hx⟩ : ∃ x, t.now.getD 1 0 = x := ⟨_, rfl⟩
 rw [hx] at f1
 have HX := am hx
 clear h hb hm e hx
 obtain ⟨v, h1, g1⟩ := may_ge x 0
 have H1 := am h1
 clear h1
 go_enter Try.func99, Try.ntmps99
 go_wp2
 go_ret
 have hgr : w.grownBy ((w.setCell ⟨g, 1 + 1, none⟩ (.int .i64 r)).alloc (.cells #[.int .i64 4, .int .i64 r, .int .i64 n] 105)) (some g) := grown_alloc (grown_set _ _ _ _) _
 have he := HE.out
 rw [HX.out] at he
 have h1 := H1.out
 cases v with
 | true =>
  rw [if_pos (of_decide_eq_true h1)] at he
  exact Post.turn H.out HB.out hgr HM.out he rfl rfl (blk_alloc (set_now H.out.blk H.out.good 1 (by omega) r) _)
 | false =>
  rw [if_neg (of_decide_eq_false h1)] at he
  exact Post.false (below_grown hgr HB.out H.out.lo) he
theorem restore_calls (w : World) (base g : Nat) (t : T) (rv kv : Value) (h : Tab w base g t rv kv) (hb : base ≤ w.heap.size) (r n : Int) (hm : mayF 6 r n = true) :
    Calls Try.prog 101 #[.pointer (some ⟨g, 0, none⟩), .agg #[.int .i64 6, .int .i64 r, .int .i64 n]] w (Post base g w (act t 6 r n)) := by
 obtain ⟨hr0, hr1⟩ := may_r hm
 obtain ⟨m, rfl⟩ := Int.eq_ofNat_of_zero_le hr0
 obtain ⟨⟨f1, f2⟩, f3, f4⟩ := now_at h m (by omega)
 have f5 : w.cell? ⟨g, 41 + m * 2, none⟩ = some (.int .i64 (t.first.getD (ru m) 0)) := by rw [← h.first (ru m) (by simp only [ru]; omega), show 38 + ru m = 41 + m * 2 from by simp only [ru]; omega]
 have f6 : w.cell? ⟨g, 41 + m * 2 + 1, none⟩ = some (.int .i64 (t.first.getD (ru m + 1) 0)) := by rw [← h.first (ru m + 1) (by simp only [ru]; omega), show 38 + (ru m + 1) = 41 + m * 2 + 1 from by simp only [ru]; omega]
 have e : act t 6 m n = some { t with now := (t.now.set (ru m) (t.first.getD (ru m) 0)).set (ru m + 1) (t.first.getD (ru m + 1) 0) } := rfl
 have hs := set_rule h.blk h.good m (by omega) (t.first.getD (ru m) 0) (t.first.getD (ru m + 1) 0)
 obtain ⟨x, hx⟩ : ∃ x, t.first.getD (ru m) 0 = x := ⟨_, rfl⟩
 obtain ⟨y, hy⟩ : ∃ y, t.first.getD (ru m + 1) 0 = y := ⟨_, rfl⟩
 rw [hx, hy] at e hs
 rw [hx] at f5
 rw [hy] at f6
 have HS := am hs
 have HE := am e
 have hg := blk_lt h.blk
 have H := am h
 have HM := am hm
 have hix := rule_at g 4 m (by omega)
 have hiy := rule_at g 41 m (by omega)
 have HB := am hb
 clear h hb hm hr0 hr1 hs e hx hy
 go_enter Try.func101, Try.ntmps101
 go_wp2
 refine still_tail 15 (by kernel_rfl) (by kernel_rfl) ?_
 simp only [List.take_succ_cons, List.take_zero, List.drop_succ_cons, List.drop_zero]
 repeat still_step
 refine wpStill_nil ?_
 go_wp2
 go_ret
 exact Post.turn H.out HB.out (grown_drew (grown_alloc (grown_set' (grown_set _ _ _ _) _ _) _)) HM.out HE.out rfl rfl (blk_alloc HS.out _)
theorem defCfa_calls (w : World) (base g : Nat) (t : T) (rv kv : Value) (h : Tab w base g t rv kv) (hb : base ≤ w.heap.size) (r n : Int) (hm : mayF 2 r n = true) :
    Calls Try.prog 97 #[.pointer (some ⟨g, 0, none⟩), .agg #[.int .i64 2, .int .i64 r, .int .i64 n]] w (Post base g w (act t 2 r n)) := by
 have f1 : w.cell? ⟨g, 2, none⟩ = some (.int .i64 (t.now.getD 1 0)) := h.now 1 (by omega)
 have f2 : w.cell? ⟨g, 3, none⟩ = some (.int .i64 (t.now.getD 2 0)) := h.now 2 (by omega)
 have f3 := h.free 2
 have f4 := h.free 3
 have hg := blk_lt h.blk
 have H := am h
 have HM := am hm
 have HB := am hb
 clear h hb hm
 go_enter Try.func97, Try.ntmps97
 go_wp2
 refine start_ (n := 14) (S := fun u => u.cell? ⟨w.heap.size, 1, none⟩ = some (.int .i64 r) ∧ u.cell? ⟨w.heap.size, 2, none⟩ = some (.int .i64 n)) (ds := [13]) (bm 14 0) (by kernel_rfl) rfl rfl ?_ (fun hHeld => ?_)
 case refine_1 => exact ⟨by go_simp, by go_simp⟩
 refine pure_ (i := 0) (N := some 5) (v := ?_) (a' := ?_) (bm 14 1) rfl rfl (by kernel_rfl) (fun _ _ _ h => h) (Or.inl ⟨by rfl, ?_⟩) ?_ ?_
 rotate_left
 ·
  intro u
  go_simp
  with_reducible rfl
 rotate_left
 ·
  simp only [pz]
  rfl
 refine pure_ (i := 1) (N := some 6) (v := ?_) (a' := ?_) (bm 14 3) rfl rfl (by kernel_rfl) (fun _ _ _ h => h) (Or.inl ⟨by rfl, ?_⟩) ?_ ?_
 rotate_left
 ·
  intro u
  go_simp
  with_reducible rfl
 rotate_left
 ·
  simp only [pz]
  rfl
 refine pure_ (i := 2) (N := some 7) (v := ?_) (a' := ?_) (bm 14 7) rfl rfl (by kernel_rfl) (fun _ _ _ h => h) (Or.inl ⟨by rfl, ?_⟩) ?_ ?_
 rotate_left
 ·
  intro u
  go_simp
  with_reducible rfl
 rotate_left
 ·
  simp only [pz]
  rfl
 refine take_ (i := 3) (N := some 8) (v := ?_) (a' := ?_) (bm 14 15) rfl rfl (by kernel_rfl) (fun _ _ _ h => h) (Or.inl ⟨by rfl, ?_⟩) hHeld ?_ ?_
 rotate_left
 ·
  rintro u ⟨s0, s1⟩
  go_simp
  with_reducible rfl
 rotate_left
 ·
  simp only [pz]
  rfl
 refine pure_ (i := 4) (N := some 9) (v := ?_) (a' := ?_) (bm 14 31) rfl rfl (by kernel_rfl) (fun _ _ _ h => h) (Or.inl ⟨by rfl, ?_⟩) ?_ ?_
 rotate_left
 ·
  intro u
  go_simp
  with_reducible rfl
 rotate_left
 ·
  simp only [pz]
  rfl
 refine take_ (i := 5) (N := some 10) (v := ?_) (a' := ?_) (bm 14 63) rfl rfl (by kernel_rfl) (fun _ _ _ h => h) (Or.inl ⟨by rfl, ?_⟩) hHeld ?_ ?_
 rotate_left
 ·
  rintro u ⟨s0, s1⟩
  go_simp
  with_reducible rfl
 rotate_left
 ·
  simp only [pz]
  rfl
 refine pure_ (i := 6) (N := some 11) (v := ?_) (a' := ?_) (bm 14 127) rfl rfl (by kernel_rfl) (fun _ _ _ h => h) (Or.inl ⟨by rfl, ?_⟩) ?_ ?_
 rotate_left
 ·
  intro u
  go_simp
  with_reducible rfl
 rotate_left
 ·
  simp only [pz]
  rfl
 refine pure_ (i := 7) (N := some 12) (v := ?_) (a' := ?_) (bm 14 255) rfl rfl (by kernel_rfl) (fun _ _ _ h => h) (Or.inl ⟨by rfl, ?_⟩) ?_ ?_
 rotate_left
 ·
  intro u
  go_simp
  with_reducible rfl
 rotate_left
 ·
  simp only [pz]
  rfl
 refine pure_ (i := 8) (N := some 13) (v := ?_) (a' := ?_) (bm 14 511) rfl rfl (by kernel_rfl) (fun _ _ _ h => h) (Or.inl ⟨by rfl, ?_⟩) ?_ ?_
 rotate_left
 ·
  intro u
  go_simp
  with_reducible rfl
 rotate_left
 ·
  simp only [pz]
  rfl
 refine one_ (i := 9) (N := none) (bm 14 1023) rfl rfl (by kernel_rfl) (by decide) (fun K hK => ?_)
 rw [if_pos (by rfl)]
 go_simp
 refine hK.out _ _ ⟨by go_simp, by go_simp⟩ (fun hHeld => ?_)
 clear hK K
 refine pure_ (i := 10) (N := some 14) (v := ?_) (a' := ?_) (bm 14 2047) rfl rfl (by kernel_rfl) (fun _ _ _ h => h) (Or.inl ⟨by rfl, ?_⟩) ?_ ?_
 rotate_left
 ·
  intro u
  go_simp
  with_reducible rfl
 rotate_left
 ·
  simp only [pz]
  rfl
 refine pure_ (i := 11) (N := some 15) (v := ?_) (a' := ?_) (bm 14 4095) rfl rfl (by kernel_rfl) (fun _ _ _ h => h) (Or.inl ⟨by rfl, ?_⟩) ?_ ?_
 rotate_left
 ·
  intro u
  go_simp
  with_reducible rfl
 rotate_left
 ·
  simp only [pz]
  rfl
 refine pure_ (i := 12) (N := some 16) (v := ?_) (a' := ?_) (bm 14 8191) rfl rfl (by kernel_rfl) (fun _ _ _ h => h) (Or.inl ⟨by rfl, ?_⟩) ?_ ?_
 rotate_left
 ·
  intro u
  go_simp
  with_reducible rfl
 rotate_left
 ·
  simp only [pz]
  rfl
 refine last_ (i := 13) (N := none) (bm 14 16383) rfl rfl (by kernel_rfl) (by decide) (fun K hK => ?_)
 rw [if_pos (by rfl)]
 go_simp
 refine hK.out _ _ ?_
 clear hK K
 refine done_ (by kernel_rfl) ?_
 go_wp2
 go_ret
 have h1 := set_now H.out.blk H.out.good 1 (by omega) r
 have h2 := set_now (t := { t with now := t.now.set 1 r }) h1 (good_set1 H.out.good r) 2 (by omega) n
 exact Post.turn H.out HB.out (grown_drew (grown_alloc (grown_set' (grown_set _ _ _ _) _ _) _)) HM.out rfl rfl rfl (blk_alloc h2 _)
end Go.Proofs.Ytfgfnflhdabmcaa.Cfa
end
