/- Lemmas and contracts, one text behind the other: what the row of this claim needs; no conditions beyond those that each theorem names. -/
import Derived.Maps.Own
import Derived.WideMake
import Derived.WideShapes
import Derived.RangeFuncKeeps
import Derived.Outline
import Derived.BigQuiet
import Derived.Deep.MidRow
import Derived.StillTailTactics
import Derived.Great.BuildSlice
import Derived.Laws.EntriesVeiled
import Derived.Test.YtfgfnflhdabmcaaVW0
set_option linter.unusedVariables false
set_option linter.unusedSimpArgs false
set_option maxRecDepth 100000
section
namespace Go.Proofs.Ytfgfnflhdabmcaa.G
open Go.RowKit Go.Proofs.YtfgfnflhdabmcaaW.PrintWords Go.Proofs.YtfgfnflhdabmcaaW.PrintLast Go.Proofs.YtfgfnflhdabmcaaW.PrintMore
attribute [local go_sem] max2_int min2_int max_two min_two max_three min_three max_four min_four
mutual
def gangwaylaw14_tables.l0 : Nat → List (S43) → List (S61) → List (S69) → Int → Option ((List (S69)) × (List (S46)))
  | 0, _, _, _, _ => none
  | k + 1, x0, x1, x6, x8 => if x8 < (x0.length : Int) then (if 0 ≤ x8 then ((gangwaylaw14_ops.f k ((rd_T43 x0 x8).f1)).bind fun t103 => (if x6.length < 4398046511104 then (gangwaylaw14_tables.l0 k x0 x1 (x6 ++ [(⟨(rd_T43 x0 x8).f0, t103⟩ : S69)]) (wrap64 (x8 + 1))) else (none))) else (none)) else (gangwaylaw14_tables.l1 k x1 x6 ([] : List (S46)) 0)
def gangwaylaw14_tables.l1 : Nat → List (S61) → List (S69) → List (S46) → Int → Option ((List (S69)) × (List (S46)))
  | 0, _, _, _, _ => none
  | k + 1, x1, x6, x7, x9 => if x9 < (x1.length : Int) then (if 0 ≤ x9 then ((gangwaylaw14_ops.f k ((rd_T61 x1 x9).f3)).bind fun t113 => (if x7.length < 2932031007402 then (gangwaylaw14_tables.l1 k x1 x6 (x7 ++ [(⟨(rd_T61 x1 x9).f0, (rd_T61 x1 x9).f1, (rd_T61 x1 x9).f2, t113⟩ : S46)]) (wrap64 (x9 + 1))) else (none))) else (none)) else (some (x6, x7))
end
def gangwaylaw14_tables.f (k : Nat) (l0 : List (S43)) (l1 : List (S61)) : Option ((List (S69)) × (List (S46))) := gangwaylaw14_tables.l0 k l0 l1 ([] : List (S69)) 0
def gangwaylaw14_tables.T6 : Bool × List (List Nat × List Nat) := (true, [([], []), ([], []), ([], []), ([1, 2], [1, 2]), ([3], [3]), ([4], [4]), ([], []), ([], []), ([6, 7], [6, 7]), ([8], [8]), ([9], [9]), ([10], [10]), ([5, 11], [5, 11]), ([12], [12]), ([0, 13, 11], [0, 13]), ([14, 14, 0, 1, 2, 3, 4, 5, 6, 7, 8, 9, 10, 11, 12, 13, 14], [0, 14])])
def gangwaylaw14_tables.B6 : List Nat := [0, 0, 0, 6, 14, 30, 0, 0, 192, 448, 960, 1984, 4094, 8190, 16383, 32767]
theorem gangwaylaw14_tables.tab6 : rtab .any (opsOf Try.f8 6) = gangwaylaw14_tables.T6 := by kernel_rfl
theorem gangwaylaw14_tables.bits6 : waitsOk gangwaylaw14_tables.T6.2 gangwaylaw14_tables.B6 = true := by kernel_rfl
def gangwaylaw14_tables.T10 : Bool × List (List Nat × List Nat) := (true, [([], []), ([], []), ([], []), ([1, 2], [1, 2]), ([3], [3]), ([4], [4]), ([], []), ([], []), ([6, 7], [6, 7]), ([8], [8]), ([9], [9]), ([], []), ([], []), ([11, 12], [11, 12]), ([13], [13]), ([14], [14]), ([], []), ([], []), ([16, 17], [16, 17]), ([18], [18]), ([19], [19]), ([20], [20]), ([5, 10, 15, 21], [5, 10, 15, 21]), ([22], [22]), ([0, 23, 21], [0, 23]), ([24, 24, 0, 1, 2, 3, 4, 5, 6, 7, 8, 9, 10, 11, 12, 13, 14, 15, 16, 17, 18, 19, 20, 21, 22, 23, 24], [0, 24])])
def gangwaylaw14_tables.B10 : List Nat := [0, 0, 0, 6, 14, 30, 0, 0, 192, 448, 960, 0, 0, 6144, 14336, 30720, 0, 0, 196608, 458752, 983040, 2031616, 4194302, 8388606, 16777215, 33554431]
theorem gangwaylaw14_tables.tab10 : rtab .any (opsOf Try.f8 10) = gangwaylaw14_tables.T10 := by kernel_rfl
theorem gangwaylaw14_tables.bits10 : waitsOk gangwaylaw14_tables.T10.2 gangwaylaw14_tables.B10 = true := by kernel_rfl
set_option maxHeartbeats 8000000 in
theorem gangwaylaw14_tables.calls (k : Nat) (A0 : Option Addr) (c0 : Nat) (l0 : List (S43)) (A1 : Option Addr) (c1 : Nat) (l1 : List (S61)) (r1 : List (S69)) (r2 : List (S46)) (w : World) (hr0 : Kd.C k43 w A0 l0.length l0) (hc0 : l0.length ≤ c0) (hr1 : Kd.C k61 w A1 l1.length l1) (hc1 : l1.length ≤ c1) (h : gangwaylaw14_tables.f k l0 l1 = some (r1, r2)) :
    Calls Try.prog 8 #[.slice A0 l0.length c0, .slice A1 l1.length c1] w fun e w' => ∃ v0_ v1_ : Value, e = .returned (.tuple #[v0_, v1_]) ∧ Kd.S k69 69 w' w.heap.size (fun _ => True) v0_ r1 ∧ Kd.S k46 46 w' w.heap.size (fun _ => True) v1_ r2 ∧ Below w.heap.size w w' := by
 have hu69 := Try.underlying69
 have hu46 := Try.underlying46
 have HR0 := am hr0
 have HC0 := am hc0
 clear hr0 hc0
 have HR1 := am hr1
 have HC1 := am hc1
 clear hr1 hc1
 have HB := am (Below.refl w.heap.size w)
 have H : (gangwaylaw14_tables.l0 k l0 l1 ([] : List (S69)) 0) = some (r1, r2) := h
 clear h
 have H' := am H
 clear H
 go_enter Try.func8, Try.ntmps8
 go_wp2
 go_loopg [6, 8] k (fun kq v6 v8 w' => ∃ (x6_1 : List (S69)) (x8_1 : Int), v8 = .int .i64 x8_1 ∧ Aside0 (gangwaylaw14_tables.l0 kq l0 l1 x6_1 x8_1 = some (r1, r2)) ∧ Aside0 (kq ≤ k) ∧ Aside0 (Kd.S k69 69 w' w.heap.size (fun _ => True) v6 x6_1) ∧ Aside0 (Below w.heap.size w w'))
 case atStart => exact ⟨(([] : List (S69))), (0), (by first | rfl | (simp; done) | (simp [*]; done)), H', ⟨Nat.le_refl _⟩, ⟨by first | exact Kd.S_nil _ _ _ _ _ | exact Kd.N_nil _ _ _ _ _ | exact Kd.V_nil _ _ _ _ _ | exact Kd.Q_nil _ _ _ _ _ | exact Kd.R_nil _ _ _ _ _⟩, ⟨by exact bl_g HB.out⟩⟩
 case round =>
  clear H'
  try clear c1
  try clear p2
  obtain ⟨x6_1, x8_1, rfl, HA, HK1, HO_6, HB⟩ := hrel
  cases gk with
  | zero => exact absurd HA.out (by simp [gangwaylaw14_tables.l0])
  | succ k1 =>
   have H := HA.out
   clear HA
   simp only [gangwaylaw14_tables.l0] at H
   by_cases c3 : x8_1 < (l0.length : Int)
   ·
    rw [if_pos c3] at H
    have c3b0 : decide (x8_1 < (l0.length : Int)) = true := decide_eq_true c3
    clear c3
    by_cases c4 : 0 ≤ x8_1
    rotate_left
    ·
     rw [if_neg c4] at H
     exact absurd H (by simp)
    rw [if_pos c4] at H
    have c4b0 : decide (0 ≤ x8_1) = true := decide_eq_true c4
    clear c4
    replace H := Option.bind_eq_some_iff.mp H
    obtain ⟨t103, A50, H⟩ := H
    replace H : (if x6_1.length < 4398046511104 then (gangwaylaw14_tables.l0 k1 l0 l1 (x6_1 ++ [(⟨(rd_T43 l0 x8_1).f0, t103⟩ : S69)]) (wrap64 (x8_1 + 1))) else (none)) = some (r1, r2) := H
    have A5 := am A50
    clear A50
    by_cases c6 : x6_1.length < 4398046511104
    rotate_left
    ·
     rw [if_neg c6] at H
     exact absurd H (by simp)
    rw [if_pos c6] at H
    have LMc6 := am c6
    clear c6
    obtain ⟨y106, hy106⟩ : ∃ y_ : List (S69), y_ = (x6_1 ++ [(⟨(rd_T43 l0 x8_1).f0, t103⟩ : S69)]) := ⟨_, rfl⟩
    replace H : (gangwaylaw14_tables.l0 k1 l0 l1 y106 (wrap64 (x8_1 + 1))) = some (r1, r2) := by first | (rw [hy106]; with_reducible exact H) | (have H2_ := (Option.bind_some _ _).symm.trans H; rw [hy106]; with_reducible exact H2_)
    have Ny106 := am hy106
    clear hy106
    have H' := am H
    clear H
    try go_wp2
    have n0_ := am (Kd.S_drew HO_6.out)
    have n1_ := am (below_drew1 HB.out)
    clear HO_6
    clear HB
    have HO_6 := n0_
    have HB := n1_
    clear n0_ n1_
    have p101 : 0 ≤ (x8_1 : Int) := od
    have q101 : x8_1 < (l0.length : Int) := od
    obtain ⟨ad101, A101_1, c101_1, e101, hx101_0, hx101_1, hl101_1, hi101_1⟩ := at_T43 HR0.out x8_1 p101 q101
    have hw101_1 := hx101_1
    have hw101_0 := hx101_0
    cases e101
    replace hx101_0 := oc HB.out hx101_0
    replace hx101_1 := oc HB.out hx101_1
    have HR101_1 := am hi101_1
    have HC101_1 := am hl101_1
    clear hi101_1 hl101_1
    replace p101 := eq_true p101
    replace q101 := eq_true q101
    have p102 : 0 ≤ (x8_1 : Int) := od
    have q102 : x8_1 < (l0.length : Int) := od
    obtain ⟨ad102, A102_1, c102_1, e102, hx102_0, hx102_1, hl102_1, hi102_1⟩ := at_T43 HR0.out x8_1 p102 q102
    have hw102_1 := hx102_1
    have hw102_0 := hx102_0
    obtain rfl : ad101 = ad102 := (by injection e102)
    replace hx102_0 := oc HB.out hx102_0
    replace hx102_1 := oc HB.out hx102_1
    have HR102_1 := am hi102_1
    have HC102_1 := am hl102_1
    clear hi102_1 hl102_1
    replace p102 := eq_true p102
    replace q102 := eq_true q102
    have ea_ := Option.some.inj (hx101_1.symm.trans hx102_1)
    injection ea_ with ea_ en_ ec_
    subst ea_
    subst ec_
    clear en_
    refine start_ (n := 16) (S := fun w' => w'.cell? (ad101.add ((x8_1).toNat * 2)) = some (.int .i64 ((rd_T43 l0 x8_1).f0)) ∧ w'.cell? ⟨(ad101.add ((x8_1).toNat * 2)).block, (ad101.add ((x8_1).toNat * 2)).off + 1, none⟩ = some (.slice A101_1 ((rd_T43 l0 x8_1).f1).length c101_1) ∧ w'.cell? (ad101.add ((x8_1).toNat * 2)) = some (.int .i64 ((rd_T43 l0 x8_1).f0)) ∧ w'.cell? ⟨(ad101.add ((x8_1).toNat * 2)).block, (ad101.add ((x8_1).toNat * 2)).off + 1, none⟩ = some (.slice A101_1 ((rd_T43 l0 x8_1).f1).length c101_1)) (ds := []) (bm 16 0) (by kernel_rfl) rfl rfl ⟨(oc HB.out hw101_0 :), (oc HB.out hw101_1 :), (oc HB.out hw102_0 :), (oc HB.out hw102_1 :)⟩ (fun hHeld => ?_); refine with_tabW gangwaylaw14_tables.tab6 gangwaylaw14_tables.bits6 (fun HT_ HW_ => ?_)
    generalize wr.drew = w7 at HO_6 HB HR101_1 HR102_1 hx101_0 hx101_1 hx102_0 hx102_1 hHeld ⊢
    refine pure_ (i := 0) (N := some 16) (v := ?_) (a' := ?_) (bm 16 1) rfl rfl (any_of HT_.out (by kernel_rfl)) (fun _ _ _ h => h) (Or.inl ⟨by rfl, ?_⟩) ?_ ?_
    rotate_left
    ·
     intro w'
     go_simp
     with_reducible rfl
    rotate_left
    ·
     simp only [pz]
     rfl
    refine pure_ (i := 1) (N := some 17) (v := ?_) (a' := ?_) (bm 16 3) rfl rfl (any_of HT_.out (by kernel_rfl)) (fun _ _ _ h => h) (Or.inl ⟨by rfl, ?_⟩) ?_ ?_
    rotate_left
    ·
     intro w'
     go_simp
     with_reducible rfl
    rotate_left
    ·
     simp only [pz]
     rfl
    refine pure_ (i := 2) (N := some 18) (v := ?_) (a' := ?_) (bm 16 7) rfl rfl (any_of HT_.out (by kernel_rfl)) (fun _ _ _ h => h) (Or.inl ⟨by rfl, ?_⟩) ?_ ?_
    rotate_left
    ·
     intro w'
     go_simp
     with_reducible rfl
    rotate_left
    ·
     simp only [pz]
     rfl
    refine pure_ (i := 3) (N := some 19) (v := ?_) (a' := ?_) (bm 16 15) rfl rfl (any_of HT_.out (by kernel_rfl)) (fun _ _ _ h => h) (Or.inl ⟨by rfl, ?_⟩) ?_ ?_
    rotate_left
    ·
     intro w'
     go_simp
     with_reducible rfl
    rotate_left
    ·
     simp only [pz]
     rfl
    refine pure_ (i := 4) (N := some 20) (v := ?_) (a' := ?_) (bm 16 31) rfl rfl (any_of HT_.out (by kernel_rfl)) (fun _ _ _ h => h) (Or.inl ⟨by rfl, ?_⟩) ?_ ?_
    rotate_left
    ·
     intro w'
     go_simp
     with_reducible rfl
    rotate_left
    ·
     simp only [pz]
     rfl
    refine pure_ (i := 6) (N := some 22) (v := ?_) (a' := ?_) (bm 16 95) rfl rfl (any_of HT_.out (by kernel_rfl)) (fun _ _ _ h => h) (Or.inl ⟨by rfl, ?_⟩) ?_ ?_
    rotate_left
    ·
     intro w'
     go_simp
     with_reducible rfl
    rotate_left
    ·
     simp only [pz]
     rfl
    refine pure_ (i := 7) (N := some 23) (v := ?_) (a' := ?_) (bm 16 223) rfl rfl (any_of HT_.out (by kernel_rfl)) (fun _ _ _ h => h) (Or.inl ⟨by rfl, ?_⟩) ?_ ?_
    rotate_left
    ·
     intro w'
     go_simp
     with_reducible rfl
    rotate_left
    ·
     simp only [pz]
     rfl
    refine pure_ (i := 8) (N := some 24) (v := ?_) (a' := ?_) (bm 16 479) rfl rfl (any_of HT_.out (by kernel_rfl)) (fun _ _ _ h => h) (Or.inl ⟨by rfl, ?_⟩) ?_ ?_
    rotate_left
    ·
     intro w'
     go_simp
     with_reducible rfl
    rotate_left
    ·
     simp only [pz]
     rfl
    refine pure_ (i := 9) (N := some 25) (v := ?_) (a' := ?_) (bm 16 991) rfl rfl (any_of HT_.out (by kernel_rfl)) (fun _ _ _ h => h) (Or.inl ⟨by rfl, ?_⟩) ?_ ?_
    rotate_left
    ·
     intro w'
     go_simp
     with_reducible rfl
    rotate_left
    ·
     simp only [pz]
     rfl
    refine take_ (i := 5) (N := some 21) (v := ?_) (a' := ?_) (bm 16 1023) rfl rfl (take_ofW HT_.out HW_.out (by kernel_rfl)) (fun _ _ _ h => h) (Or.inl ⟨by rfl, ?_⟩) hHeld ?_ ?_
    rotate_left
    ·
     rintro w' ⟨s0, s1, s2, s3⟩
     go_simp
     with_reducible rfl
    rotate_left
    ·
     simp only [pz]
     rfl
    refine take_ (i := 10) (N := some 26) (v := ?_) (a' := ?_) (bm 16 2047) rfl rfl (take_ofW HT_.out HW_.out (by kernel_rfl)) (fun _ _ _ h => h) (Or.inl ⟨by rfl, ?_⟩) hHeld ?_ ?_
    rotate_left
    ·
     rintro w' ⟨s0, s1, s2, s3⟩
     go_simp
     with_reducible rfl
    rotate_left
    ·
     simp only [pz]
     rfl
    refine one_ (i := 11) (N := some 27) (bm 16 4095) rfl rfl (one_of HT_.out (by kernel_rfl)) (by decide) (fun K hK => ?_)
    refine goes_ Try.func22 (by kernel_rfl) rfl #[.slice A101_1 ((rd_T43 l0 x8_1).f1).length c101_1] (by rfl) rfl rfl (by simp only [ml]; try rfl) ?_
    with_reducible refine (gangwaylaw14_ops.calls k1 _ _ ((rd_T43 l0 x8_1).f1) t103 _ ?side1 ?side2 A5.out).mono ?_
    (case side1 => exact Kd.C_o (Kd.C_below HR102_1.out HB.out))
    (case side2 => exact HC102_1.out)
    rintro e w8 ⟨v104, rfl, ho0, hb⟩
    refine ⟨_, rfl, ?_⟩
    have n0_ := am (Kd.S_elder' (by (with_reducible repeat (first | apply Kd.S_alloc | apply Kd.S_drewN | apply Kd.S_drew)); exact HO_6.out) (Kd.R_base ho0) hb)
    have n1_ := am (Kd.R_lower ho0 (below_size (by exact bl_o HB.out)))
    have n2_ := am (below_step (by exact bl_o HB.out) hb)
    clear HO_6
    clear HB
    have HO_6 := n0_
    have HO105 := n1_
    have HB := n2_
    clear n0_ n1_ n2_
    (try clear hb)
    (try clear hb2)
    (try clear hk)
    (try clear hi)
    (try clear ho0)
    obtain ⟨Ao9, co9, eo9⟩ := Kd.R_slice HO105.out
    (first | subst eo9 | (injection eo9 with f1_ f2_ f3_; have f4_ := f1_.symm; have f5_ := f3_.symm; clear f1_ f2_ f3_; subst f4_; subst f5_))
    refine hK.out _ _ ⟨(oc HB.out hw101_0 :), (oc HB.out hw101_1 :), (oc HB.out hw102_0 :), (oc HB.out hw102_1 :)⟩ (fun hHeld => ?_)
    clear hK K
    refine norm_ (a' := ?_) ?_ ?_
    rotate_left
    ·
     show Act.put _ (some 27) _ = _
     simp only [pz]
     rfl
    refine pure_ (i := 12) (N := some 28) (v := ?_) (a' := ?_) (bm 16 8191) rfl rfl (any_of HT_.out (by kernel_rfl)) (fun _ _ _ h => h) (Or.inl ⟨by rfl, ?_⟩) ?_ ?_
    rotate_left
    ·
     intro w'
     go_simp
     with_reducible rfl
    rotate_left
    ·
     simp only [pz]
     rfl
    refine one_ (i := 13) (N := some 29) (bm 16 16383) rfl rfl (one_of HT_.out (by kernel_rfl)) (by decide) (fun K hK => ?_)
    refine value_ (w1 := ?_) (v := ?_) (by rfl) rfl ?_ ?_
    rotate_left 2
    ·
     go_simp
     constructor
     ·
      rfl
     rfl
    refine hK.out _ _ ⟨(World.cell?_alloc_lt _ _ _ (World.block_lt_of_cell? _ _ ((oc HB.out hw101_0 :)))).trans ((oc HB.out hw101_0 :)), (World.cell?_alloc_lt _ _ _ (World.block_lt_of_cell? _ _ ((oc HB.out hw101_1 :)))).trans ((oc HB.out hw101_1 :)), (World.cell?_alloc_lt _ _ _ (World.block_lt_of_cell? _ _ ((oc HB.out hw102_0 :)))).trans ((oc HB.out hw102_0 :)), (World.cell?_alloc_lt _ _ _ (World.block_lt_of_cell? _ _ ((oc HB.out hw102_1 :)))).trans ((oc HB.out hw102_1 :))⟩ (fun hHeld => ?_)
    clear hK K
    refine norm_ (a' := ?_) ?_ ?_
    rotate_left
    ·
     show Act.put _ (some 29) _ = _
     simp only [pz]
     rfl
    refine one_ (i := 14) (N := some 30) (bm 16 32767) rfl rfl (one_of HT_.out (by kernel_rfl)) (by decide) (fun K hK => ?_)
    refine Kd.S_append_step k69 (w0 := w) w.heap.size (by rfl) (.tmp 16) (.tmp 29) 24 69 (.agg #[(.int .i64 0), (.slice none 0 0)]) 32 rfl Try.underlying24 info69 rfl (by decide) (by omega) u6 x6_1 (⟨(rd_T43 l0 x8_1).f0, t103⟩ : S69) [.int .i64 ((rd_T43 l0 x8_1).f0), .slice Ao9 t103.length co9] (fun _ => True) (fun k_ => some k_ = (.slice Ao9 t103.length co9 : Value).ownBlock) rfl rfl ?aP (fun k_ hk_ => ((Kd.R_mono (ok' := fun k_ => ((fun _ => True)) k_ ∧ some k_ ≠ (u6 : Value).ownBlock) (Kd.R_apart' (HO105.out) (Kd.S_typed HO_6.out) (by decide)) (fun k_ hk => ⟨trivial, hk.2⟩))).1 k_ hk_.symm) ?aF ?aO ?aB ?aS ?aL ?_
    (case aP => exact k69_mkM _ _ _ (⟨(rd_T43 l0 x8_1).f0, t103⟩ : S69) (Kd.R_mono (Kd.R_tight rfl (Kd.R_mono (ok' := fun k_ => ((fun _ => True)) k_ ∧ some k_ ≠ (u6 : Value).ownBlock) (Kd.R_apart' (HO105.out) (Kd.S_typed HO_6.out) (by decide)) (fun k_ hk => ⟨trivial, hk.2⟩))) (fun _ h_ => h_)))
    (case aB => exact (by exact bl_o HB.out))
    (case aF => exact (fun _ _ => trivial))
    (case aO => exact (by (with_reducible repeat (first | apply Kd.S_alloc | apply Kd.S_drewN | apply Kd.S_drew)); exact Kd.S_mono HO_6.out (fun k_ hk => ⟨trivial, fun e_ => hk.2 e_⟩)))
    (case aS => exact (below_size (by exact bl_o HB.out)))
    (case aL => have := LMc6.out; omega)
    intro v107 w10 ho hb hg hat
    rw [← Ny106.out] at ho
    have n0_ := am (hb)
    have n1_ := am (ho)
    clear HB
    clear HO_6
    clear HO105
    have HB := n0_
    have HO108 := n1_
    clear n0_ n1_
    clear ho hb hg hat
    refine hK.out _ _ ⟨(oc HB.out hw101_0 :), (oc HB.out hw101_1 :), (oc HB.out hw102_0 :), (oc HB.out hw102_1 :)⟩ (fun hHeld => ?_)
    clear hK K
    refine norm_ (a' := ?_) ?_ ?_
    rotate_left
    ·
     show Act.put _ (some 30) _ = _
     simp only [pz]
     rfl
    refine pure_ (i := 15) (N := some 6) (v := ?_) (a' := ?_) (bm 16 65535) rfl rfl (any_of HT_.out (by kernel_rfl)) (fun _ _ _ h => h) (Or.inl ⟨by rfl, ?_⟩) ?_ ?_
    rotate_left
    ·
     intro w'
     go_simp
     with_reducible rfl
    rotate_left
    ·
     simp only [pz]
     rfl
    refine done_ (done_of HT_.out (by kernel_rfl)) ?_
    try go_wp2
    go_roundg k1
    case measure => have := HK1.out; omega
    case rel => exact ⟨(y106), (wrap64 (x8_1 + 1)), (by first | rfl | (simp; done) | (simp [*]; done)), H', ⟨by have := HK1.out; omega⟩, ⟨by (with_reducible repeat (first | apply Kd.S_alloc | apply Kd.S_drewN | apply Kd.S_drew)); exact HO108.out⟩, ⟨by exact bl_g HB.out⟩⟩
   rw [if_neg c3] at H
   have c3b0 : decide (x8_1 < (l0.length : Int)) = false := decide_eq_false c3
   clear c3
   have H' := am H
   clear H
   go_wp2
   go_loopg [7, 9] k1 (fun kq v7 v9 w' => ∃ (x7_2 : List (S46)) (x9_2 : Int), v9 = .int .i64 x9_2 ∧ Aside0 (gangwaylaw14_tables.l1 kq l1 x6_1 x7_2 x9_2 = some (r1, r2)) ∧ Aside0 (kq ≤ k1) ∧ Aside0 (Kd.S k69 69 w' w.heap.size (fun _ => True) u6 x6_1) ∧ Aside0 (Kd.S k46 46 w' w.heap.size (fun _ => True) v7 x7_2) ∧ Aside0 (Below w.heap.size w w'))
   case atStart => exact ⟨(([] : List (S46))), (0), (by first | rfl | (simp; done) | (simp [*]; done)), H', ⟨Nat.le_refl _⟩, ⟨by (with_reducible repeat (first | apply Kd.S_alloc | apply Kd.S_drewN | apply Kd.S_drew)); exact HO_6.out⟩, ⟨by first | exact Kd.S_nil _ _ _ _ _ | exact Kd.N_nil _ _ _ _ _ | exact Kd.V_nil _ _ _ _ _ | exact Kd.Q_nil _ _ _ _ _ | exact Kd.R_nil _ _ _ _ _⟩, ⟨by exact bl_g HB.out⟩⟩
   case round =>
    clear H'
    try clear c1
    try clear p1
    try clear q1
    try clear hx1
    try clear c2
    try clear p2
    try clear c3
    try clear c3b0
    try clear c4
    try clear c4b0
    try clear c6
    try clear p6
    try clear c8
    try clear c10
    try clear p10
    try clear q10
    try clear hx10
    try clear hx101_0
    try clear hx101_1
    try clear hx102_0
    try clear hx102_1
    try clear p101
    try clear p102
    try clear p2
    try clear q101
    try clear q102
    obtain ⟨x7_2, x9_2, rfl, HA, HK2, HO_6, HO_7, HB⟩ := hrel
    cases gk with
    | zero => exact absurd HA.out (by simp [gangwaylaw14_tables.l1])
    | succ k2 =>
     have H := HA.out
     clear HA
     simp only [gangwaylaw14_tables.l1] at H
     by_cases c11 : x9_2 < (l1.length : Int)
     rotate_left
     ·
      rw [if_neg c11] at H
      have c11b0 : decide (x9_2 < (l1.length : Int)) = false := decide_eq_false c11
      clear c11
      simp only [Option.some.injEq, Prod.mk.injEq] at H
      obtain ⟨rfl, rfl⟩ := H
      go_wp2
      go_ret2
      exact ⟨_, _, rfl, by (with_reducible repeat (first | apply Kd.S_alloc | apply Kd.S_drewN | apply Kd.S_drew)); exact HO_6.out, by (with_reducible repeat (first | apply Kd.S_alloc | apply Kd.S_drewN | apply Kd.S_drew)); exact HO_7.out, by exact bl_g HB.out⟩
     rw [if_pos c11] at H
     have c11b0 : decide (x9_2 < (l1.length : Int)) = true := decide_eq_true c11
     clear c11
     by_cases c12 : 0 ≤ x9_2
     rotate_left
     ·
      rw [if_neg c12] at H
      exact absurd H (by simp)
     rw [if_pos c12] at H
     have c12b0 : decide (0 ≤ x9_2) = true := decide_eq_true c12
     clear c12
     replace H := Option.bind_eq_some_iff.mp H
     obtain ⟨t113, A130, H⟩ := H
     replace H : (if x7_2.length < 2932031007402 then (gangwaylaw14_tables.l1 k2 l1 x6_1 (x7_2 ++ [(⟨(rd_T61 l1 x9_2).f0, (rd_T61 l1 x9_2).f1, (rd_T61 l1 x9_2).f2, t113⟩ : S46)]) (wrap64 (x9_2 + 1))) else (none)) = some (r1, r2) := H
     have A13 := am A130
     clear A130
     by_cases c14 : x7_2.length < 2932031007402
     rotate_left
     ·
      rw [if_neg c14] at H
      exact absurd H (by simp)
     rw [if_pos c14] at H
     have LMc14 := am c14
     clear c14
     obtain ⟨y116, hy116⟩ : ∃ y_ : List (S46), y_ = (x7_2 ++ [(⟨(rd_T61 l1 x9_2).f0, (rd_T61 l1 x9_2).f1, (rd_T61 l1 x9_2).f2, t113⟩ : S46)]) := ⟨_, rfl⟩
     replace H : (gangwaylaw14_tables.l1 k2 l1 x6_1 y116 (wrap64 (x9_2 + 1))) = some (r1, r2) := by first | (rw [hy116]; with_reducible exact H) | (have H2_ := (Option.bind_some _ _).symm.trans H; rw [hy116]; with_reducible exact H2_)
     have Ny116 := am hy116
     clear hy116
     have H' := am H
     clear H
     try go_wp2
     have n0_ := am (Kd.S_drew HO_6.out)
     have n1_ := am (Kd.S_drew HO_7.out)
     have n2_ := am (below_drew1 HB.out)
     clear HO_6
     clear HO_7
     clear HB
     have HO_6 := n0_
     have HO_7 := n1_
     have HB := n2_
     clear n0_ n1_ n2_
     have p109 : 0 ≤ (x9_2 : Int) := od
     have q109 : x9_2 < (l1.length : Int) := od
     obtain ⟨ad109, A109_3, c109_3, e109, hx109_0, hx109_1, hx109_2, hx109_3, hl109_3, hi109_3⟩ := at_T61 HR1.out x9_2 p109 q109
     have hw109_3 := hx109_3
     have hw109_2 := hx109_2
     have hw109_1 := hx109_1
     have hw109_0 := hx109_0
     cases e109
     replace hx109_0 := oc HB.out hx109_0
     replace hx109_1 := oc HB.out hx109_1
     replace hx109_2 := oc HB.out hx109_2
     replace hx109_3 := oc HB.out hx109_3
     have HR109_3 := am hi109_3
     have HC109_3 := am hl109_3
     clear hi109_3 hl109_3
     replace p109 := eq_true p109
     replace q109 := eq_true q109
     have p110 : 0 ≤ (x9_2 : Int) := od
     have q110 : x9_2 < (l1.length : Int) := od
     obtain ⟨ad110, A110_3, c110_3, e110, hx110_0, hx110_1, hx110_2, hx110_3, hl110_3, hi110_3⟩ := at_T61 HR1.out x9_2 p110 q110
     have hw110_3 := hx110_3
     have hw110_2 := hx110_2
     have hw110_1 := hx110_1
     have hw110_0 := hx110_0
     obtain rfl : ad109 = ad110 := (by injection e110)
     replace hx110_0 := oc HB.out hx110_0
     replace hx110_1 := oc HB.out hx110_1
     replace hx110_2 := oc HB.out hx110_2
     replace hx110_3 := oc HB.out hx110_3
     have HR110_3 := am hi110_3
     have HC110_3 := am hl110_3
     clear hi110_3 hl110_3
     replace p110 := eq_true p110
     replace q110 := eq_true q110
     have ea_ := Option.some.inj (hx109_3.symm.trans hx110_3)
     injection ea_ with ea_ en_ ec_
     subst ea_
     subst ec_
     clear en_
     have p111 : 0 ≤ (x9_2 : Int) := od
     have q111 : x9_2 < (l1.length : Int) := od
     obtain ⟨ad111, A111_3, c111_3, e111, hx111_0, hx111_1, hx111_2, hx111_3, hl111_3, hi111_3⟩ := at_T61 HR1.out x9_2 p111 q111
     have hw111_3 := hx111_3
     have hw111_2 := hx111_2
     have hw111_1 := hx111_1
     have hw111_0 := hx111_0
     obtain rfl : ad109 = ad111 := (by injection e111)
     replace hx111_0 := oc HB.out hx111_0
     replace hx111_1 := oc HB.out hx111_1
     replace hx111_2 := oc HB.out hx111_2
     replace hx111_3 := oc HB.out hx111_3
     have HR111_3 := am hi111_3
     have HC111_3 := am hl111_3
     clear hi111_3 hl111_3
     replace p111 := eq_true p111
     replace q111 := eq_true q111
     have ea_ := Option.some.inj (hx109_3.symm.trans hx111_3)
     injection ea_ with ea_ en_ ec_
     subst ea_
     subst ec_
     clear en_
     have p112 : 0 ≤ (x9_2 : Int) := od
     have q112 : x9_2 < (l1.length : Int) := od
     obtain ⟨ad112, A112_3, c112_3, e112, hx112_0, hx112_1, hx112_2, hx112_3, hl112_3, hi112_3⟩ := at_T61 HR1.out x9_2 p112 q112
     have hw112_3 := hx112_3
     have hw112_2 := hx112_2
     have hw112_1 := hx112_1
     have hw112_0 := hx112_0
     obtain rfl : ad109 = ad112 := (by injection e112)
     replace hx112_0 := oc HB.out hx112_0
     replace hx112_1 := oc HB.out hx112_1
     replace hx112_2 := oc HB.out hx112_2
     replace hx112_3 := oc HB.out hx112_3
     have HR112_3 := am hi112_3
     have HC112_3 := am hl112_3
     clear hi112_3 hl112_3
     replace p112 := eq_true p112
     replace q112 := eq_true q112
     have ea_ := Option.some.inj (hx109_3.symm.trans hx112_3)
     injection ea_ with ea_ en_ ec_
     subst ea_
     subst ec_
     clear en_
     refine start_ (n := 26) (S := fun w' => w'.cell? (ad109.add ((x9_2).toNat * 4)) = some (.int .i64 ((rd_T61 l1 x9_2).f0)) ∧ w'.cell? ⟨(ad109.add ((x9_2).toNat * 4)).block, (ad109.add ((x9_2).toNat * 4)).off + 1, none⟩ = some (.int .i64 ((rd_T61 l1 x9_2).f1)) ∧ w'.cell? ⟨(ad109.add ((x9_2).toNat * 4)).block, (ad109.add ((x9_2).toNat * 4)).off + 2, none⟩ = some (.int .i64 ((rd_T61 l1 x9_2).f2)) ∧ w'.cell? ⟨(ad109.add ((x9_2).toNat * 4)).block, (ad109.add ((x9_2).toNat * 4)).off + 3, none⟩ = some (.slice A109_3 ((rd_T61 l1 x9_2).f3).length c109_3) ∧ w'.cell? (ad109.add ((x9_2).toNat * 4)) = some (.int .i64 ((rd_T61 l1 x9_2).f0)) ∧ w'.cell? ⟨(ad109.add ((x9_2).toNat * 4)).block, (ad109.add ((x9_2).toNat * 4)).off + 1, none⟩ = some (.int .i64 ((rd_T61 l1 x9_2).f1)) ∧ w'.cell? ⟨(ad109.add ((x9_2).toNat * 4)).block, (ad109.add ((x9_2).toNat * 4)).off + 2, none⟩ = some (.int .i64 ((rd_T61 l1 x9_2).f2)) ∧ w'.cell? ⟨(ad109.add ((x9_2).toNat * 4)).block, (ad109.add ((x9_2).toNat * 4)).off + 3, none⟩ = some (.slice A109_3 ((rd_T61 l1 x9_2).f3).length c109_3) ∧ w'.cell? (ad109.add ((x9_2).toNat * 4)) = some (.int .i64 ((rd_T61 l1 x9_2).f0)) ∧ w'.cell? ⟨(ad109.add ((x9_2).toNat * 4)).block, (ad109.add ((x9_2).toNat * 4)).off + 1, none⟩ = some (.int .i64 ((rd_T61 l1 x9_2).f1)) ∧ w'.cell? ⟨(ad109.add ((x9_2).toNat * 4)).block, (ad109.add ((x9_2).toNat * 4)).off + 2, none⟩ = some (.int .i64 ((rd_T61 l1 x9_2).f2)) ∧ w'.cell? ⟨(ad109.add ((x9_2).toNat * 4)).block, (ad109.add ((x9_2).toNat * 4)).off + 3, none⟩ = some (.slice A109_3 ((rd_T61 l1 x9_2).f3).length c109_3) ∧ w'.cell? (ad109.add ((x9_2).toNat * 4)) = some (.int .i64 ((rd_T61 l1 x9_2).f0)) ∧ w'.cell? ⟨(ad109.add ((x9_2).toNat * 4)).block, (ad109.add ((x9_2).toNat * 4)).off + 1, none⟩ = some (.int .i64 ((rd_T61 l1 x9_2).f1)) ∧ w'.cell? ⟨(ad109.add ((x9_2).toNat * 4)).block, (ad109.add ((x9_2).toNat * 4)).off + 2, none⟩ = some (.int .i64 ((rd_T61 l1 x9_2).f2)) ∧ w'.cell? ⟨(ad109.add ((x9_2).toNat * 4)).block, (ad109.add ((x9_2).toNat * 4)).off + 3, none⟩ = some (.slice A109_3 ((rd_T61 l1 x9_2).f3).length c109_3)) (ds := []) (bm 26 0) (by kernel_rfl) rfl rfl ⟨(oc HB.out hw109_0 :), (oc HB.out hw109_1 :), (oc HB.out hw109_2 :), (oc HB.out hw109_3 :), (oc HB.out hw110_0 :), (oc HB.out hw110_1 :), (oc HB.out hw110_2 :), (oc HB.out hw110_3 :), (oc HB.out hw111_0 :), (oc HB.out hw111_1 :), (oc HB.out hw111_2 :), (oc HB.out hw111_3 :), (oc HB.out hw112_0 :), (oc HB.out hw112_1 :), (oc HB.out hw112_2 :), (oc HB.out hw112_3 :)⟩ (fun hHeld => ?_); refine with_tabW gangwaylaw14_tables.tab10 gangwaylaw14_tables.bits10 (fun HT_ HW_ => ?_)
     generalize wr.drew = w15 at HO_6 HO_7 HB HR109_3 HR110_3 HR111_3 HR112_3 hx109_0 hx109_1 hx109_2 hx109_3 hx110_0 hx110_1 hx110_2 hx110_3 hx111_0 hx111_1 hx111_2 hx111_3 hx112_0 hx112_1 hx112_2 hx112_3 hHeld ⊢
     refine pure_ (i := 0) (N := some 37) (v := ?_) (a' := ?_) (bm 26 1) rfl rfl (any_of HT_.out (by kernel_rfl)) (fun _ _ _ h => h) (Or.inl ⟨by rfl, ?_⟩) ?_ ?_
     rotate_left
     ·
      intro w'
      go_simp
      with_reducible rfl
     rotate_left
     ·
      simp only [pz]
      rfl
     refine pure_ (i := 1) (N := some 38) (v := ?_) (a' := ?_) (bm 26 3) rfl rfl (any_of HT_.out (by kernel_rfl)) (fun _ _ _ h => h) (Or.inl ⟨by rfl, ?_⟩) ?_ ?_
     rotate_left
     ·
      intro w'
      go_simp
      with_reducible rfl
     rotate_left
     ·
      simp only [pz]
      rfl
     refine pure_ (i := 2) (N := some 39) (v := ?_) (a' := ?_) (bm 26 7) rfl rfl (any_of HT_.out (by kernel_rfl)) (fun _ _ _ h => h) (Or.inl ⟨by rfl, ?_⟩) ?_ ?_
     rotate_left
     ·
      intro w'
      go_simp
      with_reducible rfl
     rotate_left
     ·
      simp only [pz]
      rfl
     refine pure_ (i := 3) (N := some 40) (v := ?_) (a' := ?_) (bm 26 15) rfl rfl (any_of HT_.out (by kernel_rfl)) (fun _ _ _ h => h) (Or.inl ⟨by rfl, ?_⟩) ?_ ?_
     rotate_left
     ·
      intro w'
      go_simp
      with_reducible rfl
     rotate_left
     ·
      simp only [pz]
      rfl
     refine pure_ (i := 4) (N := some 41) (v := ?_) (a' := ?_) (bm 26 31) rfl rfl (any_of HT_.out (by kernel_rfl)) (fun _ _ _ h => h) (Or.inl ⟨by rfl, ?_⟩) ?_ ?_
     rotate_left
     ·
      intro w'
      go_simp
      with_reducible rfl
     rotate_left
     ·
      simp only [pz]
      rfl
     refine pure_ (i := 6) (N := some 43) (v := ?_) (a' := ?_) (bm 26 95) rfl rfl (any_of HT_.out (by kernel_rfl)) (fun _ _ _ h => h) (Or.inl ⟨by rfl, ?_⟩) ?_ ?_
     rotate_left
     ·
      intro w'
      go_simp
      with_reducible rfl
     rotate_left
     ·
      simp only [pz]
      rfl
     refine pure_ (i := 7) (N := some 44) (v := ?_) (a' := ?_) (bm 26 223) rfl rfl (any_of HT_.out (by kernel_rfl)) (fun _ _ _ h => h) (Or.inl ⟨by rfl, ?_⟩) ?_ ?_
     rotate_left
     ·
      intro w'
      go_simp
      with_reducible rfl
     rotate_left
     ·
      simp only [pz]
      rfl
     refine pure_ (i := 8) (N := some 45) (v := ?_) (a' := ?_) (bm 26 479) rfl rfl (any_of HT_.out (by kernel_rfl)) (fun _ _ _ h => h) (Or.inl ⟨by rfl, ?_⟩) ?_ ?_
     rotate_left
     ·
      intro w'
      go_simp
      with_reducible rfl
     rotate_left
     ·
      simp only [pz]
      rfl
     refine pure_ (i := 9) (N := some 46) (v := ?_) (a' := ?_) (bm 26 991) rfl rfl (any_of HT_.out (by kernel_rfl)) (fun _ _ _ h => h) (Or.inl ⟨by rfl, ?_⟩) ?_ ?_
     rotate_left
     ·
      intro w'
      go_simp
      with_reducible rfl
     rotate_left
     ·
      simp only [pz]
      rfl
     refine pure_ (i := 11) (N := some 48) (v := ?_) (a' := ?_) (bm 26 3039) rfl rfl (any_of HT_.out (by kernel_rfl)) (fun _ _ _ h => h) (Or.inl ⟨by rfl, ?_⟩) ?_ ?_
     rotate_left
     ·
      intro w'
      go_simp
      with_reducible rfl
     rotate_left
     ·
      simp only [pz]
      rfl
     refine pure_ (i := 12) (N := some 49) (v := ?_) (a' := ?_) (bm 26 7135) rfl rfl (any_of HT_.out (by kernel_rfl)) (fun _ _ _ h => h) (Or.inl ⟨by rfl, ?_⟩) ?_ ?_
     rotate_left
     ·
      intro w'
      go_simp
      with_reducible rfl
     rotate_left
     ·
      simp only [pz]
      rfl
     refine pure_ (i := 13) (N := some 50) (v := ?_) (a' := ?_) (bm 26 15327) rfl rfl (any_of HT_.out (by kernel_rfl)) (fun _ _ _ h => h) (Or.inl ⟨by rfl, ?_⟩) ?_ ?_
     rotate_left
     ·
      intro w'
      go_simp
      with_reducible rfl
     rotate_left
     ·
      simp only [pz]
      rfl
     refine pure_ (i := 14) (N := some 51) (v := ?_) (a' := ?_) (bm 26 31711) rfl rfl (any_of HT_.out (by kernel_rfl)) (fun _ _ _ h => h) (Or.inl ⟨by rfl, ?_⟩) ?_ ?_
     rotate_left
     ·
      intro w'
      go_simp
      with_reducible rfl
     rotate_left
     ·
      simp only [pz]
      rfl
     refine pure_ (i := 16) (N := some 53) (v := ?_) (a' := ?_) (bm 26 97247) rfl rfl (any_of HT_.out (by kernel_rfl)) (fun _ _ _ h => h) (Or.inl ⟨by rfl, ?_⟩) ?_ ?_
     rotate_left
     ·
      intro w'
      go_simp
      with_reducible rfl
     rotate_left
     ·
      simp only [pz]
      rfl
     refine pure_ (i := 17) (N := some 54) (v := ?_) (a' := ?_) (bm 26 228319) rfl rfl (any_of HT_.out (by kernel_rfl)) (fun _ _ _ h => h) (Or.inl ⟨by rfl, ?_⟩) ?_ ?_
     rotate_left
     ·
      intro w'
      go_simp
      with_reducible rfl
     rotate_left
     ·
      simp only [pz]
      rfl
     refine pure_ (i := 18) (N := some 55) (v := ?_) (a' := ?_) (bm 26 490463) rfl rfl (any_of HT_.out (by kernel_rfl)) (fun _ _ _ h => h) (Or.inl ⟨by rfl, ?_⟩) ?_ ?_
     rotate_left
     ·
      intro w'
      go_simp
      with_reducible rfl
     rotate_left
     ·
      simp only [pz]
      rfl
     refine pure_ (i := 19) (N := some 56) (v := ?_) (a' := ?_) (bm 26 1014751) rfl rfl (any_of HT_.out (by kernel_rfl)) (fun _ _ _ h => h) (Or.inl ⟨by rfl, ?_⟩) ?_ ?_
     rotate_left
     ·
      intro w'
      go_simp
      with_reducible rfl
     rotate_left
     ·
      simp only [pz]
      rfl
     refine take_ (i := 5) (N := some 42) (v := ?_) (a' := ?_) (bm 26 1014783) rfl rfl (take_ofW HT_.out HW_.out (by kernel_rfl)) (fun _ _ _ h => h) (Or.inl ⟨by rfl, ?_⟩) hHeld ?_ ?_
     rotate_left
     ·
      rintro w' ⟨s0, s1, s2, s3, s4, s5, s6, s7, s8, s9, s10, s11, s12, s13, s14, s15⟩
      go_simp
      with_reducible rfl
     rotate_left
     ·
      simp only [pz]
      rfl
     refine take_ (i := 10) (N := some 47) (v := ?_) (a' := ?_) (bm 26 1015807) rfl rfl (take_ofW HT_.out HW_.out (by kernel_rfl)) (fun _ _ _ h => h) (Or.inl ⟨by rfl, ?_⟩) hHeld ?_ ?_
     rotate_left
     ·
      rintro w' ⟨s0, s1, s2, s3, s4, s5, s6, s7, s8, s9, s10, s11, s12, s13, s14, s15⟩
      go_simp
      with_reducible rfl
     rotate_left
     ·
      simp only [pz]
      rfl
     refine take_ (i := 15) (N := some 52) (v := ?_) (a' := ?_) (bm 26 1048575) rfl rfl (take_ofW HT_.out HW_.out (by kernel_rfl)) (fun _ _ _ h => h) (Or.inl ⟨by rfl, ?_⟩) hHeld ?_ ?_
     rotate_left
     ·
      rintro w' ⟨s0, s1, s2, s3, s4, s5, s6, s7, s8, s9, s10, s11, s12, s13, s14, s15⟩
      go_simp
      with_reducible rfl
     rotate_left
     ·
      simp only [pz]
      rfl
     refine take_ (i := 20) (N := some 57) (v := ?_) (a' := ?_) (bm 26 2097151) rfl rfl (take_ofW HT_.out HW_.out (by kernel_rfl)) (fun _ _ _ h => h) (Or.inl ⟨by rfl, ?_⟩) hHeld ?_ ?_
     rotate_left
     ·
      rintro w' ⟨s0, s1, s2, s3, s4, s5, s6, s7, s8, s9, s10, s11, s12, s13, s14, s15⟩
      go_simp
      with_reducible rfl
     rotate_left
     ·
      simp only [pz]
      rfl
     refine one_ (i := 21) (N := some 58) (bm 26 4194303) rfl rfl (one_of HT_.out (by kernel_rfl)) (by decide) (fun K hK => ?_)
     refine goes_ Try.func22 (by kernel_rfl) rfl #[.slice A109_3 ((rd_T61 l1 x9_2).f3).length c109_3] (by rfl) rfl rfl (by simp only [ml]; try rfl) ?_
     with_reducible refine (gangwaylaw14_ops.calls k2 _ _ ((rd_T61 l1 x9_2).f3) t113 _ ?side1 ?side2 A13.out).mono ?_
     (case side1 => exact Kd.C_o (Kd.C_below HR112_3.out HB.out))
     (case side2 => exact HC112_3.out)
     rintro e w16 ⟨v114, rfl, ho0, hb⟩
     refine ⟨_, rfl, ?_⟩
     have n0_ := am (Kd.S_elder' (by (with_reducible repeat (first | apply Kd.S_alloc | apply Kd.S_drewN | apply Kd.S_drew)); exact HO_6.out) (Kd.R_base ho0) hb)
     have n1_ := am (Kd.S_elder' (by (with_reducible repeat (first | apply Kd.S_alloc | apply Kd.S_drewN | apply Kd.S_drew)); exact HO_7.out) (Kd.R_base ho0) hb)
     have n2_ := am (Kd.R_lower ho0 (below_size (by exact bl_o HB.out)))
     have n3_ := am (below_step (by exact bl_o HB.out) hb)
     clear HO_6
     clear HO_7
     clear HB
     have HO_6 := n0_
     have HO_7 := n1_
     have HO115 := n2_
     have HB := n3_
     clear n0_ n1_ n2_ n3_
     (try clear hb)
     (try clear hb2)
     (try clear hk)
     (try clear hi)
     (try clear ho0)
     obtain ⟨Ao17, co17, eo17⟩ := Kd.R_slice HO115.out
     (first | subst eo17 | (injection eo17 with f1_ f2_ f3_; have f4_ := f1_.symm; have f5_ := f3_.symm; clear f1_ f2_ f3_; subst f4_; subst f5_))
     refine hK.out _ _ ⟨(oc HB.out hw109_0 :), (oc HB.out hw109_1 :), (oc HB.out hw109_2 :), (oc HB.out hw109_3 :), (oc HB.out hw110_0 :), (oc HB.out hw110_1 :), (oc HB.out hw110_2 :), (oc HB.out hw110_3 :), (oc HB.out hw111_0 :), (oc HB.out hw111_1 :), (oc HB.out hw111_2 :), (oc HB.out hw111_3 :), (oc HB.out hw112_0 :), (oc HB.out hw112_1 :), (oc HB.out hw112_2 :), (oc HB.out hw112_3 :)⟩ (fun hHeld => ?_)
     clear hK K
     refine norm_ (a' := ?_) ?_ ?_
     rotate_left
     ·
      show Act.put _ (some 58) _ = _
      simp only [pz]
      rfl
     refine pure_ (i := 22) (N := some 59) (v := ?_) (a' := ?_) (bm 26 8388607) rfl rfl (any_of HT_.out (by kernel_rfl)) (fun _ _ _ h => h) (Or.inl ⟨by rfl, ?_⟩) ?_ ?_
     rotate_left
     ·
      intro w'
      go_simp
      with_reducible rfl
     rotate_left
     ·
      simp only [pz]
      rfl
     refine one_ (i := 23) (N := some 60) (bm 26 16777215) rfl rfl (one_of HT_.out (by kernel_rfl)) (by decide) (fun K hK => ?_)
     refine value_ (w1 := ?_) (v := ?_) (by rfl) rfl ?_ ?_
     rotate_left 2
     ·
      go_simp
      constructor
      ·
       rfl
      rfl
     refine hK.out _ _ ⟨(World.cell?_alloc_lt _ _ _ (World.block_lt_of_cell? _ _ ((oc HB.out hw109_0 :)))).trans ((oc HB.out hw109_0 :)), (World.cell?_alloc_lt _ _ _ (World.block_lt_of_cell? _ _ ((oc HB.out hw109_1 :)))).trans ((oc HB.out hw109_1 :)), (World.cell?_alloc_lt _ _ _ (World.block_lt_of_cell? _ _ ((oc HB.out hw109_2 :)))).trans ((oc HB.out hw109_2 :)), (World.cell?_alloc_lt _ _ _ (World.block_lt_of_cell? _ _ ((oc HB.out hw109_3 :)))).trans ((oc HB.out hw109_3 :)), (World.cell?_alloc_lt _ _ _ (World.block_lt_of_cell? _ _ ((oc HB.out hw110_0 :)))).trans ((oc HB.out hw110_0 :)), (World.cell?_alloc_lt _ _ _ (World.block_lt_of_cell? _ _ ((oc HB.out hw110_1 :)))).trans ((oc HB.out hw110_1 :)), (World.cell?_alloc_lt _ _ _ (World.block_lt_of_cell? _ _ ((oc HB.out hw110_2 :)))).trans ((oc HB.out hw110_2 :)), (World.cell?_alloc_lt _ _ _ (World.block_lt_of_cell? _ _ ((oc HB.out hw110_3 :)))).trans ((oc HB.out hw110_3 :)), (World.cell?_alloc_lt _ _ _ (World.block_lt_of_cell? _ _ ((oc HB.out hw111_0 :)))).trans ((oc HB.out hw111_0 :)), (World.cell?_alloc_lt _ _ _ (World.block_lt_of_cell? _ _ ((oc HB.out hw111_1 :)))).trans ((oc HB.out hw111_1 :)), (World.cell?_alloc_lt _ _ _ (World.block_lt_of_cell? _ _ ((oc HB.out hw111_2 :)))).trans ((oc HB.out hw111_2 :)), (World.cell?_alloc_lt _ _ _ (World.block_lt_of_cell? _ _ ((oc HB.out hw111_3 :)))).trans ((oc HB.out hw111_3 :)), (World.cell?_alloc_lt _ _ _ (World.block_lt_of_cell? _ _ ((oc HB.out hw112_0 :)))).trans ((oc HB.out hw112_0 :)), (World.cell?_alloc_lt _ _ _ (World.block_lt_of_cell? _ _ ((oc HB.out hw112_1 :)))).trans ((oc HB.out hw112_1 :)), (World.cell?_alloc_lt _ _ _ (World.block_lt_of_cell? _ _ ((oc HB.out hw112_2 :)))).trans ((oc HB.out hw112_2 :)), (World.cell?_alloc_lt _ _ _ (World.block_lt_of_cell? _ _ ((oc HB.out hw112_3 :)))).trans ((oc HB.out hw112_3 :))⟩ (fun hHeld => ?_)
     clear hK K
     refine norm_ (a' := ?_) ?_ ?_
     rotate_left
     ·
      show Act.put _ (some 60) _ = _
      simp only [pz]
      rfl
     refine one_ (i := 24) (N := some 61) (bm 26 33554431) rfl rfl (one_of HT_.out (by kernel_rfl)) (by decide) (fun K hK => ?_)
     refine Kd.S_append_step k46 (w0 := w) w.heap.size (by rfl) (.tmp 37) (.tmp 60) 25 46 (.agg #[(.int .i64 0), (.int .i64 0), (.int .i64 0), (.slice none 0 0)]) 48 rfl Try.underlying25 info46 rfl (by decide) (by omega) u7 x7_2 (⟨(rd_T61 l1 x9_2).f0, (rd_T61 l1 x9_2).f1, (rd_T61 l1 x9_2).f2, t113⟩ : S46) [.int .i64 ((rd_T61 l1 x9_2).f0), .int .i64 ((rd_T61 l1 x9_2).f1), .int .i64 ((rd_T61 l1 x9_2).f2), .slice Ao17 t113.length co17] (fun _ => True) (fun k_ => some k_ = (.slice Ao17 t113.length co17 : Value).ownBlock) rfl rfl ?aP (fun k_ hk_ => ((Kd.R_mono (ok' := fun k_ => ((fun _ => True)) k_ ∧ some k_ ≠ (u7 : Value).ownBlock) (Kd.R_apart' (HO115.out) (Kd.S_typed HO_7.out) (by decide)) (fun k_ hk => ⟨trivial, hk.2⟩))).1 k_ hk_.symm) ?aF ?aO ?aB ?aS ?aL ?_
     (case aP => exact k46_mkM _ _ _ (⟨(rd_T61 l1 x9_2).f0, (rd_T61 l1 x9_2).f1, (rd_T61 l1 x9_2).f2, t113⟩ : S46) (Kd.R_mono (Kd.R_tight rfl (Kd.R_mono (ok' := fun k_ => ((fun _ => True)) k_ ∧ some k_ ≠ (u7 : Value).ownBlock) (Kd.R_apart' (HO115.out) (Kd.S_typed HO_7.out) (by decide)) (fun k_ hk => ⟨trivial, hk.2⟩))) (fun _ h_ => h_)))
     (case aB => exact (by exact bl_o HB.out))
     (case aF => exact (fun _ _ => trivial))
     (case aO => exact (by (with_reducible repeat (first | apply Kd.S_alloc | apply Kd.S_drewN | apply Kd.S_drew)); exact Kd.S_mono HO_7.out (fun k_ hk => ⟨trivial, fun e_ => hk.2 e_⟩)))
     (case aS => exact (below_size (by exact bl_o HB.out)))
     (case aL => have := LMc14.out; omega)
     intro v117 w18 ho hb hg hat
     rw [← Ny116.out] at ho
     have n0_ := am (Kd.S_over' (by (with_reducible repeat (first | apply Kd.S_alloc | apply Kd.S_drewN | apply Kd.S_drew)); exact HO_6.out) (Kd.S_typed (by (with_reducible repeat (first | apply Kd.S_alloc | apply Kd.S_drewN | apply Kd.S_drew)); exact HO_7.out)) (by decide) hg)
     have n1_ := am (hb)
     have n2_ := am (ho)
     clear HO_6
     clear HB
     clear HO_7
     clear HO115
     have HO_6 := n0_
     have HB := n1_
     have HO118 := n2_
     clear n0_ n1_ n2_
     clear ho hb hg hat
     refine hK.out _ _ ⟨(oc HB.out hw109_0 :), (oc HB.out hw109_1 :), (oc HB.out hw109_2 :), (oc HB.out hw109_3 :), (oc HB.out hw110_0 :), (oc HB.out hw110_1 :), (oc HB.out hw110_2 :), (oc HB.out hw110_3 :), (oc HB.out hw111_0 :), (oc HB.out hw111_1 :), (oc HB.out hw111_2 :), (oc HB.out hw111_3 :), (oc HB.out hw112_0 :), (oc HB.out hw112_1 :), (oc HB.out hw112_2 :), (oc HB.out hw112_3 :)⟩ (fun hHeld => ?_)
     clear hK K
     refine norm_ (a' := ?_) ?_ ?_
     rotate_left
     ·
      show Act.put _ (some 61) _ = _
      simp only [pz]
      rfl
     refine pure_ (i := 25) (N := some 7) (v := ?_) (a' := ?_) (bm 26 67108863) rfl rfl (any_of HT_.out (by kernel_rfl)) (fun _ _ _ h => h) (Or.inl ⟨by rfl, ?_⟩) ?_ ?_
     rotate_left
     ·
      intro w'
      go_simp
      with_reducible rfl
     rotate_left
     ·
      simp only [pz]
      rfl
     refine done_ (done_of HT_.out (by kernel_rfl)) ?_
     try go_wp2
     go_roundg k2
     case measure => have := HK1.out; have := HK2.out; omega
     case rel => exact ⟨(y116), (wrap64 (x9_2 + 1)), (by first | rfl | (simp; done) | (simp [*]; done)), H', ⟨by have := HK1.out; have := HK2.out; omega⟩, ⟨by (with_reducible repeat (first | apply Kd.S_alloc | apply Kd.S_drewN | apply Kd.S_drew)); exact Kd.S_mono HO_6.out (fun _ hk => trivial)⟩, ⟨by (with_reducible repeat (first | apply Kd.S_alloc | apply Kd.S_drewN | apply Kd.S_drew)); exact HO118.out⟩, ⟨by exact bl_g HB.out⟩⟩
end Go.Proofs.Ytfgfnflhdabmcaa.G
end
section
namespace Go.Proofs.Ytfgfnflhdabmcaa.LitMap
open Go.Instr Go.RowKit
theorem keyI (x : Int) : MapKept.IsKey (.int .i64 : TypeDesc) (.int .i64 x) := by simp [MapKept.IsKey]
theorem run_put {P : Program} {t k e : TypeId} {w : World} {b : Nat} {es : Array MapEntry} {clock : Nat} (ht : P.underlying t = some (.map k e)) (hk : P.underlying k = some (.int .i64)) (hb : w.heap[b]? = some (.map es clock))
    (x : Int) (hn : findNow (.int .i64) (.int .i64 x) es.toList 0 = some none) (v : Value) :
    (Instr.mapUpdate t (.map (some b)) (.int .i64 x) v).run P w = .ok () (w.putObj b (.map (es.push { key := .int .i64 x, val := v, born := clock }) (clock + 1))) := by
  have hc : (Instr.checkKey false 10000 k (.int .i64 x)).run P w = .ok () w := MapKept.run_checkKey (k := .int .i64 x) hk (keyI x) false 9999
  simp [Instr.mapUpdate, run_underlying ht, MapKept.run_getObj_map hb, hc, MapKept.run_findKey hk hn, MapKept.run_setObj_map _ hb, Result.andThen, World.putObj]
theorem run_look {P : Program} {t k e : TypeId} {w : World} {b : Nat} {es : Array MapEntry} {clock : Nat} (ht : P.underlying t = some (.map k e)) (hk : P.underlying k = some (.int .i64)) (hb : w.heap[b]? = some (.map es clock))
    (x : Int) (i : Nat) (v : Value) (hn : findNow (.int .i64) (.int .i64 x) es.toList 0 = some (some (i, v))) :
    (Instr.lookup t (.map (some b)) (.int .i64 x) true).run P w = .ok (.tuple #[v, .bool true]) w := by
  simp [Instr.lookup, run_underlying ht, MapKept.run_getObj_map hb, MapKept.run_checkKey (k := .int .i64 x) hk (keyI x), MapKept.run_findKey hk hn, Result.andThen]
theorem run_look_none {P : Program} {t k e : TypeId} {w : World} {b : Nat} {es : Array MapEntry} {clock : Nat} (ht : P.underlying t = some (.map k e)) (hk : P.underlying k = some (.int .i64)) (hb : w.heap[b]? = some (.map es clock))
    (x : Int) (z : Value) (hz : (zeroValue e).run P w = .ok z w) (hn : findNow (.int .i64) (.int .i64 x) es.toList 0 = some none) :
    (Instr.lookup t (.map (some b)) (.int .i64 x) true).run P w = .ok (.tuple #[z, .bool false]) w := by
  simp [Instr.lookup, run_underlying ht, MapKept.run_getObj_map hb, MapKept.run_checkKey (k := .int .i64 x) hk (keyI x), MapKept.run_findKey hk hn, hz, Result.andThen]
/-- at the operation, for the walk -/
theorem wp_put {P : Program} (w : World) {ops : Array Oper} {rest : List Oper} {o : Oper} {a : Act} {Q : Exit → Act → World → Prop}
    (hg : o.guard = none) (m x v : Operand) (t : TypeId) (hop : o.op = Op.insert t m x v) (k e : TypeId) (ht : P.underlying t = some (.map k e)) (hk : P.underlying k = some (.int .i64)) (w0 : World) (b : Nat) (es : Array MapEntry) (clock : Nat)
    (hm : a.eval m = .map (some b)) (hb : w.heap[b]? = some (.map es clock)) (hB : Below w0.heap.size w0 w) (hw0 : w0.heap.size ≤ b) (n : Int) (u : Value) (hx : a.eval x = .int .i64 n) (hv : a.eval v = u) (hn : findNow (.int .i64) (.int .i64 n) es.toList 0 = some none)
    (hK : ∀ w', w'.heap[b]? = some (.map (es.push { key := .int .i64 n, val := u, born := clock }) (clock + 1)) → Below w0.heap.size w0 w' → w'.heap.size = w.heap.size → wpList P ops Q rest (a.put o.dst undef) w') :
    wpList P ops Q (o :: rest) a w := by
  refine wpList_plain hg fun K' hK' => ?_
  have hrun := run_put ht hk hb n hn u
  have hlt : b < w.heap.size := (Array.getElem?_eq_some_iff.1 hb).1
  unfold Oper.wp
  simp [execOp, hop, hm, hx, hv, hrun, Result.andThen]
  refine hK' _ _ (hK _ (World.putObj_heap_same hlt) (hB.grown (grownBy_putObj' w b _) hB.size (fun j e => by cases e; exact hw0)) (by simp [World.putObj]))
end Go.Proofs.Ytfgfnflhdabmcaa.LitMap
end
section
namespace Go.Proofs.Ytfgfnflhdabmcaa.EhOf
open Go.RowKit Go.Proofs.Ytfgfnflhdabmcaa.G Go.Proofs.YtfgfnflhdabmcaaW.PrintWords Go.Proofs.YtfgfnflhdabmcaaW.PrintLast Go.Proofs.YtfgfnflhdabmcaaW.PrintMore Go.Instr
def fm (s : Int) (g : Bool) : Value := .agg #[.int .i64 s, .bool g]
def ent (k s : Int) (g : Bool) (n : Nat) : MapEntry := { key := .int .i64 k, val := fm s g, born := n }
def lit : Array MapEntry := #[ent 0 8 true 0, ent 1 0 false 1, ent 2 2 false 2, ent 3 4 false 3, ent 4 8 false 4, ent 9 0 true 5, ent 10 2 true 6, ent 11 4 true 7, ent 12 8 true 8]
/-- a form's size, its sign; is it one? -/
def formOf (k : Int) : Int × Bool × Bool :=
  if k = 0 then (8, true, true) else if k = 1 then (0, false, true) else if k = 2 then (2, false, true) else if k = 3 then (4, false, true) else if k = 4 then (8, false, true)
  else if k = 9 then (0, true, true) else if k = 10 then (2, true, true) else if k = 11 then (4, true, true) else if k = 12 then (8, true, true) else (0, false, false)
def ofF (a0 : Int) : Int × Bool × Int × Bool :=
  if a0 < 0 ∨ 255 < a0 then (0, false, 0, false)
  else if a0 - a0 % 16 ≠ 0 ∧ a0 - a0 % 16 ≠ 16 ∧ a0 - a0 % 16 ≠ 48 then (0, false, 0, false)
  else ((formOf (a0 % 16)).1, (formOf (a0 % 16)).2.1, a0 - a0 % 16, (formOf (a0 % 16)).2.2)
theorem zform (w : World) : (zeroValue 76).run Try.prog w = .ok (fm 0 false) w := by kernel_rfl
theorem look_all {w : World} {b : Nat} (hb : w.heap[b]? = some (.map lit 9)) (k : Int) (h0 : 0 ≤ k) (h1 : k < 16) :
    (Instr.lookup 109 (.map (some b)) (.int .i64 k) true).run Try.prog w = .ok (.tuple #[fm (formOf k).1 (formOf k).2.1, .bool (formOf k).2.2]) w := by
 have hk : k = 0 ∨ k = 1 ∨ k = 2 ∨ k = 3 ∨ k = 4 ∨ k = 5 ∨ k = 6 ∨ k = 7 ∨ k = 8 ∨ k = 9 ∨ k = 10 ∨ k = 11 ∨ k = 12 ∨ k = 13 ∨ k = 14 ∨ k = 15 := by omega
 clear h0 h1
 have ht := Try.underlying109
 have hi := Try.underlying3
 rcases hk with rfl | rfl | rfl | rfl | rfl | rfl | rfl | rfl | rfl | rfl | rfl | rfl | rfl | rfl | rfl | rfl
 ·
  exact LitMap.run_look ht hi hb 0 0 (fm 8 true) rfl
 ·
  exact LitMap.run_look ht hi hb 1 1 (fm 0 false) rfl
 ·
  exact LitMap.run_look ht hi hb 2 2 (fm 2 false) rfl
 ·
  exact LitMap.run_look ht hi hb 3 3 (fm 4 false) rfl
 ·
  exact LitMap.run_look ht hi hb 4 4 (fm 8 false) rfl
 ·
  exact LitMap.run_look_none ht hi hb 5 _ (zform w) rfl
 ·
  exact LitMap.run_look_none ht hi hb 6 _ (zform w) rfl
 ·
  exact LitMap.run_look_none ht hi hb 7 _ (zform w) rfl
 ·
  exact LitMap.run_look_none ht hi hb 8 _ (zform w) rfl
 ·
  exact LitMap.run_look ht hi hb 9 5 (fm 0 true) rfl
 ·
  exact LitMap.run_look ht hi hb 10 6 (fm 2 true) rfl
 ·
  exact LitMap.run_look ht hi hb 11 7 (fm 4 true) rfl
 ·
  exact LitMap.run_look ht hi hb 12 8 (fm 8 true) rfl
 ·
  exact LitMap.run_look_none ht hi hb 13 _ (zform w) rfl
 ·
  exact LitMap.run_look_none ht hi hb 14 _ (zform w) rfl
 exact LitMap.run_look_none ht hi hb 15 _ (zform w) rfl
theorem forms_calls (w : World) : Calls Try.prog 63 #[] w fun e w' => e = .returned (.map (some w.heap.size)) ∧ w'.heap[w.heap.size]? = some (.map lit 9) ∧ Below w.heap.size w w' ∧ w'.heap.size = w.heap.size + 1 := by
 have ht := am Try.underlying109
 have hi := am Try.underlying3
 have hmm := @run_makeMap_plain Try.prog
 have HB := am (below_alloc (Below.refl w.heap.size w) (.map #[] 0))
 have HM := am (blk_new w (.map #[] 0))
 have HZ := am (show (w.alloc (.map #[] 0)).heap.size = w.heap.size + 1 by simp)
 go_enter Try.func63, Try.ntmps63
 go_wp2_with (refine LitMap.wp_put _ rfl _ _ _ 109 rfl 3 76 ht.out hi.out w w.heap.size _ _ rfl HM.out HB.out (Nat.le_refl _) _ _ rfl rfl rfl ?_; intro w1 hm_ hb_ hz_; have n0 := am hm_; have n1 := am hb_; have n2 := am (hz_.trans HZ.out); clear hm_ hb_ hz_ HM HB HZ; have HM := n0; have HB := n1; have HZ := n2; clear n0 n1 n2)
 go_ret
 exact ⟨rfl, HM.out, HB.out, HZ.out⟩
theorem bits_of : ∀ n : Fin 256, bits BinOp.andNot .i64 ((n.val : Nat) : Int) 15 = ((n.val : Nat) : Int) - ((n.val : Nat) : Int) % 16 ∧ bits BinOp.and .i64 ((n.val : Nat) : Int) 15 = ((n.val : Nat) : Int) % 16 := by decide +kernel
theorem bits_at (a : Int) (h0 : 0 ≤ a) (h1 : a ≤ 255) : bits BinOp.andNot .i64 a 15 = a - a % 16 ∧ bits BinOp.and .i64 a 15 = a % 16 := by
 have h := bits_of ⟨a.toNat, by omega⟩
 rwa [Int.toNat_of_nonneg h0] at h
theorem of_far (a0 : Int) (w : World) (h : a0 < 0 ∨ 255 < a0) : Calls Try.prog 29 #[.int .i64 a0] w fun e w' => e = .returned (.tuple #[fm 0 false, .int .i64 0, .bool false]) ∧ Below w.heap.size w w' := by
 have hsz := blk_new w (.cells #[.int .i64 0, .bool false] 76)
 by_cases h0 : a0 < 0
 ·
  clear h
  go_enter Try.func29, Try.ntmps29
  go_wp2
  exact bodyPost_ret (v := .tuple #[.agg #[.int .i64 0, .bool false], .int .i64 0, .bool false]) (by simp [results, Try.results29, go_sem]) rfl ⟨rfl, below_alloc (Below.refl _ _) _⟩
 have h1 : 255 < a0 := by omega
 clear h
 go_enter Try.func29, Try.ntmps29
 go_wp2
 exact bodyPost_ret (v := .tuple #[.agg #[.int .i64 0, .bool false], .int .i64 0, .bool false]) (by simp [results, Try.results29, go_sem]) rfl ⟨rfl, below_alloc (Below.refl _ _) _⟩
theorem of_none (a0 q : Int) (w : World) (h0 : 0 ≤ a0) (h1 : a0 ≤ 255) (hq : bits BinOp.andNot .i64 a0 15 = q) (q0 : q ≠ 0) (q1 : q ≠ 16) (q2 : q ≠ 48) :
    Calls Try.prog 29 #[.int .i64 a0] w fun e w' => e = .returned (.tuple #[fm 0 false, .int .i64 0, .bool false]) ∧ Below w.heap.size w w' := by
 have b0 : (q != 0) = true := bne_iff_ne.mpr q0
 have b1 : (q != 16) = true := bne_iff_ne.mpr q1
 have b2 : (q != 48) = true := bne_iff_ne.mpr q2
 clear q0 q1 q2
 go_enter Try.func29, Try.ntmps29
 go_wp2
 exact bodyPost_ret (v := .tuple #[.agg #[.int .i64 0, .bool false], .int .i64 0, .bool false]) (by simp [results, Try.results29, go_sem]) rfl ⟨rfl, below_alloc (Below.refl _ _) _⟩
theorem of_some (a0 q m : Int) (w : World) (h0 : 0 ≤ a0) (h1 : a0 ≤ 255) (hq : bits BinOp.andNot .i64 a0 15 = q) (hm : bits BinOp.and .i64 a0 15 = m) (m0 : 0 ≤ m) (m1 : m < 16) (hqq : q = 0 ∨ q = 16 ∨ q = 48) :
    Calls Try.prog 29 #[.int .i64 a0] w fun e w' => e = .returned (.tuple #[fm (formOf m).1 (formOf m).2.1, .int .i64 q, .bool (formOf m).2.2]) ∧ Below w.heap.size w w' := by
 have HM := am (And.intro m0 m1)
 obtain ⟨s, hs⟩ : ∃ s, s = (formOf m).1 := ⟨_, rfl⟩
 obtain ⟨g, hg⟩ : ∃ g, g = (formOf m).2.1 := ⟨_, rfl⟩
 obtain ⟨ok, hok⟩ : ∃ ok, ok = (formOf m).2.2 := ⟨_, rfl⟩
 rw [← hs, ← hg, ← hok]
 have HL := am (fun (W : World) (b : Nat) (hb : W.heap[b]? = some (.map lit 9)) => look_all hb m m0 m1)
 rw [← hs, ← hg, ← hok] at HL
 clear m0 m1 hs hg hok
 have hbb : ((q != 0) = false) ∨ ((q != 0) = true ∧ (q != 16) = false) ∨ ((q != 0) = true ∧ (q != 16) = true ∧ (q != 48) = false) := by
  rcases hqq with rfl | rfl | rfl
  ·
   exact .inl rfl
  ·
   exact .inr (.inl ⟨rfl, rfl⟩)
  exact .inr (.inr ⟨rfl, rfl, rfl⟩)
 clear hqq
 rcases hbb with b0 | ⟨b0, b1⟩ | ⟨b0, b1, b2⟩
 all_goals
   have HW := am (blk_new w (.cells #[.int .i64 0, .bool false] 76))
   have HB := am (below_alloc (Below.refl w.heap.size w) (.cells #[.int .i64 0, .bool false] 76))
   have HZ := am (show (w.alloc (.cells #[.int .i64 0, .bool false] 76)).heap.size = w.heap.size + 1 by simp)
   go_enter Try.func29, Try.ntmps29
   go_wp2_with fail
   generalize w.alloc (.cells #[.int .i64 0, .bool false] 76) = W at HW HB HZ ⊢
   refine (forms_calls W).mono ?_
   rintro e w1 ⟨rfl, hm1, hb1, hz1⟩
   have hl := HL.out w1 _ hm1
   simp only [fm] at hl
   have hB : w.heap.size < W.heap.size := by rw [HZ.out]; omega
   have hc0 : w1.cell? ⟨w.heap.size, 0, none⟩ = some (.int .i64 0) := (hb1.cell hB).trans ((blk_cell HW.out 0).trans rfl)
   have hc1 : w1.cell? ⟨w.heap.size, 1, none⟩ = some (.bool false) := (hb1.cell hB).trans ((blk_cell HW.out 1).trans rfl)
   have hf0 : w1.frozen? ⟨w.heap.size, 0, none⟩ = false := (hb1.frozen hB).trans (blk_frozen HW.out 0)
   have hf1 : w1.frozen? ⟨w.heap.size, 1, none⟩ = false := (hb1.frozen hB).trans (blk_frozen HW.out 1)
   have HB1 := am (HB.out.trans (hb1.mono (Nat.le_of_lt hB)))
   have HK1 := am ((hb1.block _ hB).trans HW.out)
   clear hm1 hb1 hz1
   go_wp2
   obtain ⟨w5, hw5⟩ : ∃ W5, W5 = ((((w1.setCell ⟨w.heap.size, 0, none⟩ (.int .i64 s)).setCell ⟨w.heap.size, 1, none⟩ (.bool g)).setCell ⟨w.heap.size, 0, none⟩ (.int .i64 s)).setCell ⟨w.heap.size, 1, none⟩ (.bool g)) := ⟨_, rfl⟩
   rw [← hw5]
   have hk1 : w1.heap[w.heap.size]? = some (.cells #[.int .i64 0, .bool false] 76 (0, 0)) := HK1.out
   have hk5 : w5.heap[w.heap.size]? = some (.cells #[.int .i64 s, .bool g] 76 (0, 0)) := by
     rw [hw5]
     exact blk_put (cs := #[.int .i64 s, .bool g]) (blk_put (cs := #[.int .i64 s, .bool g]) (blk_put (cs := #[.int .i64 s, .bool false]) (blk_put (cs := #[.int .i64 0, .bool false]) hk1 0 _ rfl) 1 _ rfl) 0 _ rfl) 1 _ rfl
   have hb5 : Below w.heap.size w w5 := by
     rw [hw5]
     repeat (first | exact HB1.out | refine below_set ?_ (Nat.le_refl _))
   have d0 : w5.cell? ⟨w.heap.size, 0, none⟩ = some (.int .i64 s) := (blk_cell hk5 0).trans rfl
   have d1 : w5.cell? ⟨w.heap.size, 1, none⟩ = some (.bool g) := (blk_cell hk5 1).trans rfl
   clear hw5 hk1 hc0 hc1 hf0 hf1 hl
   exact bodyPost_ret (v := .tuple #[.agg #[.int .i64 s, .bool g], .int .i64 q, .bool ok]) (by simp [results, Try.results29, go_sem, d0, d1]) rfl ⟨rfl, hb5⟩
theorem of_calls (a0 : Int) (w : World) : Calls Try.prog 29 #[.int .i64 a0] w fun e w' => e = .returned (.tuple #[.agg #[.int .i64 (ofF a0).1, .bool (ofF a0).2.1], .int .i64 (ofF a0).2.2.1, .bool (ofF a0).2.2.2]) ∧ Below w.heap.size w w' := by
 unfold ofF
 by_cases h : a0 < 0 ∨ 255 < a0
 ·
  rw [if_pos h]
  exact of_far a0 w h
 rw [if_neg h]
 have h0 : 0 ≤ a0 := by omega
 have h1 : a0 ≤ 255 := by omega
 obtain ⟨e1, e2⟩ := bits_at a0 h0 h1
 by_cases h2 : a0 - a0 % 16 ≠ 0 ∧ a0 - a0 % 16 ≠ 16 ∧ a0 - a0 % 16 ≠ 48
 ·
  rw [if_pos h2]
  exact of_none a0 _ w h0 h1 e1 h2.1 h2.2.1 h2.2.2
 rw [if_neg h2]
 exact of_some a0 (a0 - a0 % 16) (a0 % 16) w h0 h1 e1 e2 (by omega) (by omega) (by omega)
end Go.Proofs.Ytfgfnflhdabmcaa.EhOf
end
section
namespace Go.Proofs.Ytfgfnflhdabmcaa.G
open Go.RowKit Go.Proofs.YtfgfnflhdabmcaaW.PrintWords Go.Proofs.YtfgfnflhdabmcaaW.PrintLast Go.Proofs.YtfgfnflhdabmcaaW.PrintMore
attribute [local go_sem] max2_int min2_int max_two min_two max_three min_three max_four min_four
/-- may an op be? -/
def mayF (k r n : Int) : Bool :=
  if k = 0 ∨ k = 9 ∨ k = 10 then decide (r = 0) && decide (n = 0)
  else if k = 1 ∨ k = 3 then decide (r = 0) && (decide (0 ≤ n) && decide (n ≤ 2147483647))
  else if k = 2 then decide (0 ≤ r) && (decide (r ≤ 16) && (decide (0 ≤ n) && decide (n ≤ 2147483647)))
  else if k = 4 ∨ k = 6 ∨ k = 7 ∨ k = 8 then decide (n = 0) && (decide (0 ≤ r) && decide (r ≤ 16))
  else if k = 5 then decide (n.tmod 8 = 0) && (decide (0 ≤ r) && (decide (r ≤ 16) && (decide (-2147483648 ≤ n) && decide (n ≤ 2147483640))))
  else false
def cfa_Op_may.f (a0_0 a0_1 a0_2 : Int) : Option Bool := some (mayF a0_0 a0_1 a0_2)
theorem may_ne {a b : Int} (h : a ≠ b) : (a == b) = false ∧ (a != b) = true := ⟨beq_eq_false_iff_ne.mpr h, bne_iff_ne.mpr h⟩
theorem may_eq {a b : Int} (h : a = b) : (a == b) = true ∧ (a != b) = false := ⟨beq_iff_eq.mpr h, bne_eq_false_iff_eq.mpr h⟩
theorem cfa_Op_may.one (k r n : Int) (w : World) (hk : k = 0 ∨ k = 9 ∨ k = 10) :
    Calls Try.prog 58 #[.agg #[.int .i64 k, .int .i64 r, .int .i64 n]] w fun e w' => e = .returned (.bool (mayF k r n)) ∧ Below w.heap.size w w' := by
 by_cases hr : r = 0
 rotate_left
 ·
  obtain ⟨c1, c2⟩ := may_ne hr
  have e : mayF k r n = false := by rcases hk with rfl | rfl | rfl <;> simp [mayF, hr]
  rw [e]
  clear e hr
  rcases hk with rfl | rfl | rfl <;>
  ·
   go_enter Try.func58, Try.ntmps58
   go_wp2
   go_ret
   exact ⟨rfl, below_alloc (Below.refl _ _) _⟩
 subst hr
 by_cases hn : n = 0
 ·
  subst hn
  rcases hk with rfl | rfl | rfl <;>
  ·
   go_enter Try.func58, Try.ntmps58
   go_wp2
   go_ret
   exact ⟨rfl, below_alloc (Below.refl _ _) _⟩
 obtain ⟨c1, c2⟩ := may_ne hn
 have e : mayF k 0 n = false := by rcases hk with rfl | rfl | rfl <;> simp [mayF, hn]
 rw [e]
 clear e hn
 rcases hk with rfl | rfl | rfl <;>
 ·
  go_enter Try.func58, Try.ntmps58
  go_wp2
  go_ret
  exact ⟨rfl, below_alloc (Below.refl _ _) _⟩
theorem may_ge (a b : Int) : (∃ v, decide (b ≤ a) = v ∧ decide (a ≥ b) = v) := ⟨_, rfl, rfl⟩
theorem may_le (a b : Int) : (∃ v, decide (a ≤ b) = v) := ⟨_, rfl⟩
theorem cfa_Op_may.two (k r n : Int) (w : World) (hk : k = 1 ∨ k = 3) :
    Calls Try.prog 58 #[.agg #[.int .i64 k, .int .i64 r, .int .i64 n]] w fun e w' => e = .returned (.bool (mayF k r n)) ∧ Below w.heap.size w w' := by
 by_cases hr : r = 0
 ·
  subst hr
  have e : mayF k 0 n = (decide (0 ≤ n) && decide (n ≤ 2147483647)) := by rcases hk with rfl | rfl <;> simp [mayF]
  rw [e]
  clear e
  obtain ⟨v1, h1, g1⟩ := may_ge n 0
  obtain ⟨v2, h2⟩ := may_le n 2147483647
  rw [h1, h2]
  clear h1
  cases v1 <;> cases v2 <;> rcases hk with rfl | rfl <;>
  ·
   go_enter Try.func58, Try.ntmps58
   go_wp2
   go_ret
   exact ⟨rfl, below_alloc (Below.refl _ _) _⟩
 obtain ⟨c1, c2⟩ := may_ne hr
 have e : mayF k r n = false := by rcases hk with rfl | rfl <;> simp [mayF, hr]
 rw [e]
 clear e hr
 rcases hk with rfl | rfl <;>
 ·
  go_enter Try.func58, Try.ntmps58
  go_wp2
  go_ret
  exact ⟨rfl, below_alloc (Below.refl _ _) _⟩
set_option maxHeartbeats 4000000 in
theorem cfa_Op_may.three (r n : Int) (w : World) :
    Calls Try.prog 58 #[.agg #[.int .i64 2, .int .i64 r, .int .i64 n]] w fun e w' => e = .returned (.bool (mayF 2 r n)) ∧ Below w.heap.size w w' := by
 have e : mayF 2 r n = (decide (0 ≤ r) && (decide (r ≤ 16) && (decide (0 ≤ n) && decide (n ≤ 2147483647)))) := by simp [mayF]
 rw [e]
 clear e
 obtain ⟨v1, h1, g1⟩ := may_ge r 0
 obtain ⟨v2, h2⟩ := may_le r 16
 obtain ⟨v3, h3, g3⟩ := may_ge n 0
 obtain ⟨v4, h4⟩ := may_le n 2147483647
 rw [h1, h2, h3, h4]
 clear h1 h3
 cases v1 <;> cases v2 <;> cases v3 <;> cases v4 <;>
 ·
  go_enter Try.func58, Try.ntmps58
  go_wp2
  go_ret
  exact ⟨rfl, below_alloc (Below.refl _ _) _⟩
set_option maxHeartbeats 4000000 in
theorem cfa_Op_may.four (k r n : Int) (w : World) (hk : k = 4 ∨ k = 6 ∨ k = 7 ∨ k = 8) :
    Calls Try.prog 58 #[.agg #[.int .i64 k, .int .i64 r, .int .i64 n]] w fun e w' => e = .returned (.bool (mayF k r n)) ∧ Below w.heap.size w w' := by
 by_cases hn : n = 0
 ·
  subst hn
  have e : mayF k r 0 = (decide (0 ≤ r) && decide (r ≤ 16)) := by rcases hk with rfl | rfl | rfl | rfl <;> simp [mayF]
  rw [e]
  clear e
  obtain ⟨v1, h1, g1⟩ := may_ge r 0
  obtain ⟨v2, h2⟩ := may_le r 16
  rw [h1, h2]
  clear h1
  cases v1 <;> cases v2 <;> rcases hk with rfl | rfl | rfl | rfl <;>
  ·
   go_enter Try.func58, Try.ntmps58
   go_wp2
   go_ret
   exact ⟨rfl, below_alloc (Below.refl _ _) _⟩
 obtain ⟨c1, c2⟩ := may_ne hn
 have e : mayF k r n = false := by rcases hk with rfl | rfl | rfl | rfl <;> simp [mayF, hn]
 rw [e]
 clear e hn
 rcases hk with rfl | rfl | rfl | rfl <;>
 ·
  go_enter Try.func58, Try.ntmps58
  go_wp2
  go_ret
  exact ⟨rfl, below_alloc (Below.refl _ _) _⟩
set_option maxHeartbeats 4000000 in
theorem cfa_Op_may.five (r n : Int) (w : World) :
    Calls Try.prog 58 #[.agg #[.int .i64 5, .int .i64 r, .int .i64 n]] w fun e w' => e = .returned (.bool (mayF 5 r n)) ∧ Below w.heap.size w w' := by
 have e : mayF 5 r n = (decide (n.tmod 8 = 0) && (decide (0 ≤ r) && (decide (r ≤ 16) && (decide (-2147483648 ≤ n) && decide (n ≤ 2147483640))))) := by simp [mayF]
 rw [e]
 clear e
 by_cases hm : n.tmod 8 = 0
 rotate_left
 ·
  obtain ⟨c1, c2⟩ := may_ne hm
  rw [decide_eq_false hm]
  clear hm
  go_enter Try.func58, Try.ntmps58
  go_wp2
  go_ret
  exact ⟨rfl, below_alloc (Below.refl _ _) _⟩
 obtain ⟨c1, c2⟩ := may_eq hm
 rw [decide_eq_true hm]
 obtain ⟨v1, h1, g1⟩ := may_ge r 0
 obtain ⟨v2, h2⟩ := may_le r 16
 obtain ⟨v3, h3, g3⟩ := may_ge n (-2147483648)
 obtain ⟨v4, h4⟩ := may_le n 2147483640
 rw [h1, h2, h3, h4]
 clear h1 h3 hm
 cases v1 <;> cases v2 <;> cases v3 <;> cases v4 <;>
 ·
  go_enter Try.func58, Try.ntmps58
  go_wp2
  go_ret
  exact ⟨rfl, below_alloc (Below.refl _ _) _⟩
theorem cfa_Op_may.none_ (k r n : Int) (w : World) (h0 : k ≠ 0) (h1 : k ≠ 1) (h2 : k ≠ 2) (h3 : k ≠ 3) (h4 : k ≠ 4) (h5 : k ≠ 5) (h6 : k ≠ 6) (h7 : k ≠ 7) (h8 : k ≠ 8) (h9 : k ≠ 9) (h10 : k ≠ 10) :
    Calls Try.prog 58 #[.agg #[.int .i64 k, .int .i64 r, .int .i64 n]] w fun e w' => e = .returned (.bool (mayF k r n)) ∧ Below w.heap.size w w' := by
 have e : mayF k r n = false := by simp [mayF, *]
 rw [e]
 clear e
 obtain ⟨c0, _⟩ := may_ne h0
 obtain ⟨c1, _⟩ := may_ne h1
 obtain ⟨c2, _⟩ := may_ne h2
 obtain ⟨c3, _⟩ := may_ne h3
 obtain ⟨c4, _⟩ := may_ne h4
 obtain ⟨c5, _⟩ := may_ne h5
 obtain ⟨c6, _⟩ := may_ne h6
 obtain ⟨c7, _⟩ := may_ne h7
 obtain ⟨c8, _⟩ := may_ne h8
 obtain ⟨c9, _⟩ := may_ne h9
 obtain ⟨c10, _⟩ := may_ne h10
 clear h0 h1 h2 h3 h4 h5 h6 h7 h8 h9 h10
 go_enter Try.func58, Try.ntmps58
 go_wp2
 go_ret
 exact ⟨rfl, below_alloc (Below.refl _ _) _⟩
theorem cfa_Op_may.calls (a0_0 a0_1 a0_2 : Int) (r : Bool) (w : World) (h : cfa_Op_may.f a0_0 a0_1 a0_2 = some r) :
    Calls Try.prog 58 #[.agg #[.int .i64 a0_0, .int .i64 a0_1, .int .i64 a0_2]] w fun e w' => e = .returned (.bool r) ∧ Below w.heap.size w w' := by
 obtain rfl := Option.some.inj h
 by_cases hA : a0_0 = 0 ∨ a0_0 = 9 ∨ a0_0 = 10
 ·
  exact cfa_Op_may.one _ _ _ w hA
 by_cases hB : a0_0 = 1 ∨ a0_0 = 3
 ·
  exact cfa_Op_may.two _ _ _ w hB
 by_cases hC : a0_0 = 2
 ·
  subst hC
  exact cfa_Op_may.three _ _ w
 by_cases hD : a0_0 = 4 ∨ a0_0 = 6 ∨ a0_0 = 7 ∨ a0_0 = 8
 ·
  exact cfa_Op_may.four _ _ _ w hD
 by_cases hE : a0_0 = 5
 ·
  subst hE
  exact cfa_Op_may.five _ _ w
 exact cfa_Op_may.none_ _ _ _ w (by omega) (by omega) (by omega) (by omega) (by omega) (by omega) (by omega) (by omega) (by omega) (by omega) (by omega)
end Go.Proofs.Ytfgfnflhdabmcaa.G
end
section
namespace Go.Proofs.Ytfgfnflhdabmcaa.Cfa
open Go.RowKit Go.Proofs.Ytfgfnflhdabmcaa.G Go.Proofs.YtfgfnflhdabmcaaW.PrintWords Go.Proofs.YtfgfnflhdabmcaaW.PrintLast Go.Proofs.YtfgfnflhdabmcaaW.PrintMore
/-- A row: 37 numbers: its place, its register, its offset, then 17 rules of two numbers each. -/
abbrev Row := List Int
structure T where
  rows : List Row
  now : Row
  first : Row
  kept : List Row
  size : Int
  begun : Bool
def row0 : Row := 0 :: -1 :: 0 :: List.replicate 34 0
def fresh (size : Int) : T := ⟨[], row0, List.replicate 37 0, [], size, false⟩
def ru (r : Int) : Nat := 3 + r.toNat * 2
/-- what an op makes of a table; none: it may not be there -/
def act (t : T) (k r n : Int) : Option T :=
  if k = 0 then some t
  else if k = 1 then if n = 0 then some t else if t.now.getD 0 0 + n ≤ t.size then some { t with rows := t.rows ++ [t.now], now := t.now.set 0 (t.now.getD 0 0 + n) } else none
  else if k = 2 then some { t with now := (t.now.set 1 r).set 2 n }
  else if k = 3 then if 0 ≤ t.now.getD 1 0 then some { t with now := t.now.set 2 n } else none
  else if k = 4 then if 0 ≤ t.now.getD 1 0 then some { t with now := t.now.set 1 r } else none
  else if k = 5 then some { t with now := (t.now.set (ru r) 2).set (ru r + 1) n }
  else if k = 6 then some { t with now := (t.now.set (ru r) (t.first.getD (ru r) 0)).set (ru r + 1) (t.first.getD (ru r + 1) 0) }
  else if k = 7 then some { t with now := (t.now.set (ru r) 1).set (ru r + 1) 0 }
  else if k = 8 then some { t with now := (t.now.set (ru r) 0).set (ru r + 1) 0 }
  else if k = 9 then if t.kept.length + 1 ≤ 64 then some { t with kept := t.kept ++ [t.now] } else none
  else if t.kept = [] then none else some { t with now := (t.kept.getLastD []).set 0 (t.now.getD 0 0), kept := t.kept.dropLast }
def does (t : T) (k r n : Int) : Option T :=
  if mayF k r n = false then none
  else if t.begun = false ∧ (k = 1 ∨ k = 9 ∨ k = 10 ∨ k = 6) then none
  else act t k r n
def doAll (t : T) : List (Int × Int × Int) → Option T
  | [] => some t
  | o :: l => (does t o.1 o.2.1 o.2.2).bind fun t' => doAll t' l
def begin_ (t : T) (l : List (Int × Int × Int)) : Option T :=
  (doAll t l).bind fun t' => if 0 ≤ t'.now.getD 1 0 then some { t' with first := t'.now, begun := true } else none
def run (initial ops : List (Int × Int × Int)) (size : Int) : Option T := (begin_ (fresh size) initial).bind fun t => doAll t ops
def rowsOf (initial ops : List (Int × Int × Int)) (size : Int) : List Row × Int :=
  if size < 0 ∨ 1048576 < size then ([], 11)
  else if 4000 < initial.length ∨ 4000 < ops.length then ([], 6)
  else match run initial ops size with
    | none => ([], 130)
    | some t => (t.rows ++ [t.now], 0)
theorem ite_cases {α : Type} {p : Prop} [Decidable p] {a b c : α} (e : (if p then a else b) = c) : (p ∧ a = c) ∨ (¬ p ∧ b = c) := by
  by_cases h : p
  · rw [if_pos h] at e; exact .inl ⟨h, e⟩
  · rw [if_neg h] at e; exact .inr ⟨h, e⟩
structure Good (t : T) : Prop where
  now : t.now.length = 37
  first : t.first.length = 37
  rows : ∀ r ∈ t.rows, r.length = 37
  kept : ∀ r ∈ t.kept, r.length = 37
  at0 : 0 ≤ t.now.getD 0 0
  size : t.size ≤ 1048576
  atS : 0 ≤ t.size → t.now.getD 0 0 ≤ t.size
theorem good_fresh (size : Int) (h : size ≤ 1048576) : Good (fresh size) := ⟨rfl, rfl, by simp [fresh], by simp [fresh], by simp [fresh, row0], h, fun h => h⟩
theorem getD_set_ne {l : Row} {i j : Nat} (h : i ≠ j) (x : Int) : (l.set i x).getD j 0 = l.getD j 0 := by
  simp [List.getD_eq_getElem?_getD, List.getElem?_set_ne h]
theorem getD_set_eq {l : Row} {i : Nat} (h : i < l.length) (x : Int) : (l.set i x).getD i 0 = x := by
  simp [List.getD_eq_getElem?_getD, h]
theorem ru_ne (r : Int) : ru r ≠ 0 ∧ ru r + 1 ≠ 0 := by unfold ru; omega
theorem getLastD_mem {l : List Row} (h : l ≠ []) : l.getLastD [] ∈ l := by
  rw [List.getLastD_eq_getLast?, List.getLast?_eq_some_getLast h]
  exact List.getLast_mem h
theorem may_n {k r n : Int} (h : mayF k r n = true) (hk : k = 1) : 0 ≤ n ∧ n ≤ 2147483647 := by
  subst hk
  simp [mayF] at h
  omega
theorem may_r {k r n : Int} (h : mayF k r n = true) : 0 ≤ r ∧ r ≤ 16 := by
  unfold mayF at h
  split at h
  · simp only [Bool.and_eq_true, decide_eq_true_eq] at h; omega
  split at h
  · simp only [Bool.and_eq_true, decide_eq_true_eq] at h; omega
  split at h
  · simp only [Bool.and_eq_true, decide_eq_true_eq] at h; omega
  split at h
  · simp only [Bool.and_eq_true, decide_eq_true_eq] at h; omega
  split at h
  · simp only [Bool.and_eq_true, decide_eq_true_eq] at h; omega
  · cases h
theorem may_k {k r n : Int} (h : mayF k r n = true) : 0 ≤ k ∧ k ≤ 10 := by
  unfold mayF at h
  split at h
  · omega
  split at h
  · omega
  split at h
  · omega
  split at h
  · omega
  split at h
  · omega
  · cases h
theorem good_act {t t' : T} {k r n : Int} (h : Good t) (hm : mayF k r n = true) (e : act t k r n = some t') : Good t' := by
  obtain ⟨h1, h2, h3, h4, h5, h6, h7⟩ := h
  have hr := ru_ne r
  unfold act at e
  rcases ite_cases e with ⟨cc, e⟩ | ⟨cc, e⟩
  · cases e; exact ⟨h1, h2, h3, h4, h5, h6, h7⟩
  rcases ite_cases e with ⟨cc, e⟩ | ⟨cc, e⟩
  · have hn := may_n hm cc
    rcases ite_cases e with ⟨cc, e⟩ | ⟨cc, e⟩
    · cases e; exact ⟨h1, h2, h3, h4, h5, h6, h7⟩
    rcases ite_cases e with ⟨cc, e⟩ | ⟨cc, e⟩
    · cases e
      have hs := cc
      refine ⟨by simpa using h1, h2, fun q hq => ?_, h4, ?_, h6, fun _ => ?_⟩
      · rcases List.mem_append.1 hq with hq | hq
        · exact h3 q hq
        · rw [List.mem_singleton.1 hq]; exact h1
      · show 0 ≤ (t.now.set 0 _).getD 0 0
        rw [getD_set_eq (by omega)]; omega
      · show (t.now.set 0 _).getD 0 0 ≤ t.size
        rw [getD_set_eq (by omega)]; exact hs
    · cases e
  rcases ite_cases e with ⟨cc, e⟩ | ⟨cc, e⟩
  · cases e
    refine ⟨by simpa using h1, h2, h3, h4, ?_, h6, fun hz => ?_⟩
    · show 0 ≤ ((t.now.set 1 r).set 2 n).getD 0 0
      rw [getD_set_ne (by decide), getD_set_ne (by decide)]; exact h5
    · show ((t.now.set 1 r).set 2 n).getD 0 0 ≤ t.size
      rw [getD_set_ne (by decide), getD_set_ne (by decide)]; exact h7 hz
  rcases ite_cases e with ⟨cc, e⟩ | ⟨cc, e⟩
  · rcases ite_cases e with ⟨cc, e⟩ | ⟨cc, e⟩
    · cases e
      refine ⟨by simpa using h1, h2, h3, h4, ?_, h6, fun hz => ?_⟩
      · show 0 ≤ (t.now.set 2 n).getD 0 0
        rw [getD_set_ne (by decide)]; exact h5
      · show (t.now.set 2 n).getD 0 0 ≤ t.size
        rw [getD_set_ne (by decide)]; exact h7 hz
    · cases e
  rcases ite_cases e with ⟨cc, e⟩ | ⟨cc, e⟩
  · rcases ite_cases e with ⟨cc, e⟩ | ⟨cc, e⟩
    · cases e
      refine ⟨by simpa using h1, h2, h3, h4, ?_, h6, fun hz => ?_⟩
      · show 0 ≤ (t.now.set 1 r).getD 0 0
        rw [getD_set_ne (by decide)]; exact h5
      · show (t.now.set 1 r).getD 0 0 ≤ t.size
        rw [getD_set_ne (by decide)]; exact h7 hz
    · cases e
  have two : ∀ x y : Int, Good { t with now := (t.now.set (ru r) x).set (ru r + 1) y } := fun x y => by
    refine ⟨by simpa using h1, h2, h3, h4, ?_, h6, fun hz => ?_⟩
    · show 0 ≤ ((t.now.set (ru r) x).set (ru r + 1) y).getD 0 0
      rw [getD_set_ne hr.2, getD_set_ne hr.1]; exact h5
    · show ((t.now.set (ru r) x).set (ru r + 1) y).getD 0 0 ≤ t.size
      rw [getD_set_ne hr.2, getD_set_ne hr.1]; exact h7 hz
  rcases ite_cases e with ⟨cc, e⟩ | ⟨cc, e⟩
  · cases e; exact two _ _
  rcases ite_cases e with ⟨cc, e⟩ | ⟨cc, e⟩
  · cases e; exact two _ _
  rcases ite_cases e with ⟨cc, e⟩ | ⟨cc, e⟩
  · cases e; exact two _ _
  rcases ite_cases e with ⟨cc, e⟩ | ⟨cc, e⟩
  · cases e; exact two _ _
  rcases ite_cases e with ⟨cc, e⟩ | ⟨cc, e⟩
  · rcases ite_cases e with ⟨cc, e⟩ | ⟨cc, e⟩
    · cases e
      refine ⟨h1, h2, h3, fun q hq => ?_, h5, h6, h7⟩
      rcases List.mem_append.1 hq with hq | hq
      · exact h4 q hq
      · rw [List.mem_singleton.1 hq]; exact h1
    · cases e
  rcases ite_cases e with ⟨cc, e⟩ | ⟨cc, e⟩
  · cases e
  · have hne := cc
    cases e
    have hl := h4 _ (getLastD_mem hne)
    refine ⟨by simpa using hl, h2, h3, fun q hq => h4 q (List.dropLast_subset _ hq), ?_, h6, fun hz => ?_⟩
    · show 0 ≤ ((t.kept.getLastD []).set 0 (t.now.getD 0 0)).getD 0 0
      rw [getD_set_eq (by omega)]; exact h5
    · show ((t.kept.getLastD []).set 0 (t.now.getD 0 0)).getD 0 0 ≤ t.size
      rw [getD_set_eq (by omega)]; exact h7 hz
theorem act_size {t t' : T} {k r n : Int} (e : act t k r n = some t') : t'.size = t.size ∧ t'.begun = t.begun ∧ t'.first = t.first ∧ t'.rows.length ≤ t.rows.length + 1 ∧ t'.kept.length ≤ t.kept.length + 1 := by
  have hc : ∀ {x : T}, some x = some t' → x.size = t.size → x.begun = t.begun → x.first = t.first → x.rows.length ≤ t.rows.length + 1 → x.kept.length ≤ t.kept.length + 1 → t'.size = t.size ∧ t'.begun = t.begun ∧ t'.first = t.first ∧ t'.rows.length ≤ t.rows.length + 1 ∧ t'.kept.length ≤ t.kept.length + 1 := by
    intro x hx a b c d e
    cases hx
    exact ⟨a, b, c, d, e⟩
  have hn : ∀ {p : Prop} [Decidable p] {x : T}, (if p then some x else none) = some t' → some x = some t' := by
    intro p _ x h
    split at h
    · exact h
    · cases h
  unfold act at e
  rcases ite_cases e with ⟨cc, e⟩ | ⟨cc, e⟩
  · exact hc e rfl rfl rfl (Nat.le_succ _) (Nat.le_succ _)
  rcases ite_cases e with ⟨cc, e⟩ | ⟨cc, e⟩
  · rcases ite_cases e with ⟨cc, e⟩ | ⟨cc, e⟩
    · exact hc e rfl rfl rfl (Nat.le_succ _) (Nat.le_succ _)
    · exact hc (hn e) rfl rfl rfl (by simp) (Nat.le_succ _)
  rcases ite_cases e with ⟨cc, e⟩ | ⟨cc, e⟩
  · exact hc e rfl rfl rfl (Nat.le_succ _) (Nat.le_succ _)
  rcases ite_cases e with ⟨cc, e⟩ | ⟨cc, e⟩
  · exact hc (hn e) rfl rfl rfl (Nat.le_succ _) (Nat.le_succ _)
  rcases ite_cases e with ⟨cc, e⟩ | ⟨cc, e⟩
  · exact hc (hn e) rfl rfl rfl (Nat.le_succ _) (Nat.le_succ _)
  rcases ite_cases e with ⟨cc, e⟩ | ⟨cc, e⟩
  · exact hc e rfl rfl rfl (Nat.le_succ _) (Nat.le_succ _)
  rcases ite_cases e with ⟨cc, e⟩ | ⟨cc, e⟩
  · exact hc e rfl rfl rfl (Nat.le_succ _) (Nat.le_succ _)
  rcases ite_cases e with ⟨cc, e⟩ | ⟨cc, e⟩
  · exact hc e rfl rfl rfl (Nat.le_succ _) (Nat.le_succ _)
  rcases ite_cases e with ⟨cc, e⟩ | ⟨cc, e⟩
  · exact hc e rfl rfl rfl (Nat.le_succ _) (Nat.le_succ _)
  rcases ite_cases e with ⟨cc, e⟩ | ⟨cc, e⟩
  · exact hc (hn e) rfl rfl rfl (Nat.le_succ _) (by simp)
  rcases ite_cases e with ⟨cc, e⟩ | ⟨cc, e⟩
  · cases e
  · exact hc e rfl rfl rfl (Nat.le_succ _) (by simp; omega)
theorem does_size {t t' : T} {k r n : Int} (e : does t k r n = some t') : t'.size = t.size ∧ t'.begun = t.begun ∧ t'.first = t.first ∧ t'.rows.length ≤ t.rows.length + 1 ∧ t'.kept.length ≤ t.kept.length + 1 := by
  unfold does at e
  rcases ite_cases e with ⟨cc, e⟩ | ⟨cc, e⟩
  · cases e
  rcases ite_cases e with ⟨cc, e⟩ | ⟨cc, e⟩
  · cases e
  exact act_size e
/-- The row of a variable that is just made. -/
def zrow : List Int := List.replicate 37 0
theorem zrow_len : zrow.length = 37 := by unfold zrow; simp
/-- The kind of a row. -/
def rowK : Kd Row := Kd.arr 37 (Kd.int .i64) (by decide)
theorem info145 : (Try.prog.info? 145).map (fun i => (i.zero, i.size, i.bytes)) = some (some (.agg (Array.replicate 37 (.int .i64 0))), 37, 296) := by kernel_rfl
def cells (rv kv : Value) (t : T) : List Value := rv :: (nums .i64 t.now ++ (nums .i64 t.first ++ [kv, .int .i64 t.size, .bool t.begun]))
/-- The table t lies in block g. -/
structure Tab (w : World) (base g : Nat) (t : T) (rv kv : Value) : Prop where
  good : Good t
  lo : base ≤ g
  blk : w.heap[g]? = some (.cells (cells rv kv t).toArray 147 (0, 0))
  rows : Kd.R rowK 145 w base (fun k => k ≠ g ∧ some k ≠ kv.ownBlock) rv t.rows
  kept : Kd.R rowK 145 w base (fun k => k ≠ g ∧ some k ≠ rv.ownBlock) kv t.kept
section
variable {w w' : World} {base g : Nat} {t t' : T} {rv kv rv' kv' : Value}
theorem cells_len (h : Good t) : (cells rv kv t).length = 78 := by
 simp [cells, nums_length, h.now, h.first]
theorem nums_get {l : List Int} {j : Nat} (hj : j < l.length) : (nums .i64 l)[j]? = some (.int .i64 (l.getD j 0)) := by
 simp [nums, List.getElem?_eq_getElem hj, List.getD_eq_getElem?_getD]
theorem cells_now (h : Good t) (j : Nat) (hj : j < 37) : (cells rv kv t)[1 + j]? = some (.int .i64 (t.now.getD j 0)) := by
 rw [cells, Nat.add_comm, List.getElem?_cons_succ, List.getElem?_append_left (by rw [nums_length, h.now]; exact hj)]
 exact nums_get (by rw [h.now]; exact hj)
theorem cells_first (h : Good t) (j : Nat) (hj : j < 37) : (cells rv kv t)[38 + j]? = some (.int .i64 (t.first.getD j 0)) := by
 rw [cells, show 38 + j = (37 + j) + 1 from by omega, List.getElem?_cons_succ, List.getElem?_append_right (by rw [nums_length, h.now]; omega), nums_length, h.now, Nat.add_sub_cancel_left,
   List.getElem?_append_left (by rw [nums_length, h.first]; exact hj)]
 exact nums_get (by rw [h.first]; exact hj)
theorem cells_tail (h : Good t) (j : Nat) : (cells rv kv t)[75 + j]? = [kv, .int .i64 t.size, .bool t.begun][j]? := by
 rw [cells, show 75 + j = (74 + j) + 1 from by omega, List.getElem?_cons_succ, List.getElem?_append_right (by rw [nums_length, h.now]; omega), nums_length, h.now,
   List.getElem?_append_right (by rw [nums_length, h.first]; omega), nums_length, h.first, show 74 + j - 37 - 37 = j from by omega]
theorem Tab.cell (h : Tab w base g t rv kv) (j : Nat) : w.cell? ⟨g, j, none⟩ = (cells rv kv t)[j]? := by
 rw [cell_of_row w g j _ _ _ h.blk, List.getElem?_toArray]
theorem Tab.free (h : Tab w base g t rv kv) (j : Nat) : w.frozen? ⟨g, j, none⟩ = false := blk_frozen h.blk j
theorem Tab.rowsC (h : Tab w base g t rv kv) : w.cell? ⟨g, 0, none⟩ = some rv := by rw [h.cell]; rfl
theorem Tab.now (h : Tab w base g t rv kv) (j : Nat) (hj : j < 37) : w.cell? ⟨g, 1 + j, none⟩ = some (.int .i64 (t.now.getD j 0)) := by rw [h.cell, cells_now h.good j hj]
theorem Tab.first (h : Tab w base g t rv kv) (j : Nat) (hj : j < 37) : w.cell? ⟨g, 38 + j, none⟩ = some (.int .i64 (t.first.getD j 0)) := by rw [h.cell, cells_first h.good j hj]
theorem Tab.keptC (h : Tab w base g t rv kv) : w.cell? ⟨g, 75, none⟩ = some kv := by rw [h.cell]; exact cells_tail h.good 0
theorem Tab.size (h : Tab w base g t rv kv) : w.cell? ⟨g, 76, none⟩ = some (.int .i64 t.size) := by rw [h.cell]; exact cells_tail h.good 1
theorem Tab.begun (h : Tab w base g t rv kv) : w.cell? ⟨g, 77, none⟩ = some (.bool t.begun) := by rw [h.cell]; exact cells_tail h.good 2
/-- The world moves, but not in g, nor in old blocks. -/
theorem Tab.below (h : Tab w base g t rv kv) (hb : Below w.heap.size w w') : Tab w' base g t rv kv :=
  ⟨h.good, h.lo, blk_below h.blk hb, Kd.R_below h.rows hb, Kd.R_below h.kept hb⟩
/-- The table's block turns, its rows do not. -/
theorem Tab.turn (h : Tab w base g t rv kv) (hg : w.grownBy w' (some g)) (good : Good t') (hb : w'.heap[g]? = some (.cells (cells rv kv t').toArray 147 (0, 0))) (hr : t'.rows = t.rows) (hk : t'.kept = t.kept) : Tab w' base g t' rv kv :=
  ⟨good, h.lo, hb, by rw [hr]; exact Kd.R_grown h.rows hg (fun k hk e => hk.1 (Option.some.inj e)), by rw [hk]; exact Kd.R_grown h.kept hg (fun k hk e => hk.1 (Option.some.inj e))⟩
theorem grown_set (w : World) (g j : Nat) (v : Value) : w.grownBy (w.setCell ⟨g, j, none⟩ v) (some g) :=
  ⟨rfl, rfl, rfl, by simp [World.setCell], fun k _ hk => Below.heap_setCell w ⟨g, j, none⟩ v k (fun e => hk (by rw [e]))⟩
theorem grown_drew {row : Option Nat} (h : w.grownBy w' row) : w.grownBy w'.drew row := ⟨h.os, h.tape, h.output, h.size, h.block⟩
theorem grown_alloc {row : Option Nat} (h : w.grownBy w' row) (o : Obj) : w.grownBy (w'.alloc o) row := World.grownBy.trans h (World.grownBy_alloc _ _ _)
theorem grown_set' (h : w.grownBy w' (some g)) (j : Nat) (v : Value) : w.grownBy (w'.setCell ⟨g, j, none⟩ v) (some g) := World.grownBy.trans h (grown_set _ _ _ _)
theorem grown_below' {row : Option Nat} (h : w.grownBy w' row) {w2 : World} (hb : Below w'.heap.size w' w2) : w.grownBy w2 row := World.grownBy.trans h (grown_of_below hb row)
theorem below_grown (hg : w.grownBy w' (some g)) (h0 : base ≤ w.heap.size) (h1 : base ≤ g) : Below base w w' := (Below.refl base w).grown hg h0 (fun k hk => by cases hk; exact h1)
theorem set_now (hb : w.heap[g]? = some (.cells (cells rv kv t).toArray 147 (0, 0))) (h : Good t) (j : Nat) (hj : j < 37) (x : Int) :
    (w.setCell ⟨g, 1 + j, none⟩ (.int .i64 x)).heap[g]? = some (.cells (cells rv kv { t with now := t.now.set j x }).toArray 147 (0, 0)) := by
 refine blk_put hb _ _ ?_
 rw [List.setIfInBounds_toArray, cells, cells, Nat.add_comm, List.set_cons_succ, List.set_append_left _ _ (by rw [nums_length, h.now]; exact hj)]
 simp [nums, List.map_set]
theorem set_rows (hb : w.heap[g]? = some (.cells (cells rv kv t).toArray 147 (0, 0))) (v : Value) (rs : List Row) :
    (w.setCell ⟨g, 0, none⟩ v).heap[g]? = some (.cells (cells v kv { t with rows := rs }).toArray 147 (0, 0)) := by
 refine blk_put hb _ _ ?_
 rw [List.setIfInBounds_toArray]
 rfl
theorem set_kept (hb : w.heap[g]? = some (.cells (cells rv kv t).toArray 147 (0, 0))) (h : Good t) (v : Value) (ks : List Row) :
    (w.setCell ⟨g, 75, none⟩ v).heap[g]? = some (.cells (cells rv v { t with kept := ks }).toArray 147 (0, 0)) := by
 refine blk_put hb _ _ ?_
 rw [List.setIfInBounds_toArray, cells, cells, show 75 = 74 + 1 from rfl, List.set_cons_succ, List.set_append_right _ _ (by rw [nums_length, h.now]; omega), nums_length, h.now,
   List.set_append_right _ _ (by rw [nums_length, h.first]; omega), nums_length, h.first]
 rfl
theorem set_begun (hb : w.heap[g]? = some (.cells (cells rv kv t).toArray 147 (0, 0))) (h : Good t) (b : Bool) :
    (w.setCell ⟨g, 77, none⟩ (.bool b)).heap[g]? = some (.cells (cells rv kv { t with begun := b }).toArray 147 (0, 0)) := by
 refine blk_put hb _ _ ?_
 rw [List.setIfInBounds_toArray, cells, cells, show 77 = 76 + 1 from rfl, List.set_cons_succ, List.set_append_right _ _ (by rw [nums_length, h.now]; omega), nums_length, h.now,
   List.set_append_right _ _ (by rw [nums_length, h.first]; omega), nums_length, h.first]
 rfl
/-- The address of rule m of a row that begins at o. -/
theorem rule_at (g o m : Nat) (hm : m ≤ 16) (W : World) : (Instr.indexAt 143 (.pointer (some ⟨g, o, none⟩)) (.int .i64 (m : Int))).run Try.prog W = .ok (.pointer (some ⟨g, o + m * 2, none⟩)) W := by
 have h1 : Try.prog.arrayLen 143 = 17 := by kernel_rfl
 have h2 : Try.prog.elem 143 = 142 := by kernel_rfl
 have h3 : (sizeOf 142).run Try.prog W = .ok 2 W := by kernel_rfl
 rw [run_indexAt_array (P := Try.prog) W _ _ _ _ (by rw [h1, h2]; exact Try.underlying143), h1, if_pos (by omega), h2, h3]
 simp only [Result.andThen, Int.toNat_natCast, Addr.add_mid]
/-- A region that draws its order: all but the tail only reads. -/
theorem still_tail {P : Program} {id : Nat} {Q : Exit → Act → World → Prop} {a : Act} {w : World} {l : List Oper} (n : Nat) (hm : P.follows .mixedOrders = true) (hB : Region.lexTailB .any l.toArray n = true)
    (h : wpStill P l.toArray w.drew (fun a' => wpList P l.toArray Q (l.drop n) a' w.drew) (l.take n) a) : (Code.region id l.toArray true).wp P Q a w := wp_region_still_tail n hm hB h
theorem fill_list (vs : List Value) : ∀ (k : Nat) (cs : Array Value), cs.size = k + vs.length → ((vs.zipIdx k).foldl (fun cs (x : Value × Nat) => cs.setIfInBounds (0 + x.2) x.1) cs).toList = cs.toList.take k ++ vs := by
 induction vs with
 | nil =>
  intro k cs h
  simp only [List.zipIdx_nil, List.foldl_nil, List.append_nil]
  rw [List.take_of_length_le (by rw [List.length_nil] at h; rw [Array.length_toList]; omega)]
 | cons v vs ih =>
  intro k cs h
  rw [List.length_cons] at h
  rw [List.zipIdx_cons, List.foldl_cons, ih (k + 1) _ (by simp; omega)]
  simp only [Nat.zero_add, Array.toList_setIfInBounds]
  rw [List.take_succ_eq_append_getElem (by simp; omega), List.take_set, List.set_eq_of_length_le (by simp; omega)]
  simp
theorem fill_all (vs : List Value) (cs : Array Value) (h : cs.size = vs.length) : vs.toArray.zipIdx.foldl (fun cs (x : Value × Nat) => cs.setIfInBounds (0 + x.2) x.1) cs = vs.toArray := by
 have h1 := fill_list vs 0 cs (by omega)
 apply Array.ext'
 rw [← Array.foldl_toList, Array.toList_zipIdx]
 simpa using h1
theorem build_row (l : List Int) (hl : l.length = 37) (W : World) : (Instr.buildSlice 111 1 #[(0, .agg (nums .i64 l).toArray)]).run Try.prog W = .ok (.slice (some ⟨W.heap.size, 0, none⟩) 1 1) (W.alloc (.cells (nums .i64 l).toArray 145)) := by
 obtain ⟨i0, hi, hzz⟩ := Option.map_eq_some_iff.1 info145
 simp only [Prod.mk.injEq] at hzz
 obtain ⟨hz0, hz1, hz2⟩ := hzz
 refine run_buildSlice (P := Try.prog) W _ 145 1 _ _ i0 _ Try.underlying111 hi hz0 (by rw [hz1]; decide) (by rw [hz1]; decide) ?_
 have hn : (nums .i64 l).length = 37 := by rw [nums_length, hl]
 simp only [Instr.fill, hz1, Nat.zero_mul, Value.cells, List.size_toArray, hn]
 rw [if_neg (by simp)]
 simp only [Option.some.injEq]
 exact fill_all _ _ (by simp [hn])
theorem wp_build_row {o : Oper} {a : Act} {w : World} {K : Act → World → Prop} {Q : Exit → Act → World → Prop} (x : Operand) (ho : o.op = .buildSlice 111 1 #[(0, x)]) (l : List Int) (hl : l.length = 37) (hx : a.eval x = .agg (nums .i64 l).toArray)
    (h : K (a.put o.dst (.slice (some ⟨w.heap.size, 0, none⟩) 1 1)) (w.alloc (.cells (nums .i64 l).toArray 145))) : o.wp Try.prog a w K Q := by
 unfold Oper.wp execOp
 have hb := build_row l hl w
 simp only [ho, List.map_toArray, List.map_cons, List.map_nil, hx, Sem.run_bind, hb, Result.andThen_ok]
 exact h
theorem load_row_y {ops : Array Oper} {S : World → Prop} {op : Oper} {a : Act} (hw : Region.wanted op (yielded ops a.tmps) = true) (x : Operand) (ho : op.op = .load 145 x) (b o : Nat) (hx : a.eval x = .pointer (some ⟨b, o, none⟩)) (l : List Int) (hl : l.length = 37)
    (hS : ∀ w, S w → w.rangeAt b o (nums .i64 l)) : YieldsIf Try.prog ops S op (.agg (nums .i64 l).toArray) a :=
  yieldsIf_load_mid hw 145 x ho b o hx _ _ hS Try.underlying145 rfl (by rw [nums_length, hl]; kernel_rfl)
theorem row_M (w : World) (base : Nat) (ok : Nat → Prop) (l : List Int) (hl : l.length = 37) : rowK.M w base ok l (nums .i64 l) := Kd.arr_of_cells (n := 37) (enc := Value.int .i64) (h1 := fun _ => rfl) (hs := by decide) hl
theorem row_K {w : World} {l : List Int} {cs : List Value} (h : rowK.K w l cs) : l.length = 37 ∧ cs = nums .i64 l := Kd.arr_cells (n := 37) (enc := Value.int .i64) (h1 := fun _ => rfl) (hs := by decide) h
section
variable {w w1 W : World} {base g : Nat} {t : T} {rv kv v1 : Value}
theorem Tab.nowR (h : Tab w base g t rv kv) : w.rangeAt g 1 (nums .i64 t.now) := fun j v hv => by
  have hj : j < 37 := by
    have := (List.getElem?_eq_some_iff.1 hv).1
    rwa [nums_length, h.good.now] at this
  rw [h.now j hj, ← hv, nums_get (by rw [h.good.now]; exact hj)]
/-- Another row than the one that was written lives on, whatever block the written one has now. -/
theorem R_beside {e e' base : Nat} {rv kv v1 : Value} {xs : List Row} (h : Kd.R rowK e W base (fun k => k ≠ g ∧ some k ≠ kv.ownBlock) rv xs) (hg : W.grownBy w1 kv.ownBlock) (hat : v1.ownBlock = kv.ownBlock ∨ ∃ b, v1.ownBlock = some b ∧ W.heap.size ≤ b) :
    Kd.R rowK e w1 base (fun k => k ≠ g ∧ some k ≠ v1.ownBlock) rv xs := by
 have h1 := Kd.R_bound h
 refine Kd.R_mono (Kd.R_grown h1 hg (fun k hk => hk.1.2)) (fun k hk => ⟨hk.1.1, ?_⟩)
 rcases hat with hat | ⟨b, hb, hle⟩
 ·
  rw [hat]; exact hk.1.2
 rw [hb]
 intro e
 injection e with e
 have := hk.2.2.1
 omega
theorem Tab.kept_app (h : Tab w base g t rv kv) (hb : Below w.heap.size w W) (hg : W.grownBy w1 kv.ownBlock) (hat : v1.ownBlock = kv.ownBlock ∨ ∃ b, v1.ownBlock = some b ∧ W.heap.size ≤ b) {ks : List Row} (ho : Kd.R rowK 145 w1 base (fun k => k ≠ g ∧ some k ≠ rv.ownBlock) v1 ks)
    (good : Good { t with kept := ks }) : Tab (w1.setCell ⟨g, 75, none⟩ v1) base g { t with kept := ks } rv v1 := by
 have h1 := h.below hb
 have hc := blk_grown h1.blk hg (fun e => (h1.kept.1 g e.symm).1 rfl)
 exact ⟨good, h.lo, set_kept hc h.good v1 ks, Kd.R_far (p := ⟨g, 75, none⟩) (R_beside (e' := 0) h1.rows hg hat) (fun k hk => hk.1) v1, Kd.R_far (p := ⟨g, 75, none⟩) ho (fun k hk => hk.1) v1⟩
theorem Tab.rows_app (h : Tab w base g t rv kv) (hb : Below w.heap.size w W) (hg : W.grownBy w1 rv.ownBlock) (hat : v1.ownBlock = rv.ownBlock ∨ ∃ b, v1.ownBlock = some b ∧ W.heap.size ≤ b) {rs : List Row} (ho : Kd.R rowK 145 w1 base (fun k => k ≠ g ∧ some k ≠ kv.ownBlock) v1 rs)
    (good : Good { t with rows := rs }) : Tab (w1.setCell ⟨g, 0, none⟩ v1) base g { t with rows := rs } v1 kv := by
 have h1 := h.below hb
 have hc := blk_grown h1.blk hg (fun e => (h1.rows.1 g e.symm).1 rfl)
 exact ⟨good, h.lo, set_rows hc v1 rs, Kd.R_far (p := ⟨g, 0, none⟩) ho (fun k hk => hk.1) v1, Kd.R_far (p := ⟨g, 0, none⟩) (R_beside (e' := 0) h1.kept hg hat) (fun k hk => hk.1) v1⟩
end
end
theorem setCells_block {w : World} {g o : Nat} {e : TypeId} {cur : Array Value} (vs : List Value) (h : w.heap[g]? = some (.cells cur e (0, 0))) (hl : o + vs.length ≤ cur.size) :
    (w.setCells g o vs).heap[g]? = some (.cells (cur.toList.take o ++ vs ++ cur.toList.drop (o + vs.length)).toArray e (0, 0)) := by
 obtain ⟨cur', h1, h2, h3⟩ := setCells_row vs o w cur h hl
 rw [h1, ← h3]
/-- tr is a type of 37 whole numbers, ts a slice of it. -/
structure RowTy (tr ts : TypeId) : Prop where
  info : (Try.prog.info? tr).map (fun i => (i.zero, i.size, i.bytes)) = some (some (.agg (Array.replicate 37 (.int .i64 0))), 37, 296)
  under : ∃ d, Try.prog.underlying tr = some d ∧ d.isRow = true
  slice : Try.prog.underlying ts = some (.slice tr)
theorem rowTy : RowTy 145 111 := ⟨info145, ⟨_, Try.underlying145, rfl⟩, Try.underlying111⟩
section
variable {tr ts : TypeId} (T : RowTy tr ts) {ops : Array Oper} {rest : List Oper} {op : Oper} {a : Act} {w : World} {Q : Exit → Act → World → Prop} {l : List Int}
include T
theorem RowTy.sz (hl : l.length = 37) : (Try.prog.info? tr).map (·.size) = some (nums .i64 l).length := by
 obtain ⟨i0, hi, hzz⟩ := Option.map_eq_some_iff.1 T.info
 simp only [Prod.mk.injEq] at hzz
 rw [hi, Option.map_some, hzz.2.1, nums_length, hl]
theorem load_rowW (hgd : op.guard = none) (x : Operand) (ho : op.op = .load tr x) (b o : Nat) (hx : a.eval x = .pointer (some ⟨b, o, none⟩)) (l : List Int) (hl : l.length = 37) (hc : w.rangeAt b o (nums .i64 l))
    (h : wpList Try.prog ops Q rest (a.put op.dst (.agg (nums .i64 l).toArray)) w) : wpList Try.prog ops Q (op :: rest) a w := by
 obtain ⟨d, hd, hr⟩ := T.under
 exact wpList_load_mid hgd tr x ho b o hx _ d hc hd hr (T.sz hl) h
theorem store_rowW (hgd : op.guard = none) (x y : Operand) (ho : op.op = .store tr x y) (b o : Nat) (l : List Int) (hl : l.length = 37) (hx : a.eval x = .pointer (some ⟨b, o, none⟩)) (hy : a.eval y = .agg (nums .i64 l).toArray) (ht : w.there b o 37)
    (h : wpList Try.prog ops Q rest (a.put op.dst undef) (w.setCells b o (nums .i64 l))) : wpList Try.prog ops Q (op :: rest) a w := by
 have hn : (nums .i64 l).toArray.size = 37 := by rw [List.size_toArray, nums_length, hl]
 refine wpList_store_mid hgd tr x y ho b o _ hx hy (by rw [hn]; exact ht) (by rw [hn]; have := T.sz hl; rwa [nums_length, hl] at this) (all_oneCell_toArray (fun v hv => ?_)) (by simpa using h)
 obtain ⟨n, _, rfl⟩ := List.mem_map.1 hv
 rfl
theorem alloc_rowK {K : Act → World → Prop} (ho : op.op = .alloc tr) (h : K (a.put op.dst (.pointer (some ⟨w.heap.size, 0, none⟩))) (w.alloc (.cells (nums .i64 zrow).toArray tr))) : op.wp Try.prog a w K Q := by
 obtain ⟨i0, hi, hzz⟩ := Option.map_eq_some_iff.1 T.info
 simp only [Prod.mk.injEq] at hzz
 obtain ⟨hz0, hz1, hz2⟩ := hzz
 have hz : (zeroValue tr).run Try.prog w = .ok (.agg (nums .i64 zrow).toArray) w := by
  have hZ : Array.replicate 37 (Value.int .i64 0) = (nums .i64 zrow).toArray := by
   rw [zrow, nums, List.map_replicate, List.toArray_replicate]
  rw [hZ] at hz0
  generalize (nums .i64 zrow).toArray = Z at *
  simp [zeroValue, typeInfo, hi, hz0]
 generalize (nums .i64 zrow).toArray = Z at *
 have hr : (execOp a.eval op).run Try.prog w = .ok (.value (.pointer (some ⟨w.heap.size, 0, none⟩))) (w.alloc (.cells Z tr)) := by
  unfold execOp
  simp only [ho, Instr.alloc, Sem.run_bind, hz, Result.andThen_ok]
  simp [newVar, newRow, Value.cells]
 unfold Oper.wp
 rw [hr]
 exact h
theorem store_rowK {K : Act → World → Prop} (x y : Operand) (ho : op.op = .store tr x y) (b o : Nat) (l : List Int) (hl : l.length = 37) (hx : a.eval x = .pointer (some ⟨b, o, none⟩)) (hy : a.eval y = .agg (nums .i64 l).toArray) (ht : w.there b o 37)
    (h : K (a.put op.dst undef) (w.setCells b o (nums .i64 l))) : op.wp Try.prog a w K Q := by
 have hn : (nums .i64 l).toArray.size = 37 := by rw [List.size_toArray, nums_length, hl]
 refine wp_store_mid tr x y ho b o _ hx hy (by rw [hn]; exact ht) (by rw [hn]; have := T.sz hl; rwa [nums_length, hl] at this) (all_oneCell_toArray (fun v hv => ?_)) (by simpa using h)
 obtain ⟨n, _, rfl⟩ := List.mem_map.1 hv
 rfl
end
/-- A row's box: what was stored into the variable that was just made. -/
theorem box_new {tr : TypeId} {w : World} {l : List Int} {g : Nat} (hg : g = w.heap.size) (hl : l.length = 37) : ((w.alloc (.cells (nums .i64 zrow).toArray tr)).setCells g 0 (nums .i64 l)).heap[g]? = some (.cells (nums .i64 l).toArray tr (0, 0)) ∧
    Below w.heap.size w ((w.alloc (.cells (nums .i64 zrow).toArray tr)).setCells g 0 (nums .i64 l)) := by
 subst hg
 have h0 := blk_new w (.cells (nums .i64 zrow).toArray tr)
 have hn : (nums .i64 zrow).length = 37 := by rw [nums_length, zrow_len]
 have hn2 : (nums .i64 l).length = 37 := by rw [nums_length, hl]
 refine ⟨?_, ?_⟩
 ·
  rw [setCells_block (nums .i64 l) h0 (by rw [hn2, List.size_toArray, hn]; decide)]
  rw [List.take_zero, List.nil_append, hn2, List.drop_of_length_le (by rw [hn]; decide), List.append_nil]
 obtain ⟨h1, h2, h3, h4⟩ := setCells_same w.heap.size (nums .i64 l) 0 (w.alloc (.cells (nums .i64 zrow).toArray tr))
 have hb := below_alloc (Below.refl w.heap.size w) (.cells (nums .i64 zrow).toArray tr)
 exact ⟨h1.trans hb.os, h2.trans hb.tape, h3.trans hb.output, by rw [h4]; exact hb.size, fun k hk => (setCells_far _ 0 k (by omega)).trans (hb.block k hk)⟩
theorem grown_setCells (w : World) (g o : Nat) (vs : List Value) : w.grownBy (w.setCells g o vs) (some g) := by
 obtain ⟨h1, h2, h3, h4⟩ := setCells_same g vs o w
 exact ⟨h1, h2, h3, by rw [h4]; exact Nat.le_refl _, fun k _ hk => setCells_far vs o k (fun e => hk (by rw [e]))⟩
section
variable {w w' : World} {base g : Nat} {t t' : T} {rv kv : Value}
theorem set_nowAll (hb : w.heap[g]? = some (.cells (cells rv kv t).toArray 147 (0, 0))) (h : Good t) (l : Row) (hl : l.length = 37) :
    (w.setCells g 1 (nums .i64 l)).heap[g]? = some (.cells (cells rv kv { t with now := l }).toArray 147 (0, 0)) := by
 rw [setCells_block _ hb (by rw [nums_length, hl, List.size_toArray, cells_len h]; omega), nums_length, hl]
 rw [cells, cells]
 simp only [List.take_succ_cons, List.take_zero, List.drop_succ_cons, List.cons_append, List.nil_append]
 rw [List.drop_left' (by rw [nums_length, h.now])]
theorem set_firstAll (hb : w.heap[g]? = some (.cells (cells rv kv t).toArray 147 (0, 0))) (h : Good t) (l : Row) (hl : l.length = 37) :
    (w.setCells g 38 (nums .i64 l)).heap[g]? = some (.cells (cells rv kv { t with first := l }).toArray 147 (0, 0)) := by
 rw [setCells_block _ hb (by rw [nums_length, hl, List.size_toArray, cells_len h]; omega), nums_length, hl]
 rw [cells, cells]
 have h1 : (nums .i64 t.now).length = 37 := by rw [nums_length, h.now]
 have h2 : (nums .i64 t.first).length = 37 := by rw [nums_length, h.first]
 rw [show 38 = 37 + 1 from rfl, show 37 + 1 + 37 = 74 + 1 from rfl, List.take_succ_cons, List.drop_succ_cons, List.take_left' h1, ← List.append_assoc (nums .i64 t.now), List.drop_left' (by rw [List.length_append, h1, h2])]
 simp only [List.cons_append, List.append_assoc]
theorem there_of_blk {cs : Array Value} {e : TypeId} {b o n : Nat} (hb : w.heap[b]? = some (.cells cs e (0, 0))) (hl : o + n ≤ cs.size) : w.there b o n := fun j hj => by
  refine ⟨?_, blk_frozen hb _⟩
  rw [blk_cell hb, Array.getElem?_eq_getElem (by omega)]
  rfl
theorem range_of_blk {cs : List Value} {e : TypeId} {b : Nat} (hb : w.heap[b]? = some (.cells cs.toArray e (0, 0))) : w.rangeAt b 0 cs := fun j v hv => by
  rw [blk_cell hb, List.getElem?_toArray, Nat.zero_add]
  exact hv
end
/-- What a method answers: whether the op may be there; if so, the table is turned. -/
def Post (base g : Nat) (w : World) (r : Option T) (e : Ending) (w' : World) : Prop :=
  e = .returned (.bool r.isSome) ∧ Below base w w' ∧ ∀ t', r = some t' → ∃ rv kv, Tab w' base g t' rv kv
section
variable {w w' : World} {base g : Nat} {t t' : T} {rv kv : Value} {k r n : Int}
theorem Post.turn (h : Tab w base g t rv kv) (hb : base ≤ w.heap.size) (hg : w.grownBy w' (some g)) (hm : mayF k r n = true) (e : act t k r n = some t') (hr : t'.rows = t.rows) (hk : t'.kept = t.kept)
    (hc : w'.heap[g]? = some (.cells (cells rv kv t').toArray 147 (0, 0))) : Post base g w (act t k r n) (.returned (.bool true)) w' := by
 rw [e]
 refine ⟨rfl, below_grown hg hb h.lo, fun t2 e2 => ?_⟩
 cases e2
 exact ⟨rv, kv, h.turn hg (good_act h.good hm e) hc hr hk⟩
theorem Post.false (hb : Below base w w') (e : act t k r n = none) : Post base g w (act t k r n) (.returned (.bool false)) w' := by
 rw [e]
 exact ⟨rfl, hb, fun _ h => by cases h⟩
theorem now_at (h : Tab w base g t rv kv) (m : Nat) (hm : m ≤ 16) : (w.cell? ⟨g, 4 + m * 2, none⟩ = some (.int .i64 (t.now.getD (ru m) 0)) ∧ w.cell? ⟨g, 4 + m * 2 + 1, none⟩ = some (.int .i64 (t.now.getD (ru m + 1) 0))) ∧
    (w.frozen? ⟨g, 4 + m * 2, none⟩ = false ∧ w.frozen? ⟨g, 4 + m * 2 + 1, none⟩ = false) := by
 refine ⟨⟨?_, ?_⟩, h.free _, h.free _⟩
 ·
  rw [← h.now (ru m) (by simp only [ru]; omega), show 1 + ru m = 4 + m * 2 from by simp only [ru]; omega]
 rw [← h.now (ru m + 1) (by simp only [ru]; omega), show 1 + (ru m + 1) = 4 + m * 2 + 1 from by simp only [ru]; omega]
theorem set_rule (hb : w.heap[g]? = some (.cells (cells rv kv t).toArray 147 (0, 0))) (h : Good t) (m : Nat) (hm : m ≤ 16) (x y : Int) :
    ((w.setCell ⟨g, 4 + m * 2, none⟩ (.int .i64 x)).setCell ⟨g, 4 + m * 2 + 1, none⟩ (.int .i64 y)).heap[g]? = some (.cells (cells rv kv { t with now := (t.now.set (ru m) x).set (ru m + 1) y }).toArray 147 (0, 0)) := by
 have h1 := set_now hb h (ru m) (by simp only [ru]; omega) x
 have h2 := set_now (t := { t with now := t.now.set (ru m) x }) h1 ⟨by simpa using h.now, h.first, h.rows, h.kept, by show 0 ≤ (t.now.set (ru m) x).getD 0 0; rw [getD_set_ne (ru_ne _).1]; exact h.at0, h.size, by show _ → (t.now.set (ru m) x).getD 0 0 ≤ _; rw [getD_set_ne (ru_ne _).1]; exact h.atS⟩ (ru m + 1) (by simp only [ru]; omega) y
 rw [show 1 + ru m = 4 + m * 2 from by simp only [ru]; omega, show 1 + (ru m + 1) = 4 + m * 2 + 1 from by simp only [ru]; omega] at h2
 exact h2
theorem good_set1 (h : Good t) (x : Int) : Good { t with now := t.now.set 1 x } :=
  ⟨by simpa using h.now, h.first, h.rows, h.kept, by show 0 ≤ (t.now.set 1 x).getD 0 0; rw [getD_set_ne (by decide)]; exact h.at0, h.size, by show _ → (t.now.set 1 x).getD 0 0 ≤ _; rw [getD_set_ne (by decide)]; exact h.atS⟩
end
theorem nop_calls (w : World) (base g : Nat) (t : T) (rv kv : Value) (h : Tab w base g t rv kv) (hb : base ≤ w.heap.size) (r n : Int) (hm : mayF 0 r n = true) :
    Calls Try.prog 95 #[.pointer (some ⟨g, 0, none⟩), .agg #[.int .i64 0, .int .i64 r, .int .i64 n]] w (Post base g w (act t 0 r n)) := by
 go_enter Try.func95, Try.ntmps95
 go_wp2
 go_ret
 exact Post.turn h hb (grown_alloc (World.grownBy.refl _ _) _) hm rfl rfl rfl (blk_alloc h.blk _)
theorem offset_calls (w : World) (base g : Nat) (t : T) (rv kv : Value) (h : Tab w base g t rv kv) (hb : base ≤ w.heap.size) (r n : Int) (hm : mayF 5 r n = true) :
    Calls Try.prog 100 #[.pointer (some ⟨g, 0, none⟩), .agg #[.int .i64 5, .int .i64 r, .int .i64 n]] w (Post base g w (act t 5 r n)) := by
 obtain ⟨hr0, hr1⟩ := may_r hm
 obtain ⟨m, rfl⟩ := Int.eq_ofNat_of_zero_le hr0
 obtain ⟨⟨f1, f2⟩, f3, f4⟩ := now_at h m (by omega)
 have hg := blk_lt h.blk
 have H := am h
 have HM := am hm
 have hix := rule_at g 4 m (by omega)
 have H1 := am hr1
 have HB := am hb
 clear h hb hm hr0 hr1
 go_enter Try.func100, Try.ntmps100
 go_wp2
 refine still_tail 10 (by kernel_rfl) (by kernel_rfl) ?_
 simp only [List.take_succ_cons, List.take_zero, List.drop_succ_cons, List.drop_zero]
 repeat still_step
 refine wpStill_nil ?_
 go_wp2
 go_ret
 exact Post.turn H.out HB.out (grown_drew (grown_alloc (grown_set' (grown_set _ _ _ _) _ _) _)) HM.out rfl rfl rfl (blk_alloc (set_rule H.out.blk H.out.good m (by have := H1.out; omega) 2 n) _)
theorem undefined_calls (w : World) (base g : Nat) (t : T) (rv kv : Value) (h : Tab w base g t rv kv) (hb : base ≤ w.heap.size) (r n : Int) (hm : mayF 7 r n = true) :
    Calls Try.prog 102 #[.pointer (some ⟨g, 0, none⟩), .agg #[.int .i64 7, .int .i64 r, .int .i64 n]] w (Post base g w (act t 7 r n)) := by
 obtain ⟨hr0, hr1⟩ := may_r hm
 obtain ⟨m, rfl⟩ := Int.eq_ofNat_of_zero_le hr0
 obtain ⟨⟨f1, f2⟩, f3, f4⟩ := now_at h m (by omega)
 have hg := blk_lt h.blk
 have H := am h
 have HM := am hm
 have hix := rule_at g 4 m (by omega)
 have H1 := am hr1
 have HB := am hb
 clear h hb hm hr0 hr1
 go_enter Try.func102, Try.ntmps102
 go_wp2
 refine still_tail 8 (by kernel_rfl) (by kernel_rfl) ?_
 simp only [List.take_succ_cons, List.take_zero, List.drop_succ_cons, List.drop_zero]
 repeat still_step
 refine wpStill_nil ?_
 go_wp2
 go_ret
 exact Post.turn H.out HB.out (grown_drew (grown_alloc (grown_set' (grown_set _ _ _ _) _ _) _)) HM.out rfl rfl rfl (blk_alloc (set_rule H.out.blk H.out.good m (by have := H1.out; omega) 1 0) _)
theorem sameValue_calls (w : World) (base g : Nat) (t : T) (rv kv : Value) (h : Tab w base g t rv kv) (hb : base ≤ w.heap.size) (r n : Int) (hm : mayF 8 r n = true) :
    Calls Try.prog 103 #[.pointer (some ⟨g, 0, none⟩), .agg #[.int .i64 8, .int .i64 r, .int .i64 n]] w (Post base g w (act t 8 r n)) := by
 obtain ⟨hr0, hr1⟩ := may_r hm
 obtain ⟨m, rfl⟩ := Int.eq_ofNat_of_zero_le hr0
 obtain ⟨⟨f1, f2⟩, f3, f4⟩ := now_at h m (by omega)
 have hg := blk_lt h.blk
 have H := am h
 have HM := am hm
 have hix := rule_at g 4 m (by omega)
 have H1 := am hr1
 have HB := am hb
 clear h hb hm hr0 hr1
 go_enter Try.func103, Try.ntmps103
 go_wp2
 refine still_tail 8 (by kernel_rfl) (by kernel_rfl) ?_
 simp only [List.take_succ_cons, List.take_zero, List.drop_succ_cons, List.drop_zero]
 repeat still_step
 refine wpStill_nil ?_
 go_wp2
 go_ret
 exact Post.turn H.out HB.out (grown_drew (grown_alloc (grown_set' (grown_set _ _ _ _) _ _) _)) HM.out rfl rfl rfl (blk_alloc (set_rule H.out.blk H.out.good m (by have := H1.out; omega) 0 0) _)
theorem defOffset_calls (w : World) (base g : Nat) (t : T) (rv kv : Value) (h : Tab w base g t rv kv) (hb : base ≤ w.heap.size) (r n : Int) (hm : mayF 3 r n = true) :
    Calls Try.prog 98 #[.pointer (some ⟨g, 0, none⟩), .agg #[.int .i64 3, .int .i64 r, .int .i64 n]] w (Post base g w (act t 3 r n)) := by
 have f1 : w.cell? ⟨g, 2, none⟩ = some (.int .i64 (t.now.getD 1 0)) := h.now 1 (by omega)
 have f2 : w.cell? ⟨g, 3, none⟩ = some (.int .i64 (t.now.getD 2 0)) := h.now 2 (by omega)
 have f3 := h.free 2
 have f4 := h.free 3
 have hg := blk_lt h.blk
 have e : act t 3 r n = if 0 ≤ t.now.getD 1 0 then some { t with now := t.now.set 2 n } else none := rfl
 have HE := am e
 have H := am h
 have HM := am hm
 have HB := am hb
 obtain ⟨x, hx⟩ : ∃ x, t.now.getD 1 0 = x := ⟨_, rfl⟩
 rw [hx] at f1
 have HX := am hx
 clear h hb hm e hx
 obtain ⟨v, h1, g1⟩ := may_ge x 0
 have H1 := am h1
 clear h1
 go_enter Try.func98, Try.ntmps98
 go_wp2
 go_ret
 have hgr : w.grownBy ((w.setCell ⟨g, 1 + 2, none⟩ (.int .i64 n)).alloc (.cells #[.int .i64 3, .int .i64 r, .int .i64 n] 105)) (some g) := grown_alloc (grown_set _ _ _ _) _
 have he := HE.out
 rw [HX.out] at he
 have h1 := H1.out
 cases v with
 | true =>
  rw [if_pos (of_decide_eq_true h1)] at he
  exact Post.turn H.out HB.out hgr HM.out he rfl rfl (blk_alloc (set_now H.out.blk H.out.good 2 (by omega) n) _)
 | false =>
  rw [if_neg (of_decide_eq_false h1)] at he
  exact Post.false (below_grown hgr HB.out H.out.lo) he
theorem defRegister_calls (w : World) (base g : Nat) (t : T) (rv kv : Value) (h : Tab w base g t rv kv) (hb : base ≤ w.heap.size) (r n : Int) (hm : mayF 4 r n = true) :
    Calls Try.prog 99 #[.pointer (some ⟨g, 0, none⟩), .agg #[.int .i64 4, .int .i64 r, .int .i64 n]] w (Post base g w (act t 4 r n)) := by
 have f1 : w.cell? ⟨g, 2, none⟩ = some (.int .i64 (t.now.getD 1 0)) := h.now 1 (by omega)
 have f2 : w.cell? ⟨g, 3, none⟩ = some (.int .i64 (t.now.getD 2 0)) := h.now 2 (by omega)
 have f3 := h.free 2
 have f4 := h.free 3
 have hg := blk_lt h.blk
 have e : act t 4 r n = if 0 ≤ t.now.getD 1 0 then some { t with now := t.now.set 1 r } else none := rfl
 have HE := am e
 have H := am h
 have HM := am hm
 have HB := am hb
 obtain ⟨x, hx⟩ : ∃ x, t.now.getD 1 0 = x := ⟨_, rfl⟩
 rw [hx] at f1
 have HX := am hx
 clear h hb hm e hx
 obtain ⟨v, h1, g1⟩ := may_ge x 0
 have H1 := am h1
 clear h1
 go_enter Try.func99, Try.ntmps99
 go_wp2
 go_ret
 have hgr : w.grownBy ((w.setCell ⟨g, 1 + 1, none⟩ (.int .i64 r)).alloc (.cells #[.int .i64 4, .int .i64 r, .int .i64 n] 105)) (some g) := grown_alloc (grown_set _ _ _ _) _
 have he := HE.out
 rw [HX.out] at he
 have h1 := H1.out
 cases v with
 | true =>
  rw [if_pos (of_decide_eq_true h1)] at he
  exact Post.turn H.out HB.out hgr HM.out he rfl rfl (blk_alloc (set_now H.out.blk H.out.good 1 (by omega) r) _)
 | false =>
  rw [if_neg (of_decide_eq_false h1)] at he
  exact Post.false (below_grown hgr HB.out H.out.lo) he
theorem restore_calls (w : World) (base g : Nat) (t : T) (rv kv : Value) (h : Tab w base g t rv kv) (hb : base ≤ w.heap.size) (r n : Int) (hm : mayF 6 r n = true) :
    Calls Try.prog 101 #[.pointer (some ⟨g, 0, none⟩), .agg #[.int .i64 6, .int .i64 r, .int .i64 n]] w (Post base g w (act t 6 r n)) := by
 obtain ⟨hr0, hr1⟩ := may_r hm
 obtain ⟨m, rfl⟩ := Int.eq_ofNat_of_zero_le hr0
 obtain ⟨⟨f1, f2⟩, f3, f4⟩ := now_at h m (by omega)
 have f5 : w.cell? ⟨g, 41 + m * 2, none⟩ = some (.int .i64 (t.first.getD (ru m) 0)) := by rw [← h.first (ru m) (by simp only [ru]; omega), show 38 + ru m = 41 + m * 2 from by simp only [ru]; omega]
 have f6 : w.cell? ⟨g, 41 + m * 2 + 1, none⟩ = some (.int .i64 (t.first.getD (ru m + 1) 0)) := by rw [← h.first (ru m + 1) (by simp only [ru]; omega), show 38 + (ru m + 1) = 41 + m * 2 + 1 from by simp only [ru]; omega]
 have e : act t 6 m n = some { t with now := (t.now.set (ru m) (t.first.getD (ru m) 0)).set (ru m + 1) (t.first.getD (ru m + 1) 0) } := rfl
 have hs := set_rule h.blk h.good m (by omega) (t.first.getD (ru m) 0) (t.first.getD (ru m + 1) 0)
 obtain ⟨x, hx⟩ : ∃ x, t.first.getD (ru m) 0 = x := ⟨_, rfl⟩
 obtain ⟨y, hy⟩ : ∃ y, t.first.getD (ru m + 1) 0 = y := ⟨_, rfl⟩
 rw [hx, hy] at e hs
 rw [hx] at f5
 rw [hy] at f6
 have HS := am hs
 have HE := am e
 have hg := blk_lt h.blk
 have H := am h
 have HM := am hm
 have hix := rule_at g 4 m (by omega)
 have hiy := rule_at g 41 m (by omega)
 have HB := am hb
 clear h hb hm hr0 hr1 hs e hx hy
 go_enter Try.func101, Try.ntmps101
 go_wp2
 refine still_tail 15 (by kernel_rfl) (by kernel_rfl) ?_
 simp only [List.take_succ_cons, List.take_zero, List.drop_succ_cons, List.drop_zero]
 repeat still_step
 refine wpStill_nil ?_
 go_wp2
 go_ret
 exact Post.turn H.out HB.out (grown_drew (grown_alloc (grown_set' (grown_set _ _ _ _) _ _) _)) HM.out HE.out rfl rfl (blk_alloc HS.out _)
theorem defCfa_calls (w : World) (base g : Nat) (t : T) (rv kv : Value) (h : Tab w base g t rv kv) (hb : base ≤ w.heap.size) (r n : Int) (hm : mayF 2 r n = true) :
    Calls Try.prog 97 #[.pointer (some ⟨g, 0, none⟩), .agg #[.int .i64 2, .int .i64 r, .int .i64 n]] w (Post base g w (act t 2 r n)) := by
 have f1 : w.cell? ⟨g, 2, none⟩ = some (.int .i64 (t.now.getD 1 0)) := h.now 1 (by omega)
 have f2 : w.cell? ⟨g, 3, none⟩ = some (.int .i64 (t.now.getD 2 0)) := h.now 2 (by omega)
 have f3 := h.free 2
 have f4 := h.free 3
 have hg := blk_lt h.blk
 have H := am h
 have HM := am hm
 have HB := am hb
 clear h hb hm
 go_enter Try.func97, Try.ntmps97
 go_wp2
 refine start_ (n := 14) (S := fun u => u.cell? ⟨w.heap.size, 1, none⟩ = some (.int .i64 r) ∧ u.cell? ⟨w.heap.size, 2, none⟩ = some (.int .i64 n)) (ds := [13]) (bm 14 0) (by kernel_rfl) rfl rfl ?_ (fun hHeld => ?_)
 case refine_1 => exact ⟨by go_simp, by go_simp⟩
 refine pure_ (i := 0) (N := some 5) (v := ?_) (a' := ?_) (bm 14 1) rfl rfl (by kernel_rfl) (fun _ _ _ h => h) (Or.inl ⟨by rfl, ?_⟩) ?_ ?_
 rotate_left
 ·
  intro u
  go_simp
  with_reducible rfl
 rotate_left
 ·
  simp only [pz]
  rfl
 refine pure_ (i := 1) (N := some 6) (v := ?_) (a' := ?_) (bm 14 3) rfl rfl (by kernel_rfl) (fun _ _ _ h => h) (Or.inl ⟨by rfl, ?_⟩) ?_ ?_
 rotate_left
 ·
  intro u
  go_simp
  with_reducible rfl
 rotate_left
 ·
  simp only [pz]
  rfl
 refine pure_ (i := 2) (N := some 7) (v := ?_) (a' := ?_) (bm 14 7) rfl rfl (by kernel_rfl) (fun _ _ _ h => h) (Or.inl ⟨by rfl, ?_⟩) ?_ ?_
 rotate_left
 ·
  intro u
  go_simp
  with_reducible rfl
 rotate_left
 ·
  simp only [pz]
  rfl
 refine take_ (i := 3) (N := some 8) (v := ?_) (a' := ?_) (bm 14 15) rfl rfl (by kernel_rfl) (fun _ _ _ h => h) (Or.inl ⟨by rfl, ?_⟩) hHeld ?_ ?_
 rotate_left
 ·
  rintro u ⟨s0, s1⟩
  go_simp
  with_reducible rfl
 rotate_left
 ·
  simp only [pz]
  rfl
 refine pure_ (i := 4) (N := some 9) (v := ?_) (a' := ?_) (bm 14 31) rfl rfl (by kernel_rfl) (fun _ _ _ h => h) (Or.inl ⟨by rfl, ?_⟩) ?_ ?_
 rotate_left
 ·
  intro u
  go_simp
  with_reducible rfl
 rotate_left
 ·
  simp only [pz]
  rfl
 refine take_ (i := 5) (N := some 10) (v := ?_) (a' := ?_) (bm 14 63) rfl rfl (by kernel_rfl) (fun _ _ _ h => h) (Or.inl ⟨by rfl, ?_⟩) hHeld ?_ ?_
 rotate_left
 ·
  rintro u ⟨s0, s1⟩
  go_simp
  with_reducible rfl
 rotate_left
 ·
  simp only [pz]
  rfl
 refine pure_ (i := 6) (N := some 11) (v := ?_) (a' := ?_) (bm 14 127) rfl rfl (by kernel_rfl) (fun _ _ _ h => h) (Or.inl ⟨by rfl, ?_⟩) ?_ ?_
 rotate_left
 ·
  intro u
  go_simp
  with_reducible rfl
 rotate_left
 ·
  simp only [pz]
  rfl
 refine pure_ (i := 7) (N := some 12) (v := ?_) (a' := ?_) (bm 14 255) rfl rfl (by kernel_rfl) (fun _ _ _ h => h) (Or.inl ⟨by rfl, ?_⟩) ?_ ?_
 rotate_left
 ·
  intro u
  go_simp
  with_reducible rfl
 rotate_left
 ·
  simp only [pz]
  rfl
 refine pure_ (i := 8) (N := some 13) (v := ?_) (a' := ?_) (bm 14 511) rfl rfl (by kernel_rfl) (fun _ _ _ h => h) (Or.inl ⟨by rfl, ?_⟩) ?_ ?_
 rotate_left
 ·
  intro u
  go_simp
  with_reducible rfl
 rotate_left
 ·
  simp only [pz]
  rfl
 refine one_ (i := 9) (N := none) (bm 14 1023) rfl rfl (by kernel_rfl) (by decide) (fun K hK => ?_)
 rw [if_pos (by rfl)]
 go_simp
 refine hK.out _ _ ⟨by go_simp, by go_simp⟩ (fun hHeld => ?_)
 clear hK K
 refine pure_ (i := 10) (N := some 14) (v := ?_) (a' := ?_) (bm 14 2047) rfl rfl (by kernel_rfl) (fun _ _ _ h => h) (Or.inl ⟨by rfl, ?_⟩) ?_ ?_
 rotate_left
 ·
  intro u
  go_simp
  with_reducible rfl
 rotate_left
 ·
  simp only [pz]
  rfl
 refine pure_ (i := 11) (N := some 15) (v := ?_) (a' := ?_) (bm 14 4095) rfl rfl (by kernel_rfl) (fun _ _ _ h => h) (Or.inl ⟨by rfl, ?_⟩) ?_ ?_
 rotate_left
 ·
  intro u
  go_simp
  with_reducible rfl
 rotate_left
 ·
  simp only [pz]
  rfl
 refine pure_ (i := 12) (N := some 16) (v := ?_) (a' := ?_) (bm 14 8191) rfl rfl (by kernel_rfl) (fun _ _ _ h => h) (Or.inl ⟨by rfl, ?_⟩) ?_ ?_
 rotate_left
 ·
  intro u
  go_simp
  with_reducible rfl
 rotate_left
 ·
  simp only [pz]
  rfl
 refine last_ (i := 13) (N := none) (bm 14 16383) rfl rfl (by kernel_rfl) (by decide) (fun K hK => ?_)
 rw [if_pos (by rfl)]
 go_simp
 refine hK.out _ _ ?_
 clear hK K
 refine done_ (by kernel_rfl) ?_
 go_wp2
 go_ret
 have h1 := set_now H.out.blk H.out.good 1 (by omega) r
 have h2 := set_now (t := { t with now := t.now.set 1 r }) h1 (good_set1 H.out.good r) 2 (by omega) n
 exact Post.turn H.out HB.out (grown_drew (grown_alloc (grown_set' (grown_set _ _ _ _) _ _) _)) HM.out rfl rfl rfl (blk_alloc h2 _)
theorem remember_calls (w : World) (base g : Nat) (t : T) (rv kv : Value) (h : Tab w base g t rv kv) (hb : base ≤ w.heap.size) (r n : Int) (hm : mayF 9 r n = true) (hk : t.kept.length ≤ 1000000) :
    Calls Try.prog 104 #[.pointer (some ⟨g, 0, none⟩), .agg #[.int .i64 9, .int .i64 r, .int .i64 n]] w (Post base g w (act t 9 r n)) := by
 have e : act t 9 r n = if t.kept.length + 1 ≤ 64 then some { t with kept := t.kept ++ [t.now] } else none := rfl
 have HE := am e
 have hgd : Good { t with kept := t.kept ++ [t.now] } := by
  refine ⟨h.good.now, h.good.first, h.good.rows, fun q hq => ?_, h.good.at0, h.good.size, h.good.atS⟩
  rcases List.mem_append.1 hq with hq | hq
  ·
   exact h.good.kept q hq
  rw [List.mem_singleton.1 hq]; exact h.good.now
 have HGD := am hgd
 clear e hgd
 have f1 := h.keptC
 have f3 := h.free 75
 have hg := blk_lt h.blk
 have HN := am h.nowR
 have H := am h
 have HB := am hb
 have HK := am hk
 clear h hb hm hk
 go_enter Try.func104, Try.ntmps104
 go_wp2
 refine start_ (n := 14) (S := fun u => u.cell? ⟨g, 75, none⟩ = some kv ∧ Aside0 (u.rangeAt g 1 (nums .i64 t.now))) (ds := [10, 13]) (bm 14 0) (by kernel_rfl) rfl rfl ?_ (fun hHeld => ?_)
 case refine_1 => exact ⟨by go_simp, ⟨(World.rangeAt_drew _ _ _ _).2 (World.rangeAt_alloc HN.out _)⟩⟩
 refine pure_ (i := 0) (N := some 5) (v := ?_) (a' := ?_) (bm 14 1) rfl rfl (by kernel_rfl) (fun _ _ _ h => h) (Or.inl ⟨by rfl, ?_⟩) ?_ ?_
 rotate_left
 ·
  intro u
  go_simp
  with_reducible rfl
 rotate_left
 ·
  simp only [pz]
  rfl
 refine pure_ (i := 1) (N := some 6) (v := ?_) (a' := ?_) (bm 14 3) rfl rfl (by kernel_rfl) (fun _ _ _ h => h) (Or.inl ⟨by rfl, ?_⟩) ?_ ?_
 rotate_left
 ·
  intro u
  go_simp
  with_reducible rfl
 rotate_left
 ·
  simp only [pz]
  rfl
 refine pure_ (i := 2) (N := some 7) (v := ?_) (a' := ?_) (bm 14 7) rfl rfl (by kernel_rfl) (fun _ _ _ h => h) (Or.inl ⟨by rfl, ?_⟩) ?_ ?_
 rotate_left
 ·
  intro u
  go_simp
  with_reducible rfl
 rotate_left
 ·
  simp only [pz]
  rfl
 refine pure_ (i := 3) (N := some 8) (v := ?_) (a' := ?_) (bm 14 15) rfl rfl (by kernel_rfl) (fun _ _ _ h => h) (Or.inl ⟨by rfl, ?_⟩) ?_ ?_
 rotate_left
 ·
  intro u
  go_simp
  with_reducible rfl
 rotate_left
 ·
  simp only [pz]
  rfl
 refine take_ (i := 4) (N := some 9) (v := ?_) (a' := ?_) (bm 14 31) rfl rfl (by kernel_rfl) (fun _ _ _ h => h) (Or.inl ⟨by rfl, ?_⟩) hHeld ?_ ?_
 rotate_left
 ·
  rintro u ⟨s0, s1⟩
  go_simp
  with_reducible rfl
 rotate_left
 ·
  simp only [pz]
  rfl
 refine pure_ (i := 5) (N := some 10) (v := ?_) (a' := ?_) (bm 14 63) rfl rfl (by kernel_rfl) (fun _ _ _ h => h) (Or.inl ⟨by rfl, ?_⟩) ?_ ?_
 rotate_left
 ·
  intro u
  go_simp
  with_reducible rfl
 rotate_left
 ·
  simp only [pz]
  rfl
 refine pure_ (i := 6) (N := some 11) (v := ?_) (a' := ?_) (bm 14 127) rfl rfl (by kernel_rfl) (fun _ _ _ h => h) (Or.inl ⟨by rfl, ?_⟩) ?_ ?_
 rotate_left
 ·
  intro u
  go_simp
  with_reducible rfl
 rotate_left
 ·
  simp only [pz]
  rfl
 refine pure_ (i := 7) (N := some 12) (v := ?_) (a' := ?_) (bm 14 255) rfl rfl (by kernel_rfl) (fun _ _ _ h => h) (Or.inl ⟨by rfl, ?_⟩) ?_ ?_
 rotate_left
 ·
  intro u
  go_simp
  with_reducible rfl
 rotate_left
 ·
  simp only [pz]
  rfl
 refine take_ (i := 8) (N := some 13) (v := .agg (nums .i64 t.now).toArray) (a' := ?_) (bm 14 511) rfl rfl (by kernel_rfl) (fun _ _ _ h => h) (load_row_y (by rfl) (.tmp 12) rfl g 1 rfl t.now H.out.good.now (fun u hu => hu.2.out)) hHeld ?_ ?_
 rotate_left
 ·
  simp only [pz]
  rfl
 refine one_ (i := 9) (N := some 14) (bm 14 1023) rfl rfl (by kernel_rfl) (by decide) (fun K hK => ?_)
 rw [if_pos (by rfl)]
 refine wp_build_row (.tmp 13) rfl t.now H.out.good.now rfl ?_
 refine hK.out _ _ ⟨by go_simp, ⟨World.rangeAt_alloc ((World.rangeAt_drew _ _ _ _).2 (World.rangeAt_alloc HN.out _)) _⟩⟩ (fun hHeld => ?_)
 clear hK K
 refine norm_ (a' := ?_) ?_ ?_
 rotate_left
 ·
  show Act.put _ (some 14) _ = _
  simp only [pz]
  rfl
 refine last_ (i := 10) (N := some 15) (bm 14 2047) rfl rfl (by kernel_rfl) (by decide) (fun K hK => ?_)
 have hBw := below_drew (below_alloc (Below.refl w.heap.size w) (.cells #[.int .i64 9, .int .i64 r, .int .i64 n] 105))
 refine Kd.R_append_step rowK (w0 := w) base (by rfl) (.tmp 9) (.tmp 14) 111 145 _ 296 rfl Try.underlying111 info145 rfl (by decide) (by decide) kv t.kept t.now (nums .i64 t.now) (fun k => k ≠ g ∧ some k ≠ rv.ownBlock) (fun _ => False) rfl rfl (row_M _ _ _ _ H.out.good.now) (fun _ h => h.elim) ?aF ?aO ?aB ?aS ?aL ?_
 case aF =>
  intro k hk
  have hk2 : w.heap.size + 1 ≤ k := by simpa using hk
  exact ⟨by omega, fun e => by have := Kd.R_lt H.out.rows k e.symm; omega⟩
 case aO => exact Kd.R_below H.out.kept hBw
 case aB => exact (below_drew (below_alloc (Below.refl w.heap.size w) _)).mono HB.out
 case aS => have := HB.out; simp; omega
 case aL => have := HK.out; omega
 intro v1 w1 ho hbb hgr hat
 have h1 := H.out.below hBw
 obtain ⟨A1, k1, rfl⟩ := Kd.R_slice ho
 have HW := hBw
 generalize (w.alloc (Obj.cells #[Value.int .i64 9, .int .i64 r, .int .i64 n] 105)).drew = W at *
 have hc1 := blk_grown (h1.blk) hgr (fun e => (h1.kept.1 g e.symm).1 rfl)
 have hc3 : w1.cell? ⟨g, 75, none⟩ = some kv := by rw [blk_cell hc1, List.getElem?_toArray]; exact cells_tail H.out.good 0
 have hfz : w1.frozen? ⟨g, 75, none⟩ = false := blk_frozen hc1 75
 have HO := am ho
 have HGR := am hgr
 have HAT := am hat
 have HBW := am HW
 clear ho hgr hat HW hBw hbb h1 hc1
 refine hK.out _ _ ?_
 clear hK K
 refine norm_ (a' := ?_) ?_ ?_
 rotate_left
 ·
  show Act.put _ (some 15) _ = _
  simp only [pz]
  rfl
 refine pure_ (i := 11) (N := some 16) (v := ?_) (a' := ?_) (bm 14 4095) rfl rfl (by kernel_rfl) (fun _ _ _ h => h) (Or.inl ⟨by rfl, ?_⟩) ?_ ?_
 rotate_left
 ·
  intro u
  go_simp
  with_reducible rfl
 rotate_left
 ·
  simp only [pz]
  rfl
 refine pure_ (i := 12) (N := some 17) (v := ?_) (a' := ?_) (bm 14 8191) rfl rfl (by kernel_rfl) (fun _ _ _ h => h) (Or.inl ⟨by rfl, ?_⟩) ?_ ?_
 rotate_left
 ·
  intro u
  go_simp
  with_reducible rfl
 rotate_left
 ·
  simp only [pz]
  rfl
 refine last_ (i := 13) (N := none) (bm 14 16383) rfl rfl (by kernel_rfl) (by decide) (fun K hK => ?_)
 rw [if_pos (by rfl)]
 go_simp
 refine hK.out _ _ ?_
 clear hK K
 refine done_ (by kernel_rfl) ?_
 go_wp2
 go_ret
 have hlen : (t.kept ++ [t.now]).length = t.kept.length + 1 := by simp
 have ho := HO.out
 have hat := HAT.out
 rw [hlen] at ho hat
 have hT := H.out.kept_app HBW.out HGR.out hat ho HGD.out
 have hBel : Below base w (w1.setCell ⟨g, 75, none⟩ (.slice A1 (t.kept.length + 1) k1)) :=
   (((HBW.out.mono HB.out).grown HGR.out (by have := HB.out; have := HBW.out.size; omega) (fun k hk => Kd.R_base H.out.kept k hk)).setCell H.out.lo _)
 have he := HE.out
 by_cases c : t.kept.length + 1 ≤ 64
 ·
  rw [if_pos c] at he
  rw [he]
  exact ⟨by rw [decide_eq_true (by omega)]; rfl, hBel, fun t' e => by cases e; exact ⟨_, _, hT⟩⟩
 rw [if_neg c] at he
 rw [he]
 exact ⟨by rw [decide_eq_false (by omega)]; rfl, hBel, fun t' e => by cases e⟩
theorem advance_calls (w : World) (base g : Nat) (t : T) (rv kv : Value) (h : Tab w base g t rv kv) (hb : base ≤ w.heap.size) (r n : Int) (hm : mayF 1 r n = true) (hk : t.rows.length ≤ 1000000) (hs : 0 ≤ t.size) :
    Calls Try.prog 96 #[.pointer (some ⟨g, 0, none⟩), .agg #[.int .i64 1, .int .i64 r, .int .i64 n]] w (Post base g w (act t 1 r n)) := by
 by_cases hn : n = 0
 ·
  subst hn
  go_enter Try.func96, Try.ntmps96
  go_wp2
  go_ret
  exact Post.turn h hb (grown_alloc (World.grownBy.refl _ _) _) hm rfl rfl rfl (blk_alloc h.blk _)
 have e : act t 1 r n = if t.now.getD 0 0 + n ≤ t.size then some { t with rows := t.rows ++ [t.now], now := t.now.set 0 (t.now.getD 0 0 + n) } else none := by
  show (if n = 0 then _ else _) = _
  rw [if_neg hn]
 obtain ⟨hn1, hn2⟩ := may_ne hn
 have hgd : Good { t with rows := t.rows ++ [t.now] } := by
  refine ⟨h.good.now, h.good.first, fun q hq => ?_, h.good.kept, h.good.at0, h.good.size, h.good.atS⟩
  rcases List.mem_append.1 hq with hq | hq
  ·
   exact h.good.rows q hq
  rw [List.mem_singleton.1 hq]; exact h.good.now
 have hat0 := h.good.at0
 have hat1 := h.good.atS hs
 have hat2 := h.good.size
 have hnn := may_n hm rfl
 have f1 := h.rowsC
 have f3 := h.free 0
 have hg := blk_lt h.blk
 have HN := am h.nowR
 have f5 : w.cell? ⟨g, 1, none⟩ = some (.int .i64 (t.now.getD 0 0)) := h.now 0 (by omega)
 obtain ⟨x, hx⟩ : ∃ x, t.now.getD 0 0 = x := ⟨_, rfl⟩
 rw [hx] at hat0 hat1 e f5
 have HX := am hx
 have HE := am e
 have HGD := am hgd
 have hwr : IntKind.i64.wrap (x + n) = x + n := by rw [IntKind.wrap_i64]; omega
 have HWR := am hwr
 have HSUM := am (show 0 ≤ x + n from by omega)
 have H := am h
 have HB := am hb
 have HK := am hk
 have HM := am hm
 clear h hb hm hk hs hn hat0 hat1 hat2 hnn e hgd hx hwr
 go_enter Try.func96, Try.ntmps96
 go_wp2
 refine start_ (n := 14) (S := fun u => u.cell? ⟨g, 0, none⟩ = some rv ∧ Aside0 (u.rangeAt g 1 (nums .i64 t.now))) (ds := [10, 13]) (bm 14 0) (by kernel_rfl) rfl rfl ?_ (fun hHeld => ?_)
 case refine_1 => exact ⟨by go_simp, ⟨(World.rangeAt_drew _ _ _ _).2 (World.rangeAt_alloc HN.out _)⟩⟩
 refine pure_ (i := 0) (N := some 8) (v := ?_) (a' := ?_) (bm 14 1) rfl rfl (by kernel_rfl) (fun _ _ _ h => h) (Or.inl ⟨by rfl, ?_⟩) ?_ ?_
 rotate_left
 ·
  intro u
  go_simp
  with_reducible rfl
 rotate_left
 ·
  simp only [pz]
  rfl
 refine pure_ (i := 1) (N := some 9) (v := ?_) (a' := ?_) (bm 14 3) rfl rfl (by kernel_rfl) (fun _ _ _ h => h) (Or.inl ⟨by rfl, ?_⟩) ?_ ?_
 rotate_left
 ·
  intro u
  go_simp
  with_reducible rfl
 rotate_left
 ·
  simp only [pz]
  rfl
 refine pure_ (i := 2) (N := some 10) (v := ?_) (a' := ?_) (bm 14 7) rfl rfl (by kernel_rfl) (fun _ _ _ h => h) (Or.inl ⟨by rfl, ?_⟩) ?_ ?_
 rotate_left
 ·
  intro u
  go_simp
  with_reducible rfl
 rotate_left
 ·
  simp only [pz]
  rfl
 refine pure_ (i := 3) (N := some 11) (v := ?_) (a' := ?_) (bm 14 15) rfl rfl (by kernel_rfl) (fun _ _ _ h => h) (Or.inl ⟨by rfl, ?_⟩) ?_ ?_
 rotate_left
 ·
  intro u
  go_simp
  with_reducible rfl
 rotate_left
 ·
  simp only [pz]
  rfl
 refine take_ (i := 4) (N := some 12) (v := ?_) (a' := ?_) (bm 14 31) rfl rfl (by kernel_rfl) (fun _ _ _ h => h) (Or.inl ⟨by rfl, ?_⟩) hHeld ?_ ?_
 rotate_left
 ·
  rintro u ⟨s0, s1⟩
  go_simp
  with_reducible rfl
 rotate_left
 ·
  simp only [pz]
  rfl
 refine pure_ (i := 5) (N := some 13) (v := ?_) (a' := ?_) (bm 14 63) rfl rfl (by kernel_rfl) (fun _ _ _ h => h) (Or.inl ⟨by rfl, ?_⟩) ?_ ?_
 rotate_left
 ·
  intro u
  go_simp
  with_reducible rfl
 rotate_left
 ·
  simp only [pz]
  rfl
 refine pure_ (i := 6) (N := some 14) (v := ?_) (a' := ?_) (bm 14 127) rfl rfl (by kernel_rfl) (fun _ _ _ h => h) (Or.inl ⟨by rfl, ?_⟩) ?_ ?_
 rotate_left
 ·
  intro u
  go_simp
  with_reducible rfl
 rotate_left
 ·
  simp only [pz]
  rfl
 refine pure_ (i := 7) (N := some 15) (v := ?_) (a' := ?_) (bm 14 255) rfl rfl (by kernel_rfl) (fun _ _ _ h => h) (Or.inl ⟨by rfl, ?_⟩) ?_ ?_
 rotate_left
 ·
  intro u
  go_simp
  with_reducible rfl
 rotate_left
 ·
  simp only [pz]
  rfl
 refine take_ (i := 8) (N := some 16) (v := .agg (nums .i64 t.now).toArray) (a' := ?_) (bm 14 511) rfl rfl (by kernel_rfl) (fun _ _ _ h => h) (load_row_y (by rfl) (.tmp 15) rfl g 1 rfl t.now H.out.good.now (fun u hu => hu.2.out)) hHeld ?_ ?_
 rotate_left
 ·
  simp only [pz]
  rfl
 refine one_ (i := 9) (N := some 17) (bm 14 1023) rfl rfl (by kernel_rfl) (by decide) (fun K hK => ?_)
 rw [if_pos (by rfl)]
 refine wp_build_row (.tmp 16) rfl t.now H.out.good.now rfl ?_
 refine hK.out _ _ ⟨by go_simp, ⟨World.rangeAt_alloc ((World.rangeAt_drew _ _ _ _).2 (World.rangeAt_alloc HN.out _)) _⟩⟩ (fun hHeld => ?_)
 clear hK K
 refine norm_ (a' := ?_) ?_ ?_
 rotate_left
 ·
  show Act.put _ (some 17) _ = _
  simp only [pz]
  rfl
 refine last_ (i := 10) (N := some 18) (bm 14 2047) rfl rfl (by kernel_rfl) (by decide) (fun K hK => ?_)
 have hBw := below_drew (below_alloc (Below.refl w.heap.size w) (.cells #[.int .i64 1, .int .i64 r, .int .i64 n] 105))
 refine Kd.R_append_step rowK (w0 := w) base (by rfl) (.tmp 12) (.tmp 17) 111 145 _ 296 rfl Try.underlying111 info145 rfl (by decide) (by decide) rv t.rows t.now (nums .i64 t.now) (fun k => k ≠ g ∧ some k ≠ kv.ownBlock) (fun _ => False) rfl rfl (row_M _ _ _ _ H.out.good.now) (fun _ h => h.elim) ?aF ?aO ?aB ?aS ?aL ?_
 case aF =>
  intro k hk
  have hk2 : w.heap.size + 1 ≤ k := by simpa using hk
  exact ⟨by omega, fun e => by have := Kd.R_lt H.out.kept k e.symm; omega⟩
 case aO => exact Kd.R_below H.out.rows hBw
 case aB => exact (below_drew (below_alloc (Below.refl w.heap.size w) _)).mono HB.out
 case aS => have := HB.out; simp; omega
 case aL => have := HK.out; omega
 intro v1 w1 ho hbb hgr hat
 have h1 := H.out.below hBw
 obtain ⟨A1, k1, rfl⟩ := Kd.R_slice ho
 have HW := hBw
 have hbox : (w.alloc (Obj.cells #[Value.int .i64 1, .int .i64 r, .int .i64 n] 105)).drew.heap[w.heap.size]? = some (.cells #[Value.int .i64 1, .int .i64 r, .int .i64 n] 105 (0, 0)) := blk_new w _
 generalize (w.alloc (Obj.cells #[Value.int .i64 1, .int .i64 r, .int .i64 n] 105)).drew = W at *
 have hbox1 := blk_grown hbox hgr (fun e => by have := Kd.R_lt H.out.rows _ e.symm; omega)
 have hc1 := blk_grown (h1.blk) hgr (fun e => (h1.rows.1 g e.symm).1 rfl)
 have hc3 : w1.cell? ⟨g, 0, none⟩ = some rv := by rw [blk_cell hc1]; rfl
 have hfz : w1.frozen? ⟨g, 0, none⟩ = false := blk_frozen hc1 0
 have HO := am ho
 have HGR := am hgr
 have HAT := am hat
 have HBW := am HW
 have HBOX := am hbox1
 clear ho hgr hat HW hBw hbb h1 hc1 hbox hbox1
 refine hK.out _ _ ?_
 clear hK K
 refine norm_ (a' := ?_) ?_ ?_
 rotate_left
 ·
  show Act.put _ (some 18) _ = _
  simp only [pz]
  rfl
 refine pure_ (i := 11) (N := some 19) (v := ?_) (a' := ?_) (bm 14 4095) rfl rfl (by kernel_rfl) (fun _ _ _ h => h) (Or.inl ⟨by rfl, ?_⟩) ?_ ?_
 rotate_left
 ·
  intro u
  go_simp
  with_reducible rfl
 rotate_left
 ·
  simp only [pz]
  rfl
 refine pure_ (i := 12) (N := some 20) (v := ?_) (a' := ?_) (bm 14 8191) rfl rfl (by kernel_rfl) (fun _ _ _ h => h) (Or.inl ⟨by rfl, ?_⟩) ?_ ?_
 rotate_left
 ·
  intro u
  go_simp
  with_reducible rfl
 rotate_left
 ·
  simp only [pz]
  rfl
 refine last_ (i := 13) (N := none) (bm 14 16383) rfl rfl (by kernel_rfl) (by decide) (fun K hK => ?_)
 rw [if_pos (by rfl)]
 go_simp
 refine hK.out _ _ ?_
 clear hK K
 refine done_ (by kernel_rfl) ?_
 have hlen : (t.rows ++ [t.now]).length = t.rows.length + 1 := by simp
 have ho := HO.out
 have hat := HAT.out
 rw [hlen] at ho hat
 have hT := H.out.rows_app HBW.out HGR.out hat ho HGD.out
 have hBel : Below base w (w1.setCell ⟨g, 0, none⟩ (.slice A1 (t.rows.length + 1) k1)) :=
   (((HBW.out.mono HB.out).grown HGR.out (by have := HB.out; have := HBW.out.size; omega) (fun k hk => Kd.R_base H.out.rows k hk)).setCell H.out.lo _)
 have hbox : (w1.setCell ⟨g, 0, none⟩ (.slice A1 (t.rows.length + 1) k1)).heap[w.heap.size]? = some (.cells #[Value.int .i64 1, .int .i64 r, .int .i64 n] 105 (0, 0)) := blk_far HBOX.out (by show w.heap.size ≠ g; omega) _
 clear ho hat hlen HO HGR HAT HBW HBOX hHeld hc3 hfz f1 f3 f5 HN hg
 have HBL := am hBel
 have HT := am hT
 have hle : base ≤ (w1.setCell ⟨g, 0, none⟩ (.slice A1 (t.rows.length + 1) k1)).heap.size := by have := hBel.size; have := HB.out; omega
 have HLE := am hle
 have c1 : (w1.setCell ⟨g, 0, none⟩ (.slice A1 (t.rows.length + 1) k1)).cell? ⟨g, 1, none⟩ = some (.int .i64 x) := by rw [← HX.out]; exact hT.now 0 (by omega)
 have c2 : (w1.setCell ⟨g, 0, none⟩ (.slice A1 (t.rows.length + 1) k1)).cell? ⟨g, 76, none⟩ = some (.int .i64 t.size) := hT.size
 have c3 := hT.free 1
 have c4 : (w1.setCell ⟨g, 0, none⟩ (.slice A1 (t.rows.length + 1) k1)).cell? ⟨w.heap.size, 2, none⟩ = some (.int .i64 n) := by rw [blk_cell hbox]; rfl
 clear hBel hT hle hbox
 generalize (w1.setCell ⟨g, 0, none⟩ (.slice A1 (t.rows.length + 1) k1)) = w2 at *
 generalize Value.slice A1 (t.rows.length + 1) k1 = v1 at *
 have hwr := HWR.out
 have hw64 : wrap64 (x + n) = x + n := (i64_w _).symm.trans hwr
 go_wp2
 refine still_tail 11 (by kernel_rfl) (by kernel_rfl) ?_
 simp only [List.take_succ_cons, List.take_zero, List.drop_succ_cons, List.drop_zero]
 repeat still_step
 refine wpStill_nil ?_
 go_wp2
 go_quiet (fail)
 go_wp2
 go_ret
 show Post base g w (act t 1 r n) (.returned (.bool (decide (x + n ≤ t.size)))) _
 have h1 := set_now HT.out.blk HT.out.good 0 (by omega) (x + n)
 have he := HE.out
 have hgr : w2.grownBy ((w2.setCell ⟨g, 1, none⟩ (.int .i64 (x + n))).drew.drewN nq) (some g) := grown_below' (grown_drew (grown_set _ _ _ _)) (pw_below_drewN (Below.refl _ _) _)
 have hb2 : Below base w ((w2.setCell ⟨g, 1, none⟩ (.int .i64 (x + n))).drew.drewN nq) := HBL.out.trans (below_grown hgr HLE.out HT.out.lo)
 by_cases c : x + n ≤ t.size
 ·
  rw [if_pos c] at he
  rw [he, decide_eq_true c]
  refine ⟨rfl, hb2, fun t' e => ?_⟩
  have e' := e
  cases e
  exact ⟨_, _, HT.out.turn hgr (good_act H.out.good HM.out he) h1 rfl rfl⟩
 rw [if_neg c] at he
 rw [he, decide_eq_false c]
 exact ⟨rfl, hb2, fun t' e => by cases e⟩
theorem recall_none (w : World) (base g : Nat) (t : T) (rv kv : Value) (h : Tab w base g t rv kv) (hb : base ≤ w.heap.size) (r n : Int) (hm : mayF 10 r n = true) (hk : t.kept = []) :
    Calls Try.prog 105 #[.pointer (some ⟨g, 0, none⟩), .agg #[.int .i64 10, .int .i64 r, .int .i64 n]] w (Post base g w (act t 10 r n)) := by
 have e : act t 10 r n = none := by
  show (if t.kept = [] then none else _) = _
  rw [if_pos hk]
 have HE := am e
 have hk2 := h.kept
 rw [hk] at hk2
 obtain ⟨A, c, rfl⟩ := Kd.R_slice hk2
 have f1 := h.keptC
 have hg := blk_lt h.blk
 have H := am h
 have HB := am hb
 clear h hb hm hk e hk2
 go_enter Try.func105, Try.ntmps105
 go_wp2
 go_ret
 exact Post.false ((below_alloc (Below.refl w.heap.size w) _).mono HB.out) HE.out
set_option maxHeartbeats 1000000 in
theorem recall_some (w : World) (base g : Nat) (t : T) (rv kv : Value) (h : Tab w base g t rv kv) (hb : base ≤ w.heap.size) (r n : Int) (hm : mayF 10 r n = true) (m : Nat) (hk : t.kept.length = m + 1) (hmm : m ≤ 1000000) :
    Calls Try.prog 105 #[.pointer (some ⟨g, 0, none⟩), .agg #[.int .i64 10, .int .i64 r, .int .i64 n]] w (Post base g w (act t 10 r n)) := by
 have hne : t.kept ≠ [] := fun e => by rw [e] at hk; cases hk
 have e : act t 10 r n = some { t with now := (t.kept.getLastD []).set 0 (t.now.getD 0 0), kept := t.kept.dropLast } := by
  show (if t.kept = [] then none else _) = _
  rw [if_neg hne]
 have hgd := good_act h.good hm e
 obtain ⟨l, hl⟩ : ∃ l, t.kept.getLastD [] = l := ⟨_, rfl⟩
 have hl37 : l.length = 37 := by rw [← hl]; exact h.good.kept _ (getLastD_mem hne)
 have hK := h.kept
 obtain ⟨A, c, hkv⟩ := Kd.R_slice hK
 rw [hk] at hkv
 subst hkv
 have hrd := Kd.R_reads' hK
 obtain ⟨ad, rfl⟩ : ∃ ad, A = some ad := by
   obtain ⟨ad, e, _⟩ := hrd.2.2.2.2 (by omega)
   exact ⟨ad, e⟩
 obtain ⟨b, rfl⟩ := Kd.R_head hK
 obtain ⟨cs, hcl, hM, hcc, hcf⟩ := Kd.R_elem hK ([] : Row) (m : Int) (by omega) (by omega)
 have hlm : t.kept.getD (m : Int).toNat [] = l := by
  rw [Int.toNat_natCast, ← hl, List.getLastD_eq_getLast?, List.getLast?_eq_getElem?, hk, Nat.add_sub_cancel, List.getD_eq_getElem?_getD]
 rw [hlm] at hM
 obtain ⟨_, rfl⟩ := row_K (rowK.K_of_M hM)
 have hra : w.rangeAt b (m * 37) (nums .i64 l) := fun j v hv => by
   have := hcc j v hv
   rwa [Int.toNat_natCast] at this
 have hbg : b ≠ g := (hK.1 b rfl).1
 have hT := Kd.R_take (m := m) hK (by omega)
 have hdl : t.kept.take m = t.kept.dropLast := by rw [List.dropLast_eq_take, hk, Nat.add_sub_cancel]
 rw [hdl] at hT
 have hix : ∀ W : World, (Instr.indexAt 111 (.slice (some ⟨b, 0, none⟩) (m + 1) c) (.int .i64 (m : Int))).run Try.prog W = .ok (.pointer (some ⟨b, m * 37, none⟩)) W := fun W => by
   have h2 : Try.prog.elem 111 = 145 := by kernel_rfl
   have h3 : (sizeOf 145).run Try.prog W = .ok 37 W := by kernel_rfl
   rw [run_indexAt_slice (P := Try.prog) W _ _ _ _ _ _ (by rw [h2]; exact Try.underlying111), if_pos (by omega), h2, h3]
   simp only [Result.andThen, Int.toNat_natCast, Addr.add_mid, Nat.zero_add]
 have hsl : ∀ W : World, (Instr.slice 111 (.slice (some ⟨b, 0, none⟩) (m + 1) c) none (some (.int .i64 (m : Int))) none).run Try.prog W = .ok (.slice (some ⟨b, 0, none⟩) m c) W := fun W => by
   obtain ⟨i0, hi, _⟩ := Option.map_eq_some_iff.1 info145
   have := cut_to (P := Try.prog) 111 145 .i64 Try.underlying111 hi (some ⟨b, 0, none⟩) (m + 1) c (m : Int) (by omega) (by omega) hrd.2.1 W
   rwa [Int.toNat_natCast] at this
 have f1 := h.keptC
 have f3 := h.free 75
 have hg := blk_lt h.blk
 have hblt := Kd.R_lt hK b rfl
 have f5 : w.cell? ⟨g, 1, none⟩ = some (.int .i64 (t.now.getD 0 0)) := h.now 0 (by omega)
 obtain ⟨x, hx⟩ : ∃ x, t.now.getD 0 0 = x := ⟨_, rfl⟩
 rw [hx] at f5
 rw [hl, hx] at e
 have HX := am hx
 have HE := am e
 have HT := am hT
 have HBG := am hbg
 have HRA := am hra
 have HGD := am hgd
 have hgd2 : Good { t with now := l.set 0 x, kept := t.kept.dropLast } := by rw [← hl, ← hx]; exact hgd
 have HGD2 := am hgd2
 clear hgd2
 have HL37 := am hl37
 have H := am h
 have HB := am hb
 have HMM := am hmm
 have hmw : IntKind.i64.wrap (m : Int) = m := by rw [IntKind.wrap_i64]; omega
 have HL := am hl
 clear h hb hm hk hmm hne e hgd hl hK hrd hcl hM hcc hcf hlm hra hbg hT hdl hx hl37 HL
 go_enter Try.func105, Try.ntmps105
 go_wp2
 refine start_ (n := 14) (S := fun u => u.cell? ⟨g, 75, none⟩ = some (.slice (some ⟨b, 0, none⟩) (m + 1) c) ∧ Aside0 (u.rangeAt b (m * 37) (nums .i64 l))) (ds := [13]) (bm 14 0) (by kernel_rfl) rfl rfl ?_ (fun hHeld => ?_)
 case refine_1 => exact ⟨by go_simp, ⟨(World.rangeAt_drew _ _ _ _).2 (World.rangeAt_alloc HRA.out _)⟩⟩
 refine pure_ (i := 0) (N := some 12) (v := ?_) (a' := ?_) (bm 14 1) rfl rfl (by kernel_rfl) (fun _ _ _ h => h) (Or.inl ⟨by rfl, ?_⟩) ?_ ?_
 rotate_left
 ·
  intro u
  go_simp
  with_reducible rfl
 rotate_left
 ·
  simp only [pz]
  rfl
 refine pure_ (i := 1) (N := some 13) (v := ?_) (a' := ?_) (bm 14 3) rfl rfl (by kernel_rfl) (fun _ _ _ h => h) (Or.inl ⟨by rfl, ?_⟩) ?_ ?_
 rotate_left
 ·
  intro u
  go_simp
  with_reducible rfl
 rotate_left
 ·
  simp only [pz]
  rfl
 refine pure_ (i := 2) (N := some 14) (v := ?_) (a' := ?_) (bm 14 7) rfl rfl (by kernel_rfl) (fun _ _ _ h => h) (Or.inl ⟨by rfl, ?_⟩) ?_ ?_
 rotate_left
 ·
  intro u
  go_simp
  with_reducible rfl
 rotate_left
 ·
  simp only [pz]
  rfl
 refine take_ (i := 3) (N := some 15) (v := ?_) (a' := ?_) (bm 14 15) rfl rfl (by kernel_rfl) (fun _ _ _ h => h) (Or.inl ⟨by rfl, ?_⟩) hHeld ?_ ?_
 rotate_left
 ·
  rintro u ⟨s0, s1⟩
  go_simp
  with_reducible rfl
 rotate_left
 ·
  simp only [pz]
  rfl
 refine pure_ (i := 4) (N := some 16) (v := ?_) (a' := ?_) (bm 14 31) rfl rfl (by kernel_rfl) (fun _ _ _ h => h) (Or.inl ⟨by rfl, ?_⟩) ?_ ?_
 rotate_left
 ·
  intro u
  go_simp
  with_reducible rfl
 rotate_left
 ·
  simp only [pz]
  rfl
 refine pure_ (i := 5) (N := some 17) (v := ?_) (a' := ?_) (bm 14 63) rfl rfl (by kernel_rfl) (fun _ _ _ h => h) (Or.inl ⟨by rfl, ?_⟩) ?_ ?_
 rotate_left
 ·
  intro u
  go_simp
  with_reducible rfl
 rotate_left
 ·
  simp only [pz]
  rfl
 refine pure_ (i := 6) (N := some 18) (v := ?_) (a' := ?_) (bm 14 127) rfl rfl (by kernel_rfl) (fun _ _ _ h => h) (Or.inl ⟨by rfl, ?_⟩) ?_ ?_
 rotate_left
 ·
  intro u
  go_simp
  with_reducible rfl
 rotate_left
 ·
  simp only [pz]
  rfl
 refine take_ (i := 7) (N := some 19) (v := ?_) (a' := ?_) (bm 14 255) rfl rfl (by kernel_rfl) (fun _ _ _ h => h) (Or.inl ⟨by rfl, ?_⟩) hHeld ?_ ?_
 rotate_left
 ·
  rintro u ⟨s0, s1⟩
  go_simp
  with_reducible rfl
 rotate_left
 ·
  simp only [pz]
  rfl
 refine pure_ (i := 8) (N := some 20) (v := ?_) (a' := ?_) (bm 14 511) rfl rfl (by kernel_rfl) (fun _ _ _ h => h) (Or.inl ⟨by rfl, ?_⟩) ?_ ?_
 rotate_left
 ·
  intro u
  go_simp
  with_reducible rfl
 rotate_left
 ·
  simp only [pz]
  rfl
 refine pure_ (i := 9) (N := some 21) (v := ?_) (a' := ?_) (bm 14 1023) rfl rfl (by kernel_rfl) (fun _ _ _ h => h) (Or.inl ⟨by rfl, ?_⟩) ?_ ?_
 rotate_left
 ·
  intro u
  go_simp
  with_reducible rfl
 rotate_left
 ·
  simp only [pz]
  rfl
 refine pure_ (i := 10) (N := some 22) (v := ?_) (a' := ?_) (bm 14 2047) rfl rfl (by kernel_rfl) (fun _ _ _ h => h) (Or.inl ⟨by rfl, ?_⟩) ?_ ?_
 rotate_left
 ·
  intro u
  go_simp
  with_reducible rfl
 rotate_left
 ·
  simp only [pz]
  rfl
 refine take_ (i := 11) (N := some 23) (v := .agg (nums .i64 l).toArray) (a' := ?_) (bm 14 4095) rfl rfl (by kernel_rfl) (fun _ _ _ h => h) (load_row_y (by rfl) (.tmp 22) rfl b (m * 37) rfl l HL37.out (fun u hu => hu.2.out)) hHeld ?_ ?_
 rotate_left
 ·
  simp only [pz]
  rfl
 refine one_ (i := 12) (N := some 5) (bm 14 8191) rfl rfl (by kernel_rfl) (by decide) (fun K hK => ?_)
 rw [if_pos (by rfl)]
 refine alloc_rowK rowTy rfl ?_
 refine hK.out _ _ ⟨by go_simp, ⟨World.rangeAt_alloc ((World.rangeAt_drew _ _ _ _).2 (World.rangeAt_alloc HRA.out _)) _⟩⟩ (fun hHeld => ?_)
 clear hK K
 refine norm_ (a' := ?_) ?_ ?_
 rotate_left
 ·
  show Act.put _ (some 5) _ = _
  simp only [pz]
  rfl
 refine last_ (i := 13) (N := none) (bm 14 16383) rfl rfl (by kernel_rfl) (by decide) (fun K hK => ?_)
 rw [if_pos (by rfl)]
 have hBw := below_drew (below_alloc (Below.refl w.heap.size w) (.cells #[.int .i64 10, .int .i64 r, .int .i64 n] 105))
 generalize (w.alloc (Obj.cells #[Value.int .i64 10, .int .i64 r, .int .i64 n] 105)).drew = W at *
 obtain ⟨hb1, hb2⟩ := box_new (tr := 145) (w := W) (g := W.heap.size) rfl HL37.out
 refine store_rowK rowTy (.tmp 5) (.tmp 23) rfl W.heap.size 0 l HL37.out rfl rfl (there_of_blk (blk_new W _) (by rw [List.size_toArray, nums_length, zrow_len]; decide)) ?_
 generalize (W.alloc (.cells (nums .i64 zrow).toArray 145)).setCells W.heap.size 0 (nums .i64 l) = w3 at *
 have hB3 : Below w.heap.size w w3 := below_step hBw hb2
 have hgx : g ≠ W.heap.size := by have := hBw.size; omega
 refine hK.out _ _ ?_
 clear hK K
 refine done_ (by kernel_rfl) ?_
 have HX0W := am (show w.heap.size ≤ W.heap.size from hBw.size)
 generalize W.heap.size = x0 at *
 have hxg : x0 ≠ g := fun e => hgx e.symm
 have hT3 := H.out.below hB3
 have HB3 := am hB3
 have HX0 := am hb1
 have d1 := hT3.keptC
 have d2 := hT3.free 75
 have HT3 := am hT3
 have HK3 := am (Kd.R_below HT.out hB3)
 have d3 : w3.cell? ⟨g, 1, none⟩ = some (.int .i64 x) := by rw [← HX.out]; exact hT3.now 0 (by omega)
 have d4 : w3.cell? ⟨x0, 0, none⟩ = some (.int .i64 (l.getD 0 0)) := by rw [blk_cell hb1, List.getElem?_toArray]; exact nums_get (by rw [HL37.out]; decide)
 have d5 : w3.frozen? ⟨x0, 0, none⟩ = false := blk_frozen hb1 0
 have hxg : x0 ≠ g := fun e => hgx e.symm
 have hgk : Good { t with kept := t.kept.dropLast } := ⟨hT3.good.now, hT3.good.first, hT3.good.rows, fun q hq => hT3.good.kept q (List.dropLast_subset _ hq), hT3.good.at0, hT3.good.size, hT3.good.atS⟩
 have HGK := am hgk
 have g1 := set_kept hT3.blk hT3.good (.slice (some ⟨b, 0, none⟩) m c) t.kept.dropLast
 have g2 := blk_drew (blk_far g1 (p := ⟨x0, 0, none⟩) hgx (.int .i64 x))
 have x1 : ((w3.setCell ⟨g, 75, none⟩ (.slice (some ⟨b, 0, none⟩) m c)).setCell ⟨x0, 0, none⟩ (.int .i64 x)).drew.heap[x0]? = some (.cells (nums .i64 (l.set 0 x)).toArray 145 (0, 0)) :=
   blk_drew (blk_put (blk_far hb1 (p := ⟨g, 75, none⟩) hxg _) 0 _ (by rw [List.setIfInBounds_toArray, nums, nums, List.map_set]))
 have HC := am (range_of_blk x1)
 have HTH := am (there_of_blk (o := 1) (n := 37) g2 (by rw [List.size_toArray, cells_len hgk]; decide))
 have HG2 := am g2
 have HLS := am (show (l.set 0 x).length = 37 by rw [List.length_set]; exact HL37.out)
 clear hB3 hb1 hb2 hBw hT3 hHeld f1 f3 f5 HRA g1 g2 x1 hgk
 go_wp2
 refine still_tail 14 (by kernel_rfl) (by kernel_rfl) ?_
 simp only [List.take_succ_cons, List.take_zero, List.drop_succ_cons, List.drop_zero]
 repeat still_step
 refine wpStill_nil ?_
 go_wp2_with (first
   | (refine load_rowW rowTy rfl (.tmp 5) rfl x0 0 rfl (l.set 0 x) HLS.out HC.out ?_)
   | (refine store_rowW rowTy rfl (.tmp 47) (.tmp 45) rfl g 1 (l.set 0 x) HLS.out rfl rfl HTH.out ?_))
 go_ret
 have e := HE.out
 rw [e]
 have hb3 := HB3.out
 have hx0 : w.heap.size ≤ x0 := HX0W.out
 have hbel : Below base w (((w3.setCell ⟨g, 75, none⟩ (.slice (some ⟨b, 0, none⟩) m c)).setCell ⟨x0, 0, none⟩ (.int .i64 x)).drew.setCells g 1 (nums .i64 (l.set 0 x))) := by
  have h1 : Below base w ((w3.setCell ⟨g, 75, none⟩ (.slice (some ⟨b, 0, none⟩) m c)).setCell ⟨x0, 0, none⟩ (.int .i64 x)).drew :=
    below_drew (((hb3.mono HB.out).setCell H.out.lo _).setCell (Nat.le_trans HB.out hx0) _)
  exact h1.trans (below_grown (grown_setCells _ _ _ _) (Nat.le_trans HB.out h1.size) H.out.lo)
 refine ⟨rfl, hbel, fun t' e2 => ?_⟩
 cases e2
 have hmv : ∀ k, k ≠ g → k < w.heap.size → (((w3.setCell ⟨g, 75, none⟩ (.slice (some ⟨b, 0, none⟩) m c)).setCell ⟨x0, 0, none⟩ (.int .i64 x)).drew.setCells g 1 (nums .i64 (l.set 0 x))).heap[k]? = w.heap[k]? := fun k hk hlt => by
   rw [setCells_far _ _ _ hk]
   show ((w3.setCell ⟨g, 75, none⟩ _).setCell ⟨x0, 0, none⟩ _).heap[k]? = _
   rw [Below.heap_setCell _ _ _ _ (show k ≠ x0 by omega), Below.heap_setCell _ _ _ _ (show k ≠ g from hk)]
   exact hb3.block k hlt
 refine ⟨_, _, HGD2.out, H.out.lo, set_nowAll HG2.out HGK.out _ HLS.out, ?_, ?_⟩
 ·
  exact Kd.R_step H.out.rows (fun k hk hlt => hmv k hk.1 hlt)
 exact Kd.R_step HT.out (fun k hk hlt => hmv k hk.1 hlt)
theorem recall_calls (w : World) (base g : Nat) (t : T) (rv kv : Value) (h : Tab w base g t rv kv) (hb : base ≤ w.heap.size) (r n : Int) (hm : mayF 10 r n = true) (hk : t.kept.length ≤ 1000000) :
    Calls Try.prog 105 #[.pointer (some ⟨g, 0, none⟩), .agg #[.int .i64 10, .int .i64 r, .int .i64 n]] w (Post base g w (act t 10 r n)) := by
 rcases Nat.eq_zero_or_pos t.kept.length with h0 | h0
 ·
  exact recall_none w base g t rv kv h hb r n hm (List.eq_nil_of_length_eq_zero h0)
 obtain ⟨m, e⟩ : ∃ m, t.kept.length = m + 1 := ⟨t.kept.length - 1, by omega⟩
 exact recall_some w base g t rv kv h hb r n hm m e (by omega)
def waysV : Array Value := #[.func (.func 95) #[] #[], .func (.func 96) #[] #[], .func (.func 97) #[] #[], .func (.func 98) #[] #[], .func (.func 99) #[] #[], .func (.func 100) #[] #[],
  .func (.func 101) #[] #[], .func (.func 102) #[] #[], .func (.func 103) #[] #[], .func (.func 104) #[] #[], .func (.func 105) #[] #[]]
theorem ways_calls (w : World) : Calls Try.prog 93 #[] w fun e w' => e = .returned (.agg waysV) ∧ Below w.heap.size w w' := by
 go_enter Try.func93, Try.ntmps93
 go_wp2
 exact bodyPost_ret (v := .agg waysV) (results_single rfl (.cell w.heap.size 166 waysV (0, 0) _ rfl (blk_new w _) Try.underlying166 rfl (by kernel_rfl) .nil)) rfl ⟨rfl, below_alloc (Below.refl _ _) _⟩
theorem do_0 (w : World) (base g : Nat) (t : T) (rv kv : Value) (h : Tab w base g t rv kv) (hb : base ≤ w.heap.size) (r n : Int) (hm : mayF 0 r n = true) (hl : t.rows.length ≤ 1000000 ∧ t.kept.length ≤ 1000000 ∧ 0 ≤ t.size) :
    Calls Try.prog 85 #[.pointer (some ⟨g, 0, none⟩), .agg #[.int .i64 0, .int .i64 r, .int .i64 n]] w (Post base g w (act t 0 r n)) := by
 obtain ⟨R, hR⟩ : ∃ R, act t 0 r n = R := ⟨_, rfl⟩
 rw [hR]
 have HR := am hR
 have HL := am hl
 clear hR hl
 have H := am h
 have HM := am hm
 have HB := am hb
 have HB0 := am (Below.refl w.heap.size w)
 clear h hb hm
 go_enter Try.func85, Try.ntmps85
 go_wp2_with fail
 refine (cfa_Op_may.calls 0 r n true _ (by unfold cfa_Op_may.f; rw [HM.out])).mono ?_
 rintro e w1 ⟨rfl, hb1⟩
 have hbx := blk_below (blk_new w (.cells #[.int .i64 0, .int .i64 r, .int .i64 n] 105)) hb1
 have hB1 := below_step (below_alloc (Below.refl w.heap.size w) (.cells #[.int .i64 0, .int .i64 r, .int .i64 n] 105)) hb1
 have h1 := H.out.below hB1
 have c1 := h1.begun
 have c2 : w1.cell? ⟨w.heap.size, 0, none⟩ = some (.int .i64 0) := by rw [blk_cell hbx]; rfl
 have H1 := am h1
 have HBX := am hbx
 have HB1 := am hB1
 clear hb1 hbx hB1 h1
 cases hbg : t.begun <;> rw [hbg] at c1 <;> clear hbg
 all_goals
   go_wp2_with fail
   refine (ways_calls _).mono ?_
   rintro e w2 ⟨rfl, hb2⟩
   have h2 := H1.out.below hb2
   have hbx := blk_below HBX.out hb2
   have hB2 := below_step HB1.out hb2
   have d0 : w2.cell? ⟨w.heap.size, 0, none⟩ = some (.int .i64 0) := by rw [blk_cell hbx]; rfl
   have d1 : w2.cell? ⟨w.heap.size, 1, none⟩ = some (.int .i64 r) := by rw [blk_cell hbx]; rfl
   have d2 : w2.cell? ⟨w.heap.size, 2, none⟩ = some (.int .i64 n) := by rw [blk_cell hbx]; rfl
   have hlt : w.heap.size < w2.heap.size := blk_lt hbx
   have H2 := am h2
   have HB2 := am hB2
   clear hbx h2 hB2 hb2 c1 c2
   unfold waysV
   go_wp2
   refine still_tail 6 (by kernel_rfl) (by kernel_rfl) ?_
   simp only [List.take_succ_cons, List.take_zero, List.drop_succ_cons, List.drop_zero]
   repeat still_step
   refine wpStill_nil ?_
   go_wp2_with fail
   have hc := nop_calls _ base g t rv kv (H2.out.below (below_drew (below_alloc (Below.refl _ _) (.cells waysV 166)))) (by have := HB.out; have := HB2.out.size; simp; omega) r n HM.out
   rw [HR.out] at hc
   refine hc.mono ?_
   rintro e w3 ⟨rfl, hb3, hp⟩
   go_wp2
   go_ret
   exact ⟨rfl, ((below_drew (below_alloc HB2.out _)).mono HB.out).trans hb3, hp⟩
theorem do_1 (w : World) (base g : Nat) (t : T) (rv kv : Value) (h : Tab w base g t rv kv) (hb : base ≤ w.heap.size) (r n : Int) (hm : mayF 1 r n = true) (hl : t.rows.length ≤ 1000000 ∧ t.kept.length ≤ 1000000 ∧ 0 ≤ t.size) (hbg : t.begun = true) :
    Calls Try.prog 85 #[.pointer (some ⟨g, 0, none⟩), .agg #[.int .i64 1, .int .i64 r, .int .i64 n]] w (Post base g w (act t 1 r n)) := by
 obtain ⟨R, hR⟩ : ∃ R, act t 1 r n = R := ⟨_, rfl⟩
 rw [hR]
 have HR := am hR
 have HL := am hl
 clear hR hl
 have H := am h
 have HM := am hm
 have HB := am hb
 have HB0 := am (Below.refl w.heap.size w)
 clear h hb hm
 go_enter Try.func85, Try.ntmps85
 go_wp2_with fail
 refine (cfa_Op_may.calls 1 r n true _ (by unfold cfa_Op_may.f; rw [HM.out])).mono ?_
 rintro e w1 ⟨rfl, hb1⟩
 have hbx := blk_below (blk_new w (.cells #[.int .i64 1, .int .i64 r, .int .i64 n] 105)) hb1
 have hB1 := below_step (below_alloc (Below.refl w.heap.size w) (.cells #[.int .i64 1, .int .i64 r, .int .i64 n] 105)) hb1
 have h1 := H.out.below hB1
 have c1 := h1.begun
 have c2 : w1.cell? ⟨w.heap.size, 0, none⟩ = some (.int .i64 1) := by rw [blk_cell hbx]; rfl
 have H1 := am h1
 have HBX := am hbx
 have HB1 := am hB1
 clear hb1 hbx hB1 h1
 rw [hbg] at c1
 clear hbg
 all_goals
   go_wp2_with fail
   refine (ways_calls _).mono ?_
   rintro e w2 ⟨rfl, hb2⟩
   have h2 := H1.out.below hb2
   have hbx := blk_below HBX.out hb2
   have hB2 := below_step HB1.out hb2
   have d0 : w2.cell? ⟨w.heap.size, 0, none⟩ = some (.int .i64 1) := by rw [blk_cell hbx]; rfl
   have d1 : w2.cell? ⟨w.heap.size, 1, none⟩ = some (.int .i64 r) := by rw [blk_cell hbx]; rfl
   have d2 : w2.cell? ⟨w.heap.size, 2, none⟩ = some (.int .i64 n) := by rw [blk_cell hbx]; rfl
   have hlt : w.heap.size < w2.heap.size := blk_lt hbx
   have H2 := am h2
   have HB2 := am hB2
   clear hbx h2 hB2 hb2 c1 c2
   unfold waysV
   go_wp2
   refine still_tail 6 (by kernel_rfl) (by kernel_rfl) ?_
   simp only [List.take_succ_cons, List.take_zero, List.drop_succ_cons, List.drop_zero]
   repeat still_step
   refine wpStill_nil ?_
   go_wp2_with fail
   have hc := advance_calls _ base g t rv kv (H2.out.below (below_drew (below_alloc (Below.refl _ _) (.cells waysV 166)))) (by have := HB.out; have := HB2.out.size; simp; omega) r n HM.out HL.out.1 HL.out.2.2
   rw [HR.out] at hc
   refine hc.mono ?_
   rintro e w3 ⟨rfl, hb3, hp⟩
   go_wp2
   go_ret
   exact ⟨rfl, ((below_drew (below_alloc HB2.out _)).mono HB.out).trans hb3, hp⟩
theorem do_2 (w : World) (base g : Nat) (t : T) (rv kv : Value) (h : Tab w base g t rv kv) (hb : base ≤ w.heap.size) (r n : Int) (hm : mayF 2 r n = true) (hl : t.rows.length ≤ 1000000 ∧ t.kept.length ≤ 1000000 ∧ 0 ≤ t.size) :
    Calls Try.prog 85 #[.pointer (some ⟨g, 0, none⟩), .agg #[.int .i64 2, .int .i64 r, .int .i64 n]] w (Post base g w (act t 2 r n)) := by
 obtain ⟨R, hR⟩ : ∃ R, act t 2 r n = R := ⟨_, rfl⟩
 rw [hR]
 have HR := am hR
 have HL := am hl
 clear hR hl
 have H := am h
 have HM := am hm
 have HB := am hb
 have HB0 := am (Below.refl w.heap.size w)
 clear h hb hm
 go_enter Try.func85, Try.ntmps85
 go_wp2_with fail
 refine (cfa_Op_may.calls 2 r n true _ (by unfold cfa_Op_may.f; rw [HM.out])).mono ?_
 rintro e w1 ⟨rfl, hb1⟩
 have hbx := blk_below (blk_new w (.cells #[.int .i64 2, .int .i64 r, .int .i64 n] 105)) hb1
 have hB1 := below_step (below_alloc (Below.refl w.heap.size w) (.cells #[.int .i64 2, .int .i64 r, .int .i64 n] 105)) hb1
 have h1 := H.out.below hB1
 have c1 := h1.begun
 have c2 : w1.cell? ⟨w.heap.size, 0, none⟩ = some (.int .i64 2) := by rw [blk_cell hbx]; rfl
 have H1 := am h1
 have HBX := am hbx
 have HB1 := am hB1
 clear hb1 hbx hB1 h1
 cases hbg : t.begun <;> rw [hbg] at c1 <;> clear hbg
 all_goals
   go_wp2_with fail
   refine (ways_calls _).mono ?_
   rintro e w2 ⟨rfl, hb2⟩
   have h2 := H1.out.below hb2
   have hbx := blk_below HBX.out hb2
   have hB2 := below_step HB1.out hb2
   have d0 : w2.cell? ⟨w.heap.size, 0, none⟩ = some (.int .i64 2) := by rw [blk_cell hbx]; rfl
   have d1 : w2.cell? ⟨w.heap.size, 1, none⟩ = some (.int .i64 r) := by rw [blk_cell hbx]; rfl
   have d2 : w2.cell? ⟨w.heap.size, 2, none⟩ = some (.int .i64 n) := by rw [blk_cell hbx]; rfl
   have hlt : w.heap.size < w2.heap.size := blk_lt hbx
   have H2 := am h2
   have HB2 := am hB2
   clear hbx h2 hB2 hb2 c1 c2
   unfold waysV
   go_wp2
   refine still_tail 6 (by kernel_rfl) (by kernel_rfl) ?_
   simp only [List.take_succ_cons, List.take_zero, List.drop_succ_cons, List.drop_zero]
   repeat still_step
   refine wpStill_nil ?_
   go_wp2_with fail
   have hc := defCfa_calls _ base g t rv kv (H2.out.below (below_drew (below_alloc (Below.refl _ _) (.cells waysV 166)))) (by have := HB.out; have := HB2.out.size; simp; omega) r n HM.out
   rw [HR.out] at hc
   refine hc.mono ?_
   rintro e w3 ⟨rfl, hb3, hp⟩
   go_wp2
   go_ret
   exact ⟨rfl, ((below_drew (below_alloc HB2.out _)).mono HB.out).trans hb3, hp⟩
theorem do_3 (w : World) (base g : Nat) (t : T) (rv kv : Value) (h : Tab w base g t rv kv) (hb : base ≤ w.heap.size) (r n : Int) (hm : mayF 3 r n = true) (hl : t.rows.length ≤ 1000000 ∧ t.kept.length ≤ 1000000 ∧ 0 ≤ t.size) :
    Calls Try.prog 85 #[.pointer (some ⟨g, 0, none⟩), .agg #[.int .i64 3, .int .i64 r, .int .i64 n]] w (Post base g w (act t 3 r n)) := by
 obtain ⟨R, hR⟩ : ∃ R, act t 3 r n = R := ⟨_, rfl⟩
 rw [hR]
 have HR := am hR
 have HL := am hl
 clear hR hl
 have H := am h
 have HM := am hm
 have HB := am hb
 have HB0 := am (Below.refl w.heap.size w)
 clear h hb hm
 go_enter Try.func85, Try.ntmps85
 go_wp2_with fail
 refine (cfa_Op_may.calls 3 r n true _ (by unfold cfa_Op_may.f; rw [HM.out])).mono ?_
 rintro e w1 ⟨rfl, hb1⟩
 have hbx := blk_below (blk_new w (.cells #[.int .i64 3, .int .i64 r, .int .i64 n] 105)) hb1
 have hB1 := below_step (below_alloc (Below.refl w.heap.size w) (.cells #[.int .i64 3, .int .i64 r, .int .i64 n] 105)) hb1
 have h1 := H.out.below hB1
 have c1 := h1.begun
 have c2 : w1.cell? ⟨w.heap.size, 0, none⟩ = some (.int .i64 3) := by rw [blk_cell hbx]; rfl
 have H1 := am h1
 have HBX := am hbx
 have HB1 := am hB1
 clear hb1 hbx hB1 h1
 cases hbg : t.begun <;> rw [hbg] at c1 <;> clear hbg
 all_goals
   go_wp2_with fail
   refine (ways_calls _).mono ?_
   rintro e w2 ⟨rfl, hb2⟩
   have h2 := H1.out.below hb2
   have hbx := blk_below HBX.out hb2
   have hB2 := below_step HB1.out hb2
   have d0 : w2.cell? ⟨w.heap.size, 0, none⟩ = some (.int .i64 3) := by rw [blk_cell hbx]; rfl
   have d1 : w2.cell? ⟨w.heap.size, 1, none⟩ = some (.int .i64 r) := by rw [blk_cell hbx]; rfl
   have d2 : w2.cell? ⟨w.heap.size, 2, none⟩ = some (.int .i64 n) := by rw [blk_cell hbx]; rfl
   have hlt : w.heap.size < w2.heap.size := blk_lt hbx
   have H2 := am h2
   have HB2 := am hB2
   clear hbx h2 hB2 hb2 c1 c2
   unfold waysV
   go_wp2
   refine still_tail 6 (by kernel_rfl) (by kernel_rfl) ?_
   simp only [List.take_succ_cons, List.take_zero, List.drop_succ_cons, List.drop_zero]
   repeat still_step
   refine wpStill_nil ?_
   go_wp2_with fail
   have hc := defOffset_calls _ base g t rv kv (H2.out.below (below_drew (below_alloc (Below.refl _ _) (.cells waysV 166)))) (by have := HB.out; have := HB2.out.size; simp; omega) r n HM.out
   rw [HR.out] at hc
   refine hc.mono ?_
   rintro e w3 ⟨rfl, hb3, hp⟩
   go_wp2
   go_ret
   exact ⟨rfl, ((below_drew (below_alloc HB2.out _)).mono HB.out).trans hb3, hp⟩
theorem do_4 (w : World) (base g : Nat) (t : T) (rv kv : Value) (h : Tab w base g t rv kv) (hb : base ≤ w.heap.size) (r n : Int) (hm : mayF 4 r n = true) (hl : t.rows.length ≤ 1000000 ∧ t.kept.length ≤ 1000000 ∧ 0 ≤ t.size) :
    Calls Try.prog 85 #[.pointer (some ⟨g, 0, none⟩), .agg #[.int .i64 4, .int .i64 r, .int .i64 n]] w (Post base g w (act t 4 r n)) := by
 obtain ⟨R, hR⟩ : ∃ R, act t 4 r n = R := ⟨_, rfl⟩
 rw [hR]
 have HR := am hR
 have HL := am hl
 clear hR hl
 have H := am h
 have HM := am hm
 have HB := am hb
 have HB0 := am (Below.refl w.heap.size w)
 clear h hb hm
 go_enter Try.func85, Try.ntmps85
 go_wp2_with fail
 refine (cfa_Op_may.calls 4 r n true _ (by unfold cfa_Op_may.f; rw [HM.out])).mono ?_
 rintro e w1 ⟨rfl, hb1⟩
 have hbx := blk_below (blk_new w (.cells #[.int .i64 4, .int .i64 r, .int .i64 n] 105)) hb1
 have hB1 := below_step (below_alloc (Below.refl w.heap.size w) (.cells #[.int .i64 4, .int .i64 r, .int .i64 n] 105)) hb1
 have h1 := H.out.below hB1
 have c1 := h1.begun
 have c2 : w1.cell? ⟨w.heap.size, 0, none⟩ = some (.int .i64 4) := by rw [blk_cell hbx]; rfl
 have H1 := am h1
 have HBX := am hbx
 have HB1 := am hB1
 clear hb1 hbx hB1 h1
 cases hbg : t.begun <;> rw [hbg] at c1 <;> clear hbg
 all_goals
   go_wp2_with fail
   refine (ways_calls _).mono ?_
   rintro e w2 ⟨rfl, hb2⟩
   have h2 := H1.out.below hb2
   have hbx := blk_below HBX.out hb2
   have hB2 := below_step HB1.out hb2
   have d0 : w2.cell? ⟨w.heap.size, 0, none⟩ = some (.int .i64 4) := by rw [blk_cell hbx]; rfl
   have d1 : w2.cell? ⟨w.heap.size, 1, none⟩ = some (.int .i64 r) := by rw [blk_cell hbx]; rfl
   have d2 : w2.cell? ⟨w.heap.size, 2, none⟩ = some (.int .i64 n) := by rw [blk_cell hbx]; rfl
   have hlt : w.heap.size < w2.heap.size := blk_lt hbx
   have H2 := am h2
   have HB2 := am hB2
   clear hbx h2 hB2 hb2 c1 c2
   unfold waysV
   go_wp2
   refine still_tail 6 (by kernel_rfl) (by kernel_rfl) ?_
   simp only [List.take_succ_cons, List.take_zero, List.drop_succ_cons, List.drop_zero]
   repeat still_step
   refine wpStill_nil ?_
   go_wp2_with fail
   have hc := defRegister_calls _ base g t rv kv (H2.out.below (below_drew (below_alloc (Below.refl _ _) (.cells waysV 166)))) (by have := HB.out; have := HB2.out.size; simp; omega) r n HM.out
   rw [HR.out] at hc
   refine hc.mono ?_
   rintro e w3 ⟨rfl, hb3, hp⟩
   go_wp2
   go_ret
   exact ⟨rfl, ((below_drew (below_alloc HB2.out _)).mono HB.out).trans hb3, hp⟩
theorem do_5 (w : World) (base g : Nat) (t : T) (rv kv : Value) (h : Tab w base g t rv kv) (hb : base ≤ w.heap.size) (r n : Int) (hm : mayF 5 r n = true) (hl : t.rows.length ≤ 1000000 ∧ t.kept.length ≤ 1000000 ∧ 0 ≤ t.size) :
    Calls Try.prog 85 #[.pointer (some ⟨g, 0, none⟩), .agg #[.int .i64 5, .int .i64 r, .int .i64 n]] w (Post base g w (act t 5 r n)) := by
 obtain ⟨R, hR⟩ : ∃ R, act t 5 r n = R := ⟨_, rfl⟩
 rw [hR]
 have HR := am hR
 have HL := am hl
 clear hR hl
 have H := am h
 have HM := am hm
 have HB := am hb
 have HB0 := am (Below.refl w.heap.size w)
 clear h hb hm
 go_enter Try.func85, Try.ntmps85
 go_wp2_with fail
 refine (cfa_Op_may.calls 5 r n true _ (by unfold cfa_Op_may.f; rw [HM.out])).mono ?_
 rintro e w1 ⟨rfl, hb1⟩
 have hbx := blk_below (blk_new w (.cells #[.int .i64 5, .int .i64 r, .int .i64 n] 105)) hb1
 have hB1 := below_step (below_alloc (Below.refl w.heap.size w) (.cells #[.int .i64 5, .int .i64 r, .int .i64 n] 105)) hb1
 have h1 := H.out.below hB1
 have c1 := h1.begun
 have c2 : w1.cell? ⟨w.heap.size, 0, none⟩ = some (.int .i64 5) := by rw [blk_cell hbx]; rfl
 have H1 := am h1
 have HBX := am hbx
 have HB1 := am hB1
 clear hb1 hbx hB1 h1
 cases hbg : t.begun <;> rw [hbg] at c1 <;> clear hbg
 all_goals
   go_wp2_with fail
   refine (ways_calls _).mono ?_
   rintro e w2 ⟨rfl, hb2⟩
   have h2 := H1.out.below hb2
   have hbx := blk_below HBX.out hb2
   have hB2 := below_step HB1.out hb2
   have d0 : w2.cell? ⟨w.heap.size, 0, none⟩ = some (.int .i64 5) := by rw [blk_cell hbx]; rfl
   have d1 : w2.cell? ⟨w.heap.size, 1, none⟩ = some (.int .i64 r) := by rw [blk_cell hbx]; rfl
   have d2 : w2.cell? ⟨w.heap.size, 2, none⟩ = some (.int .i64 n) := by rw [blk_cell hbx]; rfl
   have hlt : w.heap.size < w2.heap.size := blk_lt hbx
   have H2 := am h2
   have HB2 := am hB2
   clear hbx h2 hB2 hb2 c1 c2
   unfold waysV
   go_wp2
   refine still_tail 6 (by kernel_rfl) (by kernel_rfl) ?_
   simp only [List.take_succ_cons, List.take_zero, List.drop_succ_cons, List.drop_zero]
   repeat still_step
   refine wpStill_nil ?_
   go_wp2_with fail
   have hc := offset_calls _ base g t rv kv (H2.out.below (below_drew (below_alloc (Below.refl _ _) (.cells waysV 166)))) (by have := HB.out; have := HB2.out.size; simp; omega) r n HM.out
   rw [HR.out] at hc
   refine hc.mono ?_
   rintro e w3 ⟨rfl, hb3, hp⟩
   go_wp2
   go_ret
   exact ⟨rfl, ((below_drew (below_alloc HB2.out _)).mono HB.out).trans hb3, hp⟩
theorem do_6 (w : World) (base g : Nat) (t : T) (rv kv : Value) (h : Tab w base g t rv kv) (hb : base ≤ w.heap.size) (r n : Int) (hm : mayF 6 r n = true) (hl : t.rows.length ≤ 1000000 ∧ t.kept.length ≤ 1000000 ∧ 0 ≤ t.size) (hbg : t.begun = true) :
    Calls Try.prog 85 #[.pointer (some ⟨g, 0, none⟩), .agg #[.int .i64 6, .int .i64 r, .int .i64 n]] w (Post base g w (act t 6 r n)) := by
 obtain ⟨R, hR⟩ : ∃ R, act t 6 r n = R := ⟨_, rfl⟩
 rw [hR]
 have HR := am hR
 have HL := am hl
 clear hR hl
 have H := am h
 have HM := am hm
 have HB := am hb
 have HB0 := am (Below.refl w.heap.size w)
 clear h hb hm
 go_enter Try.func85, Try.ntmps85
 go_wp2_with fail
 refine (cfa_Op_may.calls 6 r n true _ (by unfold cfa_Op_may.f; rw [HM.out])).mono ?_
 rintro e w1 ⟨rfl, hb1⟩
 have hbx := blk_below (blk_new w (.cells #[.int .i64 6, .int .i64 r, .int .i64 n] 105)) hb1
 have hB1 := below_step (below_alloc (Below.refl w.heap.size w) (.cells #[.int .i64 6, .int .i64 r, .int .i64 n] 105)) hb1
 have h1 := H.out.below hB1
 have c1 := h1.begun
 have c2 : w1.cell? ⟨w.heap.size, 0, none⟩ = some (.int .i64 6) := by rw [blk_cell hbx]; rfl
 have H1 := am h1
 have HBX := am hbx
 have HB1 := am hB1
 clear hb1 hbx hB1 h1
 rw [hbg] at c1
 clear hbg
 all_goals
   go_wp2_with fail
   refine (ways_calls _).mono ?_
   rintro e w2 ⟨rfl, hb2⟩
   have h2 := H1.out.below hb2
   have hbx := blk_below HBX.out hb2
   have hB2 := below_step HB1.out hb2
   have d0 : w2.cell? ⟨w.heap.size, 0, none⟩ = some (.int .i64 6) := by rw [blk_cell hbx]; rfl
   have d1 : w2.cell? ⟨w.heap.size, 1, none⟩ = some (.int .i64 r) := by rw [blk_cell hbx]; rfl
   have d2 : w2.cell? ⟨w.heap.size, 2, none⟩ = some (.int .i64 n) := by rw [blk_cell hbx]; rfl
   have hlt : w.heap.size < w2.heap.size := blk_lt hbx
   have H2 := am h2
   have HB2 := am hB2
   clear hbx h2 hB2 hb2 c1 c2
   unfold waysV
   go_wp2
   refine still_tail 6 (by kernel_rfl) (by kernel_rfl) ?_
   simp only [List.take_succ_cons, List.take_zero, List.drop_succ_cons, List.drop_zero]
   repeat still_step
   refine wpStill_nil ?_
   go_wp2_with fail
   have hc := restore_calls _ base g t rv kv (H2.out.below (below_drew (below_alloc (Below.refl _ _) (.cells waysV 166)))) (by have := HB.out; have := HB2.out.size; simp; omega) r n HM.out
   rw [HR.out] at hc
   refine hc.mono ?_
   rintro e w3 ⟨rfl, hb3, hp⟩
   go_wp2
   go_ret
   exact ⟨rfl, ((below_drew (below_alloc HB2.out _)).mono HB.out).trans hb3, hp⟩
theorem do_7 (w : World) (base g : Nat) (t : T) (rv kv : Value) (h : Tab w base g t rv kv) (hb : base ≤ w.heap.size) (r n : Int) (hm : mayF 7 r n = true) (hl : t.rows.length ≤ 1000000 ∧ t.kept.length ≤ 1000000 ∧ 0 ≤ t.size) :
    Calls Try.prog 85 #[.pointer (some ⟨g, 0, none⟩), .agg #[.int .i64 7, .int .i64 r, .int .i64 n]] w (Post base g w (act t 7 r n)) := by
 obtain ⟨R, hR⟩ : ∃ R, act t 7 r n = R := ⟨_, rfl⟩
 rw [hR]
 have HR := am hR
 have HL := am hl
 clear hR hl
 have H := am h
 have HM := am hm
 have HB := am hb
 have HB0 := am (Below.refl w.heap.size w)
 clear h hb hm
 go_enter Try.func85, Try.ntmps85
 go_wp2_with fail
 refine (cfa_Op_may.calls 7 r n true _ (by unfold cfa_Op_may.f; rw [HM.out])).mono ?_
 rintro e w1 ⟨rfl, hb1⟩
 have hbx := blk_below (blk_new w (.cells #[.int .i64 7, .int .i64 r, .int .i64 n] 105)) hb1
 have hB1 := below_step (below_alloc (Below.refl w.heap.size w) (.cells #[.int .i64 7, .int .i64 r, .int .i64 n] 105)) hb1
 have h1 := H.out.below hB1
 have c1 := h1.begun
 have c2 : w1.cell? ⟨w.heap.size, 0, none⟩ = some (.int .i64 7) := by rw [blk_cell hbx]; rfl
 have H1 := am h1
 have HBX := am hbx
 have HB1 := am hB1
 clear hb1 hbx hB1 h1
 cases hbg : t.begun <;> rw [hbg] at c1 <;> clear hbg
 all_goals
   go_wp2_with fail
   refine (ways_calls _).mono ?_
   rintro e w2 ⟨rfl, hb2⟩
   have h2 := H1.out.below hb2
   have hbx := blk_below HBX.out hb2
   have hB2 := below_step HB1.out hb2
   have d0 : w2.cell? ⟨w.heap.size, 0, none⟩ = some (.int .i64 7) := by rw [blk_cell hbx]; rfl
   have d1 : w2.cell? ⟨w.heap.size, 1, none⟩ = some (.int .i64 r) := by rw [blk_cell hbx]; rfl
   have d2 : w2.cell? ⟨w.heap.size, 2, none⟩ = some (.int .i64 n) := by rw [blk_cell hbx]; rfl
   have hlt : w.heap.size < w2.heap.size := blk_lt hbx
   have H2 := am h2
   have HB2 := am hB2
   clear hbx h2 hB2 hb2 c1 c2
   unfold waysV
   go_wp2
   refine still_tail 6 (by kernel_rfl) (by kernel_rfl) ?_
   simp only [List.take_succ_cons, List.take_zero, List.drop_succ_cons, List.drop_zero]
   repeat still_step
   refine wpStill_nil ?_
   go_wp2_with fail
   have hc := undefined_calls _ base g t rv kv (H2.out.below (below_drew (below_alloc (Below.refl _ _) (.cells waysV 166)))) (by have := HB.out; have := HB2.out.size; simp; omega) r n HM.out
   rw [HR.out] at hc
   refine hc.mono ?_
   rintro e w3 ⟨rfl, hb3, hp⟩
   go_wp2
   go_ret
   exact ⟨rfl, ((below_drew (below_alloc HB2.out _)).mono HB.out).trans hb3, hp⟩
theorem do_8 (w : World) (base g : Nat) (t : T) (rv kv : Value) (h : Tab w base g t rv kv) (hb : base ≤ w.heap.size) (r n : Int) (hm : mayF 8 r n = true) (hl : t.rows.length ≤ 1000000 ∧ t.kept.length ≤ 1000000 ∧ 0 ≤ t.size) :
    Calls Try.prog 85 #[.pointer (some ⟨g, 0, none⟩), .agg #[.int .i64 8, .int .i64 r, .int .i64 n]] w (Post base g w (act t 8 r n)) := by
 obtain ⟨R, hR⟩ : ∃ R, act t 8 r n = R := ⟨_, rfl⟩
 rw [hR]
 have HR := am hR
 have HL := am hl
 clear hR hl
 have H := am h
 have HM := am hm
 have HB := am hb
 have HB0 := am (Below.refl w.heap.size w)
 clear h hb hm
 go_enter Try.func85, Try.ntmps85
 go_wp2_with fail
 refine (cfa_Op_may.calls 8 r n true _ (by unfold cfa_Op_may.f; rw [HM.out])).mono ?_
 rintro e w1 ⟨rfl, hb1⟩
 have hbx := blk_below (blk_new w (.cells #[.int .i64 8, .int .i64 r, .int .i64 n] 105)) hb1
 have hB1 := below_step (below_alloc (Below.refl w.heap.size w) (.cells #[.int .i64 8, .int .i64 r, .int .i64 n] 105)) hb1
 have h1 := H.out.below hB1
 have c1 := h1.begun
 have c2 : w1.cell? ⟨w.heap.size, 0, none⟩ = some (.int .i64 8) := by rw [blk_cell hbx]; rfl
 have H1 := am h1
 have HBX := am hbx
 have HB1 := am hB1
 clear hb1 hbx hB1 h1
 cases hbg : t.begun <;> rw [hbg] at c1 <;> clear hbg
 all_goals
   go_wp2_with fail
   refine (ways_calls _).mono ?_
   rintro e w2 ⟨rfl, hb2⟩
   have h2 := H1.out.below hb2
   have hbx := blk_below HBX.out hb2
   have hB2 := below_step HB1.out hb2
   have d0 : w2.cell? ⟨w.heap.size, 0, none⟩ = some (.int .i64 8) := by rw [blk_cell hbx]; rfl
   have d1 : w2.cell? ⟨w.heap.size, 1, none⟩ = some (.int .i64 r) := by rw [blk_cell hbx]; rfl
   have d2 : w2.cell? ⟨w.heap.size, 2, none⟩ = some (.int .i64 n) := by rw [blk_cell hbx]; rfl
   have hlt : w.heap.size < w2.heap.size := blk_lt hbx
   have H2 := am h2
   have HB2 := am hB2
   clear hbx h2 hB2 hb2 c1 c2
   unfold waysV
   go_wp2
   refine still_tail 6 (by kernel_rfl) (by kernel_rfl) ?_
   simp only [List.take_succ_cons, List.take_zero, List.drop_succ_cons, List.drop_zero]
   repeat still_step
   refine wpStill_nil ?_
   go_wp2_with fail
   have hc := sameValue_calls _ base g t rv kv (H2.out.below (below_drew (below_alloc (Below.refl _ _) (.cells waysV 166)))) (by have := HB.out; have := HB2.out.size; simp; omega) r n HM.out
   rw [HR.out] at hc
   refine hc.mono ?_
   rintro e w3 ⟨rfl, hb3, hp⟩
   go_wp2
   go_ret
   exact ⟨rfl, ((below_drew (below_alloc HB2.out _)).mono HB.out).trans hb3, hp⟩
theorem do_9 (w : World) (base g : Nat) (t : T) (rv kv : Value) (h : Tab w base g t rv kv) (hb : base ≤ w.heap.size) (r n : Int) (hm : mayF 9 r n = true) (hl : t.rows.length ≤ 1000000 ∧ t.kept.length ≤ 1000000 ∧ 0 ≤ t.size) (hbg : t.begun = true) :
    Calls Try.prog 85 #[.pointer (some ⟨g, 0, none⟩), .agg #[.int .i64 9, .int .i64 r, .int .i64 n]] w (Post base g w (act t 9 r n)) := by
 obtain ⟨R, hR⟩ : ∃ R, act t 9 r n = R := ⟨_, rfl⟩
 rw [hR]
 have HR := am hR
 have HL := am hl
 clear hR hl
 have H := am h
 have HM := am hm
 have HB := am hb
 have HB0 := am (Below.refl w.heap.size w)
 clear h hb hm
 go_enter Try.func85, Try.ntmps85
 go_wp2_with fail
 refine (cfa_Op_may.calls 9 r n true _ (by unfold cfa_Op_may.f; rw [HM.out])).mono ?_
 rintro e w1 ⟨rfl, hb1⟩
 have hbx := blk_below (blk_new w (.cells #[.int .i64 9, .int .i64 r, .int .i64 n] 105)) hb1
 have hB1 := below_step (below_alloc (Below.refl w.heap.size w) (.cells #[.int .i64 9, .int .i64 r, .int .i64 n] 105)) hb1
 have h1 := H.out.below hB1
 have c1 := h1.begun
 have c2 : w1.cell? ⟨w.heap.size, 0, none⟩ = some (.int .i64 9) := by rw [blk_cell hbx]; rfl
 have H1 := am h1
 have HBX := am hbx
 have HB1 := am hB1
 clear hb1 hbx hB1 h1
 rw [hbg] at c1
 clear hbg
 all_goals
   go_wp2_with fail
   refine (ways_calls _).mono ?_
   rintro e w2 ⟨rfl, hb2⟩
   have h2 := H1.out.below hb2
   have hbx := blk_below HBX.out hb2
   have hB2 := below_step HB1.out hb2
   have d0 : w2.cell? ⟨w.heap.size, 0, none⟩ = some (.int .i64 9) := by rw [blk_cell hbx]; rfl
   have d1 : w2.cell? ⟨w.heap.size, 1, none⟩ = some (.int .i64 r) := by rw [blk_cell hbx]; rfl
   have d2 : w2.cell? ⟨w.heap.size, 2, none⟩ = some (.int .i64 n) := by rw [blk_cell hbx]; rfl
   have hlt : w.heap.size < w2.heap.size := blk_lt hbx
   have H2 := am h2
   have HB2 := am hB2
   clear hbx h2 hB2 hb2 c1 c2
   unfold waysV
   go_wp2
   refine still_tail 6 (by kernel_rfl) (by kernel_rfl) ?_
   simp only [List.take_succ_cons, List.take_zero, List.drop_succ_cons, List.drop_zero]
   repeat still_step
   refine wpStill_nil ?_
   go_wp2_with fail
   have hc := remember_calls _ base g t rv kv (H2.out.below (below_drew (below_alloc (Below.refl _ _) (.cells waysV 166)))) (by have := HB.out; have := HB2.out.size; simp; omega) r n HM.out HL.out.2.1
   rw [HR.out] at hc
   refine hc.mono ?_
   rintro e w3 ⟨rfl, hb3, hp⟩
   go_wp2
   go_ret
   exact ⟨rfl, ((below_drew (below_alloc HB2.out _)).mono HB.out).trans hb3, hp⟩
theorem do_10 (w : World) (base g : Nat) (t : T) (rv kv : Value) (h : Tab w base g t rv kv) (hb : base ≤ w.heap.size) (r n : Int) (hm : mayF 10 r n = true) (hl : t.rows.length ≤ 1000000 ∧ t.kept.length ≤ 1000000 ∧ 0 ≤ t.size) (hbg : t.begun = true) :
    Calls Try.prog 85 #[.pointer (some ⟨g, 0, none⟩), .agg #[.int .i64 10, .int .i64 r, .int .i64 n]] w (Post base g w (act t 10 r n)) := by
 obtain ⟨R, hR⟩ : ∃ R, act t 10 r n = R := ⟨_, rfl⟩
 rw [hR]
 have HR := am hR
 have HL := am hl
 clear hR hl
 have H := am h
 have HM := am hm
 have HB := am hb
 have HB0 := am (Below.refl w.heap.size w)
 clear h hb hm
 go_enter Try.func85, Try.ntmps85
 go_wp2_with fail
 refine (cfa_Op_may.calls 10 r n true _ (by unfold cfa_Op_may.f; rw [HM.out])).mono ?_
 rintro e w1 ⟨rfl, hb1⟩
 have hbx := blk_below (blk_new w (.cells #[.int .i64 10, .int .i64 r, .int .i64 n] 105)) hb1
 have hB1 := below_step (below_alloc (Below.refl w.heap.size w) (.cells #[.int .i64 10, .int .i64 r, .int .i64 n] 105)) hb1
 have h1 := H.out.below hB1
 have c1 := h1.begun
 have c2 : w1.cell? ⟨w.heap.size, 0, none⟩ = some (.int .i64 10) := by rw [blk_cell hbx]; rfl
 have H1 := am h1
 have HBX := am hbx
 have HB1 := am hB1
 clear hb1 hbx hB1 h1
 rw [hbg] at c1
 clear hbg
 all_goals
   go_wp2_with fail
   refine (ways_calls _).mono ?_
   rintro e w2 ⟨rfl, hb2⟩
   have h2 := H1.out.below hb2
   have hbx := blk_below HBX.out hb2
   have hB2 := below_step HB1.out hb2
   have d0 : w2.cell? ⟨w.heap.size, 0, none⟩ = some (.int .i64 10) := by rw [blk_cell hbx]; rfl
   have d1 : w2.cell? ⟨w.heap.size, 1, none⟩ = some (.int .i64 r) := by rw [blk_cell hbx]; rfl
   have d2 : w2.cell? ⟨w.heap.size, 2, none⟩ = some (.int .i64 n) := by rw [blk_cell hbx]; rfl
   have hlt : w.heap.size < w2.heap.size := blk_lt hbx
   have H2 := am h2
   have HB2 := am hB2
   clear hbx h2 hB2 hb2 c1 c2
   unfold waysV
   go_wp2
   refine still_tail 6 (by kernel_rfl) (by kernel_rfl) ?_
   simp only [List.take_succ_cons, List.take_zero, List.drop_succ_cons, List.drop_zero]
   repeat still_step
   refine wpStill_nil ?_
   go_wp2_with fail
   have hc := recall_calls _ base g t rv kv (H2.out.below (below_drew (below_alloc (Below.refl _ _) (.cells waysV 166)))) (by have := HB.out; have := HB2.out.size; simp; omega) r n HM.out HL.out.2.1
   rw [HR.out] at hc
   refine hc.mono ?_
   rintro e w3 ⟨rfl, hb3, hp⟩
   go_wp2
   go_ret
   exact ⟨rfl, ((below_drew (below_alloc HB2.out _)).mono HB.out).trans hb3, hp⟩
theorem do_not (w : World) (base g : Nat) (t : T) (rv kv : Value) (h : Tab w base g t rv kv) (hb : base ≤ w.heap.size) (k r n : Int) (hm : mayF k r n = false) :
    Calls Try.prog 85 #[.pointer (some ⟨g, 0, none⟩), .agg #[.int .i64 k, .int .i64 r, .int .i64 n]] w fun e w' => e = .returned (.bool false) ∧ Below base w w' := by
 have HM := am hm
 have HB := am hb
 clear h hb hm
 go_enter Try.func85, Try.ntmps85
 go_wp2_with fail
 refine (cfa_Op_may.calls k r n false _ (by unfold cfa_Op_may.f; rw [HM.out])).mono ?_
 rintro e w1 ⟨rfl, hb1⟩
 go_wp2
 go_ret
 exact ⟨rfl, (below_step (below_alloc (Below.refl w.heap.size w) _) hb1).mono HB.out⟩
theorem do_early (w : World) (base g : Nat) (t : T) (rv kv : Value) (h : Tab w base g t rv kv) (hb : base ≤ w.heap.size) (k r n : Int) (hm : mayF k r n = true) (hbg : t.begun = false) (hk : k = 1 ∨ k = 9 ∨ k = 10 ∨ k = 6) :
    Calls Try.prog 85 #[.pointer (some ⟨g, 0, none⟩), .agg #[.int .i64 k, .int .i64 r, .int .i64 n]] w fun e w' => e = .returned (.bool false) ∧ Below base w w' := by
 have HM := am hm
 have HB := am hb
 have H := am h
 clear h hb hm
 rcases hk with rfl | rfl | rfl | rfl
 all_goals
   go_enter Try.func85, Try.ntmps85
   go_wp2_with fail
   refine (cfa_Op_may.calls _ r n true _ (by unfold cfa_Op_may.f; rw [HM.out])).mono ?_
   rintro e w1 ⟨rfl, hb1⟩
   have hbx := blk_below (blk_new w _) hb1
   have hB1 := below_step (below_alloc (Below.refl w.heap.size w) _) hb1
   have h1 := H.out.below hB1
   have c1 := h1.begun
   have c2 := blk_cell hbx 0
   simp only [List.getElem?_toArray, List.getElem?_cons_zero] at c2
   rw [hbg] at c1
   have HB1 := am (hB1.mono HB.out)
   clear hb1 hbx hB1 h1
   go_wp2
   go_ret
   exact ⟨rfl, HB1.out⟩
theorem do_calls (w : World) (base g : Nat) (t : T) (rv kv : Value) (h : Tab w base g t rv kv) (hb : base ≤ w.heap.size) (k r n : Int) (hl : t.rows.length ≤ 1000000 ∧ t.kept.length ≤ 1000000 ∧ 0 ≤ t.size) :
    Calls Try.prog 85 #[.pointer (some ⟨g, 0, none⟩), .agg #[.int .i64 k, .int .i64 r, .int .i64 n]] w (Post base g w (does t k r n)) := by
 unfold does
 by_cases hm : mayF k r n = false
 ·
  rw [if_pos hm]
  refine (do_not w base g t rv kv h hb k r n hm).mono ?_
  rintro e w' ⟨rfl, hbb⟩
  exact ⟨rfl, hbb, fun _ e => by cases e⟩
 rw [if_neg hm]
 have hm1 : mayF k r n = true := by simpa using hm
 by_cases hbg : t.begun = false ∧ (k = 1 ∨ k = 9 ∨ k = 10 ∨ k = 6)
 ·
  rw [if_pos hbg]
  refine (do_early w base g t rv kv h hb k r n hm1 hbg.1 hbg.2).mono ?_
  rintro e w' ⟨rfl, hbb⟩
  exact ⟨rfl, hbb, fun _ e => by cases e⟩
 rw [if_neg hbg]
 have hbt : (k = 1 ∨ k = 9 ∨ k = 10 ∨ k = 6) → t.begun = true := fun hk => by
   cases hb2 : t.begun with
   | true => rfl
   | false => exact absurd ⟨hb2, hk⟩ hbg
 have hk := may_k hm1
 obtain ⟨m, rfl⟩ := Int.eq_ofNat_of_zero_le hk.1
 match m, hk with
 | 0, _ => exact do_0 w base g t rv kv h hb r n hm1 hl
 | 1, _ => exact do_1 w base g t rv kv h hb r n hm1 hl (hbt (by simp))
 | 2, _ => exact do_2 w base g t rv kv h hb r n hm1 hl
 | 3, _ => exact do_3 w base g t rv kv h hb r n hm1 hl
 | 4, _ => exact do_4 w base g t rv kv h hb r n hm1 hl
 | 5, _ => exact do_5 w base g t rv kv h hb r n hm1 hl
 | 6, _ => exact do_6 w base g t rv kv h hb r n hm1 hl (hbt (by simp))
 | 7, _ => exact do_7 w base g t rv kv h hb r n hm1 hl
 | 8, _ => exact do_8 w base g t rv kv h hb r n hm1 hl
 | 9, _ => exact do_9 w base g t rv kv h hb r n hm1 hl (hbt (by simp))
 | 10, _ => exact do_10 w base g t rv kv h hb r n hm1 hl (hbt (by simp))
 | m + 11, hk => exact absurd hk.2 (by omega)
end Go.Proofs.Ytfgfnflhdabmcaa.Cfa
end
section
namespace Go.Proofs.Ytfgfnflhdabmcaa.G
open Go.RowKit Go.Proofs.YtfgfnflhdabmcaaW.PrintWords Go.Proofs.YtfgfnflhdabmcaaW.PrintLast Go.Proofs.YtfgfnflhdabmcaaW.PrintMore
attribute [local go_sem] max2_int min2_int max_two min_two max_three min_three max_four min_four
def cfa_bounds.j0 : Nat → Int → Bool → Option (Int)
  | 0, _, _ => none
  | k + 1, x1, x5 => if x5 = true then (some 11) else (if x1 > 4000 then (some 6) else (some 0))
def cfa_bounds.f (k : Nat) (a0 : Int) (a1 : Int) : Option (Int) := if a0 < 0 then (cfa_bounds.j0 k a1 true) else (cfa_bounds.j0 k a1 (decide (a0 > 1048576)))
set_option maxHeartbeats 8000000 in
theorem cfa_bounds.calls (k : Nat) (a0 : Int) (a1 : Int) (r : Int) (w : World) (h : cfa_bounds.f k a0 a1 = some r) :
    Calls Try.prog 82 #[.int .i64 a0, .int .i64 a1] w fun e w' => e = .returned (.int .i64 r) ∧ Drawn0 w w' := by
 have H : (if a0 < 0 then (cfa_bounds.j0 k a1 true) else (cfa_bounds.j0 k a1 (decide (a0 > 1048576)))) = some r := h
 clear h
 have HC3 := am H
 clear H
 go_enter Try.func82, Try.ntmps82
 go_upto_region 1 with (fail)
 go_cut [5] (fun v5 wc => ∃ (kq : Nat) (x5_2 : Bool), v5 = .bool x5_2 ∧ Aside0 (cfa_bounds.j0 kq a1 x5_2 = some r) ∧ Aside0 (kq ≤ k) ∧ Drawn0 w wc)
 case first =>
  have H := HC3.out
  clear HC3
  by_cases c4 : a0 < 0
  ·
   rw [if_pos c4] at H
   have c4b0 : decide (a0 < 0) = true := decide_eq_true c4
   clear c4
   (first | rw [c4b0] | (simp only [i64_w, i32_w]; rw [c4b0]) | skip)
   have H' := am H
   clear H
   go_wp2
   go_meet
   case rel => exact ⟨_, (true), (by first | rfl | (simp; done) | (simp [*]; done)), H', ⟨by first | omega | exact Nat.le_refl _⟩, by repeat (first | exact Drawn0.refl _ | apply Drawn0.step)⟩
  rw [if_neg c4] at H
  have c4b0 : decide (a0 < 0) = false := decide_eq_false c4
  clear c4
  (first | rw [c4b0] | (simp only [i64_w, i32_w]; rw [c4b0]) | skip)
  have H' := am H
  clear H
  go_wp2
  go_meet
  case rel => exact ⟨_, (decide (a0 > 1048576)), (by first | rfl | (simp; done) | (simp [*]; done)), H', ⟨by first | omega | exact Nat.le_refl _⟩, by repeat (first | exact Drawn0.refl _ | apply Drawn0.step)⟩
 case rest =>
  clear HC3
  try clear p2
  try clear c4
  try clear c4b0
  obtain ⟨kq, x5_2, rfl, HA, HJ2, ⟨mc2, rfl⟩⟩ := hcut
  cases kq with
  | zero => exact absurd HA.out (by simp [cfa_bounds.j0])
  | succ kj2 =>
   have H := HA.out
   clear HA
   simp only [cfa_bounds.j0] at H
   by_cases c5 : x5_2 = true
   ·
    subst c5
    replace H : (some 11) = some r := by rw [if_pos rfl] at H; exact H
    obtain rfl := Option.some.inj H
    go_wp2
    go_ret
    exact ⟨by first | rfl | (simp; done) | (simp [*]; done), by repeat (first | exact Drawn0.refl _ | apply Drawn0.step)⟩
   replace c5 := Bool.eq_false_iff.mpr c5
   subst c5
   replace H : (if a1 > 4000 then (some 6) else (some 0)) = some r := by rw [if_neg (show ¬ (false = true) by decide)] at H; exact H
   by_cases c6 : a1 > 4000
   ·
    rw [if_pos c6] at H
    have c6b0 : decide (4000 < a1) = true := decide_eq_true c6
    clear c6
    obtain rfl := Option.some.inj H
    go_wp2
    go_ret
    exact ⟨by first | rfl | (simp; done) | (simp [*]; done), by repeat (first | exact Drawn0.refl _ | apply Drawn0.step)⟩
   rw [if_neg c6] at H
   have c6b0 : decide (4000 < a1) = false := decide_eq_false c6
   clear c6
   obtain rfl := Option.some.inj H
   go_wp2
   go_ret
   exact ⟨by first | rfl | (simp; done) | (simp [*]; done), by repeat (first | exact Drawn0.refl _ | apply Drawn0.step)⟩
end Go.Proofs.Ytfgfnflhdabmcaa.G
end
section
namespace Go.Proofs.Ytfgfnflhdabmcaa.Cfa
open Go.RowKit Go.Proofs.Ytfgfnflhdabmcaa.G Go.Proofs.YtfgfnflhdabmcaaW.PrintWords Go.Proofs.YtfgfnflhdabmcaaW.PrintLast Go.Proofs.YtfgfnflhdabmcaaW.PrintMore
theorem fresh_calls (size : Int) (hs : size ≤ 1048576) (w : World) : Calls Try.prog 83 #[.int .i64 size] w fun e w' => e = .returned (.pointer (some ⟨w.heap.size, 0, none⟩)) ∧ Below w.heap.size w w' ∧ Tab w' w.heap.size w.heap.size (fresh size) (.slice none 0 0) (.slice none 0 0) := by
 have HS := am hs
 clear hs
 go_enter Try.func83, Try.ntmps83
 go_wp2
 go_ret
 refine ⟨rfl, below_alloc (Below.refl _ _) _, good_fresh size HS.out, Nat.le_refl _, blk_new w _, Kd.R_nil _ _ _ _ _, Kd.R_nil _ _ _ _ _⟩
/-- Ops as plain triples. -/
def opl (l : List S105) : List (Int × Int × Int) := l.map fun o => (o.f0, o.f1, o.f2)
theorem opl_drop (l : List S105) (n : Nat) (hn : n < l.length) : (opl l).drop n = ((rd_T105 l n).f0, (rd_T105 l n).f1, (rd_T105 l n).f2) :: (opl l).drop (n + 1) := by
 have : rd_T105 l (n : Int) = l[n] := by simp [rd_T105, List.getD, hn]
 rw [this, opl, List.drop_eq_getElem_cons (by simpa using hn), List.getElem_map]
theorem opl_length (l : List S105) : (opl l).length = l.length := by simp [opl]
/-- How far a table has come from another in n ops. -/
structure Far (t t' : T) (n : Nat) : Prop where
  rows : t'.rows.length ≤ t.rows.length + n
  kept : t'.kept.length ≤ t.kept.length + n
  size : t'.size = t.size
  begun : t'.begun = t.begun
  first : t'.first = t.first
theorem Far.zero (t : T) : Far t t 0 := ⟨Nat.le_refl _, Nat.le_refl _, rfl, rfl, rfl⟩
theorem Far.step {t t' t2 : T} {n : Nat} {k r m : Int} (h : Far t t' n) (e : does t' k r m = some t2) : Far t t2 (n + 1) := by
 obtain ⟨h1, h2, h3, h4, h5⟩ := does_size e
 exact ⟨by have := h.rows; omega, by have := h.kept; omega, h1.trans h.size, h2.trans h.begun, h3.trans h.first⟩
theorem begin_calls (w : World) (base g : Nat) (t : T) (rv kv : Value) (h : Tab w base g t rv kv) (hb : base ≤ w.heap.size) (A0 : Option Addr) (c0 : Nat) (l0 : List S105) (hr0 : ∀ W, Below base w W → Kd.C k105 W A0 l0.length l0) (hl0 : l0.length ≤ 100000) (hl : t.rows.length ≤ 100000 ∧ t.kept.length ≤ 100000 ∧ 0 ≤ t.size) :
    Calls Try.prog 84 #[.pointer (some ⟨g, 0, none⟩), .slice A0 l0.length c0] w (Post base g w (begin_ t (opl l0))) := by
 have H := am h
 have HB := am hb
 have HL := am hl
 have HR0 := am hr0
 have HBW := am (Below.refl base w)
 clear h hb hl hr0
 go_enter Try.func84, Try.ntmps84
 go_wp2
 go_loopg [9] l0.length (fun kq i w' => ∃ (n : Nat) (t' : T) (rv kv : Value), n + kq = l0.length ∧ i = .int .i64 (n : Int) ∧ Aside0 (doAll t (opl l0) = doAll t' ((opl l0).drop n)) ∧ Aside0 (Tab w' base g t' rv kv) ∧ Aside0 (Below base w w') ∧ Aside0 (Far t t' n))
 case atStart => exact ⟨0, t, rv, kv, by omega, rfl, ⟨rfl⟩, H, HBW, ⟨Far.zero t⟩⟩
 case round =>
  clear HBW H
  obtain ⟨n, t', rv', kv', hn, rfl, HD, H, HBW, HF⟩ := hrel
  cases gk with
  | zero =>
   have hltb : decide ((n : Int) < (l0.length : Int)) = false := by simp; omega
   have hd := HD.out
   rw [List.drop_of_length_le (by rw [opl_length]; omega)] at hd
   have hfin : begin_ t (opl l0) = if 0 ≤ t'.now.getD 1 0 then some { t' with first := t'.now, begun := true } else none := by
    unfold begin_
    rw [hd]
    rfl
   have h := H.out
   have hn37 := h.good.now
   have g1 := set_firstAll h.blk h.good t'.now hn37
   have hg1 : Good { t' with first := t'.now } := ⟨h.good.now, h.good.now, h.good.rows, h.good.kept, h.good.at0, h.good.size, h.good.atS⟩
   have hg2 : Good { t' with first := t'.now, begun := true } := ⟨h.good.now, h.good.now, h.good.rows, h.good.kept, h.good.at0, h.good.size, h.good.atS⟩
   have g2 := set_begun g1 hg1 true
   have hgr : wr.grownBy ((wr.setCells g 38 (nums .i64 t'.now)).setCell ⟨g, 77, none⟩ (.bool true)) (some g) := grown_set' (grown_setCells _ _ _ _) _ _
   have hTT : Tab ((wr.setCells g 38 (nums .i64 t'.now)).setCell ⟨g, 77, none⟩ (.bool true)) base g { t' with first := t'.now, begun := true } rv' kv' := h.turn hgr hg2 g2 rfl rfl
   have e1 : (wr.setCells g 38 (nums .i64 t'.now)).cell? ⟨g, 77, none⟩ = some (.bool t'.begun) := by rw [blk_cell g1, List.getElem?_toArray]; exact cells_tail hg1 2
   have e2 : (wr.setCells g 38 (nums .i64 t'.now)).frozen? ⟨g, 77, none⟩ = false := blk_frozen g1 77
   have e3 : (wr.setCells g 38 (nums .i64 t'.now)).cell? ⟨g, 2, none⟩ = some (.int .i64 (t'.now.getD 1 0)) := by rw [blk_cell g1, List.getElem?_toArray]; exact cells_now hg1 1 (by omega)
   have HN := am h.nowR
   have HN37 := am hn37
   have HTH := am (there_of_blk (o := 38) (n := 37) h.blk (by rw [List.size_toArray, cells_len h.good]; decide))
   have HFIN := am hfin
   have HTT := am hTT
   have HBB := am (HBW.out.trans (below_grown hgr (by have := HB.out; have := HBW.out.size; omega) h.lo))
   obtain ⟨x, hx⟩ : ∃ x, t'.now.getD 1 0 = x := ⟨_, rfl⟩
   rw [hx] at e3
   have HX := am hx
   clear hd hfin h hn37 g1 hg1 hg2 g2 hgr hTT hx HD HF
   go_wp2_with (first
     | (refine load_rowW rowTy rfl (.tmp 22) rfl g 1 rfl t'.now HN37.out HN.out ?_)
     | (refine store_rowW rowTy rfl (.tmp 25) (.tmp 23) rfl g 38 t'.now HN37.out rfl rfl HTH.out ?_))
   go_ret
   have e := HFIN.out
   rw [HX.out] at e
   rw [e]
   by_cases c : 0 ≤ x
   ·
    rw [if_pos c, decide_eq_true (show x ≥ 0 from c)]
    refine ⟨rfl, HBB.out, fun t2 e => ?_⟩
    cases e
    exact ⟨_, _, HTT.out⟩
   rw [if_neg c, decide_eq_false (show ¬ x ≥ 0 from c)]
   exact ⟨rfl, HBB.out, fun t2 e => by cases e⟩
  | succ gk =>
   have hltb : decide ((n : Int) < (l0.length : Int)) = true := by simp; omega
   obtain ⟨ad, rfl, hx0, hx1, hx2⟩ := at_T105 (HR0.out _ HBW.out) (n : Int) (by omega) (by omega)
   rw [Int.toNat_natCast] at hx0 hx1 hx2
   have hd := opl_drop l0 n (by omega)
   generalize rd_T105 l0 (n : Int) = x at *
   have HDR := am hd
   clear hd
   go_wp2_with fail
   refine (do_calls _ base g t' rv' kv' (H.out.below (below_alloc (Below.refl _ _) _)) (by have := HB.out; have := HBW.out.size; simp; omega) x.f0 x.f1 x.f2 (by have := HF.out; have := this.rows; have := HF.out.kept; have := HL.out; have := HF.out.size; omega)).mono ?_
   rintro e w2 ⟨rfl, hb2, hp⟩
   have hB2 : Below base w w2 := (HBW.out.trans ((below_alloc (Below.refl _ _) _).mono (by have := HB.out; have := HBW.out.size; omega))).trans hb2
   have he : doAll t' ((opl l0).drop n) = (does t' x.f0 x.f1 x.f2).bind fun t'' => doAll t'' ((opl l0).drop (n + 1)) := by rw [HDR.out]; rfl
   cases hd : does t' x.f0 x.f1 x.f2 with
   | none =>
    rw [hd] at he
    have HE := am (HD.out.trans he)
    have HB2 := am hB2
    clear he hd hb2 hp hB2
    simp only [Option.isSome_none]
    go_wp2
    go_ret
    have e : begin_ t (opl l0) = none := by unfold begin_; rw [HE.out]; rfl
    rw [e]
    exact ⟨rfl, HB2.out, fun _ e => by cases e⟩
   | some t2 =>
    rw [hd] at he
    obtain ⟨rv2, kv2, hT2⟩ := hp t2 hd
    have HE := am (HD.out.trans he)
    have HB2 := am hB2
    have HT2 := am hT2
    have HF2 := am (HF.out.step hd)
    clear he hd hb2 hp hB2 hT2
    simp only [Option.isSome_some]
    go_wp2
    go_roundg gk
    case measure => omega
    case rel => exact ⟨n + 1, t2, rv2, kv2, by omega, by go_num, HE, HT2, HB2, HF2⟩
end Go.Proofs.Ytfgfnflhdabmcaa.Cfa
end
section
namespace Go.Proofs.Ytfgfnflhdabmcaa.Cfa
open Go.RowKit Go.Proofs.Ytfgfnflhdabmcaa.G Go.Proofs.YtfgfnflhdabmcaaW.PrintWords Go.Proofs.YtfgfnflhdabmcaaW.PrintLast Go.Proofs.YtfgfnflhdabmcaaW.PrintMore
attribute [local go_sem] max2_int min2_int max_two min_two max_three min_three max_four min_four
/-- Rows by value hand-back: what Rows answers. -/
def RowsPost (w : World) (r : List Row × Int) (e : Ending) (w' : World) : Prop :=
  ∃ v, e = .returned (.tuple #[v, .int .i64 r.2]) ∧ Kd.R rowK 145 w' w.heap.size (fun _ => True) v r.1 ∧ Below w.heap.size w w'
theorem bounds_f (size m : Int) : cfa_bounds.f 1 size m = some (if size < 0 ∨ 1048576 < size then 11 else if 4000 < m then 6 else 0) := by
 unfold cfa_bounds.f
 by_cases c : size < 0
 ·
  rw [if_pos c, if_pos (.inl c)]
  simp only [cfa_bounds.j0, if_true]
 rw [if_neg c]
 by_cases c2 : 1048576 < size
 ·
  rw [if_pos (.inr c2), decide_eq_true (show size > 1048576 from c2)]
  simp only [cfa_bounds.j0, if_true]
 rw [if_neg (by omega), decide_eq_false (show ¬ size > 1048576 from c2)]
 simp only [cfa_bounds.j0]
 rw [if_neg (by decide)]
 by_cases c3 : 4000 < m
 ·
  rw [if_pos c3, if_pos c3]
 rw [if_neg c3, if_neg c3]
theorem rows_refused (A0 : Option Addr) (c0 : Nat) (l0 : List S105) (A1 : Option Addr) (c1 : Nat) (l1 : List S105) (size : Int) (w : World) (m : Int) (hmx : (if l0.length < l1.length then (l1.length : Int) else (l0.length : Int)) = m) (er : Int) (her : (if size < 0 ∨ 1048576 < size then (11 : Int) else if 4000 < m then 6 else 0) = er) (hne : er ≠ 0) :
    Calls Try.prog 64 #[.slice A0 l0.length c0, .slice A1 l1.length c1, .int .i64 size] w (RowsPost w ([], er)) := by
 have hb := bounds_f size m
 rw [her] at hb
 have HBD := am hb
 obtain ⟨d1, d2⟩ := may_ne hne
 clear hb her hne
 go_enter Try.func64, Try.ntmps64
 go_wp2
 go_step3
 go_wp2_with fail
 refine (cfa_bounds.calls 1 size m er _ HBD.out).mono ?_
 rintro e w1 ⟨rfl, hb1⟩
 go_wp2
 try rw [Exit.noGoto_ret]
 go_ret2
 exact ⟨_, rfl, Kd.R_nil _ _ _ _ _, hb1.below⟩
theorem rows_nobegin (A0 : Option Addr) (c0 : Nat) (l0 : List S105) (A1 : Option Addr) (c1 : Nat) (l1 : List S105) (size : Int) (w : World) (hr0 : Kd.C k105 w A0 l0.length l0) (hr1 : Kd.C k105 w A1 l1.length l1) (m : Int) (hmx : (if l0.length < l1.length then (l1.length : Int) else (l0.length : Int)) = m) (hs0 : 0 ≤ size) (hs1 : size ≤ 1048576) (hm : m ≤ 4000) (hl0 : l0.length ≤ 4000) (hl1 : l1.length ≤ 4000) (hbg : begin_ (fresh size) (opl l0) = none) :
    Calls Try.prog 64 #[.slice A0 l0.length c0, .slice A1 l1.length c1, .int .i64 size] w (RowsPost w ([], 130)) := by
 have hb := bounds_f size m
 rw [if_neg (by omega), if_neg (by omega)] at hb
 have HBD := am hb
 have HR0 := am hr0
 have HR1 := am hr1
 have HBG := am hbg
 have HS0 := am hs0
 have HS1 := am hs1
 clear hb hr0 hr1 hbg hs0 hs1 hm
 go_enter Try.func64, Try.ntmps64
 go_wp2
 go_step3
 go_wp2_with fail
 refine (cfa_bounds.calls 1 size m 0 _ HBD.out).mono ?_
 rintro e w1 ⟨rfl, hb1⟩
 have HB1 := am hb1.below
 clear hb1
 go_wp2_with fail
 refine (fresh_calls size HS1.out _).mono ?_
 rintro e w2 ⟨rfl, hb2, hT⟩
 have HB2 := am (below_step HB1.out hb2)
 have HT := am hT
 have hle : w.heap.size ≤ w1.heap.size := HB1.out.size
 have HLE := am hle
 have HBB := am hb2
 clear hb2 hT hle
 generalize w1.heap.size = g at *
 go_wp2_with fail
 refine (begin_calls _ w.heap.size g (fresh size) _ _ ⟨HT.out.good, HLE.out, HT.out.blk, Kd.R_nil _ _ _ _ _, Kd.R_nil _ _ _ _ _⟩ HB2.out.size A0 c0 l0 (fun W hW => Kd.C_below HR0.out (HB2.out.trans hW)) (by omega) ⟨by show 0 ≤ _; omega, by show 0 ≤ _; omega, HS0.out⟩).mono ?_
 rw [HBG.out]
 rintro e w3 ⟨rfl, hb3, -⟩
 have HB3 := am (HB2.out.trans hb3)
 clear hb3
 simp only [Option.isSome_none]
 go_wp2
 go_step3
 go_wp2
 go_loopg [10, 30] l1.length (fun kq v10 i w' => v10 = .bool false ∧ i = .int .i64 0 ∧ kq = l1.length ∧ Aside0 (Below w.heap.size w w'))
 case atStart => exact ⟨rfl, rfl, rfl, HB3⟩
 case round =>
  clear HB3
  obtain ⟨rfl, rfl, hk, HB3⟩ := hrel
  rcases Nat.eq_zero_or_pos l1.length with h0 | h0
  ·
   have hltb : decide ((0 : Int) < (l1.length : Int)) = false := decide_eq_false (by omega)
   go_wp2
   rw [Exit.noGoto_ret]
   go_ret2
   exact ⟨_, rfl, Kd.R_nil _ _ _ _ _, HB3.out⟩
  have hltb : decide ((0 : Int) < (l1.length : Int)) = true := decide_eq_true (by omega)
  obtain ⟨ad, rfl, hx0, hx1, hx2⟩ := at_T105 (Kd.C_below HR1.out HB3.out) (0 : Int) (by omega) (by omega)
  simp only [Int.toNat_zero, Nat.zero_mul] at hx0 hx1 hx2
  have hz : ad.add 0 = ad := by simp [Addr.add]
  rw [hz] at hx0 hx1 hx2
  generalize rd_T105 l1 (0 : Int) = x at *
  go_wp2
  rw [Exit.noGoto_ret]
  go_ret2
  exact ⟨_, rfl, Kd.R_nil _ _ _ _ _, below_alloc HB3.out _⟩
theorem doAll_far {t t' : T} : ∀ (l : List (Int × Int × Int)) (n : Nat) (t0 : T), Far t0 t n → doAll t l = some t' → Far t0 t' (n + l.length)
  | [], n, t0, h, e => by cases e; exact h
  | o :: l, n, t0, h, e => by
    unfold doAll at e
    cases hd : does t o.1 o.2.1 o.2.2 with
    | none => rw [hd] at e; cases e
    | some t2 =>
      rw [hd] at e
      have := doAll_far l (n + 1) t0 (h.step hd) e
      rw [List.length_cons, show n + (l.length + 1) = n + 1 + l.length from by omega]
      exact this
theorem begin_far {t t' : T} {l : List (Int × Int × Int)} (e : begin_ t l = some t') : t'.rows.length ≤ t.rows.length + l.length ∧ t'.kept.length ≤ t.kept.length + l.length ∧ t'.size = t.size := by
 unfold begin_ at e
 cases hd : doAll t l with
 | none => rw [hd] at e; cases e
 | some t2 =>
  rw [hd] at e
  have := doAll_far l 0 t (Far.zero t) hd
  rcases ite_cases e with ⟨_, e⟩ | ⟨_, e⟩
  ·
   cases e
   exact ⟨by show t2.rows.length ≤ _; have := this.rows; omega, by show t2.kept.length ≤ _; have := this.kept; omega, this.size⟩
  cases e
set_option maxHeartbeats 1000000 in
theorem rows_main (A0 : Option Addr) (c0 : Nat) (l0 : List S105) (A1 : Option Addr) (c1 : Nat) (l1 : List S105) (size : Int) (w : World) (hr0 : Kd.C k105 w A0 l0.length l0) (hr1 : Kd.C k105 w A1 l1.length l1) (m : Int) (hmx : (if l0.length < l1.length then (l1.length : Int) else (l0.length : Int)) = m) (hs0 : 0 ≤ size) (hs1 : size ≤ 1048576) (hm : m ≤ 4000) (hl0 : l0.length ≤ 4000) (hl1 : l1.length ≤ 4000) (t1 : T) (hbg : begin_ (fresh size) (opl l0) = some t1) :
    Calls Try.prog 64 #[.slice A0 l0.length c0, .slice A1 l1.length c1, .int .i64 size] w (RowsPost w (match doAll t1 (opl l1) with | none => ([], 130) | some t => (t.rows ++ [t.now], 0))) := by
 have hb := bounds_f size m
 rw [if_neg (by omega), if_neg (by omega)] at hb
 have HBD := am hb
 have HR0 := am hr0
 have HR1 := am hr1
 have hbf := begin_far hbg
 rw [opl_length] at hbf
 have HBF := am (show t1.rows.length ≤ 4000 ∧ t1.kept.length ≤ 4000 ∧ 0 ≤ t1.size from ⟨by have : (fresh size).rows.length = 0 := rfl; omega, by have : (fresh size).kept.length = 0 := rfl; omega, by have : (fresh size).size = size := rfl; omega⟩)
 have HBG := am hbg
 have HS0 := am hs0
 have HS1 := am hs1
 obtain ⟨R, hR⟩ : ∃ R, (match doAll t1 (opl l1) with | none => (([] : List Row), (130 : Int)) | some t => (t.rows ++ [t.now], 0)) = R := ⟨_, rfl⟩
 rw [hR]
 have HR := am hR
 clear hb hr0 hr1 hbg hs0 hs1 hm hR hbf
 go_enter Try.func64, Try.ntmps64
 go_wp2
 go_step3
 go_wp2_with fail
 refine (cfa_bounds.calls 1 size m 0 _ HBD.out).mono ?_
 rintro e w1 ⟨rfl, hb1⟩
 have HB1 := am hb1.below
 clear hb1
 go_wp2_with fail
 refine (fresh_calls size HS1.out _).mono ?_
 rintro e w2 ⟨rfl, hb2, hT⟩
 have HB2 := am (below_step HB1.out hb2)
 have HT := am hT
 have hle : w.heap.size ≤ w1.heap.size := HB1.out.size
 have HLE := am hle
 clear hb2 hT hle
 generalize w1.heap.size = g at *
 go_wp2_with fail
 refine (begin_calls _ w.heap.size g (fresh size) _ _ ⟨HT.out.good, HLE.out, HT.out.blk, Kd.R_nil _ _ _ _ _, Kd.R_nil _ _ _ _ _⟩ HB2.out.size A0 c0 l0 (fun W hW => Kd.C_below HR0.out (HB2.out.trans hW)) (by omega) ⟨by show 0 ≤ _; omega, by show 0 ≤ _; omega, HS0.out⟩).mono ?_
 rw [HBG.out]
 rintro e w3 ⟨rfl, hb3, hp⟩
 obtain ⟨rv, kv, hT3⟩ := hp t1 rfl
 have HT3 := am hT3
 have HB3 := am (HB2.out.trans hb3)
 clear hb3 hp hT3 HT HB2 HB1
 simp only [Option.isSome_some]
 go_wp2
 go_step3
 go_wp2
 go_loopg [10, 30] l1.length (fun kq v10 i w' => v10 = .bool true ∧ ∃ (n : Nat) (t' : T) (rv kv : Value), n + kq = l1.length ∧ i = .int .i64 (n : Int) ∧ Aside0 (doAll t1 (opl l1) = doAll t' ((opl l1).drop n)) ∧ Aside0 (Tab w' w.heap.size g t' rv kv) ∧ Aside0 (Below w.heap.size w w') ∧ Aside0 (Far t1 t' n))
 case atStart => exact ⟨rfl, 0, t1, rv, kv, by omega, rfl, ⟨rfl⟩, HT3, HB3, ⟨Far.zero t1⟩⟩
 case round =>
  clear HB3 HT3
  obtain ⟨rfl, n, t', rv', kv', hn, rfl, HD, HT, HB, HF⟩ := hrel
  cases gk with
  | zero =>
   have hltb : decide ((n : Int) < (l1.length : Int)) = false := decide_eq_false (by omega)
   have hd := HD.out
   rw [List.drop_of_length_le (by rw [opl_length]; omega)] at hd
   have hres := HR.out
   rw [hd] at hres
   have hres2 : (t'.rows ++ [t'.now], (0 : Int)) = R := hres
   subst hres2
   have f1 := HT.out.rowsC
   have HN := am HT.out.nowR
   clear hd hres HR HD
   go_wp2
   refine start_ (n := 12) (S := fun u => u.cell? ⟨g, 0, none⟩ = some rv' ∧ Aside0 (u.rangeAt g 1 (nums .i64 t'.now))) (ds := [9]) (bm 12 0) (by kernel_rfl) rfl rfl ?_ (fun hHeld => ?_)
   case refine_1 => exact ⟨by go_simp, ⟨(World.rangeAt_drew _ _ _ _).2 HN.out⟩⟩
   refine pure_ (i := 0) (N := some 45) (v := ?_) (a' := ?_) (bm 12 1) rfl rfl (by kernel_rfl) (fun _ _ _ h => h) (Or.inl ⟨by rfl, ?_⟩) ?_ ?_
   rotate_left
   ·
    intro u
    go_simp
    with_reducible rfl
   rotate_left
   ·
    simp only [pz]
    rfl
   refine pure_ (i := 1) (N := some 46) (v := ?_) (a' := ?_) (bm 12 3) rfl rfl (by kernel_rfl) (fun _ _ _ h => h) (Or.inl ⟨by rfl, ?_⟩) ?_ ?_
   rotate_left
   ·
    intro u
    go_simp
    with_reducible rfl
   rotate_left
   ·
    simp only [pz]
    rfl
   refine pure_ (i := 2) (N := some 47) (v := ?_) (a' := ?_) (bm 12 7) rfl rfl (by kernel_rfl) (fun _ _ _ h => h) (Or.inl ⟨by rfl, ?_⟩) ?_ ?_
   rotate_left
   ·
    intro u
    go_simp
    with_reducible rfl
   rotate_left
   ·
    simp only [pz]
    rfl
   refine take_ (i := 3) (N := some 48) (v := ?_) (a' := ?_) (bm 12 15) rfl rfl (by kernel_rfl) (fun _ _ _ h => h) (Or.inl ⟨by rfl, ?_⟩) hHeld ?_ ?_
   rotate_left
   ·
    rintro u ⟨s0, s1⟩
    go_simp
    with_reducible rfl
   rotate_left
   ·
    simp only [pz]
    rfl
   refine pure_ (i := 4) (N := some 49) (v := ?_) (a' := ?_) (bm 12 31) rfl rfl (by kernel_rfl) (fun _ _ _ h => h) (Or.inl ⟨by rfl, ?_⟩) ?_ ?_
   rotate_left
   ·
    intro u
    go_simp
    with_reducible rfl
   rotate_left
   ·
    simp only [pz]
    rfl
   refine pure_ (i := 5) (N := some 50) (v := ?_) (a' := ?_) (bm 12 63) rfl rfl (by kernel_rfl) (fun _ _ _ h => h) (Or.inl ⟨by rfl, ?_⟩) ?_ ?_
   rotate_left
   ·
    intro u
    go_simp
    with_reducible rfl
   rotate_left
   ·
    simp only [pz]
    rfl
   refine pure_ (i := 6) (N := some 51) (v := ?_) (a' := ?_) (bm 12 127) rfl rfl (by kernel_rfl) (fun _ _ _ h => h) (Or.inl ⟨by rfl, ?_⟩) ?_ ?_
   rotate_left
   ·
    intro u
    go_simp
    with_reducible rfl
   rotate_left
   ·
    simp only [pz]
    rfl
   refine take_ (i := 7) (N := some 52) (v := .agg (nums .i64 t'.now).toArray) (a' := ?_) (bm 12 255) rfl rfl (by kernel_rfl) (fun _ _ _ h => h) (load_row_y (by rfl) (.tmp 51) rfl g 1 rfl t'.now HT.out.good.now (fun u hu => hu.2.out)) hHeld ?_ ?_
   rotate_left
   ·
    simp only [pz]
    rfl
   refine one_ (i := 8) (N := some 53) (bm 12 511) rfl rfl (by kernel_rfl) (by decide) (fun K hK => ?_)
   rw [if_pos (by rfl)]
   refine wp_build_row (.tmp 52) rfl t'.now HT.out.good.now rfl ?_
   have hgl := blk_lt HT.out.blk
   refine hK.out _ _ ⟨by go_simp, ⟨World.rangeAt_alloc ((World.rangeAt_drew _ _ _ _).2 HN.out) _⟩⟩ (fun hHeld => ?_)
   clear hK K hgl
   refine norm_ (a' := ?_) ?_ ?_
   rotate_left
   ·
    show Act.put _ (some 53) _ = _
    simp only [pz]
    rfl
   refine last_ (i := 9) (N := some 54) (bm 12 1023) rfl rfl (by kernel_rfl) (by decide) (fun K hK => ?_)
   refine Kd.R_append_step rowK (w0 := w) w.heap.size (by rfl) (.tmp 48) (.tmp 53) 111 145 _ 296 rfl Try.underlying111 info145 rfl (by decide) (by decide) rv' t'.rows t'.now (nums .i64 t'.now) (fun k => True) (fun _ => False) rfl rfl (row_M _ _ _ _ HT.out.good.now) (fun _ h => h.elim) (fun _ _ => trivial) ?aO ?aB ?aS ?aL ?_
   case aO => exact Kd.R_mono (Kd.R_below HT.out.rows (below_drew (Below.refl _ _))) (fun _ _ => trivial)
   case aB => exact below_drew HB.out
   case aS => exact HB.out.size
   case aL => have := HBF.out.1; have := HF.out.rows; omega
   intro v1 w4 ho hbb hgr hat
   have HO := am ho
   have HBB := am hbb
   clear ho hbb hgr hat
   refine hK.out _ _ ?_
   clear hK K
   refine norm_ (a' := ?_) ?_ ?_
   rotate_left
   ·
    show Act.put _ (some 54) _ = _
    simp only [pz]
    rfl
   refine pure_ (i := 10) (N := some 6) (v := ?_) (a' := ?_) (bm 12 2047) rfl rfl (by kernel_rfl) (fun _ _ _ h => h) (Or.inl ⟨by rfl, ?_⟩) ?_ ?_
   rotate_left
   ·
    intro u
    go_simp
    with_reducible rfl
   rotate_left
   ·
    simp only [pz]
    rfl
   refine pure_ (i := 11) (N := some 7) (v := ?_) (a' := ?_) (bm 12 4095) rfl rfl (by kernel_rfl) (fun _ _ _ h => h) (Or.inl ⟨by rfl, ?_⟩) ?_ ?_
   rotate_left
   ·
    intro u
    go_simp
    with_reducible rfl
   rotate_left
   ·
    simp only [pz]
    rfl
   refine done_ (by kernel_rfl) ?_
   go_wp2
   rw [Exit.noGoto_ret]
   go_ret2
   exact ⟨_, rfl, HO.out, HBB.out⟩
  | succ gk =>
   have hltb : decide ((n : Int) < (l1.length : Int)) = true := decide_eq_true (by omega)
   obtain ⟨ad, rfl, hx0, hx1, hx2⟩ := at_T105 (Kd.C_below HR1.out HB.out) (n : Int) (by omega) (by omega)
   rw [Int.toNat_natCast] at hx0 hx1 hx2
   have hd := opl_drop l1 n (by omega)
   generalize rd_T105 l1 (n : Int) = x at *
   have HDR := am hd
   clear hd
   go_wp2_with fail
   refine (do_calls _ w.heap.size g t' rv' kv' (HT.out.below (below_alloc (Below.refl _ _) _)) (by have := HB.out.size; simp; omega) x.f0 x.f1 x.f2 (by have := HF.out.rows; have := HF.out.kept; have := HBF.out; have := HF.out.size; omega)).mono ?_
   rintro e w5 ⟨rfl, hb2, hp⟩
   have hB2 : Below w.heap.size w w5 := (below_alloc HB.out _).trans hb2
   have he : doAll t' ((opl l1).drop n) = (does t' x.f0 x.f1 x.f2).bind fun t'' => doAll t'' ((opl l1).drop (n + 1)) := by rw [HDR.out]; rfl
   cases hd : does t' x.f0 x.f1 x.f2 with
   | none =>
    rw [hd] at he
    have HE := am (HD.out.trans he)
    have HB2 := am hB2
    clear he hd hb2 hp hB2
    simp only [Option.isSome_none]
    go_wp2
    rw [Exit.noGoto_ret]
    go_ret2
    have hres := HR.out
    rw [HE.out] at hres
    have hres2 : ([], (130 : Int)) = R := hres
    subst hres2
    exact ⟨_, rfl, Kd.R_nil _ _ _ _ _, HB2.out⟩
   | some t2 =>
    rw [hd] at he
    obtain ⟨rv2, kv2, hT2⟩ := hp t2 hd
    have HE := am (HD.out.trans he)
    have HB2 := am hB2
    have HT2 := am hT2
    have HF2 := am (HF.out.step hd)
    clear he hd hb2 hp hB2 hT2
    simp only [Option.isSome_some]
    go_wp2
    go_roundg gk
    case measure => omega
    case rel => exact ⟨rfl, n + 1, t2, rv2, kv2, by omega, by go_num, HE, HT2, HB2, HF2⟩
theorem rows_calls (A0 : Option Addr) (c0 : Nat) (l0 : List S105) (A1 : Option Addr) (c1 : Nat) (l1 : List S105) (size : Int) (w : World) (hr0 : Kd.C k105 w A0 l0.length l0) (hr1 : Kd.C k105 w A1 l1.length l1) :
    Calls Try.prog 64 #[.slice A0 l0.length c0, .slice A1 l1.length c1, .int .i64 size] w (RowsPost w (rowsOf (opl l0) (opl l1) size)) := by
 obtain ⟨m, hm⟩ : ∃ m, (if l0.length < l1.length then (l1.length : Int) else (l0.length : Int)) = m := ⟨_, rfl⟩
 have hm1 : (l0.length : Int) ≤ m ∧ (l1.length : Int) ≤ m ∧ (m = l0.length ∨ m = l1.length) := by rw [← hm]; split <;> omega
 unfold rowsOf
 rw [opl_length, opl_length]
 by_cases c1' : size < 0 ∨ 1048576 < size
 ·
  rw [if_pos c1']
  exact rows_refused A0 c0 l0 A1 c1 l1 size w m hm 11 (if_pos c1') (by decide)
 rw [if_neg c1']
 by_cases c2 : 4000 < l0.length ∨ 4000 < l1.length
 ·
  rw [if_pos c2]
  exact rows_refused A0 c0 l0 A1 c1 l1 size w m hm 6 (by rw [if_neg c1', if_pos (by omega)]) (by decide)
 rw [if_neg c2]
 unfold run
 cases hb : begin_ (fresh size) (opl l0) with
 | none => exact rows_nobegin A0 c0 l0 A1 c1 l1 size w hr0 hr1 m hm (by omega) (by omega) (by omega) (by omega) (by omega) hb
 | some t1 => exact rows_main A0 c0 l0 A1 c1 l1 size w hr0 hr1 m hm (by omega) (by omega) (by omega) (by omega) (by omega) t1 hb
end Go.Proofs.Ytfgfnflhdabmcaa.Cfa
end
section
namespace Go.Proofs.Ytfgfnflhdabmcaa.Cfa
open Go.RowKit Go.Proofs.Ytfgfnflhdabmcaa.G Go.Proofs.YtfgfnflhdabmcaaW.PrintWords Go.Proofs.YtfgfnflhdabmcaaW.PrintLast Go.Proofs.YtfgfnflhdabmcaaW.PrintMore
theorem check_calls (A0 : Option Addr) (c0 : Nat) (l0 : List S105) (A1 : Option Addr) (c1 : Nat) (l1 : List S105) (size : Int) (w : World) (hr0 : Kd.C k105 w A0 l0.length l0) (hr1 : Kd.C k105 w A1 l1.length l1) (R : List Row × Int) (hR : rowsOf (opl l0) (opl l1) size = R) :
    Calls Try.prog 31 #[.slice A0 l0.length c0, .slice A1 l1.length c1, .int .i64 size] w fun e w' => e = .returned (.int .i64 R.2) ∧ Below w.heap.size w w' := by
 have hc := Cfa.rows_calls A0 c0 l0 A1 c1 l1 size w hr0 hr1
 rw [hR] at hc
 have HC := am hc
 clear hc hR hr0 hr1
 go_enter Try.func31, Try.ntmps31
 go_wp2_with fail
 refine HC.out.mono ?_
 rintro e w1 ⟨v, rfl, hv, hw1⟩
 clear hv HC
 simp only []
 go_wp2
 go_ret
 exact ⟨rfl, hw1⟩
end Go.Proofs.Ytfgfnflhdabmcaa.Cfa
end
section
namespace Go.Proofs.Ytfgfnflhdabmcaa.G
open Go.RowKit Go.Proofs.YtfgfnflhdabmcaaW.PrintWords Go.Proofs.YtfgfnflhdabmcaaW.PrintLast Go.Proofs.YtfgfnflhdabmcaaW.PrintMore
attribute [local go_sem] max2_int min2_int max_two min_two max_three min_three max_four min_four
def ehframe_near.l0 : Nat → List Int → Int → Int → Option (Bool)
  | 0, _, _, _ => none
  | k + 1, x5, x6, x7 => if x7 < x6 then (if 0 ≤ x7 then (if x7 < (x5.length : Int) then (if (rd x5 x7) < (-1152921504606846976) then (some false) else (if (rd x5 x7) > 1152921504606846976 then (some false) else (ehframe_near.l0 k x5 x6 (wrap64 (x7 + 1))))) else (none)) else (none)) else (some true)
def ehframe_near.f (k : Nat) (l0 : List Int) : Option (Bool) := ehframe_near.l0 k l0 (l0.length : Int) 0
theorem ehframe_near.mono_l : ∀ k, (∀ y0 y1 y2, LeO (ehframe_near.l0 k y0 y1 y2) (ehframe_near.l0 (k + 1) y0 y1 y2))
  | 0 => fun _ _ _ r h => by simp [ehframe_near.l0] at h
  | k + 1 => by
    have ih0 := ehframe_near.mono_l k
    · intro y0 y1 y2
      unfold ehframe_near.l0
      repeat' first
      | (with_reducible exact ih0 _ _ _)
      | (with_reducible exact LeO.refl _)
      | (with_reducible exact LeO.none _)
      | (with_reducible refine LeO.ite ?_ ?_)
      | (with_reducible refine LeO.bind ?_ (fun _ => ?_))
      | exact ih0 _ _ _
      | exact LeO.none _
      | refine LeO.ite ?_ ?_
      | refine LeO.bind ?_ (fun _ => ?_)
theorem ehframe_near.mono : ∀ a0 k, LeO (ehframe_near.f k a0) (ehframe_near.f (k + 1) a0) := by
 intro a0 k
 have ih0 := ehframe_near.mono_l k
 unfold ehframe_near.f
 repeat' first
     | (with_reducible exact ih0 _ _ _)
     | (with_reducible exact LeO.refl _)
     | (with_reducible exact LeO.none _)
     | (with_reducible refine LeO.ite ?_ ?_)
     | (with_reducible refine LeO.bind ?_ (fun _ => ?_))
     | exact ih0 _ _ _
     | exact LeO.none _
     | refine LeO.ite ?_ ?_
     | refine LeO.bind ?_ (fun _ => ?_)
set_option maxHeartbeats 8000000 in
theorem ehframe_near.calls (k : Nat) (A0 : Option Addr) (c0 : Nat) (l0 : List Int) (r : Bool) (w : World) (hr0 : Kd.C (Kd.int .i64) w A0 l0.length l0) (hc0 : l0.length ≤ c0) (h : ehframe_near.f k l0 = some r) :
    Calls Try.prog 30 #[.slice A0 l0.length c0] w fun e w' => e = .returned (.bool r) ∧ Drawn0 w w' := by
 have HR0 := am hr0
 have HC0 := am hc0
 clear hr0 hc0
 have H : (ehframe_near.l0 k l0 (l0.length : Int) 0) = some r := h
 clear h
 have H' := am H
 clear H
 go_enter Try.func30, Try.ntmps30
 go_wp2
 go_loopg [7] k (fun kq v7 w' => ∃ (x7_1 : Int), v7 = .int .i64 x7_1 ∧ Aside0 (ehframe_near.l0 kq l0 (l0.length : Int) x7_1 = some r) ∧ Aside0 (kq ≤ k) ∧ Drawn0 w w')
 case atStart => exact ⟨(0), (by first | rfl | (simp; done) | (simp [*]; done)), H', ⟨Nat.le_refl _⟩, by repeat (first | exact Drawn0.refl _ | apply Drawn0.step)⟩
 case round =>
  clear H'
  obtain ⟨x7_1, rfl, HA, HK1, ⟨m1, rfl⟩⟩ := hrel
  cases gk with
  | zero => exact absurd HA.out (by simp [ehframe_near.l0])
  | succ k1 =>
   have H := HA.out
   clear HA
   simp only [ehframe_near.l0] at H
   by_cases c2 : x7_1 < (l0.length : Int)
   rotate_left
   ·
    rw [if_neg c2] at H
    have c2b0 : decide (x7_1 < (l0.length : Int)) = false := decide_eq_false c2
    clear c2
    obtain rfl := Option.some.inj H
    go_wp2
    go_ret
    exact ⟨by first | rfl | (simp; done) | (simp [*]; done), by repeat (first | exact Drawn0.refl _ | apply Drawn0.step)⟩
   rw [if_pos c2] at H
   have c2b0 : decide (x7_1 < (l0.length : Int)) = true := decide_eq_true c2
   clear c2
   by_cases c3 : 0 ≤ x7_1
   rotate_left
   ·
    rw [if_neg c3] at H
    exact absurd H (by simp)
   rw [if_pos c3] at H
   have c3b0 : decide (0 ≤ x7_1) = true := decide_eq_true c3
   clear c3
   by_cases c4 : x7_1 < (l0.length : Int)
   rotate_left
   ·
    rw [if_neg c4] at H
    exact absurd H (by simp)
   rw [if_pos c4] at H
   have c4b0 : decide (x7_1 < (l0.length : Int)) = true := decide_eq_true c4
   clear c4
   by_cases c5 : (rd l0 x7_1) < (-1152921504606846976)
   ·
    rw [if_pos c5] at H
    have c5b0 : decide ((rd l0 x7_1) < (-1152921504606846976)) = true := decide_eq_true c5
    clear c5
    obtain rfl := Option.some.inj H
    have p101 : 0 ≤ (x7_1 : Int) := od
    have q101 : x7_1 < (l0.length : Int) := od
    obtain ⟨ad101, e101, hx101_0⟩ := Kd.at_int HR0.out x7_1 p101 q101
    cases e101
    replace p101 := eq_true p101
    replace q101 := eq_true q101
    go_wp2
    go_ret
    exact ⟨by first | rfl | (simp; done) | (simp [*]; done), by repeat (first | exact Drawn0.refl _ | apply Drawn0.step)⟩
   rw [if_neg c5] at H
   have c5b0 : decide ((rd l0 x7_1) < (-1152921504606846976)) = false := decide_eq_false c5
   clear c5
   by_cases c6 : (rd l0 x7_1) > 1152921504606846976
   ·
    rw [if_pos c6] at H
    have c6b0 : decide (1152921504606846976 < (rd l0 x7_1)) = true := decide_eq_true c6
    clear c6
    obtain rfl := Option.some.inj H
    have p101 : 0 ≤ (x7_1 : Int) := od
    have q101 : x7_1 < (l0.length : Int) := od
    obtain ⟨ad101, e101, hx101_0⟩ := Kd.at_int HR0.out x7_1 p101 q101
    cases e101
    replace p101 := eq_true p101
    replace q101 := eq_true q101
    go_wp2
    go_ret
    exact ⟨by first | rfl | (simp; done) | (simp [*]; done), by repeat (first | exact Drawn0.refl _ | apply Drawn0.step)⟩
   rw [if_neg c6] at H
   have c6b0 : decide (1152921504606846976 < (rd l0 x7_1)) = false := decide_eq_false c6
   clear c6
   have H' := am H
   clear H
   have p101 : 0 ≤ (x7_1 : Int) := od
   have q101 : x7_1 < (l0.length : Int) := od
   obtain ⟨ad101, e101, hx101_0⟩ := Kd.at_int HR0.out x7_1 p101 q101
   cases e101
   replace p101 := eq_true p101
   replace q101 := eq_true q101
   go_wp2
   go_roundg k1
   case measure => have := HK1.out; omega
   case rel => exact ⟨(wrap64 (x7_1 + 1)), (by first | rfl | (simp; done) | (simp [*]; done)), H', ⟨by have := HK1.out; omega⟩, by repeat (first | exact Drawn0.refl _ | apply Drawn0.step)⟩
end Go.Proofs.Ytfgfnflhdabmcaa.G
end
section
namespace Go.Proofs.Ytfgfnflhdabmcaa.Eh
open Go.RowKit Go.Proofs.Ytfgfnflhdabmcaa.G Go.Proofs.YtfgfnflhdabmcaaW.PrintWords Go.Proofs.YtfgfnflhdabmcaaW.PrintLast Go.Proofs.YtfgfnflhdabmcaaW.PrintMore
/-- beyond 2^60? -/
def farB (x : Int) : Bool := decide (x < -1152921504606846976) || decide (1152921504606846976 < x)
theorem far_no {x : Int} (h : farB x = false) : -1152921504606846976 ≤ x ∧ x ≤ 1152921504606846976 := by
  simp only [farB, Bool.or_eq_false_iff, decide_eq_false_iff_not] at h
  omega
theorem near_step (l : List Int) (i : Nat) (h : i < l.length) (hl : l.length ≤ 100) (k : Nat) : ehframe_near.l0 (k + 1) l (l.length : Int) (i : Int) = if farB (rd l (i : Int)) = true then some false else ehframe_near.l0 k l (l.length : Int) ((i + 1 : Nat) : Int) := by
  rw [ehframe_near.l0, if_pos (by omega), if_pos (by omega), if_pos (by omega), show wrap64 ((i : Int) + 1) = ((i + 1 : Nat) : Int) from by unfold wrap64; omega]
  unfold farB
  by_cases h1 : rd l (i : Int) < -1152921504606846976
  · rw [if_pos h1, if_pos (by simp [h1])]
  · rw [if_neg h1]
    by_cases h2 : rd l (i : Int) > 1152921504606846976
    · rw [if_pos h2, if_pos (by simp; omega)]
    · rw [if_neg h2, if_neg (by simp; omega)]
theorem near_end (l : List Int) (k : Nat) : ehframe_near.l0 (k + 1) l (l.length : Int) (l.length : Int) = some true := by
  rw [ehframe_near.l0, if_neg (by omega)]
theorem near1 (x : Int) (k : Nat) (hk : 4 ≤ k) : ehframe_near.f k [x] = some (!farB x) := by
  obtain ⟨k, rfl⟩ : ∃ m, k = m + 2 := ⟨k - 2, by omega⟩
  unfold ehframe_near.f
  have h0 := near_step [x] 0 (by simp) (by simp) (k + 1)
  have h1 := near_end [x] k
  rw [show ((0 : Nat) : Int) = 0 from rfl, show rd [x] 0 = x from rfl] at h0
  rw [h0]
  cases hx : farB x
  · exact h1
  · rfl
theorem near2 (x y : Int) (k : Nat) (hk : 4 ≤ k) : ehframe_near.f k [x, y] = some (!(farB x || farB y)) := by
  obtain ⟨k, rfl⟩ : ∃ m, k = m + 3 := ⟨k - 3, by omega⟩
  unfold ehframe_near.f
  have h0 := near_step [x, y] 0 (by simp) (by simp) (k + 2)
  have h1 := near_step [x, y] 1 (by simp) (by simp) (k + 1)
  have h2 := near_end [x, y] k
  rw [show ((0 : Nat) : Int) = 0 from rfl, show rd [x, y] 0 = x from rfl] at h0
  rw [show rd [x, y] ((1 : Nat) : Int) = y from rfl] at h1
  rw [h0]
  cases hx : farB x
  · refine h1.trans ?_
    cases hy : farB y
    · exact h2
    · rfl
  · rfl
end Go.Proofs.Ytfgfnflhdabmcaa.Eh
end
