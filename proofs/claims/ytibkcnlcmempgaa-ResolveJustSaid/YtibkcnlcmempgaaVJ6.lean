/- Lemmas and contracts, one text behind the other: what the row of this claim needs; no conditions beyond those that each theorem names. -/
import Derived.Test.YtibkcnlcmempgaaVJ5
section
namespace Go.Proofs.Ytibkcnlcmempgaa.G
open Go.RowKit Go.Proofs.YtibkcnlcmempgaaW.PrintWords Go.Proofs.YtibkcnlcmempgaaW.PrintLast Go.Proofs.YtibkcnlcmempgaaW.PrintMore
attribute [local go_sem] max2_int min2_int max_two min_two max_three min_three max_four min_four   -- for this text's walks alone
set_option linter.unusedVariables false
set_option linter.unusedSimpArgs false
mutual
def gangwaylaw18_ResolveJust.l0 : Nat → List (S36) → List (S42) → Bool → Int → Int → ByteArray → Option (Bool)
  | 0, _, _, _, _, _, _ => none
  | k + 1, x0, x3, x5, x6, x107000, x107001 => if x6 < (x0.length : Int) then (gangwaylaw18_ResolveJust.l1 k x0 x3 x5 x6 0 x107000 x107001) else ((gangwaylaw18_num.f x107000).bind fun t119 => (if (x5 != (t119 != 0)) = true then (none) else (gangwaylaw18_ResolveJust.l2 k x0 x3 0)))
def gangwaylaw18_ResolveJust.l1 : Nat → List (S36) → List (S42) → Bool → Int → Int → Int → ByteArray → Option (Bool)
  | 0, _, _, _, _, _, _, _ => none
  | k + 1, x0, x3, x5, x6, x7, x107000, x107001 => if 0 ≤ x6 then (if x6 < (x0.length : Int) then (if x7 < (((rd_T36 x0 x6).f1).length : Int) then (if 0 ≤ x7 then (if ((rd_T38 ((rd_T36 x0 x6).f1) x7).f4) = 0 then (gangwaylaw18_ResolveJust.l1 k x0 x3 x5 x6 (wrap64 (x7 + 1)) x107000 x107001) else ((gangwaylaw18_strong.f k x0 ((rd_T38 ((rd_T36 x0 x6).f1) x7).f0)).bind fun t116 => (if x5 = true then (gangwaylaw18_ResolveJust.l1 k x0 x3 true x6 (wrap64 (x7 + 1)) x107000 x107001) else (if t116 > 1 then (gangwaylaw18_ResolveJust.l1 k x0 x3 true x6 (wrap64 (x7 + 1)) x107000 x107001) else ((gangwaylaw18_mixed.f k x0 ((rd_T38 ((rd_T36 x0 x6).f1) x7).f0)).bind fun t117 => (if t117 = true then (gangwaylaw18_ResolveJust.l1 k x0 x3 true x6 (wrap64 (x7 + 1)) x107000 x107001) else (if ((rd_T38 ((rd_T36 x0 x6).f1) x7).f1).toList = ([] : List UInt8) then (if ((rd_T38 ((rd_T36 x0 x6).f1) x7).f4) = 1 then ((gangwaylaw18_defined.f k x0 ((rd_T38 ((rd_T36 x0 x6).f1) x7).f0)).bind fun t118 => (gangwaylaw18_ResolveJust.l1 k x0 x3 (!t118) x6 (wrap64 (x7 + 1)) x107000 x107001)) else (gangwaylaw18_ResolveJust.l1 k x0 x3 false x6 (wrap64 (x7 + 1)) x107000 x107001)) else (gangwaylaw18_ResolveJust.l1 k x0 x3 false x6 (wrap64 (x7 + 1)) x107000 x107001)))))))) else (none)) else (gangwaylaw18_ResolveJust.l0 k x0 x3 x5 (wrap64 (x6 + 1)) x107000 x107001)) else (none)) else (none)
def gangwaylaw18_ResolveJust.l2 : Nat → List (S36) → List (S42) → Int → Option (Bool)
  | 0, _, _, _ => none
  | k + 1, x0, x3, x10 => if x10 < (x3.length : Int) then (if 0 ≤ x10 then (if ((rd_T42 x3 x10).f1) < 0 then (if ((rd_T42 x3 x10).f2) = (-1) then ((gangwaylaw18_defined.f k x0 ((rd_T42 x3 x10).f0)).bind fun t123 => (if t123 = true then (none) else (gangwaylaw18_ResolveJust.l2 k x0 x3 (wrap64 (x10 + 1))))) else (none)) else (if ((rd_T42 x3 x10).f1) ≥ (x0.length : Int) then (gangwaylaw18_ResolveJust.j3 k x0 x3 x10 true ((rd_T42 x3 x10).f0) ((rd_T42 x3 x10).f1) ((rd_T42 x3 x10).f2) ((rd_T42 x3 x10).f3) ((rd_T42 x3 x10).f4)) else (if ((rd_T42 x3 x10).f2) < 0 then (gangwaylaw18_ResolveJust.j3 k x0 x3 x10 true ((rd_T42 x3 x10).f0) ((rd_T42 x3 x10).f1) ((rd_T42 x3 x10).f2) ((rd_T42 x3 x10).f3) ((rd_T42 x3 x10).f4)) else (if 0 ≤ ((rd_T42 x3 x10).f1) then (if ((rd_T42 x3 x10).f1) < (x0.length : Int) then (gangwaylaw18_ResolveJust.j3 k x0 x3 x10 (decide (((rd_T42 x3 x10).f2) ≥ (((rd_T36 x0 ((rd_T42 x3 x10).f1)).f1).length : Int))) ((rd_T42 x3 x10).f0) ((rd_T42 x3 x10).f1) ((rd_T42 x3 x10).f2) ((rd_T42 x3 x10).f3) ((rd_T42 x3 x10).f4)) else (none)) else (none))))) else (none)) else ((gangwaylaw18_live.f).bind fun t120 => (some t120))
def gangwaylaw18_ResolveJust.j3 : Nat → List (S36) → List (S42) → Int → Bool → ByteArray → Int → Int → Int → Int → Option (Bool)
  | 0, _, _, _, _, _, _, _, _, _ => none
  | k + 1, x0, x3, x10, x144, x123000, x123001, x123002, x123003, x123004 => if x144 = true then (none) else (if 0 ≤ x123001 then (if x123001 < (x0.length : Int) then (if 0 ≤ x123002 then (if x123002 < (((rd_T36 x0 x123001).f1).length : Int) then (if ((rd_T38 ((rd_T36 x0 x123001).f1) x123002).f0).toList = x123000.toList then (if ((rd_T38 ((rd_T36 x0 x123001).f1) x123002).f1).toList = ([] : List UInt8) then (none) else (if ((rd_T38 ((rd_T36 x0 x123001).f1) x123002).f4) = x123003 then ((gangwaylaw18_strong.f k x0 x123000).bind fun t128 => (if ((((rd_T38 ((rd_T36 x0 x123001).f1) x123002).f4) == 1) != (decide (t128 > 0))) = true then (none) else (gangwaylaw18_ResolveJust.l2 k x0 x3 (wrap64 (x10 + 1))))) else (none))) else (none)) else (none)) else (none)) else (none)) else (none))
end
def gangwaylaw18_ResolveJust.f (k : Nat) (l0 : List (S36)) : Option (Bool) := (resolve_All.f l0).bind fun bt101 => ((resolve_Check.f l0).bind fun t107 => ((gangwaylaw18_num.f t107).bind fun t108 => (if t108 = 0 then ((gangwaylaw18_clash.f k l0).bind fun t111 => (gangwaylaw18_ResolveJust.l0 k l0 bt101.1 t111 0 bt101.2.1 bt101.2.2)) else ((gangwaylaw18_num.f bt101.2.1).bind fun t109 => (if t109 = 0 then (none) else (if (bt101.1.length : Int) = 0 then ((gangwaylaw18_live.f).bind fun t110 => (some t110)) else (none)))))))
def gangwaylaw18_ResolveJust.T24 : Bool × List (List Nat × List Nat) := (true, [([], []), ([0], [0]), ([], []), ([2], [2]), ([1, 3], [1, 3]), ([4], [4]), ([5], [5]), ([6, 5], [5, 6]), ([7, 5], [5, 7]), ([5, 8], [5, 8]), ([9, 5], [9]), ([10], [10]), ([11, 10], [10, 11]), ([10], [10]), ([10], [10]), ([14, 10], [10, 14]), ([13, 15, 10], [10, 13, 15]), ([16, 10], [10, 16]), ([17, 10], [10, 17]), ([18, 10], [10, 18]), ([12, 19, 10], [10, 12, 19]), ([10, 20], [10, 20])])
def gangwaylaw18_ResolveJust.B24 : List Nat := [0, 1, 0, 4, 15, 31, 63, 127, 255, 511, 1023, 2047, 4095, 2047, 2047, 18431, 59391, 124927, 255999, 518143, 1048575, 2097151]
theorem gangwaylaw18_ResolveJust.tab24 : rtab .any (opsOf Try.f3 24) = gangwaylaw18_ResolveJust.T24 := by kernel_rfl
theorem gangwaylaw18_ResolveJust.bits24 : waitsOk gangwaylaw18_ResolveJust.T24.2 gangwaylaw18_ResolveJust.B24 = true := by kernel_rfl
def gangwaylaw18_ResolveJust.T26 : Bool × List (List Nat × List Nat) := (true, [([], []), ([], []), ([1], [1]), ([0, 2], [0, 2]), ([3], [3]), ([4], [4]), ([], []), ([6], [6]), ([5, 7], [5, 7]), ([8], [8]), ([], []), ([10, 9, 0, 1, 2, 3, 4, 5, 6, 7, 8, 9, 10], [9, 10])])
def gangwaylaw18_ResolveJust.B26 : List Nat := [0, 0, 2, 7, 15, 31, 0, 64, 255, 511, 0, 2047]
theorem gangwaylaw18_ResolveJust.tab26 : rtab .any (opsOf Try.f3 26) = gangwaylaw18_ResolveJust.T26 := by kernel_rfl
theorem gangwaylaw18_ResolveJust.bits26 : waitsOk gangwaylaw18_ResolveJust.T26.2 gangwaylaw18_ResolveJust.B26 = true := by kernel_rfl
def gangwaylaw18_ResolveJust.T27 : Bool × List (List Nat × List Nat) := (true, [([], []), ([0], [0]), ([], []), ([2], [2]), ([1, 3], [1, 3]), ([4], [4]), ([5], [5]), ([6, 5], [5, 6]), ([7, 5], [5, 7]), ([5, 8], [5, 8]), ([9, 5], [9]), ([10], [10]), ([11, 10], [10, 11]), ([10], [10]), ([13, 10], [10, 13]), ([12, 14, 10], [10, 12, 14]), ([10, 15], [10, 15]), ([16, 10], [16]), ([17], [17]), ([18, 17], [17, 18]), ([19, 17], [17, 19]), ([17], [17]), ([17], [17]), ([22, 17], [17, 22]), ([21, 23, 17, 17], [17, 21, 23]), ([24, 17], [17, 24]), ([20, 25, 17], [17, 20, 25]), ([17, 26], [17, 26])])
def gangwaylaw18_ResolveJust.B27 : List Nat := [0, 1, 0, 4, 15, 31, 63, 127, 255, 511, 1023, 2047, 4095, 2047, 10239, 32767, 65535, 131071, 262143, 524287, 1048575, 262143, 262143, 4456447, 14942207, 31719423, 67108863, 134217727]
theorem gangwaylaw18_ResolveJust.tab27 : rtab .any (opsOf Try.f3 27) = gangwaylaw18_ResolveJust.T27 := by kernel_rfl
theorem gangwaylaw18_ResolveJust.bits27 : waitsOk gangwaylaw18_ResolveJust.T27.2 gangwaylaw18_ResolveJust.B27 = true := by kernel_rfl
set_option maxHeartbeats 8000000 in
set_option maxRecDepth 100000 in
theorem gangwaylaw18_ResolveJust.calls (k : Nat) (A0 : Option Addr) (c0 : Nat) (l0 : List (S36)) (r : Bool) (w : World) (hr0 : Kd.C k36 w A0 l0.length l0) (hc0 : l0.length ≤ c0) (h : gangwaylaw18_ResolveJust.f k l0 = some r) :
    Calls Try.prog 3 #[.slice A0 l0.length c0] w fun e w' => e = .returned (.bool r) ∧ Below w.heap.size w w' := by
 have hu26 := Try.underlying26
 have hu38 := Try.underlying38
 have hu42 := Try.underlying42
 have HR0 := am hr0
 have HC0 := am hc0
 clear hr0 hc0
 have HB := am (Below.refl w.heap.size w)
 have H : ((resolve_All.f l0).bind fun bt101 => ((resolve_Check.f l0).bind fun t107 => ((gangwaylaw18_num.f t107).bind fun t108 => (if t108 = 0 then ((gangwaylaw18_clash.f k l0).bind fun t111 => (gangwaylaw18_ResolveJust.l0 k l0 bt101.1 t111 0 bt101.2.1 bt101.2.2)) else ((gangwaylaw18_num.f bt101.2.1).bind fun t109 => (if t109 = 0 then (none) else (if (bt101.1.length : Int) = 0 then ((gangwaylaw18_live.f).bind fun t110 => (some t110)) else (none)))))))) = some r := h
 clear h
 replace H := Option.bind_eq_some_iff.mp H
 obtain ⟨⟨t101, t104, t105⟩, A20, H⟩ := H
 replace H : ((resolve_Check.f l0).bind fun t107 => ((gangwaylaw18_num.f t107).bind fun t108 => (if t108 = 0 then ((gangwaylaw18_clash.f k l0).bind fun t111 => (gangwaylaw18_ResolveJust.l0 k l0 t101 t111 0 t104 t105)) else ((gangwaylaw18_num.f t104).bind fun t109 => (if t109 = 0 then (none) else (if (t101.length : Int) = 0 then ((gangwaylaw18_live.f).bind fun t110 => (some t110)) else (none))))))) = some r := H
 have A2 := am A20
 clear A20
 replace H := Option.bind_eq_some_iff.mp H
 obtain ⟨t107, A30, H⟩ := H
 replace H : ((gangwaylaw18_num.f t107).bind fun t108 => (if t108 = 0 then ((gangwaylaw18_clash.f k l0).bind fun t111 => (gangwaylaw18_ResolveJust.l0 k l0 t101 t111 0 t104 t105)) else ((gangwaylaw18_num.f t104).bind fun t109 => (if t109 = 0 then (none) else (if (t101.length : Int) = 0 then ((gangwaylaw18_live.f).bind fun t110 => (some t110)) else (none)))))) = some r := H
 have A3 := am A30
 clear A30
 replace H := Option.bind_eq_some_iff.mp H
 obtain ⟨t108, A40, H⟩ := H
 replace H : (if t108 = 0 then ((gangwaylaw18_clash.f k l0).bind fun t111 => (gangwaylaw18_ResolveJust.l0 k l0 t101 t111 0 t104 t105)) else ((gangwaylaw18_num.f t104).bind fun t109 => (if t109 = 0 then (none) else (if (t101.length : Int) = 0 then ((gangwaylaw18_live.f).bind fun t110 => (some t110)) else (none))))) = some r := H
 have A4 := am A40
 clear A40
 by_cases c5 : t108 = 0
 rotate_left
 ·
  rw [if_neg c5] at H
  have c5b0 : (t108 == 0) = false := beq_eq_false_iff_ne.mpr c5
  have c5b1 : (t108 != 0) = true := bne_iff_ne.mpr c5
  replace H := Option.bind_eq_some_iff.mp H
  obtain ⟨t109, A1180, H⟩ := H
  replace H : (if t109 = 0 then (none) else (if (t101.length : Int) = 0 then ((gangwaylaw18_live.f).bind fun t110 => (some t110)) else (none))) = some r := H
  have A118 := am A1180
  clear A1180
  by_cases c119 : t109 = 0
  ·
   rw [if_pos c119] at H
   exact absurd H (by simp)
  rw [if_neg c119] at H
  have c119b0 : (t109 == 0) = false := beq_eq_false_iff_ne.mpr c119
  have c119b1 : (t109 != 0) = true := bne_iff_ne.mpr c119
  by_cases c120 : (t101.length : Int) = 0
  rotate_left
  ·
   rw [if_neg c120] at H
   exact absurd H (by simp)
  rw [if_pos c120] at H
  have c120b0 : ((t101.length : Int) == 0) = true := beq_iff_eq.mpr c120
  have c120b1 : ((t101.length : Int) != 0) = false := bne_eq_false_iff_eq.mpr c120
  clear c120
  replace H := Option.bind_eq_some_iff.mp H
  obtain ⟨t110, A1210, H⟩ := H
  replace H : (some t110) = some r := H
  have A121 := am A1210
  clear A1210
  obtain rfl := Option.some.inj H
  go_enter Try.func3, Try.ntmps3
  go_wp2_with (first | ((with_reducible refine gate_callee (f := 7) rfl ?_); refine goesL_ (some 15) rfl rfl Try.func7 (by kernel_rfl) rfl #[.slice A0 l0.length c0] rfl (by simp only [List.map_toArray, List.map_cons, List.map_nil]; try rfl) ?_; (with_reducible refine (resolve_All.calls _ _ l0 t101 t104 t105 _ ?side1 ?side2 A2.out).mono ?_); (case side1 => exact Kd.C_o HR0.out); (case side2 => exact HC0.out); rintro e w122 ⟨v102, rfl, ho0, hb⟩; refine ⟨_, rfl, ?_⟩; refine mv2 (am (Kd.R_lower ho0 (below_size (by exact bl_o HB.out)))) (am (below_step (by exact bl_o HB.out) hb)) ?_; clear HB; intro HO103 HB; (try clear hb); (try clear hb2); (try clear hk); (try clear hi); (try clear ho0)) | ((with_reducible refine gate_dst (N := 4) rfl ?_); (try (refine gate_guard (by rfl) ?_; dsimp only)); refine box_event ?hg (N := 4) ?hd (cs := #[.int .i64 0, .string (⟨#[]⟩ : ByteArray)]) (t := 26) ?hr ?_; (case hd => rfl); (case hg => rfl); (case hr => go_simp; try rfl); intro gb106 hg w123 hbox hb; refine mv4 (am (Kd.R_below (Kd.R_o HO103.out) hb)) (am (below_step (by exact bl_o HB.out) hb)) (am (hbox)) (lei (by rw [hg]; exact (below_size (by exact bl_o HB.out)) : w.heap.size ≤ gb106)) ?_; clear HO103 HB; intro HO103 HB BK106 GW106; have GE106 := GW106; clear hb hbox hg; obtain ⟨hcz124_0, hcz124_1, hfz124_0, hfz124_1⟩ := cells2 BK106.out) | ((with_reducible refine gate_callee (f := 9) rfl ?_); refine goesL_ (some 19) rfl rfl Try.func9 (by kernel_rfl) rfl #[.slice A0 l0.length c0] rfl (by simp only [List.map_toArray, List.map_cons, List.map_nil]; try rfl) ?_; (with_reducible refine (resolve_Check.calls _ _ l0 t107 _ ?side1 ?side2 A3.out).mono ?_); (case side1 => exact Kd.C_below HR0.out (by exact bl_g HB.out)); (case side2 => exact HC0.out); rintro e w125 ⟨rfl, hb⟩; refine ⟨_, rfl, ?_⟩; refine mv3 (am (Kd.R_below (Kd.R_o (Kd.R_mono (Kd.R_far (p := ⟨gb106, 1, none⟩) (Kd.R_far (p := ⟨gb106, 0, none⟩) (Kd.R_types HO103.out BK106.out (by decide)) (fun _ hk => hk.2) (.int .i64 t104)) (fun _ hk => hk.2) (.string t105)) (fun _ h_ => h_.1))) hb)) (am (blk_below (g := gb106) (o := .cells #[.int .i64 t104, .string t105] 26 (0, 0)) (by (with_reducible repeat (first | refine blk_drewN ?_ _ | refine blk_drew ?_ | refine blk_alloc ?_ _)); refine blk_put (cs := #[.int .i64 t104, .string (⟨#[]⟩ : ByteArray)]) ?_ 1 _ rfl; (with_reducible repeat (first | refine blk_drewN ?_ _ | refine blk_drew ?_ | refine blk_alloc ?_ _)); refine blk_put (cs := #[.int .i64 0, .string (⟨#[]⟩ : ByteArray)]) ?_ 0 _ rfl; (with_reducible repeat (first | refine blk_drewN ?_ _ | refine blk_drew ?_ | refine blk_alloc ?_ _)); exact BK106.out) hb)) (am (below_step (by exact bl_g HB.out) hb)) ?_; clear HO103 BK106 HB; intro HO103 BK106 HB; (try clear hb); (try clear hb2); (try clear hk); (try clear hi)) | ((with_reducible refine gate_callee (f := 8) rfl ?_); refine goesL_ (some 20) rfl rfl Try.func8 (by kernel_rfl) rfl #[.int .i64 t107] rfl (by simp only [List.map_toArray, List.map_cons, List.map_nil]; try rfl) ?_; (with_reducible refine (gangwaylaw18_num.calls t107 t108 _ A4.out).mono ?_); rintro e w' ⟨rfl, ⟨nd, rfl⟩⟩; refine ⟨_, rfl, ?_⟩; obtain ⟨hcz126_0, hcz126_1, hfz126_0, hfz126_1⟩ := cells2 BK106.out) | ((with_reducible refine gate_callee (f := 8) rfl ?_); refine goesL_ (some 24) rfl rfl Try.func8 (by kernel_rfl) rfl #[.int .i64 t104] rfl (by simp only [List.map_toArray, List.map_cons, List.map_nil]; try rfl) ?_; (with_reducible refine (gangwaylaw18_num.calls t104 t109 _ A118.out).mono ?_); rintro e w' ⟨rfl, ⟨nd, rfl⟩⟩; refine ⟨_, rfl, ?_⟩; obtain ⟨Ao127, co127, eo127⟩ := Kd.R_slice HO103.out; subst eo127) | (go_at_call 10; (with_reducible refine (gangwaylaw18_live.calls  t110 _ A121.out).mono ?_); rintro e w128 ⟨rfl, hb⟩; refine mv3 (am (Kd.R_below (Kd.R_o HO103.out) hb)) (am (blk_below (blk_o BK106.out) hb)) (am (below_step (by exact bl_g HB.out) hb)) ?_; clear HO103 BK106 HB; intro HO103 BK106 HB; (try clear hb); (try clear hb2); (try clear hk); (try clear hi)))
  go_ret
  exact ⟨rfl, by exact bl_g HB.out⟩
 rw [if_pos c5] at H
 have c5b0 : (t108 == 0) = true := beq_iff_eq.mpr c5
 have c5b1 : (t108 != 0) = false := bne_eq_false_iff_eq.mpr c5
 clear c5
 replace H := Option.bind_eq_some_iff.mp H
 obtain ⟨t111, A60, H⟩ := H
 replace H : (gangwaylaw18_ResolveJust.l0 k l0 t101 t111 0 t104 t105) = some r := H
 have A6 := am A60
 clear A60
 have H' := am H
 clear H
 go_enter Try.func3, Try.ntmps3
 go_wp2_with (first | ((with_reducible refine gate_callee (f := 7) rfl ?_); refine goesL_ (some 15) rfl rfl Try.func7 (by kernel_rfl) rfl #[.slice A0 l0.length c0] rfl (by simp only [List.map_toArray, List.map_cons, List.map_nil]; try rfl) ?_; (with_reducible refine (resolve_All.calls _ _ l0 t101 t104 t105 _ ?side1 ?side2 A2.out).mono ?_); (case side1 => exact Kd.C_o HR0.out); (case side2 => exact HC0.out); rintro e w7 ⟨v102, rfl, ho0, hb⟩; refine ⟨_, rfl, ?_⟩; refine mv2 (am (Kd.R_lower ho0 (below_size (by exact bl_o HB.out)))) (am (below_step (by exact bl_o HB.out) hb)) ?_; clear HB; intro HO103 HB; (try clear hb); (try clear hb2); (try clear hk); (try clear hi); (try clear ho0)) | ((with_reducible refine gate_dst (N := 4) rfl ?_); (try (refine gate_guard (by rfl) ?_; dsimp only)); refine box_event ?hg (N := 4) ?hd (cs := #[.int .i64 0, .string (⟨#[]⟩ : ByteArray)]) (t := 26) ?hr ?_; (case hd => rfl); (case hg => rfl); (case hr => go_simp; try rfl); intro gb106 hg w8 hbox hb; refine mv4 (am (Kd.R_below (Kd.R_o HO103.out) hb)) (am (below_step (by exact bl_o HB.out) hb)) (am (hbox)) (lei (by rw [hg]; exact (below_size (by exact bl_o HB.out)) : w.heap.size ≤ gb106)) ?_; clear HO103 HB; intro HO103 HB BK106 GW106; have GE106 := GW106; clear hb hbox hg; obtain ⟨hcz9_0, hcz9_1, hfz9_0, hfz9_1⟩ := cells2 BK106.out) | ((with_reducible refine gate_callee (f := 9) rfl ?_); refine goesL_ (some 19) rfl rfl Try.func9 (by kernel_rfl) rfl #[.slice A0 l0.length c0] rfl (by simp only [List.map_toArray, List.map_cons, List.map_nil]; try rfl) ?_; (with_reducible refine (resolve_Check.calls _ _ l0 t107 _ ?side1 ?side2 A3.out).mono ?_); (case side1 => exact Kd.C_below HR0.out (by exact bl_g HB.out)); (case side2 => exact HC0.out); rintro e w10 ⟨rfl, hb⟩; refine ⟨_, rfl, ?_⟩; refine mv3 (am (Kd.R_below (Kd.R_o (Kd.R_mono (Kd.R_far (p := ⟨gb106, 1, none⟩) (Kd.R_far (p := ⟨gb106, 0, none⟩) (Kd.R_types HO103.out BK106.out (by decide)) (fun _ hk => hk.2) (.int .i64 t104)) (fun _ hk => hk.2) (.string t105)) (fun _ h_ => h_.1))) hb)) (am (blk_below (g := gb106) (o := .cells #[.int .i64 t104, .string t105] 26 (0, 0)) (by (with_reducible repeat (first | refine blk_drewN ?_ _ | refine blk_drew ?_ | refine blk_alloc ?_ _)); refine blk_put (cs := #[.int .i64 t104, .string (⟨#[]⟩ : ByteArray)]) ?_ 1 _ rfl; (with_reducible repeat (first | refine blk_drewN ?_ _ | refine blk_drew ?_ | refine blk_alloc ?_ _)); refine blk_put (cs := #[.int .i64 0, .string (⟨#[]⟩ : ByteArray)]) ?_ 0 _ rfl; (with_reducible repeat (first | refine blk_drewN ?_ _ | refine blk_drew ?_ | refine blk_alloc ?_ _)); exact BK106.out) hb)) (am (below_step (by exact bl_g HB.out) hb)) ?_; clear HO103 BK106 HB; intro HO103 BK106 HB; (try clear hb); (try clear hb2); (try clear hk); (try clear hi)) | ((with_reducible refine gate_callee (f := 8) rfl ?_); refine goesL_ (some 20) rfl rfl Try.func8 (by kernel_rfl) rfl #[.int .i64 t107] rfl (by simp only [List.map_toArray, List.map_cons, List.map_nil]; try rfl) ?_; (with_reducible refine (gangwaylaw18_num.calls t107 t108 _ A4.out).mono ?_); rintro e w' ⟨rfl, ⟨nd, rfl⟩⟩; refine ⟨_, rfl, ?_⟩) | ((with_reducible refine gate_callee (f := 11) rfl ?_); refine goesL_ (some 35) rfl rfl Try.func11 (by kernel_rfl) rfl #[.slice A0 l0.length c0] rfl (by simp only [List.map_toArray, List.map_cons, List.map_nil]; try rfl) ?_; (with_reducible refine (gangwaylaw18_clash.calls k _ _ l0 t111 _ ?side1 ?side2 A6.out).mono ?_); (case side1 => exact Kd.C_below HR0.out (by exact bl_g HB.out)); (case side2 => exact HC0.out); rintro e w11 ⟨rfl, hb⟩; refine ⟨_, rfl, ?_⟩; refine mv3 (am (Kd.R_below (Kd.R_o HO103.out) hb)) (am (blk_below (blk_o BK106.out) hb)) (am (below_step (by exact bl_g HB.out) hb)) ?_; clear HO103 BK106 HB; intro HO103 BK106 HB; (try clear hb); (try clear hb2); (try clear hk); (try clear hi)))
 go_loopg [5, 6] k (fun kq v5 v6 w' => ∃ (x5_1 : Bool) (x6_1 : Int), v5 = .bool x5_1 ∧ v6 = .int .i64 x6_1 ∧ Aside0 (gangwaylaw18_ResolveJust.l0 kq l0 t101 x5_1 x6_1 t104 t105 = some r) ∧ Aside0 (kq ≤ k) ∧ Aside0 (Kd.R k42 42 w' w.heap.size (fun _ => True) v102 t101) ∧ Aside0 (w'.heap[gb106]? = some (.cells #[.int .i64 t104, .string t105] 26 (0, 0))) ∧ Aside0 (Below w.heap.size w w'))
 case atStart => exact ⟨(t111), (0), (by first | rfl | (simp; done) | (simp [*]; done)), (by first | rfl | (simp; done) | (simp [*]; done)), H', ⟨Nat.le_refl _⟩, ⟨by (with_reducible repeat (first | apply Kd.R_alloc | apply Kd.R_drewN | apply Kd.R_drew)); exact HO103.out⟩, ⟨by (with_reducible repeat (first | refine blk_drewN ?_ _ | refine blk_drew ?_ | refine blk_alloc ?_ _)); exact BK106.out⟩, ⟨by exact bl_g HB.out⟩⟩
 case round =>
  clear H'
  try clear c1
  try clear p2
  try clear c3
  try clear c5
  try clear c5b0
  try clear c5b1
  try clear c7
  try clear c8
  try clear c9
  try clear c11
  try clear hcz9_0
  try clear hcz9_1
  try clear hfz9_0
  try clear hfz9_1
  obtain ⟨x5_1, x6_1, rfl, rfl, HA, HK1, HO_3, BK106, HB⟩ := hrel
  cases gk with
  | zero => exact absurd HA.out (by simp [gangwaylaw18_ResolveJust.l0])
  | succ k1 =>
   have H := HA.out
   clear HA
   simp only [gangwaylaw18_ResolveJust.l0] at H
   by_cases c12 : x6_1 < (l0.length : Int)
   ·
    rw [if_pos c12] at H
    have c12b0 : decide (x6_1 < (l0.length : Int)) = true := decide_eq_true c12
    clear c12
    have H' := am H
    clear H
    go_wp2
    go_loopg [5, 7] k1 (fun kq v5 v7 w' => ∃ (x5_2 : Bool) (x7_2 : Int), v5 = .bool x5_2 ∧ v7 = .int .i64 x7_2 ∧ Aside0 (gangwaylaw18_ResolveJust.l1 kq l0 t101 x5_2 x6_1 x7_2 t104 t105 = some r) ∧ Aside0 (kq ≤ k1) ∧ Aside0 (Kd.R k42 42 w' w.heap.size (fun _ => True) v102 t101) ∧ Aside0 (w'.heap[gb106]? = some (.cells #[.int .i64 t104, .string t105] 26 (0, 0))) ∧ Aside0 (Below w.heap.size w w'))
    case atStart => exact ⟨(x5_1), (0), (by first | rfl | (simp; done) | (simp [*]; done)), (by first | rfl | (simp; done) | (simp [*]; done)), H', ⟨Nat.le_refl _⟩, ⟨by (with_reducible repeat (first | apply Kd.R_alloc | apply Kd.R_drewN | apply Kd.R_drew)); exact HO_3.out⟩, ⟨by (with_reducible repeat (first | refine blk_drewN ?_ _ | refine blk_drew ?_ | refine blk_alloc ?_ _)); exact BK106.out⟩, ⟨by exact bl_g HB.out⟩⟩
    case round =>
     clear H'
     try clear c1
     try clear p2
     try clear c3
     try clear c5
     try clear c5b0
     try clear c5b1
     try clear c7
     try clear c8
     try clear c9
     try clear c11
     try clear c12
     try clear c12b0
     try clear hcz9_0
     try clear hcz9_1
     try clear hfz9_0
     try clear hfz9_1
     try clear p2
     obtain ⟨x5_2, x7_2, rfl, rfl, HA, HK2, HO_3, BK106, HB⟩ := hrel
     cases gk with
     | zero => exact absurd HA.out (by simp [gangwaylaw18_ResolveJust.l1])
     | succ k2 =>
      have H := HA.out
      clear HA
      simp only [gangwaylaw18_ResolveJust.l1] at H
      by_cases c13 : 0 ≤ x6_1
      rotate_left
      ·
       rw [if_neg c13] at H
       exact absurd H (by simp)
      rw [if_pos c13] at H
      have c13b0 : decide (0 ≤ x6_1) = true := decide_eq_true c13
      clear c13
      by_cases c14 : x6_1 < (l0.length : Int)
      rotate_left
      ·
       rw [if_neg c14] at H
       exact absurd H (by simp)
      rw [if_pos c14] at H
      have c14b0 : decide (x6_1 < (l0.length : Int)) = true := decide_eq_true c14
      clear c14
      by_cases c15 : x7_2 < (((rd_T36 l0 x6_1).f1).length : Int)
      rotate_left
      ·
       rw [if_neg c15] at H
       have c15b0 : decide (x7_2 < (((rd_T36 l0 x6_1).f1).length : Int)) = false := decide_eq_false c15
       clear c15
       have H' := am H
       clear H
       have p112 : 0 ≤ (x6_1 : Int) := of_decide_eq_true (by first | (with_reducible assumption) | assumption)
       have q112 : x6_1 < (l0.length : Int) := of_decide_eq_true (by first | (with_reducible assumption) | assumption)
       obtain ⟨ad112, A112_0, c112_0, A112_1, c112_1, e112, hx112_0, hx112_1, hl112_0, hi112_0, hl112_1, hi112_1⟩ := at_T36 HR0.out x6_1 p112 q112
       cases e112
       replace hx112_0 := oc HB.out hx112_0
       replace hx112_1 := oc HB.out hx112_1
       have HR112_0 := am hi112_0
       have HC112_0 := am hl112_0
       clear hi112_0 hl112_0
       have HR112_1 := am hi112_1
       have HC112_1 := am hl112_1
       clear hi112_1 hl112_1
       replace p112 := eq_true p112
       replace q112 := eq_true q112
       go_wp2
       go_roundg k2
       case measure => have := HK1.out; have := HK2.out; omega
       case rel => exact ⟨(x5_2), (wrap64 (x6_1 + 1)), (by first | rfl | (simp; done) | (simp [*]; done)), (by first | rfl | (simp; done) | (simp [*]; done)), H', ⟨by have := HK1.out; have := HK2.out; omega⟩, ⟨by (with_reducible repeat (first | apply Kd.R_alloc | apply Kd.R_drewN | apply Kd.R_drew)); exact HO_3.out⟩, ⟨by (with_reducible repeat (first | refine blk_drewN ?_ _ | refine blk_drew ?_ | refine blk_alloc ?_ _)); exact BK106.out⟩, ⟨by exact bl_g HB.out⟩⟩
      rw [if_pos c15] at H
      have c15b0 : decide (x7_2 < (((rd_T36 l0 x6_1).f1).length : Int)) = true := decide_eq_true c15
      clear c15
      by_cases c16 : 0 ≤ x7_2
      rotate_left
      ·
       rw [if_neg c16] at H
       exact absurd H (by simp)
      rw [if_pos c16] at H
      have c16b0 : decide (0 ≤ x7_2) = true := decide_eq_true c16
      clear c16
      by_cases c17 : ((rd_T38 ((rd_T36 l0 x6_1).f1) x7_2).f4) = 0
      ·
       rw [if_pos c17] at H
       have c17b0 : (((rd_T38 ((rd_T36 l0 x6_1).f1) x7_2).f4) == 0) = true := beq_iff_eq.mpr c17
       have c17b1 : (((rd_T38 ((rd_T36 l0 x6_1).f1) x7_2).f4) != 0) = false := bne_eq_false_iff_eq.mpr c17
       clear c17
       have H' := am H
       clear H
       have p112 : 0 ≤ (x6_1 : Int) := of_decide_eq_true (by first | (with_reducible assumption) | assumption)
       have q112 : x6_1 < (l0.length : Int) := of_decide_eq_true (by first | (with_reducible assumption) | assumption)
       obtain ⟨ad112, A112_0, c112_0, A112_1, c112_1, e112, hx112_0, hx112_1, hl112_0, hi112_0, hl112_1, hi112_1⟩ := at_T36 HR0.out x6_1 p112 q112
       cases e112
       replace hx112_0 := oc HB.out hx112_0
       replace hx112_1 := oc HB.out hx112_1
       have HR112_0 := am hi112_0
       have HC112_0 := am hl112_0
       clear hi112_0 hl112_0
       have HR112_1 := am hi112_1
       have HC112_1 := am hl112_1
       clear hi112_1 hl112_1
       replace p112 := eq_true p112
       replace q112 := eq_true q112
       have p113 : 0 ≤ (x6_1 : Int) := of_decide_eq_true (by first | (with_reducible assumption) | assumption)
       have q113 : x6_1 < (l0.length : Int) := of_decide_eq_true (by first | (with_reducible assumption) | assumption)
       obtain ⟨ad113, A113_0, c113_0, A113_1, c113_1, e113, hx113_0, hx113_1, hl113_0, hi113_0, hl113_1, hi113_1⟩ := at_T36 HR0.out x6_1 p113 q113
       obtain rfl : ad112 = ad113 := (by injection e113)
       replace hx113_0 := oc HB.out hx113_0
       replace hx113_1 := oc HB.out hx113_1
       have HR113_0 := am hi113_0
       have HC113_0 := am hl113_0
       clear hi113_0 hl113_0
       have HR113_1 := am hi113_1
       have HC113_1 := am hl113_1
       clear hi113_1 hl113_1
       replace p113 := eq_true p113
       replace q113 := eq_true q113
       have ea_ := Option.some.inj (hx112_0.symm.trans hx113_0)
       injection ea_ with ea_ en_ ec_
       subst ea_
       subst ec_
       clear en_
       have ea_ := Option.some.inj (hx112_1.symm.trans hx113_1)
       injection ea_ with ea_ en_ ec_
       subst ea_
       subst ec_
       clear en_
       have p114 : 0 ≤ (x7_2 : Int) := of_decide_eq_true (by first | (with_reducible assumption) | assumption)
       have q114 : x7_2 < (((rd_T36 l0 x6_1).f1).length : Int) := of_decide_eq_true (by first | (with_reducible assumption) | assumption)
       obtain ⟨ad114, e114, hx114_0, hx114_1, hx114_2, hx114_3, hx114_4, hx114_5⟩ := at_T38 HR113_1.out x7_2 p114 q114
       cases e114
       replace hx114_0 := oc HB.out hx114_0
       replace hx114_1 := oc HB.out hx114_1
       replace hx114_2 := oc HB.out hx114_2
       replace hx114_3 := oc HB.out hx114_3
       replace hx114_4 := oc HB.out hx114_4
       replace hx114_5 := oc HB.out hx114_5
       replace p114 := eq_true p114
       replace q114 := eq_true q114
       go_wp2_with (first | ((with_reducible refine gate_dst (N := 8) rfl ?_); (try (refine gate_guard (by rfl) ?_; dsimp only)); refine box_event ?hg (N := 8) ?hd (cs := #[.string (⟨#[]⟩ : ByteArray), .string (⟨#[]⟩ : ByteArray), .int .i64 0, .int .i64 0, .int .i64 0, .int .i64 0]) (t := 38) ?hr ?_; (case hd => rfl); (case hg => rfl); (case hr => go_simp; try rfl); intro gb115 hg w18 hbox hb; refine mv7 (am (Kd.R_below (Kd.R_o HO_3.out) hb)) (am (blk_below (blk_o BK106.out) hb)) (am (below_step (by exact bl_g HB.out) hb)) (am (hbox)) (lei (by rw [hg]; exact (below_size (by exact bl_g HB.out)) : w.heap.size ≤ gb115)) (am ((by rw [hg]; exact Nat.ne_of_lt (blk_lt (g := gb106) (o := .cells #[.int .i64 t104, .string t105] 26 (0, 0)) (blk_o BK106.out)) : gb106 ≠ gb115))) (am ((by rw [hg]; exact Nat.ne_of_gt (blk_lt (g := gb106) (o := .cells #[.int .i64 t104, .string t105] 26 (0, 0)) (blk_o BK106.out)) : gb115 ≠ gb106))) ?_; clear HO_3 BK106 HB; intro HO_3 BK106 HB BK115 GW115 NB106_115 NB115_106; have GE115 := GW115; clear hb hbox hg; have hnb19 := NB115_106.out; have hnc19 := NB106_115.out; obtain ⟨hcz20_0, hcz20_1, hcz20_2, hcz20_3, hcz20_4, hcz20_5, hfz20_0, hfz20_1, hfz20_2, hfz20_3, hfz20_4, hfz20_5⟩ := cells6 BK115.out))
       go_roundg k2
       case measure => have := HK1.out; have := HK2.out; omega
       case rel => exact ⟨(x5_2), (wrap64 (x7_2 + 1)), (by first | rfl | (simp; done) | (simp [*]; done)), (by first | rfl | (simp; done) | (simp [*]; done)), H', ⟨by have := HK1.out; have := HK2.out; omega⟩, ⟨by (with_reducible repeat (first | apply Kd.R_alloc | apply Kd.R_drewN | apply Kd.R_drew)); exact Kd.R_mono (Kd.R_far (p := ⟨gb115, 5, none⟩) (Kd.R_far (p := ⟨gb115, 4, none⟩) (Kd.R_far (p := ⟨gb115, 3, none⟩) (Kd.R_far (p := ⟨gb115, 2, none⟩) (Kd.R_far (p := ⟨gb115, 1, none⟩) (Kd.R_far (p := ⟨gb115, 0, none⟩) (Kd.R_types HO_3.out BK115.out (by decide)) (fun _ hk => hk.2) (.string ((rd_T38 ((rd_T36 l0 x6_1).f1) x7_2).f0))) (fun _ hk => hk.2) (.string ((rd_T38 ((rd_T36 l0 x6_1).f1) x7_2).f1))) (fun _ hk => hk.2) (.int .i64 ((rd_T38 ((rd_T36 l0 x6_1).f1) x7_2).f2))) (fun _ hk => hk.2) (.int .i64 ((rd_T38 ((rd_T36 l0 x6_1).f1) x7_2).f3))) (fun _ hk => hk.2) (.int .i64 ((rd_T38 ((rd_T36 l0 x6_1).f1) x7_2).f4))) (fun _ hk => hk.2) (.int .i64 ((rd_T38 ((rd_T36 l0 x6_1).f1) x7_2).f5))) (fun _ hk => trivial)⟩, ⟨by (with_reducible repeat (first | refine blk_drewN ?_ _ | refine blk_drew ?_ | refine blk_alloc ?_ _)); refine blk_far ?_ NB106_115.out _; (with_reducible repeat (first | refine blk_drewN ?_ _ | refine blk_drew ?_ | refine blk_alloc ?_ _)); refine blk_far ?_ NB106_115.out _; (with_reducible repeat (first | refine blk_drewN ?_ _ | refine blk_drew ?_ | refine blk_alloc ?_ _)); refine blk_far ?_ NB106_115.out _; (with_reducible repeat (first | refine blk_drewN ?_ _ | refine blk_drew ?_ | refine blk_alloc ?_ _)); refine blk_far ?_ NB106_115.out _; (with_reducible repeat (first | refine blk_drewN ?_ _ | refine blk_drew ?_ | refine blk_alloc ?_ _)); refine blk_far ?_ NB106_115.out _; (with_reducible repeat (first | refine blk_drewN ?_ _ | refine blk_drew ?_ | refine blk_alloc ?_ _)); refine blk_far ?_ NB106_115.out _; (with_reducible repeat (first | refine blk_drewN ?_ _ | refine blk_drew ?_ | refine blk_alloc ?_ _)); exact BK106.out⟩, ⟨by exact bl_g HB.out⟩⟩
      rw [if_neg c17] at H
      have c17b0 : (((rd_T38 ((rd_T36 l0 x6_1).f1) x7_2).f4) == 0) = false := beq_eq_false_iff_ne.mpr c17
      have c17b1 : (((rd_T38 ((rd_T36 l0 x6_1).f1) x7_2).f4) != 0) = true := bne_iff_ne.mpr c17
      replace H := Option.bind_eq_some_iff.mp H
      obtain ⟨t116, A210, H⟩ := H
      replace H : (if x5_2 = true then (gangwaylaw18_ResolveJust.l1 k2 l0 t101 true x6_1 (wrap64 (x7_2 + 1)) t104 t105) else (if t116 > 1 then (gangwaylaw18_ResolveJust.l1 k2 l0 t101 true x6_1 (wrap64 (x7_2 + 1)) t104 t105) else ((gangwaylaw18_mixed.f k2 l0 ((rd_T38 ((rd_T36 l0 x6_1).f1) x7_2).f0)).bind fun t117 => (if t117 = true then (gangwaylaw18_ResolveJust.l1 k2 l0 t101 true x6_1 (wrap64 (x7_2 + 1)) t104 t105) else (if ((rd_T38 ((rd_T36 l0 x6_1).f1) x7_2).f1).toList = ([] : List UInt8) then (if ((rd_T38 ((rd_T36 l0 x6_1).f1) x7_2).f4) = 1 then ((gangwaylaw18_defined.f k2 l0 ((rd_T38 ((rd_T36 l0 x6_1).f1) x7_2).f0)).bind fun t118 => (gangwaylaw18_ResolveJust.l1 k2 l0 t101 (!t118) x6_1 (wrap64 (x7_2 + 1)) t104 t105)) else (gangwaylaw18_ResolveJust.l1 k2 l0 t101 false x6_1 (wrap64 (x7_2 + 1)) t104 t105)) else (gangwaylaw18_ResolveJust.l1 k2 l0 t101 false x6_1 (wrap64 (x7_2 + 1)) t104 t105)))))) = some r := H
      have A21 := am A210
      clear A210
      by_cases c22 : x5_2 = true
      ·
       subst c22
       replace H : (gangwaylaw18_ResolveJust.l1 k2 l0 t101 true x6_1 (wrap64 (x7_2 + 1)) t104 t105) = some r := by rw [if_pos rfl] at H; exact H
       have H' := am H
       clear H
       have p112 : 0 ≤ (x6_1 : Int) := of_decide_eq_true (by first | (with_reducible assumption) | assumption)
       have q112 : x6_1 < (l0.length : Int) := of_decide_eq_true (by first | (with_reducible assumption) | assumption)
       obtain ⟨ad112, A112_0, c112_0, A112_1, c112_1, e112, hx112_0, hx112_1, hl112_0, hi112_0, hl112_1, hi112_1⟩ := at_T36 HR0.out x6_1 p112 q112
       cases e112
       replace hx112_0 := oc HB.out hx112_0
       replace hx112_1 := oc HB.out hx112_1
       have HR112_0 := am hi112_0
       have HC112_0 := am hl112_0
       clear hi112_0 hl112_0
       have HR112_1 := am hi112_1
       have HC112_1 := am hl112_1
       clear hi112_1 hl112_1
       replace p112 := eq_true p112
       replace q112 := eq_true q112
       have p113 : 0 ≤ (x6_1 : Int) := of_decide_eq_true (by first | (with_reducible assumption) | assumption)
       have q113 : x6_1 < (l0.length : Int) := of_decide_eq_true (by first | (with_reducible assumption) | assumption)
       obtain ⟨ad113, A113_0, c113_0, A113_1, c113_1, e113, hx113_0, hx113_1, hl113_0, hi113_0, hl113_1, hi113_1⟩ := at_T36 HR0.out x6_1 p113 q113
       obtain rfl : ad112 = ad113 := (by injection e113)
       replace hx113_0 := oc HB.out hx113_0
       replace hx113_1 := oc HB.out hx113_1
       have HR113_0 := am hi113_0
       have HC113_0 := am hl113_0
       clear hi113_0 hl113_0
       have HR113_1 := am hi113_1
       have HC113_1 := am hl113_1
       clear hi113_1 hl113_1
       replace p113 := eq_true p113
       replace q113 := eq_true q113
       have ea_ := Option.some.inj (hx112_0.symm.trans hx113_0)
       injection ea_ with ea_ en_ ec_
       subst ea_
       subst ec_
       clear en_
       have ea_ := Option.some.inj (hx112_1.symm.trans hx113_1)
       injection ea_ with ea_ en_ ec_
       subst ea_
       subst ec_
       clear en_
       have p114 : 0 ≤ (x7_2 : Int) := of_decide_eq_true (by first | (with_reducible assumption) | assumption)
       have q114 : x7_2 < (((rd_T36 l0 x6_1).f1).length : Int) := of_decide_eq_true (by first | (with_reducible assumption) | assumption)
       obtain ⟨ad114, e114, hx114_0, hx114_1, hx114_2, hx114_3, hx114_4, hx114_5⟩ := at_T38 HR113_1.out x7_2 p114 q114
       cases e114
       replace hx114_0 := oc HB.out hx114_0
       replace hx114_1 := oc HB.out hx114_1
       replace hx114_2 := oc HB.out hx114_2
       replace hx114_3 := oc HB.out hx114_3
       replace hx114_4 := oc HB.out hx114_4
       replace hx114_5 := oc HB.out hx114_5
       replace p114 := eq_true p114
       replace q114 := eq_true q114
       go_wp2_with (first | ((with_reducible refine gate_dst (N := 8) rfl ?_); (try (refine gate_guard (by rfl) ?_; dsimp only)); refine box_event ?hg (N := 8) ?hd (cs := #[.string (⟨#[]⟩ : ByteArray), .string (⟨#[]⟩ : ByteArray), .int .i64 0, .int .i64 0, .int .i64 0, .int .i64 0]) (t := 38) ?hr ?_; (case hd => rfl); (case hg => rfl); (case hr => go_simp; try rfl); intro gb115 hg w23 hbox hb; refine mv7 (am (Kd.R_below (Kd.R_o HO_3.out) hb)) (am (blk_below (blk_o BK106.out) hb)) (am (below_step (by exact bl_g HB.out) hb)) (am (hbox)) (lei (by rw [hg]; exact (below_size (by exact bl_g HB.out)) : w.heap.size ≤ gb115)) (am ((by rw [hg]; exact Nat.ne_of_lt (blk_lt (g := gb106) (o := .cells #[.int .i64 t104, .string t105] 26 (0, 0)) (blk_o BK106.out)) : gb106 ≠ gb115))) (am ((by rw [hg]; exact Nat.ne_of_gt (blk_lt (g := gb106) (o := .cells #[.int .i64 t104, .string t105] 26 (0, 0)) (blk_o BK106.out)) : gb115 ≠ gb106))) ?_; clear HO_3 BK106 HB; intro HO_3 BK106 HB BK115 GW115 NB106_115 NB115_106; have GE115 := GW115; clear hb hbox hg; have hnb24 := NB115_106.out; have hnc24 := NB106_115.out; obtain ⟨hcz25_0, hcz25_1, hcz25_2, hcz25_3, hcz25_4, hcz25_5, hfz25_0, hfz25_1, hfz25_2, hfz25_3, hfz25_4, hfz25_5⟩ := cells6 BK115.out) | ((with_reducible refine gate_callee (f := 12) rfl ?_); refine goesL_ (some 66) rfl rfl Try.func12 (by kernel_rfl) rfl #[.slice (some ad112) l0.length c0, .string ((rd_T38 ((rd_T36 l0 x6_1).f1) x7_2).f0)] rfl (by simp only [List.map_toArray, List.map_cons, List.map_nil]; try rfl) ?_; (with_reducible refine (gangwaylaw18_strong.calls k2 _ _ l0 ((rd_T38 ((rd_T36 l0 x6_1).f1) x7_2).f0) t116 _ ?side1 ?side2 A21.out).mono ?_); (case side1 => exact Kd.C_below HR0.out (by exact bl_g HB.out)); (case side2 => exact HC0.out); rintro e w26 ⟨rfl, hb⟩; refine ⟨_, rfl, ?_⟩; refine mv4 (am (Kd.R_below (Kd.R_o (Kd.R_mono (Kd.R_far (p := ⟨gb115, 5, none⟩) (Kd.R_far (p := ⟨gb115, 4, none⟩) (Kd.R_far (p := ⟨gb115, 3, none⟩) (Kd.R_far (p := ⟨gb115, 2, none⟩) (Kd.R_far (p := ⟨gb115, 1, none⟩) (Kd.R_far (p := ⟨gb115, 0, none⟩) (Kd.R_types HO_3.out BK115.out (by decide)) (fun _ hk => hk.2) (.string ((rd_T38 ((rd_T36 l0 x6_1).f1) x7_2).f0))) (fun _ hk => hk.2) (.string ((rd_T38 ((rd_T36 l0 x6_1).f1) x7_2).f1))) (fun _ hk => hk.2) (.int .i64 ((rd_T38 ((rd_T36 l0 x6_1).f1) x7_2).f2))) (fun _ hk => hk.2) (.int .i64 ((rd_T38 ((rd_T36 l0 x6_1).f1) x7_2).f3))) (fun _ hk => hk.2) (.int .i64 ((rd_T38 ((rd_T36 l0 x6_1).f1) x7_2).f4))) (fun _ hk => hk.2) (.int .i64 ((rd_T38 ((rd_T36 l0 x6_1).f1) x7_2).f5))) (fun _ h_ => h_.1))) hb)) (am (blk_below (g := gb106) (o := .cells #[.int .i64 t104, .string t105] 26 (0, 0)) (by (with_reducible repeat (first | refine blk_drewN ?_ _ | refine blk_drew ?_ | refine blk_alloc ?_ _)); refine blk_far ?_ NB106_115.out _; (with_reducible repeat (first | refine blk_drewN ?_ _ | refine blk_drew ?_ | refine blk_alloc ?_ _)); refine blk_far ?_ NB106_115.out _; (with_reducible repeat (first | refine blk_drewN ?_ _ | refine blk_drew ?_ | refine blk_alloc ?_ _)); refine blk_far ?_ NB106_115.out _; (with_reducible repeat (first | refine blk_drewN ?_ _ | refine blk_drew ?_ | refine blk_alloc ?_ _)); refine blk_far ?_ NB106_115.out _; (with_reducible repeat (first | refine blk_drewN ?_ _ | refine blk_drew ?_ | refine blk_alloc ?_ _)); refine blk_far ?_ NB106_115.out _; (with_reducible repeat (first | refine blk_drewN ?_ _ | refine blk_drew ?_ | refine blk_alloc ?_ _)); refine blk_far ?_ NB106_115.out _; (with_reducible repeat (first | refine blk_drewN ?_ _ | refine blk_drew ?_ | refine blk_alloc ?_ _)); exact BK106.out) hb)) (am (blk_below (g := gb115) (o := .cells #[.string ((rd_T38 ((rd_T36 l0 x6_1).f1) x7_2).f0), .string ((rd_T38 ((rd_T36 l0 x6_1).f1) x7_2).f1), .int .i64 ((rd_T38 ((rd_T36 l0 x6_1).f1) x7_2).f2), .int .i64 ((rd_T38 ((rd_T36 l0 x6_1).f1) x7_2).f3), .int .i64 ((rd_T38 ((rd_T36 l0 x6_1).f1) x7_2).f4), .int .i64 ((rd_T38 ((rd_T36 l0 x6_1).f1) x7_2).f5)] 38 (0, 0)) (by (with_reducible repeat (first | refine blk_drewN ?_ _ | refine blk_drew ?_ | refine blk_alloc ?_ _)); refine blk_put (cs := #[.string ((rd_T38 ((rd_T36 l0 x6_1).f1) x7_2).f0), .string ((rd_T38 ((rd_T36 l0 x6_1).f1) x7_2).f1), .int .i64 ((rd_T38 ((rd_T36 l0 x6_1).f1) x7_2).f2), .int .i64 ((rd_T38 ((rd_T36 l0 x6_1).f1) x7_2).f3), .int .i64 ((rd_T38 ((rd_T36 l0 x6_1).f1) x7_2).f4), .int .i64 0]) ?_ 5 _ rfl; (with_reducible repeat (first | refine blk_drewN ?_ _ | refine blk_drew ?_ | refine blk_alloc ?_ _)); refine blk_put (cs := #[.string ((rd_T38 ((rd_T36 l0 x6_1).f1) x7_2).f0), .string ((rd_T38 ((rd_T36 l0 x6_1).f1) x7_2).f1), .int .i64 ((rd_T38 ((rd_T36 l0 x6_1).f1) x7_2).f2), .int .i64 ((rd_T38 ((rd_T36 l0 x6_1).f1) x7_2).f3), .int .i64 0, .int .i64 0]) ?_ 4 _ rfl; (with_reducible repeat (first | refine blk_drewN ?_ _ | refine blk_drew ?_ | refine blk_alloc ?_ _)); refine blk_put (cs := #[.string ((rd_T38 ((rd_T36 l0 x6_1).f1) x7_2).f0), .string ((rd_T38 ((rd_T36 l0 x6_1).f1) x7_2).f1), .int .i64 ((rd_T38 ((rd_T36 l0 x6_1).f1) x7_2).f2), .int .i64 0, .int .i64 0, .int .i64 0]) ?_ 3 _ rfl; (with_reducible repeat (first | refine blk_drewN ?_ _ | refine blk_drew ?_ | refine blk_alloc ?_ _)); refine blk_put (cs := #[.string ((rd_T38 ((rd_T36 l0 x6_1).f1) x7_2).f0), .string ((rd_T38 ((rd_T36 l0 x6_1).f1) x7_2).f1), .int .i64 0, .int .i64 0, .int .i64 0, .int .i64 0]) ?_ 2 _ rfl; (with_reducible repeat (first | refine blk_drewN ?_ _ | refine blk_drew ?_ | refine blk_alloc ?_ _)); refine blk_put (cs := #[.string ((rd_T38 ((rd_T36 l0 x6_1).f1) x7_2).f0), .string (⟨#[]⟩ : ByteArray), .int .i64 0, .int .i64 0, .int .i64 0, .int .i64 0]) ?_ 1 _ rfl; (with_reducible repeat (first | refine blk_drewN ?_ _ | refine blk_drew ?_ | refine blk_alloc ?_ _)); refine blk_put (cs := #[.string (⟨#[]⟩ : ByteArray), .string (⟨#[]⟩ : ByteArray), .int .i64 0, .int .i64 0, .int .i64 0, .int .i64 0]) ?_ 0 _ rfl; (with_reducible repeat (first | refine blk_drewN ?_ _ | refine blk_drew ?_ | refine blk_alloc ?_ _)); exact BK115.out) hb)) (am (below_step (by exact bl_g HB.out) hb)) ?_; clear HO_3 BK106 BK115 HB; intro HO_3 BK106 BK115 HB; (try clear hb); (try clear hb2); (try clear hk); (try clear hi)))
       go_roundg k2
       case measure => have := HK1.out; have := HK2.out; omega
       case rel => exact ⟨(true), (wrap64 (x7_2 + 1)), (by first | rfl | (simp; done) | (simp [*]; done)), (by first | rfl | (simp; done) | (simp [*]; done)), H', ⟨by have := HK1.out; have := HK2.out; omega⟩, ⟨by (with_reducible repeat (first | apply Kd.R_alloc | apply Kd.R_drewN | apply Kd.R_drew)); exact HO_3.out⟩, ⟨by (with_reducible repeat (first | refine blk_drewN ?_ _ | refine blk_drew ?_ | refine blk_alloc ?_ _)); exact BK106.out⟩, ⟨by exact bl_g HB.out⟩⟩
      replace c22 := Bool.eq_false_iff.mpr c22
      subst c22
      replace H : (if t116 > 1 then (gangwaylaw18_ResolveJust.l1 k2 l0 t101 true x6_1 (wrap64 (x7_2 + 1)) t104 t105) else ((gangwaylaw18_mixed.f k2 l0 ((rd_T38 ((rd_T36 l0 x6_1).f1) x7_2).f0)).bind fun t117 => (if t117 = true then (gangwaylaw18_ResolveJust.l1 k2 l0 t101 true x6_1 (wrap64 (x7_2 + 1)) t104 t105) else (if ((rd_T38 ((rd_T36 l0 x6_1).f1) x7_2).f1).toList = ([] : List UInt8) then (if ((rd_T38 ((rd_T36 l0 x6_1).f1) x7_2).f4) = 1 then ((gangwaylaw18_defined.f k2 l0 ((rd_T38 ((rd_T36 l0 x6_1).f1) x7_2).f0)).bind fun t118 => (gangwaylaw18_ResolveJust.l1 k2 l0 t101 (!t118) x6_1 (wrap64 (x7_2 + 1)) t104 t105)) else (gangwaylaw18_ResolveJust.l1 k2 l0 t101 false x6_1 (wrap64 (x7_2 + 1)) t104 t105)) else (gangwaylaw18_ResolveJust.l1 k2 l0 t101 false x6_1 (wrap64 (x7_2 + 1)) t104 t105))))) = some r := by rw [if_neg (show ¬ (false = true) by decide)] at H; exact H
      by_cases c27 : t116 > 1
      ·
       rw [if_pos c27] at H
       have c27b0 : decide (1 < t116) = true := decide_eq_true c27
       clear c27
       have H' := am H
       clear H
       have p112 : 0 ≤ (x6_1 : Int) := of_decide_eq_true (by first | (with_reducible assumption) | assumption)
       have q112 : x6_1 < (l0.length : Int) := of_decide_eq_true (by first | (with_reducible assumption) | assumption)
       obtain ⟨ad112, A112_0, c112_0, A112_1, c112_1, e112, hx112_0, hx112_1, hl112_0, hi112_0, hl112_1, hi112_1⟩ := at_T36 HR0.out x6_1 p112 q112
       cases e112
       replace hx112_0 := oc HB.out hx112_0
       replace hx112_1 := oc HB.out hx112_1
       have HR112_0 := am hi112_0
       have HC112_0 := am hl112_0
       clear hi112_0 hl112_0
       have HR112_1 := am hi112_1
       have HC112_1 := am hl112_1
       clear hi112_1 hl112_1
       replace p112 := eq_true p112
       replace q112 := eq_true q112
       have p113 : 0 ≤ (x6_1 : Int) := of_decide_eq_true (by first | (with_reducible assumption) | assumption)
       have q113 : x6_1 < (l0.length : Int) := of_decide_eq_true (by first | (with_reducible assumption) | assumption)
       obtain ⟨ad113, A113_0, c113_0, A113_1, c113_1, e113, hx113_0, hx113_1, hl113_0, hi113_0, hl113_1, hi113_1⟩ := at_T36 HR0.out x6_1 p113 q113
       obtain rfl : ad112 = ad113 := (by injection e113)
       replace hx113_0 := oc HB.out hx113_0
       replace hx113_1 := oc HB.out hx113_1
       have HR113_0 := am hi113_0
       have HC113_0 := am hl113_0
       clear hi113_0 hl113_0
       have HR113_1 := am hi113_1
       have HC113_1 := am hl113_1
       clear hi113_1 hl113_1
       replace p113 := eq_true p113
       replace q113 := eq_true q113
       have ea_ := Option.some.inj (hx112_0.symm.trans hx113_0)
       injection ea_ with ea_ en_ ec_
       subst ea_
       subst ec_
       clear en_
       have ea_ := Option.some.inj (hx112_1.symm.trans hx113_1)
       injection ea_ with ea_ en_ ec_
       subst ea_
       subst ec_
       clear en_
       have p114 : 0 ≤ (x7_2 : Int) := of_decide_eq_true (by first | (with_reducible assumption) | assumption)
       have q114 : x7_2 < (((rd_T36 l0 x6_1).f1).length : Int) := of_decide_eq_true (by first | (with_reducible assumption) | assumption)
       obtain ⟨ad114, e114, hx114_0, hx114_1, hx114_2, hx114_3, hx114_4, hx114_5⟩ := at_T38 HR113_1.out x7_2 p114 q114
       cases e114
       replace hx114_0 := oc HB.out hx114_0
       replace hx114_1 := oc HB.out hx114_1
       replace hx114_2 := oc HB.out hx114_2
       replace hx114_3 := oc HB.out hx114_3
       replace hx114_4 := oc HB.out hx114_4
       replace hx114_5 := oc HB.out hx114_5
       replace p114 := eq_true p114
       replace q114 := eq_true q114
       go_wp2_with (first | ((with_reducible refine gate_dst (N := 8) rfl ?_); (try (refine gate_guard (by rfl) ?_; dsimp only)); refine box_event ?hg (N := 8) ?hd (cs := #[.string (⟨#[]⟩ : ByteArray), .string (⟨#[]⟩ : ByteArray), .int .i64 0, .int .i64 0, .int .i64 0, .int .i64 0]) (t := 38) ?hr ?_; (case hd => rfl); (case hg => rfl); (case hr => go_simp; try rfl); intro gb115 hg w28 hbox hb; refine mv7 (am (Kd.R_below (Kd.R_o HO_3.out) hb)) (am (blk_below (blk_o BK106.out) hb)) (am (below_step (by exact bl_g HB.out) hb)) (am (hbox)) (lei (by rw [hg]; exact (below_size (by exact bl_g HB.out)) : w.heap.size ≤ gb115)) (am ((by rw [hg]; exact Nat.ne_of_lt (blk_lt (g := gb106) (o := .cells #[.int .i64 t104, .string t105] 26 (0, 0)) (blk_o BK106.out)) : gb106 ≠ gb115))) (am ((by rw [hg]; exact Nat.ne_of_gt (blk_lt (g := gb106) (o := .cells #[.int .i64 t104, .string t105] 26 (0, 0)) (blk_o BK106.out)) : gb115 ≠ gb106))) ?_; clear HO_3 BK106 HB; intro HO_3 BK106 HB BK115 GW115 NB106_115 NB115_106; have GE115 := GW115; clear hb hbox hg; have hnb29 := NB115_106.out; have hnc29 := NB106_115.out; obtain ⟨hcz30_0, hcz30_1, hcz30_2, hcz30_3, hcz30_4, hcz30_5, hfz30_0, hfz30_1, hfz30_2, hfz30_3, hfz30_4, hfz30_5⟩ := cells6 BK115.out) | ((with_reducible refine gate_callee (f := 12) rfl ?_); refine goesL_ (some 66) rfl rfl Try.func12 (by kernel_rfl) rfl #[.slice (some ad112) l0.length c0, .string ((rd_T38 ((rd_T36 l0 x6_1).f1) x7_2).f0)] rfl (by simp only [List.map_toArray, List.map_cons, List.map_nil]; try rfl) ?_; (with_reducible refine (gangwaylaw18_strong.calls k2 _ _ l0 ((rd_T38 ((rd_T36 l0 x6_1).f1) x7_2).f0) t116 _ ?side1 ?side2 A21.out).mono ?_); (case side1 => exact Kd.C_below HR0.out (by exact bl_g HB.out)); (case side2 => exact HC0.out); rintro e w31 ⟨rfl, hb⟩; refine ⟨_, rfl, ?_⟩; refine mv4 (am (Kd.R_below (Kd.R_o (Kd.R_mono (Kd.R_far (p := ⟨gb115, 5, none⟩) (Kd.R_far (p := ⟨gb115, 4, none⟩) (Kd.R_far (p := ⟨gb115, 3, none⟩) (Kd.R_far (p := ⟨gb115, 2, none⟩) (Kd.R_far (p := ⟨gb115, 1, none⟩) (Kd.R_far (p := ⟨gb115, 0, none⟩) (Kd.R_types HO_3.out BK115.out (by decide)) (fun _ hk => hk.2) (.string ((rd_T38 ((rd_T36 l0 x6_1).f1) x7_2).f0))) (fun _ hk => hk.2) (.string ((rd_T38 ((rd_T36 l0 x6_1).f1) x7_2).f1))) (fun _ hk => hk.2) (.int .i64 ((rd_T38 ((rd_T36 l0 x6_1).f1) x7_2).f2))) (fun _ hk => hk.2) (.int .i64 ((rd_T38 ((rd_T36 l0 x6_1).f1) x7_2).f3))) (fun _ hk => hk.2) (.int .i64 ((rd_T38 ((rd_T36 l0 x6_1).f1) x7_2).f4))) (fun _ hk => hk.2) (.int .i64 ((rd_T38 ((rd_T36 l0 x6_1).f1) x7_2).f5))) (fun _ h_ => h_.1))) hb)) (am (blk_below (g := gb106) (o := .cells #[.int .i64 t104, .string t105] 26 (0, 0)) (by (with_reducible repeat (first | refine blk_drewN ?_ _ | refine blk_drew ?_ | refine blk_alloc ?_ _)); refine blk_far ?_ NB106_115.out _; (with_reducible repeat (first | refine blk_drewN ?_ _ | refine blk_drew ?_ | refine blk_alloc ?_ _)); refine blk_far ?_ NB106_115.out _; (with_reducible repeat (first | refine blk_drewN ?_ _ | refine blk_drew ?_ | refine blk_alloc ?_ _)); refine blk_far ?_ NB106_115.out _; (with_reducible repeat (first | refine blk_drewN ?_ _ | refine blk_drew ?_ | refine blk_alloc ?_ _)); refine blk_far ?_ NB106_115.out _; (with_reducible repeat (first | refine blk_drewN ?_ _ | refine blk_drew ?_ | refine blk_alloc ?_ _)); refine blk_far ?_ NB106_115.out _; (with_reducible repeat (first | refine blk_drewN ?_ _ | refine blk_drew ?_ | refine blk_alloc ?_ _)); refine blk_far ?_ NB106_115.out _; (with_reducible repeat (first | refine blk_drewN ?_ _ | refine blk_drew ?_ | refine blk_alloc ?_ _)); exact BK106.out) hb)) (am (blk_below (g := gb115) (o := .cells #[.string ((rd_T38 ((rd_T36 l0 x6_1).f1) x7_2).f0), .string ((rd_T38 ((rd_T36 l0 x6_1).f1) x7_2).f1), .int .i64 ((rd_T38 ((rd_T36 l0 x6_1).f1) x7_2).f2), .int .i64 ((rd_T38 ((rd_T36 l0 x6_1).f1) x7_2).f3), .int .i64 ((rd_T38 ((rd_T36 l0 x6_1).f1) x7_2).f4), .int .i64 ((rd_T38 ((rd_T36 l0 x6_1).f1) x7_2).f5)] 38 (0, 0)) (by (with_reducible repeat (first | refine blk_drewN ?_ _ | refine blk_drew ?_ | refine blk_alloc ?_ _)); refine blk_put (cs := #[.string ((rd_T38 ((rd_T36 l0 x6_1).f1) x7_2).f0), .string ((rd_T38 ((rd_T36 l0 x6_1).f1) x7_2).f1), .int .i64 ((rd_T38 ((rd_T36 l0 x6_1).f1) x7_2).f2), .int .i64 ((rd_T38 ((rd_T36 l0 x6_1).f1) x7_2).f3), .int .i64 ((rd_T38 ((rd_T36 l0 x6_1).f1) x7_2).f4), .int .i64 0]) ?_ 5 _ rfl; (with_reducible repeat (first | refine blk_drewN ?_ _ | refine blk_drew ?_ | refine blk_alloc ?_ _)); refine blk_put (cs := #[.string ((rd_T38 ((rd_T36 l0 x6_1).f1) x7_2).f0), .string ((rd_T38 ((rd_T36 l0 x6_1).f1) x7_2).f1), .int .i64 ((rd_T38 ((rd_T36 l0 x6_1).f1) x7_2).f2), .int .i64 ((rd_T38 ((rd_T36 l0 x6_1).f1) x7_2).f3), .int .i64 0, .int .i64 0]) ?_ 4 _ rfl; (with_reducible repeat (first | refine blk_drewN ?_ _ | refine blk_drew ?_ | refine blk_alloc ?_ _)); refine blk_put (cs := #[.string ((rd_T38 ((rd_T36 l0 x6_1).f1) x7_2).f0), .string ((rd_T38 ((rd_T36 l0 x6_1).f1) x7_2).f1), .int .i64 ((rd_T38 ((rd_T36 l0 x6_1).f1) x7_2).f2), .int .i64 0, .int .i64 0, .int .i64 0]) ?_ 3 _ rfl; (with_reducible repeat (first | refine blk_drewN ?_ _ | refine blk_drew ?_ | refine blk_alloc ?_ _)); refine blk_put (cs := #[.string ((rd_T38 ((rd_T36 l0 x6_1).f1) x7_2).f0), .string ((rd_T38 ((rd_T36 l0 x6_1).f1) x7_2).f1), .int .i64 0, .int .i64 0, .int .i64 0, .int .i64 0]) ?_ 2 _ rfl; (with_reducible repeat (first | refine blk_drewN ?_ _ | refine blk_drew ?_ | refine blk_alloc ?_ _)); refine blk_put (cs := #[.string ((rd_T38 ((rd_T36 l0 x6_1).f1) x7_2).f0), .string (⟨#[]⟩ : ByteArray), .int .i64 0, .int .i64 0, .int .i64 0, .int .i64 0]) ?_ 1 _ rfl; (with_reducible repeat (first | refine blk_drewN ?_ _ | refine blk_drew ?_ | refine blk_alloc ?_ _)); refine blk_put (cs := #[.string (⟨#[]⟩ : ByteArray), .string (⟨#[]⟩ : ByteArray), .int .i64 0, .int .i64 0, .int .i64 0, .int .i64 0]) ?_ 0 _ rfl; (with_reducible repeat (first | refine blk_drewN ?_ _ | refine blk_drew ?_ | refine blk_alloc ?_ _)); exact BK115.out) hb)) (am (below_step (by exact bl_g HB.out) hb)) ?_; clear HO_3 BK106 BK115 HB; intro HO_3 BK106 BK115 HB; (try clear hb); (try clear hb2); (try clear hk); (try clear hi)))
       go_roundg k2
       case measure => have := HK1.out; have := HK2.out; omega
       case rel => exact ⟨(true), (wrap64 (x7_2 + 1)), (by first | rfl | (simp; done) | (simp [*]; done)), (by first | rfl | (simp; done) | (simp [*]; done)), H', ⟨by have := HK1.out; have := HK2.out; omega⟩, ⟨by (with_reducible repeat (first | apply Kd.R_alloc | apply Kd.R_drewN | apply Kd.R_drew)); exact HO_3.out⟩, ⟨by (with_reducible repeat (first | refine blk_drewN ?_ _ | refine blk_drew ?_ | refine blk_alloc ?_ _)); exact BK106.out⟩, ⟨by exact bl_g HB.out⟩⟩
      rw [if_neg c27] at H
      have c27b0 : decide (1 < t116) = false := decide_eq_false c27
      clear c27
      replace H := Option.bind_eq_some_iff.mp H
      obtain ⟨t117, A320, H⟩ := H
      replace H : (if t117 = true then (gangwaylaw18_ResolveJust.l1 k2 l0 t101 true x6_1 (wrap64 (x7_2 + 1)) t104 t105) else (if ((rd_T38 ((rd_T36 l0 x6_1).f1) x7_2).f1).toList = ([] : List UInt8) then (if ((rd_T38 ((rd_T36 l0 x6_1).f1) x7_2).f4) = 1 then ((gangwaylaw18_defined.f k2 l0 ((rd_T38 ((rd_T36 l0 x6_1).f1) x7_2).f0)).bind fun t118 => (gangwaylaw18_ResolveJust.l1 k2 l0 t101 (!t118) x6_1 (wrap64 (x7_2 + 1)) t104 t105)) else (gangwaylaw18_ResolveJust.l1 k2 l0 t101 false x6_1 (wrap64 (x7_2 + 1)) t104 t105)) else (gangwaylaw18_ResolveJust.l1 k2 l0 t101 false x6_1 (wrap64 (x7_2 + 1)) t104 t105))) = some r := H
      have A32 := am A320
      clear A320
      by_cases c33 : t117 = true
      ·
       subst c33
       replace H : (gangwaylaw18_ResolveJust.l1 k2 l0 t101 true x6_1 (wrap64 (x7_2 + 1)) t104 t105) = some r := by rw [if_pos rfl] at H; exact H
       have H' := am H
       clear H
       have p112 : 0 ≤ (x6_1 : Int) := of_decide_eq_true (by first | (with_reducible assumption) | assumption)
       have q112 : x6_1 < (l0.length : Int) := of_decide_eq_true (by first | (with_reducible assumption) | assumption)
       obtain ⟨ad112, A112_0, c112_0, A112_1, c112_1, e112, hx112_0, hx112_1, hl112_0, hi112_0, hl112_1, hi112_1⟩ := at_T36 HR0.out x6_1 p112 q112
       cases e112
       replace hx112_0 := oc HB.out hx112_0
       replace hx112_1 := oc HB.out hx112_1
       have HR112_0 := am hi112_0
       have HC112_0 := am hl112_0
       clear hi112_0 hl112_0
       have HR112_1 := am hi112_1
       have HC112_1 := am hl112_1
       clear hi112_1 hl112_1
       replace p112 := eq_true p112
       replace q112 := eq_true q112
       have p113 : 0 ≤ (x6_1 : Int) := of_decide_eq_true (by first | (with_reducible assumption) | assumption)
       have q113 : x6_1 < (l0.length : Int) := of_decide_eq_true (by first | (with_reducible assumption) | assumption)
       obtain ⟨ad113, A113_0, c113_0, A113_1, c113_1, e113, hx113_0, hx113_1, hl113_0, hi113_0, hl113_1, hi113_1⟩ := at_T36 HR0.out x6_1 p113 q113
       obtain rfl : ad112 = ad113 := (by injection e113)
       replace hx113_0 := oc HB.out hx113_0
       replace hx113_1 := oc HB.out hx113_1
       have HR113_0 := am hi113_0
       have HC113_0 := am hl113_0
       clear hi113_0 hl113_0
       have HR113_1 := am hi113_1
       have HC113_1 := am hl113_1
       clear hi113_1 hl113_1
       replace p113 := eq_true p113
       replace q113 := eq_true q113
       have ea_ := Option.some.inj (hx112_0.symm.trans hx113_0)
       injection ea_ with ea_ en_ ec_
       subst ea_
       subst ec_
       clear en_
       have ea_ := Option.some.inj (hx112_1.symm.trans hx113_1)
       injection ea_ with ea_ en_ ec_
       subst ea_
       subst ec_
       clear en_
       have p114 : 0 ≤ (x7_2 : Int) := of_decide_eq_true (by first | (with_reducible assumption) | assumption)
       have q114 : x7_2 < (((rd_T36 l0 x6_1).f1).length : Int) := of_decide_eq_true (by first | (with_reducible assumption) | assumption)
       obtain ⟨ad114, e114, hx114_0, hx114_1, hx114_2, hx114_3, hx114_4, hx114_5⟩ := at_T38 HR113_1.out x7_2 p114 q114
       cases e114
       replace hx114_0 := oc HB.out hx114_0
       replace hx114_1 := oc HB.out hx114_1
       replace hx114_2 := oc HB.out hx114_2
       replace hx114_3 := oc HB.out hx114_3
       replace hx114_4 := oc HB.out hx114_4
       replace hx114_5 := oc HB.out hx114_5
       replace p114 := eq_true p114
       replace q114 := eq_true q114
       go_wp2_with (first | ((with_reducible refine gate_dst (N := 8) rfl ?_); (try (refine gate_guard (by rfl) ?_; dsimp only)); refine box_event ?hg (N := 8) ?hd (cs := #[.string (⟨#[]⟩ : ByteArray), .string (⟨#[]⟩ : ByteArray), .int .i64 0, .int .i64 0, .int .i64 0, .int .i64 0]) (t := 38) ?hr ?_; (case hd => rfl); (case hg => rfl); (case hr => go_simp; try rfl); intro gb115 hg w34 hbox hb; refine mv7 (am (Kd.R_below (Kd.R_o HO_3.out) hb)) (am (blk_below (blk_o BK106.out) hb)) (am (below_step (by exact bl_g HB.out) hb)) (am (hbox)) (lei (by rw [hg]; exact (below_size (by exact bl_g HB.out)) : w.heap.size ≤ gb115)) (am ((by rw [hg]; exact Nat.ne_of_lt (blk_lt (g := gb106) (o := .cells #[.int .i64 t104, .string t105] 26 (0, 0)) (blk_o BK106.out)) : gb106 ≠ gb115))) (am ((by rw [hg]; exact Nat.ne_of_gt (blk_lt (g := gb106) (o := .cells #[.int .i64 t104, .string t105] 26 (0, 0)) (blk_o BK106.out)) : gb115 ≠ gb106))) ?_; clear HO_3 BK106 HB; intro HO_3 BK106 HB BK115 GW115 NB106_115 NB115_106; have GE115 := GW115; clear hb hbox hg; have hnb35 := NB115_106.out; have hnc35 := NB106_115.out; obtain ⟨hcz36_0, hcz36_1, hcz36_2, hcz36_3, hcz36_4, hcz36_5, hfz36_0, hfz36_1, hfz36_2, hfz36_3, hfz36_4, hfz36_5⟩ := cells6 BK115.out) | ((with_reducible refine gate_callee (f := 12) rfl ?_); refine goesL_ (some 66) rfl rfl Try.func12 (by kernel_rfl) rfl #[.slice (some ad112) l0.length c0, .string ((rd_T38 ((rd_T36 l0 x6_1).f1) x7_2).f0)] rfl (by simp only [List.map_toArray, List.map_cons, List.map_nil]; try rfl) ?_; (with_reducible refine (gangwaylaw18_strong.calls k2 _ _ l0 ((rd_T38 ((rd_T36 l0 x6_1).f1) x7_2).f0) t116 _ ?side1 ?side2 A21.out).mono ?_); (case side1 => exact Kd.C_below HR0.out (by exact bl_g HB.out)); (case side2 => exact HC0.out); rintro e w37 ⟨rfl, hb⟩; refine ⟨_, rfl, ?_⟩; refine mv4 (am (Kd.R_below (Kd.R_o (Kd.R_mono (Kd.R_far (p := ⟨gb115, 5, none⟩) (Kd.R_far (p := ⟨gb115, 4, none⟩) (Kd.R_far (p := ⟨gb115, 3, none⟩) (Kd.R_far (p := ⟨gb115, 2, none⟩) (Kd.R_far (p := ⟨gb115, 1, none⟩) (Kd.R_far (p := ⟨gb115, 0, none⟩) (Kd.R_types HO_3.out BK115.out (by decide)) (fun _ hk => hk.2) (.string ((rd_T38 ((rd_T36 l0 x6_1).f1) x7_2).f0))) (fun _ hk => hk.2) (.string ((rd_T38 ((rd_T36 l0 x6_1).f1) x7_2).f1))) (fun _ hk => hk.2) (.int .i64 ((rd_T38 ((rd_T36 l0 x6_1).f1) x7_2).f2))) (fun _ hk => hk.2) (.int .i64 ((rd_T38 ((rd_T36 l0 x6_1).f1) x7_2).f3))) (fun _ hk => hk.2) (.int .i64 ((rd_T38 ((rd_T36 l0 x6_1).f1) x7_2).f4))) (fun _ hk => hk.2) (.int .i64 ((rd_T38 ((rd_T36 l0 x6_1).f1) x7_2).f5))) (fun _ h_ => h_.1))) hb)) (am (blk_below (g := gb106) (o := .cells #[.int .i64 t104, .string t105] 26 (0, 0)) (by (with_reducible repeat (first | refine blk_drewN ?_ _ | refine blk_drew ?_ | refine blk_alloc ?_ _)); refine blk_far ?_ NB106_115.out _; (with_reducible repeat (first | refine blk_drewN ?_ _ | refine blk_drew ?_ | refine blk_alloc ?_ _)); refine blk_far ?_ NB106_115.out _; (with_reducible repeat (first | refine blk_drewN ?_ _ | refine blk_drew ?_ | refine blk_alloc ?_ _)); refine blk_far ?_ NB106_115.out _; (with_reducible repeat (first | refine blk_drewN ?_ _ | refine blk_drew ?_ | refine blk_alloc ?_ _)); refine blk_far ?_ NB106_115.out _; (with_reducible repeat (first | refine blk_drewN ?_ _ | refine blk_drew ?_ | refine blk_alloc ?_ _)); refine blk_far ?_ NB106_115.out _; (with_reducible repeat (first | refine blk_drewN ?_ _ | refine blk_drew ?_ | refine blk_alloc ?_ _)); refine blk_far ?_ NB106_115.out _; (with_reducible repeat (first | refine blk_drewN ?_ _ | refine blk_drew ?_ | refine blk_alloc ?_ _)); exact BK106.out) hb)) (am (blk_below (g := gb115) (o := .cells #[.string ((rd_T38 ((rd_T36 l0 x6_1).f1) x7_2).f0), .string ((rd_T38 ((rd_T36 l0 x6_1).f1) x7_2).f1), .int .i64 ((rd_T38 ((rd_T36 l0 x6_1).f1) x7_2).f2), .int .i64 ((rd_T38 ((rd_T36 l0 x6_1).f1) x7_2).f3), .int .i64 ((rd_T38 ((rd_T36 l0 x6_1).f1) x7_2).f4), .int .i64 ((rd_T38 ((rd_T36 l0 x6_1).f1) x7_2).f5)] 38 (0, 0)) (by (with_reducible repeat (first | refine blk_drewN ?_ _ | refine blk_drew ?_ | refine blk_alloc ?_ _)); refine blk_put (cs := #[.string ((rd_T38 ((rd_T36 l0 x6_1).f1) x7_2).f0), .string ((rd_T38 ((rd_T36 l0 x6_1).f1) x7_2).f1), .int .i64 ((rd_T38 ((rd_T36 l0 x6_1).f1) x7_2).f2), .int .i64 ((rd_T38 ((rd_T36 l0 x6_1).f1) x7_2).f3), .int .i64 ((rd_T38 ((rd_T36 l0 x6_1).f1) x7_2).f4), .int .i64 0]) ?_ 5 _ rfl; (with_reducible repeat (first | refine blk_drewN ?_ _ | refine blk_drew ?_ | refine blk_alloc ?_ _)); refine blk_put (cs := #[.string ((rd_T38 ((rd_T36 l0 x6_1).f1) x7_2).f0), .string ((rd_T38 ((rd_T36 l0 x6_1).f1) x7_2).f1), .int .i64 ((rd_T38 ((rd_T36 l0 x6_1).f1) x7_2).f2), .int .i64 ((rd_T38 ((rd_T36 l0 x6_1).f1) x7_2).f3), .int .i64 0, .int .i64 0]) ?_ 4 _ rfl; (with_reducible repeat (first | refine blk_drewN ?_ _ | refine blk_drew ?_ | refine blk_alloc ?_ _)); refine blk_put (cs := #[.string ((rd_T38 ((rd_T36 l0 x6_1).f1) x7_2).f0), .string ((rd_T38 ((rd_T36 l0 x6_1).f1) x7_2).f1), .int .i64 ((rd_T38 ((rd_T36 l0 x6_1).f1) x7_2).f2), .int .i64 0, .int .i64 0, .int .i64 0]) ?_ 3 _ rfl; (with_reducible repeat (first | refine blk_drewN ?_ _ | refine blk_drew ?_ | refine blk_alloc ?_ _)); refine blk_put (cs := #[.string ((rd_T38 ((rd_T36 l0 x6_1).f1) x7_2).f0), .string ((rd_T38 ((rd_T36 l0 x6_1).f1) x7_2).f1), .int .i64 0, .int .i64 0, .int .i64 0, .int .i64 0]) ?_ 2 _ rfl; (with_reducible repeat (first | refine blk_drewN ?_ _ | refine blk_drew ?_ | refine blk_alloc ?_ _)); refine blk_put (cs := #[.string ((rd_T38 ((rd_T36 l0 x6_1).f1) x7_2).f0), .string (⟨#[]⟩ : ByteArray), .int .i64 0, .int .i64 0, .int .i64 0, .int .i64 0]) ?_ 1 _ rfl; (with_reducible repeat (first | refine blk_drewN ?_ _ | refine blk_drew ?_ | refine blk_alloc ?_ _)); refine blk_put (cs := #[.string (⟨#[]⟩ : ByteArray), .string (⟨#[]⟩ : ByteArray), .int .i64 0, .int .i64 0, .int .i64 0, .int .i64 0]) ?_ 0 _ rfl; (with_reducible repeat (first | refine blk_drewN ?_ _ | refine blk_drew ?_ | refine blk_alloc ?_ _)); exact BK115.out) hb)) (am (below_step (by exact bl_g HB.out) hb)) ?_; clear HO_3 BK106 BK115 HB; intro HO_3 BK106 BK115 HB; (try clear hb); (try clear hb2); (try clear hk); (try clear hi); obtain ⟨hcz38_0, hcz38_1, hcz38_2, hcz38_3, hcz38_4, hcz38_5, hfz38_0, hfz38_1, hfz38_2, hfz38_3, hfz38_4, hfz38_5⟩ := cells6 BK115.out) | (go_at_call 13; (with_reducible refine (gangwaylaw18_mixed.calls k2 _ _ l0 ((rd_T38 ((rd_T36 l0 x6_1).f1) x7_2).f0) true _ ?side1 ?side2 A32.out).mono ?_); (case side1 => exact Kd.C_o (Kd.C_below HR0.out HB.out)); (case side2 => exact HC0.out); rintro e w39 ⟨rfl, hb⟩; refine mv4 (am (Kd.R_below (Kd.R_o HO_3.out) hb)) (am (blk_below (blk_o BK106.out) hb)) (am (blk_below (blk_o BK115.out) hb)) (am (below_step (by exact bl_g HB.out) hb)) ?_; clear HO_3 BK106 BK115 HB; intro HO_3 BK106 BK115 HB; (try clear hb); (try clear hb2); (try clear hk); (try clear hi)))
       go_roundg k2
       case measure => have := HK1.out; have := HK2.out; omega
       case rel => exact ⟨(true), (wrap64 (x7_2 + 1)), (by first | rfl | (simp; done) | (simp [*]; done)), (by first | rfl | (simp; done) | (simp [*]; done)), H', ⟨by have := HK1.out; have := HK2.out; omega⟩, ⟨by (with_reducible repeat (first | apply Kd.R_alloc | apply Kd.R_drewN | apply Kd.R_drew)); exact HO_3.out⟩, ⟨by (with_reducible repeat (first | refine blk_drewN ?_ _ | refine blk_drew ?_ | refine blk_alloc ?_ _)); exact BK106.out⟩, ⟨by exact bl_g HB.out⟩⟩
      replace c33 := Bool.eq_false_iff.mpr c33
      subst c33
      replace H : (if ((rd_T38 ((rd_T36 l0 x6_1).f1) x7_2).f1).toList = ([] : List UInt8) then (if ((rd_T38 ((rd_T36 l0 x6_1).f1) x7_2).f4) = 1 then ((gangwaylaw18_defined.f k2 l0 ((rd_T38 ((rd_T36 l0 x6_1).f1) x7_2).f0)).bind fun t118 => (gangwaylaw18_ResolveJust.l1 k2 l0 t101 (!t118) x6_1 (wrap64 (x7_2 + 1)) t104 t105)) else (gangwaylaw18_ResolveJust.l1 k2 l0 t101 false x6_1 (wrap64 (x7_2 + 1)) t104 t105)) else (gangwaylaw18_ResolveJust.l1 k2 l0 t101 false x6_1 (wrap64 (x7_2 + 1)) t104 t105)) = some r := by rw [if_neg (show ¬ (false = true) by decide)] at H; exact H
      by_cases c40 : ((rd_T38 ((rd_T36 l0 x6_1).f1) x7_2).f1).toList = ([] : List UInt8)
      rotate_left
      ·
       rw [if_neg c40] at H
       have c40b0 : (((rd_T38 ((rd_T36 l0 x6_1).f1) x7_2).f1).toList == ([] : List UInt8)) = false := beq_eq_false_iff_ne.mpr c40
       have c40b1 : (((rd_T38 ((rd_T36 l0 x6_1).f1) x7_2).f1).toList != ([] : List UInt8)) = true := bne_iff_ne.mpr c40
       have H' := am H
       clear H
       have p112 : 0 ≤ (x6_1 : Int) := of_decide_eq_true (by first | (with_reducible assumption) | assumption)
       have q112 : x6_1 < (l0.length : Int) := of_decide_eq_true (by first | (with_reducible assumption) | assumption)
       obtain ⟨ad112, A112_0, c112_0, A112_1, c112_1, e112, hx112_0, hx112_1, hl112_0, hi112_0, hl112_1, hi112_1⟩ := at_T36 HR0.out x6_1 p112 q112
       cases e112
       replace hx112_0 := oc HB.out hx112_0
       replace hx112_1 := oc HB.out hx112_1
       have HR112_0 := am hi112_0
       have HC112_0 := am hl112_0
       clear hi112_0 hl112_0
       have HR112_1 := am hi112_1
       have HC112_1 := am hl112_1
       clear hi112_1 hl112_1
       replace p112 := eq_true p112
       replace q112 := eq_true q112
       have p113 : 0 ≤ (x6_1 : Int) := of_decide_eq_true (by first | (with_reducible assumption) | assumption)
       have q113 : x6_1 < (l0.length : Int) := of_decide_eq_true (by first | (with_reducible assumption) | assumption)
       obtain ⟨ad113, A113_0, c113_0, A113_1, c113_1, e113, hx113_0, hx113_1, hl113_0, hi113_0, hl113_1, hi113_1⟩ := at_T36 HR0.out x6_1 p113 q113
       obtain rfl : ad112 = ad113 := (by injection e113)
       replace hx113_0 := oc HB.out hx113_0
       replace hx113_1 := oc HB.out hx113_1
       have HR113_0 := am hi113_0
       have HC113_0 := am hl113_0
       clear hi113_0 hl113_0
       have HR113_1 := am hi113_1
       have HC113_1 := am hl113_1
       clear hi113_1 hl113_1
       replace p113 := eq_true p113
       replace q113 := eq_true q113
       have ea_ := Option.some.inj (hx112_0.symm.trans hx113_0)
       injection ea_ with ea_ en_ ec_
       subst ea_
       subst ec_
       clear en_
       have ea_ := Option.some.inj (hx112_1.symm.trans hx113_1)
       injection ea_ with ea_ en_ ec_
       subst ea_
       subst ec_
       clear en_
       have p114 : 0 ≤ (x7_2 : Int) := of_decide_eq_true (by first | (with_reducible assumption) | assumption)
       have q114 : x7_2 < (((rd_T36 l0 x6_1).f1).length : Int) := of_decide_eq_true (by first | (with_reducible assumption) | assumption)
       obtain ⟨ad114, e114, hx114_0, hx114_1, hx114_2, hx114_3, hx114_4, hx114_5⟩ := at_T38 HR113_1.out x7_2 p114 q114
       cases e114
       replace hx114_0 := oc HB.out hx114_0
       replace hx114_1 := oc HB.out hx114_1
       replace hx114_2 := oc HB.out hx114_2
       replace hx114_3 := oc HB.out hx114_3
       replace hx114_4 := oc HB.out hx114_4
       replace hx114_5 := oc HB.out hx114_5
       replace p114 := eq_true p114
       replace q114 := eq_true q114
       go_wp2_with (first | ((with_reducible refine gate_dst (N := 8) rfl ?_); (try (refine gate_guard (by rfl) ?_; dsimp only)); refine box_event ?hg (N := 8) ?hd (cs := #[.string (⟨#[]⟩ : ByteArray), .string (⟨#[]⟩ : ByteArray), .int .i64 0, .int .i64 0, .int .i64 0, .int .i64 0]) (t := 38) ?hr ?_; (case hd => rfl); (case hg => rfl); (case hr => go_simp; try rfl); intro gb115 hg w58 hbox hb; refine mv7 (am (Kd.R_below (Kd.R_o HO_3.out) hb)) (am (blk_below (blk_o BK106.out) hb)) (am (below_step (by exact bl_g HB.out) hb)) (am (hbox)) (lei (by rw [hg]; exact (below_size (by exact bl_g HB.out)) : w.heap.size ≤ gb115)) (am ((by rw [hg]; exact Nat.ne_of_lt (blk_lt (g := gb106) (o := .cells #[.int .i64 t104, .string t105] 26 (0, 0)) (blk_o BK106.out)) : gb106 ≠ gb115))) (am ((by rw [hg]; exact Nat.ne_of_gt (blk_lt (g := gb106) (o := .cells #[.int .i64 t104, .string t105] 26 (0, 0)) (blk_o BK106.out)) : gb115 ≠ gb106))) ?_; clear HO_3 BK106 HB; intro HO_3 BK106 HB BK115 GW115 NB106_115 NB115_106; have GE115 := GW115; clear hb hbox hg; have hnb59 := NB115_106.out; have hnc59 := NB106_115.out; obtain ⟨hcz60_0, hcz60_1, hcz60_2, hcz60_3, hcz60_4, hcz60_5, hfz60_0, hfz60_1, hfz60_2, hfz60_3, hfz60_4, hfz60_5⟩ := cells6 BK115.out) | ((with_reducible refine gate_callee (f := 12) rfl ?_); refine goesL_ (some 66) rfl rfl Try.func12 (by kernel_rfl) rfl #[.slice (some ad112) l0.length c0, .string ((rd_T38 ((rd_T36 l0 x6_1).f1) x7_2).f0)] rfl (by simp only [List.map_toArray, List.map_cons, List.map_nil]; try rfl) ?_; (with_reducible refine (gangwaylaw18_strong.calls k2 _ _ l0 ((rd_T38 ((rd_T36 l0 x6_1).f1) x7_2).f0) t116 _ ?side1 ?side2 A21.out).mono ?_); (case side1 => exact Kd.C_below HR0.out (by exact bl_g HB.out)); (case side2 => exact HC0.out); rintro e w61 ⟨rfl, hb⟩; refine ⟨_, rfl, ?_⟩; refine mv4 (am (Kd.R_below (Kd.R_o (Kd.R_mono (Kd.R_far (p := ⟨gb115, 5, none⟩) (Kd.R_far (p := ⟨gb115, 4, none⟩) (Kd.R_far (p := ⟨gb115, 3, none⟩) (Kd.R_far (p := ⟨gb115, 2, none⟩) (Kd.R_far (p := ⟨gb115, 1, none⟩) (Kd.R_far (p := ⟨gb115, 0, none⟩) (Kd.R_types HO_3.out BK115.out (by decide)) (fun _ hk => hk.2) (.string ((rd_T38 ((rd_T36 l0 x6_1).f1) x7_2).f0))) (fun _ hk => hk.2) (.string ((rd_T38 ((rd_T36 l0 x6_1).f1) x7_2).f1))) (fun _ hk => hk.2) (.int .i64 ((rd_T38 ((rd_T36 l0 x6_1).f1) x7_2).f2))) (fun _ hk => hk.2) (.int .i64 ((rd_T38 ((rd_T36 l0 x6_1).f1) x7_2).f3))) (fun _ hk => hk.2) (.int .i64 ((rd_T38 ((rd_T36 l0 x6_1).f1) x7_2).f4))) (fun _ hk => hk.2) (.int .i64 ((rd_T38 ((rd_T36 l0 x6_1).f1) x7_2).f5))) (fun _ h_ => h_.1))) hb)) (am (blk_below (g := gb106) (o := .cells #[.int .i64 t104, .string t105] 26 (0, 0)) (by (with_reducible repeat (first | refine blk_drewN ?_ _ | refine blk_drew ?_ | refine blk_alloc ?_ _)); refine blk_far ?_ NB106_115.out _; (with_reducible repeat (first | refine blk_drewN ?_ _ | refine blk_drew ?_ | refine blk_alloc ?_ _)); refine blk_far ?_ NB106_115.out _; (with_reducible repeat (first | refine blk_drewN ?_ _ | refine blk_drew ?_ | refine blk_alloc ?_ _)); refine blk_far ?_ NB106_115.out _; (with_reducible repeat (first | refine blk_drewN ?_ _ | refine blk_drew ?_ | refine blk_alloc ?_ _)); refine blk_far ?_ NB106_115.out _; (with_reducible repeat (first | refine blk_drewN ?_ _ | refine blk_drew ?_ | refine blk_alloc ?_ _)); refine blk_far ?_ NB106_115.out _; (with_reducible repeat (first | refine blk_drewN ?_ _ | refine blk_drew ?_ | refine blk_alloc ?_ _)); refine blk_far ?_ NB106_115.out _; (with_reducible repeat (first | refine blk_drewN ?_ _ | refine blk_drew ?_ | refine blk_alloc ?_ _)); exact BK106.out) hb)) (am (blk_below (g := gb115) (o := .cells #[.string ((rd_T38 ((rd_T36 l0 x6_1).f1) x7_2).f0), .string ((rd_T38 ((rd_T36 l0 x6_1).f1) x7_2).f1), .int .i64 ((rd_T38 ((rd_T36 l0 x6_1).f1) x7_2).f2), .int .i64 ((rd_T38 ((rd_T36 l0 x6_1).f1) x7_2).f3), .int .i64 ((rd_T38 ((rd_T36 l0 x6_1).f1) x7_2).f4), .int .i64 ((rd_T38 ((rd_T36 l0 x6_1).f1) x7_2).f5)] 38 (0, 0)) (by (with_reducible repeat (first | refine blk_drewN ?_ _ | refine blk_drew ?_ | refine blk_alloc ?_ _)); refine blk_put (cs := #[.string ((rd_T38 ((rd_T36 l0 x6_1).f1) x7_2).f0), .string ((rd_T38 ((rd_T36 l0 x6_1).f1) x7_2).f1), .int .i64 ((rd_T38 ((rd_T36 l0 x6_1).f1) x7_2).f2), .int .i64 ((rd_T38 ((rd_T36 l0 x6_1).f1) x7_2).f3), .int .i64 ((rd_T38 ((rd_T36 l0 x6_1).f1) x7_2).f4), .int .i64 0]) ?_ 5 _ rfl; (with_reducible repeat (first | refine blk_drewN ?_ _ | refine blk_drew ?_ | refine blk_alloc ?_ _)); refine blk_put (cs := #[.string ((rd_T38 ((rd_T36 l0 x6_1).f1) x7_2).f0), .string ((rd_T38 ((rd_T36 l0 x6_1).f1) x7_2).f1), .int .i64 ((rd_T38 ((rd_T36 l0 x6_1).f1) x7_2).f2), .int .i64 ((rd_T38 ((rd_T36 l0 x6_1).f1) x7_2).f3), .int .i64 0, .int .i64 0]) ?_ 4 _ rfl; (with_reducible repeat (first | refine blk_drewN ?_ _ | refine blk_drew ?_ | refine blk_alloc ?_ _)); refine blk_put (cs := #[.string ((rd_T38 ((rd_T36 l0 x6_1).f1) x7_2).f0), .string ((rd_T38 ((rd_T36 l0 x6_1).f1) x7_2).f1), .int .i64 ((rd_T38 ((rd_T36 l0 x6_1).f1) x7_2).f2), .int .i64 0, .int .i64 0, .int .i64 0]) ?_ 3 _ rfl; (with_reducible repeat (first | refine blk_drewN ?_ _ | refine blk_drew ?_ | refine blk_alloc ?_ _)); refine blk_put (cs := #[.string ((rd_T38 ((rd_T36 l0 x6_1).f1) x7_2).f0), .string ((rd_T38 ((rd_T36 l0 x6_1).f1) x7_2).f1), .int .i64 0, .int .i64 0, .int .i64 0, .int .i64 0]) ?_ 2 _ rfl; (with_reducible repeat (first | refine blk_drewN ?_ _ | refine blk_drew ?_ | refine blk_alloc ?_ _)); refine blk_put (cs := #[.string ((rd_T38 ((rd_T36 l0 x6_1).f1) x7_2).f0), .string (⟨#[]⟩ : ByteArray), .int .i64 0, .int .i64 0, .int .i64 0, .int .i64 0]) ?_ 1 _ rfl; (with_reducible repeat (first | refine blk_drewN ?_ _ | refine blk_drew ?_ | refine blk_alloc ?_ _)); refine blk_put (cs := #[.string (⟨#[]⟩ : ByteArray), .string (⟨#[]⟩ : ByteArray), .int .i64 0, .int .i64 0, .int .i64 0, .int .i64 0]) ?_ 0 _ rfl; (with_reducible repeat (first | refine blk_drewN ?_ _ | refine blk_drew ?_ | refine blk_alloc ?_ _)); exact BK115.out) hb)) (am (below_step (by exact bl_g HB.out) hb)) ?_; clear HO_3 BK106 BK115 HB; intro HO_3 BK106 BK115 HB; (try clear hb); (try clear hb2); (try clear hk); (try clear hi); obtain ⟨hcz62_0, hcz62_1, hcz62_2, hcz62_3, hcz62_4, hcz62_5, hfz62_0, hfz62_1, hfz62_2, hfz62_3, hfz62_4, hfz62_5⟩ := cells6 BK115.out) | (go_at_call 13; (with_reducible refine (gangwaylaw18_mixed.calls k2 _ _ l0 ((rd_T38 ((rd_T36 l0 x6_1).f1) x7_2).f0) false _ ?side1 ?side2 A32.out).mono ?_); (case side1 => exact Kd.C_o (Kd.C_below HR0.out HB.out)); (case side2 => exact HC0.out); rintro e w63 ⟨rfl, hb⟩; refine mv4 (am (Kd.R_below (Kd.R_o HO_3.out) hb)) (am (blk_below (blk_o BK106.out) hb)) (am (blk_below (blk_o BK115.out) hb)) (am (below_step (by exact bl_g HB.out) hb)) ?_; clear HO_3 BK106 BK115 HB; intro HO_3 BK106 BK115 HB; (try clear hb); (try clear hb2); (try clear hk); (try clear hi); obtain ⟨hcz64_0, hcz64_1, hcz64_2, hcz64_3, hcz64_4, hcz64_5, hfz64_0, hfz64_1, hfz64_2, hfz64_3, hfz64_4, hfz64_5⟩ := cells6 BK115.out))
       go_roundg k2
       case measure => have := HK1.out; have := HK2.out; omega
       case rel => exact ⟨(false), (wrap64 (x7_2 + 1)), (by first | rfl | (simp; done) | (simp [*]; done)), (by first | rfl | (simp; done) | (simp [*]; done)), H', ⟨by have := HK1.out; have := HK2.out; omega⟩, ⟨by (with_reducible repeat (first | apply Kd.R_alloc | apply Kd.R_drewN | apply Kd.R_drew)); exact HO_3.out⟩, ⟨by (with_reducible repeat (first | refine blk_drewN ?_ _ | refine blk_drew ?_ | refine blk_alloc ?_ _)); exact BK106.out⟩, ⟨by exact bl_g HB.out⟩⟩
      rw [if_pos c40] at H
      have c40b0 : (((rd_T38 ((rd_T36 l0 x6_1).f1) x7_2).f1).toList == ([] : List UInt8)) = true := beq_iff_eq.mpr c40
      have c40b1 : (((rd_T38 ((rd_T36 l0 x6_1).f1) x7_2).f1).toList != ([] : List UInt8)) = false := bne_eq_false_iff_eq.mpr c40
      clear c40
      by_cases c41 : ((rd_T38 ((rd_T36 l0 x6_1).f1) x7_2).f4) = 1
      rotate_left
      ·
       rw [if_neg c41] at H
       have c41b0 : (((rd_T38 ((rd_T36 l0 x6_1).f1) x7_2).f4) == 1) = false := beq_eq_false_iff_ne.mpr c41
       have c41b1 : (((rd_T38 ((rd_T36 l0 x6_1).f1) x7_2).f4) != 1) = true := bne_iff_ne.mpr c41
       have H' := am H
       clear H
       have p112 : 0 ≤ (x6_1 : Int) := of_decide_eq_true (by first | (with_reducible assumption) | assumption)
       have q112 : x6_1 < (l0.length : Int) := of_decide_eq_true (by first | (with_reducible assumption) | assumption)
       obtain ⟨ad112, A112_0, c112_0, A112_1, c112_1, e112, hx112_0, hx112_1, hl112_0, hi112_0, hl112_1, hi112_1⟩ := at_T36 HR0.out x6_1 p112 q112
       cases e112
       replace hx112_0 := oc HB.out hx112_0
       replace hx112_1 := oc HB.out hx112_1
       have HR112_0 := am hi112_0
       have HC112_0 := am hl112_0
       clear hi112_0 hl112_0
       have HR112_1 := am hi112_1
       have HC112_1 := am hl112_1
       clear hi112_1 hl112_1
       replace p112 := eq_true p112
       replace q112 := eq_true q112
       have p113 : 0 ≤ (x6_1 : Int) := of_decide_eq_true (by first | (with_reducible assumption) | assumption)
       have q113 : x6_1 < (l0.length : Int) := of_decide_eq_true (by first | (with_reducible assumption) | assumption)
       obtain ⟨ad113, A113_0, c113_0, A113_1, c113_1, e113, hx113_0, hx113_1, hl113_0, hi113_0, hl113_1, hi113_1⟩ := at_T36 HR0.out x6_1 p113 q113
       obtain rfl : ad112 = ad113 := (by injection e113)
       replace hx113_0 := oc HB.out hx113_0
       replace hx113_1 := oc HB.out hx113_1
       have HR113_0 := am hi113_0
       have HC113_0 := am hl113_0
       clear hi113_0 hl113_0
       have HR113_1 := am hi113_1
       have HC113_1 := am hl113_1
       clear hi113_1 hl113_1
       replace p113 := eq_true p113
       replace q113 := eq_true q113
       have ea_ := Option.some.inj (hx112_0.symm.trans hx113_0)
       injection ea_ with ea_ en_ ec_
       subst ea_
       subst ec_
       clear en_
       have ea_ := Option.some.inj (hx112_1.symm.trans hx113_1)
       injection ea_ with ea_ en_ ec_
       subst ea_
       subst ec_
       clear en_
       have p114 : 0 ≤ (x7_2 : Int) := of_decide_eq_true (by first | (with_reducible assumption) | assumption)
       have q114 : x7_2 < (((rd_T36 l0 x6_1).f1).length : Int) := of_decide_eq_true (by first | (with_reducible assumption) | assumption)
       obtain ⟨ad114, e114, hx114_0, hx114_1, hx114_2, hx114_3, hx114_4, hx114_5⟩ := at_T38 HR113_1.out x7_2 p114 q114
       cases e114
       replace hx114_0 := oc HB.out hx114_0
       replace hx114_1 := oc HB.out hx114_1
       replace hx114_2 := oc HB.out hx114_2
       replace hx114_3 := oc HB.out hx114_3
       replace hx114_4 := oc HB.out hx114_4
       replace hx114_5 := oc HB.out hx114_5
       replace p114 := eq_true p114
       replace q114 := eq_true q114
       go_wp2_with (first | ((with_reducible refine gate_dst (N := 8) rfl ?_); (try (refine gate_guard (by rfl) ?_; dsimp only)); refine box_event ?hg (N := 8) ?hd (cs := #[.string (⟨#[]⟩ : ByteArray), .string (⟨#[]⟩ : ByteArray), .int .i64 0, .int .i64 0, .int .i64 0, .int .i64 0]) (t := 38) ?hr ?_; (case hd => rfl); (case hg => rfl); (case hr => go_simp; try rfl); intro gb115 hg w51 hbox hb; refine mv7 (am (Kd.R_below (Kd.R_o HO_3.out) hb)) (am (blk_below (blk_o BK106.out) hb)) (am (below_step (by exact bl_g HB.out) hb)) (am (hbox)) (lei (by rw [hg]; exact (below_size (by exact bl_g HB.out)) : w.heap.size ≤ gb115)) (am ((by rw [hg]; exact Nat.ne_of_lt (blk_lt (g := gb106) (o := .cells #[.int .i64 t104, .string t105] 26 (0, 0)) (blk_o BK106.out)) : gb106 ≠ gb115))) (am ((by rw [hg]; exact Nat.ne_of_gt (blk_lt (g := gb106) (o := .cells #[.int .i64 t104, .string t105] 26 (0, 0)) (blk_o BK106.out)) : gb115 ≠ gb106))) ?_; clear HO_3 BK106 HB; intro HO_3 BK106 HB BK115 GW115 NB106_115 NB115_106; have GE115 := GW115; clear hb hbox hg; have hnb52 := NB115_106.out; have hnc52 := NB106_115.out; obtain ⟨hcz53_0, hcz53_1, hcz53_2, hcz53_3, hcz53_4, hcz53_5, hfz53_0, hfz53_1, hfz53_2, hfz53_3, hfz53_4, hfz53_5⟩ := cells6 BK115.out) | ((with_reducible refine gate_callee (f := 12) rfl ?_); refine goesL_ (some 66) rfl rfl Try.func12 (by kernel_rfl) rfl #[.slice (some ad112) l0.length c0, .string ((rd_T38 ((rd_T36 l0 x6_1).f1) x7_2).f0)] rfl (by simp only [List.map_toArray, List.map_cons, List.map_nil]; try rfl) ?_; (with_reducible refine (gangwaylaw18_strong.calls k2 _ _ l0 ((rd_T38 ((rd_T36 l0 x6_1).f1) x7_2).f0) t116 _ ?side1 ?side2 A21.out).mono ?_); (case side1 => exact Kd.C_below HR0.out (by exact bl_g HB.out)); (case side2 => exact HC0.out); rintro e w54 ⟨rfl, hb⟩; refine ⟨_, rfl, ?_⟩; refine mv4 (am (Kd.R_below (Kd.R_o (Kd.R_mono (Kd.R_far (p := ⟨gb115, 5, none⟩) (Kd.R_far (p := ⟨gb115, 4, none⟩) (Kd.R_far (p := ⟨gb115, 3, none⟩) (Kd.R_far (p := ⟨gb115, 2, none⟩) (Kd.R_far (p := ⟨gb115, 1, none⟩) (Kd.R_far (p := ⟨gb115, 0, none⟩) (Kd.R_types HO_3.out BK115.out (by decide)) (fun _ hk => hk.2) (.string ((rd_T38 ((rd_T36 l0 x6_1).f1) x7_2).f0))) (fun _ hk => hk.2) (.string ((rd_T38 ((rd_T36 l0 x6_1).f1) x7_2).f1))) (fun _ hk => hk.2) (.int .i64 ((rd_T38 ((rd_T36 l0 x6_1).f1) x7_2).f2))) (fun _ hk => hk.2) (.int .i64 ((rd_T38 ((rd_T36 l0 x6_1).f1) x7_2).f3))) (fun _ hk => hk.2) (.int .i64 ((rd_T38 ((rd_T36 l0 x6_1).f1) x7_2).f4))) (fun _ hk => hk.2) (.int .i64 ((rd_T38 ((rd_T36 l0 x6_1).f1) x7_2).f5))) (fun _ h_ => h_.1))) hb)) (am (blk_below (g := gb106) (o := .cells #[.int .i64 t104, .string t105] 26 (0, 0)) (by (with_reducible repeat (first | refine blk_drewN ?_ _ | refine blk_drew ?_ | refine blk_alloc ?_ _)); refine blk_far ?_ NB106_115.out _; (with_reducible repeat (first | refine blk_drewN ?_ _ | refine blk_drew ?_ | refine blk_alloc ?_ _)); refine blk_far ?_ NB106_115.out _; (with_reducible repeat (first | refine blk_drewN ?_ _ | refine blk_drew ?_ | refine blk_alloc ?_ _)); refine blk_far ?_ NB106_115.out _; (with_reducible repeat (first | refine blk_drewN ?_ _ | refine blk_drew ?_ | refine blk_alloc ?_ _)); refine blk_far ?_ NB106_115.out _; (with_reducible repeat (first | refine blk_drewN ?_ _ | refine blk_drew ?_ | refine blk_alloc ?_ _)); refine blk_far ?_ NB106_115.out _; (with_reducible repeat (first | refine blk_drewN ?_ _ | refine blk_drew ?_ | refine blk_alloc ?_ _)); refine blk_far ?_ NB106_115.out _; (with_reducible repeat (first | refine blk_drewN ?_ _ | refine blk_drew ?_ | refine blk_alloc ?_ _)); exact BK106.out) hb)) (am (blk_below (g := gb115) (o := .cells #[.string ((rd_T38 ((rd_T36 l0 x6_1).f1) x7_2).f0), .string ((rd_T38 ((rd_T36 l0 x6_1).f1) x7_2).f1), .int .i64 ((rd_T38 ((rd_T36 l0 x6_1).f1) x7_2).f2), .int .i64 ((rd_T38 ((rd_T36 l0 x6_1).f1) x7_2).f3), .int .i64 ((rd_T38 ((rd_T36 l0 x6_1).f1) x7_2).f4), .int .i64 ((rd_T38 ((rd_T36 l0 x6_1).f1) x7_2).f5)] 38 (0, 0)) (by (with_reducible repeat (first | refine blk_drewN ?_ _ | refine blk_drew ?_ | refine blk_alloc ?_ _)); refine blk_put (cs := #[.string ((rd_T38 ((rd_T36 l0 x6_1).f1) x7_2).f0), .string ((rd_T38 ((rd_T36 l0 x6_1).f1) x7_2).f1), .int .i64 ((rd_T38 ((rd_T36 l0 x6_1).f1) x7_2).f2), .int .i64 ((rd_T38 ((rd_T36 l0 x6_1).f1) x7_2).f3), .int .i64 ((rd_T38 ((rd_T36 l0 x6_1).f1) x7_2).f4), .int .i64 0]) ?_ 5 _ rfl; (with_reducible repeat (first | refine blk_drewN ?_ _ | refine blk_drew ?_ | refine blk_alloc ?_ _)); refine blk_put (cs := #[.string ((rd_T38 ((rd_T36 l0 x6_1).f1) x7_2).f0), .string ((rd_T38 ((rd_T36 l0 x6_1).f1) x7_2).f1), .int .i64 ((rd_T38 ((rd_T36 l0 x6_1).f1) x7_2).f2), .int .i64 ((rd_T38 ((rd_T36 l0 x6_1).f1) x7_2).f3), .int .i64 0, .int .i64 0]) ?_ 4 _ rfl; (with_reducible repeat (first | refine blk_drewN ?_ _ | refine blk_drew ?_ | refine blk_alloc ?_ _)); refine blk_put (cs := #[.string ((rd_T38 ((rd_T36 l0 x6_1).f1) x7_2).f0), .string ((rd_T38 ((rd_T36 l0 x6_1).f1) x7_2).f1), .int .i64 ((rd_T38 ((rd_T36 l0 x6_1).f1) x7_2).f2), .int .i64 0, .int .i64 0, .int .i64 0]) ?_ 3 _ rfl; (with_reducible repeat (first | refine blk_drewN ?_ _ | refine blk_drew ?_ | refine blk_alloc ?_ _)); refine blk_put (cs := #[.string ((rd_T38 ((rd_T36 l0 x6_1).f1) x7_2).f0), .string ((rd_T38 ((rd_T36 l0 x6_1).f1) x7_2).f1), .int .i64 0, .int .i64 0, .int .i64 0, .int .i64 0]) ?_ 2 _ rfl; (with_reducible repeat (first | refine blk_drewN ?_ _ | refine blk_drew ?_ | refine blk_alloc ?_ _)); refine blk_put (cs := #[.string ((rd_T38 ((rd_T36 l0 x6_1).f1) x7_2).f0), .string (⟨#[]⟩ : ByteArray), .int .i64 0, .int .i64 0, .int .i64 0, .int .i64 0]) ?_ 1 _ rfl; (with_reducible repeat (first | refine blk_drewN ?_ _ | refine blk_drew ?_ | refine blk_alloc ?_ _)); refine blk_put (cs := #[.string (⟨#[]⟩ : ByteArray), .string (⟨#[]⟩ : ByteArray), .int .i64 0, .int .i64 0, .int .i64 0, .int .i64 0]) ?_ 0 _ rfl; (with_reducible repeat (first | refine blk_drewN ?_ _ | refine blk_drew ?_ | refine blk_alloc ?_ _)); exact BK115.out) hb)) (am (below_step (by exact bl_g HB.out) hb)) ?_; clear HO_3 BK106 BK115 HB; intro HO_3 BK106 BK115 HB; (try clear hb); (try clear hb2); (try clear hk); (try clear hi); obtain ⟨hcz55_0, hcz55_1, hcz55_2, hcz55_3, hcz55_4, hcz55_5, hfz55_0, hfz55_1, hfz55_2, hfz55_3, hfz55_4, hfz55_5⟩ := cells6 BK115.out) | (go_at_call 13; (with_reducible refine (gangwaylaw18_mixed.calls k2 _ _ l0 ((rd_T38 ((rd_T36 l0 x6_1).f1) x7_2).f0) false _ ?side1 ?side2 A32.out).mono ?_); (case side1 => exact Kd.C_o (Kd.C_below HR0.out HB.out)); (case side2 => exact HC0.out); rintro e w56 ⟨rfl, hb⟩; refine mv4 (am (Kd.R_below (Kd.R_o HO_3.out) hb)) (am (blk_below (blk_o BK106.out) hb)) (am (blk_below (blk_o BK115.out) hb)) (am (below_step (by exact bl_g HB.out) hb)) ?_; clear HO_3 BK106 BK115 HB; intro HO_3 BK106 BK115 HB; (try clear hb); (try clear hb2); (try clear hk); (try clear hi); obtain ⟨hcz57_0, hcz57_1, hcz57_2, hcz57_3, hcz57_4, hcz57_5, hfz57_0, hfz57_1, hfz57_2, hfz57_3, hfz57_4, hfz57_5⟩ := cells6 BK115.out))
       go_roundg k2
       case measure => have := HK1.out; have := HK2.out; omega
       case rel => exact ⟨(false), (wrap64 (x7_2 + 1)), (by first | rfl | (simp; done) | (simp [*]; done)), (by first | rfl | (simp; done) | (simp [*]; done)), H', ⟨by have := HK1.out; have := HK2.out; omega⟩, ⟨by (with_reducible repeat (first | apply Kd.R_alloc | apply Kd.R_drewN | apply Kd.R_drew)); exact HO_3.out⟩, ⟨by (with_reducible repeat (first | refine blk_drewN ?_ _ | refine blk_drew ?_ | refine blk_alloc ?_ _)); exact BK106.out⟩, ⟨by exact bl_g HB.out⟩⟩
      rw [if_pos c41] at H
      have c41b0 : (((rd_T38 ((rd_T36 l0 x6_1).f1) x7_2).f4) == 1) = true := beq_iff_eq.mpr c41
      have c41b1 : (((rd_T38 ((rd_T36 l0 x6_1).f1) x7_2).f4) != 1) = false := bne_eq_false_iff_eq.mpr c41
      clear c41
      replace H := Option.bind_eq_some_iff.mp H
      obtain ⟨t118, A420, H⟩ := H
      replace H : (gangwaylaw18_ResolveJust.l1 k2 l0 t101 (!t118) x6_1 (wrap64 (x7_2 + 1)) t104 t105) = some r := H
      have A42 := am A420
      clear A420
      have H' := am H
      clear H
      have p112 : 0 ≤ (x6_1 : Int) := of_decide_eq_true (by first | (with_reducible assumption) | assumption)
      have q112 : x6_1 < (l0.length : Int) := of_decide_eq_true (by first | (with_reducible assumption) | assumption)
      obtain ⟨ad112, A112_0, c112_0, A112_1, c112_1, e112, hx112_0, hx112_1, hl112_0, hi112_0, hl112_1, hi112_1⟩ := at_T36 HR0.out x6_1 p112 q112
      cases e112
      replace hx112_0 := oc HB.out hx112_0
      replace hx112_1 := oc HB.out hx112_1
      have HR112_0 := am hi112_0
      have HC112_0 := am hl112_0
      clear hi112_0 hl112_0
      have HR112_1 := am hi112_1
      have HC112_1 := am hl112_1
      clear hi112_1 hl112_1
      replace p112 := eq_true p112
      replace q112 := eq_true q112
      have p113 : 0 ≤ (x6_1 : Int) := of_decide_eq_true (by first | (with_reducible assumption) | assumption)
      have q113 : x6_1 < (l0.length : Int) := of_decide_eq_true (by first | (with_reducible assumption) | assumption)
      obtain ⟨ad113, A113_0, c113_0, A113_1, c113_1, e113, hx113_0, hx113_1, hl113_0, hi113_0, hl113_1, hi113_1⟩ := at_T36 HR0.out x6_1 p113 q113
      obtain rfl : ad112 = ad113 := (by injection e113)
      replace hx113_0 := oc HB.out hx113_0
      replace hx113_1 := oc HB.out hx113_1
      have HR113_0 := am hi113_0
      have HC113_0 := am hl113_0
      clear hi113_0 hl113_0
      have HR113_1 := am hi113_1
      have HC113_1 := am hl113_1
      clear hi113_1 hl113_1
      replace p113 := eq_true p113
      replace q113 := eq_true q113
      have ea_ := Option.some.inj (hx112_0.symm.trans hx113_0)
      injection ea_ with ea_ en_ ec_
      subst ea_
      subst ec_
      clear en_
      have ea_ := Option.some.inj (hx112_1.symm.trans hx113_1)
      injection ea_ with ea_ en_ ec_
      subst ea_
      subst ec_
      clear en_
      have p114 : 0 ≤ (x7_2 : Int) := of_decide_eq_true (by first | (with_reducible assumption) | assumption)
      have q114 : x7_2 < (((rd_T36 l0 x6_1).f1).length : Int) := of_decide_eq_true (by first | (with_reducible assumption) | assumption)
      obtain ⟨ad114, e114, hx114_0, hx114_1, hx114_2, hx114_3, hx114_4, hx114_5⟩ := at_T38 HR113_1.out x7_2 p114 q114
      cases e114
      replace hx114_0 := oc HB.out hx114_0
      replace hx114_1 := oc HB.out hx114_1
      replace hx114_2 := oc HB.out hx114_2
      replace hx114_3 := oc HB.out hx114_3
      replace hx114_4 := oc HB.out hx114_4
      replace hx114_5 := oc HB.out hx114_5
      replace p114 := eq_true p114
      replace q114 := eq_true q114
      go_wp2_with (first | ((with_reducible refine gate_dst (N := 8) rfl ?_); (try (refine gate_guard (by rfl) ?_; dsimp only)); refine box_event ?hg (N := 8) ?hd (cs := #[.string (⟨#[]⟩ : ByteArray), .string (⟨#[]⟩ : ByteArray), .int .i64 0, .int .i64 0, .int .i64 0, .int .i64 0]) (t := 38) ?hr ?_; (case hd => rfl); (case hg => rfl); (case hr => go_simp; try rfl); intro gb115 hg w43 hbox hb; refine mv7 (am (Kd.R_below (Kd.R_o HO_3.out) hb)) (am (blk_below (blk_o BK106.out) hb)) (am (below_step (by exact bl_g HB.out) hb)) (am (hbox)) (lei (by rw [hg]; exact (below_size (by exact bl_g HB.out)) : w.heap.size ≤ gb115)) (am ((by rw [hg]; exact Nat.ne_of_lt (blk_lt (g := gb106) (o := .cells #[.int .i64 t104, .string t105] 26 (0, 0)) (blk_o BK106.out)) : gb106 ≠ gb115))) (am ((by rw [hg]; exact Nat.ne_of_gt (blk_lt (g := gb106) (o := .cells #[.int .i64 t104, .string t105] 26 (0, 0)) (blk_o BK106.out)) : gb115 ≠ gb106))) ?_; clear HO_3 BK106 HB; intro HO_3 BK106 HB BK115 GW115 NB106_115 NB115_106; have GE115 := GW115; clear hb hbox hg; have hnb44 := NB115_106.out; have hnc44 := NB106_115.out; obtain ⟨hcz45_0, hcz45_1, hcz45_2, hcz45_3, hcz45_4, hcz45_5, hfz45_0, hfz45_1, hfz45_2, hfz45_3, hfz45_4, hfz45_5⟩ := cells6 BK115.out) | ((with_reducible refine gate_callee (f := 12) rfl ?_); refine goesL_ (some 66) rfl rfl Try.func12 (by kernel_rfl) rfl #[.slice (some ad112) l0.length c0, .string ((rd_T38 ((rd_T36 l0 x6_1).f1) x7_2).f0)] rfl (by simp only [List.map_toArray, List.map_cons, List.map_nil]; try rfl) ?_; (with_reducible refine (gangwaylaw18_strong.calls k2 _ _ l0 ((rd_T38 ((rd_T36 l0 x6_1).f1) x7_2).f0) t116 _ ?side1 ?side2 A21.out).mono ?_); (case side1 => exact Kd.C_below HR0.out (by exact bl_g HB.out)); (case side2 => exact HC0.out); rintro e w46 ⟨rfl, hb⟩; refine ⟨_, rfl, ?_⟩; refine mv4 (am (Kd.R_below (Kd.R_o (Kd.R_mono (Kd.R_far (p := ⟨gb115, 5, none⟩) (Kd.R_far (p := ⟨gb115, 4, none⟩) (Kd.R_far (p := ⟨gb115, 3, none⟩) (Kd.R_far (p := ⟨gb115, 2, none⟩) (Kd.R_far (p := ⟨gb115, 1, none⟩) (Kd.R_far (p := ⟨gb115, 0, none⟩) (Kd.R_types HO_3.out BK115.out (by decide)) (fun _ hk => hk.2) (.string ((rd_T38 ((rd_T36 l0 x6_1).f1) x7_2).f0))) (fun _ hk => hk.2) (.string ((rd_T38 ((rd_T36 l0 x6_1).f1) x7_2).f1))) (fun _ hk => hk.2) (.int .i64 ((rd_T38 ((rd_T36 l0 x6_1).f1) x7_2).f2))) (fun _ hk => hk.2) (.int .i64 ((rd_T38 ((rd_T36 l0 x6_1).f1) x7_2).f3))) (fun _ hk => hk.2) (.int .i64 ((rd_T38 ((rd_T36 l0 x6_1).f1) x7_2).f4))) (fun _ hk => hk.2) (.int .i64 ((rd_T38 ((rd_T36 l0 x6_1).f1) x7_2).f5))) (fun _ h_ => h_.1))) hb)) (am (blk_below (g := gb106) (o := .cells #[.int .i64 t104, .string t105] 26 (0, 0)) (by (with_reducible repeat (first | refine blk_drewN ?_ _ | refine blk_drew ?_ | refine blk_alloc ?_ _)); refine blk_far ?_ NB106_115.out _; (with_reducible repeat (first | refine blk_drewN ?_ _ | refine blk_drew ?_ | refine blk_alloc ?_ _)); refine blk_far ?_ NB106_115.out _; (with_reducible repeat (first | refine blk_drewN ?_ _ | refine blk_drew ?_ | refine blk_alloc ?_ _)); refine blk_far ?_ NB106_115.out _; (with_reducible repeat (first | refine blk_drewN ?_ _ | refine blk_drew ?_ | refine blk_alloc ?_ _)); refine blk_far ?_ NB106_115.out _; (with_reducible repeat (first | refine blk_drewN ?_ _ | refine blk_drew ?_ | refine blk_alloc ?_ _)); refine blk_far ?_ NB106_115.out _; (with_reducible repeat (first | refine blk_drewN ?_ _ | refine blk_drew ?_ | refine blk_alloc ?_ _)); refine blk_far ?_ NB106_115.out _; (with_reducible repeat (first | refine blk_drewN ?_ _ | refine blk_drew ?_ | refine blk_alloc ?_ _)); exact BK106.out) hb)) (am (blk_below (g := gb115) (o := .cells #[.string ((rd_T38 ((rd_T36 l0 x6_1).f1) x7_2).f0), .string ((rd_T38 ((rd_T36 l0 x6_1).f1) x7_2).f1), .int .i64 ((rd_T38 ((rd_T36 l0 x6_1).f1) x7_2).f2), .int .i64 ((rd_T38 ((rd_T36 l0 x6_1).f1) x7_2).f3), .int .i64 ((rd_T38 ((rd_T36 l0 x6_1).f1) x7_2).f4), .int .i64 ((rd_T38 ((rd_T36 l0 x6_1).f1) x7_2).f5)] 38 (0, 0)) (by (with_reducible repeat (first | refine blk_drewN ?_ _ | refine blk_drew ?_ | refine blk_alloc ?_ _)); refine blk_put (cs := #[.string ((rd_T38 ((rd_T36 l0 x6_1).f1) x7_2).f0), .string ((rd_T38 ((rd_T36 l0 x6_1).f1) x7_2).f1), .int .i64 ((rd_T38 ((rd_T36 l0 x6_1).f1) x7_2).f2), .int .i64 ((rd_T38 ((rd_T36 l0 x6_1).f1) x7_2).f3), .int .i64 ((rd_T38 ((rd_T36 l0 x6_1).f1) x7_2).f4), .int .i64 0]) ?_ 5 _ rfl; (with_reducible repeat (first | refine blk_drewN ?_ _ | refine blk_drew ?_ | refine blk_alloc ?_ _)); refine blk_put (cs := #[.string ((rd_T38 ((rd_T36 l0 x6_1).f1) x7_2).f0), .string ((rd_T38 ((rd_T36 l0 x6_1).f1) x7_2).f1), .int .i64 ((rd_T38 ((rd_T36 l0 x6_1).f1) x7_2).f2), .int .i64 ((rd_T38 ((rd_T36 l0 x6_1).f1) x7_2).f3), .int .i64 0, .int .i64 0]) ?_ 4 _ rfl; (with_reducible repeat (first | refine blk_drewN ?_ _ | refine blk_drew ?_ | refine blk_alloc ?_ _)); refine blk_put (cs := #[.string ((rd_T38 ((rd_T36 l0 x6_1).f1) x7_2).f0), .string ((rd_T38 ((rd_T36 l0 x6_1).f1) x7_2).f1), .int .i64 ((rd_T38 ((rd_T36 l0 x6_1).f1) x7_2).f2), .int .i64 0, .int .i64 0, .int .i64 0]) ?_ 3 _ rfl; (with_reducible repeat (first | refine blk_drewN ?_ _ | refine blk_drew ?_ | refine blk_alloc ?_ _)); refine blk_put (cs := #[.string ((rd_T38 ((rd_T36 l0 x6_1).f1) x7_2).f0), .string ((rd_T38 ((rd_T36 l0 x6_1).f1) x7_2).f1), .int .i64 0, .int .i64 0, .int .i64 0, .int .i64 0]) ?_ 2 _ rfl; (with_reducible repeat (first | refine blk_drewN ?_ _ | refine blk_drew ?_ | refine blk_alloc ?_ _)); refine blk_put (cs := #[.string ((rd_T38 ((rd_T36 l0 x6_1).f1) x7_2).f0), .string (⟨#[]⟩ : ByteArray), .int .i64 0, .int .i64 0, .int .i64 0, .int .i64 0]) ?_ 1 _ rfl; (with_reducible repeat (first | refine blk_drewN ?_ _ | refine blk_drew ?_ | refine blk_alloc ?_ _)); refine blk_put (cs := #[.string (⟨#[]⟩ : ByteArray), .string (⟨#[]⟩ : ByteArray), .int .i64 0, .int .i64 0, .int .i64 0, .int .i64 0]) ?_ 0 _ rfl; (with_reducible repeat (first | refine blk_drewN ?_ _ | refine blk_drew ?_ | refine blk_alloc ?_ _)); exact BK115.out) hb)) (am (below_step (by exact bl_g HB.out) hb)) ?_; clear HO_3 BK106 BK115 HB; intro HO_3 BK106 BK115 HB; (try clear hb); (try clear hb2); (try clear hk); (try clear hi); obtain ⟨hcz47_0, hcz47_1, hcz47_2, hcz47_3, hcz47_4, hcz47_5, hfz47_0, hfz47_1, hfz47_2, hfz47_3, hfz47_4, hfz47_5⟩ := cells6 BK115.out) | (go_at_call 13; (with_reducible refine (gangwaylaw18_mixed.calls k2 _ _ l0 ((rd_T38 ((rd_T36 l0 x6_1).f1) x7_2).f0) false _ ?side1 ?side2 A32.out).mono ?_); (case side1 => exact Kd.C_o (Kd.C_below HR0.out HB.out)); (case side2 => exact HC0.out); rintro e w48 ⟨rfl, hb⟩; refine mv4 (am (Kd.R_below (Kd.R_o HO_3.out) hb)) (am (blk_below (blk_o BK106.out) hb)) (am (blk_below (blk_o BK115.out) hb)) (am (below_step (by exact bl_g HB.out) hb)) ?_; clear HO_3 BK106 BK115 HB; intro HO_3 BK106 BK115 HB; (try clear hb); (try clear hb2); (try clear hk); (try clear hi); obtain ⟨hcz49_0, hcz49_1, hcz49_2, hcz49_3, hcz49_4, hcz49_5, hfz49_0, hfz49_1, hfz49_2, hfz49_3, hfz49_4, hfz49_5⟩ := cells6 BK115.out) | (go_at_call 14; (with_reducible refine (gangwaylaw18_defined.calls k2 _ _ l0 ((rd_T38 ((rd_T36 l0 x6_1).f1) x7_2).f0) t118 _ ?side1 ?side2 A42.out).mono ?_); (case side1 => exact Kd.C_o (Kd.C_below HR0.out HB.out)); (case side2 => exact HC0.out); rintro e w50 ⟨rfl, hb⟩; refine mv4 (am (Kd.R_below (Kd.R_o HO_3.out) hb)) (am (blk_below (blk_o BK106.out) hb)) (am (blk_below (blk_o BK115.out) hb)) (am (below_step (by exact bl_g HB.out) hb)) ?_; clear HO_3 BK106 BK115 HB; intro HO_3 BK106 BK115 HB; (try clear hb); (try clear hb2); (try clear hk); (try clear hi)))
      go_roundg k2
      case measure => have := HK1.out; have := HK2.out; omega
      case rel => exact ⟨(!t118), (wrap64 (x7_2 + 1)), (by first | rfl | (simp; done) | (simp [*]; done)), (by first | rfl | (simp; done) | (simp [*]; done)), H', ⟨by have := HK1.out; have := HK2.out; omega⟩, ⟨by (with_reducible repeat (first | apply Kd.R_alloc | apply Kd.R_drewN | apply Kd.R_drew)); exact HO_3.out⟩, ⟨by (with_reducible repeat (first | refine blk_drewN ?_ _ | refine blk_drew ?_ | refine blk_alloc ?_ _)); exact BK106.out⟩, ⟨by exact bl_g HB.out⟩⟩
   rw [if_neg c12] at H
   have c12b0 : decide (x6_1 < (l0.length : Int)) = false := decide_eq_false c12
   clear c12
   replace H := Option.bind_eq_some_iff.mp H
   obtain ⟨t119, A650, H⟩ := H
   replace H : (if (x5_1 != (t119 != 0)) = true then (none) else (gangwaylaw18_ResolveJust.l2 k1 l0 t101 0)) = some r := H
   have A65 := am A650
   clear A650
   by_cases c66 : (x5_1 != (t119 != 0)) = true
   ·
    rw [if_pos c66] at H
    exact absurd H (by simp)
   rw [if_neg c66] at H
   have c66b0 : (x5_1 != (t119 != 0)) = false := by simpa using c66
   (try (have c66b1 : decide (x5_1 = (t119 != 0)) = true := by simpa using c66))
   (try (have c66b2 : (x5_1 == (t119 != 0)) = true := by simpa using c66))
   clear c66
   have H' := am H
   clear H
   obtain ⟨hcz67_0, hcz67_1, hfz67_0, hfz67_1⟩ := cells2 BK106.out
   go_wp2_with (first | ((with_reducible refine gate_callee (f := 8) rfl ?_); refine goesL_ (some 98) rfl rfl Try.func8 (by kernel_rfl) rfl #[.int .i64 t104] rfl (by simp only [List.map_toArray, List.map_cons, List.map_nil]; try rfl) ?_; (with_reducible refine (gangwaylaw18_num.calls t104 t119 _ A65.out).mono ?_); rintro e w' ⟨rfl, ⟨nd, rfl⟩⟩; refine ⟨_, rfl, ?_⟩))
   go_loopg [10] k1 (fun kq v10 w' => ∃ (x10_2 : Int), v10 = .int .i64 x10_2 ∧ Aside0 (gangwaylaw18_ResolveJust.l2 kq l0 t101 x10_2 = some r) ∧ Aside0 (kq ≤ k1) ∧ Aside0 (Kd.R k42 42 w' w.heap.size (fun _ => True) v102 t101) ∧ Aside0 (w'.heap[gb106]? = some (.cells #[.int .i64 t104, .string t105] 26 (0, 0))) ∧ Aside0 (Below w.heap.size w w'))
   case atStart => exact ⟨(0), (by first | rfl | (simp; done) | (simp [*]; done)), H', ⟨Nat.le_refl _⟩, ⟨by (with_reducible repeat (first | apply Kd.R_alloc | apply Kd.R_drewN | apply Kd.R_drew)); exact HO_3.out⟩, ⟨by (with_reducible repeat (first | refine blk_drewN ?_ _ | refine blk_drew ?_ | refine blk_alloc ?_ _)); exact BK106.out⟩, ⟨by exact bl_g HB.out⟩⟩
   case round =>
    clear H'
    try clear c1
    try clear p1
    try clear q1
    try clear hx1
    try clear c2
    try clear p2
    try clear c3
    try clear c4
    try clear c5
    try clear c5b0
    try clear c5b1
    try clear c6
    try clear p6
    try clear c7
    try clear c8
    try clear c9
    try clear c11
    try clear p11
    try clear q11
    try clear hx11
    try clear c12
    try clear c12b0
    try clear c13
    try clear c13b0
    try clear c14
    try clear c14b0
    try clear c15
    try clear c15b0
    try clear c16
    try clear c16b0
    try clear c17
    try clear c17b0
    try clear c17b1
    try clear c19
    try clear c22
    try clear c24
    try clear c27
    try clear c27b0
    try clear c29
    try clear c33
    try clear c35
    try clear c40
    try clear c40b0
    try clear c40b1
    try clear c41
    try clear c41b0
    try clear c41b1
    try clear c44
    try clear c52
    try clear c59
    try clear p64
    try clear c66
    try clear c66b0
    try clear c66b1
    try clear c66b2
    try clear hcz20_0
    try clear hcz20_1
    try clear hcz20_2
    try clear hcz20_3
    try clear hcz20_4
    try clear hcz20_5
    try clear hcz25_0
    try clear hcz25_1
    try clear hcz25_2
    try clear hcz25_3
    try clear hcz25_4
    try clear hcz25_5
    try clear hcz30_0
    try clear hcz30_1
    try clear hcz30_2
    try clear hcz30_3
    try clear hcz30_4
    try clear hcz30_5
    try clear hcz36_0
    try clear hcz36_1
    try clear hcz36_2
    try clear hcz36_3
    try clear hcz36_4
    try clear hcz36_5
    try clear hcz38_0
    try clear hcz38_1
    try clear hcz38_2
    try clear hcz38_3
    try clear hcz38_4
    try clear hcz38_5
    try clear hcz45_0
    try clear hcz45_1
    try clear hcz45_2
    try clear hcz45_3
    try clear hcz45_4
    try clear hcz45_5
    try clear hcz47_0
    try clear hcz47_1
    try clear hcz47_2
    try clear hcz47_3
    try clear hcz47_4
    try clear hcz47_5
    try clear hcz49_0
    try clear hcz49_1
    try clear hcz49_2
    try clear hcz49_3
    try clear hcz49_4
    try clear hcz49_5
    try clear hcz53_0
    try clear hcz53_1
    try clear hcz53_2
    try clear hcz53_3
    try clear hcz53_4
    try clear hcz53_5
    try clear hcz55_0
    try clear hcz55_1
    try clear hcz55_2
    try clear hcz55_3
    try clear hcz55_4
    try clear hcz55_5
    try clear hcz57_0
    try clear hcz57_1
    try clear hcz57_2
    try clear hcz57_3
    try clear hcz57_4
    try clear hcz57_5
    try clear hcz60_0
    try clear hcz60_1
    try clear hcz60_2
    try clear hcz60_3
    try clear hcz60_4
    try clear hcz60_5
    try clear hcz62_0
    try clear hcz62_1
    try clear hcz62_2
    try clear hcz62_3
    try clear hcz62_4
    try clear hcz62_5
    try clear hcz64_0
    try clear hcz64_1
    try clear hcz64_2
    try clear hcz64_3
    try clear hcz64_4
    try clear hcz64_5
    try clear hcz67_0
    try clear hcz67_1
    try clear hcz9_0
    try clear hcz9_1
    try clear hfz20_0
    try clear hfz20_1
    try clear hfz20_2
    try clear hfz20_3
    try clear hfz20_4
    try clear hfz20_5
    try clear hfz25_0
    try clear hfz25_1
    try clear hfz25_2
    try clear hfz25_3
    try clear hfz25_4
    try clear hfz25_5
    try clear hfz30_0
    try clear hfz30_1
    try clear hfz30_2
    try clear hfz30_3
    try clear hfz30_4
    try clear hfz30_5
    try clear hfz36_0
    try clear hfz36_1
    try clear hfz36_2
    try clear hfz36_3
    try clear hfz36_4
    try clear hfz36_5
    try clear hfz38_0
    try clear hfz38_1
    try clear hfz38_2
    try clear hfz38_3
    try clear hfz38_4
    try clear hfz38_5
    try clear hfz45_0
    try clear hfz45_1
    try clear hfz45_2
    try clear hfz45_3
    try clear hfz45_4
    try clear hfz45_5
    try clear hfz47_0
    try clear hfz47_1
    try clear hfz47_2
    try clear hfz47_3
    try clear hfz47_4
    try clear hfz47_5
    try clear hfz49_0
    try clear hfz49_1
    try clear hfz49_2
    try clear hfz49_3
    try clear hfz49_4
    try clear hfz49_5
    try clear hfz53_0
    try clear hfz53_1
    try clear hfz53_2
    try clear hfz53_3
    try clear hfz53_4
    try clear hfz53_5
    try clear hfz55_0
    try clear hfz55_1
    try clear hfz55_2
    try clear hfz55_3
    try clear hfz55_4
    try clear hfz55_5
    try clear hfz57_0
    try clear hfz57_1
    try clear hfz57_2
    try clear hfz57_3
    try clear hfz57_4
    try clear hfz57_5
    try clear hfz60_0
    try clear hfz60_1
    try clear hfz60_2
    try clear hfz60_3
    try clear hfz60_4
    try clear hfz60_5
    try clear hfz62_0
    try clear hfz62_1
    try clear hfz62_2
    try clear hfz62_3
    try clear hfz62_4
    try clear hfz62_5
    try clear hfz64_0
    try clear hfz64_1
    try clear hfz64_2
    try clear hfz64_3
    try clear hfz64_4
    try clear hfz64_5
    try clear hfz67_0
    try clear hfz67_1
    try clear hfz9_0
    try clear hfz9_1
    try clear hx112_0
    try clear hx112_1
    try clear hx113_0
    try clear hx113_1
    try clear hx114_0
    try clear hx114_1
    try clear hx114_2
    try clear hx114_3
    try clear hx114_4
    try clear hx114_5
    try clear p112
    try clear p113
    try clear p114
    try clear p2
    try clear q112
    try clear q113
    try clear q114
    obtain ⟨x10_2, rfl, HA, HK2, HO_3, BK106, HB⟩ := hrel
    cases gk with
    | zero => exact absurd HA.out (by simp [gangwaylaw18_ResolveJust.l2])
    | succ k2 =>
     have H := HA.out
     clear HA
     simp only [gangwaylaw18_ResolveJust.l2] at H
     by_cases c68 : x10_2 < (t101.length : Int)
     rotate_left
     ·
      rw [if_neg c68] at H
      have c68b0 : decide (x10_2 < (t101.length : Int)) = false := decide_eq_false c68
      clear c68
      replace H := Option.bind_eq_some_iff.mp H
      obtain ⟨t120, A1150, H⟩ := H
      replace H : (some t120) = some r := H
      have A115 := am A1150
      clear A1150
      obtain rfl := Option.some.inj H
      obtain ⟨Ao116, co116, eo116⟩ := Kd.R_slice HO_3.out
      subst eo116
      go_wp2_with (first | ((with_reducible refine gate_callee (f := 10) rfl ?_); refine goesL_ (some 183) rfl rfl Try.func10 (by kernel_rfl) rfl #[] rfl (by simp only [List.map_toArray, List.map_cons, List.map_nil]; try rfl) ?_; (with_reducible refine (gangwaylaw18_live.calls  t120 _ A115.out).mono ?_); rintro e w117 ⟨rfl, hb⟩; refine ⟨_, rfl, ?_⟩; refine mv3 (am (Kd.R_below (Kd.R_o HO_3.out) hb)) (am (blk_below (blk_o BK106.out) hb)) (am (below_step (by exact bl_g HB.out) hb)) ?_; clear HO_3 BK106 HB; intro HO_3 BK106 HB; (try clear hb); (try clear hb2); (try clear hk); (try clear hi)))
      go_ret
      exact ⟨rfl, by exact bl_g HB.out⟩
     rw [if_pos c68] at H
     have c68b0 : decide (x10_2 < (t101.length : Int)) = true := decide_eq_true c68
     clear c68
     by_cases c69 : 0 ≤ x10_2
     rotate_left
     ·
      rw [if_neg c69] at H
      exact absurd H (by simp)
     rw [if_pos c69] at H
     have c69b0 : decide (0 ≤ x10_2) = true := decide_eq_true c69
     clear c69
     by_cases c70 : ((rd_T42 t101 x10_2).f1) < 0
     ·
      rw [if_pos c70] at H
      have c70b0 : decide (((rd_T42 t101 x10_2).f1) < 0) = true := decide_eq_true c70
      clear c70
      by_cases c71 : ((rd_T42 t101 x10_2).f2) = (-1)
      rotate_left
      ·
       rw [if_neg c71] at H
       exact absurd H (by simp)
      rw [if_pos c71] at H
      have c71b0 : (((rd_T42 t101 x10_2).f2) == (-1)) = true := beq_iff_eq.mpr c71
      have c71b1 : (((rd_T42 t101 x10_2).f2) != (-1)) = false := bne_eq_false_iff_eq.mpr c71
      clear c71
      replace H := Option.bind_eq_some_iff.mp H
      obtain ⟨t123, A720, H⟩ := H
      replace H : (if t123 = true then (none) else (gangwaylaw18_ResolveJust.l2 k2 l0 t101 (wrap64 (x10_2 + 1)))) = some r := H
      have A72 := am A720
      clear A720
      by_cases c73 : t123 = true
      ·
       subst c73
       replace H : (none) = some r := by rw [if_pos rfl] at H; exact H
       exact absurd H (by simp)
      replace c73 := Bool.eq_false_iff.mpr c73
      subst c73
      replace H : (gangwaylaw18_ResolveJust.l2 k2 l0 t101 (wrap64 (x10_2 + 1))) = some r := by rw [if_neg (show ¬ (false = true) by decide)] at H; exact H
      have H' := am H
      clear H
      obtain ⟨Ao74, co74, eo74⟩ := Kd.R_slice HO_3.out
      subst eo74
      have p121 : 0 ≤ (x10_2 : Int) := of_decide_eq_true (by first | (with_reducible assumption) | assumption)
      have q121 : x10_2 < (t101.length : Int) := of_decide_eq_true (by first | (with_reducible assumption) | assumption)
      obtain ⟨ad121, e121, hx121_0, hx121_1, hx121_2, hx121_3, hx121_4⟩ := at_T42 (Kd.R_reads' HO_3.out).2.2 x10_2 p121 q121
      cases e121
      replace p121 := eq_true p121
      replace q121 := eq_true q121
      go_wp2_with (first | ((with_reducible refine gate_dst (N := 11) rfl ?_); (try (refine gate_guard (by rfl) ?_; dsimp only)); refine box_event ?hg (N := 11) ?hd (cs := #[.string (⟨#[]⟩ : ByteArray), .int .i64 0, .int .i64 0, .int .i64 0, .int .i64 0]) (t := 42) ?hr ?_; (case hd => rfl); (case hg => rfl); (case hr => go_simp; try rfl); intro gb122 hg w75 hbox hb; refine mv7 (am (Kd.R_below (Kd.R_elderB (Kd.R_o HO_3.out) gb122 (Nat.le_of_eq hg.symm)) hb)) (am (blk_below (blk_o BK106.out) hb)) (am (below_step (by exact bl_g HB.out) hb)) (am (hbox)) (lei (by rw [hg]; exact (below_size (by exact bl_g HB.out)) : w.heap.size ≤ gb122)) (am ((by rw [hg]; exact Nat.ne_of_lt (blk_lt (g := gb106) (o := .cells #[.int .i64 t104, .string t105] 26 (0, 0)) (blk_o BK106.out)) : gb106 ≠ gb122))) (am ((by rw [hg]; exact Nat.ne_of_gt (blk_lt (g := gb106) (o := .cells #[.int .i64 t104, .string t105] 26 (0, 0)) (blk_o BK106.out)) : gb122 ≠ gb106))) ?_; clear HO_3 BK106 HB; intro HO_3 BK106 HB BK122 GW122 NB106_122 NB122_106; have GE122 := GW122; clear hb hbox hg; have hnb76 := NB122_106.out; have hnc76 := NB106_122.out; obtain ⟨hcz77_0, hcz77_1, hcz77_2, hcz77_3, hcz77_4, hfz77_0, hfz77_1, hfz77_2, hfz77_3, hfz77_4⟩ := cells5 BK122.out) | (go_at_call 14; (with_reducible refine (gangwaylaw18_defined.calls k2 _ _ l0 ((rd_T42 t101 x10_2).f0) false _ ?side1 ?side2 A72.out).mono ?_); (case side1 => exact Kd.C_below HR0.out (by exact bl_g HB.out)); (case side2 => exact HC0.out); rintro e w78 ⟨rfl, hb⟩; refine mv4 (am (Kd.R_below (Kd.R_o (Kd.R_mono (Kd.R_far (p := ⟨gb122, 4, none⟩) (Kd.R_far (p := ⟨gb122, 3, none⟩) (Kd.R_far (p := ⟨gb122, 2, none⟩) (Kd.R_far (p := ⟨gb122, 1, none⟩) (Kd.R_far (p := ⟨gb122, 0, none⟩) (Kd.R_mono HO_3.out (fun k_ hk => (⟨hk, hk.2⟩ : _ ∧ k_ ≠ gb122))) (fun _ hk => hk.2) (.string ((rd_T42 t101 x10_2).f0))) (fun _ hk => hk.2) (.int .i64 ((rd_T42 t101 x10_2).f1))) (fun _ hk => hk.2) (.int .i64 ((rd_T42 t101 x10_2).f2))) (fun _ hk => hk.2) (.int .i64 ((rd_T42 t101 x10_2).f3))) (fun _ hk => hk.2) (.int .i64 ((rd_T42 t101 x10_2).f4))) (fun _ h_ => h_.1))) hb)) (am (blk_below (g := gb106) (o := .cells #[.int .i64 t104, .string t105] 26 (0, 0)) (by (with_reducible repeat (first | refine blk_drewN ?_ _ | refine blk_drew ?_ | refine blk_alloc ?_ _)); refine blk_far ?_ NB106_122.out _; (with_reducible repeat (first | refine blk_drewN ?_ _ | refine blk_drew ?_ | refine blk_alloc ?_ _)); refine blk_far ?_ NB106_122.out _; (with_reducible repeat (first | refine blk_drewN ?_ _ | refine blk_drew ?_ | refine blk_alloc ?_ _)); refine blk_far ?_ NB106_122.out _; (with_reducible repeat (first | refine blk_drewN ?_ _ | refine blk_drew ?_ | refine blk_alloc ?_ _)); refine blk_far ?_ NB106_122.out _; (with_reducible repeat (first | refine blk_drewN ?_ _ | refine blk_drew ?_ | refine blk_alloc ?_ _)); refine blk_far ?_ NB106_122.out _; (with_reducible repeat (first | refine blk_drewN ?_ _ | refine blk_drew ?_ | refine blk_alloc ?_ _)); exact BK106.out) hb)) (am (blk_below (g := gb122) (o := .cells #[.string ((rd_T42 t101 x10_2).f0), .int .i64 ((rd_T42 t101 x10_2).f1), .int .i64 ((rd_T42 t101 x10_2).f2), .int .i64 ((rd_T42 t101 x10_2).f3), .int .i64 ((rd_T42 t101 x10_2).f4)] 42 (0, 0)) (by (with_reducible repeat (first | refine blk_drewN ?_ _ | refine blk_drew ?_ | refine blk_alloc ?_ _)); refine blk_put (cs := #[.string ((rd_T42 t101 x10_2).f0), .int .i64 ((rd_T42 t101 x10_2).f1), .int .i64 ((rd_T42 t101 x10_2).f2), .int .i64 ((rd_T42 t101 x10_2).f3), .int .i64 0]) ?_ 4 _ rfl; (with_reducible repeat (first | refine blk_drewN ?_ _ | refine blk_drew ?_ | refine blk_alloc ?_ _)); refine blk_put (cs := #[.string ((rd_T42 t101 x10_2).f0), .int .i64 ((rd_T42 t101 x10_2).f1), .int .i64 ((rd_T42 t101 x10_2).f2), .int .i64 0, .int .i64 0]) ?_ 3 _ rfl; (with_reducible repeat (first | refine blk_drewN ?_ _ | refine blk_drew ?_ | refine blk_alloc ?_ _)); refine blk_put (cs := #[.string ((rd_T42 t101 x10_2).f0), .int .i64 ((rd_T42 t101 x10_2).f1), .int .i64 0, .int .i64 0, .int .i64 0]) ?_ 2 _ rfl; (with_reducible repeat (first | refine blk_drewN ?_ _ | refine blk_drew ?_ | refine blk_alloc ?_ _)); refine blk_put (cs := #[.string ((rd_T42 t101 x10_2).f0), .int .i64 0, .int .i64 0, .int .i64 0, .int .i64 0]) ?_ 1 _ rfl; (with_reducible repeat (first | refine blk_drewN ?_ _ | refine blk_drew ?_ | refine blk_alloc ?_ _)); refine blk_put (cs := #[.string (⟨#[]⟩ : ByteArray), .int .i64 0, .int .i64 0, .int .i64 0, .int .i64 0]) ?_ 0 _ rfl; (with_reducible repeat (first | refine blk_drewN ?_ _ | refine blk_drew ?_ | refine blk_alloc ?_ _)); exact BK122.out) hb)) (am (below_step (by exact bl_g HB.out) hb)) ?_; clear HO_3 BK106 BK122 HB; intro HO_3 BK106 BK122 HB; (try clear hb); (try clear hb2); (try clear hk); (try clear hi)))
      go_roundg k2
      case measure => have := HK1.out; have := HK2.out; omega
      case rel => exact ⟨(wrap64 (x10_2 + 1)), (by first | rfl | (simp; done) | (simp [*]; done)), H', ⟨by have := HK1.out; have := HK2.out; omega⟩, ⟨by (with_reducible repeat (first | apply Kd.R_alloc | apply Kd.R_drewN | apply Kd.R_drew)); exact Kd.R_mono HO_3.out (fun _ hk => trivial)⟩, ⟨by (with_reducible repeat (first | refine blk_drewN ?_ _ | refine blk_drew ?_ | refine blk_alloc ?_ _)); exact BK106.out⟩, ⟨by exact bl_g HB.out⟩⟩
     rw [if_neg c70] at H
     have c70b0 : decide (((rd_T42 t101 x10_2).f1) < 0) = false := decide_eq_false c70
     clear c70
     have HC79 := am H
     clear H
     obtain ⟨Ao80, co80, eo80⟩ := Kd.R_slice HO_3.out
     subst eo80
     have p121 : 0 ≤ (x10_2 : Int) := of_decide_eq_true (by first | (with_reducible assumption) | assumption)
     have q121 : x10_2 < (t101.length : Int) := of_decide_eq_true (by first | (with_reducible assumption) | assumption)
     obtain ⟨ad121, e121, hx121_0, hx121_1, hx121_2, hx121_3, hx121_4⟩ := at_T42 (Kd.R_reads' HO_3.out).2.2 x10_2 p121 q121
     cases e121
     replace p121 := eq_true p121
     replace q121 := eq_true q121
     go_upto_region 24 with (first | ((with_reducible refine gate_dst (N := 11) rfl ?_); (try (refine gate_guard (by rfl) ?_; dsimp only)); refine box_event ?hg (N := 11) ?hd (cs := #[.string (⟨#[]⟩ : ByteArray), .int .i64 0, .int .i64 0, .int .i64 0, .int .i64 0]) (t := 42) ?hr ?_; (case hd => rfl); (case hg => rfl); (case hr => go_simp; try rfl); intro gb122 hg w81 hbox hb; refine mv7 (am (Kd.R_below (Kd.R_elderB (Kd.R_o HO_3.out) gb122 (Nat.le_of_eq hg.symm)) hb)) (am (blk_below (blk_o BK106.out) hb)) (am (below_step (by exact bl_g HB.out) hb)) (am (hbox)) (lei (by rw [hg]; exact (below_size (by exact bl_g HB.out)) : w.heap.size ≤ gb122)) (am ((by rw [hg]; exact Nat.ne_of_lt (blk_lt (g := gb106) (o := .cells #[.int .i64 t104, .string t105] 26 (0, 0)) (blk_o BK106.out)) : gb106 ≠ gb122))) (am ((by rw [hg]; exact Nat.ne_of_gt (blk_lt (g := gb106) (o := .cells #[.int .i64 t104, .string t105] 26 (0, 0)) (blk_o BK106.out)) : gb122 ≠ gb106))) ?_; clear HO_3 BK106 HB; intro HO_3 BK106 HB BK122 GW122 NB106_122 NB122_106; have GE122 := GW122; clear hb hbox hg; have hnb82 := NB122_106.out; have hnc82 := NB106_122.out; obtain ⟨hcz83_0, hcz83_1, hcz83_2, hcz83_3, hcz83_4, hfz83_0, hfz83_1, hfz83_2, hfz83_3, hfz83_4⟩ := cells5 BK122.out))
     (try simp only [Act.put, List.setIfInBounds_toArray, List.set_cons_zero, List.set_cons_succ])
     go_cut [144] (fun v144 wc => ∃ (kq : Nat) (x144_78 : Bool), v144 = .bool x144_78 ∧ Aside0 (gangwaylaw18_ResolveJust.j3 kq l0 t101 x10_2 x144_78 ((rd_T42 t101 x10_2).f0) ((rd_T42 t101 x10_2).f1) ((rd_T42 t101 x10_2).f2) ((rd_T42 t101 x10_2).f3) ((rd_T42 t101 x10_2).f4) = some r) ∧ Aside0 (kq ≤ k2) ∧ Aside0 (Kd.R k42 42 wc w.heap.size (fun k_ => k_ ≠ gb122) (.slice (some ad121) t101.length co80) t101) ∧ Aside0 (wc.heap[gb106]? = some (.cells #[.int .i64 t104, .string t105] 26 (0, 0))) ∧ Aside0 (wc.heap[gb122]? = some (.cells #[.string ((rd_T42 t101 x10_2).f0), .int .i64 ((rd_T42 t101 x10_2).f1), .int .i64 ((rd_T42 t101 x10_2).f2), .int .i64 ((rd_T42 t101 x10_2).f3), .int .i64 ((rd_T42 t101 x10_2).f4)] 42 (0, 0))) ∧ Aside0 (Below w.heap.size w wc))
     case first =>
      have H := HC79.out
      clear HC79
      by_cases c84 : ((rd_T42 t101 x10_2).f1) ≥ (l0.length : Int)
      ·
       rw [if_pos c84] at H
       have c84b0 : decide ((l0.length : Int) ≤ ((rd_T42 t101 x10_2).f1)) = true := decide_eq_true c84
       clear c84
       (first | rw [c84b0] | (simp only [i64_w, i32_w]; rw [c84b0]) | skip)
       have H' := am H
       clear H
       try go_wp2
       have n0_ : Aside0 (Kd.R k42 42 (((((w81.setCell ⟨gb122, 0, none⟩ (.string ((rd_T42 t101 x10_2).f0))).setCell ⟨gb122, 1, none⟩ (.int .i64 ((rd_T42 t101 x10_2).f1))).setCell ⟨gb122, 2, none⟩ (.int .i64 ((rd_T42 t101 x10_2).f2))).setCell ⟨gb122, 3, none⟩ (.int .i64 ((rd_T42 t101 x10_2).f3))).setCell ⟨gb122, 4, none⟩ (.int .i64 ((rd_T42 t101 x10_2).f4))) w.heap.size (fun k_ => k_ ≠ gb122) (.slice (some ad121) t101.length co80) t101) := ⟨by (with_reducible repeat (first | apply Kd.R_alloc | apply Kd.R_drewN | apply Kd.R_drew)); exact Kd.R_mono (Kd.R_far (p := ⟨gb122, 4, none⟩) (Kd.R_far (p := ⟨gb122, 3, none⟩) (Kd.R_far (p := ⟨gb122, 2, none⟩) (Kd.R_far (p := ⟨gb122, 1, none⟩) (Kd.R_far (p := ⟨gb122, 0, none⟩) (Kd.R_mono HO_3.out (fun k_ hk => (⟨hk, hk.2⟩ : _ ∧ k_ ≠ gb122))) (fun _ hk => hk.2) (.string ((rd_T42 t101 x10_2).f0))) (fun _ hk => hk.2) (.int .i64 ((rd_T42 t101 x10_2).f1))) (fun _ hk => hk.2) (.int .i64 ((rd_T42 t101 x10_2).f2))) (fun _ hk => hk.2) (.int .i64 ((rd_T42 t101 x10_2).f3))) (fun _ hk => hk.2) (.int .i64 ((rd_T42 t101 x10_2).f4))) (fun _ hk => hk.1.2)⟩
       have n1_ : Aside0 ((((((w81.setCell ⟨gb122, 0, none⟩ (.string ((rd_T42 t101 x10_2).f0))).setCell ⟨gb122, 1, none⟩ (.int .i64 ((rd_T42 t101 x10_2).f1))).setCell ⟨gb122, 2, none⟩ (.int .i64 ((rd_T42 t101 x10_2).f2))).setCell ⟨gb122, 3, none⟩ (.int .i64 ((rd_T42 t101 x10_2).f3))).setCell ⟨gb122, 4, none⟩ (.int .i64 ((rd_T42 t101 x10_2).f4))).heap[gb106]? = some (.cells #[.int .i64 t104, .string t105] 26 (0, 0))) := ⟨by (with_reducible repeat (first | refine blk_drewN ?_ _ | refine blk_drew ?_ | refine blk_alloc ?_ _)); refine blk_far ?_ NB106_122.out _; (with_reducible repeat (first | refine blk_drewN ?_ _ | refine blk_drew ?_ | refine blk_alloc ?_ _)); refine blk_far ?_ NB106_122.out _; (with_reducible repeat (first | refine blk_drewN ?_ _ | refine blk_drew ?_ | refine blk_alloc ?_ _)); refine blk_far ?_ NB106_122.out _; (with_reducible repeat (first | refine blk_drewN ?_ _ | refine blk_drew ?_ | refine blk_alloc ?_ _)); refine blk_far ?_ NB106_122.out _; (with_reducible repeat (first | refine blk_drewN ?_ _ | refine blk_drew ?_ | refine blk_alloc ?_ _)); refine blk_far ?_ NB106_122.out _; (with_reducible repeat (first | refine blk_drewN ?_ _ | refine blk_drew ?_ | refine blk_alloc ?_ _)); exact BK106.out⟩
       have n2_ : Aside0 ((((((w81.setCell ⟨gb122, 0, none⟩ (.string ((rd_T42 t101 x10_2).f0))).setCell ⟨gb122, 1, none⟩ (.int .i64 ((rd_T42 t101 x10_2).f1))).setCell ⟨gb122, 2, none⟩ (.int .i64 ((rd_T42 t101 x10_2).f2))).setCell ⟨gb122, 3, none⟩ (.int .i64 ((rd_T42 t101 x10_2).f3))).setCell ⟨gb122, 4, none⟩ (.int .i64 ((rd_T42 t101 x10_2).f4))).heap[gb122]? = some (.cells #[.string ((rd_T42 t101 x10_2).f0), .int .i64 ((rd_T42 t101 x10_2).f1), .int .i64 ((rd_T42 t101 x10_2).f2), .int .i64 ((rd_T42 t101 x10_2).f3), .int .i64 ((rd_T42 t101 x10_2).f4)] 42 (0, 0))) := ⟨by (with_reducible repeat (first | refine blk_drewN ?_ _ | refine blk_drew ?_ | refine blk_alloc ?_ _)); refine blk_put (cs := #[.string ((rd_T42 t101 x10_2).f0), .int .i64 ((rd_T42 t101 x10_2).f1), .int .i64 ((rd_T42 t101 x10_2).f2), .int .i64 ((rd_T42 t101 x10_2).f3), .int .i64 0]) ?_ 4 _ rfl; (with_reducible repeat (first | refine blk_drewN ?_ _ | refine blk_drew ?_ | refine blk_alloc ?_ _)); refine blk_put (cs := #[.string ((rd_T42 t101 x10_2).f0), .int .i64 ((rd_T42 t101 x10_2).f1), .int .i64 ((rd_T42 t101 x10_2).f2), .int .i64 0, .int .i64 0]) ?_ 3 _ rfl; (with_reducible repeat (first | refine blk_drewN ?_ _ | refine blk_drew ?_ | refine blk_alloc ?_ _)); refine blk_put (cs := #[.string ((rd_T42 t101 x10_2).f0), .int .i64 ((rd_T42 t101 x10_2).f1), .int .i64 0, .int .i64 0, .int .i64 0]) ?_ 2 _ rfl; (with_reducible repeat (first | refine blk_drewN ?_ _ | refine blk_drew ?_ | refine blk_alloc ?_ _)); refine blk_put (cs := #[.string ((rd_T42 t101 x10_2).f0), .int .i64 0, .int .i64 0, .int .i64 0, .int .i64 0]) ?_ 1 _ rfl; (with_reducible repeat (first | refine blk_drewN ?_ _ | refine blk_drew ?_ | refine blk_alloc ?_ _)); refine blk_put (cs := #[.string (⟨#[]⟩ : ByteArray), .int .i64 0, .int .i64 0, .int .i64 0, .int .i64 0]) ?_ 0 _ rfl; (with_reducible repeat (first | refine blk_drewN ?_ _ | refine blk_drew ?_ | refine blk_alloc ?_ _)); exact BK122.out⟩
       have n3_ : Aside0 (Below w.heap.size w (((((w81.setCell ⟨gb122, 0, none⟩ (.string ((rd_T42 t101 x10_2).f0))).setCell ⟨gb122, 1, none⟩ (.int .i64 ((rd_T42 t101 x10_2).f1))).setCell ⟨gb122, 2, none⟩ (.int .i64 ((rd_T42 t101 x10_2).f2))).setCell ⟨gb122, 3, none⟩ (.int .i64 ((rd_T42 t101 x10_2).f3))).setCell ⟨gb122, 4, none⟩ (.int .i64 ((rd_T42 t101 x10_2).f4)))) := ⟨by exact bl_g HB.out⟩
       (try clear HO_3)
       (try clear BK106)
       (try clear BK122)
       (try clear HB)
       generalize (((((w81.setCell ⟨gb122, 0, none⟩ (.string ((rd_T42 t101 x10_2).f0))).setCell ⟨gb122, 1, none⟩ (.int .i64 ((rd_T42 t101 x10_2).f1))).setCell ⟨gb122, 2, none⟩ (.int .i64 ((rd_T42 t101 x10_2).f2))).setCell ⟨gb122, 3, none⟩ (.int .i64 ((rd_T42 t101 x10_2).f3))).setCell ⟨gb122, 4, none⟩ (.int .i64 ((rd_T42 t101 x10_2).f4))) = w85 at n0_ n1_ n2_ n3_ ⊢
       have HO_3 := n0_
       have BK106 := n1_
       have BK122 := n2_
       have HB := n3_
       clear n0_ n1_ n2_ n3_
       have n0_ := am (Kd.R_drew HO_3.out)
       have n1_ := am (blk_drew BK106.out)
       have n2_ := am (blk_drew BK122.out)
       have n3_ := am (below_drew1 HB.out)
       clear HO_3
       clear BK106
       clear BK122
       clear HB
       have HO_3 := n0_
       have BK106 := n1_
       have BK122 := n2_
       have HB := n3_
       clear n0_ n1_ n2_ n3_
       refine start_ (n := 22) (S := fun w' => w'.cell? ⟨gb122, 0, none⟩ = some (.string ((rd_T42 t101 x10_2).f0)) ∧ w'.cell? ⟨gb122, 1, none⟩ = some (.int .i64 ((rd_T42 t101 x10_2).f1)) ∧ w'.cell? ⟨gb122, 2, none⟩ = some (.int .i64 ((rd_T42 t101 x10_2).f2)) ∧ w'.cell? ⟨gb122, 3, none⟩ = some (.int .i64 ((rd_T42 t101 x10_2).f3)) ∧ w'.cell? ⟨gb122, 4, none⟩ = some (.int .i64 ((rd_T42 t101 x10_2).f4))) (ds := []) (bm 22 0) (by kernel_rfl) rfl rfl ⟨(blk_cell BK122.out 0).trans rfl, (blk_cell BK122.out 1).trans rfl, (blk_cell BK122.out 2).trans rfl, (blk_cell BK122.out 3).trans rfl, (blk_cell BK122.out 4).trans rfl⟩ (fun hHeld => ?_); refine with_tabW gangwaylaw18_ResolveJust.tab24 gangwaylaw18_ResolveJust.bits24 (fun HT_ HW_ => ?_)
       generalize w85.drew = w86 at HO_3 BK106 BK122 HB hHeld ⊢
       refine pure_ (i := 0) (N := some 123) (v := ?_) (a' := ?_) (bm 22 1) rfl rfl (any_of HT_.out (by kernel_rfl)) (fun _ _ _ h => h) (Or.inl ⟨by rfl, ?_⟩) ?_ ?_
       rotate_left
       ·
        intro w'
        go_simp
        with_reducible rfl
       rotate_left
       ·
        simp only [pz]
        rfl
       refine pure_ (i := 2) (N := some 125) (v := ?_) (a' := ?_) (bm 22 5) rfl rfl (any_of HT_.out (by kernel_rfl)) (fun _ _ _ h => h) (Or.inl ⟨by rfl, ?_⟩) ?_ ?_
       rotate_left
       ·
        intro w'
        go_simp
        with_reducible rfl
       rotate_left
       ·
        simp only [pz]
        rfl
       refine pure_ (i := 3) (N := some 126) (v := ?_) (a' := ?_) (bm 22 13) rfl rfl (any_of HT_.out (by kernel_rfl)) (fun _ _ _ h => h) (Or.inl ⟨by rfl, ?_⟩) ?_ ?_
       rotate_left
       ·
        intro w'
        go_simp
        with_reducible rfl
       rotate_left
       ·
        simp only [pz]
        rfl
       refine take_ (i := 1) (N := some 124) (v := ?_) (a' := ?_) (bm 22 15) rfl rfl (take_ofW HT_.out HW_.out (by kernel_rfl)) (fun _ _ _ h => h) (Or.inl ⟨by rfl, ?_⟩) hHeld ?_ ?_
       rotate_left
       ·
        rintro w' ⟨s0, s1, s2, s3, s4⟩
        go_simp
        with_reducible rfl
       rotate_left
       ·
        simp only [pz]
        rfl
       refine pure_ (i := 4) (N := some 127) (v := ?_) (a' := ?_) (bm 22 31) rfl rfl (any_of HT_.out (by kernel_rfl)) (fun _ _ _ h => h) (Or.inl ⟨by rfl, ?_⟩) ?_ ?_
       rotate_left
       ·
        intro w'
        go_simp
        with_reducible rfl
       rotate_left
       ·
        simp only [pz]
        rfl
       refine pure_ (i := 5) (N := some 128) (v := ?_) (a' := ?_) (bm 22 63) rfl rfl (any_of HT_.out (by kernel_rfl)) (fun _ _ _ h => h) (Or.inl ⟨by rfl, ?_⟩) ?_ ?_
       rotate_left
       ·
        intro w'
        go_simp
        with_reducible rfl
       rotate_left
       ·
        simp only [pz]
        rfl
       refine pure_ (i := 6) (N := some 129) (v := undef) (a' := ?_) (bm 22 127) rfl rfl (any_of HT_.out (by kernel_rfl)) (fun _ _ _ h => h) (Or.inr ⟨by rfl, rfl⟩) ?_ ?_
       rotate_left
       ·
        simp only [pz]
        rfl
       refine pure_ (i := 7) (N := some 130) (v := undef) (a' := ?_) (bm 22 255) rfl rfl (any_of HT_.out (by kernel_rfl)) (fun _ _ _ h => h) (Or.inr ⟨by rfl, rfl⟩) ?_ ?_
       rotate_left
       ·
        simp only [pz]
        rfl
       refine pure_ (i := 8) (N := some 131) (v := undef) (a' := ?_) (bm 22 511) rfl rfl (any_of HT_.out (by kernel_rfl)) (fun _ _ _ h => h) (Or.inr ⟨by rfl, rfl⟩) ?_ ?_
       rotate_left
       ·
        simp only [pz]
        rfl
       refine pure_ (i := 9) (N := some 132) (v := ?_) (a' := ?_) (bm 22 1023) rfl rfl (any_of HT_.out (by kernel_rfl)) (fun _ _ _ h => h) (Or.inl ⟨by rfl, ?_⟩) ?_ ?_
       rotate_left
       ·
        intro w'
        go_simp
        with_reducible rfl
       rotate_left
       ·
        simp only [pz]
        rfl
       refine pure_ (i := 10) (N := some 133) (v := ?_) (a' := ?_) (bm 22 2047) rfl rfl (any_of HT_.out (by kernel_rfl)) (fun _ _ _ h => h) (Or.inl ⟨by rfl, ?_⟩) ?_ ?_
       rotate_left
       ·
        intro w'
        go_simp
        with_reducible rfl
       rotate_left
       ·
        simp only [pz]
        rfl
       refine pure_ (i := 11) (N := some 134) (v := undef) (a' := ?_) (bm 22 4095) rfl rfl (any_of HT_.out (by kernel_rfl)) (fun _ _ _ h => h) (Or.inr ⟨by rfl, rfl⟩) ?_ ?_
       rotate_left
       ·
        simp only [pz]
        rfl
       refine pure_ (i := 12) (N := some 135) (v := undef) (a' := ?_) (bm 22 8191) rfl rfl (any_of HT_.out (by kernel_rfl)) (fun _ _ _ h => h) (Or.inr ⟨by rfl, rfl⟩) ?_ ?_
       rotate_left
       ·
        simp only [pz]
        rfl
       refine pure_ (i := 13) (N := some 136) (v := undef) (a' := ?_) (bm 22 16383) rfl rfl (any_of HT_.out (by kernel_rfl)) (fun _ _ _ h => h) (Or.inr ⟨by rfl, rfl⟩) ?_ ?_
       rotate_left
       ·
        simp only [pz]
        rfl
       refine pure_ (i := 14) (N := some 137) (v := undef) (a' := ?_) (bm 22 32767) rfl rfl (any_of HT_.out (by kernel_rfl)) (fun _ _ _ h => h) (Or.inr ⟨by rfl, rfl⟩) ?_ ?_
       rotate_left
       ·
        simp only [pz]
        rfl
       refine pure_ (i := 15) (N := some 138) (v := undef) (a' := ?_) (bm 22 65535) rfl rfl (any_of HT_.out (by kernel_rfl)) (fun _ _ _ h => h) (Or.inr ⟨by rfl, rfl⟩) ?_ ?_
       rotate_left
       ·
        simp only [pz]
        rfl
       refine pure_ (i := 16) (N := some 139) (v := undef) (a' := ?_) (bm 22 131071) rfl rfl (any_of HT_.out (by kernel_rfl)) (fun _ _ _ h => h) (Or.inr ⟨by rfl, rfl⟩) ?_ ?_
       rotate_left
       ·
        simp only [pz]
        rfl
       refine pure_ (i := 17) (N := some 140) (v := undef) (a' := ?_) (bm 22 262143) rfl rfl (any_of HT_.out (by kernel_rfl)) (fun _ _ _ h => h) (Or.inr ⟨by rfl, rfl⟩) ?_ ?_
       rotate_left
       ·
        simp only [pz]
        rfl
       refine pure_ (i := 18) (N := some 141) (v := undef) (a' := ?_) (bm 22 524287) rfl rfl (any_of HT_.out (by kernel_rfl)) (fun _ _ _ h => h) (Or.inr ⟨by rfl, rfl⟩) ?_ ?_
       rotate_left
       ·
        simp only [pz]
        rfl
       refine pure_ (i := 19) (N := some 142) (v := undef) (a' := ?_) (bm 22 1048575) rfl rfl (any_of HT_.out (by kernel_rfl)) (fun _ _ _ h => h) (Or.inr ⟨by rfl, rfl⟩) ?_ ?_
       rotate_left
       ·
        simp only [pz]
        rfl
       refine pure_ (i := 20) (N := some 143) (v := undef) (a' := ?_) (bm 22 2097151) rfl rfl (any_of HT_.out (by kernel_rfl)) (fun _ _ _ h => h) (Or.inr ⟨by rfl, rfl⟩) ?_ ?_
       rotate_left
       ·
        simp only [pz]
        rfl
       refine pure_ (i := 21) (N := some 144) (v := ?_) (a' := ?_) (bm 22 4194303) rfl rfl (any_of HT_.out (by kernel_rfl)) (fun _ _ _ h => h) (Or.inl ⟨by rfl, ?_⟩) ?_ ?_
       rotate_left
       ·
        intro w'
        go_simp
        with_reducible rfl
       rotate_left
       ·
        simp only [pz]
        rfl
       refine done_ (done_of HT_.out (by kernel_rfl)) ?_
       try go_wp2
       go_meet
       case rel => exact ⟨_, (true), (by first | rfl | (simp; done) | (simp [*]; done)), H', ⟨by have := HK1.out; have := HK2.out; first | omega | exact Nat.le_refl _⟩, ⟨by (with_reducible repeat (first | apply Kd.R_alloc | apply Kd.R_drewN | apply Kd.R_drew)); exact HO_3.out⟩, ⟨by (with_reducible repeat (first | refine blk_drewN ?_ _ | refine blk_drew ?_ | refine blk_alloc ?_ _)); exact BK106.out⟩, ⟨by (with_reducible repeat (first | refine blk_drewN ?_ _ | refine blk_drew ?_ | refine blk_alloc ?_ _)); exact BK122.out⟩, ⟨by exact bl_g HB.out⟩⟩
      rw [if_neg c84] at H
      have c84b0 : decide ((l0.length : Int) ≤ ((rd_T42 t101 x10_2).f1)) = false := decide_eq_false c84
      clear c84
      (first | rw [c84b0] | (simp only [i64_w, i32_w]; rw [c84b0]) | skip)
      by_cases c87 : ((rd_T42 t101 x10_2).f2) < 0
      ·
       rw [if_pos c87] at H
       have c87b0 : decide (((rd_T42 t101 x10_2).f2) < 0) = true := decide_eq_true c87
       clear c87
       have H' := am H
       clear H
       try go_wp2
       have n0_ : Aside0 (Kd.R k42 42 (((((w81.setCell ⟨gb122, 0, none⟩ (.string ((rd_T42 t101 x10_2).f0))).setCell ⟨gb122, 1, none⟩ (.int .i64 ((rd_T42 t101 x10_2).f1))).setCell ⟨gb122, 2, none⟩ (.int .i64 ((rd_T42 t101 x10_2).f2))).setCell ⟨gb122, 3, none⟩ (.int .i64 ((rd_T42 t101 x10_2).f3))).setCell ⟨gb122, 4, none⟩ (.int .i64 ((rd_T42 t101 x10_2).f4))) w.heap.size (fun k_ => k_ ≠ gb122) (.slice (some ad121) t101.length co80) t101) := ⟨by (with_reducible repeat (first | apply Kd.R_alloc | apply Kd.R_drewN | apply Kd.R_drew)); exact Kd.R_mono (Kd.R_far (p := ⟨gb122, 4, none⟩) (Kd.R_far (p := ⟨gb122, 3, none⟩) (Kd.R_far (p := ⟨gb122, 2, none⟩) (Kd.R_far (p := ⟨gb122, 1, none⟩) (Kd.R_far (p := ⟨gb122, 0, none⟩) (Kd.R_mono HO_3.out (fun k_ hk => (⟨hk, hk.2⟩ : _ ∧ k_ ≠ gb122))) (fun _ hk => hk.2) (.string ((rd_T42 t101 x10_2).f0))) (fun _ hk => hk.2) (.int .i64 ((rd_T42 t101 x10_2).f1))) (fun _ hk => hk.2) (.int .i64 ((rd_T42 t101 x10_2).f2))) (fun _ hk => hk.2) (.int .i64 ((rd_T42 t101 x10_2).f3))) (fun _ hk => hk.2) (.int .i64 ((rd_T42 t101 x10_2).f4))) (fun _ hk => hk.1.2)⟩
       have n1_ : Aside0 ((((((w81.setCell ⟨gb122, 0, none⟩ (.string ((rd_T42 t101 x10_2).f0))).setCell ⟨gb122, 1, none⟩ (.int .i64 ((rd_T42 t101 x10_2).f1))).setCell ⟨gb122, 2, none⟩ (.int .i64 ((rd_T42 t101 x10_2).f2))).setCell ⟨gb122, 3, none⟩ (.int .i64 ((rd_T42 t101 x10_2).f3))).setCell ⟨gb122, 4, none⟩ (.int .i64 ((rd_T42 t101 x10_2).f4))).heap[gb106]? = some (.cells #[.int .i64 t104, .string t105] 26 (0, 0))) := ⟨by (with_reducible repeat (first | refine blk_drewN ?_ _ | refine blk_drew ?_ | refine blk_alloc ?_ _)); refine blk_far ?_ NB106_122.out _; (with_reducible repeat (first | refine blk_drewN ?_ _ | refine blk_drew ?_ | refine blk_alloc ?_ _)); refine blk_far ?_ NB106_122.out _; (with_reducible repeat (first | refine blk_drewN ?_ _ | refine blk_drew ?_ | refine blk_alloc ?_ _)); refine blk_far ?_ NB106_122.out _; (with_reducible repeat (first | refine blk_drewN ?_ _ | refine blk_drew ?_ | refine blk_alloc ?_ _)); refine blk_far ?_ NB106_122.out _; (with_reducible repeat (first | refine blk_drewN ?_ _ | refine blk_drew ?_ | refine blk_alloc ?_ _)); refine blk_far ?_ NB106_122.out _; (with_reducible repeat (first | refine blk_drewN ?_ _ | refine blk_drew ?_ | refine blk_alloc ?_ _)); exact BK106.out⟩
       have n2_ : Aside0 ((((((w81.setCell ⟨gb122, 0, none⟩ (.string ((rd_T42 t101 x10_2).f0))).setCell ⟨gb122, 1, none⟩ (.int .i64 ((rd_T42 t101 x10_2).f1))).setCell ⟨gb122, 2, none⟩ (.int .i64 ((rd_T42 t101 x10_2).f2))).setCell ⟨gb122, 3, none⟩ (.int .i64 ((rd_T42 t101 x10_2).f3))).setCell ⟨gb122, 4, none⟩ (.int .i64 ((rd_T42 t101 x10_2).f4))).heap[gb122]? = some (.cells #[.string ((rd_T42 t101 x10_2).f0), .int .i64 ((rd_T42 t101 x10_2).f1), .int .i64 ((rd_T42 t101 x10_2).f2), .int .i64 ((rd_T42 t101 x10_2).f3), .int .i64 ((rd_T42 t101 x10_2).f4)] 42 (0, 0))) := ⟨by (with_reducible repeat (first | refine blk_drewN ?_ _ | refine blk_drew ?_ | refine blk_alloc ?_ _)); refine blk_put (cs := #[.string ((rd_T42 t101 x10_2).f0), .int .i64 ((rd_T42 t101 x10_2).f1), .int .i64 ((rd_T42 t101 x10_2).f2), .int .i64 ((rd_T42 t101 x10_2).f3), .int .i64 0]) ?_ 4 _ rfl; (with_reducible repeat (first | refine blk_drewN ?_ _ | refine blk_drew ?_ | refine blk_alloc ?_ _)); refine blk_put (cs := #[.string ((rd_T42 t101 x10_2).f0), .int .i64 ((rd_T42 t101 x10_2).f1), .int .i64 ((rd_T42 t101 x10_2).f2), .int .i64 0, .int .i64 0]) ?_ 3 _ rfl; (with_reducible repeat (first | refine blk_drewN ?_ _ | refine blk_drew ?_ | refine blk_alloc ?_ _)); refine blk_put (cs := #[.string ((rd_T42 t101 x10_2).f0), .int .i64 ((rd_T42 t101 x10_2).f1), .int .i64 0, .int .i64 0, .int .i64 0]) ?_ 2 _ rfl; (with_reducible repeat (first | refine blk_drewN ?_ _ | refine blk_drew ?_ | refine blk_alloc ?_ _)); refine blk_put (cs := #[.string ((rd_T42 t101 x10_2).f0), .int .i64 0, .int .i64 0, .int .i64 0, .int .i64 0]) ?_ 1 _ rfl; (with_reducible repeat (first | refine blk_drewN ?_ _ | refine blk_drew ?_ | refine blk_alloc ?_ _)); refine blk_put (cs := #[.string (⟨#[]⟩ : ByteArray), .int .i64 0, .int .i64 0, .int .i64 0, .int .i64 0]) ?_ 0 _ rfl; (with_reducible repeat (first | refine blk_drewN ?_ _ | refine blk_drew ?_ | refine blk_alloc ?_ _)); exact BK122.out⟩
       have n3_ : Aside0 (Below w.heap.size w (((((w81.setCell ⟨gb122, 0, none⟩ (.string ((rd_T42 t101 x10_2).f0))).setCell ⟨gb122, 1, none⟩ (.int .i64 ((rd_T42 t101 x10_2).f1))).setCell ⟨gb122, 2, none⟩ (.int .i64 ((rd_T42 t101 x10_2).f2))).setCell ⟨gb122, 3, none⟩ (.int .i64 ((rd_T42 t101 x10_2).f3))).setCell ⟨gb122, 4, none⟩ (.int .i64 ((rd_T42 t101 x10_2).f4)))) := ⟨by exact bl_g HB.out⟩
       (try clear HO_3)
       (try clear BK106)
       (try clear BK122)
       (try clear HB)
       generalize (((((w81.setCell ⟨gb122, 0, none⟩ (.string ((rd_T42 t101 x10_2).f0))).setCell ⟨gb122, 1, none⟩ (.int .i64 ((rd_T42 t101 x10_2).f1))).setCell ⟨gb122, 2, none⟩ (.int .i64 ((rd_T42 t101 x10_2).f2))).setCell ⟨gb122, 3, none⟩ (.int .i64 ((rd_T42 t101 x10_2).f3))).setCell ⟨gb122, 4, none⟩ (.int .i64 ((rd_T42 t101 x10_2).f4))) = w88 at n0_ n1_ n2_ n3_ ⊢
       have HO_3 := n0_
       have BK106 := n1_
       have BK122 := n2_
       have HB := n3_
       clear n0_ n1_ n2_ n3_
       have n0_ := am (Kd.R_drew HO_3.out)
       have n1_ := am (blk_drew BK106.out)
       have n2_ := am (blk_drew BK122.out)
       have n3_ := am (below_drew1 HB.out)
       clear HO_3
       clear BK106
       clear BK122
       clear HB
       have HO_3 := n0_
       have BK106 := n1_
       have BK122 := n2_
       have HB := n3_
       clear n0_ n1_ n2_ n3_
       refine start_ (n := 22) (S := fun w' => w'.cell? ⟨gb122, 0, none⟩ = some (.string ((rd_T42 t101 x10_2).f0)) ∧ w'.cell? ⟨gb122, 1, none⟩ = some (.int .i64 ((rd_T42 t101 x10_2).f1)) ∧ w'.cell? ⟨gb122, 2, none⟩ = some (.int .i64 ((rd_T42 t101 x10_2).f2)) ∧ w'.cell? ⟨gb122, 3, none⟩ = some (.int .i64 ((rd_T42 t101 x10_2).f3)) ∧ w'.cell? ⟨gb122, 4, none⟩ = some (.int .i64 ((rd_T42 t101 x10_2).f4))) (ds := []) (bm 22 0) (by kernel_rfl) rfl rfl ⟨(blk_cell BK122.out 0).trans rfl, (blk_cell BK122.out 1).trans rfl, (blk_cell BK122.out 2).trans rfl, (blk_cell BK122.out 3).trans rfl, (blk_cell BK122.out 4).trans rfl⟩ (fun hHeld => ?_); refine with_tabW gangwaylaw18_ResolveJust.tab24 gangwaylaw18_ResolveJust.bits24 (fun HT_ HW_ => ?_)
       generalize w88.drew = w89 at HO_3 BK106 BK122 HB hHeld ⊢
       refine pure_ (i := 0) (N := some 123) (v := ?_) (a' := ?_) (bm 22 1) rfl rfl (any_of HT_.out (by kernel_rfl)) (fun _ _ _ h => h) (Or.inl ⟨by rfl, ?_⟩) ?_ ?_
       rotate_left
       ·
        intro w'
        go_simp
        with_reducible rfl
       rotate_left
       ·
        simp only [pz]
        rfl
       refine pure_ (i := 2) (N := some 125) (v := ?_) (a' := ?_) (bm 22 5) rfl rfl (any_of HT_.out (by kernel_rfl)) (fun _ _ _ h => h) (Or.inl ⟨by rfl, ?_⟩) ?_ ?_
       rotate_left
       ·
        intro w'
        go_simp
        with_reducible rfl
       rotate_left
       ·
        simp only [pz]
        rfl
       refine pure_ (i := 3) (N := some 126) (v := ?_) (a' := ?_) (bm 22 13) rfl rfl (any_of HT_.out (by kernel_rfl)) (fun _ _ _ h => h) (Or.inl ⟨by rfl, ?_⟩) ?_ ?_
       rotate_left
       ·
        intro w'
        go_simp
        with_reducible rfl
       rotate_left
       ·
        simp only [pz]
        rfl
       refine take_ (i := 1) (N := some 124) (v := ?_) (a' := ?_) (bm 22 15) rfl rfl (take_ofW HT_.out HW_.out (by kernel_rfl)) (fun _ _ _ h => h) (Or.inl ⟨by rfl, ?_⟩) hHeld ?_ ?_
       rotate_left
       ·
        rintro w' ⟨s0, s1, s2, s3, s4⟩
        go_simp
        with_reducible rfl
       rotate_left
       ·
        simp only [pz]
        rfl
       refine pure_ (i := 4) (N := some 127) (v := ?_) (a' := ?_) (bm 22 31) rfl rfl (any_of HT_.out (by kernel_rfl)) (fun _ _ _ h => h) (Or.inl ⟨by rfl, ?_⟩) ?_ ?_
       rotate_left
       ·
        intro w'
        go_simp
        with_reducible rfl
       rotate_left
       ·
        simp only [pz]
        rfl
       refine pure_ (i := 5) (N := some 128) (v := ?_) (a' := ?_) (bm 22 63) rfl rfl (any_of HT_.out (by kernel_rfl)) (fun _ _ _ h => h) (Or.inl ⟨by rfl, ?_⟩) ?_ ?_
       rotate_left
       ·
        intro w'
        go_simp
        with_reducible rfl
       rotate_left
       ·
        simp only [pz]
        rfl
       refine pure_ (i := 6) (N := some 129) (v := ?_) (a' := ?_) (bm 22 127) rfl rfl (any_of HT_.out (by kernel_rfl)) (fun _ _ _ h => h) (Or.inl ⟨by rfl, ?_⟩) ?_ ?_
       rotate_left
       ·
        intro w'
        go_simp
        with_reducible rfl
       rotate_left
       ·
        simp only [pz]
        rfl
       refine take_ (i := 7) (N := some 130) (v := ?_) (a' := ?_) (bm 22 255) rfl rfl (take_ofW HT_.out HW_.out (by kernel_rfl)) (fun _ _ _ h => h) (Or.inl ⟨by rfl, ?_⟩) hHeld ?_ ?_
       rotate_left
       ·
        rintro w' ⟨s0, s1, s2, s3, s4⟩
        go_simp
        with_reducible rfl
       rotate_left
       ·
        simp only [pz]
        rfl
       refine pure_ (i := 8) (N := some 131) (v := ?_) (a' := ?_) (bm 22 511) rfl rfl (any_of HT_.out (by kernel_rfl)) (fun _ _ _ h => h) (Or.inl ⟨by rfl, ?_⟩) ?_ ?_
       rotate_left
       ·
        intro w'
        go_simp
        with_reducible rfl
       rotate_left
       ·
        simp only [pz]
        rfl
       refine pure_ (i := 9) (N := some 132) (v := ?_) (a' := ?_) (bm 22 1023) rfl rfl (any_of HT_.out (by kernel_rfl)) (fun _ _ _ h => h) (Or.inl ⟨by rfl, ?_⟩) ?_ ?_
       rotate_left
       ·
        intro w'
        go_simp
        with_reducible rfl
       rotate_left
       ·
        simp only [pz]
        rfl
       refine pure_ (i := 10) (N := some 133) (v := ?_) (a' := ?_) (bm 22 2047) rfl rfl (any_of HT_.out (by kernel_rfl)) (fun _ _ _ h => h) (Or.inl ⟨by rfl, ?_⟩) ?_ ?_
       rotate_left
       ·
        intro w'
        go_simp
        with_reducible rfl
       rotate_left
       ·
        simp only [pz]
        rfl
       refine pure_ (i := 11) (N := some 134) (v := undef) (a' := ?_) (bm 22 4095) rfl rfl (any_of HT_.out (by kernel_rfl)) (fun _ _ _ h => h) (Or.inr ⟨by rfl, rfl⟩) ?_ ?_
       rotate_left
       ·
        simp only [pz]
        rfl
       refine pure_ (i := 12) (N := some 135) (v := undef) (a' := ?_) (bm 22 8191) rfl rfl (any_of HT_.out (by kernel_rfl)) (fun _ _ _ h => h) (Or.inr ⟨by rfl, rfl⟩) ?_ ?_
       rotate_left
       ·
        simp only [pz]
        rfl
       refine pure_ (i := 13) (N := some 136) (v := undef) (a' := ?_) (bm 22 16383) rfl rfl (any_of HT_.out (by kernel_rfl)) (fun _ _ _ h => h) (Or.inr ⟨by rfl, rfl⟩) ?_ ?_
       rotate_left
       ·
        simp only [pz]
        rfl
       refine pure_ (i := 14) (N := some 137) (v := undef) (a' := ?_) (bm 22 32767) rfl rfl (any_of HT_.out (by kernel_rfl)) (fun _ _ _ h => h) (Or.inr ⟨by rfl, rfl⟩) ?_ ?_
       rotate_left
       ·
        simp only [pz]
        rfl
       refine pure_ (i := 15) (N := some 138) (v := undef) (a' := ?_) (bm 22 65535) rfl rfl (any_of HT_.out (by kernel_rfl)) (fun _ _ _ h => h) (Or.inr ⟨by rfl, rfl⟩) ?_ ?_
       rotate_left
       ·
        simp only [pz]
        rfl
       refine pure_ (i := 16) (N := some 139) (v := undef) (a' := ?_) (bm 22 131071) rfl rfl (any_of HT_.out (by kernel_rfl)) (fun _ _ _ h => h) (Or.inr ⟨by rfl, rfl⟩) ?_ ?_
       rotate_left
       ·
        simp only [pz]
        rfl
       refine pure_ (i := 17) (N := some 140) (v := undef) (a' := ?_) (bm 22 262143) rfl rfl (any_of HT_.out (by kernel_rfl)) (fun _ _ _ h => h) (Or.inr ⟨by rfl, rfl⟩) ?_ ?_
       rotate_left
       ·
        simp only [pz]
        rfl
       refine pure_ (i := 18) (N := some 141) (v := undef) (a' := ?_) (bm 22 524287) rfl rfl (any_of HT_.out (by kernel_rfl)) (fun _ _ _ h => h) (Or.inr ⟨by rfl, rfl⟩) ?_ ?_
       rotate_left
       ·
        simp only [pz]
        rfl
       refine pure_ (i := 19) (N := some 142) (v := undef) (a' := ?_) (bm 22 1048575) rfl rfl (any_of HT_.out (by kernel_rfl)) (fun _ _ _ h => h) (Or.inr ⟨by rfl, rfl⟩) ?_ ?_
       rotate_left
       ·
        simp only [pz]
        rfl
       refine pure_ (i := 20) (N := some 143) (v := undef) (a' := ?_) (bm 22 2097151) rfl rfl (any_of HT_.out (by kernel_rfl)) (fun _ _ _ h => h) (Or.inr ⟨by rfl, rfl⟩) ?_ ?_
       rotate_left
       ·
        simp only [pz]
        rfl
       refine pure_ (i := 21) (N := some 144) (v := ?_) (a' := ?_) (bm 22 4194303) rfl rfl (any_of HT_.out (by kernel_rfl)) (fun _ _ _ h => h) (Or.inl ⟨by rfl, ?_⟩) ?_ ?_
       rotate_left
       ·
        intro w'
        go_simp
        with_reducible rfl
       rotate_left
       ·
        simp only [pz]
        rfl
       refine done_ (done_of HT_.out (by kernel_rfl)) ?_
       try go_wp2
       go_meet
       case rel => exact ⟨_, (true), (by first | rfl | (simp; done) | (simp [*]; done)), H', ⟨by have := HK1.out; have := HK2.out; first | omega | exact Nat.le_refl _⟩, ⟨by (with_reducible repeat (first | apply Kd.R_alloc | apply Kd.R_drewN | apply Kd.R_drew)); exact HO_3.out⟩, ⟨by (with_reducible repeat (first | refine blk_drewN ?_ _ | refine blk_drew ?_ | refine blk_alloc ?_ _)); exact BK106.out⟩, ⟨by (with_reducible repeat (first | refine blk_drewN ?_ _ | refine blk_drew ?_ | refine blk_alloc ?_ _)); exact BK122.out⟩, ⟨by exact bl_g HB.out⟩⟩
      rw [if_neg c87] at H
      have c87b0 : decide (((rd_T42 t101 x10_2).f2) < 0) = false := decide_eq_false c87
      clear c87
      by_cases c90 : 0 ≤ ((rd_T42 t101 x10_2).f1)
      rotate_left
      ·
       rw [if_neg c90] at H
       exact absurd H (by simp)
      rw [if_pos c90] at H
      have c90b0 : decide (0 ≤ ((rd_T42 t101 x10_2).f1)) = true := decide_eq_true c90
      clear c90
      by_cases c91 : ((rd_T42 t101 x10_2).f1) < (l0.length : Int)
      rotate_left
      ·
       rw [if_neg c91] at H
       exact absurd H (by simp)
      rw [if_pos c91] at H
      have c91b0 : decide (((rd_T42 t101 x10_2).f1) < (l0.length : Int)) = true := decide_eq_true c91
      clear c91
      have H' := am H
      clear H
      try go_wp2
      have n0_ : Aside0 (Kd.R k42 42 (((((w81.setCell ⟨gb122, 0, none⟩ (.string ((rd_T42 t101 x10_2).f0))).setCell ⟨gb122, 1, none⟩ (.int .i64 ((rd_T42 t101 x10_2).f1))).setCell ⟨gb122, 2, none⟩ (.int .i64 ((rd_T42 t101 x10_2).f2))).setCell ⟨gb122, 3, none⟩ (.int .i64 ((rd_T42 t101 x10_2).f3))).setCell ⟨gb122, 4, none⟩ (.int .i64 ((rd_T42 t101 x10_2).f4))) w.heap.size (fun k_ => k_ ≠ gb122) (.slice (some ad121) t101.length co80) t101) := ⟨by (with_reducible repeat (first | apply Kd.R_alloc | apply Kd.R_drewN | apply Kd.R_drew)); exact Kd.R_mono (Kd.R_far (p := ⟨gb122, 4, none⟩) (Kd.R_far (p := ⟨gb122, 3, none⟩) (Kd.R_far (p := ⟨gb122, 2, none⟩) (Kd.R_far (p := ⟨gb122, 1, none⟩) (Kd.R_far (p := ⟨gb122, 0, none⟩) (Kd.R_mono HO_3.out (fun k_ hk => (⟨hk, hk.2⟩ : _ ∧ k_ ≠ gb122))) (fun _ hk => hk.2) (.string ((rd_T42 t101 x10_2).f0))) (fun _ hk => hk.2) (.int .i64 ((rd_T42 t101 x10_2).f1))) (fun _ hk => hk.2) (.int .i64 ((rd_T42 t101 x10_2).f2))) (fun _ hk => hk.2) (.int .i64 ((rd_T42 t101 x10_2).f3))) (fun _ hk => hk.2) (.int .i64 ((rd_T42 t101 x10_2).f4))) (fun _ hk => hk.1.2)⟩
      have n1_ : Aside0 ((((((w81.setCell ⟨gb122, 0, none⟩ (.string ((rd_T42 t101 x10_2).f0))).setCell ⟨gb122, 1, none⟩ (.int .i64 ((rd_T42 t101 x10_2).f1))).setCell ⟨gb122, 2, none⟩ (.int .i64 ((rd_T42 t101 x10_2).f2))).setCell ⟨gb122, 3, none⟩ (.int .i64 ((rd_T42 t101 x10_2).f3))).setCell ⟨gb122, 4, none⟩ (.int .i64 ((rd_T42 t101 x10_2).f4))).heap[gb106]? = some (.cells #[.int .i64 t104, .string t105] 26 (0, 0))) := ⟨by (with_reducible repeat (first | refine blk_drewN ?_ _ | refine blk_drew ?_ | refine blk_alloc ?_ _)); refine blk_far ?_ NB106_122.out _; (with_reducible repeat (first | refine blk_drewN ?_ _ | refine blk_drew ?_ | refine blk_alloc ?_ _)); refine blk_far ?_ NB106_122.out _; (with_reducible repeat (first | refine blk_drewN ?_ _ | refine blk_drew ?_ | refine blk_alloc ?_ _)); refine blk_far ?_ NB106_122.out _; (with_reducible repeat (first | refine blk_drewN ?_ _ | refine blk_drew ?_ | refine blk_alloc ?_ _)); refine blk_far ?_ NB106_122.out _; (with_reducible repeat (first | refine blk_drewN ?_ _ | refine blk_drew ?_ | refine blk_alloc ?_ _)); refine blk_far ?_ NB106_122.out _; (with_reducible repeat (first | refine blk_drewN ?_ _ | refine blk_drew ?_ | refine blk_alloc ?_ _)); exact BK106.out⟩
      have n2_ : Aside0 ((((((w81.setCell ⟨gb122, 0, none⟩ (.string ((rd_T42 t101 x10_2).f0))).setCell ⟨gb122, 1, none⟩ (.int .i64 ((rd_T42 t101 x10_2).f1))).setCell ⟨gb122, 2, none⟩ (.int .i64 ((rd_T42 t101 x10_2).f2))).setCell ⟨gb122, 3, none⟩ (.int .i64 ((rd_T42 t101 x10_2).f3))).setCell ⟨gb122, 4, none⟩ (.int .i64 ((rd_T42 t101 x10_2).f4))).heap[gb122]? = some (.cells #[.string ((rd_T42 t101 x10_2).f0), .int .i64 ((rd_T42 t101 x10_2).f1), .int .i64 ((rd_T42 t101 x10_2).f2), .int .i64 ((rd_T42 t101 x10_2).f3), .int .i64 ((rd_T42 t101 x10_2).f4)] 42 (0, 0))) := ⟨by (with_reducible repeat (first | refine blk_drewN ?_ _ | refine blk_drew ?_ | refine blk_alloc ?_ _)); refine blk_put (cs := #[.string ((rd_T42 t101 x10_2).f0), .int .i64 ((rd_T42 t101 x10_2).f1), .int .i64 ((rd_T42 t101 x10_2).f2), .int .i64 ((rd_T42 t101 x10_2).f3), .int .i64 0]) ?_ 4 _ rfl; (with_reducible repeat (first | refine blk_drewN ?_ _ | refine blk_drew ?_ | refine blk_alloc ?_ _)); refine blk_put (cs := #[.string ((rd_T42 t101 x10_2).f0), .int .i64 ((rd_T42 t101 x10_2).f1), .int .i64 ((rd_T42 t101 x10_2).f2), .int .i64 0, .int .i64 0]) ?_ 3 _ rfl; (with_reducible repeat (first | refine blk_drewN ?_ _ | refine blk_drew ?_ | refine blk_alloc ?_ _)); refine blk_put (cs := #[.string ((rd_T42 t101 x10_2).f0), .int .i64 ((rd_T42 t101 x10_2).f1), .int .i64 0, .int .i64 0, .int .i64 0]) ?_ 2 _ rfl; (with_reducible repeat (first | refine blk_drewN ?_ _ | refine blk_drew ?_ | refine blk_alloc ?_ _)); refine blk_put (cs := #[.string ((rd_T42 t101 x10_2).f0), .int .i64 0, .int .i64 0, .int .i64 0, .int .i64 0]) ?_ 1 _ rfl; (with_reducible repeat (first | refine blk_drewN ?_ _ | refine blk_drew ?_ | refine blk_alloc ?_ _)); refine blk_put (cs := #[.string (⟨#[]⟩ : ByteArray), .int .i64 0, .int .i64 0, .int .i64 0, .int .i64 0]) ?_ 0 _ rfl; (with_reducible repeat (first | refine blk_drewN ?_ _ | refine blk_drew ?_ | refine blk_alloc ?_ _)); exact BK122.out⟩
      have n3_ : Aside0 (Below w.heap.size w (((((w81.setCell ⟨gb122, 0, none⟩ (.string ((rd_T42 t101 x10_2).f0))).setCell ⟨gb122, 1, none⟩ (.int .i64 ((rd_T42 t101 x10_2).f1))).setCell ⟨gb122, 2, none⟩ (.int .i64 ((rd_T42 t101 x10_2).f2))).setCell ⟨gb122, 3, none⟩ (.int .i64 ((rd_T42 t101 x10_2).f3))).setCell ⟨gb122, 4, none⟩ (.int .i64 ((rd_T42 t101 x10_2).f4)))) := ⟨by exact bl_g HB.out⟩
      (try clear HO_3)
      (try clear BK106)
      (try clear BK122)
      (try clear HB)
      generalize (((((w81.setCell ⟨gb122, 0, none⟩ (.string ((rd_T42 t101 x10_2).f0))).setCell ⟨gb122, 1, none⟩ (.int .i64 ((rd_T42 t101 x10_2).f1))).setCell ⟨gb122, 2, none⟩ (.int .i64 ((rd_T42 t101 x10_2).f2))).setCell ⟨gb122, 3, none⟩ (.int .i64 ((rd_T42 t101 x10_2).f3))).setCell ⟨gb122, 4, none⟩ (.int .i64 ((rd_T42 t101 x10_2).f4))) = w92 at n0_ n1_ n2_ n3_ ⊢
      have HO_3 := n0_
      have BK106 := n1_
      have BK122 := n2_
      have HB := n3_
      clear n0_ n1_ n2_ n3_
      have n0_ := am (Kd.R_drew HO_3.out)
      have n1_ := am (blk_drew BK106.out)
      have n2_ := am (blk_drew BK122.out)
      have n3_ := am (below_drew1 HB.out)
      clear HO_3
      clear BK106
      clear BK122
      clear HB
      have HO_3 := n0_
      have BK106 := n1_
      have BK122 := n2_
      have HB := n3_
      clear n0_ n1_ n2_ n3_
      have p124 : 0 ≤ (((rd_T42 t101 x10_2).f1) : Int) := of_decide_eq_true (by first | (with_reducible assumption) | assumption)
      have q124 : ((rd_T42 t101 x10_2).f1) < (l0.length : Int) := of_decide_eq_true (by first | (with_reducible assumption) | assumption)
      obtain ⟨ad124, A124_0, c124_0, A124_1, c124_1, e124, hx124_0, hx124_1, hl124_0, hi124_0, hl124_1, hi124_1⟩ := at_T36 HR0.out ((rd_T42 t101 x10_2).f1) p124 q124
      have hw124_1 := hx124_1
      have hw124_0 := hx124_0
      cases e124
      replace hx124_0 := oc HB.out hx124_0
      replace hx124_1 := oc HB.out hx124_1
      have HR124_0 := am hi124_0
      have HC124_0 := am hl124_0
      clear hi124_0 hl124_0
      have HR124_1 := am hi124_1
      have HC124_1 := am hl124_1
      clear hi124_1 hl124_1
      replace p124 := eq_true p124
      replace q124 := eq_true q124
      refine start_ (n := 22) (S := fun w' => w'.cell? ⟨gb122, 0, none⟩ = some (.string ((rd_T42 t101 x10_2).f0)) ∧ w'.cell? ⟨gb122, 1, none⟩ = some (.int .i64 ((rd_T42 t101 x10_2).f1)) ∧ w'.cell? ⟨gb122, 2, none⟩ = some (.int .i64 ((rd_T42 t101 x10_2).f2)) ∧ w'.cell? ⟨gb122, 3, none⟩ = some (.int .i64 ((rd_T42 t101 x10_2).f3)) ∧ w'.cell? ⟨gb122, 4, none⟩ = some (.int .i64 ((rd_T42 t101 x10_2).f4)) ∧ w'.cell? (ad124.add ((((rd_T42 t101 x10_2).f1)).toNat * 2)) = some (.slice A124_0 ((rd_T36 l0 ((rd_T42 t101 x10_2).f1)).f0).length c124_0) ∧ w'.cell? ⟨(ad124.add ((((rd_T42 t101 x10_2).f1)).toNat * 2)).block, (ad124.add ((((rd_T42 t101 x10_2).f1)).toNat * 2)).off + 1, none⟩ = some (.slice A124_1 ((rd_T36 l0 ((rd_T42 t101 x10_2).f1)).f1).length c124_1)) (ds := []) (bm 22 0) (by kernel_rfl) rfl rfl ⟨(blk_cell BK122.out 0).trans rfl, (blk_cell BK122.out 1).trans rfl, (blk_cell BK122.out 2).trans rfl, (blk_cell BK122.out 3).trans rfl, (blk_cell BK122.out 4).trans rfl, (oc HB.out hw124_0 :), (oc HB.out hw124_1 :)⟩ (fun hHeld => ?_); refine with_tabW gangwaylaw18_ResolveJust.tab24 gangwaylaw18_ResolveJust.bits24 (fun HT_ HW_ => ?_)
      generalize w92.drew = w93 at HO_3 BK106 BK122 HB HR124_0 HR124_1 hx124_0 hx124_1 hHeld ⊢
      refine pure_ (i := 0) (N := some 123) (v := ?_) (a' := ?_) (bm 22 1) rfl rfl (any_of HT_.out (by kernel_rfl)) (fun _ _ _ h => h) (Or.inl ⟨by rfl, ?_⟩) ?_ ?_
      rotate_left
      ·
       intro w'
       go_simp
       with_reducible rfl
      rotate_left
      ·
       simp only [pz]
       rfl
      refine pure_ (i := 2) (N := some 125) (v := ?_) (a' := ?_) (bm 22 5) rfl rfl (any_of HT_.out (by kernel_rfl)) (fun _ _ _ h => h) (Or.inl ⟨by rfl, ?_⟩) ?_ ?_
      rotate_left
      ·
       intro w'
       go_simp
       with_reducible rfl
      rotate_left
      ·
       simp only [pz]
       rfl
      refine pure_ (i := 3) (N := some 126) (v := ?_) (a' := ?_) (bm 22 13) rfl rfl (any_of HT_.out (by kernel_rfl)) (fun _ _ _ h => h) (Or.inl ⟨by rfl, ?_⟩) ?_ ?_
      rotate_left
      ·
       intro w'
       go_simp
       with_reducible rfl
      rotate_left
      ·
       simp only [pz]
       rfl
      refine take_ (i := 1) (N := some 124) (v := ?_) (a' := ?_) (bm 22 15) rfl rfl (take_ofW HT_.out HW_.out (by kernel_rfl)) (fun _ _ _ h => h) (Or.inl ⟨by rfl, ?_⟩) hHeld ?_ ?_
      rotate_left
      ·
       rintro w' ⟨s0, s1, s2, s3, s4, s5, s6⟩
       go_simp
       with_reducible rfl
      rotate_left
      ·
       simp only [pz]
       rfl
      refine pure_ (i := 4) (N := some 127) (v := ?_) (a' := ?_) (bm 22 31) rfl rfl (any_of HT_.out (by kernel_rfl)) (fun _ _ _ h => h) (Or.inl ⟨by rfl, ?_⟩) ?_ ?_
      rotate_left
      ·
       intro w'
       go_simp
       with_reducible rfl
      rotate_left
      ·
       simp only [pz]
       rfl
      refine pure_ (i := 5) (N := some 128) (v := ?_) (a' := ?_) (bm 22 63) rfl rfl (any_of HT_.out (by kernel_rfl)) (fun _ _ _ h => h) (Or.inl ⟨by rfl, ?_⟩) ?_ ?_
      rotate_left
      ·
       intro w'
       go_simp
       with_reducible rfl
      rotate_left
      ·
       simp only [pz]
       rfl
      refine pure_ (i := 6) (N := some 129) (v := ?_) (a' := ?_) (bm 22 127) rfl rfl (any_of HT_.out (by kernel_rfl)) (fun _ _ _ h => h) (Or.inl ⟨by rfl, ?_⟩) ?_ ?_
      rotate_left
      ·
       intro w'
       go_simp
       with_reducible rfl
      rotate_left
      ·
       simp only [pz]
       rfl
      refine take_ (i := 7) (N := some 130) (v := ?_) (a' := ?_) (bm 22 255) rfl rfl (take_ofW HT_.out HW_.out (by kernel_rfl)) (fun _ _ _ h => h) (Or.inl ⟨by rfl, ?_⟩) hHeld ?_ ?_
      rotate_left
      ·
       rintro w' ⟨s0, s1, s2, s3, s4, s5, s6⟩
       go_simp
       with_reducible rfl
      rotate_left
      ·
       simp only [pz]
       rfl
      refine pure_ (i := 8) (N := some 131) (v := ?_) (a' := ?_) (bm 22 511) rfl rfl (any_of HT_.out (by kernel_rfl)) (fun _ _ _ h => h) (Or.inl ⟨by rfl, ?_⟩) ?_ ?_
      rotate_left
      ·
       intro w'
       go_simp
       with_reducible rfl
      rotate_left
      ·
       simp only [pz]
       rfl
      refine pure_ (i := 9) (N := some 132) (v := ?_) (a' := ?_) (bm 22 1023) rfl rfl (any_of HT_.out (by kernel_rfl)) (fun _ _ _ h => h) (Or.inl ⟨by rfl, ?_⟩) ?_ ?_
      rotate_left
      ·
       intro w'
       go_simp
       with_reducible rfl
      rotate_left
      ·
       simp only [pz]
       rfl
      refine pure_ (i := 10) (N := some 133) (v := ?_) (a' := ?_) (bm 22 2047) rfl rfl (any_of HT_.out (by kernel_rfl)) (fun _ _ _ h => h) (Or.inl ⟨by rfl, ?_⟩) ?_ ?_
      rotate_left
      ·
       intro w'
       go_simp
       with_reducible rfl
      rotate_left
      ·
       simp only [pz]
       rfl
      refine pure_ (i := 11) (N := some 134) (v := ?_) (a' := ?_) (bm 22 4095) rfl rfl (any_of HT_.out (by kernel_rfl)) (fun _ _ _ h => h) (Or.inl ⟨by rfl, ?_⟩) ?_ ?_
      rotate_left
      ·
       intro w'
       go_simp
       with_reducible rfl
      rotate_left
      ·
       simp only [pz]
       rfl
      refine pure_ (i := 13) (N := some 136) (v := ?_) (a' := ?_) (bm 22 12287) rfl rfl (any_of HT_.out (by kernel_rfl)) (fun _ _ _ h => h) (Or.inl ⟨by rfl, ?_⟩) ?_ ?_
      rotate_left
      ·
       intro w'
       go_simp
       with_reducible rfl
      rotate_left
      ·
       simp only [pz]
       rfl
      refine pure_ (i := 14) (N := some 137) (v := ?_) (a' := ?_) (bm 22 28671) rfl rfl (any_of HT_.out (by kernel_rfl)) (fun _ _ _ h => h) (Or.inl ⟨by rfl, ?_⟩) ?_ ?_
      rotate_left
      ·
       intro w'
       go_simp
       with_reducible rfl
      rotate_left
      ·
       simp only [pz]
       rfl
      refine take_ (i := 12) (N := some 135) (v := ?_) (a' := ?_) (bm 22 32767) rfl rfl (take_ofW HT_.out HW_.out (by kernel_rfl)) (fun _ _ _ h => h) (Or.inl ⟨by rfl, ?_⟩) hHeld ?_ ?_
      rotate_left
      ·
       rintro w' ⟨s0, s1, s2, s3, s4, s5, s6⟩
       go_simp
       with_reducible rfl
      rotate_left
      ·
       simp only [pz]
       rfl
      refine take_ (i := 15) (N := some 138) (v := ?_) (a' := ?_) (bm 22 65535) rfl rfl (take_ofW HT_.out HW_.out (by kernel_rfl)) (fun _ _ _ h => h) (Or.inl ⟨by rfl, ?_⟩) hHeld ?_ ?_
      rotate_left
      ·
       rintro w' ⟨s0, s1, s2, s3, s4, s5, s6⟩
       go_simp
       with_reducible rfl
      rotate_left
      ·
       simp only [pz]
       rfl
      refine pure_ (i := 16) (N := some 139) (v := ?_) (a' := ?_) (bm 22 131071) rfl rfl (any_of HT_.out (by kernel_rfl)) (fun _ _ _ h => h) (Or.inl ⟨by rfl, ?_⟩) ?_ ?_
      rotate_left
      ·
       intro w'
       go_simp
       with_reducible rfl
      rotate_left
      ·
       simp only [pz]
       rfl
      refine pure_ (i := 17) (N := some 140) (v := ?_) (a' := ?_) (bm 22 262143) rfl rfl (any_of HT_.out (by kernel_rfl)) (fun _ _ _ h => h) (Or.inl ⟨by rfl, ?_⟩) ?_ ?_
      rotate_left
      ·
       intro w'
       go_simp
       with_reducible rfl
      rotate_left
      ·
       simp only [pz]
       rfl
      refine take_ (i := 18) (N := some 141) (v := ?_) (a' := ?_) (bm 22 524287) rfl rfl (take_ofW HT_.out HW_.out (by kernel_rfl)) (fun _ _ _ h => h) (Or.inl ⟨by rfl, ?_⟩) hHeld ?_ ?_
      rotate_left
      ·
       rintro w' ⟨s0, s1, s2, s3, s4, s5, s6⟩
       go_simp
       with_reducible rfl
      rotate_left
      ·
       simp only [pz]
       rfl
      refine pure_ (i := 19) (N := some 142) (v := ?_) (a' := ?_) (bm 22 1048575) rfl rfl (any_of HT_.out (by kernel_rfl)) (fun _ _ _ h => h) (Or.inl ⟨by rfl, ?_⟩) ?_ ?_
      rotate_left
      ·
       intro w'
       go_simp
       with_reducible rfl
      rotate_left
      ·
       simp only [pz]
       rfl
      refine pure_ (i := 20) (N := some 143) (v := ?_) (a' := ?_) (bm 22 2097151) rfl rfl (any_of HT_.out (by kernel_rfl)) (fun _ _ _ h => h) (Or.inl ⟨by rfl, ?_⟩) ?_ ?_
      rotate_left
      ·
       intro w'
       go_simp
       with_reducible rfl
      rotate_left
      ·
       simp only [pz]
       rfl
      refine pure_ (i := 21) (N := some 144) (v := ?_) (a' := ?_) (bm 22 4194303) rfl rfl (any_of HT_.out (by kernel_rfl)) (fun _ _ _ h => h) (Or.inl ⟨by rfl, ?_⟩) ?_ ?_
      rotate_left
      ·
       intro w'
       go_simp
       with_reducible rfl
      rotate_left
      ·
       simp only [pz]
       rfl
      refine done_ (done_of HT_.out (by kernel_rfl)) ?_
      try go_wp2
      go_meet
      case rel => exact ⟨_, (decide (((rd_T42 t101 x10_2).f2) ≥ (((rd_T36 l0 ((rd_T42 t101 x10_2).f1)).f1).length : Int))), (by first | rfl | (simp; done) | (simp [*]; done)), H', ⟨by have := HK1.out; have := HK2.out; first | omega | exact Nat.le_refl _⟩, ⟨by (with_reducible repeat (first | apply Kd.R_alloc | apply Kd.R_drewN | apply Kd.R_drew)); exact HO_3.out⟩, ⟨by (with_reducible repeat (first | refine blk_drewN ?_ _ | refine blk_drew ?_ | refine blk_alloc ?_ _)); exact BK106.out⟩, ⟨by (with_reducible repeat (first | refine blk_drewN ?_ _ | refine blk_drew ?_ | refine blk_alloc ?_ _)); exact BK122.out⟩, ⟨by exact bl_g HB.out⟩⟩
     case rest =>
      clear HC79
      try clear c1
      try clear p1
      try clear q1
      try clear hx1
      try clear p2
      try clear c8
      try clear c9
      try clear c12
      try clear p12
      try clear q12
      try clear hx12
      try clear c82
      try clear c84
      try clear c84b0
      try clear c87
      try clear c87b0
      try clear c90
      try clear c90b0
      try clear c91
      try clear c91b0
      try clear hcz83_0
      try clear hcz83_1
      try clear hcz83_2
      try clear hcz83_3
      try clear hcz83_4
      try clear hfz83_0
      try clear hfz83_1
      try clear hfz83_2
      try clear hfz83_3
      try clear hfz83_4
      try clear hx121_0
      try clear hx121_1
      try clear hx121_2
      try clear hx121_3
      try clear hx121_4
      try clear hx124_0
      try clear hx124_1
      try clear p121
      try clear p124
      try clear q121
      try clear q124
      obtain ⟨kq, x144_78, rfl, HA, HJ78, HO_3, BK106, BK122, HB⟩ := hcut
      cases kq with
      | zero => exact absurd HA.out (by simp [gangwaylaw18_ResolveJust.j3])
      | succ kj78 =>
       have H := HA.out
       clear HA
       simp only [gangwaylaw18_ResolveJust.j3] at H
       by_cases c94 : x144_78 = true
       ·
        subst c94
        replace H : (none) = some r := by rw [if_pos rfl] at H; exact H
        exact absurd H (by simp)
       replace c94 := Bool.eq_false_iff.mpr c94
       subst c94
       replace H : (if 0 ≤ ((rd_T42 t101 x10_2).f1) then (if ((rd_T42 t101 x10_2).f1) < (l0.length : Int) then (if 0 ≤ ((rd_T42 t101 x10_2).f2) then (if ((rd_T42 t101 x10_2).f2) < (((rd_T36 l0 ((rd_T42 t101 x10_2).f1)).f1).length : Int) then (if ((rd_T38 ((rd_T36 l0 ((rd_T42 t101 x10_2).f1)).f1) ((rd_T42 t101 x10_2).f2)).f0).toList = ((rd_T42 t101 x10_2).f0).toList then (if ((rd_T38 ((rd_T36 l0 ((rd_T42 t101 x10_2).f1)).f1) ((rd_T42 t101 x10_2).f2)).f1).toList = ([] : List UInt8) then (none) else (if ((rd_T38 ((rd_T36 l0 ((rd_T42 t101 x10_2).f1)).f1) ((rd_T42 t101 x10_2).f2)).f4) = ((rd_T42 t101 x10_2).f3) then ((gangwaylaw18_strong.f kj78 l0 ((rd_T42 t101 x10_2).f0)).bind fun t128 => (if ((((rd_T38 ((rd_T36 l0 ((rd_T42 t101 x10_2).f1)).f1) ((rd_T42 t101 x10_2).f2)).f4) == 1) != (decide (t128 > 0))) = true then (none) else (gangwaylaw18_ResolveJust.l2 kj78 l0 t101 (wrap64 (x10_2 + 1))))) else (none))) else (none)) else (none)) else (none)) else (none)) else (none)) = some r := by rw [if_neg (show ¬ (false = true) by decide)] at H; exact H
       by_cases c95 : 0 ≤ ((rd_T42 t101 x10_2).f1)
       rotate_left
       ·
        rw [if_neg c95] at H
        exact absurd H (by simp)
       rw [if_pos c95] at H
       have c95b0 : decide (0 ≤ ((rd_T42 t101 x10_2).f1)) = true := decide_eq_true c95
       clear c95
       by_cases c96 : ((rd_T42 t101 x10_2).f1) < (l0.length : Int)
       rotate_left
       ·
        rw [if_neg c96] at H
        exact absurd H (by simp)
       rw [if_pos c96] at H
       have c96b0 : decide (((rd_T42 t101 x10_2).f1) < (l0.length : Int)) = true := decide_eq_true c96
       clear c96
       by_cases c97 : 0 ≤ ((rd_T42 t101 x10_2).f2)
       rotate_left
       ·
        rw [if_neg c97] at H
        exact absurd H (by simp)
       rw [if_pos c97] at H
       have c97b0 : decide (0 ≤ ((rd_T42 t101 x10_2).f2)) = true := decide_eq_true c97
       clear c97
       by_cases c98 : ((rd_T42 t101 x10_2).f2) < (((rd_T36 l0 ((rd_T42 t101 x10_2).f1)).f1).length : Int)
       rotate_left
       ·
        rw [if_neg c98] at H
        exact absurd H (by simp)
       rw [if_pos c98] at H
       have c98b0 : decide (((rd_T42 t101 x10_2).f2) < (((rd_T36 l0 ((rd_T42 t101 x10_2).f1)).f1).length : Int)) = true := decide_eq_true c98
       clear c98
       by_cases c99 : ((rd_T38 ((rd_T36 l0 ((rd_T42 t101 x10_2).f1)).f1) ((rd_T42 t101 x10_2).f2)).f0).toList = ((rd_T42 t101 x10_2).f0).toList
       rotate_left
       ·
        rw [if_neg c99] at H
        have c99b0 : (((rd_T38 ((rd_T36 l0 ((rd_T42 t101 x10_2).f1)).f1) ((rd_T42 t101 x10_2).f2)).f0).toList == ((rd_T42 t101 x10_2).f0).toList) = false := beq_eq_false_iff_ne.mpr c99
        have c99b1 : (((rd_T38 ((rd_T36 l0 ((rd_T42 t101 x10_2).f1)).f1) ((rd_T42 t101 x10_2).f2)).f0).toList != ((rd_T42 t101 x10_2).f0).toList) = true := bne_iff_ne.mpr c99
        exact absurd H (by simp)
       rw [if_pos c99] at H
       have c99b0 : (((rd_T38 ((rd_T36 l0 ((rd_T42 t101 x10_2).f1)).f1) ((rd_T42 t101 x10_2).f2)).f0).toList == ((rd_T42 t101 x10_2).f0).toList) = true := beq_iff_eq.mpr c99
       have c99b1 : (((rd_T38 ((rd_T36 l0 ((rd_T42 t101 x10_2).f1)).f1) ((rd_T42 t101 x10_2).f2)).f0).toList != ((rd_T42 t101 x10_2).f0).toList) = false := bne_eq_false_iff_eq.mpr c99
       clear c99
       by_cases c100 : ((rd_T38 ((rd_T36 l0 ((rd_T42 t101 x10_2).f1)).f1) ((rd_T42 t101 x10_2).f2)).f1).toList = ([] : List UInt8)
       ·
        rw [if_pos c100] at H
        have c100b0 : (((rd_T38 ((rd_T36 l0 ((rd_T42 t101 x10_2).f1)).f1) ((rd_T42 t101 x10_2).f2)).f1).toList == ([] : List UInt8)) = true := beq_iff_eq.mpr c100
        have c100b1 : (((rd_T38 ((rd_T36 l0 ((rd_T42 t101 x10_2).f1)).f1) ((rd_T42 t101 x10_2).f2)).f1).toList != ([] : List UInt8)) = false := bne_eq_false_iff_eq.mpr c100
        clear c100
        exact absurd H (by simp)
       rw [if_neg c100] at H
       have c100b0 : (((rd_T38 ((rd_T36 l0 ((rd_T42 t101 x10_2).f1)).f1) ((rd_T42 t101 x10_2).f2)).f1).toList == ([] : List UInt8)) = false := beq_eq_false_iff_ne.mpr c100
       have c100b1 : (((rd_T38 ((rd_T36 l0 ((rd_T42 t101 x10_2).f1)).f1) ((rd_T42 t101 x10_2).f2)).f1).toList != ([] : List UInt8)) = true := bne_iff_ne.mpr c100
       by_cases c101 : ((rd_T38 ((rd_T36 l0 ((rd_T42 t101 x10_2).f1)).f1) ((rd_T42 t101 x10_2).f2)).f4) = ((rd_T42 t101 x10_2).f3)
       rotate_left
       ·
        rw [if_neg c101] at H
        have c101b0 : (((rd_T38 ((rd_T36 l0 ((rd_T42 t101 x10_2).f1)).f1) ((rd_T42 t101 x10_2).f2)).f4) == ((rd_T42 t101 x10_2).f3)) = false := beq_eq_false_iff_ne.mpr c101
        have c101b1 : (((rd_T38 ((rd_T36 l0 ((rd_T42 t101 x10_2).f1)).f1) ((rd_T42 t101 x10_2).f2)).f4) != ((rd_T42 t101 x10_2).f3)) = true := bne_iff_ne.mpr c101
        exact absurd H (by simp)
       rw [if_pos c101] at H
       have c101b0 : (((rd_T38 ((rd_T36 l0 ((rd_T42 t101 x10_2).f1)).f1) ((rd_T42 t101 x10_2).f2)).f4) == ((rd_T42 t101 x10_2).f3)) = true := beq_iff_eq.mpr c101
       have c101b1 : (((rd_T38 ((rd_T36 l0 ((rd_T42 t101 x10_2).f1)).f1) ((rd_T42 t101 x10_2).f2)).f4) != ((rd_T42 t101 x10_2).f3)) = false := bne_eq_false_iff_eq.mpr c101
       clear c101
       replace H := Option.bind_eq_some_iff.mp H
       obtain ⟨t128, A1020, H⟩ := H
       replace H : (if ((((rd_T38 ((rd_T36 l0 ((rd_T42 t101 x10_2).f1)).f1) ((rd_T42 t101 x10_2).f2)).f4) == 1) != (decide (t128 > 0))) = true then (none) else (gangwaylaw18_ResolveJust.l2 kj78 l0 t101 (wrap64 (x10_2 + 1)))) = some r := H
       have A102 := am A1020
       clear A1020
       by_cases c103 : ((((rd_T38 ((rd_T36 l0 ((rd_T42 t101 x10_2).f1)).f1) ((rd_T42 t101 x10_2).f2)).f4) == 1) != (decide (t128 > 0))) = true
       ·
        rw [if_pos c103] at H
        exact absurd H (by simp)
       rw [if_neg c103] at H
       have c103b0 : ((((rd_T38 ((rd_T36 l0 ((rd_T42 t101 x10_2).f1)).f1) ((rd_T42 t101 x10_2).f2)).f4) == 1) != (decide (t128 > 0))) = false := by simpa using c103
       (try (have c103b1 : decide ((((rd_T38 ((rd_T36 l0 ((rd_T42 t101 x10_2).f1)).f1) ((rd_T42 t101 x10_2).f2)).f4) == 1) = (decide (t128 > 0))) = true := by simpa using c103))
       (try (have c103b2 : ((((rd_T38 ((rd_T36 l0 ((rd_T42 t101 x10_2).f1)).f1) ((rd_T42 t101 x10_2).f2)).f4) == 1) == (decide (t128 > 0))) = true := by simpa using c103))
       clear c103
       have H' := am H
       clear H
       try go_wp2
       have n0_ := am (Kd.R_drew HO_3.out)
       have n1_ := am (blk_drew BK106.out)
       have n2_ := am (blk_drew BK122.out)
       have n3_ := am (below_drew1 HB.out)
       clear HO_3
       clear BK106
       clear BK122
       clear HB
       have HO_3 := n0_
       have BK106 := n1_
       have BK122 := n2_
       have HB := n3_
       clear n0_ n1_ n2_ n3_
       have p125 : 0 ≤ (((rd_T42 t101 x10_2).f1) : Int) := of_decide_eq_true (by first | (with_reducible assumption) | assumption)
       have q125 : ((rd_T42 t101 x10_2).f1) < (l0.length : Int) := of_decide_eq_true (by first | (with_reducible assumption) | assumption)
       obtain ⟨ad125, A125_0, c125_0, A125_1, c125_1, e125, hx125_0, hx125_1, hl125_0, hi125_0, hl125_1, hi125_1⟩ := at_T36 HR0.out ((rd_T42 t101 x10_2).f1) p125 q125
       have hw125_1 := hx125_1
       have hw125_0 := hx125_0
       cases e125
       replace hx125_0 := oc HB.out hx125_0
       replace hx125_1 := oc HB.out hx125_1
       have HR125_0 := am hi125_0
       have HC125_0 := am hl125_0
       clear hi125_0 hl125_0
       have HR125_1 := am hi125_1
       have HC125_1 := am hl125_1
       clear hi125_1 hl125_1
       replace p125 := eq_true p125
       replace q125 := eq_true q125
       have p126 : 0 ≤ (((rd_T42 t101 x10_2).f2) : Int) := of_decide_eq_true (by first | (with_reducible assumption) | assumption)
       have q126 : ((rd_T42 t101 x10_2).f2) < (((rd_T36 l0 ((rd_T42 t101 x10_2).f1)).f1).length : Int) := of_decide_eq_true (by first | (with_reducible assumption) | assumption)
       obtain ⟨ad126, e126, hx126_0, hx126_1, hx126_2, hx126_3, hx126_4, hx126_5⟩ := at_T38 HR125_1.out ((rd_T42 t101 x10_2).f2) p126 q126
       have hw126_5 := hx126_5
       have hw126_4 := hx126_4
       have hw126_3 := hx126_3
       have hw126_2 := hx126_2
       have hw126_1 := hx126_1
       have hw126_0 := hx126_0
       cases e126
       replace hx126_0 := oc HB.out hx126_0
       replace hx126_1 := oc HB.out hx126_1
       replace hx126_2 := oc HB.out hx126_2
       replace hx126_3 := oc HB.out hx126_3
       replace hx126_4 := oc HB.out hx126_4
       replace hx126_5 := oc HB.out hx126_5
       replace p126 := eq_true p126
       replace q126 := eq_true q126
       refine start_ (n := 12) (S := fun w' => w'.cell? ⟨gb122, 0, none⟩ = some (.string ((rd_T42 t101 x10_2).f0)) ∧ w'.cell? ⟨gb122, 1, none⟩ = some (.int .i64 ((rd_T42 t101 x10_2).f1)) ∧ w'.cell? ⟨gb122, 2, none⟩ = some (.int .i64 ((rd_T42 t101 x10_2).f2)) ∧ w'.cell? ⟨gb122, 3, none⟩ = some (.int .i64 ((rd_T42 t101 x10_2).f3)) ∧ w'.cell? ⟨gb122, 4, none⟩ = some (.int .i64 ((rd_T42 t101 x10_2).f4)) ∧ w'.cell? (ad125.add ((((rd_T42 t101 x10_2).f1)).toNat * 2)) = some (.slice A125_0 ((rd_T36 l0 ((rd_T42 t101 x10_2).f1)).f0).length c125_0) ∧ w'.cell? ⟨(ad125.add ((((rd_T42 t101 x10_2).f1)).toNat * 2)).block, (ad125.add ((((rd_T42 t101 x10_2).f1)).toNat * 2)).off + 1, none⟩ = some (.slice (some ad126) ((rd_T36 l0 ((rd_T42 t101 x10_2).f1)).f1).length c125_1) ∧ w'.cell? (ad126.add ((((rd_T42 t101 x10_2).f2)).toNat * 6)) = some (.string ((rd_T38 ((rd_T36 l0 ((rd_T42 t101 x10_2).f1)).f1) ((rd_T42 t101 x10_2).f2)).f0)) ∧ w'.cell? ⟨(ad126.add ((((rd_T42 t101 x10_2).f2)).toNat * 6)).block, (ad126.add ((((rd_T42 t101 x10_2).f2)).toNat * 6)).off + 1, none⟩ = some (.string ((rd_T38 ((rd_T36 l0 ((rd_T42 t101 x10_2).f1)).f1) ((rd_T42 t101 x10_2).f2)).f1)) ∧ w'.cell? ⟨(ad126.add ((((rd_T42 t101 x10_2).f2)).toNat * 6)).block, (ad126.add ((((rd_T42 t101 x10_2).f2)).toNat * 6)).off + 2, none⟩ = some (.int .i64 ((rd_T38 ((rd_T36 l0 ((rd_T42 t101 x10_2).f1)).f1) ((rd_T42 t101 x10_2).f2)).f2)) ∧ w'.cell? ⟨(ad126.add ((((rd_T42 t101 x10_2).f2)).toNat * 6)).block, (ad126.add ((((rd_T42 t101 x10_2).f2)).toNat * 6)).off + 3, none⟩ = some (.int .i64 ((rd_T38 ((rd_T36 l0 ((rd_T42 t101 x10_2).f1)).f1) ((rd_T42 t101 x10_2).f2)).f3)) ∧ w'.cell? ⟨(ad126.add ((((rd_T42 t101 x10_2).f2)).toNat * 6)).block, (ad126.add ((((rd_T42 t101 x10_2).f2)).toNat * 6)).off + 4, none⟩ = some (.int .i64 ((rd_T38 ((rd_T36 l0 ((rd_T42 t101 x10_2).f1)).f1) ((rd_T42 t101 x10_2).f2)).f4)) ∧ w'.cell? ⟨(ad126.add ((((rd_T42 t101 x10_2).f2)).toNat * 6)).block, (ad126.add ((((rd_T42 t101 x10_2).f2)).toNat * 6)).off + 5, none⟩ = some (.int .i64 ((rd_T38 ((rd_T36 l0 ((rd_T42 t101 x10_2).f1)).f1) ((rd_T42 t101 x10_2).f2)).f5))) (ds := []) (bm 12 0) (by kernel_rfl) rfl rfl ⟨(blk_cell BK122.out 0).trans rfl, (blk_cell BK122.out 1).trans rfl, (blk_cell BK122.out 2).trans rfl, (blk_cell BK122.out 3).trans rfl, (blk_cell BK122.out 4).trans rfl, (oc HB.out hw125_0 :), (oc HB.out hw125_1 :), (oc HB.out hw126_0 :), (oc HB.out hw126_1 :), (oc HB.out hw126_2 :), (oc HB.out hw126_3 :), (oc HB.out hw126_4 :), (oc HB.out hw126_5 :)⟩ (fun hHeld => ?_); refine with_tabW gangwaylaw18_ResolveJust.tab26 gangwaylaw18_ResolveJust.bits26 (fun HT_ HW_ => ?_)
       generalize wc.drew = w104 at HO_3 BK106 BK122 HB HR125_0 HR125_1 hx125_0 hx125_1 hx126_0 hx126_1 hx126_2 hx126_3 hx126_4 hx126_5 hHeld ⊢
       refine pure_ (i := 0) (N := some 145) (v := ?_) (a' := ?_) (bm 12 1) rfl rfl (any_of HT_.out (by kernel_rfl)) (fun _ _ _ h => h) (Or.inl ⟨by rfl, ?_⟩) ?_ ?_
       rotate_left
       ·
        intro w'
        go_simp
        with_reducible rfl
       rotate_left
       ·
        simp only [pz]
        rfl
       refine pure_ (i := 1) (N := some 146) (v := ?_) (a' := ?_) (bm 12 3) rfl rfl (any_of HT_.out (by kernel_rfl)) (fun _ _ _ h => h) (Or.inl ⟨by rfl, ?_⟩) ?_ ?_
       rotate_left
       ·
        intro w'
        go_simp
        with_reducible rfl
       rotate_left
       ·
        simp only [pz]
        rfl
       refine pure_ (i := 6) (N := some 151) (v := ?_) (a' := ?_) (bm 12 67) rfl rfl (any_of HT_.out (by kernel_rfl)) (fun _ _ _ h => h) (Or.inl ⟨by rfl, ?_⟩) ?_ ?_
       rotate_left
       ·
        intro w'
        go_simp
        with_reducible rfl
       rotate_left
       ·
        simp only [pz]
        rfl
       refine take_ (i := 2) (N := some 147) (v := ?_) (a' := ?_) (bm 12 71) rfl rfl (take_ofW HT_.out HW_.out (by kernel_rfl)) (fun _ _ _ h => h) (Or.inl ⟨by rfl, ?_⟩) hHeld ?_ ?_
       rotate_left
       ·
        rintro w' ⟨s0, s1, s2, s3, s4, s5, s6, s7, s8, s9, s10, s11, s12⟩
        go_simp
        with_reducible rfl
       rotate_left
       ·
        simp only [pz]
        rfl
       refine pure_ (i := 3) (N := some 148) (v := ?_) (a' := ?_) (bm 12 79) rfl rfl (any_of HT_.out (by kernel_rfl)) (fun _ _ _ h => h) (Or.inl ⟨by rfl, ?_⟩) ?_ ?_
       rotate_left
       ·
        intro w'
        go_simp
        with_reducible rfl
       rotate_left
       ·
        simp only [pz]
        rfl
       refine pure_ (i := 4) (N := some 149) (v := ?_) (a' := ?_) (bm 12 95) rfl rfl (any_of HT_.out (by kernel_rfl)) (fun _ _ _ h => h) (Or.inl ⟨by rfl, ?_⟩) ?_ ?_
       rotate_left
       ·
        intro w'
        go_simp
        with_reducible rfl
       rotate_left
       ·
        simp only [pz]
        rfl
       refine take_ (i := 5) (N := some 150) (v := ?_) (a' := ?_) (bm 12 127) rfl rfl (take_ofW HT_.out HW_.out (by kernel_rfl)) (fun _ _ _ h => h) (Or.inl ⟨by rfl, ?_⟩) hHeld ?_ ?_
       rotate_left
       ·
        rintro w' ⟨s0, s1, s2, s3, s4, s5, s6, s7, s8, s9, s10, s11, s12⟩
        go_simp
        with_reducible rfl
       rotate_left
       ·
        simp only [pz]
        rfl
       refine take_ (i := 7) (N := some 152) (v := ?_) (a' := ?_) (bm 12 255) rfl rfl (take_ofW HT_.out HW_.out (by kernel_rfl)) (fun _ _ _ h => h) (Or.inl ⟨by rfl, ?_⟩) hHeld ?_ ?_
       rotate_left
       ·
        rintro w' ⟨s0, s1, s2, s3, s4, s5, s6, s7, s8, s9, s10, s11, s12⟩
        go_simp
        with_reducible rfl
       rotate_left
       ·
        simp only [pz]
        rfl
       refine pure_ (i := 8) (N := some 153) (v := ?_) (a' := ?_) (bm 12 511) rfl rfl (any_of HT_.out (by kernel_rfl)) (fun _ _ _ h => h) (Or.inl ⟨by rfl, ?_⟩) ?_ ?_
       rotate_left
       ·
        intro w'
        go_simp
        with_reducible rfl
       rotate_left
       ·
        simp only [pz]
        rfl
       refine take_ (i := 9) (N := some 154) (v := ?_) (a' := ?_) (bm 12 1023) rfl rfl (take_ofW HT_.out HW_.out (by kernel_rfl)) (fun _ _ _ h => h) (Or.inl ⟨by rfl, ?_⟩) hHeld ?_ ?_
       rotate_left
       ·
        rintro w' ⟨s0, s1, s2, s3, s4, s5, s6, s7, s8, s9, s10, s11, s12⟩
        go_simp
        with_reducible rfl
       rotate_left
       ·
        simp only [pz]
        rfl
       refine one_ (i := 10) (N := some 12) (bm 12 2047) rfl rfl (one_of HT_.out (by kernel_rfl)) (by decide) (fun K hK => ?_)
       refine box_step ?hg (N := 12) ?hd (cs := #[.string (⟨#[]⟩ : ByteArray), .string (⟨#[]⟩ : ByteArray), .int .i64 0, .int .i64 0, .int .i64 0, .int .i64 0]) (t := 38) ?hr ?_; (case hd => rfl); (case hg => rfl); (case hr => go_simp; try rfl)
       intro gb127 hg w105 hbox hb
       have n0_ := am (Kd.R_below (Kd.R_o HO_3.out) hb)
       have n1_ := am (blk_below (blk_o BK106.out) hb)
       have n2_ := am (blk_below (blk_o BK122.out) hb)
       have n3_ := am (below_step (by exact bl_g HB.out) hb)
       have n4_ := am (hbox)
       have n5_ := lei (by rw [hg]; exact (below_size (by exact bl_g HB.out)) : w.heap.size ≤ gb127)
       have n6_ := lei (by rw [hg]; exact (below_size (by exact bl_g HB.out)) : w.heap.size ≤ gb127)
       have n7_ := am ((by rw [hg]; exact Nat.ne_of_lt (blk_lt (g := gb106) (o := .cells #[.int .i64 t104, .string t105] 26 (0, 0)) (blk_o BK106.out)) : gb106 ≠ gb127))
       have n8_ := am ((by rw [hg]; exact Nat.ne_of_gt (blk_lt (g := gb106) (o := .cells #[.int .i64 t104, .string t105] 26 (0, 0)) (blk_o BK106.out)) : gb127 ≠ gb106))
       have n9_ := am ((by rw [hg]; exact Nat.ne_of_lt (blk_lt (g := gb122) (o := .cells #[.string ((rd_T42 t101 x10_2).f0), .int .i64 ((rd_T42 t101 x10_2).f1), .int .i64 ((rd_T42 t101 x10_2).f2), .int .i64 ((rd_T42 t101 x10_2).f3), .int .i64 ((rd_T42 t101 x10_2).f4)] 42 (0, 0)) (blk_o BK122.out)) : gb122 ≠ gb127))
       have n10_ := am ((by rw [hg]; exact Nat.ne_of_gt (blk_lt (g := gb122) (o := .cells #[.string ((rd_T42 t101 x10_2).f0), .int .i64 ((rd_T42 t101 x10_2).f1), .int .i64 ((rd_T42 t101 x10_2).f2), .int .i64 ((rd_T42 t101 x10_2).f3), .int .i64 ((rd_T42 t101 x10_2).f4)] 42 (0, 0)) (blk_o BK122.out)) : gb127 ≠ gb122))
       clear HO_3
       clear BK106
       clear BK122
       clear HB
       have HO_3 := n0_
       have BK106 := n1_
       have BK122 := n2_
       have HB := n3_
       have BK127 := n4_
       have GW127 := n5_
       have GE127 := n6_
       have NB106_127 := n7_
       have NB127_106 := n8_
       have NB122_127 := n9_
       have NB127_122 := n10_
       clear n0_ n1_ n2_ n3_ n4_ n5_ n6_ n7_ n8_ n9_ n10_
       clear hb hbox hg
       refine hK.out _ _ ⟨(blk_cell BK122.out 0).trans rfl, (blk_cell BK122.out 1).trans rfl, (blk_cell BK122.out 2).trans rfl, (blk_cell BK122.out 3).trans rfl, (blk_cell BK122.out 4).trans rfl, (oc HB.out hw125_0 :), (oc HB.out hw125_1 :), (oc HB.out hw126_0 :), (oc HB.out hw126_1 :), (oc HB.out hw126_2 :), (oc HB.out hw126_3 :), (oc HB.out hw126_4 :), (oc HB.out hw126_5 :)⟩ (fun hHeld => ?_)
       clear hK K
       refine norm_ (a' := ?_) ?_ ?_
       rotate_left
       ·
        show Act.put _ (some 12) _ = _
        simp only [pz]
        rfl
       refine one_ (i := 11) (N := none) (bm 12 4095) rfl rfl (one_of HT_.out (by kernel_rfl)) (by decide) (fun K hK => ?_)
       have hs106 : w105.cell? ⟨gb127, 0, none⟩ = some (.string (⟨#[]⟩ : ByteArray)) := (blk_cell BK127.out 0).trans rfl
       have hfs106 := blk_frozen BK127.out 0
       have hns106_0 := NB106_127.out
       have hns106_1 := NB122_127.out
       have hms106_0 := NB127_106.out
       have hms106_1 := NB127_122.out
       have hs107 : w105.cell? ⟨gb127, 1, none⟩ = some (.string (⟨#[]⟩ : ByteArray)) := (blk_cell BK127.out 1).trans rfl
       have hfs107 := blk_frozen BK127.out 1
       have hns107_0 := NB106_127.out
       have hns107_1 := NB122_127.out
       have hms107_0 := NB127_106.out
       have hms107_1 := NB127_122.out
       have hs108 : w105.cell? ⟨gb127, 2, none⟩ = some (.int .i64 0) := (blk_cell BK127.out 2).trans rfl
       have hfs108 := blk_frozen BK127.out 2
       have hns108_0 := NB106_127.out
       have hns108_1 := NB122_127.out
       have hms108_0 := NB127_106.out
       have hms108_1 := NB127_122.out
       have hs109 : w105.cell? ⟨gb127, 3, none⟩ = some (.int .i64 0) := (blk_cell BK127.out 3).trans rfl
       have hfs109 := blk_frozen BK127.out 3
       have hns109_0 := NB106_127.out
       have hns109_1 := NB122_127.out
       have hms109_0 := NB127_106.out
       have hms109_1 := NB127_122.out
       have hs110 : w105.cell? ⟨gb127, 4, none⟩ = some (.int .i64 0) := (blk_cell BK127.out 4).trans rfl
       have hfs110 := blk_frozen BK127.out 4
       have hns110_0 := NB106_127.out
       have hns110_1 := NB122_127.out
       have hms110_0 := NB127_106.out
       have hms110_1 := NB127_122.out
       have hs111 : w105.cell? ⟨gb127, 5, none⟩ = some (.int .i64 0) := (blk_cell BK127.out 5).trans rfl
       have hfs111 := blk_frozen BK127.out 5
       have hns111_0 := NB106_127.out
       have hns111_1 := NB122_127.out
       have hms111_0 := NB127_106.out
       have hms111_1 := NB127_122.out
       refine skip_ (w1 := ?_) (by rfl) rfl ?_ ?_
       rotate_left
       ·
        go_simp
        rfl
       refine hK.out _ _ ⟨((cell_far (p := ⟨gb127, _, none⟩) NB122_127.out _).trans (((cell_far (p := ⟨gb127, _, none⟩) NB122_127.out _).trans (((cell_far (p := ⟨gb127, _, none⟩) NB122_127.out _).trans (((cell_far (p := ⟨gb127, _, none⟩) NB122_127.out _).trans (((cell_far (p := ⟨gb127, _, none⟩) NB122_127.out _).trans (((cell_far (p := ⟨gb127, _, none⟩) NB122_127.out _).trans (hHeld.1)))))))))))), ((cell_far (p := ⟨gb127, _, none⟩) NB122_127.out _).trans (((cell_far (p := ⟨gb127, _, none⟩) NB122_127.out _).trans (((cell_far (p := ⟨gb127, _, none⟩) NB122_127.out _).trans (((cell_far (p := ⟨gb127, _, none⟩) NB122_127.out _).trans (((cell_far (p := ⟨gb127, _, none⟩) NB122_127.out _).trans (((cell_far (p := ⟨gb127, _, none⟩) NB122_127.out _).trans (hHeld.2.1)))))))))))), ((cell_far (p := ⟨gb127, _, none⟩) NB122_127.out _).trans (((cell_far (p := ⟨gb127, _, none⟩) NB122_127.out _).trans (((cell_far (p := ⟨gb127, _, none⟩) NB122_127.out _).trans (((cell_far (p := ⟨gb127, _, none⟩) NB122_127.out _).trans (((cell_far (p := ⟨gb127, _, none⟩) NB122_127.out _).trans (((cell_far (p := ⟨gb127, _, none⟩) NB122_127.out _).trans (hHeld.2.2.1)))))))))))), ((cell_far (p := ⟨gb127, _, none⟩) NB122_127.out _).trans (((cell_far (p := ⟨gb127, _, none⟩) NB122_127.out _).trans (((cell_far (p := ⟨gb127, _, none⟩) NB122_127.out _).trans (((cell_far (p := ⟨gb127, _, none⟩) NB122_127.out _).trans (((cell_far (p := ⟨gb127, _, none⟩) NB122_127.out _).trans (((cell_far (p := ⟨gb127, _, none⟩) NB122_127.out _).trans (hHeld.2.2.2.1)))))))))))), ((cell_far (p := ⟨gb127, _, none⟩) NB122_127.out _).trans (((cell_far (p := ⟨gb127, _, none⟩) NB122_127.out _).trans (((cell_far (p := ⟨gb127, _, none⟩) NB122_127.out _).trans (((cell_far (p := ⟨gb127, _, none⟩) NB122_127.out _).trans (((cell_far (p := ⟨gb127, _, none⟩) NB122_127.out _).trans (((cell_far (p := ⟨gb127, _, none⟩) NB122_127.out _).trans (hHeld.2.2.2.2.1)))))))))))), ((cell_far (p := ⟨gb127, _, none⟩) (by first | exact Nat.ne_of_lt (Nat.lt_of_lt_of_le (by have := World.block_lt_of_cell? _ _ hw125_0; first | rwa [add_block] at this | exact this) GW127.out) | (rw [add_block]; exact Nat.ne_of_lt (Nat.lt_of_lt_of_le (by have := World.block_lt_of_cell? _ _ hw125_0; first | rwa [add_block] at this | exact this) GW127.out)) | (show (Addr.add _ _).block ≠ _; rw [add_block]; exact Nat.ne_of_lt (Nat.lt_of_lt_of_le (by have := World.block_lt_of_cell? _ _ hw125_0; first | rwa [add_block] at this | exact this) GW127.out)) | (dsimp only; exact Nat.ne_of_lt (Nat.lt_of_lt_of_le (by have := World.block_lt_of_cell? _ _ hw125_0; first | rwa [add_block] at this | exact this) GW127.out))) _).trans (((cell_far (p := ⟨gb127, _, none⟩) (by first | exact Nat.ne_of_lt (Nat.lt_of_lt_of_le (by have := World.block_lt_of_cell? _ _ hw125_0; first | rwa [add_block] at this | exact this) GW127.out) | (rw [add_block]; exact Nat.ne_of_lt (Nat.lt_of_lt_of_le (by have := World.block_lt_of_cell? _ _ hw125_0; first | rwa [add_block] at this | exact this) GW127.out)) | (show (Addr.add _ _).block ≠ _; rw [add_block]; exact Nat.ne_of_lt (Nat.lt_of_lt_of_le (by have := World.block_lt_of_cell? _ _ hw125_0; first | rwa [add_block] at this | exact this) GW127.out)) | (dsimp only; exact Nat.ne_of_lt (Nat.lt_of_lt_of_le (by have := World.block_lt_of_cell? _ _ hw125_0; first | rwa [add_block] at this | exact this) GW127.out))) _).trans (((cell_far (p := ⟨gb127, _, none⟩) (by first | exact Nat.ne_of_lt (Nat.lt_of_lt_of_le (by have := World.block_lt_of_cell? _ _ hw125_0; first | rwa [add_block] at this | exact this) GW127.out) | (rw [add_block]; exact Nat.ne_of_lt (Nat.lt_of_lt_of_le (by have := World.block_lt_of_cell? _ _ hw125_0; first | rwa [add_block] at this | exact this) GW127.out)) | (show (Addr.add _ _).block ≠ _; rw [add_block]; exact Nat.ne_of_lt (Nat.lt_of_lt_of_le (by have := World.block_lt_of_cell? _ _ hw125_0; first | rwa [add_block] at this | exact this) GW127.out)) | (dsimp only; exact Nat.ne_of_lt (Nat.lt_of_lt_of_le (by have := World.block_lt_of_cell? _ _ hw125_0; first | rwa [add_block] at this | exact this) GW127.out))) _).trans (((cell_far (p := ⟨gb127, _, none⟩) (by first | exact Nat.ne_of_lt (Nat.lt_of_lt_of_le (by have := World.block_lt_of_cell? _ _ hw125_0; first | rwa [add_block] at this | exact this) GW127.out) | (rw [add_block]; exact Nat.ne_of_lt (Nat.lt_of_lt_of_le (by have := World.block_lt_of_cell? _ _ hw125_0; first | rwa [add_block] at this | exact this) GW127.out)) | (show (Addr.add _ _).block ≠ _; rw [add_block]; exact Nat.ne_of_lt (Nat.lt_of_lt_of_le (by have := World.block_lt_of_cell? _ _ hw125_0; first | rwa [add_block] at this | exact this) GW127.out)) | (dsimp only; exact Nat.ne_of_lt (Nat.lt_of_lt_of_le (by have := World.block_lt_of_cell? _ _ hw125_0; first | rwa [add_block] at this | exact this) GW127.out))) _).trans (((cell_far (p := ⟨gb127, _, none⟩) (by first | exact Nat.ne_of_lt (Nat.lt_of_lt_of_le (by have := World.block_lt_of_cell? _ _ hw125_0; first | rwa [add_block] at this | exact this) GW127.out) | (rw [add_block]; exact Nat.ne_of_lt (Nat.lt_of_lt_of_le (by have := World.block_lt_of_cell? _ _ hw125_0; first | rwa [add_block] at this | exact this) GW127.out)) | (show (Addr.add _ _).block ≠ _; rw [add_block]; exact Nat.ne_of_lt (Nat.lt_of_lt_of_le (by have := World.block_lt_of_cell? _ _ hw125_0; first | rwa [add_block] at this | exact this) GW127.out)) | (dsimp only; exact Nat.ne_of_lt (Nat.lt_of_lt_of_le (by have := World.block_lt_of_cell? _ _ hw125_0; first | rwa [add_block] at this | exact this) GW127.out))) _).trans (((cell_far (p := ⟨gb127, _, none⟩) (by first | exact Nat.ne_of_lt (Nat.lt_of_lt_of_le (by have := World.block_lt_of_cell? _ _ hw125_0; first | rwa [add_block] at this | exact this) GW127.out) | (rw [add_block]; exact Nat.ne_of_lt (Nat.lt_of_lt_of_le (by have := World.block_lt_of_cell? _ _ hw125_0; first | rwa [add_block] at this | exact this) GW127.out)) | (show (Addr.add _ _).block ≠ _; rw [add_block]; exact Nat.ne_of_lt (Nat.lt_of_lt_of_le (by have := World.block_lt_of_cell? _ _ hw125_0; first | rwa [add_block] at this | exact this) GW127.out)) | (dsimp only; exact Nat.ne_of_lt (Nat.lt_of_lt_of_le (by have := World.block_lt_of_cell? _ _ hw125_0; first | rwa [add_block] at this | exact this) GW127.out))) _).trans (hHeld.2.2.2.2.2.1)))))))))))), ((cell_far (p := ⟨gb127, _, none⟩) (by first | exact Nat.ne_of_lt (Nat.lt_of_lt_of_le (by have := World.block_lt_of_cell? _ _ hw125_1; first | rwa [add_block] at this | exact this) GW127.out) | (rw [add_block]; exact Nat.ne_of_lt (Nat.lt_of_lt_of_le (by have := World.block_lt_of_cell? _ _ hw125_1; first | rwa [add_block] at this | exact this) GW127.out)) | (show (Addr.add _ _).block ≠ _; rw [add_block]; exact Nat.ne_of_lt (Nat.lt_of_lt_of_le (by have := World.block_lt_of_cell? _ _ hw125_1; first | rwa [add_block] at this | exact this) GW127.out)) | (dsimp only; exact Nat.ne_of_lt (Nat.lt_of_lt_of_le (by have := World.block_lt_of_cell? _ _ hw125_1; first | rwa [add_block] at this | exact this) GW127.out))) _).trans (((cell_far (p := ⟨gb127, _, none⟩) (by first | exact Nat.ne_of_lt (Nat.lt_of_lt_of_le (by have := World.block_lt_of_cell? _ _ hw125_1; first | rwa [add_block] at this | exact this) GW127.out) | (rw [add_block]; exact Nat.ne_of_lt (Nat.lt_of_lt_of_le (by have := World.block_lt_of_cell? _ _ hw125_1; first | rwa [add_block] at this | exact this) GW127.out)) | (show (Addr.add _ _).block ≠ _; rw [add_block]; exact Nat.ne_of_lt (Nat.lt_of_lt_of_le (by have := World.block_lt_of_cell? _ _ hw125_1; first | rwa [add_block] at this | exact this) GW127.out)) | (dsimp only; exact Nat.ne_of_lt (Nat.lt_of_lt_of_le (by have := World.block_lt_of_cell? _ _ hw125_1; first | rwa [add_block] at this | exact this) GW127.out))) _).trans (((cell_far (p := ⟨gb127, _, none⟩) (by first | exact Nat.ne_of_lt (Nat.lt_of_lt_of_le (by have := World.block_lt_of_cell? _ _ hw125_1; first | rwa [add_block] at this | exact this) GW127.out) | (rw [add_block]; exact Nat.ne_of_lt (Nat.lt_of_lt_of_le (by have := World.block_lt_of_cell? _ _ hw125_1; first | rwa [add_block] at this | exact this) GW127.out)) | (show (Addr.add _ _).block ≠ _; rw [add_block]; exact Nat.ne_of_lt (Nat.lt_of_lt_of_le (by have := World.block_lt_of_cell? _ _ hw125_1; first | rwa [add_block] at this | exact this) GW127.out)) | (dsimp only; exact Nat.ne_of_lt (Nat.lt_of_lt_of_le (by have := World.block_lt_of_cell? _ _ hw125_1; first | rwa [add_block] at this | exact this) GW127.out))) _).trans (((cell_far (p := ⟨gb127, _, none⟩) (by first | exact Nat.ne_of_lt (Nat.lt_of_lt_of_le (by have := World.block_lt_of_cell? _ _ hw125_1; first | rwa [add_block] at this | exact this) GW127.out) | (rw [add_block]; exact Nat.ne_of_lt (Nat.lt_of_lt_of_le (by have := World.block_lt_of_cell? _ _ hw125_1; first | rwa [add_block] at this | exact this) GW127.out)) | (show (Addr.add _ _).block ≠ _; rw [add_block]; exact Nat.ne_of_lt (Nat.lt_of_lt_of_le (by have := World.block_lt_of_cell? _ _ hw125_1; first | rwa [add_block] at this | exact this) GW127.out)) | (dsimp only; exact Nat.ne_of_lt (Nat.lt_of_lt_of_le (by have := World.block_lt_of_cell? _ _ hw125_1; first | rwa [add_block] at this | exact this) GW127.out))) _).trans (((cell_far (p := ⟨gb127, _, none⟩) (by first | exact Nat.ne_of_lt (Nat.lt_of_lt_of_le (by have := World.block_lt_of_cell? _ _ hw125_1; first | rwa [add_block] at this | exact this) GW127.out) | (rw [add_block]; exact Nat.ne_of_lt (Nat.lt_of_lt_of_le (by have := World.block_lt_of_cell? _ _ hw125_1; first | rwa [add_block] at this | exact this) GW127.out)) | (show (Addr.add _ _).block ≠ _; rw [add_block]; exact Nat.ne_of_lt (Nat.lt_of_lt_of_le (by have := World.block_lt_of_cell? _ _ hw125_1; first | rwa [add_block] at this | exact this) GW127.out)) | (dsimp only; exact Nat.ne_of_lt (Nat.lt_of_lt_of_le (by have := World.block_lt_of_cell? _ _ hw125_1; first | rwa [add_block] at this | exact this) GW127.out))) _).trans (((cell_far (p := ⟨gb127, _, none⟩) (by first | exact Nat.ne_of_lt (Nat.lt_of_lt_of_le (by have := World.block_lt_of_cell? _ _ hw125_1; first | rwa [add_block] at this | exact this) GW127.out) | (rw [add_block]; exact Nat.ne_of_lt (Nat.lt_of_lt_of_le (by have := World.block_lt_of_cell? _ _ hw125_1; first | rwa [add_block] at this | exact this) GW127.out)) | (show (Addr.add _ _).block ≠ _; rw [add_block]; exact Nat.ne_of_lt (Nat.lt_of_lt_of_le (by have := World.block_lt_of_cell? _ _ hw125_1; first | rwa [add_block] at this | exact this) GW127.out)) | (dsimp only; exact Nat.ne_of_lt (Nat.lt_of_lt_of_le (by have := World.block_lt_of_cell? _ _ hw125_1; first | rwa [add_block] at this | exact this) GW127.out))) _).trans (hHeld.2.2.2.2.2.2.1)))))))))))), ((cell_far (p := ⟨gb127, _, none⟩) (by first | exact Nat.ne_of_lt (Nat.lt_of_lt_of_le (by have := World.block_lt_of_cell? _ _ hw126_0; first | rwa [add_block] at this | exact this) GW127.out) | (rw [add_block]; exact Nat.ne_of_lt (Nat.lt_of_lt_of_le (by have := World.block_lt_of_cell? _ _ hw126_0; first | rwa [add_block] at this | exact this) GW127.out)) | (show (Addr.add _ _).block ≠ _; rw [add_block]; exact Nat.ne_of_lt (Nat.lt_of_lt_of_le (by have := World.block_lt_of_cell? _ _ hw126_0; first | rwa [add_block] at this | exact this) GW127.out)) | (dsimp only; exact Nat.ne_of_lt (Nat.lt_of_lt_of_le (by have := World.block_lt_of_cell? _ _ hw126_0; first | rwa [add_block] at this | exact this) GW127.out))) _).trans (((cell_far (p := ⟨gb127, _, none⟩) (by first | exact Nat.ne_of_lt (Nat.lt_of_lt_of_le (by have := World.block_lt_of_cell? _ _ hw126_0; first | rwa [add_block] at this | exact this) GW127.out) | (rw [add_block]; exact Nat.ne_of_lt (Nat.lt_of_lt_of_le (by have := World.block_lt_of_cell? _ _ hw126_0; first | rwa [add_block] at this | exact this) GW127.out)) | (show (Addr.add _ _).block ≠ _; rw [add_block]; exact Nat.ne_of_lt (Nat.lt_of_lt_of_le (by have := World.block_lt_of_cell? _ _ hw126_0; first | rwa [add_block] at this | exact this) GW127.out)) | (dsimp only; exact Nat.ne_of_lt (Nat.lt_of_lt_of_le (by have := World.block_lt_of_cell? _ _ hw126_0; first | rwa [add_block] at this | exact this) GW127.out))) _).trans (((cell_far (p := ⟨gb127, _, none⟩) (by first | exact Nat.ne_of_lt (Nat.lt_of_lt_of_le (by have := World.block_lt_of_cell? _ _ hw126_0; first | rwa [add_block] at this | exact this) GW127.out) | (rw [add_block]; exact Nat.ne_of_lt (Nat.lt_of_lt_of_le (by have := World.block_lt_of_cell? _ _ hw126_0; first | rwa [add_block] at this | exact this) GW127.out)) | (show (Addr.add _ _).block ≠ _; rw [add_block]; exact Nat.ne_of_lt (Nat.lt_of_lt_of_le (by have := World.block_lt_of_cell? _ _ hw126_0; first | rwa [add_block] at this | exact this) GW127.out)) | (dsimp only; exact Nat.ne_of_lt (Nat.lt_of_lt_of_le (by have := World.block_lt_of_cell? _ _ hw126_0; first | rwa [add_block] at this | exact this) GW127.out))) _).trans (((cell_far (p := ⟨gb127, _, none⟩) (by first | exact Nat.ne_of_lt (Nat.lt_of_lt_of_le (by have := World.block_lt_of_cell? _ _ hw126_0; first | rwa [add_block] at this | exact this) GW127.out) | (rw [add_block]; exact Nat.ne_of_lt (Nat.lt_of_lt_of_le (by have := World.block_lt_of_cell? _ _ hw126_0; first | rwa [add_block] at this | exact this) GW127.out)) | (show (Addr.add _ _).block ≠ _; rw [add_block]; exact Nat.ne_of_lt (Nat.lt_of_lt_of_le (by have := World.block_lt_of_cell? _ _ hw126_0; first | rwa [add_block] at this | exact this) GW127.out)) | (dsimp only; exact Nat.ne_of_lt (Nat.lt_of_lt_of_le (by have := World.block_lt_of_cell? _ _ hw126_0; first | rwa [add_block] at this | exact this) GW127.out))) _).trans (((cell_far (p := ⟨gb127, _, none⟩) (by first | exact Nat.ne_of_lt (Nat.lt_of_lt_of_le (by have := World.block_lt_of_cell? _ _ hw126_0; first | rwa [add_block] at this | exact this) GW127.out) | (rw [add_block]; exact Nat.ne_of_lt (Nat.lt_of_lt_of_le (by have := World.block_lt_of_cell? _ _ hw126_0; first | rwa [add_block] at this | exact this) GW127.out)) | (show (Addr.add _ _).block ≠ _; rw [add_block]; exact Nat.ne_of_lt (Nat.lt_of_lt_of_le (by have := World.block_lt_of_cell? _ _ hw126_0; first | rwa [add_block] at this | exact this) GW127.out)) | (dsimp only; exact Nat.ne_of_lt (Nat.lt_of_lt_of_le (by have := World.block_lt_of_cell? _ _ hw126_0; first | rwa [add_block] at this | exact this) GW127.out))) _).trans (((cell_far (p := ⟨gb127, _, none⟩) (by first | exact Nat.ne_of_lt (Nat.lt_of_lt_of_le (by have := World.block_lt_of_cell? _ _ hw126_0; first | rwa [add_block] at this | exact this) GW127.out) | (rw [add_block]; exact Nat.ne_of_lt (Nat.lt_of_lt_of_le (by have := World.block_lt_of_cell? _ _ hw126_0; first | rwa [add_block] at this | exact this) GW127.out)) | (show (Addr.add _ _).block ≠ _; rw [add_block]; exact Nat.ne_of_lt (Nat.lt_of_lt_of_le (by have := World.block_lt_of_cell? _ _ hw126_0; first | rwa [add_block] at this | exact this) GW127.out)) | (dsimp only; exact Nat.ne_of_lt (Nat.lt_of_lt_of_le (by have := World.block_lt_of_cell? _ _ hw126_0; first | rwa [add_block] at this | exact this) GW127.out))) _).trans (hHeld.2.2.2.2.2.2.2.1)))))))))))), ((cell_far (p := ⟨gb127, _, none⟩) (by first | exact Nat.ne_of_lt (Nat.lt_of_lt_of_le (by have := World.block_lt_of_cell? _ _ hw126_1; first | rwa [add_block] at this | exact this) GW127.out) | (rw [add_block]; exact Nat.ne_of_lt (Nat.lt_of_lt_of_le (by have := World.block_lt_of_cell? _ _ hw126_1; first | rwa [add_block] at this | exact this) GW127.out)) | (show (Addr.add _ _).block ≠ _; rw [add_block]; exact Nat.ne_of_lt (Nat.lt_of_lt_of_le (by have := World.block_lt_of_cell? _ _ hw126_1; first | rwa [add_block] at this | exact this) GW127.out)) | (dsimp only; exact Nat.ne_of_lt (Nat.lt_of_lt_of_le (by have := World.block_lt_of_cell? _ _ hw126_1; first | rwa [add_block] at this | exact this) GW127.out))) _).trans (((cell_far (p := ⟨gb127, _, none⟩) (by first | exact Nat.ne_of_lt (Nat.lt_of_lt_of_le (by have := World.block_lt_of_cell? _ _ hw126_1; first | rwa [add_block] at this | exact this) GW127.out) | (rw [add_block]; exact Nat.ne_of_lt (Nat.lt_of_lt_of_le (by have := World.block_lt_of_cell? _ _ hw126_1; first | rwa [add_block] at this | exact this) GW127.out)) | (show (Addr.add _ _).block ≠ _; rw [add_block]; exact Nat.ne_of_lt (Nat.lt_of_lt_of_le (by have := World.block_lt_of_cell? _ _ hw126_1; first | rwa [add_block] at this | exact this) GW127.out)) | (dsimp only; exact Nat.ne_of_lt (Nat.lt_of_lt_of_le (by have := World.block_lt_of_cell? _ _ hw126_1; first | rwa [add_block] at this | exact this) GW127.out))) _).trans (((cell_far (p := ⟨gb127, _, none⟩) (by first | exact Nat.ne_of_lt (Nat.lt_of_lt_of_le (by have := World.block_lt_of_cell? _ _ hw126_1; first | rwa [add_block] at this | exact this) GW127.out) | (rw [add_block]; exact Nat.ne_of_lt (Nat.lt_of_lt_of_le (by have := World.block_lt_of_cell? _ _ hw126_1; first | rwa [add_block] at this | exact this) GW127.out)) | (show (Addr.add _ _).block ≠ _; rw [add_block]; exact Nat.ne_of_lt (Nat.lt_of_lt_of_le (by have := World.block_lt_of_cell? _ _ hw126_1; first | rwa [add_block] at this | exact this) GW127.out)) | (dsimp only; exact Nat.ne_of_lt (Nat.lt_of_lt_of_le (by have := World.block_lt_of_cell? _ _ hw126_1; first | rwa [add_block] at this | exact this) GW127.out))) _).trans (((cell_far (p := ⟨gb127, _, none⟩) (by first | exact Nat.ne_of_lt (Nat.lt_of_lt_of_le (by have := World.block_lt_of_cell? _ _ hw126_1; first | rwa [add_block] at this | exact this) GW127.out) | (rw [add_block]; exact Nat.ne_of_lt (Nat.lt_of_lt_of_le (by have := World.block_lt_of_cell? _ _ hw126_1; first | rwa [add_block] at this | exact this) GW127.out)) | (show (Addr.add _ _).block ≠ _; rw [add_block]; exact Nat.ne_of_lt (Nat.lt_of_lt_of_le (by have := World.block_lt_of_cell? _ _ hw126_1; first | rwa [add_block] at this | exact this) GW127.out)) | (dsimp only; exact Nat.ne_of_lt (Nat.lt_of_lt_of_le (by have := World.block_lt_of_cell? _ _ hw126_1; first | rwa [add_block] at this | exact this) GW127.out))) _).trans (((cell_far (p := ⟨gb127, _, none⟩) (by first | exact Nat.ne_of_lt (Nat.lt_of_lt_of_le (by have := World.block_lt_of_cell? _ _ hw126_1; first | rwa [add_block] at this | exact this) GW127.out) | (rw [add_block]; exact Nat.ne_of_lt (Nat.lt_of_lt_of_le (by have := World.block_lt_of_cell? _ _ hw126_1; first | rwa [add_block] at this | exact this) GW127.out)) | (show (Addr.add _ _).block ≠ _; rw [add_block]; exact Nat.ne_of_lt (Nat.lt_of_lt_of_le (by have := World.block_lt_of_cell? _ _ hw126_1; first | rwa [add_block] at this | exact this) GW127.out)) | (dsimp only; exact Nat.ne_of_lt (Nat.lt_of_lt_of_le (by have := World.block_lt_of_cell? _ _ hw126_1; first | rwa [add_block] at this | exact this) GW127.out))) _).trans (((cell_far (p := ⟨gb127, _, none⟩) (by first | exact Nat.ne_of_lt (Nat.lt_of_lt_of_le (by have := World.block_lt_of_cell? _ _ hw126_1; first | rwa [add_block] at this | exact this) GW127.out) | (rw [add_block]; exact Nat.ne_of_lt (Nat.lt_of_lt_of_le (by have := World.block_lt_of_cell? _ _ hw126_1; first | rwa [add_block] at this | exact this) GW127.out)) | (show (Addr.add _ _).block ≠ _; rw [add_block]; exact Nat.ne_of_lt (Nat.lt_of_lt_of_le (by have := World.block_lt_of_cell? _ _ hw126_1; first | rwa [add_block] at this | exact this) GW127.out)) | (dsimp only; exact Nat.ne_of_lt (Nat.lt_of_lt_of_le (by have := World.block_lt_of_cell? _ _ hw126_1; first | rwa [add_block] at this | exact this) GW127.out))) _).trans (hHeld.2.2.2.2.2.2.2.2.1)))))))))))), ((cell_far (p := ⟨gb127, _, none⟩) (by first | exact Nat.ne_of_lt (Nat.lt_of_lt_of_le (by have := World.block_lt_of_cell? _ _ hw126_2; first | rwa [add_block] at this | exact this) GW127.out) | (rw [add_block]; exact Nat.ne_of_lt (Nat.lt_of_lt_of_le (by have := World.block_lt_of_cell? _ _ hw126_2; first | rwa [add_block] at this | exact this) GW127.out)) | (show (Addr.add _ _).block ≠ _; rw [add_block]; exact Nat.ne_of_lt (Nat.lt_of_lt_of_le (by have := World.block_lt_of_cell? _ _ hw126_2; first | rwa [add_block] at this | exact this) GW127.out)) | (dsimp only; exact Nat.ne_of_lt (Nat.lt_of_lt_of_le (by have := World.block_lt_of_cell? _ _ hw126_2; first | rwa [add_block] at this | exact this) GW127.out))) _).trans (((cell_far (p := ⟨gb127, _, none⟩) (by first | exact Nat.ne_of_lt (Nat.lt_of_lt_of_le (by have := World.block_lt_of_cell? _ _ hw126_2; first | rwa [add_block] at this | exact this) GW127.out) | (rw [add_block]; exact Nat.ne_of_lt (Nat.lt_of_lt_of_le (by have := World.block_lt_of_cell? _ _ hw126_2; first | rwa [add_block] at this | exact this) GW127.out)) | (show (Addr.add _ _).block ≠ _; rw [add_block]; exact Nat.ne_of_lt (Nat.lt_of_lt_of_le (by have := World.block_lt_of_cell? _ _ hw126_2; first | rwa [add_block] at this | exact this) GW127.out)) | (dsimp only; exact Nat.ne_of_lt (Nat.lt_of_lt_of_le (by have := World.block_lt_of_cell? _ _ hw126_2; first | rwa [add_block] at this | exact this) GW127.out))) _).trans (((cell_far (p := ⟨gb127, _, none⟩) (by first | exact Nat.ne_of_lt (Nat.lt_of_lt_of_le (by have := World.block_lt_of_cell? _ _ hw126_2; first | rwa [add_block] at this | exact this) GW127.out) | (rw [add_block]; exact Nat.ne_of_lt (Nat.lt_of_lt_of_le (by have := World.block_lt_of_cell? _ _ hw126_2; first | rwa [add_block] at this | exact this) GW127.out)) | (show (Addr.add _ _).block ≠ _; rw [add_block]; exact Nat.ne_of_lt (Nat.lt_of_lt_of_le (by have := World.block_lt_of_cell? _ _ hw126_2; first | rwa [add_block] at this | exact this) GW127.out)) | (dsimp only; exact Nat.ne_of_lt (Nat.lt_of_lt_of_le (by have := World.block_lt_of_cell? _ _ hw126_2; first | rwa [add_block] at this | exact this) GW127.out))) _).trans (((cell_far (p := ⟨gb127, _, none⟩) (by first | exact Nat.ne_of_lt (Nat.lt_of_lt_of_le (by have := World.block_lt_of_cell? _ _ hw126_2; first | rwa [add_block] at this | exact this) GW127.out) | (rw [add_block]; exact Nat.ne_of_lt (Nat.lt_of_lt_of_le (by have := World.block_lt_of_cell? _ _ hw126_2; first | rwa [add_block] at this | exact this) GW127.out)) | (show (Addr.add _ _).block ≠ _; rw [add_block]; exact Nat.ne_of_lt (Nat.lt_of_lt_of_le (by have := World.block_lt_of_cell? _ _ hw126_2; first | rwa [add_block] at this | exact this) GW127.out)) | (dsimp only; exact Nat.ne_of_lt (Nat.lt_of_lt_of_le (by have := World.block_lt_of_cell? _ _ hw126_2; first | rwa [add_block] at this | exact this) GW127.out))) _).trans (((cell_far (p := ⟨gb127, _, none⟩) (by first | exact Nat.ne_of_lt (Nat.lt_of_lt_of_le (by have := World.block_lt_of_cell? _ _ hw126_2; first | rwa [add_block] at this | exact this) GW127.out) | (rw [add_block]; exact Nat.ne_of_lt (Nat.lt_of_lt_of_le (by have := World.block_lt_of_cell? _ _ hw126_2; first | rwa [add_block] at this | exact this) GW127.out)) | (show (Addr.add _ _).block ≠ _; rw [add_block]; exact Nat.ne_of_lt (Nat.lt_of_lt_of_le (by have := World.block_lt_of_cell? _ _ hw126_2; first | rwa [add_block] at this | exact this) GW127.out)) | (dsimp only; exact Nat.ne_of_lt (Nat.lt_of_lt_of_le (by have := World.block_lt_of_cell? _ _ hw126_2; first | rwa [add_block] at this | exact this) GW127.out))) _).trans (((cell_far (p := ⟨gb127, _, none⟩) (by first | exact Nat.ne_of_lt (Nat.lt_of_lt_of_le (by have := World.block_lt_of_cell? _ _ hw126_2; first | rwa [add_block] at this | exact this) GW127.out) | (rw [add_block]; exact Nat.ne_of_lt (Nat.lt_of_lt_of_le (by have := World.block_lt_of_cell? _ _ hw126_2; first | rwa [add_block] at this | exact this) GW127.out)) | (show (Addr.add _ _).block ≠ _; rw [add_block]; exact Nat.ne_of_lt (Nat.lt_of_lt_of_le (by have := World.block_lt_of_cell? _ _ hw126_2; first | rwa [add_block] at this | exact this) GW127.out)) | (dsimp only; exact Nat.ne_of_lt (Nat.lt_of_lt_of_le (by have := World.block_lt_of_cell? _ _ hw126_2; first | rwa [add_block] at this | exact this) GW127.out))) _).trans (hHeld.2.2.2.2.2.2.2.2.2.1)))))))))))), ((cell_far (p := ⟨gb127, _, none⟩) (by first | exact Nat.ne_of_lt (Nat.lt_of_lt_of_le (by have := World.block_lt_of_cell? _ _ hw126_3; first | rwa [add_block] at this | exact this) GW127.out) | (rw [add_block]; exact Nat.ne_of_lt (Nat.lt_of_lt_of_le (by have := World.block_lt_of_cell? _ _ hw126_3; first | rwa [add_block] at this | exact this) GW127.out)) | (show (Addr.add _ _).block ≠ _; rw [add_block]; exact Nat.ne_of_lt (Nat.lt_of_lt_of_le (by have := World.block_lt_of_cell? _ _ hw126_3; first | rwa [add_block] at this | exact this) GW127.out)) | (dsimp only; exact Nat.ne_of_lt (Nat.lt_of_lt_of_le (by have := World.block_lt_of_cell? _ _ hw126_3; first | rwa [add_block] at this | exact this) GW127.out))) _).trans (((cell_far (p := ⟨gb127, _, none⟩) (by first | exact Nat.ne_of_lt (Nat.lt_of_lt_of_le (by have := World.block_lt_of_cell? _ _ hw126_3; first | rwa [add_block] at this | exact this) GW127.out) | (rw [add_block]; exact Nat.ne_of_lt (Nat.lt_of_lt_of_le (by have := World.block_lt_of_cell? _ _ hw126_3; first | rwa [add_block] at this | exact this) GW127.out)) | (show (Addr.add _ _).block ≠ _; rw [add_block]; exact Nat.ne_of_lt (Nat.lt_of_lt_of_le (by have := World.block_lt_of_cell? _ _ hw126_3; first | rwa [add_block] at this | exact this) GW127.out)) | (dsimp only; exact Nat.ne_of_lt (Nat.lt_of_lt_of_le (by have := World.block_lt_of_cell? _ _ hw126_3; first | rwa [add_block] at this | exact this) GW127.out))) _).trans (((cell_far (p := ⟨gb127, _, none⟩) (by first | exact Nat.ne_of_lt (Nat.lt_of_lt_of_le (by have := World.block_lt_of_cell? _ _ hw126_3; first | rwa [add_block] at this | exact this) GW127.out) | (rw [add_block]; exact Nat.ne_of_lt (Nat.lt_of_lt_of_le (by have := World.block_lt_of_cell? _ _ hw126_3; first | rwa [add_block] at this | exact this) GW127.out)) | (show (Addr.add _ _).block ≠ _; rw [add_block]; exact Nat.ne_of_lt (Nat.lt_of_lt_of_le (by have := World.block_lt_of_cell? _ _ hw126_3; first | rwa [add_block] at this | exact this) GW127.out)) | (dsimp only; exact Nat.ne_of_lt (Nat.lt_of_lt_of_le (by have := World.block_lt_of_cell? _ _ hw126_3; first | rwa [add_block] at this | exact this) GW127.out))) _).trans (((cell_far (p := ⟨gb127, _, none⟩) (by first | exact Nat.ne_of_lt (Nat.lt_of_lt_of_le (by have := World.block_lt_of_cell? _ _ hw126_3; first | rwa [add_block] at this | exact this) GW127.out) | (rw [add_block]; exact Nat.ne_of_lt (Nat.lt_of_lt_of_le (by have := World.block_lt_of_cell? _ _ hw126_3; first | rwa [add_block] at this | exact this) GW127.out)) | (show (Addr.add _ _).block ≠ _; rw [add_block]; exact Nat.ne_of_lt (Nat.lt_of_lt_of_le (by have := World.block_lt_of_cell? _ _ hw126_3; first | rwa [add_block] at this | exact this) GW127.out)) | (dsimp only; exact Nat.ne_of_lt (Nat.lt_of_lt_of_le (by have := World.block_lt_of_cell? _ _ hw126_3; first | rwa [add_block] at this | exact this) GW127.out))) _).trans (((cell_far (p := ⟨gb127, _, none⟩) (by first | exact Nat.ne_of_lt (Nat.lt_of_lt_of_le (by have := World.block_lt_of_cell? _ _ hw126_3; first | rwa [add_block] at this | exact this) GW127.out) | (rw [add_block]; exact Nat.ne_of_lt (Nat.lt_of_lt_of_le (by have := World.block_lt_of_cell? _ _ hw126_3; first | rwa [add_block] at this | exact this) GW127.out)) | (show (Addr.add _ _).block ≠ _; rw [add_block]; exact Nat.ne_of_lt (Nat.lt_of_lt_of_le (by have := World.block_lt_of_cell? _ _ hw126_3; first | rwa [add_block] at this | exact this) GW127.out)) | (dsimp only; exact Nat.ne_of_lt (Nat.lt_of_lt_of_le (by have := World.block_lt_of_cell? _ _ hw126_3; first | rwa [add_block] at this | exact this) GW127.out))) _).trans (((cell_far (p := ⟨gb127, _, none⟩) (by first | exact Nat.ne_of_lt (Nat.lt_of_lt_of_le (by have := World.block_lt_of_cell? _ _ hw126_3; first | rwa [add_block] at this | exact this) GW127.out) | (rw [add_block]; exact Nat.ne_of_lt (Nat.lt_of_lt_of_le (by have := World.block_lt_of_cell? _ _ hw126_3; first | rwa [add_block] at this | exact this) GW127.out)) | (show (Addr.add _ _).block ≠ _; rw [add_block]; exact Nat.ne_of_lt (Nat.lt_of_lt_of_le (by have := World.block_lt_of_cell? _ _ hw126_3; first | rwa [add_block] at this | exact this) GW127.out)) | (dsimp only; exact Nat.ne_of_lt (Nat.lt_of_lt_of_le (by have := World.block_lt_of_cell? _ _ hw126_3; first | rwa [add_block] at this | exact this) GW127.out))) _).trans (hHeld.2.2.2.2.2.2.2.2.2.2.1)))))))))))), ((cell_far (p := ⟨gb127, _, none⟩) (by first | exact Nat.ne_of_lt (Nat.lt_of_lt_of_le (by have := World.block_lt_of_cell? _ _ hw126_4; first | rwa [add_block] at this | exact this) GW127.out) | (rw [add_block]; exact Nat.ne_of_lt (Nat.lt_of_lt_of_le (by have := World.block_lt_of_cell? _ _ hw126_4; first | rwa [add_block] at this | exact this) GW127.out)) | (show (Addr.add _ _).block ≠ _; rw [add_block]; exact Nat.ne_of_lt (Nat.lt_of_lt_of_le (by have := World.block_lt_of_cell? _ _ hw126_4; first | rwa [add_block] at this | exact this) GW127.out)) | (dsimp only; exact Nat.ne_of_lt (Nat.lt_of_lt_of_le (by have := World.block_lt_of_cell? _ _ hw126_4; first | rwa [add_block] at this | exact this) GW127.out))) _).trans (((cell_far (p := ⟨gb127, _, none⟩) (by first | exact Nat.ne_of_lt (Nat.lt_of_lt_of_le (by have := World.block_lt_of_cell? _ _ hw126_4; first | rwa [add_block] at this | exact this) GW127.out) | (rw [add_block]; exact Nat.ne_of_lt (Nat.lt_of_lt_of_le (by have := World.block_lt_of_cell? _ _ hw126_4; first | rwa [add_block] at this | exact this) GW127.out)) | (show (Addr.add _ _).block ≠ _; rw [add_block]; exact Nat.ne_of_lt (Nat.lt_of_lt_of_le (by have := World.block_lt_of_cell? _ _ hw126_4; first | rwa [add_block] at this | exact this) GW127.out)) | (dsimp only; exact Nat.ne_of_lt (Nat.lt_of_lt_of_le (by have := World.block_lt_of_cell? _ _ hw126_4; first | rwa [add_block] at this | exact this) GW127.out))) _).trans (((cell_far (p := ⟨gb127, _, none⟩) (by first | exact Nat.ne_of_lt (Nat.lt_of_lt_of_le (by have := World.block_lt_of_cell? _ _ hw126_4; first | rwa [add_block] at this | exact this) GW127.out) | (rw [add_block]; exact Nat.ne_of_lt (Nat.lt_of_lt_of_le (by have := World.block_lt_of_cell? _ _ hw126_4; first | rwa [add_block] at this | exact this) GW127.out)) | (show (Addr.add _ _).block ≠ _; rw [add_block]; exact Nat.ne_of_lt (Nat.lt_of_lt_of_le (by have := World.block_lt_of_cell? _ _ hw126_4; first | rwa [add_block] at this | exact this) GW127.out)) | (dsimp only; exact Nat.ne_of_lt (Nat.lt_of_lt_of_le (by have := World.block_lt_of_cell? _ _ hw126_4; first | rwa [add_block] at this | exact this) GW127.out))) _).trans (((cell_far (p := ⟨gb127, _, none⟩) (by first | exact Nat.ne_of_lt (Nat.lt_of_lt_of_le (by have := World.block_lt_of_cell? _ _ hw126_4; first | rwa [add_block] at this | exact this) GW127.out) | (rw [add_block]; exact Nat.ne_of_lt (Nat.lt_of_lt_of_le (by have := World.block_lt_of_cell? _ _ hw126_4; first | rwa [add_block] at this | exact this) GW127.out)) | (show (Addr.add _ _).block ≠ _; rw [add_block]; exact Nat.ne_of_lt (Nat.lt_of_lt_of_le (by have := World.block_lt_of_cell? _ _ hw126_4; first | rwa [add_block] at this | exact this) GW127.out)) | (dsimp only; exact Nat.ne_of_lt (Nat.lt_of_lt_of_le (by have := World.block_lt_of_cell? _ _ hw126_4; first | rwa [add_block] at this | exact this) GW127.out))) _).trans (((cell_far (p := ⟨gb127, _, none⟩) (by first | exact Nat.ne_of_lt (Nat.lt_of_lt_of_le (by have := World.block_lt_of_cell? _ _ hw126_4; first | rwa [add_block] at this | exact this) GW127.out) | (rw [add_block]; exact Nat.ne_of_lt (Nat.lt_of_lt_of_le (by have := World.block_lt_of_cell? _ _ hw126_4; first | rwa [add_block] at this | exact this) GW127.out)) | (show (Addr.add _ _).block ≠ _; rw [add_block]; exact Nat.ne_of_lt (Nat.lt_of_lt_of_le (by have := World.block_lt_of_cell? _ _ hw126_4; first | rwa [add_block] at this | exact this) GW127.out)) | (dsimp only; exact Nat.ne_of_lt (Nat.lt_of_lt_of_le (by have := World.block_lt_of_cell? _ _ hw126_4; first | rwa [add_block] at this | exact this) GW127.out))) _).trans (((cell_far (p := ⟨gb127, _, none⟩) (by first | exact Nat.ne_of_lt (Nat.lt_of_lt_of_le (by have := World.block_lt_of_cell? _ _ hw126_4; first | rwa [add_block] at this | exact this) GW127.out) | (rw [add_block]; exact Nat.ne_of_lt (Nat.lt_of_lt_of_le (by have := World.block_lt_of_cell? _ _ hw126_4; first | rwa [add_block] at this | exact this) GW127.out)) | (show (Addr.add _ _).block ≠ _; rw [add_block]; exact Nat.ne_of_lt (Nat.lt_of_lt_of_le (by have := World.block_lt_of_cell? _ _ hw126_4; first | rwa [add_block] at this | exact this) GW127.out)) | (dsimp only; exact Nat.ne_of_lt (Nat.lt_of_lt_of_le (by have := World.block_lt_of_cell? _ _ hw126_4; first | rwa [add_block] at this | exact this) GW127.out))) _).trans (hHeld.2.2.2.2.2.2.2.2.2.2.2.1)))))))))))), ((cell_far (p := ⟨gb127, _, none⟩) (by first | exact Nat.ne_of_lt (Nat.lt_of_lt_of_le (by have := World.block_lt_of_cell? _ _ hw126_5; first | rwa [add_block] at this | exact this) GW127.out) | (rw [add_block]; exact Nat.ne_of_lt (Nat.lt_of_lt_of_le (by have := World.block_lt_of_cell? _ _ hw126_5; first | rwa [add_block] at this | exact this) GW127.out)) | (show (Addr.add _ _).block ≠ _; rw [add_block]; exact Nat.ne_of_lt (Nat.lt_of_lt_of_le (by have := World.block_lt_of_cell? _ _ hw126_5; first | rwa [add_block] at this | exact this) GW127.out)) | (dsimp only; exact Nat.ne_of_lt (Nat.lt_of_lt_of_le (by have := World.block_lt_of_cell? _ _ hw126_5; first | rwa [add_block] at this | exact this) GW127.out))) _).trans (((cell_far (p := ⟨gb127, _, none⟩) (by first | exact Nat.ne_of_lt (Nat.lt_of_lt_of_le (by have := World.block_lt_of_cell? _ _ hw126_5; first | rwa [add_block] at this | exact this) GW127.out) | (rw [add_block]; exact Nat.ne_of_lt (Nat.lt_of_lt_of_le (by have := World.block_lt_of_cell? _ _ hw126_5; first | rwa [add_block] at this | exact this) GW127.out)) | (show (Addr.add _ _).block ≠ _; rw [add_block]; exact Nat.ne_of_lt (Nat.lt_of_lt_of_le (by have := World.block_lt_of_cell? _ _ hw126_5; first | rwa [add_block] at this | exact this) GW127.out)) | (dsimp only; exact Nat.ne_of_lt (Nat.lt_of_lt_of_le (by have := World.block_lt_of_cell? _ _ hw126_5; first | rwa [add_block] at this | exact this) GW127.out))) _).trans (((cell_far (p := ⟨gb127, _, none⟩) (by first | exact Nat.ne_of_lt (Nat.lt_of_lt_of_le (by have := World.block_lt_of_cell? _ _ hw126_5; first | rwa [add_block] at this | exact this) GW127.out) | (rw [add_block]; exact Nat.ne_of_lt (Nat.lt_of_lt_of_le (by have := World.block_lt_of_cell? _ _ hw126_5; first | rwa [add_block] at this | exact this) GW127.out)) | (show (Addr.add _ _).block ≠ _; rw [add_block]; exact Nat.ne_of_lt (Nat.lt_of_lt_of_le (by have := World.block_lt_of_cell? _ _ hw126_5; first | rwa [add_block] at this | exact this) GW127.out)) | (dsimp only; exact Nat.ne_of_lt (Nat.lt_of_lt_of_le (by have := World.block_lt_of_cell? _ _ hw126_5; first | rwa [add_block] at this | exact this) GW127.out))) _).trans (((cell_far (p := ⟨gb127, _, none⟩) (by first | exact Nat.ne_of_lt (Nat.lt_of_lt_of_le (by have := World.block_lt_of_cell? _ _ hw126_5; first | rwa [add_block] at this | exact this) GW127.out) | (rw [add_block]; exact Nat.ne_of_lt (Nat.lt_of_lt_of_le (by have := World.block_lt_of_cell? _ _ hw126_5; first | rwa [add_block] at this | exact this) GW127.out)) | (show (Addr.add _ _).block ≠ _; rw [add_block]; exact Nat.ne_of_lt (Nat.lt_of_lt_of_le (by have := World.block_lt_of_cell? _ _ hw126_5; first | rwa [add_block] at this | exact this) GW127.out)) | (dsimp only; exact Nat.ne_of_lt (Nat.lt_of_lt_of_le (by have := World.block_lt_of_cell? _ _ hw126_5; first | rwa [add_block] at this | exact this) GW127.out))) _).trans (((cell_far (p := ⟨gb127, _, none⟩) (by first | exact Nat.ne_of_lt (Nat.lt_of_lt_of_le (by have := World.block_lt_of_cell? _ _ hw126_5; first | rwa [add_block] at this | exact this) GW127.out) | (rw [add_block]; exact Nat.ne_of_lt (Nat.lt_of_lt_of_le (by have := World.block_lt_of_cell? _ _ hw126_5; first | rwa [add_block] at this | exact this) GW127.out)) | (show (Addr.add _ _).block ≠ _; rw [add_block]; exact Nat.ne_of_lt (Nat.lt_of_lt_of_le (by have := World.block_lt_of_cell? _ _ hw126_5; first | rwa [add_block] at this | exact this) GW127.out)) | (dsimp only; exact Nat.ne_of_lt (Nat.lt_of_lt_of_le (by have := World.block_lt_of_cell? _ _ hw126_5; first | rwa [add_block] at this | exact this) GW127.out))) _).trans (((cell_far (p := ⟨gb127, _, none⟩) (by first | exact Nat.ne_of_lt (Nat.lt_of_lt_of_le (by have := World.block_lt_of_cell? _ _ hw126_5; first | rwa [add_block] at this | exact this) GW127.out) | (rw [add_block]; exact Nat.ne_of_lt (Nat.lt_of_lt_of_le (by have := World.block_lt_of_cell? _ _ hw126_5; first | rwa [add_block] at this | exact this) GW127.out)) | (show (Addr.add _ _).block ≠ _; rw [add_block]; exact Nat.ne_of_lt (Nat.lt_of_lt_of_le (by have := World.block_lt_of_cell? _ _ hw126_5; first | rwa [add_block] at this | exact this) GW127.out)) | (dsimp only; exact Nat.ne_of_lt (Nat.lt_of_lt_of_le (by have := World.block_lt_of_cell? _ _ hw126_5; first | rwa [add_block] at this | exact this) GW127.out))) _).trans (hHeld.2.2.2.2.2.2.2.2.2.2.2.2))))))))))))⟩ (fun hHeld => ?_)
       clear hK K
       refine done_ (done_of HT_.out (by kernel_rfl)) ?_
       try go_wp2
       have n0_ : Aside0 (Kd.R k42 42 ((((((w105.setCell ⟨gb127, 0, none⟩ (.string ((rd_T38 ((rd_T36 l0 ((rd_T42 t101 x10_2).f1)).f1) ((rd_T42 t101 x10_2).f2)).f0))).setCell ⟨gb127, 1, none⟩ (.string ((rd_T38 ((rd_T36 l0 ((rd_T42 t101 x10_2).f1)).f1) ((rd_T42 t101 x10_2).f2)).f1))).setCell ⟨gb127, 2, none⟩ (.int .i64 ((rd_T38 ((rd_T36 l0 ((rd_T42 t101 x10_2).f1)).f1) ((rd_T42 t101 x10_2).f2)).f2))).setCell ⟨gb127, 3, none⟩ (.int .i64 ((rd_T38 ((rd_T36 l0 ((rd_T42 t101 x10_2).f1)).f1) ((rd_T42 t101 x10_2).f2)).f3))).setCell ⟨gb127, 4, none⟩ (.int .i64 ((rd_T38 ((rd_T36 l0 ((rd_T42 t101 x10_2).f1)).f1) ((rd_T42 t101 x10_2).f2)).f4))).setCell ⟨gb127, 5, none⟩ (.int .i64 ((rd_T38 ((rd_T36 l0 ((rd_T42 t101 x10_2).f1)).f1) ((rd_T42 t101 x10_2).f2)).f5))) w.heap.size (fun k_ => k_ ≠ gb122) (.slice (some ad121) t101.length co80) t101) := ⟨by (with_reducible repeat (first | apply Kd.R_alloc | apply Kd.R_drewN | apply Kd.R_drew)); exact Kd.R_mono (Kd.R_far (p := ⟨gb127, 5, none⟩) (Kd.R_far (p := ⟨gb127, 4, none⟩) (Kd.R_far (p := ⟨gb127, 3, none⟩) (Kd.R_far (p := ⟨gb127, 2, none⟩) (Kd.R_far (p := ⟨gb127, 1, none⟩) (Kd.R_far (p := ⟨gb127, 0, none⟩) (Kd.R_types HO_3.out BK127.out (by decide)) (fun _ hk => hk.2) (.string ((rd_T38 ((rd_T36 l0 ((rd_T42 t101 x10_2).f1)).f1) ((rd_T42 t101 x10_2).f2)).f0))) (fun _ hk => hk.2) (.string ((rd_T38 ((rd_T36 l0 ((rd_T42 t101 x10_2).f1)).f1) ((rd_T42 t101 x10_2).f2)).f1))) (fun _ hk => hk.2) (.int .i64 ((rd_T38 ((rd_T36 l0 ((rd_T42 t101 x10_2).f1)).f1) ((rd_T42 t101 x10_2).f2)).f2))) (fun _ hk => hk.2) (.int .i64 ((rd_T38 ((rd_T36 l0 ((rd_T42 t101 x10_2).f1)).f1) ((rd_T42 t101 x10_2).f2)).f3))) (fun _ hk => hk.2) (.int .i64 ((rd_T38 ((rd_T36 l0 ((rd_T42 t101 x10_2).f1)).f1) ((rd_T42 t101 x10_2).f2)).f4))) (fun _ hk => hk.2) (.int .i64 ((rd_T38 ((rd_T36 l0 ((rd_T42 t101 x10_2).f1)).f1) ((rd_T42 t101 x10_2).f2)).f5))) (fun _ hk => hk.1)⟩
       have n1_ : Aside0 (((((((w105.setCell ⟨gb127, 0, none⟩ (.string ((rd_T38 ((rd_T36 l0 ((rd_T42 t101 x10_2).f1)).f1) ((rd_T42 t101 x10_2).f2)).f0))).setCell ⟨gb127, 1, none⟩ (.string ((rd_T38 ((rd_T36 l0 ((rd_T42 t101 x10_2).f1)).f1) ((rd_T42 t101 x10_2).f2)).f1))).setCell ⟨gb127, 2, none⟩ (.int .i64 ((rd_T38 ((rd_T36 l0 ((rd_T42 t101 x10_2).f1)).f1) ((rd_T42 t101 x10_2).f2)).f2))).setCell ⟨gb127, 3, none⟩ (.int .i64 ((rd_T38 ((rd_T36 l0 ((rd_T42 t101 x10_2).f1)).f1) ((rd_T42 t101 x10_2).f2)).f3))).setCell ⟨gb127, 4, none⟩ (.int .i64 ((rd_T38 ((rd_T36 l0 ((rd_T42 t101 x10_2).f1)).f1) ((rd_T42 t101 x10_2).f2)).f4))).setCell ⟨gb127, 5, none⟩ (.int .i64 ((rd_T38 ((rd_T36 l0 ((rd_T42 t101 x10_2).f1)).f1) ((rd_T42 t101 x10_2).f2)).f5))).heap[gb106]? = some (.cells #[.int .i64 t104, .string t105] 26 (0, 0))) := ⟨by (with_reducible repeat (first | refine blk_drewN ?_ _ | refine blk_drew ?_ | refine blk_alloc ?_ _)); refine blk_far ?_ NB106_127.out _; (with_reducible repeat (first | refine blk_drewN ?_ _ | refine blk_drew ?_ | refine blk_alloc ?_ _)); refine blk_far ?_ NB106_127.out _; (with_reducible repeat (first | refine blk_drewN ?_ _ | refine blk_drew ?_ | refine blk_alloc ?_ _)); refine blk_far ?_ NB106_127.out _; (with_reducible repeat (first | refine blk_drewN ?_ _ | refine blk_drew ?_ | refine blk_alloc ?_ _)); refine blk_far ?_ NB106_127.out _; (with_reducible repeat (first | refine blk_drewN ?_ _ | refine blk_drew ?_ | refine blk_alloc ?_ _)); refine blk_far ?_ NB106_127.out _; (with_reducible repeat (first | refine blk_drewN ?_ _ | refine blk_drew ?_ | refine blk_alloc ?_ _)); refine blk_far ?_ NB106_127.out _; (with_reducible repeat (first | refine blk_drewN ?_ _ | refine blk_drew ?_ | refine blk_alloc ?_ _)); exact BK106.out⟩
       have n2_ : Aside0 (((((((w105.setCell ⟨gb127, 0, none⟩ (.string ((rd_T38 ((rd_T36 l0 ((rd_T42 t101 x10_2).f1)).f1) ((rd_T42 t101 x10_2).f2)).f0))).setCell ⟨gb127, 1, none⟩ (.string ((rd_T38 ((rd_T36 l0 ((rd_T42 t101 x10_2).f1)).f1) ((rd_T42 t101 x10_2).f2)).f1))).setCell ⟨gb127, 2, none⟩ (.int .i64 ((rd_T38 ((rd_T36 l0 ((rd_T42 t101 x10_2).f1)).f1) ((rd_T42 t101 x10_2).f2)).f2))).setCell ⟨gb127, 3, none⟩ (.int .i64 ((rd_T38 ((rd_T36 l0 ((rd_T42 t101 x10_2).f1)).f1) ((rd_T42 t101 x10_2).f2)).f3))).setCell ⟨gb127, 4, none⟩ (.int .i64 ((rd_T38 ((rd_T36 l0 ((rd_T42 t101 x10_2).f1)).f1) ((rd_T42 t101 x10_2).f2)).f4))).setCell ⟨gb127, 5, none⟩ (.int .i64 ((rd_T38 ((rd_T36 l0 ((rd_T42 t101 x10_2).f1)).f1) ((rd_T42 t101 x10_2).f2)).f5))).heap[gb122]? = some (.cells #[.string ((rd_T42 t101 x10_2).f0), .int .i64 ((rd_T42 t101 x10_2).f1), .int .i64 ((rd_T42 t101 x10_2).f2), .int .i64 ((rd_T42 t101 x10_2).f3), .int .i64 ((rd_T42 t101 x10_2).f4)] 42 (0, 0))) := ⟨by (with_reducible repeat (first | refine blk_drewN ?_ _ | refine blk_drew ?_ | refine blk_alloc ?_ _)); refine blk_far ?_ NB122_127.out _; (with_reducible repeat (first | refine blk_drewN ?_ _ | refine blk_drew ?_ | refine blk_alloc ?_ _)); refine blk_far ?_ NB122_127.out _; (with_reducible repeat (first | refine blk_drewN ?_ _ | refine blk_drew ?_ | refine blk_alloc ?_ _)); refine blk_far ?_ NB122_127.out _; (with_reducible repeat (first | refine blk_drewN ?_ _ | refine blk_drew ?_ | refine blk_alloc ?_ _)); refine blk_far ?_ NB122_127.out _; (with_reducible repeat (first | refine blk_drewN ?_ _ | refine blk_drew ?_ | refine blk_alloc ?_ _)); refine blk_far ?_ NB122_127.out _; (with_reducible repeat (first | refine blk_drewN ?_ _ | refine blk_drew ?_ | refine blk_alloc ?_ _)); refine blk_far ?_ NB122_127.out _; (with_reducible repeat (first | refine blk_drewN ?_ _ | refine blk_drew ?_ | refine blk_alloc ?_ _)); exact BK122.out⟩
       have n3_ : Aside0 (((((((w105.setCell ⟨gb127, 0, none⟩ (.string ((rd_T38 ((rd_T36 l0 ((rd_T42 t101 x10_2).f1)).f1) ((rd_T42 t101 x10_2).f2)).f0))).setCell ⟨gb127, 1, none⟩ (.string ((rd_T38 ((rd_T36 l0 ((rd_T42 t101 x10_2).f1)).f1) ((rd_T42 t101 x10_2).f2)).f1))).setCell ⟨gb127, 2, none⟩ (.int .i64 ((rd_T38 ((rd_T36 l0 ((rd_T42 t101 x10_2).f1)).f1) ((rd_T42 t101 x10_2).f2)).f2))).setCell ⟨gb127, 3, none⟩ (.int .i64 ((rd_T38 ((rd_T36 l0 ((rd_T42 t101 x10_2).f1)).f1) ((rd_T42 t101 x10_2).f2)).f3))).setCell ⟨gb127, 4, none⟩ (.int .i64 ((rd_T38 ((rd_T36 l0 ((rd_T42 t101 x10_2).f1)).f1) ((rd_T42 t101 x10_2).f2)).f4))).setCell ⟨gb127, 5, none⟩ (.int .i64 ((rd_T38 ((rd_T36 l0 ((rd_T42 t101 x10_2).f1)).f1) ((rd_T42 t101 x10_2).f2)).f5))).heap[gb127]? = some (.cells #[.string ((rd_T38 ((rd_T36 l0 ((rd_T42 t101 x10_2).f1)).f1) ((rd_T42 t101 x10_2).f2)).f0), .string ((rd_T38 ((rd_T36 l0 ((rd_T42 t101 x10_2).f1)).f1) ((rd_T42 t101 x10_2).f2)).f1), .int .i64 ((rd_T38 ((rd_T36 l0 ((rd_T42 t101 x10_2).f1)).f1) ((rd_T42 t101 x10_2).f2)).f2), .int .i64 ((rd_T38 ((rd_T36 l0 ((rd_T42 t101 x10_2).f1)).f1) ((rd_T42 t101 x10_2).f2)).f3), .int .i64 ((rd_T38 ((rd_T36 l0 ((rd_T42 t101 x10_2).f1)).f1) ((rd_T42 t101 x10_2).f2)).f4), .int .i64 ((rd_T38 ((rd_T36 l0 ((rd_T42 t101 x10_2).f1)).f1) ((rd_T42 t101 x10_2).f2)).f5)] 38 (0, 0))) := ⟨by (with_reducible repeat (first | refine blk_drewN ?_ _ | refine blk_drew ?_ | refine blk_alloc ?_ _)); refine blk_put (cs := #[.string ((rd_T38 ((rd_T36 l0 ((rd_T42 t101 x10_2).f1)).f1) ((rd_T42 t101 x10_2).f2)).f0), .string ((rd_T38 ((rd_T36 l0 ((rd_T42 t101 x10_2).f1)).f1) ((rd_T42 t101 x10_2).f2)).f1), .int .i64 ((rd_T38 ((rd_T36 l0 ((rd_T42 t101 x10_2).f1)).f1) ((rd_T42 t101 x10_2).f2)).f2), .int .i64 ((rd_T38 ((rd_T36 l0 ((rd_T42 t101 x10_2).f1)).f1) ((rd_T42 t101 x10_2).f2)).f3), .int .i64 ((rd_T38 ((rd_T36 l0 ((rd_T42 t101 x10_2).f1)).f1) ((rd_T42 t101 x10_2).f2)).f4), .int .i64 0]) ?_ 5 _ rfl; (with_reducible repeat (first | refine blk_drewN ?_ _ | refine blk_drew ?_ | refine blk_alloc ?_ _)); refine blk_put (cs := #[.string ((rd_T38 ((rd_T36 l0 ((rd_T42 t101 x10_2).f1)).f1) ((rd_T42 t101 x10_2).f2)).f0), .string ((rd_T38 ((rd_T36 l0 ((rd_T42 t101 x10_2).f1)).f1) ((rd_T42 t101 x10_2).f2)).f1), .int .i64 ((rd_T38 ((rd_T36 l0 ((rd_T42 t101 x10_2).f1)).f1) ((rd_T42 t101 x10_2).f2)).f2), .int .i64 ((rd_T38 ((rd_T36 l0 ((rd_T42 t101 x10_2).f1)).f1) ((rd_T42 t101 x10_2).f2)).f3), .int .i64 0, .int .i64 0]) ?_ 4 _ rfl; (with_reducible repeat (first | refine blk_drewN ?_ _ | refine blk_drew ?_ | refine blk_alloc ?_ _)); refine blk_put (cs := #[.string ((rd_T38 ((rd_T36 l0 ((rd_T42 t101 x10_2).f1)).f1) ((rd_T42 t101 x10_2).f2)).f0), .string ((rd_T38 ((rd_T36 l0 ((rd_T42 t101 x10_2).f1)).f1) ((rd_T42 t101 x10_2).f2)).f1), .int .i64 ((rd_T38 ((rd_T36 l0 ((rd_T42 t101 x10_2).f1)).f1) ((rd_T42 t101 x10_2).f2)).f2), .int .i64 0, .int .i64 0, .int .i64 0]) ?_ 3 _ rfl; (with_reducible repeat (first | refine blk_drewN ?_ _ | refine blk_drew ?_ | refine blk_alloc ?_ _)); refine blk_put (cs := #[.string ((rd_T38 ((rd_T36 l0 ((rd_T42 t101 x10_2).f1)).f1) ((rd_T42 t101 x10_2).f2)).f0), .string ((rd_T38 ((rd_T36 l0 ((rd_T42 t101 x10_2).f1)).f1) ((rd_T42 t101 x10_2).f2)).f1), .int .i64 0, .int .i64 0, .int .i64 0, .int .i64 0]) ?_ 2 _ rfl; (with_reducible repeat (first | refine blk_drewN ?_ _ | refine blk_drew ?_ | refine blk_alloc ?_ _)); refine blk_put (cs := #[.string ((rd_T38 ((rd_T36 l0 ((rd_T42 t101 x10_2).f1)).f1) ((rd_T42 t101 x10_2).f2)).f0), .string (⟨#[]⟩ : ByteArray), .int .i64 0, .int .i64 0, .int .i64 0, .int .i64 0]) ?_ 1 _ rfl; (with_reducible repeat (first | refine blk_drewN ?_ _ | refine blk_drew ?_ | refine blk_alloc ?_ _)); refine blk_put (cs := #[.string (⟨#[]⟩ : ByteArray), .string (⟨#[]⟩ : ByteArray), .int .i64 0, .int .i64 0, .int .i64 0, .int .i64 0]) ?_ 0 _ rfl; (with_reducible repeat (first | refine blk_drewN ?_ _ | refine blk_drew ?_ | refine blk_alloc ?_ _)); exact BK127.out⟩
       have n4_ : Aside0 (Below w.heap.size w ((((((w105.setCell ⟨gb127, 0, none⟩ (.string ((rd_T38 ((rd_T36 l0 ((rd_T42 t101 x10_2).f1)).f1) ((rd_T42 t101 x10_2).f2)).f0))).setCell ⟨gb127, 1, none⟩ (.string ((rd_T38 ((rd_T36 l0 ((rd_T42 t101 x10_2).f1)).f1) ((rd_T42 t101 x10_2).f2)).f1))).setCell ⟨gb127, 2, none⟩ (.int .i64 ((rd_T38 ((rd_T36 l0 ((rd_T42 t101 x10_2).f1)).f1) ((rd_T42 t101 x10_2).f2)).f2))).setCell ⟨gb127, 3, none⟩ (.int .i64 ((rd_T38 ((rd_T36 l0 ((rd_T42 t101 x10_2).f1)).f1) ((rd_T42 t101 x10_2).f2)).f3))).setCell ⟨gb127, 4, none⟩ (.int .i64 ((rd_T38 ((rd_T36 l0 ((rd_T42 t101 x10_2).f1)).f1) ((rd_T42 t101 x10_2).f2)).f4))).setCell ⟨gb127, 5, none⟩ (.int .i64 ((rd_T38 ((rd_T36 l0 ((rd_T42 t101 x10_2).f1)).f1) ((rd_T42 t101 x10_2).f2)).f5)))) := ⟨by exact bl_g HB.out⟩
       (try clear HO_3)
       (try clear BK106)
       (try clear BK122)
       (try clear BK127)
       (try clear HB)
       generalize ((((((w105.setCell ⟨gb127, 0, none⟩ (.string ((rd_T38 ((rd_T36 l0 ((rd_T42 t101 x10_2).f1)).f1) ((rd_T42 t101 x10_2).f2)).f0))).setCell ⟨gb127, 1, none⟩ (.string ((rd_T38 ((rd_T36 l0 ((rd_T42 t101 x10_2).f1)).f1) ((rd_T42 t101 x10_2).f2)).f1))).setCell ⟨gb127, 2, none⟩ (.int .i64 ((rd_T38 ((rd_T36 l0 ((rd_T42 t101 x10_2).f1)).f1) ((rd_T42 t101 x10_2).f2)).f2))).setCell ⟨gb127, 3, none⟩ (.int .i64 ((rd_T38 ((rd_T36 l0 ((rd_T42 t101 x10_2).f1)).f1) ((rd_T42 t101 x10_2).f2)).f3))).setCell ⟨gb127, 4, none⟩ (.int .i64 ((rd_T38 ((rd_T36 l0 ((rd_T42 t101 x10_2).f1)).f1) ((rd_T42 t101 x10_2).f2)).f4))).setCell ⟨gb127, 5, none⟩ (.int .i64 ((rd_T38 ((rd_T36 l0 ((rd_T42 t101 x10_2).f1)).f1) ((rd_T42 t101 x10_2).f2)).f5))) = w112 at n0_ n1_ n2_ n3_ n4_ ⊢
       have HO_3 := n0_
       have BK106 := n1_
       have BK122 := n2_
       have BK127 := n3_
       have HB := n4_
       clear n0_ n1_ n2_ n3_ n4_
       have n0_ := am (Kd.R_drew HO_3.out)
       have n1_ := am (blk_drew BK106.out)
       have n2_ := am (blk_drew BK122.out)
       have n3_ := am (blk_drew BK127.out)
       have n4_ := am (below_drew1 HB.out)
       clear HO_3
       clear BK106
       clear BK122
       clear BK127
       clear HB
       have HO_3 := n0_
       have BK106 := n1_
       have BK122 := n2_
       have BK127 := n3_
       have HB := n4_
       clear n0_ n1_ n2_ n3_ n4_
       refine start_ (n := 28) (S := fun w' => w'.cell? ⟨gb127, 0, none⟩ = some (.string ((rd_T38 ((rd_T36 l0 ((rd_T42 t101 x10_2).f1)).f1) ((rd_T42 t101 x10_2).f2)).f0)) ∧ w'.cell? ⟨gb127, 1, none⟩ = some (.string ((rd_T38 ((rd_T36 l0 ((rd_T42 t101 x10_2).f1)).f1) ((rd_T42 t101 x10_2).f2)).f1)) ∧ w'.cell? ⟨gb127, 2, none⟩ = some (.int .i64 ((rd_T38 ((rd_T36 l0 ((rd_T42 t101 x10_2).f1)).f1) ((rd_T42 t101 x10_2).f2)).f2)) ∧ w'.cell? ⟨gb127, 3, none⟩ = some (.int .i64 ((rd_T38 ((rd_T36 l0 ((rd_T42 t101 x10_2).f1)).f1) ((rd_T42 t101 x10_2).f2)).f3)) ∧ w'.cell? ⟨gb127, 4, none⟩ = some (.int .i64 ((rd_T38 ((rd_T36 l0 ((rd_T42 t101 x10_2).f1)).f1) ((rd_T42 t101 x10_2).f2)).f4)) ∧ w'.cell? ⟨gb127, 5, none⟩ = some (.int .i64 ((rd_T38 ((rd_T36 l0 ((rd_T42 t101 x10_2).f1)).f1) ((rd_T42 t101 x10_2).f2)).f5)) ∧ w'.cell? ⟨gb122, 0, none⟩ = some (.string ((rd_T42 t101 x10_2).f0)) ∧ w'.cell? ⟨gb122, 1, none⟩ = some (.int .i64 ((rd_T42 t101 x10_2).f1)) ∧ w'.cell? ⟨gb122, 2, none⟩ = some (.int .i64 ((rd_T42 t101 x10_2).f2)) ∧ w'.cell? ⟨gb122, 3, none⟩ = some (.int .i64 ((rd_T42 t101 x10_2).f3)) ∧ w'.cell? ⟨gb122, 4, none⟩ = some (.int .i64 ((rd_T42 t101 x10_2).f4))) (ds := []) (bm 28 0) (by kernel_rfl) rfl rfl ⟨(blk_cell BK127.out 0).trans rfl, (blk_cell BK127.out 1).trans rfl, (blk_cell BK127.out 2).trans rfl, (blk_cell BK127.out 3).trans rfl, (blk_cell BK127.out 4).trans rfl, (blk_cell BK127.out 5).trans rfl, (blk_cell BK122.out 0).trans rfl, (blk_cell BK122.out 1).trans rfl, (blk_cell BK122.out 2).trans rfl, (blk_cell BK122.out 3).trans rfl, (blk_cell BK122.out 4).trans rfl⟩ (fun hHeld => ?_); refine with_tabW gangwaylaw18_ResolveJust.tab27 gangwaylaw18_ResolveJust.bits27 (fun HT_ HW_ => ?_)
       generalize w112.drew = w113 at HO_3 BK106 BK122 BK127 HB hHeld ⊢
       refine pure_ (i := 0) (N := some 155) (v := ?_) (a' := ?_) (bm 28 1) rfl rfl (any_of HT_.out (by kernel_rfl)) (fun _ _ _ h => h) (Or.inl ⟨by rfl, ?_⟩) ?_ ?_
       rotate_left
       ·
        intro w'
        go_simp
        with_reducible rfl
       rotate_left
       ·
        simp only [pz]
        rfl
       refine pure_ (i := 2) (N := some 157) (v := ?_) (a' := ?_) (bm 28 5) rfl rfl (any_of HT_.out (by kernel_rfl)) (fun _ _ _ h => h) (Or.inl ⟨by rfl, ?_⟩) ?_ ?_
       rotate_left
       ·
        intro w'
        go_simp
        with_reducible rfl
       rotate_left
       ·
        simp only [pz]
        rfl
       refine take_ (i := 1) (N := some 156) (v := ?_) (a' := ?_) (bm 28 7) rfl rfl (take_ofW HT_.out HW_.out (by kernel_rfl)) (fun _ _ _ h => h) (Or.inl ⟨by rfl, ?_⟩) hHeld ?_ ?_
       rotate_left
       ·
        rintro w' ⟨s0, s1, s2, s3, s4, s5, s6, s7, s8, s9, s10⟩
        go_simp
        with_reducible rfl
       rotate_left
       ·
        simp only [pz]
        rfl
       refine take_ (i := 3) (N := some 158) (v := ?_) (a' := ?_) (bm 28 15) rfl rfl (take_ofW HT_.out HW_.out (by kernel_rfl)) (fun _ _ _ h => h) (Or.inl ⟨by rfl, ?_⟩) hHeld ?_ ?_
       rotate_left
       ·
        rintro w' ⟨s0, s1, s2, s3, s4, s5, s6, s7, s8, s9, s10⟩
        go_simp
        with_reducible rfl
       rotate_left
       ·
        simp only [pz]
        rfl
       refine pure_ (i := 4) (N := some 159) (v := ?_) (a' := ?_) (bm 28 31) rfl rfl (any_of HT_.out (by kernel_rfl)) (fun _ _ _ h => h) (Or.inl ⟨by rfl, ?_⟩) ?_ ?_
       rotate_left
       ·
        intro w'
        go_simp
        with_reducible rfl
       rotate_left
       ·
        simp only [pz]
        rfl
       refine pure_ (i := 5) (N := some 160) (v := ?_) (a' := ?_) (bm 28 63) rfl rfl (any_of HT_.out (by kernel_rfl)) (fun _ _ _ h => h) (Or.inl ⟨by rfl, ?_⟩) ?_ ?_
       rotate_left
       ·
        intro w'
        go_simp
        with_reducible rfl
       rotate_left
       ·
        simp only [pz]
        rfl
       refine pure_ (i := 6) (N := some 161) (v := ?_) (a' := ?_) (bm 28 127) rfl rfl (any_of HT_.out (by kernel_rfl)) (fun _ _ _ h => h) (Or.inl ⟨by rfl, ?_⟩) ?_ ?_
       rotate_left
       ·
        intro w'
        go_simp
        with_reducible rfl
       rotate_left
       ·
        simp only [pz]
        rfl
       refine take_ (i := 7) (N := some 162) (v := ?_) (a' := ?_) (bm 28 255) rfl rfl (take_ofW HT_.out HW_.out (by kernel_rfl)) (fun _ _ _ h => h) (Or.inl ⟨by rfl, ?_⟩) hHeld ?_ ?_
       rotate_left
       ·
        rintro w' ⟨s0, s1, s2, s3, s4, s5, s6, s7, s8, s9, s10⟩
        go_simp
        with_reducible rfl
       rotate_left
       ·
        simp only [pz]
        rfl
       refine pure_ (i := 8) (N := some 163) (v := ?_) (a' := ?_) (bm 28 511) rfl rfl (any_of HT_.out (by kernel_rfl)) (fun _ _ _ h => h) (Or.inl ⟨by rfl, ?_⟩) ?_ ?_
       rotate_left
       ·
        intro w'
        go_simp
        with_reducible rfl
       rotate_left
       ·
        simp only [pz]
        rfl
       refine pure_ (i := 9) (N := some 164) (v := ?_) (a' := ?_) (bm 28 1023) rfl rfl (any_of HT_.out (by kernel_rfl)) (fun _ _ _ h => h) (Or.inl ⟨by rfl, ?_⟩) ?_ ?_
       rotate_left
       ·
        intro w'
        go_simp
        with_reducible rfl
       rotate_left
       ·
        simp only [pz]
        rfl
       refine pure_ (i := 10) (N := some 165) (v := ?_) (a' := ?_) (bm 28 2047) rfl rfl (any_of HT_.out (by kernel_rfl)) (fun _ _ _ h => h) (Or.inl ⟨by rfl, ?_⟩) ?_ ?_
       rotate_left
       ·
        intro w'
        go_simp
        with_reducible rfl
       rotate_left
       ·
        simp only [pz]
        rfl
       refine pure_ (i := 11) (N := some 166) (v := ?_) (a' := ?_) (bm 28 4095) rfl rfl (any_of HT_.out (by kernel_rfl)) (fun _ _ _ h => h) (Or.inl ⟨by rfl, ?_⟩) ?_ ?_
       rotate_left
       ·
        intro w'
        go_simp
        with_reducible rfl
       rotate_left
       ·
        simp only [pz]
        rfl
       refine pure_ (i := 13) (N := some 168) (v := ?_) (a' := ?_) (bm 28 12287) rfl rfl (any_of HT_.out (by kernel_rfl)) (fun _ _ _ h => h) (Or.inl ⟨by rfl, ?_⟩) ?_ ?_
       rotate_left
       ·
        intro w'
        go_simp
        with_reducible rfl
       rotate_left
       ·
        simp only [pz]
        rfl
       refine take_ (i := 12) (N := some 167) (v := ?_) (a' := ?_) (bm 28 16383) rfl rfl (take_ofW HT_.out HW_.out (by kernel_rfl)) (fun _ _ _ h => h) (Or.inl ⟨by rfl, ?_⟩) hHeld ?_ ?_
       rotate_left
       ·
        rintro w' ⟨s0, s1, s2, s3, s4, s5, s6, s7, s8, s9, s10⟩
        go_simp
        with_reducible rfl
       rotate_left
       ·
        simp only [pz]
        rfl
       refine take_ (i := 14) (N := some 169) (v := ?_) (a' := ?_) (bm 28 32767) rfl rfl (take_ofW HT_.out HW_.out (by kernel_rfl)) (fun _ _ _ h => h) (Or.inl ⟨by rfl, ?_⟩) hHeld ?_ ?_
       rotate_left
       ·
        rintro w' ⟨s0, s1, s2, s3, s4, s5, s6, s7, s8, s9, s10⟩
        go_simp
        with_reducible rfl
       rotate_left
       ·
        simp only [pz]
        rfl
       refine pure_ (i := 15) (N := some 170) (v := ?_) (a' := ?_) (bm 28 65535) rfl rfl (any_of HT_.out (by kernel_rfl)) (fun _ _ _ h => h) (Or.inl ⟨by rfl, ?_⟩) ?_ ?_
       rotate_left
       ·
        intro w'
        go_simp
        with_reducible rfl
       rotate_left
       ·
        simp only [pz]
        rfl
       refine pure_ (i := 16) (N := some 171) (v := ?_) (a' := ?_) (bm 28 131071) rfl rfl (any_of HT_.out (by kernel_rfl)) (fun _ _ _ h => h) (Or.inl ⟨by rfl, ?_⟩) ?_ ?_
       rotate_left
       ·
        intro w'
        go_simp
        with_reducible rfl
       rotate_left
       ·
        simp only [pz]
        rfl
       refine pure_ (i := 17) (N := some 172) (v := ?_) (a' := ?_) (bm 28 262143) rfl rfl (any_of HT_.out (by kernel_rfl)) (fun _ _ _ h => h) (Or.inl ⟨by rfl, ?_⟩) ?_ ?_
       rotate_left
       ·
        intro w'
        go_simp
        with_reducible rfl
       rotate_left
       ·
        simp only [pz]
        rfl
       refine pure_ (i := 18) (N := some 173) (v := ?_) (a' := ?_) (bm 28 524287) rfl rfl (any_of HT_.out (by kernel_rfl)) (fun _ _ _ h => h) (Or.inl ⟨by rfl, ?_⟩) ?_ ?_
       rotate_left
       ·
        intro w'
        go_simp
        with_reducible rfl
       rotate_left
       ·
        simp only [pz]
        rfl
       refine pure_ (i := 21) (N := some 176) (v := ?_) (a' := ?_) (bm 28 2621439) rfl rfl (any_of HT_.out (by kernel_rfl)) (fun _ _ _ h => h) (Or.inl ⟨by rfl, ?_⟩) ?_ ?_
       rotate_left
       ·
        intro w'
        go_simp
        with_reducible rfl
       rotate_left
       ·
        simp only [pz]
        rfl
       refine pure_ (i := 22) (N := some 177) (v := ?_) (a' := ?_) (bm 28 6815743) rfl rfl (any_of HT_.out (by kernel_rfl)) (fun _ _ _ h => h) (Or.inl ⟨by rfl, ?_⟩) ?_ ?_
       rotate_left
       ·
        intro w'
        go_simp
        with_reducible rfl
       rotate_left
       ·
        simp only [pz]
        rfl
       refine take_ (i := 19) (N := some 174) (v := ?_) (a' := ?_) (bm 28 7340031) rfl rfl (take_ofW HT_.out HW_.out (by kernel_rfl)) (fun _ _ _ h => h) (Or.inl ⟨by rfl, ?_⟩) hHeld ?_ ?_
       rotate_left
       ·
        rintro w' ⟨s0, s1, s2, s3, s4, s5, s6, s7, s8, s9, s10⟩
        go_simp
        with_reducible rfl
       rotate_left
       ·
        simp only [pz]
        rfl
       refine pure_ (i := 20) (N := some 175) (v := ?_) (a' := ?_) (bm 28 8388607) rfl rfl (any_of HT_.out (by kernel_rfl)) (fun _ _ _ h => h) (Or.inl ⟨by rfl, ?_⟩) ?_ ?_
       rotate_left
       ·
        intro w'
        go_simp
        with_reducible rfl
       rotate_left
       ·
        simp only [pz]
        rfl
       refine take_ (i := 23) (N := some 178) (v := ?_) (a' := ?_) (bm 28 16777215) rfl rfl (take_ofW HT_.out HW_.out (by kernel_rfl)) (fun _ _ _ h => h) (Or.inl ⟨by rfl, ?_⟩) hHeld ?_ ?_
       rotate_left
       ·
        rintro w' ⟨s0, s1, s2, s3, s4, s5, s6, s7, s8, s9, s10⟩
        go_simp
        with_reducible rfl
       rotate_left
       ·
        simp only [pz]
        rfl
       refine one_ (i := 24) (N := some 179) (bm 28 33554431) rfl rfl (one_of HT_.out (by kernel_rfl)) (by decide) (fun K hK => ?_)
       refine goes_ Try.func12 (by kernel_rfl) rfl #[.slice (some ad125) l0.length c0, .string ((rd_T42 t101 x10_2).f0)] (by rfl) rfl rfl (by simp only [List.map_toArray, List.map_cons, List.map_nil]; try rfl) ?_
       with_reducible refine (gangwaylaw18_strong.calls kj78 _ _ l0 ((rd_T42 t101 x10_2).f0) t128 _ ?side1 ?side2 A102.out).mono ?_
       (case side1 => exact Kd.C_o (Kd.C_below HR0.out HB.out))
       (case side2 => exact HC0.out)
       rintro e w114 ⟨rfl, hb⟩
       refine ⟨_, rfl, ?_⟩
       have n0_ := am (Kd.R_below (Kd.R_o HO_3.out) hb)
       have n1_ := am (blk_below (blk_o BK106.out) hb)
       have n2_ := am (blk_below (blk_o BK122.out) hb)
       have n3_ := am (blk_below (blk_o BK127.out) hb)
       have n4_ := am (below_step (by exact bl_g HB.out) hb)
       clear HO_3
       clear BK106
       clear BK122
       clear BK127
       clear HB
       have HO_3 := n0_
       have BK106 := n1_
       have BK122 := n2_
       have BK127 := n3_
       have HB := n4_
       clear n0_ n1_ n2_ n3_ n4_
       (try clear hb)
       (try clear hb2)
       (try clear hk)
       (try clear hi)
       refine hK.out _ _ ⟨(blk_cell BK127.out 0).trans rfl, (blk_cell BK127.out 1).trans rfl, (blk_cell BK127.out 2).trans rfl, (blk_cell BK127.out 3).trans rfl, (blk_cell BK127.out 4).trans rfl, (blk_cell BK127.out 5).trans rfl, (blk_cell BK122.out 0).trans rfl, (blk_cell BK122.out 1).trans rfl, (blk_cell BK122.out 2).trans rfl, (blk_cell BK122.out 3).trans rfl, (blk_cell BK122.out 4).trans rfl⟩ (fun hHeld => ?_)
       clear hK K
       refine norm_ (a' := ?_) ?_ ?_
       rotate_left
       ·
        show Act.put _ (some 179) _ = _
        simp only [pz]
        rfl
       refine pure_ (i := 25) (N := some 180) (v := ?_) (a' := ?_) (bm 28 67108863) rfl rfl (any_of HT_.out (by kernel_rfl)) (fun _ _ _ h => h) (Or.inl ⟨by rfl, ?_⟩) ?_ ?_
       rotate_left
       ·
        intro w'
        go_simp
        with_reducible rfl
       rotate_left
       ·
        simp only [pz]
        rfl
       refine pure_ (i := 26) (N := some 181) (v := ?_) (a' := ?_) (bm 28 134217727) rfl rfl (any_of HT_.out (by kernel_rfl)) (fun _ _ _ h => h) (Or.inl ⟨by rfl, ?_⟩) ?_ ?_
       rotate_left
       ·
        intro w'
        go_simp
        with_reducible rfl
       rotate_left
       ·
        simp only [pz]
        rfl
       refine pure_ (i := 27) (N := some 182) (v := ?_) (a' := ?_) (bm 28 268435455) rfl rfl (any_of HT_.out (by kernel_rfl)) (fun _ _ _ h => h) (Or.inl ⟨by rfl, ?_⟩) ?_ ?_
       rotate_left
       ·
        intro w'
        go_simp
        with_reducible rfl
       rotate_left
       ·
        simp only [pz]
        rfl
       refine done_ (done_of HT_.out (by kernel_rfl)) ?_
       try go_wp2
       go_roundg kj78
       case measure => have := HK1.out; have := HK2.out; have := HJ78.out; omega
       case rel => exact ⟨(wrap64 (x10_2 + 1)), (by first | rfl | (simp; done) | (simp [*]; done)), H', ⟨by have := HK1.out; have := HK2.out; have := HJ78.out; omega⟩, ⟨by (with_reducible repeat (first | apply Kd.R_alloc | apply Kd.R_drewN | apply Kd.R_drew)); exact Kd.R_mono HO_3.out (fun _ hk => trivial)⟩, ⟨by (with_reducible repeat (first | refine blk_drewN ?_ _ | refine blk_drew ?_ | refine blk_alloc ?_ _)); exact BK106.out⟩, ⟨by exact bl_g HB.out⟩⟩
end Go.Proofs.Ytibkcnlcmempgaa.G
end
