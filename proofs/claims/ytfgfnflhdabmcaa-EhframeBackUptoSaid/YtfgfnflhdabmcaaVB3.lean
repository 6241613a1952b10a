/- Lemmas and contracts, one text behind the other: what the row of this claim needs; no conditions beyond those that each theorem names. -/
import Derived.Test.YtfgfnflhdabmcaaVB2
set_option linter.unusedVariables false
set_option linter.unusedSimpArgs false
set_option maxRecDepth 100000
section
namespace Go.Proofs.Ytfgfnflhdabmcaa.G
open Go.RowKit Go.Proofs.YtfgfnflhdabmcaaW.PrintWords Go.Proofs.YtfgfnflhdabmcaaW.PrintLast Go.Proofs.YtfgfnflhdabmcaaW.PrintMore
attribute [local go_sem] max2_int min2_int max_two min_two max_three min_three max_four min_four
def cfa_Write.l0 : Nat → List Int → List (S105) → Int → Int → Option (List Int × Int)
  | 0, _, _, _, _ => none
  | k + 1, x4, x10, x11, x12 => if x12 < x11 then (if 0 ≤ x12 then (if x12 < (x10.length : Int) then ((cfa_Op_may.f ((rd_T105 x10 x12).f0) ((rd_T105 x10 x12).f1) ((rd_T105 x10 x12).f2)).bind fun t103 => (if t103 = true then ((cfa_Op_bytes.f k ((rd_T105 x10 x12).f0) ((rd_T105 x10 x12).f1) ((rd_T105 x10 x12).f2)).bind fun t104 => (if x4.length + t104.length < 140737488355328 then (cfa_Write.l0 k (x4 ++ t104) x10 x11 (wrap64 (x12 + 1))) else (none))) else (some (([] : List Int), 130)))) else (none)) else (none)) else (some (x4, 0))
def cfa_Write.f (k : Nat) (l0 : List (S105)) : Option (List Int × Int) := if (l0.length : Int) > 4000 then (some (([] : List Int), 6)) else (cfa_Write.l0 k ([] : List Int) l0 (l0.length : Int) 0)
theorem cfa_Write.mono_l : ∀ k, (∀ y0 y1 y2 y3, LeO (cfa_Write.l0 k y0 y1 y2 y3) (cfa_Write.l0 (k + 1) y0 y1 y2 y3))
  | 0 => fun _ _ _ _ r h => by simp [cfa_Write.l0] at h
  | k + 1 => by
    have ih0 := cfa_Write.mono_l k
    · intro y0 y1 y2 y3
      unfold cfa_Write.l0
      repeat' first
      | (with_reducible exact ih0 _ _ _ _)
      | (with_reducible exact cfa_Op_bytes.mono _ _ _ _)
      | (with_reducible exact LeO.refl _)
      | (with_reducible exact LeO.none _)
      | (with_reducible refine LeO.ite ?_ ?_)
      | (with_reducible refine LeO.bind ?_ (fun _ => ?_))
      | exact ih0 _ _ _ _
      | exact cfa_Op_bytes.mono _ _ _ _
      | exact LeO.none _
      | refine LeO.ite ?_ ?_
      | refine LeO.bind ?_ (fun _ => ?_)
theorem cfa_Write.mono : ∀ a0 k, LeO (cfa_Write.f k a0) (cfa_Write.f (k + 1) a0) := by
 intro a0 k
 have ih0 := cfa_Write.mono_l k
 unfold cfa_Write.f
 repeat' first
     | (with_reducible exact ih0 _ _ _ _)
     | (with_reducible exact cfa_Op_bytes.mono _ _ _ _)
     | (with_reducible exact LeO.refl _)
     | (with_reducible exact LeO.none _)
     | (with_reducible refine LeO.ite ?_ ?_)
     | (with_reducible refine LeO.bind ?_ (fun _ => ?_))
     | exact ih0 _ _ _ _
     | exact cfa_Op_bytes.mono _ _ _ _
     | exact LeO.none _
     | refine LeO.ite ?_ ?_
     | refine LeO.bind ?_ (fun _ => ?_)
set_option maxHeartbeats 8000000 in
theorem cfa_Write.calls (k : Nat) (A0 : Option Addr) (c0 : Nat) (l0 : List (S105)) (r1 : List Int) (r2 : Int) (w : World) (hr0 : Kd.C k105 w A0 l0.length l0) (hc0 : l0.length ≤ c0) (h : cfa_Write.f k l0 = some (r1, r2)) :
    Calls Try.prog 23 #[.slice A0 l0.length c0] w fun e w' => ∃ v0_ : Value, e = .returned (.tuple #[v0_, .int .i64 r2]) ∧ Kd.R (Kd.int .u8) 5 w' w.heap.size (fun _ => True) v0_ r1 ∧ Below w.heap.size w w' := by
 have hu105 := Try.underlying105
 have HR0 := am hr0
 have HC0 := am hc0
 clear hr0 hc0
 have HB := am (Below.refl w.heap.size w)
 have H : (if (l0.length : Int) > 4000 then (some (([] : List Int), 6)) else (cfa_Write.l0 k ([] : List Int) l0 (l0.length : Int) 0)) = some (r1, r2) := h
 clear h
 by_cases c2 : (l0.length : Int) > 4000
 ·
  rw [if_pos c2] at H
  have c2b0 : decide (4000 < (l0.length : Int)) = true := decide_eq_true c2
  have c2b1 : decide (4000 < l0.length) = true := decide_eq_true (by omega)
  clear c2
  simp only [Option.some.injEq, Prod.mk.injEq] at H
  obtain ⟨rfl, rfl⟩ := H
  go_enter Try.func23, Try.ntmps23
  go_wp2
  go_ret2
  exact ⟨_, rfl, by first | exact Kd.R_nil _ _ _ _ _ | exact Kd.N_nil _ _ _ _ _, by exact bl_g HB.out⟩
 rw [if_neg c2] at H
 have c2b0 : decide (4000 < (l0.length : Int)) = false := decide_eq_false c2
 have c2b1 : decide (4000 < l0.length) = false := decide_eq_false (by omega)
 clear c2
 have H' := am H
 clear H
 go_enter Try.func23, Try.ntmps23
 go_wp2
 go_loopg [4, 12] k (fun kq v4 v12 w' => ∃ (x4_1 : List Int) (x12_1 : Int), v12 = .int .i64 x12_1 ∧ Aside0 (cfa_Write.l0 kq x4_1 l0 (l0.length : Int) x12_1 = some (r1, r2)) ∧ Aside0 (kq ≤ k) ∧ Aside0 (Kd.R (Kd.int .u8) 5 w' w.heap.size (fun _ => True) v4 x4_1) ∧ Aside0 (Below w.heap.size w w'))
 case atStart => exact ⟨(([] : List Int)), (0), (by first | rfl | (simp; done) | (simp [*]; done)), H', ⟨Nat.le_refl _⟩, ⟨by first | exact Kd.R_nil _ _ _ _ _ | exact Kd.N_nil _ _ _ _ _⟩, ⟨by exact bl_g HB.out⟩⟩
 case round =>
  clear H'
  try clear c2
  try clear c2b0
  try clear c2b1
  try clear p2
  obtain ⟨x4_1, x12_1, rfl, HA, HK1, HO_4, HB⟩ := hrel
  cases gk with
  | zero => exact absurd HA.out (by simp [cfa_Write.l0])
  | succ k1 =>
   have H := HA.out
   clear HA
   simp only [cfa_Write.l0] at H
   by_cases c3 : x12_1 < (l0.length : Int)
   rotate_left
   ·
    rw [if_neg c3] at H
    have c3b0 : decide (x12_1 < (l0.length : Int)) = false := decide_eq_false c3
    clear c3
    simp only [Option.some.injEq, Prod.mk.injEq] at H
    obtain ⟨rfl, rfl⟩ := H
    go_wp2
    go_ret2
    exact ⟨_, rfl, by (with_reducible repeat (first | apply Kd.R_alloc | apply Kd.R_drewN | apply Kd.R_drew)); exact HO_4.out, by exact bl_g HB.out⟩
   rw [if_pos c3] at H
   have c3b0 : decide (x12_1 < (l0.length : Int)) = true := decide_eq_true c3
   clear c3
   by_cases c4 : 0 ≤ x12_1
   rotate_left
   ·
    rw [if_neg c4] at H
    exact absurd H (by simp)
   rw [if_pos c4] at H
   have c4b0 : decide (0 ≤ x12_1) = true := decide_eq_true c4
   clear c4
   by_cases c5 : x12_1 < (l0.length : Int)
   rotate_left
   ·
    rw [if_neg c5] at H
    exact absurd H (by simp)
   rw [if_pos c5] at H
   have c5b0 : decide (x12_1 < (l0.length : Int)) = true := decide_eq_true c5
   clear c5
   replace H := Option.bind_eq_some_iff.mp H
   obtain ⟨t103, A60, H⟩ := H
   replace H : (if t103 = true then ((cfa_Op_bytes.f k1 ((rd_T105 l0 x12_1).f0) ((rd_T105 l0 x12_1).f1) ((rd_T105 l0 x12_1).f2)).bind fun t104 => (if x4_1.length + t104.length < 140737488355328 then (cfa_Write.l0 k1 (x4_1 ++ t104) l0 (l0.length : Int) (wrap64 (x12_1 + 1))) else (none))) else (some (([] : List Int), 130))) = some (r1, r2) := H
   have A6 := am A60
   clear A60
   by_cases c7 : t103 = true
   rotate_left
   ·
    replace c7 := Bool.eq_false_iff.mpr c7
    subst c7
    replace H : (some (([] : List Int), 130)) = some (r1, r2) := by rw [if_neg (show ¬ (false = true) by decide)] at H; exact H
    simp only [Option.some.injEq, Prod.mk.injEq] at H
    obtain ⟨rfl, rfl⟩ := H
    have p101 : 0 ≤ (x12_1 : Int) := od
    have q101 : x12_1 < (l0.length : Int) := od
    obtain ⟨ad101, e101, hx101_0, hx101_1, hx101_2⟩ := at_T105 HR0.out x12_1 p101 q101
    cases e101
    replace hx101_0 := oc HB.out hx101_0
    replace hx101_1 := oc HB.out hx101_1
    replace hx101_2 := oc HB.out hx101_2
    replace p101 := eq_true p101
    replace q101 := eq_true q101
    go_wp2_with (first | ((with_reducible refine gate_dst (N := 6) rfl ?_); refine box_event ?hg (N := 6) ?hd (cs := #[.int .i64 0, .int .i64 0, .int .i64 0]) (t := 105) ?hr ?_; (case hd => rfl); (case hg => rfl); (case hr => go_simp; try rfl); intro gb102 hg w17 hbox hb; refine mv4 (am (Kd.R_below (Kd.R_o HO_4.out) hb)) (am (below_step (by exact bl_o HB.out) hb)) (am (hbox)) (lei (by rw [hg]; exact (below_size (by exact bl_o HB.out)) : w.heap.size ≤ gb102)) ?_; clear HO_4 HB; intro HO_4 HB BK102 GW102; have GE102 := GW102; clear hb hbox hg; obtain ⟨hcz18_0, hcz18_1, hcz18_2, hfz18_0, hfz18_1, hfz18_2⟩ := cells3 BK102.out) | ((with_reducible refine gate_callee (f := 58) rfl ?_); refine goesL_ (some 17) rfl rfl Try.func58 (by kernel_rfl) rfl #[.agg #[.int .i64 ((rd_T105 l0 x12_1).f0), .int .i64 ((rd_T105 l0 x12_1).f1), .int .i64 ((rd_T105 l0 x12_1).f2)]] rfl (by simp only [ml]; try rfl) ?_; (with_reducible refine (cfa_Op_may.calls ((rd_T105 l0 x12_1).f0) ((rd_T105 l0 x12_1).f1) ((rd_T105 l0 x12_1).f2) false _ A6.out).mono ?_); rintro e w19 ⟨rfl, hb⟩; refine ⟨_, rfl, ?_⟩; refine mv3 (am (Kd.R_below (Kd.R_o (Kd.R_mono (Kd.R_far (p := ⟨gb102, 2, none⟩) (Kd.R_far (p := ⟨gb102, 1, none⟩) (Kd.R_far (p := ⟨gb102, 0, none⟩) (Kd.R_types HO_4.out BK102.out (by decide)) (fun _ hk => hk.2) (.int .i64 ((rd_T105 l0 x12_1).f0))) (fun _ hk => hk.2) (.int .i64 ((rd_T105 l0 x12_1).f1))) (fun _ hk => hk.2) (.int .i64 ((rd_T105 l0 x12_1).f2))) (fun _ h_ => h_.1))) hb)) (am (blk_below (g := gb102) (o := .cells #[.int .i64 ((rd_T105 l0 x12_1).f0), .int .i64 ((rd_T105 l0 x12_1).f1), .int .i64 ((rd_T105 l0 x12_1).f2)] 105 (0, 0)) (bps BK102.out rfl) hb)) (am (below_step (by exact bl_g HB.out) hb)) ?_; clear HO_4 BK102 HB; intro HO_4 BK102 HB))
    go_ret2
    exact ⟨_, rfl, by first | exact Kd.R_nil _ _ _ _ _ | exact Kd.N_nil _ _ _ _ _, by exact bl_g HB.out⟩
   subst c7
   replace H : ((cfa_Op_bytes.f k1 ((rd_T105 l0 x12_1).f0) ((rd_T105 l0 x12_1).f1) ((rd_T105 l0 x12_1).f2)).bind fun t104 => (if x4_1.length + t104.length < 140737488355328 then (cfa_Write.l0 k1 (x4_1 ++ t104) l0 (l0.length : Int) (wrap64 (x12_1 + 1))) else (none))) = some (r1, r2) := by rw [if_pos rfl] at H; exact H
   replace H := Option.bind_eq_some_iff.mp H
   obtain ⟨t104, A80, H⟩ := H
   replace H : (if x4_1.length + t104.length < 140737488355328 then (cfa_Write.l0 k1 (x4_1 ++ t104) l0 (l0.length : Int) (wrap64 (x12_1 + 1))) else (none)) = some (r1, r2) := H
   have A8 := am A80
   clear A80
   by_cases c9 : x4_1.length + t104.length < 140737488355328
   rotate_left
   ·
    rw [if_neg c9] at H
    exact absurd H (by simp)
   rw [if_pos c9] at H
   have LMc9 := am c9
   clear c9
   obtain ⟨y107, hy107⟩ : ∃ y_ : List Int, y_ = (x4_1 ++ t104) := ⟨_, rfl⟩
   replace H : (cfa_Write.l0 k1 y107 l0 (l0.length : Int) (wrap64 (x12_1 + 1))) = some (r1, r2) := by first | (rw [hy107]; with_reducible exact H) | (have H2_ := (Option.bind_some _ _).symm.trans H; rw [hy107]; with_reducible exact H2_)
   have Ny107 := am hy107
   clear hy107
   have H' := am H
   clear H
   have p101 : 0 ≤ (x12_1 : Int) := od
   have q101 : x12_1 < (l0.length : Int) := od
   obtain ⟨ad101, e101, hx101_0, hx101_1, hx101_2⟩ := at_T105 HR0.out x12_1 p101 q101
   cases e101
   replace hx101_0 := oc HB.out hx101_0
   replace hx101_1 := oc HB.out hx101_1
   replace hx101_2 := oc HB.out hx101_2
   replace p101 := eq_true p101
   replace q101 := eq_true q101
   go_wp2_with (first | ((with_reducible refine gate_dst (N := 6) rfl ?_); refine box_event ?hg (N := 6) ?hd (cs := #[.int .i64 0, .int .i64 0, .int .i64 0]) (t := 105) ?hr ?_; (case hd => rfl); (case hg => rfl); (case hr => go_simp; try rfl); intro gb102 hg w10 hbox hb; refine mv4 (am (Kd.R_below (Kd.R_o HO_4.out) hb)) (am (below_step (by exact bl_o HB.out) hb)) (am (hbox)) (lei (by rw [hg]; exact (below_size (by exact bl_o HB.out)) : w.heap.size ≤ gb102)) ?_; clear HO_4 HB; intro HO_4 HB BK102 GW102; have GE102 := GW102; clear hb hbox hg; obtain ⟨hcz11_0, hcz11_1, hcz11_2, hfz11_0, hfz11_1, hfz11_2⟩ := cells3 BK102.out) | ((with_reducible refine gate_callee (f := 58) rfl ?_); refine goesL_ (some 17) rfl rfl Try.func58 (by kernel_rfl) rfl #[.agg #[.int .i64 ((rd_T105 l0 x12_1).f0), .int .i64 ((rd_T105 l0 x12_1).f1), .int .i64 ((rd_T105 l0 x12_1).f2)]] rfl (by simp only [ml]; try rfl) ?_; (with_reducible refine (cfa_Op_may.calls ((rd_T105 l0 x12_1).f0) ((rd_T105 l0 x12_1).f1) ((rd_T105 l0 x12_1).f2) true _ A6.out).mono ?_); rintro e w12 ⟨rfl, hb⟩; refine ⟨_, rfl, ?_⟩; refine mv3 (am (Kd.R_below (Kd.R_o (Kd.R_mono (Kd.R_far (p := ⟨gb102, 2, none⟩) (Kd.R_far (p := ⟨gb102, 1, none⟩) (Kd.R_far (p := ⟨gb102, 0, none⟩) (Kd.R_types HO_4.out BK102.out (by decide)) (fun _ hk => hk.2) (.int .i64 ((rd_T105 l0 x12_1).f0))) (fun _ hk => hk.2) (.int .i64 ((rd_T105 l0 x12_1).f1))) (fun _ hk => hk.2) (.int .i64 ((rd_T105 l0 x12_1).f2))) (fun _ h_ => h_.1))) hb)) (am (blk_below (g := gb102) (o := .cells #[.int .i64 ((rd_T105 l0 x12_1).f0), .int .i64 ((rd_T105 l0 x12_1).f1), .int .i64 ((rd_T105 l0 x12_1).f2)] 105 (0, 0)) (bps BK102.out rfl) hb)) (am (below_step (by exact bl_g HB.out) hb)) ?_; clear HO_4 BK102 HB; intro HO_4 BK102 HB; obtain ⟨hcz13_0, hcz13_1, hcz13_2, hfz13_0, hfz13_1, hfz13_2⟩ := cells3 BK102.out) | ((with_reducible refine gate_callee (f := 59) rfl ?_); refine goesL_ (some 21) rfl rfl Try.func59 (by kernel_rfl) rfl #[.agg #[.int .i64 ((rd_T105 l0 x12_1).f0), .int .i64 ((rd_T105 l0 x12_1).f1), .int .i64 ((rd_T105 l0 x12_1).f2)]] rfl (by simp only [ml]; try rfl) ?_; (with_reducible refine (cfa_Op_bytes.calls k1 ((rd_T105 l0 x12_1).f0) ((rd_T105 l0 x12_1).f1) ((rd_T105 l0 x12_1).f2) t104 _ A8.out).mono ?_); rintro e w14 ⟨v105, rfl, ho0, hb⟩; refine ⟨_, rfl, ?_⟩; refine mv4 (am (Kd.R_elder' (Kd.R_o HO_4.out) (Kd.R_base ho0) hb)) (am (Kd.R_lower (Kd.R_new' ho0 (Kd.R_lt (Kd.R_o HO_4.out))) (below_size (by exact bl_g HB.out)))) (am (blk_below (blk_o BK102.out) hb)) (am (below_step (by exact bl_g HB.out) hb)) ?_; clear HO_4 BK102 HB; intro HO_4 HO106 BK102 HB; obtain ⟨Ao16, co16, eo16⟩ := Kd.R_slice HO106.out; subst eo16) | ((with_reducible refine gate_builtin (b := .append) (xs := #[.tmp 19, .tmp 21]) rfl ?_); at_builtin; refine Kd.R_append_rows (Kd.int .u8) (w0 := w) w.heap.size rfl (.tmp 19) (.tmp 21) 28 5 (.int .u8 0) 1 rfl Try.underlying28 info5 rfl (by decide) (by omega) u4 x4_1 t104 _ _ _ (fun k_ => some k_ ≠ (.slice Ao16 t104.length co16 : Value).ownBlock) (fun _ => False) rfl rfl ?aO ?aR (fun _ _ h => h) (fun _ h => h.elim) ?aF ?aB ?aS ?aL ?_; (case aR => exact Kd.C_o ((Kd.R_reads' HO106.out).2.2)); (case aB => exact (by exact bl_g HB.out)); (case aF => exact (fun k_ hk => Kd.fresh' (Kd.R_lt (Kd.R_o HO106.out)) k_ hk)); (case aO => exact (Kd.R_o (Kd.R_mono HO_4.out (fun _ hk => hk.2)))); (case aS => exact (below_size (by exact bl_g HB.out))); (case aL => have := LMc9.out; omega); intro v108 w15 ho hb hg hat; rw [← Ny107.out] at ho; refine mv4 (am (blk_grown (g := gb102) (o := .cells #[.int .i64 ((rd_T105 l0 x12_1).f0), .int .i64 ((rd_T105 l0 x12_1).f1), .int .i64 ((rd_T105 l0 x12_1).f2)] 105 (0, 0)) (blk_o BK102.out) hg (Kd.R_ne HO_4.out BK102.out (by decide)))) (am (Kd.R_after (ok := (fun _ => True)) (Kd.R_o HO106.out) hg hat)) (am (hb)) (am (ho)) ?_; clear BK102 HO106 HB HO_4; intro BK102 HO106 HB HO109; clear ho hb hg hat))
   go_roundg k1
   case measure => have := HK1.out; omega
   case rel => exact ⟨(y107), (wrap64 (x12_1 + 1)), (by first | rfl | (simp; done) | (simp [*]; done)), H', ⟨by have := HK1.out; omega⟩, ⟨by (with_reducible repeat (first | apply Kd.R_alloc | apply Kd.R_drewN | apply Kd.R_drew)); exact Kd.R_mono HO109.out (fun _ hk => trivial)⟩, ⟨by exact bl_g HB.out⟩⟩
def ehframe_low.f (k : Nat) (a0 : Int) : Option (List Int) := (leb_Put.f k a0 8).bind fun bt101 => (if 4 ≤ (bt101.1.length : Int) then (some (bt101.1.take (4 : Int).toNat)) else (none))
theorem ehframe_low.mono : ∀ a0 k, LeO (ehframe_low.f k a0) (ehframe_low.f (k + 1) a0) := by
 intro a0 k
 unfold ehframe_low.f
 repeat' first
     | (with_reducible exact leb_Put.mono _ _ _)
     | (with_reducible exact LeO.refl _)
     | (with_reducible exact LeO.none _)
     | (with_reducible refine LeO.ite ?_ ?_)
     | (with_reducible refine LeO.bind ?_ (fun _ => ?_))
     | exact leb_Put.mono _ _ _
     | exact LeO.none _
     | refine LeO.ite ?_ ?_
     | refine LeO.bind ?_ (fun _ => ?_)
set_option maxHeartbeats 8000000 in
theorem ehframe_low.calls (k : Nat) (a0 : Int) (r : List Int) (w : World) (h : ehframe_low.f k a0 = some r) :
    Calls Try.prog 26 #[.int .i64 a0] w fun e w' => ∃ v0_ : Value, e = .returned (v0_) ∧ Kd.R (Kd.int .u8) 5 w' w.heap.size (fun _ => True) v0_ r ∧ Below w.heap.size w w' := by
 have HB := am (Below.refl w.heap.size w)
 have H : ((leb_Put.f k a0 8).bind fun bt101 => (if 4 ≤ (bt101.1.length : Int) then (some (bt101.1.take (4 : Int).toNat)) else (none))) = some r := h
 clear h
 replace H := Option.bind_eq_some_iff.mp H
 obtain ⟨⟨t101, t102⟩, A20, H⟩ := H
 replace H : (if 4 ≤ (t101.length : Int) then (some (t101.take (4 : Int).toNat)) else (none)) = some r := H
 have A2 := am A20
 clear A20
 by_cases c3 : 4 ≤ (t101.length : Int)
 rotate_left
 ·
  rw [if_neg c3] at H
  exact absurd H (by simp)
 rw [if_pos c3] at H
 have c3b0 := eq_true c3
 have c3b1 : decide (4 ≤ (t101.length : Int)) = true := decide_eq_true c3
 clear c3
 obtain ⟨y105, hy105⟩ : ∃ y_ : List Int, y_ = (t101.take (4 : Int).toNat) := ⟨_, rfl⟩
 replace H : (some y105) = some r := by first | (rw [hy105]; with_reducible exact H) | (have H2_ := (Option.bind_some _ _).symm.trans H; rw [hy105]; with_reducible exact H2_)
 have Ny105 := am hy105
 clear hy105
 obtain rfl := Option.some.inj H
 go_enter Try.func26, Try.ntmps26
 go_wp2_with (first | ((with_reducible refine gate_callee (f := 40) rfl ?_); refine goesL_ (some 7) rfl rfl Try.func40 (by kernel_rfl) rfl #[.int .i64 a0, .int .i64 8] rfl (by simp only [ml]; try rfl) ?_; (with_reducible refine (leb_Put.calls k a0 8 t101 t102 _ A2.out).mono ?_); rintro e w4 ⟨v103, rfl, ho0, hb⟩; refine ⟨_, rfl, ?_⟩; refine mv2 (am (Kd.R_lower ho0 (below_size (by exact bl_o HB.out)))) (am (below_step (by exact bl_o HB.out) hb)) ?_; clear HB; intro HO104 HB; obtain ⟨Ao5, co5, eo5⟩ := Kd.R_slice HO104.out; subst eo5; have q6 : (4 : Int) ≤ ((t101.length : Int) : Int) := od; obtain ⟨i06, hi06, _, hsz6, _⟩ := info_parts info5; have hcut6 := cut_to (P := Try.prog) 28 5 .i64 Try.underlying28 hi06 Ao5 t101.length co5 4 (by omega) q6 (Kd.R_reads' HO104.out).2.1; have hr6 := Kd.R_take (m := (4 : Int).toNat) HO104.out (by omega); have hy6 : y105.length = (4 : Int).toNat := (by rw [Ny105.out, List.length_take]; omega); rw [← Ny105.out] at hr6; rw [← hy6] at hr6 hcut6; clear hy6 hi06 hsz6 HO104; have HO107 := am hr6; clear hr6; replace q6 := eq_true q6))
 go_ret
 exact ⟨_, rfl, by (with_reducible repeat (first | apply Kd.R_alloc | apply Kd.R_drewN | apply Kd.R_drew)); exact HO107.out, by exact bl_g HB.out⟩
def ehframe_record.l0 : Nat → List Int → Option (List Int)
  | 0, _ => none
  | k + 1, x0 => if ((x0.length : Int) % 8) = 4 then ((ehframe_low.f k (x0.length : Int)).bind fun t101 => (if t101.length + x0.length < 140737488355328 then (some (t101 ++ x0)) else (none))) else (if x0.length < 140737488355328 then (ehframe_record.l0 k (x0 ++ [0])) else (none))
def ehframe_record.f (k : Nat) (l0 : List Int) : Option (List Int) := ehframe_record.l0 k l0
theorem ehframe_record.mono_l : ∀ k, (∀ y0, LeO (ehframe_record.l0 k y0) (ehframe_record.l0 (k + 1) y0))
  | 0 => fun _ r h => by simp [ehframe_record.l0] at h
  | k + 1 => by
    have ih0 := ehframe_record.mono_l k
    · intro y0
      unfold ehframe_record.l0
      repeat' first
      | (with_reducible exact ih0 _)
      | (with_reducible exact ehframe_low.mono _ _)
      | (with_reducible exact LeO.refl _)
      | (with_reducible exact LeO.none _)
      | (with_reducible refine LeO.ite ?_ ?_)
      | (with_reducible refine LeO.bind ?_ (fun _ => ?_))
      | exact ih0 _
      | exact ehframe_low.mono _ _
      | exact LeO.none _
      | refine LeO.ite ?_ ?_
      | refine LeO.bind ?_ (fun _ => ?_)
theorem ehframe_record.mono : ∀ a0 k, LeO (ehframe_record.f k a0) (ehframe_record.f (k + 1) a0) := by
 intro a0 k
 have ih0 := ehframe_record.mono_l k
 unfold ehframe_record.f
 repeat' first
     | (with_reducible exact ih0 _)
     | (with_reducible exact ehframe_low.mono _ _)
     | (with_reducible exact LeO.refl _)
     | (with_reducible exact LeO.none _)
     | (with_reducible refine LeO.ite ?_ ?_)
     | (with_reducible refine LeO.bind ?_ (fun _ => ?_))
     | exact ih0 _
     | exact ehframe_low.mono _ _
     | exact LeO.none _
     | refine LeO.ite ?_ ?_
     | refine LeO.bind ?_ (fun _ => ?_)
set_option maxHeartbeats 8000000 in
theorem ehframe_record.calls (k : Nat) (P0_ : Nat → Prop) (u9000_ : Value) (l0 : List Int) (r : List Int) (w0 w : World) (hB : Below w0.heap.size w0 w) (ho0 : Kd.R (Kd.int .u8) 5 w w0.heap.size P0_ u9000_ l0) (h : ehframe_record.f k l0 = some r) :
    Calls Try.prog 24 #[u9000_] w fun e w' => ∃ v0_ : Value, e = .returned (v0_) ∧ Kd.R (Kd.int .u8) 5 w' w0.heap.size (fun k_ => (P0_ k_ ∨ w.heap.size ≤ k_)) v0_ r ∧ Below w0.heap.size w0 w' ∧ Kept w w' (fun k_ => P0_ k_) := by
 have HO0 := am (show Kd.R (Kd.int .u8) 5 w w0.heap.size (fun k_ => (P0_ k_ ∨ w.heap.size ≤ k_)) u9000_ l0 from Kd.R_mono ho0 (fun k_ hk => (.inl hk)))
 have HK := am (Kept.refl w (fun k_ => P0_ k_))
 have HW0 := am hB.size
 have HB := am hB
 clear hB
 have H : (ehframe_record.l0 k l0) = some r := h
 clear h
 have H' := am H
 clear H
 go_enter Try.func24, Try.ntmps24
 go_wp2
 go_loopg [0] k (fun kq v0 w' => ∃ (x0_1 : List Int), Aside0 (ehframe_record.l0 kq x0_1 = some r) ∧ Aside0 (kq ≤ k) ∧ Aside0 (Kd.R (Kd.int .u8) 5 w' w0.heap.size (fun k_ => (P0_ k_ ∨ w.heap.size ≤ k_)) v0 x0_1) ∧ Aside0 (Kept w w' (fun k_ => P0_ k_)) ∧ Aside0 (Below w0.heap.size w0 w'))
 case atStart => exact ⟨(l0), H', ⟨Nat.le_refl _⟩, ⟨by (with_reducible repeat (first | apply Kd.R_alloc | apply Kd.R_drewN | apply Kd.R_drew)); exact HO0.out⟩, ⟨by repeat (first | (with_reducible first | exact HK.out | apply Kept.alloc | apply Kept.drewN | apply Kept.drew) | exact HK.out)⟩, ⟨by exact bl_g HB.out⟩⟩
 case round =>
  clear H'
  obtain ⟨x0_1, HA, HK1, HO_0, HK, HB⟩ := hrel
  cases gk with
  | zero => exact absurd HA.out (by simp [ehframe_record.l0])
  | succ k1 =>
   have H := HA.out
   clear HA
   simp only [ehframe_record.l0] at H
   by_cases c2 : ((x0_1.length : Int) % 8) = 4
   ·
    rw [if_pos c2] at H
    have c2b0 : (((x0_1.length : Int) % 8) == 4) = true := beq_iff_eq.mpr c2
    have c2b1 : (((x0_1.length : Int) % 8) != 4) = false := bne_eq_false_iff_eq.mpr c2
    clear c2
    replace H := Option.bind_eq_some_iff.mp H
    obtain ⟨t101, A30, H⟩ := H
    replace H : (if t101.length + x0_1.length < 140737488355328 then (some (t101 ++ x0_1)) else (none)) = some r := H
    have A3 := am A30
    clear A30
    by_cases c4 : t101.length + x0_1.length < 140737488355328
    rotate_left
    ·
     rw [if_neg c4] at H
     exact absurd H (by simp)
    rw [if_pos c4] at H
    have LMc4 := am c4
    clear c4
    obtain ⟨y104, hy104⟩ : ∃ y_ : List Int, y_ = (t101 ++ x0_1) := ⟨_, rfl⟩
    replace H : (some y104) = some r := by first | (rw [hy104]; with_reducible exact H) | (have H2_ := (Option.bind_some _ _).symm.trans H; rw [hy104]; with_reducible exact H2_)
    have Ny104 := am hy104
    clear hy104
    obtain rfl := Option.some.inj H
    obtain ⟨Ao5, co5, eo5⟩ := Kd.R_slice HO_0.out
    subst eo5
    go_wp2_with (first | ((with_reducible refine gate_callee (f := 26) rfl ?_); refine goesL_ (some 12) rfl rfl Try.func26 (by kernel_rfl) rfl #[.int .i64 (x0_1.length : Int)] rfl (by simp only [ml]; try rfl) ?_; (with_reducible refine (ehframe_low.calls k1 (x0_1.length : Int) t101 _ A3.out).mono ?_); rintro e w6 ⟨v102, rfl, ho0, hb⟩; refine ⟨_, rfl, ?_⟩; refine mv4 (am (Kd.R_elder' (Kd.R_o HO_0.out) (Kd.R_base ho0) hb)) (am (Kd.R_lower (Kd.R_new' (Kd.R_newM (M := fun k_ => (P0_ k_ ∨ w.heap.size ≤ k_)) ho0 (by first | exact HK.out.1 | exact (show Kept w _ (fun k_ => P0_ k_) from by repeat (first | (with_reducible first | exact HK.out | apply Kept.alloc | apply Kept.drewN | apply Kept.drew) | exact HK.out)).1) (fun k_ h_ => .inr h_)) (Kd.R_lt (Kd.R_o HO_0.out))) (below_size (by exact bl_o HB.out)))) (am (Kept.below (S := (fun k_ => P0_ k_)) (by repeat (first | (with_reducible first | exact HK.out | apply Kept.alloc | apply Kept.drewN | apply Kept.drew) | exact HK.out)) hb)) (am (below_step (by exact bl_o HB.out) hb)) ?_; clear HO_0 HK HB; intro HO_0 HO103 HK HB) | ((with_reducible refine gate_builtin (b := .append) (xs := #[.tmp 12, .tmp 13]) rfl ?_); at_builtin; refine Kd.R_append_rows (Kd.int .u8) (w0 := w0) w0.heap.size rfl (.tmp 12) (.tmp 13) 28 5 (.int .u8 0) 1 rfl Try.underlying28 info5 rfl (by decide) (by omega) v102 t101 x0_1 _ _ _ (fun k_ => (P0_ k_ ∨ w.heap.size ≤ k_) ∧ some k_ ≠ (.slice Ao5 x0_1.length co5 : Value).ownBlock) (fun _ => False) rfl rfl ?aO ?aR (fun _ _ h => h) (fun _ h => h.elim) ?aF ?aB ?aS ?aL ?_; (case aR => exact Kd.C_o ((Kd.R_reads' HO_0.out).2.2)); (case aB => exact (by exact bl_o HB.out)); (case aF => exact (fun k_ hk => ⟨(.inr (Nat.le_trans (by first | exact HK.out.1 | exact (show Kept w _ (fun k_ => P0_ k_) from by repeat (first | (with_reducible first | exact HK.out | apply Kept.alloc | apply Kept.drewN | apply Kept.drew) | exact HK.out)).1) hk)), Kd.fresh' (Kd.R_lt (Kd.R_o HO_0.out)) k_ hk⟩)); (case aO => exact (Kd.R_o (Kd.R_mono HO103.out (fun _ hk => ⟨hk.1.1, hk.2⟩)))); (case aS => exact (below_size (by exact bl_o HB.out))); (case aL => have := LMc4.out; omega); intro v105 w7 ho hb hg hat; rw [← Ny104.out] at ho; refine mv4 (am (Kd.R_after (ok := (fun k_ => (P0_ k_ ∨ w.heap.size ≤ k_))) (Kd.R_o HO_0.out) hg hat)) (am (hb)) (am (Kept.of_grown (S := (fun k_ => P0_ k_)) hg (by repeat (first | (with_reducible first | exact HK.out | apply Kept.alloc | apply Kept.drewN | apply Kept.drew) | exact HK.out)) (fun k_ e_ => (HO103.out.1 k_ e_).1.1))) (am (ho)) ?_; clear HO_0 HB HK HO103; intro HO_0 HB HK HO106; clear ho hb hg hat))
    go_ret
    exact ⟨_, rfl, by (with_reducible repeat (first | apply Kd.R_alloc | apply Kd.R_drewN | apply Kd.R_drew)); exact Kd.R_mono HO106.out (fun _ hk => hk.1), by exact bl_g HB.out, by repeat (first | (with_reducible first | exact HK.out | apply Kept.alloc | apply Kept.drewN | apply Kept.drew) | exact HK.out)⟩
   rw [if_neg c2] at H
   have c2b0 : (((x0_1.length : Int) % 8) == 4) = false := beq_eq_false_iff_ne.mpr c2
   have c2b1 : (((x0_1.length : Int) % 8) != 4) = true := bne_iff_ne.mpr c2
   by_cases c8 : x0_1.length < 140737488355328
   rotate_left
   ·
    rw [if_neg c8] at H
    exact absurd H (by simp)
   rw [if_pos c8] at H
   have LMc8 := am c8
   clear c8
   obtain ⟨y107, hy107⟩ : ∃ y_ : List Int, y_ = (x0_1 ++ [0]) := ⟨_, rfl⟩
   replace H : (ehframe_record.l0 k1 y107) = some r := by first | (rw [hy107]; with_reducible exact H) | (have H2_ := (Option.bind_some _ _).symm.trans H; rw [hy107]; with_reducible exact H2_)
   have Ny107 := am hy107
   clear hy107
   have H' := am H
   clear H
   obtain ⟨Ao9, co9, eo9⟩ := Kd.R_slice HO_0.out
   subst eo9
   go_wp2_with (first | ((with_reducible refine gate_builtin (b := .append) (xs := #[.tmp 7, .tmp 8]) rfl ?_); at_builtin; refine Kd.R_append (Kd.int .u8) (w0 := w0) w0.heap.size rfl (.tmp 7) (.tmp 8) 28 5 (.int .u8 0) 1 rfl Try.underlying28 info5 rfl (by decide) (by omega) (.slice Ao9 x0_1.length co9) x0_1 0 [.int .u8 0] (fun k_ => (P0_ k_ ∨ w.heap.size ≤ k_)) (fun _ => False) rfl rfl ?aP (fun _ hk => hk.elim) ?aF ?aO ?aB ?aS ?aL ?_; (case aP => exact rfl); (case aB => exact (by exact bl_o HB.out)); (case aF => exact (fun k_ hk => (.inr (Nat.le_trans (by first | exact HK.out.1 | exact (show Kept w _ (fun k_ => P0_ k_) from by repeat (first | (with_reducible first | exact HK.out | apply Kept.alloc | apply Kept.drewN | apply Kept.drew) | exact HK.out)).1) hk)))); (case aO => exact (Kd.R_o HO_0.out)); (case aS => exact (below_size (by exact bl_o HB.out))); (case aL => have := LMc8.out; omega); intro v108 w10 ho hb hg hat; rw [← Ny107.out] at ho; refine mv3 (am (hb)) (am (Kept.of_grown (S := (fun k_ => P0_ k_)) hg (by repeat (first | (with_reducible first | exact HK.out | apply Kept.alloc | apply Kept.drewN | apply Kept.drew) | exact HK.out)) (fun k_ e_ => (HO_0.out.1 k_ e_)))) (am (ho)) ?_; clear HB HK HO_0; intro HB HK HO109; clear ho hb hg hat))
   go_roundg k1
   case measure => have := HK1.out; omega
   case rel => exact ⟨(y107), H', ⟨by have := HK1.out; omega⟩, ⟨by (with_reducible repeat (first | apply Kd.R_alloc | apply Kd.R_drewN | apply Kd.R_drew)); exact HO109.out⟩, ⟨by repeat (first | (with_reducible first | exact HK.out | apply Kept.alloc | apply Kept.drewN | apply Kept.drew) | exact HK.out)⟩, ⟨by exact bl_g HB.out⟩⟩
def ehframe_head.f (a0 : Int) : Option (List Int) := some (([0, 0, 0, 0, 1, 122, 82, 0, 1, 120, 16, 1, (a0) % 256] : List Int))
set_option maxHeartbeats 8000000 in
theorem ehframe_head.calls (a0 : Int) (r : List Int) (w : World) (h : ehframe_head.f a0 = some r) :
    Calls Try.prog 25 #[.int .i64 a0] w fun e w' => ∃ v0_ : Value, e = .returned (v0_) ∧ Kd.R (Kd.int .u8) 5 w' w.heap.size (fun _ => True) v0_ r ∧ Below w.heap.size w w' := by
 have HB := am (Below.refl w.heap.size w)
 have H : (some (([0, 0, 0, 0, 1, 122, 82, 0, 1, 120, 16, 1, (a0) % 256] : List Int))) = some r := h
 clear h
 obtain ⟨y101, hy101⟩ : ∃ y_ : List Int, y_ = (([0, 0, 0, 0, 1, 122, 82, 0, 1, 120, 16, 1, (a0) % 256] : List Int)) := ⟨_, rfl⟩
 replace H : (some y101) = some r := by first | (rw [hy101]; with_reducible exact H) | (have H2_ := (Option.bind_some _ _).symm.trans H; rw [hy101]; with_reducible exact H2_)
 have Ny101 := am hy101
 clear hy101
 obtain rfl := Option.some.inj H
 go_enter Try.func25, Try.ntmps25
 go_wp2_with (first | ((with_reducible refine gate_dst (N := 5) rfl ?_); refine Kd.R_lit (Kd.int .u8) _ 5 ?hg (N := 5) ?hd (xs := ([0, 0, 0, 0, 1, 122, 82, 0, 1, 120, 16, 1, (a0) % 256] : List Int)) (inner := [.int .u8 0, .int .u8 0, .int .u8 0, .int .u8 0, .int .u8 1, .int .u8 122, .int .u8 82, .int .u8 0, .int .u8 1, .int .u8 120, .int .u8 16, .int .u8 1, .int .u8 ((a0) % 256)]) (ok := fun _ => True) (okp := fun _ => True) ?hr ?hp (fun _ hk => hk) trivial (Below.refl _ _) (Nat.le_refl _) (by simp) ?_; (case hd => rfl); (case hg => rfl); (case hr => go_simp; try rfl); (case hp => exact (Reps.one (show Kd.M (Kd.int .u8) _ _ _ 0 [.int .u8 0] from rfl) (Reps.one (show Kd.M (Kd.int .u8) _ _ _ 0 [.int .u8 0] from rfl) (Reps.one (show Kd.M (Kd.int .u8) _ _ _ 0 [.int .u8 0] from rfl) (Reps.one (show Kd.M (Kd.int .u8) _ _ _ 0 [.int .u8 0] from rfl) (Reps.one (show Kd.M (Kd.int .u8) _ _ _ 1 [.int .u8 1] from rfl) (Reps.one (show Kd.M (Kd.int .u8) _ _ _ 122 [.int .u8 122] from rfl) (Reps.one (show Kd.M (Kd.int .u8) _ _ _ 82 [.int .u8 82] from rfl) (Reps.one (show Kd.M (Kd.int .u8) _ _ _ 0 [.int .u8 0] from rfl) (Reps.one (show Kd.M (Kd.int .u8) _ _ _ 1 [.int .u8 1] from rfl) (Reps.one (show Kd.M (Kd.int .u8) _ _ _ 120 [.int .u8 120] from rfl) (Reps.one (show Kd.M (Kd.int .u8) _ _ _ 16 [.int .u8 16] from rfl) (Reps.one (show Kd.M (Kd.int .u8) _ _ _ 1 [.int .u8 1] from rfl) (Reps.one (show Kd.M (Kd.int .u8) _ _ _ ((a0) % 256) [.int .u8 ((a0) % 256)] from rfl) (Reps.none _ _))))))))))))))); intro v102 w2 ho3 hb hg_ hnew_; clear hg_ hnew_; (first | rw [← Ny101.out] at ho3 | (simp only [Int.reduceToNat] at ho3; rw [← Ny101.out] at ho3)); refine mv2 (am (Kd.R_lower ho3 (below_size (by exact bl_o HB.out)))) (am (below_step (by exact bl_o HB.out) hb)) ?_; clear HB; intro HO103 HB; clear hb ho3))
 go_ret
 exact ⟨_, rfl, by (with_reducible repeat (first | apply Kd.R_alloc | apply Kd.R_drewN | apply Kd.R_drew)); exact HO103.out, by exact bl_g HB.out⟩
mutual
def ehframe_Write.j0 : Nat → List (S69) → List (S46) → Int → Bool → List Int → Bool → Option (List Int × List Int × Int)
  | 0, _, _, _, _, _, _ => none
  | k + 1, x0, x1, x2, x3, x8, x36 => if x36 = true then (some (([] : List Int), ([] : List Int), 11)) else (if 0 ≤ (x1.length : Int) then (if ((x1.length : Int) : Int).toNat ≤ 35184372088832 then (ehframe_Write.l0 k x1 x2 x3 x8 (List.replicate ((x1.length : Int) : Int).toNat 0) x0 (x0.length : Int) 0) else (none)) else (none))
def ehframe_Write.l0 : Nat → List (S46) → Int → Bool → List Int → List Int → List (S69) → Int → Int → Option (List Int × List Int × Int)
  | 0, _, _, _, _, _, _, _, _ => none
  | k + 1, x1, x2, x3, x8, x9, x40, x41, x42 => if x42 < x41 then (if 0 ≤ x42 then (if x42 < (x40.length : Int) then ((cfa_Write.f k ((rd_T69 x40 x42).f1)).bind fun bt107 => ((ehframe_head.f ((rd_T69 x40 x42).f0)).bind fun t111 => (if t111.length + bt107.1.length < 140737488355328 then ((ehframe_record.f k (t111 ++ bt107.1)).bind fun t117 => (if x8.length + t117.length < 140737488355328 then (ehframe_Write.l1 k x1 x2 x3 (x8 ++ t117) x9 x42 (x8.length : Int) x40 x41 x42 x1 (x1.length : Int) 0 ((rd_T69 x40 x42).f0) ((rd_T69 x40 x42).f1)) else (none))) else (none)))) else (none)) else (none)) else (if x3 = true then ((some (([0, 0, 0, 0] : List Int) : List Int)).bind fun y159 => (if x8.length + y159.length < 140737488355328 then ((some (x8 ++ y159 : List Int)).bind fun y162 => (if (y162.length : Int) > 1048576 then (some (([] : List Int), ([] : List Int), 6)) else (some (y162, x9, 0)))) else (none))) else (if (x8.length : Int) > 1048576 then (some (([] : List Int), ([] : List Int), 6)) else (some (x8, x9, 0))))
def ehframe_Write.l1 : Nat → List (S46) → Int → Bool → List Int → List Int → Int → Int → List (S69) → Int → Int → List (S46) → Int → Int → Int → List (S105) → Option (List Int × List Int × Int)
  | 0, _, _, _, _, _, _, _, _, _, _, _, _, _, _, _ => none
  | k + 1, x1, x2, x3, x8, x9, x12, x14, x40, x41, x42, x63, x64, x65, x107000, x107001 => if x65 < x64 then (if 0 ≤ x65 then (if x65 < (x63.length : Int) then (if ((rd_T46 x63 x65).f0) = x12 then (if x65 < (x9.length : Int) then ((ehframe_low.f k (wrap64 ((wrap64 ((x8.length : Int) + 4)) - x14))).bind fun t126 => ((ehframe_Put.f k x107000 ((rd_T46 x63 x65).f1) (wrap64 ((wrap64 (x2 + (x8.length : Int))) + 8)) 0).bind fun bt129 => (if bt129.2 = 0 then ((ehframe_Put.f k (Go.bits .and .i64 x107000 15) ((rd_T46 x63 x65).f2) 0 0).bind fun bt133 => (if bt133.2 = 0 then ((cfa_Write.f k ((rd_T46 x63 x65).f3)).bind fun bt137 => (if t126.length + bt129.1.length < 140737488355328 then ((some (t126 ++ bt129.1 : List Int)).bind fun y141 => (if y141.length + bt133.1.length < 140737488355328 then ((some (y141 ++ bt133.1 : List Int)).bind fun y144 => (if y144.length < 140737488355328 then ((some (y144 ++ [0] : List Int)).bind fun y147 => (if y147.length + bt137.1.length < 140737488355328 then ((ehframe_record.f k (y147 ++ bt137.1)).bind fun t153 => (if x8.length + t153.length < 140737488355328 then (ehframe_Write.l1 k x1 x2 x3 (x8 ++ t153) (x9.set (x65 : Int).toNat (x8.length : Int)) x12 x14 x40 x41 x42 x63 x64 (wrap64 (x65 + 1)) x107000 x107001) else (none))) else (none))) else (none))) else (none))) else (none))) else (some (([] : List Int), ([] : List Int), 11)))) else (some (([] : List Int), ([] : List Int), 11))))) else (none)) else (ehframe_Write.l1 k x1 x2 x3 x8 x9 x12 x14 x40 x41 x42 x63 x64 (wrap64 (x65 + 1)) x107000 x107001)) else (none)) else (none)) else (ehframe_Write.l0 k x1 x2 x3 x8 x9 x40 x41 (wrap64 (x42 + 1)))
end
def ehframe_Write.f (k : Nat) (l0 : List (S69)) (l1 : List (S46)) (a2 : Int) (a3 : Bool) : Option (List Int × List Int × Int) := (ehframe_Check.f k l0 l1).bind fun t101 => (if t101 = 0 then (if a2 < 0 then (ehframe_Write.j0 k l0 l1 a2 a3 ([] : List Int) true) else (ehframe_Write.j0 k l0 l1 a2 a3 ([] : List Int) (decide (a2 > 576460752303423488)))) else (some (([] : List Int), ([] : List Int), t101)))
theorem ehframe_Write.mono_l : ∀ k, (∀ y0 y1 y2 y3 y4 y5, LeO (ehframe_Write.j0 k y0 y1 y2 y3 y4 y5) (ehframe_Write.j0 (k + 1) y0 y1 y2 y3 y4 y5)) ∧ (∀ y0 y1 y2 y3 y4 y5 y6 y7, LeO (ehframe_Write.l0 k y0 y1 y2 y3 y4 y5 y6 y7) (ehframe_Write.l0 (k + 1) y0 y1 y2 y3 y4 y5 y6 y7)) ∧ (∀ y0 y1 y2 y3 y4 y5 y6 y7 y8 y9 y10 y11 y12 y13 y14, LeO (ehframe_Write.l1 k y0 y1 y2 y3 y4 y5 y6 y7 y8 y9 y10 y11 y12 y13 y14) (ehframe_Write.l1 (k + 1) y0 y1 y2 y3 y4 y5 y6 y7 y8 y9 y10 y11 y12 y13 y14))
  | 0 => ⟨fun _ _ _ _ _ _ r h => by simp [ehframe_Write.j0] at h, fun _ _ _ _ _ _ _ _ r h => by simp [ehframe_Write.l0] at h, fun _ _ _ _ _ _ _ _ _ _ _ _ _ _ _ r h => by simp [ehframe_Write.l1] at h⟩
  | k + 1 => by
    obtain ⟨ih0, ih1, ih2⟩ := ehframe_Write.mono_l k
    refine ⟨?_, ?_, ?_⟩
    · intro y0 y1 y2 y3 y4 y5
      unfold ehframe_Write.j0
      repeat' first
      | (with_reducible exact ih0 _ _ _ _ _ _)
      | (with_reducible exact ih1 _ _ _ _ _ _ _ _)
      | (with_reducible exact ih2 _ _ _ _ _ _ _ _ _ _ _ _ _ _ _)
      | (with_reducible exact cfa_Write.mono _ _)
      | (with_reducible exact ehframe_Check.mono _ _ _)
      | (with_reducible exact ehframe_Put.mono _ _ _ _ _)
      | (with_reducible exact ehframe_low.mono _ _)
      | (with_reducible exact ehframe_record.mono _ _)
      | (with_reducible exact LeO.refl _)
      | (with_reducible exact LeO.none _)
      | (with_reducible refine LeO.ite ?_ ?_)
      | (with_reducible refine LeO.bind ?_ (fun _ => ?_))
      | exact ih0 _ _ _ _ _ _
      | exact ih1 _ _ _ _ _ _ _ _
      | exact ih2 _ _ _ _ _ _ _ _ _ _ _ _ _ _ _
      | exact cfa_Write.mono _ _
      | exact ehframe_Check.mono _ _ _
      | exact ehframe_Put.mono _ _ _ _ _
      | exact ehframe_low.mono _ _
      | exact ehframe_record.mono _ _
      | exact LeO.none _
      | refine LeO.ite ?_ ?_
      | refine LeO.bind ?_ (fun _ => ?_)
    · intro y0 y1 y2 y3 y4 y5 y6 y7
      unfold ehframe_Write.l0
      repeat' first
      | (with_reducible exact ih0 _ _ _ _ _ _)
      | (with_reducible exact ih1 _ _ _ _ _ _ _ _)
      | (with_reducible exact ih2 _ _ _ _ _ _ _ _ _ _ _ _ _ _ _)
      | (with_reducible exact cfa_Write.mono _ _)
      | (with_reducible exact ehframe_Check.mono _ _ _)
      | (with_reducible exact ehframe_Put.mono _ _ _ _ _)
      | (with_reducible exact ehframe_low.mono _ _)
      | (with_reducible exact ehframe_record.mono _ _)
      | (with_reducible exact LeO.refl _)
      | (with_reducible exact LeO.none _)
      | (with_reducible refine LeO.ite ?_ ?_)
      | (with_reducible refine LeO.bind ?_ (fun _ => ?_))
      | exact ih0 _ _ _ _ _ _
      | exact ih1 _ _ _ _ _ _ _ _
      | exact ih2 _ _ _ _ _ _ _ _ _ _ _ _ _ _ _
      | exact cfa_Write.mono _ _
      | exact ehframe_Check.mono _ _ _
      | exact ehframe_Put.mono _ _ _ _ _
      | exact ehframe_low.mono _ _
      | exact ehframe_record.mono _ _
      | exact LeO.none _
      | refine LeO.ite ?_ ?_
      | refine LeO.bind ?_ (fun _ => ?_)
    · intro y0 y1 y2 y3 y4 y5 y6 y7 y8 y9 y10 y11 y12 y13 y14
      unfold ehframe_Write.l1
      repeat' first
      | (with_reducible exact ih0 _ _ _ _ _ _)
      | (with_reducible exact ih1 _ _ _ _ _ _ _ _)
      | (with_reducible exact ih2 _ _ _ _ _ _ _ _ _ _ _ _ _ _ _)
      | (with_reducible exact cfa_Write.mono _ _)
      | (with_reducible exact ehframe_Check.mono _ _ _)
      | (with_reducible exact ehframe_Put.mono _ _ _ _ _)
      | (with_reducible exact ehframe_low.mono _ _)
      | (with_reducible exact ehframe_record.mono _ _)
      | (with_reducible exact LeO.refl _)
      | (with_reducible exact LeO.none _)
      | (with_reducible refine LeO.ite ?_ ?_)
      | (with_reducible refine LeO.bind ?_ (fun _ => ?_))
      | exact ih0 _ _ _ _ _ _
      | exact ih1 _ _ _ _ _ _ _ _
      | exact ih2 _ _ _ _ _ _ _ _ _ _ _ _ _ _ _
      | exact cfa_Write.mono _ _
      | exact ehframe_Check.mono _ _ _
      | exact ehframe_Put.mono _ _ _ _ _
      | exact ehframe_low.mono _ _
      | exact ehframe_record.mono _ _
      | exact LeO.none _
      | refine LeO.ite ?_ ?_
      | refine LeO.bind ?_ (fun _ => ?_)
theorem ehframe_Write.mono : ∀ a0 a1 a2 a3 k, LeO (ehframe_Write.f k a0 a1 a2 a3) (ehframe_Write.f (k + 1) a0 a1 a2 a3) := by
 intro a0 a1 a2 a3 k
 obtain ⟨ih0, ih1, ih2⟩ := ehframe_Write.mono_l k
 unfold ehframe_Write.f
 repeat' first
     | (with_reducible exact ih0 _ _ _ _ _ _)
     | (with_reducible exact ih1 _ _ _ _ _ _ _ _)
     | (with_reducible exact ih2 _ _ _ _ _ _ _ _ _ _ _ _ _ _ _)
     | (with_reducible exact cfa_Write.mono _ _)
     | (with_reducible exact ehframe_Check.mono _ _ _)
     | (with_reducible exact ehframe_Put.mono _ _ _ _ _)
     | (with_reducible exact ehframe_low.mono _ _)
     | (with_reducible exact ehframe_record.mono _ _)
     | (with_reducible exact LeO.refl _)
     | (with_reducible exact LeO.none _)
     | (with_reducible refine LeO.ite ?_ ?_)
     | (with_reducible refine LeO.bind ?_ (fun _ => ?_))
     | exact ih0 _ _ _ _ _ _
     | exact ih1 _ _ _ _ _ _ _ _
     | exact ih2 _ _ _ _ _ _ _ _ _ _ _ _ _ _ _
     | exact cfa_Write.mono _ _
     | exact ehframe_Check.mono _ _ _
     | exact ehframe_Put.mono _ _ _ _ _
     | exact ehframe_low.mono _ _
     | exact ehframe_record.mono _ _
     | exact LeO.none _
     | refine LeO.ite ?_ ?_
     | refine LeO.bind ?_ (fun _ => ?_)
set_option maxHeartbeats 8000000 in
theorem ehframe_Write.calls (k : Nat) (A0 : Option Addr) (c0 : Nat) (l0 : List (S69)) (A1 : Option Addr) (c1 : Nat) (l1 : List (S46)) (a2 : Int) (a3 : Bool) (r1 : List Int) (r2 : List Int) (r3 : Int) (w : World) (hr0 : Kd.C k69 w A0 l0.length l0) (hc0 : l0.length ≤ c0) (hr1 : Kd.C k46 w A1 l1.length l1) (hc1 : l1.length ≤ c1) (h : ehframe_Write.f k l0 l1 a2 a3 = some (r1, r2, r3)) :
    Calls Try.prog 9 #[.slice A0 l0.length c0, .slice A1 l1.length c1, .int .i64 a2, .bool a3] w fun e w' => ∃ v0_ v1_ : Value, e = .returned (.tuple #[v0_, v1_, .int .i64 r3]) ∧ Kd.R (Kd.int .u8) 5 w' w.heap.size (fun _ => True) v0_ r1 ∧ Kd.R (Kd.int .i64) 3 w' w.heap.size (fun _ => True) v1_ r2 ∧ Below w.heap.size w w' := by
 have hu69 := Try.underlying69
 have hu46 := Try.underlying46
 have HR0 := am hr0
 have HC0 := am hc0
 clear hr0 hc0
 have HR1 := am hr1
 have HC1 := am hc1
 clear hr1 hc1
 have HB := am (Below.refl w.heap.size w)
 have H : ((ehframe_Check.f k l0 l1).bind fun t101 => (if t101 = 0 then (if a2 < 0 then (ehframe_Write.j0 k l0 l1 a2 a3 ([] : List Int) true) else (ehframe_Write.j0 k l0 l1 a2 a3 ([] : List Int) (decide (a2 > 576460752303423488)))) else (some (([] : List Int), ([] : List Int), t101)))) = some (r1, r2, r3) := h
 clear h
 replace H := Option.bind_eq_some_iff.mp H
 obtain ⟨t101, A50, H⟩ := H
 replace H : (if t101 = 0 then (if a2 < 0 then (ehframe_Write.j0 k l0 l1 a2 a3 ([] : List Int) true) else (ehframe_Write.j0 k l0 l1 a2 a3 ([] : List Int) (decide (a2 > 576460752303423488)))) else (some (([] : List Int), ([] : List Int), t101))) = some (r1, r2, r3) := H
 have A5 := am A50
 clear A50
 by_cases c6 : t101 = 0
 rotate_left
 ·
  rw [if_neg c6] at H
  have c6b0 : (t101 == 0) = false := beq_eq_false_iff_ne.mpr c6
  have c6b1 : (t101 != 0) = true := bne_iff_ne.mpr c6
  simp only [Option.some.injEq, Prod.mk.injEq] at H
  obtain ⟨rfl, rfl, rfl⟩ := H
  go_enter Try.func9, Try.ntmps9
  go_wp2_with (first | ((with_reducible refine gate_callee (f := 12) rfl ?_); refine goesL_ (some 27) rfl rfl Try.func12 (by kernel_rfl) rfl #[.slice A0 l0.length c0, .slice A1 l1.length c1] rfl (by simp only [ml]; try rfl) ?_; (with_reducible refine (ehframe_Check.calls k _ _ l0 _ _ l1 t101 _ ?side1 ?side2 ?side3 ?side4 A5.out).mono ?_); (case side1 => exact Kd.C_o HR0.out); (case side2 => exact HC0.out); (case side3 => exact Kd.C_o HR1.out); (case side4 => exact HC1.out); rintro e w127 ⟨rfl, hb⟩; refine ⟨_, rfl, ?_⟩; have n0_ := am (below_step (by exact bl_o HB.out) hb); clear HB; have HB := n0_; clear n0_))
  go_ret3
  exact ⟨_, _, rfl, by first | exact Kd.R_nil _ _ _ _ _ | exact Kd.N_nil _ _ _ _ _, by first | exact Kd.R_nil _ _ _ _ _ | exact Kd.N_nil _ _ _ _ _, by exact bl_g HB.out⟩
 rw [if_pos c6] at H
 have c6b0 : (t101 == 0) = true := beq_iff_eq.mpr c6
 have c6b1 : (t101 != 0) = false := bne_eq_false_iff_eq.mpr c6
 clear c6
 have HC7 := am H
 clear H
 go_enter Try.func9, Try.ntmps9
 go_upto_region 4 with (first | ((with_reducible refine gate_callee (f := 12) rfl ?_); refine goesL_ (some 27) rfl rfl Try.func12 (by kernel_rfl) rfl #[.slice A0 l0.length c0, .slice A1 l1.length c1] rfl (by simp only [ml]; try rfl) ?_; (with_reducible refine (ehframe_Check.calls k _ _ l0 _ _ l1 t101 _ ?side1 ?side2 ?side3 ?side4 A5.out).mono ?_); (case side1 => exact Kd.C_o HR0.out); (case side2 => exact HC0.out); (case side3 => exact Kd.C_o HR1.out); (case side4 => exact HC1.out); rintro e w8 ⟨rfl, hb⟩; refine ⟨_, rfl, ?_⟩; have n0_ := am (below_step (by exact bl_o HB.out) hb); clear HB; have HB := n0_; clear n0_))
 (try simp only [Act.put, List.setIfInBounds_toArray, List.set_cons_zero, List.set_cons_succ])
 go_cut [36] (fun v36 wc => ∃ (kq : Nat) (x36_6 : Bool), v36 = .bool x36_6 ∧ Aside0 (ehframe_Write.j0 kq l0 l1 a2 a3 ([] : List Int) x36_6 = some (r1, r2, r3)) ∧ Aside0 (kq ≤ k) ∧ Aside0 (Kd.R (Kd.int .u8) 5 wc w.heap.size (fun _ => True) (.slice none 0 0) ([] : List Int)) ∧ Aside0 (Below w.heap.size w wc))
 case first =>
  have H := HC7.out
  clear HC7
  by_cases c9 : a2 < 0
  ·
   rw [if_pos c9] at H
   have c9b0 : decide (a2 < 0) = true := decide_eq_true c9
   clear c9
   (first | rw [c9b0] | (simp only [i64_w, i32_w]; rw [c9b0]) | skip)
   have H' := am H
   clear H
   go_wp2
   go_meet
   case rel => exact ⟨_, (true), (by first | rfl | (simp; done) | (simp [*]; done)), H', ⟨by first | omega | exact Nat.le_refl _⟩, ⟨by first | exact Kd.R_nil _ _ _ _ _ | exact Kd.N_nil _ _ _ _ _⟩, ⟨by exact bl_g HB.out⟩⟩
  rw [if_neg c9] at H
  have c9b0 : decide (a2 < 0) = false := decide_eq_false c9
  clear c9
  (first | rw [c9b0] | (simp only [i64_w, i32_w]; rw [c9b0]) | skip)
  have H' := am H
  clear H
  go_wp2
  go_meet
  case rel => exact ⟨_, (decide (a2 > 576460752303423488)), (by first | rfl | (simp; done) | (simp [*]; done)), H', ⟨by first | omega | exact Nat.le_refl _⟩, ⟨by first | exact Kd.R_nil _ _ _ _ _ | exact Kd.N_nil _ _ _ _ _⟩, ⟨by exact bl_g HB.out⟩⟩
 case rest =>
  clear HC7
  try clear c1
  try clear p2
  try clear c6
  try clear c6b0
  try clear c6b1
  try clear c9
  try clear c9b0
  obtain ⟨kq, x36_6, rfl, HA, HJ6, HO_8, HB⟩ := hcut
  cases kq with
  | zero => exact absurd HA.out (by simp [ehframe_Write.j0])
  | succ kj6 =>
   have H := HA.out
   clear HA
   simp only [ehframe_Write.j0] at H
   by_cases c10 : x36_6 = true
   ·
    subst c10
    replace H : (some (([] : List Int), ([] : List Int), 11)) = some (r1, r2, r3) := by rw [if_pos rfl] at H; exact H
    simp only [Option.some.injEq, Prod.mk.injEq] at H
    obtain ⟨rfl, rfl, rfl⟩ := H
    go_wp2
    go_ret3
    exact ⟨_, _, rfl, by first | exact Kd.R_nil _ _ _ _ _ | exact Kd.N_nil _ _ _ _ _, by first | exact Kd.R_nil _ _ _ _ _ | exact Kd.N_nil _ _ _ _ _, by exact bl_g HB.out⟩
   replace c10 := Bool.eq_false_iff.mpr c10
   subst c10
   replace H : (if 0 ≤ (l1.length : Int) then (if ((l1.length : Int) : Int).toNat ≤ 35184372088832 then (ehframe_Write.l0 kj6 l1 a2 a3 ([] : List Int) (List.replicate ((l1.length : Int) : Int).toNat 0) l0 (l0.length : Int) 0) else (none)) else (none)) = some (r1, r2, r3) := by rw [if_neg (show ¬ (false = true) by decide)] at H; exact H
   by_cases c11 : 0 ≤ (l1.length : Int)
   rotate_left
   ·
    rw [if_neg c11] at H
    exact absurd H (by simp)
   rw [if_pos c11] at H
   have c11b0 := eq_true c11
   have c11b1 : decide (0 ≤ (l1.length : Int)) = true := decide_eq_true c11
   clear c11
   by_cases c12 : ((l1.length : Int) : Int).toNat ≤ 35184372088832
   rotate_left
   ·
    rw [if_neg c12] at H
    exact absurd H (by simp)
   rw [if_pos c12] at H
   have c12b0 := eq_true c12
   have c12b1 : decide (((l1.length : Int) : Int).toNat ≤ 35184372088832) = true := decide_eq_true c12
   clear c12
   obtain ⟨y102, hy102⟩ : ∃ y_ : List Int, y_ = (List.replicate ((l1.length : Int) : Int).toNat 0) := ⟨_, rfl⟩
   replace H : (ehframe_Write.l0 kj6 l1 a2 a3 ([] : List Int) y102 l0 (l0.length : Int) 0) = some (r1, r2, r3) := by first | (rw [hy102]; with_reducible exact H) | (have H2_ := (Option.bind_some _ _).symm.trans H; rw [hy102]; with_reducible exact H2_)
   have Ny102 := am hy102
   clear hy102
   have H' := am H
   clear H
   go_wp2_with (first | ((with_reducible refine gate_dst (N := 39) rfl ?_); refine Kd.R_make (Kd.int .i64) _ 3 rfl (N := 39) rfl 29 _ _ rfl (l1.length : Int) rfl rfl Try.underlying29 (.int .i64 0) 8 info3 rfl (by decide) (by omega) 0 (ok := fun _ => True) (okp := fun _ => True) rfl (fun _ hk => hk) trivial (od) (Nat.le_trans (Nat.mul_le_mul_right _ (od : (l1.length : Int).toNat ≤ 35184372088832)) (by omega)) (Below.refl _ _) (Nat.le_refl _) ?_; intro v103 w13 ho14 hb hg_ hnew_; clear hg_ hnew_; (first | rw [← Ny102.out] at ho14 | (simp only [Int.reduceToNat] at ho14; rw [← Ny102.out] at ho14)); refine mv3 (am (Kd.R_below (Kd.R_o HO_8.out) hb)) (am (Kd.R_lower ho14 (below_size (by exact bl_o HB.out)))) (am (below_step (by exact bl_o HB.out) hb)) ?_; clear HO_8 HB; intro HO_8 HO104 HB; clear hb ho14))
   go_loopg [8, 9, 42] kj6 (fun kq v8 v9 v42 w' => ∃ (x8_2 : List Int) (x9_2 : List Int) (x42_2 : Int), v42 = .int .i64 x42_2 ∧ Aside0 (ehframe_Write.l0 kq l1 a2 a3 x8_2 x9_2 l0 (l0.length : Int) x42_2 = some (r1, r2, r3)) ∧ Aside0 (kq ≤ kj6) ∧ Aside0 (Kd.R (Kd.int .u8) 5 w' w.heap.size (fun _ => True) v8 x8_2) ∧ Aside0 (Kd.R (Kd.int .i64) 3 w' w.heap.size (fun _ => True) v9 x9_2) ∧ Aside0 (Below w.heap.size w w'))
   case atStart => exact ⟨(([] : List Int)), (y102), (0), (by first | rfl | (simp; done) | (simp [*]; done)), H', ⟨Nat.le_refl _⟩, ⟨by (with_reducible repeat (first | apply Kd.R_alloc | apply Kd.R_drewN | apply Kd.R_drew)); exact HO_8.out⟩, ⟨by (with_reducible repeat (first | apply Kd.R_alloc | apply Kd.R_drewN | apply Kd.R_drew)); exact HO104.out⟩, ⟨by exact bl_g HB.out⟩⟩
   case round =>
    clear H'
    try clear c1
    try clear p2
    try clear c6
    try clear c6b0
    try clear c6b1
    try clear c9
    try clear c9b0
    try clear c10
    try clear c11
    try clear c11b0
    try clear c11b1
    try clear c12
    try clear c12b0
    try clear c12b1
    try clear p2
    obtain ⟨x8_2, x9_2, x42_2, rfl, HA, HK2, HO_8, HO_9, HB⟩ := hrel
    cases gk with
    | zero => exact absurd HA.out (by simp [ehframe_Write.l0])
    | succ k2 =>
     have H := HA.out
     clear HA
     simp only [ehframe_Write.l0] at H
     by_cases c15 : x42_2 < (l0.length : Int)
     rotate_left
     ·
      rw [if_neg c15] at H
      have c15b0 : decide (x42_2 < (l0.length : Int)) = false := decide_eq_false c15
      clear c15
      by_cases c111 : a3 = true
      rotate_left
      ·
       replace c111 := Bool.eq_false_iff.mpr c111
       subst c111
       replace H : (if (x8_2.length : Int) > 1048576 then (some (([] : List Int), ([] : List Int), 6)) else (some (x8_2, x9_2, 0))) = some (r1, r2, r3) := by rw [if_neg (show ¬ (false = true) by decide)] at H; exact H
       by_cases c124 : (x8_2.length : Int) > 1048576
       ·
        rw [if_pos c124] at H
        have c124b0 : decide (1048576 < (x8_2.length : Int)) = true := decide_eq_true c124
        have c124b1 : decide (1048576 < x8_2.length) = true := decide_eq_true (by omega)
        clear c124
        simp only [Option.some.injEq, Prod.mk.injEq] at H
        obtain ⟨rfl, rfl, rfl⟩ := H
        obtain ⟨Ao125, co125, eo125⟩ := Kd.R_slice HO_8.out
        subst eo125
        go_wp2
        go_ret3
        exact ⟨_, _, rfl, by first | exact Kd.R_nil _ _ _ _ _ | exact Kd.N_nil _ _ _ _ _, by first | exact Kd.R_nil _ _ _ _ _ | exact Kd.N_nil _ _ _ _ _, by exact bl_g HB.out⟩
       rw [if_neg c124] at H
       have c124b0 : decide (1048576 < (x8_2.length : Int)) = false := decide_eq_false c124
       have c124b1 : decide (1048576 < x8_2.length) = false := decide_eq_false (by omega)
       clear c124
       simp only [Option.some.injEq, Prod.mk.injEq] at H
       obtain ⟨rfl, rfl, rfl⟩ := H
       obtain ⟨Ao126, co126, eo126⟩ := Kd.R_slice HO_8.out
       subst eo126
       go_wp2
       go_ret3
       exact ⟨_, _, rfl, by (with_reducible repeat (first | apply Kd.R_alloc | apply Kd.R_drewN | apply Kd.R_drew)); exact HO_8.out, by (with_reducible repeat (first | apply Kd.R_alloc | apply Kd.R_drewN | apply Kd.R_drew)); exact HO_9.out, by exact bl_g HB.out⟩
      subst c111
      replace H : ((some (([0, 0, 0, 0] : List Int) : List Int)).bind fun y159 => (if x8_2.length + y159.length < 140737488355328 then ((some (x8_2 ++ y159 : List Int)).bind fun y162 => (if (y162.length : Int) > 1048576 then (some (([] : List Int), ([] : List Int), 6)) else (some (y162, x9_2, 0)))) else (none))) = some (r1, r2, r3) := by rw [if_pos rfl] at H; exact H
      obtain ⟨y159, hy159⟩ : ∃ y_ : List Int, y_ = (([0, 0, 0, 0] : List Int)) := ⟨_, rfl⟩
      replace H : (if x8_2.length + y159.length < 140737488355328 then ((some (x8_2 ++ y159 : List Int)).bind fun y162 => (if (y162.length : Int) > 1048576 then (some (([] : List Int), ([] : List Int), 6)) else (some (y162, x9_2, 0)))) else (none)) = some (r1, r2, r3) := by first | (rw [hy159]; with_reducible exact H) | (have H2_ := (Option.bind_some _ _).symm.trans H; rw [hy159]; with_reducible exact H2_)
      have Ny159 := am hy159
      clear hy159
      by_cases c112 : x8_2.length + y159.length < 140737488355328
      rotate_left
      ·
       rw [if_neg c112] at H
       exact absurd H (by simp)
      rw [if_pos c112] at H
      have LMc112 := am c112
      clear c112
      obtain ⟨y162, hy162⟩ : ∃ y_ : List Int, y_ = (x8_2 ++ y159) := ⟨_, rfl⟩
      replace H : (if (y162.length : Int) > 1048576 then (some (([] : List Int), ([] : List Int), 6)) else (some (y162, x9_2, 0))) = some (r1, r2, r3) := by first | (rw [hy162]; with_reducible exact H) | (have H2_ := (Option.bind_some _ _).symm.trans H; rw [hy162]; with_reducible exact H2_)
      have Ny162 := am hy162
      clear hy162
      by_cases c113 : (y162.length : Int) > 1048576
      ·
       rw [if_pos c113] at H
       have c113b0 : decide (1048576 < (y162.length : Int)) = true := decide_eq_true c113
       have c113b1 : decide (1048576 < y162.length) = true := decide_eq_true (by omega)
       clear c113
       simp only [Option.some.injEq, Prod.mk.injEq] at H
       obtain ⟨rfl, rfl, rfl⟩ := H
       go_wp2_with (first | ((with_reducible refine gate_dst (N := 134) rfl ?_); refine Kd.R_lit (Kd.int .u8) _ 5 ?hg (N := 134) ?hd (xs := ([0, 0, 0, 0] : List Int)) (inner := [.int .u8 0, .int .u8 0, .int .u8 0, .int .u8 0]) (ok := fun _ => True) (okp := fun _ => True) ?hr ?hp (fun _ hk => hk) trivial (Below.refl _ _) (Nat.le_refl _) (by simp) ?_; (case hd => rfl); (case hg => rfl); (case hr => go_simp; try rfl); (case hp => exact (Reps.one (show Kd.M (Kd.int .u8) _ _ _ 0 [.int .u8 0] from rfl) (Reps.one (show Kd.M (Kd.int .u8) _ _ _ 0 [.int .u8 0] from rfl) (Reps.one (show Kd.M (Kd.int .u8) _ _ _ 0 [.int .u8 0] from rfl) (Reps.one (show Kd.M (Kd.int .u8) _ _ _ 0 [.int .u8 0] from rfl) (Reps.none _ _)))))); intro v160 w114 ho115 hb hg_ hnew_; clear hg_ hnew_; (first | rw [← Ny159.out] at ho115 | (simp only [Int.reduceToNat] at ho115; rw [← Ny159.out] at ho115)); refine mv4 (am (Kd.R_elder' (Kd.R_o HO_8.out) (Kd.R_base ho115) hb)) (am (Kd.R_below (Kd.R_o HO_9.out) hb)) (am (Kd.R_lower (Kd.R_new' ho115 (Kd.R_lt (Kd.R_o HO_8.out))) (below_size (by exact bl_o HB.out)))) (am (below_step (by exact bl_o HB.out) hb)) ?_; clear HO_8 HO_9 HB; intro HO_8 HO_9 HO161 HB; clear hb ho115; obtain ⟨Ao117, co117, eo117⟩ := Kd.R_slice HO161.out; subst eo117) | ((with_reducible refine gate_builtin (b := .append) (xs := #[.tmp 133, .tmp 134]) rfl ?_); at_builtin; refine Kd.R_append_rows (Kd.int .u8) (w0 := w) w.heap.size rfl (.tmp 133) (.tmp 134) 28 5 (.int .u8 0) 1 rfl Try.underlying28 info5 rfl (by decide) (by omega) u8 x8_2 y159 _ _ _ (fun k_ => some k_ ≠ (.slice Ao117 y159.length co117 : Value).ownBlock) (fun _ => False) rfl rfl ?aO ?aR (fun _ _ h => h) (fun _ h => h.elim) ?aF ?aB ?aS ?aL ?_; (case aR => exact Kd.C_o ((Kd.R_reads' HO161.out).2.2)); (case aB => exact (by exact bl_o HB.out)); (case aF => exact (fun k_ hk => Kd.fresh' (Kd.R_lt (Kd.R_o HO161.out)) k_ hk)); (case aO => exact (Kd.R_o (Kd.R_mono HO_8.out (fun _ hk => hk.2)))); (case aS => exact (below_size (by exact bl_o HB.out))); (case aL => have := LMc112.out; omega); intro v163 w116 ho hb hg hat; rw [← Ny162.out] at ho; refine mv4 (am (Kd.R_over' (Kd.R_o HO_9.out) (Kd.R_typed (Kd.R_o HO_8.out)) (by decide) hg)) (am (Kd.R_after (ok := (fun _ => True)) (Kd.R_o HO161.out) hg hat)) (am (hb)) (am (ho)) ?_; clear HO_9 HO161 HB HO_8; intro HO_9 HO161 HB HO164; clear ho hb hg hat; obtain ⟨Ao118, co118, eo118⟩ := Kd.R_slice HO164.out; subst eo118))
       go_ret3
       exact ⟨_, _, rfl, by first | exact Kd.R_nil _ _ _ _ _ | exact Kd.N_nil _ _ _ _ _, by first | exact Kd.R_nil _ _ _ _ _ | exact Kd.N_nil _ _ _ _ _, by exact bl_g HB.out⟩
      rw [if_neg c113] at H
      have c113b0 : decide (1048576 < (y162.length : Int)) = false := decide_eq_false c113
      have c113b1 : decide (1048576 < y162.length) = false := decide_eq_false (by omega)
      clear c113
      simp only [Option.some.injEq, Prod.mk.injEq] at H
      obtain ⟨rfl, rfl, rfl⟩ := H
      go_wp2_with (first | ((with_reducible refine gate_dst (N := 134) rfl ?_); refine Kd.R_lit (Kd.int .u8) _ 5 ?hg (N := 134) ?hd (xs := ([0, 0, 0, 0] : List Int)) (inner := [.int .u8 0, .int .u8 0, .int .u8 0, .int .u8 0]) (ok := fun _ => True) (okp := fun _ => True) ?hr ?hp (fun _ hk => hk) trivial (Below.refl _ _) (Nat.le_refl _) (by simp) ?_; (case hd => rfl); (case hg => rfl); (case hr => go_simp; try rfl); (case hp => exact (Reps.one (show Kd.M (Kd.int .u8) _ _ _ 0 [.int .u8 0] from rfl) (Reps.one (show Kd.M (Kd.int .u8) _ _ _ 0 [.int .u8 0] from rfl) (Reps.one (show Kd.M (Kd.int .u8) _ _ _ 0 [.int .u8 0] from rfl) (Reps.one (show Kd.M (Kd.int .u8) _ _ _ 0 [.int .u8 0] from rfl) (Reps.none _ _)))))); intro v160 w119 ho120 hb hg_ hnew_; clear hg_ hnew_; (first | rw [← Ny159.out] at ho120 | (simp only [Int.reduceToNat] at ho120; rw [← Ny159.out] at ho120)); refine mv4 (am (Kd.R_elder' (Kd.R_o HO_8.out) (Kd.R_base ho120) hb)) (am (Kd.R_below (Kd.R_o HO_9.out) hb)) (am (Kd.R_lower (Kd.R_new' ho120 (Kd.R_lt (Kd.R_o HO_8.out))) (below_size (by exact bl_o HB.out)))) (am (below_step (by exact bl_o HB.out) hb)) ?_; clear HO_8 HO_9 HB; intro HO_8 HO_9 HO161 HB; clear hb ho120; obtain ⟨Ao122, co122, eo122⟩ := Kd.R_slice HO161.out; subst eo122) | ((with_reducible refine gate_builtin (b := .append) (xs := #[.tmp 133, .tmp 134]) rfl ?_); at_builtin; refine Kd.R_append_rows (Kd.int .u8) (w0 := w) w.heap.size rfl (.tmp 133) (.tmp 134) 28 5 (.int .u8 0) 1 rfl Try.underlying28 info5 rfl (by decide) (by omega) u8 x8_2 y159 _ _ _ (fun k_ => some k_ ≠ (.slice Ao122 y159.length co122 : Value).ownBlock) (fun _ => False) rfl rfl ?aO ?aR (fun _ _ h => h) (fun _ h => h.elim) ?aF ?aB ?aS ?aL ?_; (case aR => exact Kd.C_o ((Kd.R_reads' HO161.out).2.2)); (case aB => exact (by exact bl_o HB.out)); (case aF => exact (fun k_ hk => Kd.fresh' (Kd.R_lt (Kd.R_o HO161.out)) k_ hk)); (case aO => exact (Kd.R_o (Kd.R_mono HO_8.out (fun _ hk => hk.2)))); (case aS => exact (below_size (by exact bl_o HB.out))); (case aL => have := LMc112.out; omega); intro v163 w121 ho hb hg hat; rw [← Ny162.out] at ho; refine mv4 (am (Kd.R_over' (Kd.R_o HO_9.out) (Kd.R_typed (Kd.R_o HO_8.out)) (by decide) hg)) (am (Kd.R_after (ok := (fun _ => True)) (Kd.R_o HO161.out) hg hat)) (am (hb)) (am (ho)) ?_; clear HO_9 HO161 HB HO_8; intro HO_9 HO161 HB HO164; clear ho hb hg hat; obtain ⟨Ao123, co123, eo123⟩ := Kd.R_slice HO164.out; subst eo123))
      go_ret3
      exact ⟨_, _, rfl, by (with_reducible repeat (first | apply Kd.R_alloc | apply Kd.R_drewN | apply Kd.R_drew)); exact Kd.R_mono HO164.out (fun _ hk => trivial), by (with_reducible repeat (first | apply Kd.R_alloc | apply Kd.R_drewN | apply Kd.R_drew)); exact HO_9.out, by exact bl_g HB.out⟩
     rw [if_pos c15] at H
     have c15b0 : decide (x42_2 < (l0.length : Int)) = true := decide_eq_true c15
     clear c15
     by_cases c16 : 0 ≤ x42_2
     rotate_left
     ·
      rw [if_neg c16] at H
      exact absurd H (by simp)
     rw [if_pos c16] at H
     have c16b0 : decide (0 ≤ x42_2) = true := decide_eq_true c16
     clear c16
     by_cases c17 : x42_2 < (l0.length : Int)
     rotate_left
     ·
      rw [if_neg c17] at H
      exact absurd H (by simp)
     rw [if_pos c17] at H
     have c17b0 : decide (x42_2 < (l0.length : Int)) = true := decide_eq_true c17
     clear c17
     replace H := Option.bind_eq_some_iff.mp H
     obtain ⟨⟨t107, t108⟩, A180, H⟩ := H
     replace H : ((ehframe_head.f ((rd_T69 l0 x42_2).f0)).bind fun t111 => (if t111.length + t107.length < 140737488355328 then ((ehframe_record.f k2 (t111 ++ t107)).bind fun t117 => (if x8_2.length + t117.length < 140737488355328 then (ehframe_Write.l1 k2 l1 a2 a3 (x8_2 ++ t117) x9_2 x42_2 (x8_2.length : Int) l0 (l0.length : Int) x42_2 l1 (l1.length : Int) 0 ((rd_T69 l0 x42_2).f0) ((rd_T69 l0 x42_2).f1)) else (none))) else (none))) = some (r1, r2, r3) := H
     have A18 := am A180
     clear A180
     replace H := Option.bind_eq_some_iff.mp H
     obtain ⟨t111, A190, H⟩ := H
     replace H : (if t111.length + t107.length < 140737488355328 then ((ehframe_record.f k2 (t111 ++ t107)).bind fun t117 => (if x8_2.length + t117.length < 140737488355328 then (ehframe_Write.l1 k2 l1 a2 a3 (x8_2 ++ t117) x9_2 x42_2 (x8_2.length : Int) l0 (l0.length : Int) x42_2 l1 (l1.length : Int) 0 ((rd_T69 l0 x42_2).f0) ((rd_T69 l0 x42_2).f1)) else (none))) else (none)) = some (r1, r2, r3) := H
     have A19 := am A190
     clear A190
     by_cases c20 : t111.length + t107.length < 140737488355328
     rotate_left
     ·
      rw [if_neg c20] at H
      exact absurd H (by simp)
     rw [if_pos c20] at H
     have LMc20 := am c20
     clear c20
     obtain ⟨y114, hy114⟩ : ∃ y_ : List Int, y_ = (t111 ++ t107) := ⟨_, rfl⟩
     replace H : ((ehframe_record.f k2 y114).bind fun t117 => (if x8_2.length + t117.length < 140737488355328 then (ehframe_Write.l1 k2 l1 a2 a3 (x8_2 ++ t117) x9_2 x42_2 (x8_2.length : Int) l0 (l0.length : Int) x42_2 l1 (l1.length : Int) 0 ((rd_T69 l0 x42_2).f0) ((rd_T69 l0 x42_2).f1)) else (none))) = some (r1, r2, r3) := by first | (rw [hy114]; with_reducible exact H) | (have H2_ := (Option.bind_some _ _).symm.trans H; rw [hy114]; with_reducible exact H2_)
     have Ny114 := am hy114
     clear hy114
     replace H := Option.bind_eq_some_iff.mp H
     obtain ⟨t117, A210, H⟩ := H
     replace H : (if x8_2.length + t117.length < 140737488355328 then (ehframe_Write.l1 k2 l1 a2 a3 (x8_2 ++ t117) x9_2 x42_2 (x8_2.length : Int) l0 (l0.length : Int) x42_2 l1 (l1.length : Int) 0 ((rd_T69 l0 x42_2).f0) ((rd_T69 l0 x42_2).f1)) else (none)) = some (r1, r2, r3) := H
     have A21 := am A210
     clear A210
     by_cases c22 : x8_2.length + t117.length < 140737488355328
     rotate_left
     ·
      rw [if_neg c22] at H
      exact absurd H (by simp)
     rw [if_pos c22] at H
     have LMc22 := am c22
     clear c22
     obtain ⟨y120, hy120⟩ : ∃ y_ : List Int, y_ = (x8_2 ++ t117) := ⟨_, rfl⟩
     replace H : (ehframe_Write.l1 k2 l1 a2 a3 y120 x9_2 x42_2 (x8_2.length : Int) l0 (l0.length : Int) x42_2 l1 (l1.length : Int) 0 ((rd_T69 l0 x42_2).f0) ((rd_T69 l0 x42_2).f1)) = some (r1, r2, r3) := by first | (rw [hy120]; with_reducible exact H) | (have H2_ := (Option.bind_some _ _).symm.trans H; rw [hy120]; with_reducible exact H2_)
     have Ny120 := am hy120
     clear hy120
     have H' := am H
     clear H
     have p105 : 0 ≤ (x42_2 : Int) := od
     have q105 : x42_2 < (l0.length : Int) := od
     obtain ⟨ad105, A105_1, c105_1, e105, hx105_0, hx105_1, hl105_1, hi105_1⟩ := at_T69 HR0.out x42_2 p105 q105
     cases e105
     replace hx105_0 := oc HB.out hx105_0
     replace hx105_1 := oc HB.out hx105_1
     have HR105_1 := am hi105_1
     have HC105_1 := am hl105_1
     clear hi105_1 hl105_1
     replace p105 := eq_true p105
     replace q105 := eq_true q105
     go_wp2_with (first | ((with_reducible refine gate_dst (N := 13) rfl ?_); refine box_event ?hg (N := 13) ?hd (cs := #[.int .i64 0, .slice none 0 0]) (t := 69) ?hr ?_; (case hd => rfl); (case hg => rfl); (case hr => go_simp; try rfl); intro gb106 hg w23 hbox hb; refine mv5 (am (Kd.R_below (Kd.R_o HO_8.out) hb)) (am (Kd.R_below (Kd.R_o HO_9.out) hb)) (am (below_step (by exact bl_o HB.out) hb)) (am (hbox)) (lei (by rw [hg]; exact (below_size (by exact bl_o HB.out)) : w.heap.size ≤ gb106)) ?_; clear HO_8 HO_9 HB; intro HO_8 HO_9 HB BK106 GW106; have GE106 := GW106; clear hb hbox hg; obtain ⟨hcz24_0, hcz24_1, hfz24_0, hfz24_1⟩ := cells2 BK106.out; obtain ⟨Ao25, co25, eo25⟩ := Kd.R_slice HO_8.out; subst eo25) | ((with_reducible refine gate_callee (f := 23) rfl ?_); refine goesL_ (some 52) rfl rfl Try.func23 (by kernel_rfl) rfl #[.slice A105_1 ((rd_T69 l0 x42_2).f1).length c105_1] rfl (by simp only [ml]; try rfl) ?_; (with_reducible refine (cfa_Write.calls k2 _ _ ((rd_T69 l0 x42_2).f1) t107 t108 _ ?side1 ?side2 A18.out).mono ?_); (case side1 => exact Kd.C_below HR105_1.out (by exact bl_g HB.out)); (case side2 => exact HC105_1.out); rintro e w26 ⟨v109, rfl, ho0, hb⟩; refine ⟨_, rfl, ?_⟩; refine mv5 (am (Kd.R_elder' (Kd.R_o (Kd.R_mono (Kd.R_far (p := ⟨gb106, 1, none⟩) (Kd.R_far (p := ⟨gb106, 0, none⟩) (Kd.R_types HO_8.out BK106.out (by decide)) (fun _ hk => hk.2) (.int .i64 ((rd_T69 l0 x42_2).f0))) (fun _ hk => hk.2) (.slice A105_1 ((rd_T69 l0 x42_2).f1).length c105_1)) (fun _ h_ => h_.1))) (Kd.R_base ho0) hb)) (am (Kd.R_below (Kd.R_o (Kd.R_mono (Kd.R_far (p := ⟨gb106, 1, none⟩) (Kd.R_far (p := ⟨gb106, 0, none⟩) (Kd.R_types HO_9.out BK106.out (by decide)) (fun _ hk => hk.2) (.int .i64 ((rd_T69 l0 x42_2).f0))) (fun _ hk => hk.2) (.slice A105_1 ((rd_T69 l0 x42_2).f1).length c105_1)) (fun _ h_ => h_.1))) hb)) (am (Kd.R_lower (Kd.R_new' ho0 (Kd.R_lt (Kd.R_o (Kd.R_mono (Kd.R_far (p := ⟨gb106, 1, none⟩) (Kd.R_far (p := ⟨gb106, 0, none⟩) (Kd.R_types HO_8.out BK106.out (by decide)) (fun _ hk => hk.2) (.int .i64 ((rd_T69 l0 x42_2).f0))) (fun _ hk => hk.2) (.slice A105_1 ((rd_T69 l0 x42_2).f1).length c105_1)) (fun _ h_ => h_.1))))) (below_size (by exact bl_g HB.out)))) (am (blk_below (g := gb106) (o := .cells #[.int .i64 ((rd_T69 l0 x42_2).f0), .slice A105_1 ((rd_T69 l0 x42_2).f1).length c105_1] 69 (0, 0)) (bps BK106.out rfl) hb)) (am (below_step (by exact bl_g HB.out) hb)) ?_; clear HO_8 HO_9 BK106 HB; intro HO_8 HO_9 HO110 BK106 HB; obtain ⟨hcz27_0, hcz27_1, hfz27_0, hfz27_1⟩ := cells2 BK106.out) | ((with_reducible refine gate_callee (f := 25) rfl ?_); refine goesL_ (some 58) rfl rfl Try.func25 (by kernel_rfl) rfl #[.int .i64 ((rd_T69 l0 x42_2).f0)] rfl (by simp only [ml]; try rfl) ?_; (with_reducible refine (ehframe_head.calls ((rd_T69 l0 x42_2).f0) t111 _ A19.out).mono ?_); rintro e w28 ⟨v112, rfl, ho0, hb⟩; refine ⟨_, rfl, ?_⟩; refine mv6 (am (Kd.R_elder' (Kd.R_o HO_8.out) (Kd.R_base ho0) hb)) (am (Kd.R_below (Kd.R_o HO_9.out) hb)) (am (Kd.R_elder' (Kd.R_o HO110.out) (Kd.R_base ho0) hb)) (am (Kd.R_lower (Kd.R_new' (Kd.R_new' ho0 (Kd.R_lt (Kd.R_o HO_8.out))) (Kd.R_lt (Kd.R_o HO110.out))) (below_size (by exact bl_g HB.out)))) (am (blk_below (blk_o BK106.out) hb)) (am (below_step (by exact bl_g HB.out) hb)) ?_; clear HO_8 HO_9 HO110 BK106 HB; intro HO_8 HO_9 HO110 HO113 BK106 HB; obtain ⟨Ao30, co30, eo30⟩ := Kd.R_slice HO110.out; subst eo30) | ((with_reducible refine gate_builtin (b := .append) (xs := #[.tmp 58, .tmp 59]) rfl ?_); at_builtin; refine Kd.R_append_rows (Kd.int .u8) (w0 := w) w.heap.size rfl (.tmp 58) (.tmp 59) 28 5 (.int .u8 0) 1 rfl Try.underlying28 info5 rfl (by decide) (by omega) v112 t111 t107 _ _ _ (fun k_ => some k_ ≠ (.slice Ao25 x8_2.length co25 : Value).ownBlock ∧ some k_ ≠ (.slice Ao30 t107.length co30 : Value).ownBlock) (fun _ => False) rfl rfl ?aO ?aR (fun _ _ h => h) (fun _ h => h.elim) ?aF ?aB ?aS ?aL ?_; (case aR => exact Kd.C_o ((Kd.R_reads' HO110.out).2.2)); (case aB => exact (by exact bl_g HB.out)); (case aF => exact (fun k_ hk => ⟨Kd.fresh' (Kd.R_lt (Kd.R_o HO_8.out)) k_ hk, Kd.fresh' (Kd.R_lt (Kd.R_o HO110.out)) k_ hk⟩)); (case aO => exact (Kd.R_o (Kd.R_mono HO113.out (fun _ hk => ⟨hk.1.2, hk.2⟩)))); (case aS => exact (below_size (by exact bl_g HB.out))); (case aL => have := LMc20.out; omega); intro v115 w29 ho hb hg hat; rw [← Ny114.out] at ho; refine mv6 (am (Kd.R_after (ok := (fun k_ => some k_ ≠ (.slice Ao30 t107.length co30 : Value).ownBlock)) (Kd.R_o (Kd.R_mono HO_8.out (fun _ hk => ⟨hk.1.2, hk.2⟩))) hg hat)) (am (Kd.R_over' (Kd.R_o HO_9.out) (Kd.R_typed (Kd.R_o HO113.out)) (by decide) hg)) (am (blk_grown (g := gb106) (o := .cells #[.int .i64 ((rd_T69 l0 x42_2).f0), .slice A105_1 ((rd_T69 l0 x42_2).f1).length c105_1] 69 (0, 0)) (blk_o BK106.out) hg (Kd.R_ne HO113.out BK106.out (by decide)))) (am (Kd.R_after (ok := (fun k_ => some k_ ≠ (.slice Ao25 x8_2.length co25 : Value).ownBlock)) (Kd.R_o (Kd.R_mono HO110.out (fun _ hk => ⟨hk.1.2, hk.2⟩))) hg hat)) (am (hb)) (am (ho)) ?_; clear HO_8 HO_9 BK106 HO110 HB HO113; intro HO_8 HO_9 BK106 HO110 HB HO116; clear ho hb hg hat; obtain ⟨Ao31, co31, eo31⟩ := Kd.R_slice HO116.out; subst eo31) | ((with_reducible refine gate_callee (f := 24) rfl ?_); refine goesL_ (some 61) rfl rfl Try.func24 (by kernel_rfl) rfl #[.slice Ao31 y114.length co31] rfl (by simp only [ml]; try rfl) ?_; (with_reducible refine (ehframe_record.calls k2 (fun k_ => some k_ = (.slice Ao31 y114.length co31 : Value).ownBlock) (.slice Ao31 y114.length co31) y114 t117 w _ ?side1 ?side2 A21.out).mono ?_); (case side1 => repeat (first | (with_reducible first | exact HB.out | apply below_alloc | apply pw_below_drewN | apply below_drew1 | refine below_set ?_ GE106.out) | exact HB.out)); (case side2 => exact Kd.R_tight rfl HO116.out); rintro e w32 ⟨v118, rfl, ho0, hb, hkp⟩; refine ⟨_, rfl, ?_⟩; refine mv6 (am (Kd.R_mono (ok' := fun k_ => some k_ ≠ (.slice Ao30 t107.length co30 : Value).ownBlock ∧ some k_ ≠ (v118 : Value).ownBlock) (Kd.R_keptB (HO_8.out) hkp (fun k_ hk_ hs_ => (hk_.2) hs_)) (fun k_ hk_ => ⟨hk_.1.1, fun e_ => Or.elim (ho0.1 k_ e_.symm) (fun hs_ => hk_.2.1 hs_) (fun hn_ => Nat.not_le.2 hk_.2.2 hn_)⟩))) (am (Kd.R_mono (ok' := fun k_ => True) (Kd.R_keptB ((Kd.R_apart' HO_9.out (Kd.R_typed HO116.out) (by decide))) hkp (fun k_ hk_ hs_ => (hk_.2) hs_)) (fun k_ hk_ => trivial))) (am (blk_kept (blk_o BK106.out) hkp (fun hs_ => (fun e_ => (Kd.R_ne HO116.out BK106.out (by decide)) e_) hs_))) (am (Kd.R_mono (ok' := fun k_ => some k_ ≠ (.slice Ao25 x8_2.length co25 : Value).ownBlock ∧ some k_ ≠ (v118 : Value).ownBlock) (Kd.R_keptB (HO110.out) hkp (fun k_ hk_ hs_ => (hk_.2) hs_)) (fun k_ hk_ => ⟨hk_.1.1, fun e_ => Or.elim (ho0.1 k_ e_.symm) (fun hs_ => hk_.2.1 hs_) (fun hn_ => Nat.not_le.2 hk_.2.2 hn_)⟩))) (am (Kd.R_mono (ok' := fun k_ => some k_ ≠ (.slice Ao25 x8_2.length co25 : Value).ownBlock ∧ some k_ ≠ (.slice Ao30 t107.length co30 : Value).ownBlock) ho0 (fun k_ hk_ => ⟨Or.elim hk_ (fun hs_ => fun e_ => (((HO_8.out).1 k_ e_.symm).2) hs_) (fun hn_ => (Kd.fresh' (Kd.R_lt (Kd.R_o HO_8.out)) k_ hn_)), Or.elim hk_ (fun hs_ => fun e_ => (((HO110.out).1 k_ e_.symm).2) hs_) (fun hn_ => (Kd.fresh' (Kd.R_lt (Kd.R_o HO110.out)) k_ hn_))⟩))) (am (hb)) ?_; clear HO_8 HO_9 BK106 HO110 HB HO116; intro HO_8 HO_9 BK106 HO110 HO119 HB; (try clear hb); (try clear hkp); (try clear ho0); obtain ⟨Ao34, co34, eo34⟩ := Kd.R_slice HO119.out; subst eo34) | ((with_reducible refine gate_builtin (b := .append) (xs := #[.tmp 55, .tmp 61]) rfl ?_); at_builtin; refine Kd.R_append_rows (Kd.int .u8) (w0 := w) w.heap.size rfl (.tmp 55) (.tmp 61) 28 5 (.int .u8 0) 1 rfl Try.underlying28 info5 rfl (by decide) (by omega) (.slice Ao25 x8_2.length co25) x8_2 t117 _ _ _ (fun k_ => some k_ ≠ (.slice Ao30 t107.length co30 : Value).ownBlock ∧ some k_ ≠ (.slice Ao34 t117.length co34 : Value).ownBlock) (fun _ => False) rfl rfl ?aO ?aR (fun _ _ h => h) (fun _ h => h.elim) ?aF ?aB ?aS ?aL ?_; (case aR => exact Kd.C_o ((Kd.R_reads' HO119.out).2.2)); (case aB => exact (by exact bl_g HB.out)); (case aF => exact (fun k_ hk => ⟨Kd.fresh' (Kd.R_lt (Kd.R_o HO110.out)) k_ hk, Kd.fresh' (Kd.R_lt (Kd.R_o HO119.out)) k_ hk⟩)); (case aO => exact (Kd.R_o HO_8.out)); (case aS => exact (below_size (by exact bl_g HB.out))); (case aL => have := LMc22.out; omega); intro v121 w33 ho hb hg hat; rw [← Ny120.out] at ho; refine mv6 (am (Kd.R_over' (Kd.R_o HO_9.out) (Kd.R_typed (Kd.R_o HO_8.out)) (by decide) hg)) (am (blk_grown (g := gb106) (o := .cells #[.int .i64 ((rd_T69 l0 x42_2).f0), .slice A105_1 ((rd_T69 l0 x42_2).f1).length c105_1] 69 (0, 0)) (blk_o BK106.out) hg (Kd.R_ne HO_8.out BK106.out (by decide)))) (am (Kd.R_after (ok := (fun k_ => some k_ ≠ (.slice Ao34 t117.length co34 : Value).ownBlock)) (Kd.R_o (Kd.R_mono HO110.out (fun _ hk => ⟨hk.2, hk.1⟩))) hg hat)) (am (Kd.R_after (ok := (fun k_ => some k_ ≠ (.slice Ao30 t107.length co30 : Value).ownBlock)) (Kd.R_o (Kd.R_mono HO119.out (fun _ hk => ⟨hk.2, hk.1⟩))) hg hat)) (am (hb)) (am (ho)) ?_; clear HO_9 BK106 HO110 HO119 HB HO_8; intro HO_9 BK106 HO110 HO119 HB HO122; clear ho hb hg hat))
     go_loopg [8, 9, 65] k2 (fun kq v8 v9 v65 w' => ∃ (x8_3 : List Int) (x9_3 : List Int) (x65_3 : Int), v65 = .int .i64 x65_3 ∧ Aside0 (ehframe_Write.l1 kq l1 a2 a3 x8_3 x9_3 x42_2 (x8_2.length : Int) l0 (l0.length : Int) x42_2 l1 (l1.length : Int) x65_3 ((rd_T69 l0 x42_2).f0) ((rd_T69 l0 x42_2).f1) = some (r1, r2, r3)) ∧ Aside0 (kq ≤ k2) ∧ Aside0 (Kd.R (Kd.int .u8) 5 w' w.heap.size (fun _ => True) v8 x8_3) ∧ Aside0 (Kd.R (Kd.int .i64) 3 w' w.heap.size (fun _ => True) v9 x9_3) ∧ Aside0 (w'.heap[gb106]? = some (.cells #[.int .i64 ((rd_T69 l0 x42_2).f0), (.slice A105_1 ((rd_T69 l0 x42_2).f1).length c105_1)] 69 (0, 0))) ∧ Aside0 (Below w.heap.size w w'))
     case atStart => exact ⟨(y120), (x9_2), (0), (by first | rfl | (simp; done) | (simp [*]; done)), H', ⟨Nat.le_refl _⟩, ⟨by (with_reducible repeat (first | apply Kd.R_alloc | apply Kd.R_drewN | apply Kd.R_drew)); exact Kd.R_mono HO122.out (fun _ hk => trivial)⟩, ⟨by (with_reducible repeat (first | apply Kd.R_alloc | apply Kd.R_drewN | apply Kd.R_drew)); exact HO_9.out⟩, ⟨by (with_reducible repeat (first | refine blk_drewN ?_ _ | refine blk_drew ?_ | refine blk_alloc ?_ _)); exact BK106.out⟩, ⟨by exact bl_g HB.out⟩⟩
     case round =>
      clear H'
      try clear c1
      try clear p1
      try clear q1
      try clear hx1
      try clear c2
      try clear p2
      try clear c6
      try clear c6b0
      try clear c6b1
      try clear c9
      try clear c9b0
      try clear c10
      try clear p10
      try clear q10
      try clear hx10
      try clear c11
      try clear c11b0
      try clear c11b1
      try clear c12
      try clear c12b0
      try clear c12b1
      try clear c15
      try clear c15b0
      try clear c16
      try clear c16b0
      try clear c17
      try clear c17b0
      try clear c20
      try clear c22
      try clear c23
      try clear c24
      try clear c25
      try clear hcz24_0
      try clear hcz24_1
      try clear hcz27_0
      try clear hcz27_1
      try clear hfz24_0
      try clear hfz24_1
      try clear hfz27_0
      try clear hfz27_1
      try clear hx105_0
      try clear hx105_1
      try clear p105
      try clear p2
      try clear q105
      obtain ⟨x8_3, x9_3, x65_3, rfl, HA, HK3, HO_8, HO_9, BK106, HB⟩ := hrel
      cases gk with
      | zero => exact absurd HA.out (by simp [ehframe_Write.l1])
      | succ k3 =>
       have H := HA.out
       clear HA
       simp only [ehframe_Write.l1] at H
       by_cases c35 : x65_3 < (l1.length : Int)
       rotate_left
       ·
        rw [if_neg c35] at H
        have c35b0 : decide (x65_3 < (l1.length : Int)) = false := decide_eq_false c35
        clear c35
        have H' := am H
        clear H
        go_wp2
        go_roundg k3
        case measure => have := HJ6.out; have := HK2.out; have := HK3.out; omega
        case rel => exact ⟨(x8_3), (x9_3), (wrap64 (x42_2 + 1)), (by first | rfl | (simp; done) | (simp [*]; done)), H', ⟨by have := HJ6.out; have := HK2.out; have := HK3.out; omega⟩, ⟨by (with_reducible repeat (first | apply Kd.R_alloc | apply Kd.R_drewN | apply Kd.R_drew)); exact HO_8.out⟩, ⟨by (with_reducible repeat (first | apply Kd.R_alloc | apply Kd.R_drewN | apply Kd.R_drew)); exact HO_9.out⟩, ⟨by exact bl_g HB.out⟩⟩
       rw [if_pos c35] at H
       have c35b0 : decide (x65_3 < (l1.length : Int)) = true := decide_eq_true c35
       clear c35
       by_cases c36 : 0 ≤ x65_3
       rotate_left
       ·
        rw [if_neg c36] at H
        exact absurd H (by simp)
       rw [if_pos c36] at H
       have c36b0 : decide (0 ≤ x65_3) = true := decide_eq_true c36
       clear c36
       by_cases c37 : x65_3 < (l1.length : Int)
       rotate_left
       ·
        rw [if_neg c37] at H
        exact absurd H (by simp)
       rw [if_pos c37] at H
       have c37b0 : decide (x65_3 < (l1.length : Int)) = true := decide_eq_true c37
       clear c37
       by_cases c38 : ((rd_T46 l1 x65_3).f0) = x42_2
       rotate_left
       ·
        rw [if_neg c38] at H
        have c38b0 : (((rd_T46 l1 x65_3).f0) == x42_2) = false := beq_eq_false_iff_ne.mpr c38
        have c38b1 : (((rd_T46 l1 x65_3).f0) != x42_2) = true := bne_iff_ne.mpr c38
        have H' := am H
        clear H
        have p123 : 0 ≤ (x65_3 : Int) := od
        have q123 : x65_3 < (l1.length : Int) := od
        obtain ⟨ad123, A123_3, c123_3, e123, hx123_0, hx123_1, hx123_2, hx123_3, hl123_3, hi123_3⟩ := at_T46 HR1.out x65_3 p123 q123
        cases e123
        replace hx123_0 := oc HB.out hx123_0
        replace hx123_1 := oc HB.out hx123_1
        replace hx123_2 := oc HB.out hx123_2
        replace hx123_3 := oc HB.out hx123_3
        have HR123_3 := am hi123_3
        have HC123_3 := am hl123_3
        clear hi123_3 hl123_3
        replace p123 := eq_true p123
        replace q123 := eq_true q123
        go_wp2_with (first | ((with_reducible refine gate_dst (N := 18) rfl ?_); refine box_event ?hg (N := 18) ?hd (cs := #[.int .i64 0, .int .i64 0, .int .i64 0, .slice none 0 0]) (t := 46) ?hr ?_; (case hd => rfl); (case hg => rfl); (case hr => go_simp; try rfl); intro gb124 hg w108 hbox hb; refine mv8 (am (Kd.R_below (Kd.R_o HO_8.out) hb)) (am (Kd.R_below (Kd.R_o HO_9.out) hb)) (am (blk_below (blk_o BK106.out) hb)) (am (below_step (by exact bl_g HB.out) hb)) (am (hbox)) (lei (by rw [hg]; exact (below_size (by exact bl_g HB.out)) : w.heap.size ≤ gb124)) (am ((by rw [hg]; exact Nat.ne_of_lt (blk_lt (g := gb106) (o := .cells #[.int .i64 ((rd_T69 l0 x42_2).f0), .slice A105_1 ((rd_T69 l0 x42_2).f1).length c105_1] 69 (0, 0)) (blk_o BK106.out)) : gb106 ≠ gb124))) (am ((by rw [hg]; exact Nat.ne_of_gt (blk_lt (g := gb106) (o := .cells #[.int .i64 ((rd_T69 l0 x42_2).f0), .slice A105_1 ((rd_T69 l0 x42_2).f1).length c105_1] 69 (0, 0)) (blk_o BK106.out)) : gb124 ≠ gb106))) ?_; clear HO_8 HO_9 BK106 HB; intro HO_8 HO_9 BK106 HB BK124 GW124 NB106_124 NB124_106; have GE124 := GW124; clear hb hbox hg; have hnb109 := NB124_106.out; have hnc109 := NB106_124.out; obtain ⟨hcz110_0, hcz110_1, hcz110_2, hcz110_3, hfz110_0, hfz110_1, hfz110_2, hfz110_3⟩ := cells4 BK124.out))
        go_roundg k3
        case measure => have := HJ6.out; have := HK2.out; have := HK3.out; omega
        case rel => exact ⟨(x8_3), (x9_3), (wrap64 (x65_3 + 1)), (by first | rfl | (simp; done) | (simp [*]; done)), H', ⟨by have := HJ6.out; have := HK2.out; have := HK3.out; omega⟩, ⟨by (with_reducible repeat (first | apply Kd.R_alloc | apply Kd.R_drewN | apply Kd.R_drew)); exact Kd.R_mono (Kd.R_far (p := ⟨gb124, 3, none⟩) (Kd.R_far (p := ⟨gb124, 2, none⟩) (Kd.R_far (p := ⟨gb124, 1, none⟩) (Kd.R_far (p := ⟨gb124, 0, none⟩) (Kd.R_types HO_8.out BK124.out (by decide)) (fun _ hk => hk.2) (.int .i64 ((rd_T46 l1 x65_3).f0))) (fun _ hk => hk.2) (.int .i64 ((rd_T46 l1 x65_3).f1))) (fun _ hk => hk.2) (.int .i64 ((rd_T46 l1 x65_3).f2))) (fun _ hk => hk.2) (.slice A123_3 ((rd_T46 l1 x65_3).f3).length c123_3)) (fun _ hk => trivial)⟩, ⟨by (with_reducible repeat (first | apply Kd.R_alloc | apply Kd.R_drewN | apply Kd.R_drew)); exact Kd.R_mono (Kd.R_far (p := ⟨gb124, 3, none⟩) (Kd.R_far (p := ⟨gb124, 2, none⟩) (Kd.R_far (p := ⟨gb124, 1, none⟩) (Kd.R_far (p := ⟨gb124, 0, none⟩) (Kd.R_types HO_9.out BK124.out (by decide)) (fun _ hk => hk.2) (.int .i64 ((rd_T46 l1 x65_3).f0))) (fun _ hk => hk.2) (.int .i64 ((rd_T46 l1 x65_3).f1))) (fun _ hk => hk.2) (.int .i64 ((rd_T46 l1 x65_3).f2))) (fun _ hk => hk.2) (.slice A123_3 ((rd_T46 l1 x65_3).f3).length c123_3)) (fun _ hk => trivial)⟩, ⟨by (with_reducible repeat (first | refine blk_drewN ?_ _ | refine blk_drew ?_ | refine blk_alloc ?_ _)); refine blk_far ?_ NB106_124.out _; (with_reducible repeat (first | refine blk_drewN ?_ _ | refine blk_drew ?_ | refine blk_alloc ?_ _)); refine blk_far ?_ NB106_124.out _; (with_reducible repeat (first | refine blk_drewN ?_ _ | refine blk_drew ?_ | refine blk_alloc ?_ _)); refine blk_far ?_ NB106_124.out _; (with_reducible repeat (first | refine blk_drewN ?_ _ | refine blk_drew ?_ | refine blk_alloc ?_ _)); refine blk_far ?_ NB106_124.out _; (with_reducible repeat (first | refine blk_drewN ?_ _ | refine blk_drew ?_ | refine blk_alloc ?_ _)); exact BK106.out⟩, ⟨by exact bl_g HB.out⟩⟩
       rw [if_pos c38] at H
       have c38b0 : (((rd_T46 l1 x65_3).f0) == x42_2) = true := beq_iff_eq.mpr c38
       have c38b1 : (((rd_T46 l1 x65_3).f0) != x42_2) = false := bne_eq_false_iff_eq.mpr c38
       clear c38
       by_cases c39 : x65_3 < (x9_3.length : Int)
       rotate_left
       ·
        rw [if_neg c39] at H
        exact absurd H (by simp)
       rw [if_pos c39] at H
       have c39b0 : decide (x65_3 < (x9_3.length : Int)) = true := decide_eq_true c39
       clear c39
       obtain ⟨y125, hy125⟩ : ∃ y_ : List Int, y_ = (x9_3.set (x65_3 : Int).toNat (x8_3.length : Int)) := ⟨_, rfl⟩
       replace H : ((ehframe_low.f k3 (wrap64 ((wrap64 ((x8_3.length : Int) + 4)) - (x8_2.length : Int)))).bind fun t126 => ((ehframe_Put.f k3 ((rd_T69 l0 x42_2).f0) ((rd_T46 l1 x65_3).f1) (wrap64 ((wrap64 (a2 + (x8_3.length : Int))) + 8)) 0).bind fun bt129 => (if bt129.2 = 0 then ((ehframe_Put.f k3 (Go.bits .and .i64 ((rd_T69 l0 x42_2).f0) 15) ((rd_T46 l1 x65_3).f2) 0 0).bind fun bt133 => (if bt133.2 = 0 then ((cfa_Write.f k3 ((rd_T46 l1 x65_3).f3)).bind fun bt137 => (if t126.length + bt129.1.length < 140737488355328 then ((some (t126 ++ bt129.1 : List Int)).bind fun y141 => (if y141.length + bt133.1.length < 140737488355328 then ((some (y141 ++ bt133.1 : List Int)).bind fun y144 => (if y144.length < 140737488355328 then ((some (y144 ++ [0] : List Int)).bind fun y147 => (if y147.length + bt137.1.length < 140737488355328 then ((ehframe_record.f k3 (y147 ++ bt137.1)).bind fun t153 => (if x8_3.length + t153.length < 140737488355328 then (ehframe_Write.l1 k3 l1 a2 a3 (x8_3 ++ t153) y125 x42_2 (x8_2.length : Int) l0 (l0.length : Int) x42_2 l1 (l1.length : Int) (wrap64 (x65_3 + 1)) ((rd_T69 l0 x42_2).f0) ((rd_T69 l0 x42_2).f1)) else (none))) else (none))) else (none))) else (none))) else (none))) else (some (([] : List Int), ([] : List Int), 11)))) else (some (([] : List Int), ([] : List Int), 11))))) = some (r1, r2, r3) := by first | (rw [hy125]; with_reducible exact H) | (have H2_ := (Option.bind_some _ _).symm.trans H; rw [hy125]; with_reducible exact H2_)
       have Ny125 := am hy125
       clear hy125
       replace H := Option.bind_eq_some_iff.mp H
       obtain ⟨t126, A410, H⟩ := H
       replace H : ((ehframe_Put.f k3 ((rd_T69 l0 x42_2).f0) ((rd_T46 l1 x65_3).f1) (wrap64 ((wrap64 (a2 + (x8_3.length : Int))) + 8)) 0).bind fun bt129 => (if bt129.2 = 0 then ((ehframe_Put.f k3 (Go.bits .and .i64 ((rd_T69 l0 x42_2).f0) 15) ((rd_T46 l1 x65_3).f2) 0 0).bind fun bt133 => (if bt133.2 = 0 then ((cfa_Write.f k3 ((rd_T46 l1 x65_3).f3)).bind fun bt137 => (if t126.length + bt129.1.length < 140737488355328 then ((some (t126 ++ bt129.1 : List Int)).bind fun y141 => (if y141.length + bt133.1.length < 140737488355328 then ((some (y141 ++ bt133.1 : List Int)).bind fun y144 => (if y144.length < 140737488355328 then ((some (y144 ++ [0] : List Int)).bind fun y147 => (if y147.length + bt137.1.length < 140737488355328 then ((ehframe_record.f k3 (y147 ++ bt137.1)).bind fun t153 => (if x8_3.length + t153.length < 140737488355328 then (ehframe_Write.l1 k3 l1 a2 a3 (x8_3 ++ t153) y125 x42_2 (x8_2.length : Int) l0 (l0.length : Int) x42_2 l1 (l1.length : Int) (wrap64 (x65_3 + 1)) ((rd_T69 l0 x42_2).f0) ((rd_T69 l0 x42_2).f1)) else (none))) else (none))) else (none))) else (none))) else (none))) else (some (([] : List Int), ([] : List Int), 11)))) else (some (([] : List Int), ([] : List Int), 11)))) = some (r1, r2, r3) := H
       have A41 := am A410
       clear A410
       replace H := Option.bind_eq_some_iff.mp H
       obtain ⟨⟨t129, t130⟩, A420, H⟩ := H
       replace H : (if t130 = 0 then ((ehframe_Put.f k3 (Go.bits .and .i64 ((rd_T69 l0 x42_2).f0) 15) ((rd_T46 l1 x65_3).f2) 0 0).bind fun bt133 => (if bt133.2 = 0 then ((cfa_Write.f k3 ((rd_T46 l1 x65_3).f3)).bind fun bt137 => (if t126.length + t129.length < 140737488355328 then ((some (t126 ++ t129 : List Int)).bind fun y141 => (if y141.length + bt133.1.length < 140737488355328 then ((some (y141 ++ bt133.1 : List Int)).bind fun y144 => (if y144.length < 140737488355328 then ((some (y144 ++ [0] : List Int)).bind fun y147 => (if y147.length + bt137.1.length < 140737488355328 then ((ehframe_record.f k3 (y147 ++ bt137.1)).bind fun t153 => (if x8_3.length + t153.length < 140737488355328 then (ehframe_Write.l1 k3 l1 a2 a3 (x8_3 ++ t153) y125 x42_2 (x8_2.length : Int) l0 (l0.length : Int) x42_2 l1 (l1.length : Int) (wrap64 (x65_3 + 1)) ((rd_T69 l0 x42_2).f0) ((rd_T69 l0 x42_2).f1)) else (none))) else (none))) else (none))) else (none))) else (none))) else (some (([] : List Int), ([] : List Int), 11)))) else (some (([] : List Int), ([] : List Int), 11))) = some (r1, r2, r3) := H
       have A42 := am A420
       clear A420
       by_cases c43 : t130 = 0
       rotate_left
       ·
        rw [if_neg c43] at H
        have c43b0 : (t130 == 0) = false := beq_eq_false_iff_ne.mpr c43
        have c43b1 : (t130 != 0) = true := bne_iff_ne.mpr c43
        simp only [Option.some.injEq, Prod.mk.injEq] at H
        obtain ⟨rfl, rfl, rfl⟩ := H
        have p123 : 0 ≤ (x65_3 : Int) := od
        have q123 : x65_3 < (l1.length : Int) := od
        obtain ⟨ad123, A123_3, c123_3, e123, hx123_0, hx123_1, hx123_2, hx123_3, hl123_3, hi123_3⟩ := at_T46 HR1.out x65_3 p123 q123
        cases e123
        replace hx123_0 := oc HB.out hx123_0
        replace hx123_1 := oc HB.out hx123_1
        replace hx123_2 := oc HB.out hx123_2
        replace hx123_3 := oc HB.out hx123_3
        have HR123_3 := am hi123_3
        have HC123_3 := am hl123_3
        clear hi123_3 hl123_3
        replace p123 := eq_true p123
        replace q123 := eq_true q123
        go_wp2_with (first | ((with_reducible refine gate_dst (N := 18) rfl ?_); refine box_event ?hg (N := 18) ?hd (cs := #[.int .i64 0, .int .i64 0, .int .i64 0, .slice none 0 0]) (t := 46) ?hr ?_; (case hd => rfl); (case hg => rfl); (case hr => go_simp; try rfl); intro gb124 hg w96 hbox hb; refine mv8 (am (Kd.R_below (Kd.R_o HO_8.out) hb)) (am (Kd.R_below (Kd.R_o HO_9.out) hb)) (am (blk_below (blk_o BK106.out) hb)) (am (below_step (by exact bl_g HB.out) hb)) (am (hbox)) (lei (by rw [hg]; exact (below_size (by exact bl_g HB.out)) : w.heap.size ≤ gb124)) (am ((by rw [hg]; exact Nat.ne_of_lt (blk_lt (g := gb106) (o := .cells #[.int .i64 ((rd_T69 l0 x42_2).f0), .slice A105_1 ((rd_T69 l0 x42_2).f1).length c105_1] 69 (0, 0)) (blk_o BK106.out)) : gb106 ≠ gb124))) (am ((by rw [hg]; exact Nat.ne_of_gt (blk_lt (g := gb106) (o := .cells #[.int .i64 ((rd_T69 l0 x42_2).f0), .slice A105_1 ((rd_T69 l0 x42_2).f1).length c105_1] 69 (0, 0)) (blk_o BK106.out)) : gb124 ≠ gb106))) ?_; clear HO_8 HO_9 BK106 HB; intro HO_8 HO_9 BK106 HB BK124 GW124 NB106_124 NB124_106; have GE124 := GW124; clear hb hbox hg; have hnb97 := NB124_106.out; have hnc97 := NB106_124.out; obtain ⟨hcz98_0, hcz98_1, hcz98_2, hcz98_3, hfz98_0, hfz98_1, hfz98_2, hfz98_3⟩ := cells4 BK124.out) | ((with_reducible refine gate_store (t := 46) (p := 18) rfl ?_); refine store_event (t := 46) (p := 18) (v := ?vo_w99) (w1 := ((((w96.setCell ⟨gb124, 0, none⟩ (.int .i64 ((rd_T46 l1 x65_3).f0))).setCell ⟨gb124, 1, none⟩ (.int .i64 ((rd_T46 l1 x65_3).f1))).setCell ⟨gb124, 2, none⟩ (.int .i64 ((rd_T46 l1 x65_3).f2))).setCell ⟨gb124, 3, none⟩ (.slice A123_3 ((rd_T46 l1 x65_3).f3).length c123_3))) ?hg ?ho ?hn ?hr ?_; (case ho => rfl); (case hg => rfl); (case hn => rfl); (case hr => go_simp; try rfl); intro w99 hw; refine mv5 (⟨(by rw [hw]; exact (Kd.R_o (Kd.R_mono (Kd.R_far (p := ⟨gb124, 3, none⟩) (Kd.R_far (p := ⟨gb124, 2, none⟩) (Kd.R_far (p := ⟨gb124, 1, none⟩) (Kd.R_far (p := ⟨gb124, 0, none⟩) (Kd.R_types HO_8.out BK124.out (by decide)) (fun _ hk => hk.2) (.int .i64 ((rd_T46 l1 x65_3).f0))) (fun _ hk => hk.2) (.int .i64 ((rd_T46 l1 x65_3).f1))) (fun _ hk => hk.2) (.int .i64 ((rd_T46 l1 x65_3).f2))) (fun _ hk => hk.2) (.slice A123_3 ((rd_T46 l1 x65_3).f3).length c123_3)) (fun _ hk => trivial))))⟩ : Aside0 (Kd.R (Kd.int .u8) 5 w99 w.heap.size (fun _ => True) u8 x8_3)) (⟨(by rw [hw]; exact (Kd.R_o (Kd.R_mono (Kd.R_far (p := ⟨gb124, 3, none⟩) (Kd.R_far (p := ⟨gb124, 2, none⟩) (Kd.R_far (p := ⟨gb124, 1, none⟩) (Kd.R_far (p := ⟨gb124, 0, none⟩) (Kd.R_types HO_9.out BK124.out (by decide)) (fun _ hk => hk.2) (.int .i64 ((rd_T46 l1 x65_3).f0))) (fun _ hk => hk.2) (.int .i64 ((rd_T46 l1 x65_3).f1))) (fun _ hk => hk.2) (.int .i64 ((rd_T46 l1 x65_3).f2))) (fun _ hk => hk.2) (.slice A123_3 ((rd_T46 l1 x65_3).f3).length c123_3)) (fun _ hk => trivial))))⟩ : Aside0 (Kd.R (Kd.int .i64) 3 w99 w.heap.size (fun _ => True) u9 x9_3)) (⟨(by rw [hw]; exact (by (with_reducible repeat (first | refine blk_drewN ?_ _ | refine blk_drew ?_ | refine blk_alloc ?_ _)); refine blk_far ?_ NB106_124.out _; (with_reducible repeat (first | refine blk_drewN ?_ _ | refine blk_drew ?_ | refine blk_alloc ?_ _)); refine blk_far ?_ NB106_124.out _; (with_reducible repeat (first | refine blk_drewN ?_ _ | refine blk_drew ?_ | refine blk_alloc ?_ _)); refine blk_far ?_ NB106_124.out _; (with_reducible repeat (first | refine blk_drewN ?_ _ | refine blk_drew ?_ | refine blk_alloc ?_ _)); refine blk_far ?_ NB106_124.out _; (with_reducible repeat (first | refine blk_drewN ?_ _ | refine blk_drew ?_ | refine blk_alloc ?_ _)); exact BK106.out))⟩ : Aside0 (w99.heap[gb106]? = some (.cells #[.int .i64 ((rd_T69 l0 x42_2).f0), .slice A105_1 ((rd_T69 l0 x42_2).f1).length c105_1] 69 (0, 0)))) (⟨(by rw [hw]; exact (bps BK124.out rfl))⟩ : Aside0 (w99.heap[gb124]? = some (.cells #[.int .i64 ((rd_T46 l1 x65_3).f0), .int .i64 ((rd_T46 l1 x65_3).f1), .int .i64 ((rd_T46 l1 x65_3).f2), .slice A123_3 ((rd_T46 l1 x65_3).f3).length c123_3] 46 (0, 0)))) (⟨(by rw [hw]; exact (by exact bl_g HB.out))⟩ : Aside0 (Below w.heap.size w w99)) ?_; clear hw HO_8 HO_9 BK106 BK124 HB; intro HO_8 HO_9 BK106 BK124 HB; obtain ⟨hcz100_0, hcz100_1, hcz100_2, hcz100_3, hfz100_0, hfz100_1, hfz100_2, hfz100_3⟩ := cells4 BK124.out; obtain ⟨Ao101, co101, eo101⟩ := Kd.R_slice HO_8.out; subst eo101; have p40 : 0 ≤ (x65_3 : Int) := od; have q40 : (x65_3 : Int) < ((x9_3.length : Int) : Int) := od; obtain ⟨go40, co40, eo40, gb40, gl40, cl40, HG40⟩ := Kd.R_form HO_9.out (by omega); (first | cases eo40 | (injection eo40 with ea_ en_ ec_; (first | subst ea_ | (injection ea_ with ea_; subst ea_)); subst ec_; clear en_)); have GB40 := am gb40; have GG40 := am HG40; clear gb40 gl40 HG40; obtain ⟨hx40_0, hf40_0⟩ := Kd.R_celln 0 HO_9.out (x65_3 : Int) p40 q40; replace p40 := eq_true p40; replace q40 := eq_true q40; obtain ⟨hy102_, hz102_⟩ := Kd.R_celln 0 HO_9.out (x65_3 : Int) (od) (od); have HP102 := Kd.R_putg HO_9.out (x65_3 : Int) (x8_3.length : Int)) | ((with_reducible refine gate_store (t := 3) (p := 78) rfl ?_); refine store_event (t := 3) (p := 78) (v := ?vo_w103) (w1 := (w99.setCell ⟨go40, (x65_3 : Int).toNat, none⟩ (.int .i64 (x8_3.length : Int)))) ?hg ?ho ?hn ?hr ?_; (case ho => rfl); (case hg => rfl); (case hn => rfl); (case hr => go_simp; try rfl); intro w103 hw; have hg : w99.grownBy w103 (some go40) := (by rw [hw]; exact HP102.2); have hp_ : Kd.R (Kd.int .i64) 3 w103 w.heap.size (fun _ => True) (.slice (some ⟨go40, 0, none⟩) x9_3.length co40) y125 := (by rw [hw, Ny125.out]; exact HP102.1); clear HP102; refine mv5 (am (Kd.R_over' (v := (.slice (some ⟨go40, 0, none⟩) x9_3.length co40)) (Kd.R_o HO_8.out) (Kd.R_typed HO_9.out) (by decide) hg)) (am (hp_)) (am (blk_grown (g := gb106) (o := .cells #[.int .i64 ((rd_T69 l0 x42_2).f0), .slice A105_1 ((rd_T69 l0 x42_2).f1).length c105_1] 69 (0, 0)) (blk_o BK106.out) hg (Kd.R_ne HO_9.out BK106.out (by decide)))) (am (blk_grown (g := gb124) (o := .cells #[.int .i64 ((rd_T46 l1 x65_3).f0), .int .i64 ((rd_T46 l1 x65_3).f1), .int .i64 ((rd_T46 l1 x65_3).f2), .slice A123_3 ((rd_T46 l1 x65_3).f3).length c123_3] 46 (0, 0)) (blk_o BK124.out) hg (Kd.R_ne HO_9.out BK124.out (by decide)))) (am ((by rw [hw]; exact below_set (HB.out) GB40.out : Below w.heap.size w w103))) ?_; clear HO_8 HO_9 BK106 BK124 HB; intro HO_8 HO_9 BK106 BK124 HB; clear hg hw hp_) | ((with_reducible refine gate_callee (f := 26) rfl ?_); refine goesL_ (some 84) rfl rfl Try.func26 (by kernel_rfl) rfl #[.int .i64 (wrap64 ((wrap64 ((x8_3.length : Int) + 4)) - (x8_2.length : Int)))] rfl (by simp only [ml]; try rfl) ?_; (with_reducible refine (ehframe_low.calls k3 (wrap64 ((wrap64 ((x8_3.length : Int) + 4)) - (x8_2.length : Int))) t126 _ A41.out).mono ?_); rintro e w104 ⟨v127, rfl, ho0, hb⟩; refine ⟨_, rfl, ?_⟩; refine mv6 (am (Kd.R_elder' (Kd.R_o HO_8.out) (Kd.R_base ho0) hb)) (am (Kd.R_below (Kd.R_o HO_9.out) hb)) (am (Kd.R_lower (Kd.R_new' ho0 (Kd.R_lt (Kd.R_o HO_8.out))) (below_size (by exact bl_g HB.out)))) (am (blk_below (blk_o BK106.out) hb)) (am (blk_below (blk_o BK124.out) hb)) (am (below_step (by exact bl_g HB.out) hb)) ?_; clear HO_8 HO_9 BK106 BK124 HB; intro HO_8 HO_9 HO128 BK106 BK124 HB; obtain ⟨hcz105_0, hcz105_1, hfz105_0, hfz105_1⟩ := cells2 BK106.out; obtain ⟨hcz106_0, hcz106_1, hcz106_2, hcz106_3, hfz106_0, hfz106_1, hfz106_2, hfz106_3⟩ := cells4 BK124.out) | ((with_reducible refine gate_callee (f := 16) rfl ?_); refine goesL_ (some 95) rfl rfl Try.func16 (by kernel_rfl) rfl #[.int .i64 ((rd_T69 l0 x42_2).f0), .int .i64 ((rd_T46 l1 x65_3).f1), .int .i64 (wrap64 ((wrap64 (a2 + (x8_3.length : Int))) + 8)), .int .i64 0] rfl (by simp only [ml]; try rfl) ?_; (with_reducible refine (ehframe_Put.calls k3 ((rd_T69 l0 x42_2).f0) ((rd_T46 l1 x65_3).f1) (wrap64 ((wrap64 (a2 + (x8_3.length : Int))) + 8)) 0 t129 t130 _ A42.out).mono ?_); rintro e w107 ⟨v131, rfl, ho0, hb⟩; refine ⟨_, rfl, ?_⟩; refine mv7 (am (Kd.R_elder' (Kd.R_o HO_8.out) (Kd.R_base ho0) hb)) (am (Kd.R_below (Kd.R_o HO_9.out) hb)) (am (Kd.R_elder' (Kd.R_o HO128.out) (Kd.R_base ho0) hb)) (am (Kd.R_lower (Kd.R_new' (Kd.R_new' ho0 (Kd.R_lt (Kd.R_o HO_8.out))) (Kd.R_lt (Kd.R_o HO128.out))) (below_size (by exact bl_g HB.out)))) (am (blk_below (blk_o BK106.out) hb)) (am (blk_below (blk_o BK124.out) hb)) (am (below_step (by exact bl_g HB.out) hb)) ?_; clear HO_8 HO_9 HO128 BK106 BK124 HB; intro HO_8 HO_9 HO128 HO132 BK106 BK124 HB))
        go_ret3
        exact ⟨_, _, rfl, by first | exact Kd.R_nil _ _ _ _ _ | exact Kd.N_nil _ _ _ _ _, by first | exact Kd.R_nil _ _ _ _ _ | exact Kd.N_nil _ _ _ _ _, by exact bl_g HB.out⟩
       rw [if_pos c43] at H
       have c43b0 : (t130 == 0) = true := beq_iff_eq.mpr c43
       have c43b1 : (t130 != 0) = false := bne_eq_false_iff_eq.mpr c43
       clear c43
       replace H := Option.bind_eq_some_iff.mp H
       obtain ⟨⟨t133, t134⟩, A440, H⟩ := H
       replace H : (if t134 = 0 then ((cfa_Write.f k3 ((rd_T46 l1 x65_3).f3)).bind fun bt137 => (if t126.length + t129.length < 140737488355328 then ((some (t126 ++ t129 : List Int)).bind fun y141 => (if y141.length + t133.length < 140737488355328 then ((some (y141 ++ t133 : List Int)).bind fun y144 => (if y144.length < 140737488355328 then ((some (y144 ++ [0] : List Int)).bind fun y147 => (if y147.length + bt137.1.length < 140737488355328 then ((ehframe_record.f k3 (y147 ++ bt137.1)).bind fun t153 => (if x8_3.length + t153.length < 140737488355328 then (ehframe_Write.l1 k3 l1 a2 a3 (x8_3 ++ t153) y125 x42_2 (x8_2.length : Int) l0 (l0.length : Int) x42_2 l1 (l1.length : Int) (wrap64 (x65_3 + 1)) ((rd_T69 l0 x42_2).f0) ((rd_T69 l0 x42_2).f1)) else (none))) else (none))) else (none))) else (none))) else (none))) else (some (([] : List Int), ([] : List Int), 11))) = some (r1, r2, r3) := H
       have A44 := am A440
       clear A440
       by_cases c45 : t134 = 0
       rotate_left
       ·
        rw [if_neg c45] at H
        have c45b0 : (t134 == 0) = false := beq_eq_false_iff_ne.mpr c45
        have c45b1 : (t134 != 0) = true := bne_iff_ne.mpr c45
        simp only [Option.some.injEq, Prod.mk.injEq] at H
        obtain ⟨rfl, rfl, rfl⟩ := H
        have p123 : 0 ≤ (x65_3 : Int) := od
        have q123 : x65_3 < (l1.length : Int) := od
        obtain ⟨ad123, A123_3, c123_3, e123, hx123_0, hx123_1, hx123_2, hx123_3, hl123_3, hi123_3⟩ := at_T46 HR1.out x65_3 p123 q123
        cases e123
        replace hx123_0 := oc HB.out hx123_0
        replace hx123_1 := oc HB.out hx123_1
        replace hx123_2 := oc HB.out hx123_2
        replace hx123_3 := oc HB.out hx123_3
        have HR123_3 := am hi123_3
        have HC123_3 := am hl123_3
        clear hi123_3 hl123_3
        replace p123 := eq_true p123
        replace q123 := eq_true q123
        go_wp2_with (first | ((with_reducible refine gate_dst (N := 18) rfl ?_); refine box_event ?hg (N := 18) ?hd (cs := #[.int .i64 0, .int .i64 0, .int .i64 0, .slice none 0 0]) (t := 46) ?hr ?_; (case hd => rfl); (case hg => rfl); (case hr => go_simp; try rfl); intro gb124 hg w81 hbox hb; refine mv8 (am (Kd.R_below (Kd.R_o HO_8.out) hb)) (am (Kd.R_below (Kd.R_o HO_9.out) hb)) (am (blk_below (blk_o BK106.out) hb)) (am (below_step (by exact bl_g HB.out) hb)) (am (hbox)) (lei (by rw [hg]; exact (below_size (by exact bl_g HB.out)) : w.heap.size ≤ gb124)) (am ((by rw [hg]; exact Nat.ne_of_lt (blk_lt (g := gb106) (o := .cells #[.int .i64 ((rd_T69 l0 x42_2).f0), .slice A105_1 ((rd_T69 l0 x42_2).f1).length c105_1] 69 (0, 0)) (blk_o BK106.out)) : gb106 ≠ gb124))) (am ((by rw [hg]; exact Nat.ne_of_gt (blk_lt (g := gb106) (o := .cells #[.int .i64 ((rd_T69 l0 x42_2).f0), .slice A105_1 ((rd_T69 l0 x42_2).f1).length c105_1] 69 (0, 0)) (blk_o BK106.out)) : gb124 ≠ gb106))) ?_; clear HO_8 HO_9 BK106 HB; intro HO_8 HO_9 BK106 HB BK124 GW124 NB106_124 NB124_106; have GE124 := GW124; clear hb hbox hg; have hnb82 := NB124_106.out; have hnc82 := NB106_124.out; obtain ⟨hcz83_0, hcz83_1, hcz83_2, hcz83_3, hfz83_0, hfz83_1, hfz83_2, hfz83_3⟩ := cells4 BK124.out) | ((with_reducible refine gate_store (t := 46) (p := 18) rfl ?_); refine store_event (t := 46) (p := 18) (v := ?vo_w84) (w1 := ((((w81.setCell ⟨gb124, 0, none⟩ (.int .i64 ((rd_T46 l1 x65_3).f0))).setCell ⟨gb124, 1, none⟩ (.int .i64 ((rd_T46 l1 x65_3).f1))).setCell ⟨gb124, 2, none⟩ (.int .i64 ((rd_T46 l1 x65_3).f2))).setCell ⟨gb124, 3, none⟩ (.slice A123_3 ((rd_T46 l1 x65_3).f3).length c123_3))) ?hg ?ho ?hn ?hr ?_; (case ho => rfl); (case hg => rfl); (case hn => rfl); (case hr => go_simp; try rfl); intro w84 hw; refine mv5 (⟨(by rw [hw]; exact (Kd.R_o (Kd.R_mono (Kd.R_far (p := ⟨gb124, 3, none⟩) (Kd.R_far (p := ⟨gb124, 2, none⟩) (Kd.R_far (p := ⟨gb124, 1, none⟩) (Kd.R_far (p := ⟨gb124, 0, none⟩) (Kd.R_types HO_8.out BK124.out (by decide)) (fun _ hk => hk.2) (.int .i64 ((rd_T46 l1 x65_3).f0))) (fun _ hk => hk.2) (.int .i64 ((rd_T46 l1 x65_3).f1))) (fun _ hk => hk.2) (.int .i64 ((rd_T46 l1 x65_3).f2))) (fun _ hk => hk.2) (.slice A123_3 ((rd_T46 l1 x65_3).f3).length c123_3)) (fun _ hk => trivial))))⟩ : Aside0 (Kd.R (Kd.int .u8) 5 w84 w.heap.size (fun _ => True) u8 x8_3)) (⟨(by rw [hw]; exact (Kd.R_o (Kd.R_mono (Kd.R_far (p := ⟨gb124, 3, none⟩) (Kd.R_far (p := ⟨gb124, 2, none⟩) (Kd.R_far (p := ⟨gb124, 1, none⟩) (Kd.R_far (p := ⟨gb124, 0, none⟩) (Kd.R_types HO_9.out BK124.out (by decide)) (fun _ hk => hk.2) (.int .i64 ((rd_T46 l1 x65_3).f0))) (fun _ hk => hk.2) (.int .i64 ((rd_T46 l1 x65_3).f1))) (fun _ hk => hk.2) (.int .i64 ((rd_T46 l1 x65_3).f2))) (fun _ hk => hk.2) (.slice A123_3 ((rd_T46 l1 x65_3).f3).length c123_3)) (fun _ hk => trivial))))⟩ : Aside0 (Kd.R (Kd.int .i64) 3 w84 w.heap.size (fun _ => True) u9 x9_3)) (⟨(by rw [hw]; exact (by (with_reducible repeat (first | refine blk_drewN ?_ _ | refine blk_drew ?_ | refine blk_alloc ?_ _)); refine blk_far ?_ NB106_124.out _; (with_reducible repeat (first | refine blk_drewN ?_ _ | refine blk_drew ?_ | refine blk_alloc ?_ _)); refine blk_far ?_ NB106_124.out _; (with_reducible repeat (first | refine blk_drewN ?_ _ | refine blk_drew ?_ | refine blk_alloc ?_ _)); refine blk_far ?_ NB106_124.out _; (with_reducible repeat (first | refine blk_drewN ?_ _ | refine blk_drew ?_ | refine blk_alloc ?_ _)); refine blk_far ?_ NB106_124.out _; (with_reducible repeat (first | refine blk_drewN ?_ _ | refine blk_drew ?_ | refine blk_alloc ?_ _)); exact BK106.out))⟩ : Aside0 (w84.heap[gb106]? = some (.cells #[.int .i64 ((rd_T69 l0 x42_2).f0), .slice A105_1 ((rd_T69 l0 x42_2).f1).length c105_1] 69 (0, 0)))) (⟨(by rw [hw]; exact (bps BK124.out rfl))⟩ : Aside0 (w84.heap[gb124]? = some (.cells #[.int .i64 ((rd_T46 l1 x65_3).f0), .int .i64 ((rd_T46 l1 x65_3).f1), .int .i64 ((rd_T46 l1 x65_3).f2), .slice A123_3 ((rd_T46 l1 x65_3).f3).length c123_3] 46 (0, 0)))) (⟨(by rw [hw]; exact (by exact bl_g HB.out))⟩ : Aside0 (Below w.heap.size w w84)) ?_; clear hw HO_8 HO_9 BK106 BK124 HB; intro HO_8 HO_9 BK106 BK124 HB; obtain ⟨hcz85_0, hcz85_1, hcz85_2, hcz85_3, hfz85_0, hfz85_1, hfz85_2, hfz85_3⟩ := cells4 BK124.out; obtain ⟨Ao86, co86, eo86⟩ := Kd.R_slice HO_8.out; subst eo86; have p40 : 0 ≤ (x65_3 : Int) := od; have q40 : (x65_3 : Int) < ((x9_3.length : Int) : Int) := od; obtain ⟨go40, co40, eo40, gb40, gl40, cl40, HG40⟩ := Kd.R_form HO_9.out (by omega); (first | cases eo40 | (injection eo40 with ea_ en_ ec_; (first | subst ea_ | (injection ea_ with ea_; subst ea_)); subst ec_; clear en_)); have GB40 := am gb40; have GG40 := am HG40; clear gb40 gl40 HG40; obtain ⟨hx40_0, hf40_0⟩ := Kd.R_celln 0 HO_9.out (x65_3 : Int) p40 q40; replace p40 := eq_true p40; replace q40 := eq_true q40; obtain ⟨hy87_, hz87_⟩ := Kd.R_celln 0 HO_9.out (x65_3 : Int) (od) (od); have HP87 := Kd.R_putg HO_9.out (x65_3 : Int) (x8_3.length : Int)) | ((with_reducible refine gate_store (t := 3) (p := 78) rfl ?_); refine store_event (t := 3) (p := 78) (v := ?vo_w88) (w1 := (w84.setCell ⟨go40, (x65_3 : Int).toNat, none⟩ (.int .i64 (x8_3.length : Int)))) ?hg ?ho ?hn ?hr ?_; (case ho => rfl); (case hg => rfl); (case hn => rfl); (case hr => go_simp; try rfl); intro w88 hw; have hg : w84.grownBy w88 (some go40) := (by rw [hw]; exact HP87.2); have hp_ : Kd.R (Kd.int .i64) 3 w88 w.heap.size (fun _ => True) (.slice (some ⟨go40, 0, none⟩) x9_3.length co40) y125 := (by rw [hw, Ny125.out]; exact HP87.1); clear HP87; refine mv5 (am (Kd.R_over' (v := (.slice (some ⟨go40, 0, none⟩) x9_3.length co40)) (Kd.R_o HO_8.out) (Kd.R_typed HO_9.out) (by decide) hg)) (am (hp_)) (am (blk_grown (g := gb106) (o := .cells #[.int .i64 ((rd_T69 l0 x42_2).f0), .slice A105_1 ((rd_T69 l0 x42_2).f1).length c105_1] 69 (0, 0)) (blk_o BK106.out) hg (Kd.R_ne HO_9.out BK106.out (by decide)))) (am (blk_grown (g := gb124) (o := .cells #[.int .i64 ((rd_T46 l1 x65_3).f0), .int .i64 ((rd_T46 l1 x65_3).f1), .int .i64 ((rd_T46 l1 x65_3).f2), .slice A123_3 ((rd_T46 l1 x65_3).f3).length c123_3] 46 (0, 0)) (blk_o BK124.out) hg (Kd.R_ne HO_9.out BK124.out (by decide)))) (am ((by rw [hw]; exact below_set (HB.out) GB40.out : Below w.heap.size w w88))) ?_; clear HO_8 HO_9 BK106 BK124 HB; intro HO_8 HO_9 BK106 BK124 HB; clear hg hw hp_) | ((with_reducible refine gate_callee (f := 26) rfl ?_); refine goesL_ (some 84) rfl rfl Try.func26 (by kernel_rfl) rfl #[.int .i64 (wrap64 ((wrap64 ((x8_3.length : Int) + 4)) - (x8_2.length : Int)))] rfl (by simp only [ml]; try rfl) ?_; (with_reducible refine (ehframe_low.calls k3 (wrap64 ((wrap64 ((x8_3.length : Int) + 4)) - (x8_2.length : Int))) t126 _ A41.out).mono ?_); rintro e w89 ⟨v127, rfl, ho0, hb⟩; refine ⟨_, rfl, ?_⟩; refine mv6 (am (Kd.R_elder' (Kd.R_o HO_8.out) (Kd.R_base ho0) hb)) (am (Kd.R_below (Kd.R_o HO_9.out) hb)) (am (Kd.R_lower (Kd.R_new' ho0 (Kd.R_lt (Kd.R_o HO_8.out))) (below_size (by exact bl_g HB.out)))) (am (blk_below (blk_o BK106.out) hb)) (am (blk_below (blk_o BK124.out) hb)) (am (below_step (by exact bl_g HB.out) hb)) ?_; clear HO_8 HO_9 BK106 BK124 HB; intro HO_8 HO_9 HO128 BK106 BK124 HB; obtain ⟨hcz90_0, hcz90_1, hfz90_0, hfz90_1⟩ := cells2 BK106.out; obtain ⟨hcz91_0, hcz91_1, hcz91_2, hcz91_3, hfz91_0, hfz91_1, hfz91_2, hfz91_3⟩ := cells4 BK124.out) | ((with_reducible refine gate_callee (f := 16) rfl ?_); refine goesL_ (some 95) rfl rfl Try.func16 (by kernel_rfl) rfl #[.int .i64 ((rd_T69 l0 x42_2).f0), .int .i64 ((rd_T46 l1 x65_3).f1), .int .i64 (wrap64 ((wrap64 (a2 + (x8_3.length : Int))) + 8)), .int .i64 0] rfl (by simp only [ml]; try rfl) ?_; (with_reducible refine (ehframe_Put.calls k3 ((rd_T69 l0 x42_2).f0) ((rd_T46 l1 x65_3).f1) (wrap64 ((wrap64 (a2 + (x8_3.length : Int))) + 8)) 0 t129 t130 _ A42.out).mono ?_); rintro e w92 ⟨v131, rfl, ho0, hb⟩; refine ⟨_, rfl, ?_⟩; refine mv7 (am (Kd.R_elder' (Kd.R_o HO_8.out) (Kd.R_base ho0) hb)) (am (Kd.R_below (Kd.R_o HO_9.out) hb)) (am (Kd.R_elder' (Kd.R_o HO128.out) (Kd.R_base ho0) hb)) (am (Kd.R_lower (Kd.R_new' (Kd.R_new' ho0 (Kd.R_lt (Kd.R_o HO_8.out))) (Kd.R_lt (Kd.R_o HO128.out))) (below_size (by exact bl_g HB.out)))) (am (blk_below (blk_o BK106.out) hb)) (am (blk_below (blk_o BK124.out) hb)) (am (below_step (by exact bl_g HB.out) hb)) ?_; clear HO_8 HO_9 HO128 BK106 BK124 HB; intro HO_8 HO_9 HO128 HO132 BK106 BK124 HB; obtain ⟨hcz93_0, hcz93_1, hfz93_0, hfz93_1⟩ := cells2 BK106.out; obtain ⟨hcz94_0, hcz94_1, hcz94_2, hcz94_3, hfz94_0, hfz94_1, hfz94_2, hfz94_3⟩ := cells4 BK124.out) | ((with_reducible refine gate_callee (f := 16) rfl ?_); refine goesL_ (some 106) rfl rfl Try.func16 (by kernel_rfl) rfl #[.int .i64 (Go.bits .and .i64 ((rd_T69 l0 x42_2).f0) 15), .int .i64 ((rd_T46 l1 x65_3).f2), .int .i64 0, .int .i64 0] rfl (by simp only [ml]; try rfl) ?_; (with_reducible refine (ehframe_Put.calls k3 (Go.bits .and .i64 ((rd_T69 l0 x42_2).f0) 15) ((rd_T46 l1 x65_3).f2) 0 0 t133 t134 _ A44.out).mono ?_); rintro e w95 ⟨v135, rfl, ho0, hb⟩; refine ⟨_, rfl, ?_⟩; refine mv8 (am (Kd.R_elder' (Kd.R_o HO_8.out) (Kd.R_base ho0) hb)) (am (Kd.R_below (Kd.R_o HO_9.out) hb)) (am (Kd.R_elder' (Kd.R_o HO128.out) (Kd.R_base ho0) hb)) (am (Kd.R_elder' (Kd.R_o HO132.out) (Kd.R_base ho0) hb)) (am (Kd.R_lower (Kd.R_new' (Kd.R_new' (Kd.R_new' ho0 (Kd.R_lt (Kd.R_o HO_8.out))) (Kd.R_lt (Kd.R_o HO128.out))) (Kd.R_lt (Kd.R_o HO132.out))) (below_size (by exact bl_g HB.out)))) (am (blk_below (blk_o BK106.out) hb)) (am (blk_below (blk_o BK124.out) hb)) (am (below_step (by exact bl_g HB.out) hb)) ?_; clear HO_8 HO_9 HO128 HO132 BK106 BK124 HB; intro HO_8 HO_9 HO128 HO132 HO136 BK106 BK124 HB))
        go_ret3
        exact ⟨_, _, rfl, by first | exact Kd.R_nil _ _ _ _ _ | exact Kd.N_nil _ _ _ _ _, by first | exact Kd.R_nil _ _ _ _ _ | exact Kd.N_nil _ _ _ _ _, by exact bl_g HB.out⟩
       rw [if_pos c45] at H
       have c45b0 : (t134 == 0) = true := beq_iff_eq.mpr c45
       have c45b1 : (t134 != 0) = false := bne_eq_false_iff_eq.mpr c45
       clear c45
       replace H := Option.bind_eq_some_iff.mp H
       obtain ⟨⟨t137, t138⟩, A460, H⟩ := H
       replace H : (if t126.length + t129.length < 140737488355328 then ((some (t126 ++ t129 : List Int)).bind fun y141 => (if y141.length + t133.length < 140737488355328 then ((some (y141 ++ t133 : List Int)).bind fun y144 => (if y144.length < 140737488355328 then ((some (y144 ++ [0] : List Int)).bind fun y147 => (if y147.length + t137.length < 140737488355328 then ((ehframe_record.f k3 (y147 ++ t137)).bind fun t153 => (if x8_3.length + t153.length < 140737488355328 then (ehframe_Write.l1 k3 l1 a2 a3 (x8_3 ++ t153) y125 x42_2 (x8_2.length : Int) l0 (l0.length : Int) x42_2 l1 (l1.length : Int) (wrap64 (x65_3 + 1)) ((rd_T69 l0 x42_2).f0) ((rd_T69 l0 x42_2).f1)) else (none))) else (none))) else (none))) else (none))) else (none)) = some (r1, r2, r3) := H
       have A46 := am A460
       clear A460
       by_cases c47 : t126.length + t129.length < 140737488355328
       rotate_left
       ·
        rw [if_neg c47] at H
        exact absurd H (by simp)
       rw [if_pos c47] at H
       have LMc47 := am c47
       clear c47
       obtain ⟨y141, hy141⟩ : ∃ y_ : List Int, y_ = (t126 ++ t129) := ⟨_, rfl⟩
       replace H : (if y141.length + t133.length < 140737488355328 then ((some (y141 ++ t133 : List Int)).bind fun y144 => (if y144.length < 140737488355328 then ((some (y144 ++ [0] : List Int)).bind fun y147 => (if y147.length + t137.length < 140737488355328 then ((ehframe_record.f k3 (y147 ++ t137)).bind fun t153 => (if x8_3.length + t153.length < 140737488355328 then (ehframe_Write.l1 k3 l1 a2 a3 (x8_3 ++ t153) y125 x42_2 (x8_2.length : Int) l0 (l0.length : Int) x42_2 l1 (l1.length : Int) (wrap64 (x65_3 + 1)) ((rd_T69 l0 x42_2).f0) ((rd_T69 l0 x42_2).f1)) else (none))) else (none))) else (none))) else (none)) = some (r1, r2, r3) := by first | (rw [hy141]; with_reducible exact H) | (have H2_ := (Option.bind_some _ _).symm.trans H; rw [hy141]; with_reducible exact H2_)
       have Ny141 := am hy141
       clear hy141
       by_cases c48 : y141.length + t133.length < 140737488355328
       rotate_left
       ·
        rw [if_neg c48] at H
        exact absurd H (by simp)
       rw [if_pos c48] at H
       have LMc48 := am c48
       clear c48
       obtain ⟨y144, hy144⟩ : ∃ y_ : List Int, y_ = (y141 ++ t133) := ⟨_, rfl⟩
       replace H : (if y144.length < 140737488355328 then ((some (y144 ++ [0] : List Int)).bind fun y147 => (if y147.length + t137.length < 140737488355328 then ((ehframe_record.f k3 (y147 ++ t137)).bind fun t153 => (if x8_3.length + t153.length < 140737488355328 then (ehframe_Write.l1 k3 l1 a2 a3 (x8_3 ++ t153) y125 x42_2 (x8_2.length : Int) l0 (l0.length : Int) x42_2 l1 (l1.length : Int) (wrap64 (x65_3 + 1)) ((rd_T69 l0 x42_2).f0) ((rd_T69 l0 x42_2).f1)) else (none))) else (none))) else (none)) = some (r1, r2, r3) := by first | (rw [hy144]; with_reducible exact H) | (have H2_ := (Option.bind_some _ _).symm.trans H; rw [hy144]; with_reducible exact H2_)
       have Ny144 := am hy144
       clear hy144
       by_cases c49 : y144.length < 140737488355328
       rotate_left
       ·
        rw [if_neg c49] at H
        exact absurd H (by simp)
       rw [if_pos c49] at H
       have LMc49 := am c49
       clear c49
       obtain ⟨y147, hy147⟩ : ∃ y_ : List Int, y_ = (y144 ++ [0]) := ⟨_, rfl⟩
       replace H : (if y147.length + t137.length < 140737488355328 then ((ehframe_record.f k3 (y147 ++ t137)).bind fun t153 => (if x8_3.length + t153.length < 140737488355328 then (ehframe_Write.l1 k3 l1 a2 a3 (x8_3 ++ t153) y125 x42_2 (x8_2.length : Int) l0 (l0.length : Int) x42_2 l1 (l1.length : Int) (wrap64 (x65_3 + 1)) ((rd_T69 l0 x42_2).f0) ((rd_T69 l0 x42_2).f1)) else (none))) else (none)) = some (r1, r2, r3) := by first | (rw [hy147]; with_reducible exact H) | (have H2_ := (Option.bind_some _ _).symm.trans H; rw [hy147]; with_reducible exact H2_)
       have Ny147 := am hy147
       clear hy147
       by_cases c50 : y147.length + t137.length < 140737488355328
       rotate_left
       ·
        rw [if_neg c50] at H
        exact absurd H (by simp)
       rw [if_pos c50] at H
       have LMc50 := am c50
       clear c50
       obtain ⟨y150, hy150⟩ : ∃ y_ : List Int, y_ = (y147 ++ t137) := ⟨_, rfl⟩
       replace H : ((ehframe_record.f k3 y150).bind fun t153 => (if x8_3.length + t153.length < 140737488355328 then (ehframe_Write.l1 k3 l1 a2 a3 (x8_3 ++ t153) y125 x42_2 (x8_2.length : Int) l0 (l0.length : Int) x42_2 l1 (l1.length : Int) (wrap64 (x65_3 + 1)) ((rd_T69 l0 x42_2).f0) ((rd_T69 l0 x42_2).f1)) else (none))) = some (r1, r2, r3) := by first | (rw [hy150]; with_reducible exact H) | (have H2_ := (Option.bind_some _ _).symm.trans H; rw [hy150]; with_reducible exact H2_)
       have Ny150 := am hy150
       clear hy150
       replace H := Option.bind_eq_some_iff.mp H
       obtain ⟨t153, A510, H⟩ := H
       replace H : (if x8_3.length + t153.length < 140737488355328 then (ehframe_Write.l1 k3 l1 a2 a3 (x8_3 ++ t153) y125 x42_2 (x8_2.length : Int) l0 (l0.length : Int) x42_2 l1 (l1.length : Int) (wrap64 (x65_3 + 1)) ((rd_T69 l0 x42_2).f0) ((rd_T69 l0 x42_2).f1)) else (none)) = some (r1, r2, r3) := H
       have A51 := am A510
       clear A510
       by_cases c52 : x8_3.length + t153.length < 140737488355328
       rotate_left
       ·
        rw [if_neg c52] at H
        exact absurd H (by simp)
       rw [if_pos c52] at H
       have LMc52 := am c52
       clear c52
       obtain ⟨y156, hy156⟩ : ∃ y_ : List Int, y_ = (x8_3 ++ t153) := ⟨_, rfl⟩
       replace H : (ehframe_Write.l1 k3 l1 a2 a3 y156 y125 x42_2 (x8_2.length : Int) l0 (l0.length : Int) x42_2 l1 (l1.length : Int) (wrap64 (x65_3 + 1)) ((rd_T69 l0 x42_2).f0) ((rd_T69 l0 x42_2).f1)) = some (r1, r2, r3) := by first | (rw [hy156]; with_reducible exact H) | (have H2_ := (Option.bind_some _ _).symm.trans H; rw [hy156]; with_reducible exact H2_)
       have Ny156 := am hy156
       clear hy156
       have H' := am H
       clear H
       have p123 : 0 ≤ (x65_3 : Int) := od
       have q123 : x65_3 < (l1.length : Int) := od
       obtain ⟨ad123, A123_3, c123_3, e123, hx123_0, hx123_1, hx123_2, hx123_3, hl123_3, hi123_3⟩ := at_T46 HR1.out x65_3 p123 q123
       cases e123
       replace hx123_0 := oc HB.out hx123_0
       replace hx123_1 := oc HB.out hx123_1
       replace hx123_2 := oc HB.out hx123_2
       replace hx123_3 := oc HB.out hx123_3
       have HR123_3 := am hi123_3
       have HC123_3 := am hl123_3
       clear hi123_3 hl123_3
       replace p123 := eq_true p123
       replace q123 := eq_true q123
       go_wp2_with (first | ((with_reducible refine gate_dst (N := 18) rfl ?_); refine box_event ?hg (N := 18) ?hd (cs := #[.int .i64 0, .int .i64 0, .int .i64 0, .slice none 0 0]) (t := 46) ?hr ?_; (case hd => rfl); (case hg => rfl); (case hr => go_simp; try rfl); intro gb124 hg w53 hbox hb; refine mv8 (am (Kd.R_below (Kd.R_o HO_8.out) hb)) (am (Kd.R_below (Kd.R_o HO_9.out) hb)) (am (blk_below (blk_o BK106.out) hb)) (am (below_step (by exact bl_g HB.out) hb)) (am (hbox)) (lei (by rw [hg]; exact (below_size (by exact bl_g HB.out)) : w.heap.size ≤ gb124)) (am ((by rw [hg]; exact Nat.ne_of_lt (blk_lt (g := gb106) (o := .cells #[.int .i64 ((rd_T69 l0 x42_2).f0), .slice A105_1 ((rd_T69 l0 x42_2).f1).length c105_1] 69 (0, 0)) (blk_o BK106.out)) : gb106 ≠ gb124))) (am ((by rw [hg]; exact Nat.ne_of_gt (blk_lt (g := gb106) (o := .cells #[.int .i64 ((rd_T69 l0 x42_2).f0), .slice A105_1 ((rd_T69 l0 x42_2).f1).length c105_1] 69 (0, 0)) (blk_o BK106.out)) : gb124 ≠ gb106))) ?_; clear HO_8 HO_9 BK106 HB; intro HO_8 HO_9 BK106 HB BK124 GW124 NB106_124 NB124_106; have GE124 := GW124; clear hb hbox hg; have hnb54 := NB124_106.out; have hnc54 := NB106_124.out; obtain ⟨hcz55_0, hcz55_1, hcz55_2, hcz55_3, hfz55_0, hfz55_1, hfz55_2, hfz55_3⟩ := cells4 BK124.out) | ((with_reducible refine gate_store (t := 46) (p := 18) rfl ?_); refine store_event (t := 46) (p := 18) (v := ?vo_w56) (w1 := ((((w53.setCell ⟨gb124, 0, none⟩ (.int .i64 ((rd_T46 l1 x65_3).f0))).setCell ⟨gb124, 1, none⟩ (.int .i64 ((rd_T46 l1 x65_3).f1))).setCell ⟨gb124, 2, none⟩ (.int .i64 ((rd_T46 l1 x65_3).f2))).setCell ⟨gb124, 3, none⟩ (.slice A123_3 ((rd_T46 l1 x65_3).f3).length c123_3))) ?hg ?ho ?hn ?hr ?_; (case ho => rfl); (case hg => rfl); (case hn => rfl); (case hr => go_simp; try rfl); intro w56 hw; refine mv5 (⟨(by rw [hw]; exact (Kd.R_o (Kd.R_mono (Kd.R_far (p := ⟨gb124, 3, none⟩) (Kd.R_far (p := ⟨gb124, 2, none⟩) (Kd.R_far (p := ⟨gb124, 1, none⟩) (Kd.R_far (p := ⟨gb124, 0, none⟩) (Kd.R_types HO_8.out BK124.out (by decide)) (fun _ hk => hk.2) (.int .i64 ((rd_T46 l1 x65_3).f0))) (fun _ hk => hk.2) (.int .i64 ((rd_T46 l1 x65_3).f1))) (fun _ hk => hk.2) (.int .i64 ((rd_T46 l1 x65_3).f2))) (fun _ hk => hk.2) (.slice A123_3 ((rd_T46 l1 x65_3).f3).length c123_3)) (fun _ hk => trivial))))⟩ : Aside0 (Kd.R (Kd.int .u8) 5 w56 w.heap.size (fun _ => True) u8 x8_3)) (⟨(by rw [hw]; exact (Kd.R_o (Kd.R_mono (Kd.R_far (p := ⟨gb124, 3, none⟩) (Kd.R_far (p := ⟨gb124, 2, none⟩) (Kd.R_far (p := ⟨gb124, 1, none⟩) (Kd.R_far (p := ⟨gb124, 0, none⟩) (Kd.R_types HO_9.out BK124.out (by decide)) (fun _ hk => hk.2) (.int .i64 ((rd_T46 l1 x65_3).f0))) (fun _ hk => hk.2) (.int .i64 ((rd_T46 l1 x65_3).f1))) (fun _ hk => hk.2) (.int .i64 ((rd_T46 l1 x65_3).f2))) (fun _ hk => hk.2) (.slice A123_3 ((rd_T46 l1 x65_3).f3).length c123_3)) (fun _ hk => trivial))))⟩ : Aside0 (Kd.R (Kd.int .i64) 3 w56 w.heap.size (fun _ => True) u9 x9_3)) (⟨(by rw [hw]; exact (by (with_reducible repeat (first | refine blk_drewN ?_ _ | refine blk_drew ?_ | refine blk_alloc ?_ _)); refine blk_far ?_ NB106_124.out _; (with_reducible repeat (first | refine blk_drewN ?_ _ | refine blk_drew ?_ | refine blk_alloc ?_ _)); refine blk_far ?_ NB106_124.out _; (with_reducible repeat (first | refine blk_drewN ?_ _ | refine blk_drew ?_ | refine blk_alloc ?_ _)); refine blk_far ?_ NB106_124.out _; (with_reducible repeat (first | refine blk_drewN ?_ _ | refine blk_drew ?_ | refine blk_alloc ?_ _)); refine blk_far ?_ NB106_124.out _; (with_reducible repeat (first | refine blk_drewN ?_ _ | refine blk_drew ?_ | refine blk_alloc ?_ _)); exact BK106.out))⟩ : Aside0 (w56.heap[gb106]? = some (.cells #[.int .i64 ((rd_T69 l0 x42_2).f0), .slice A105_1 ((rd_T69 l0 x42_2).f1).length c105_1] 69 (0, 0)))) (⟨(by rw [hw]; exact (bps BK124.out rfl))⟩ : Aside0 (w56.heap[gb124]? = some (.cells #[.int .i64 ((rd_T46 l1 x65_3).f0), .int .i64 ((rd_T46 l1 x65_3).f1), .int .i64 ((rd_T46 l1 x65_3).f2), .slice A123_3 ((rd_T46 l1 x65_3).f3).length c123_3] 46 (0, 0)))) (⟨(by rw [hw]; exact (by exact bl_g HB.out))⟩ : Aside0 (Below w.heap.size w w56)) ?_; clear hw HO_8 HO_9 BK106 BK124 HB; intro HO_8 HO_9 BK106 BK124 HB; obtain ⟨hcz57_0, hcz57_1, hcz57_2, hcz57_3, hfz57_0, hfz57_1, hfz57_2, hfz57_3⟩ := cells4 BK124.out; obtain ⟨Ao58, co58, eo58⟩ := Kd.R_slice HO_8.out; subst eo58; have p40 : 0 ≤ (x65_3 : Int) := od; have q40 : (x65_3 : Int) < ((x9_3.length : Int) : Int) := od; obtain ⟨go40, co40, eo40, gb40, gl40, cl40, HG40⟩ := Kd.R_form HO_9.out (by omega); (first | cases eo40 | (injection eo40 with ea_ en_ ec_; (first | subst ea_ | (injection ea_ with ea_; subst ea_)); subst ec_; clear en_)); have GB40 := am gb40; have GG40 := am HG40; clear gb40 gl40 HG40; obtain ⟨hx40_0, hf40_0⟩ := Kd.R_celln 0 HO_9.out (x65_3 : Int) p40 q40; replace p40 := eq_true p40; replace q40 := eq_true q40; obtain ⟨hy59_, hz59_⟩ := Kd.R_celln 0 HO_9.out (x65_3 : Int) (od) (od); have HP59 := Kd.R_putg HO_9.out (x65_3 : Int) (x8_3.length : Int)) | ((with_reducible refine gate_store (t := 3) (p := 78) rfl ?_); refine store_event (t := 3) (p := 78) (v := ?vo_w60) (w1 := (w56.setCell ⟨go40, (x65_3 : Int).toNat, none⟩ (.int .i64 (x8_3.length : Int)))) ?hg ?ho ?hn ?hr ?_; (case ho => rfl); (case hg => rfl); (case hn => rfl); (case hr => go_simp; try rfl); intro w60 hw; have hg : w56.grownBy w60 (some go40) := (by rw [hw]; exact HP59.2); have hp_ : Kd.R (Kd.int .i64) 3 w60 w.heap.size (fun _ => True) (.slice (some ⟨go40, 0, none⟩) x9_3.length co40) y125 := (by rw [hw, Ny125.out]; exact HP59.1); clear HP59; refine mv5 (am (Kd.R_over' (v := (.slice (some ⟨go40, 0, none⟩) x9_3.length co40)) (Kd.R_o HO_8.out) (Kd.R_typed HO_9.out) (by decide) hg)) (am (hp_)) (am (blk_grown (g := gb106) (o := .cells #[.int .i64 ((rd_T69 l0 x42_2).f0), .slice A105_1 ((rd_T69 l0 x42_2).f1).length c105_1] 69 (0, 0)) (blk_o BK106.out) hg (Kd.R_ne HO_9.out BK106.out (by decide)))) (am (blk_grown (g := gb124) (o := .cells #[.int .i64 ((rd_T46 l1 x65_3).f0), .int .i64 ((rd_T46 l1 x65_3).f1), .int .i64 ((rd_T46 l1 x65_3).f2), .slice A123_3 ((rd_T46 l1 x65_3).f3).length c123_3] 46 (0, 0)) (blk_o BK124.out) hg (Kd.R_ne HO_9.out BK124.out (by decide)))) (am ((by rw [hw]; exact below_set (HB.out) GB40.out : Below w.heap.size w w60))) ?_; clear HO_8 HO_9 BK106 BK124 HB; intro HO_8 HO_9 BK106 BK124 HB; clear hg hw hp_) | ((with_reducible refine gate_callee (f := 26) rfl ?_); refine goesL_ (some 84) rfl rfl Try.func26 (by kernel_rfl) rfl #[.int .i64 (wrap64 ((wrap64 ((x8_3.length : Int) + 4)) - (x8_2.length : Int)))] rfl (by simp only [ml]; try rfl) ?_; (with_reducible refine (ehframe_low.calls k3 (wrap64 ((wrap64 ((x8_3.length : Int) + 4)) - (x8_2.length : Int))) t126 _ A41.out).mono ?_); rintro e w61 ⟨v127, rfl, ho0, hb⟩; refine ⟨_, rfl, ?_⟩; refine mv6 (am (Kd.R_elder' (Kd.R_o HO_8.out) (Kd.R_base ho0) hb)) (am (Kd.R_below (Kd.R_o HO_9.out) hb)) (am (Kd.R_lower (Kd.R_new' ho0 (Kd.R_lt (Kd.R_o HO_8.out))) (below_size (by exact bl_g HB.out)))) (am (blk_below (blk_o BK106.out) hb)) (am (blk_below (blk_o BK124.out) hb)) (am (below_step (by exact bl_g HB.out) hb)) ?_; clear HO_8 HO_9 BK106 BK124 HB; intro HO_8 HO_9 HO128 BK106 BK124 HB; obtain ⟨hcz62_0, hcz62_1, hfz62_0, hfz62_1⟩ := cells2 BK106.out; obtain ⟨hcz63_0, hcz63_1, hcz63_2, hcz63_3, hfz63_0, hfz63_1, hfz63_2, hfz63_3⟩ := cells4 BK124.out) | ((with_reducible refine gate_callee (f := 16) rfl ?_); refine goesL_ (some 95) rfl rfl Try.func16 (by kernel_rfl) rfl #[.int .i64 ((rd_T69 l0 x42_2).f0), .int .i64 ((rd_T46 l1 x65_3).f1), .int .i64 (wrap64 ((wrap64 (a2 + (x8_3.length : Int))) + 8)), .int .i64 0] rfl (by simp only [ml]; try rfl) ?_; (with_reducible refine (ehframe_Put.calls k3 ((rd_T69 l0 x42_2).f0) ((rd_T46 l1 x65_3).f1) (wrap64 ((wrap64 (a2 + (x8_3.length : Int))) + 8)) 0 t129 t130 _ A42.out).mono ?_); rintro e w64 ⟨v131, rfl, ho0, hb⟩; refine ⟨_, rfl, ?_⟩; refine mv7 (am (Kd.R_elder' (Kd.R_o HO_8.out) (Kd.R_base ho0) hb)) (am (Kd.R_below (Kd.R_o HO_9.out) hb)) (am (Kd.R_elder' (Kd.R_o HO128.out) (Kd.R_base ho0) hb)) (am (Kd.R_lower (Kd.R_new' (Kd.R_new' ho0 (Kd.R_lt (Kd.R_o HO_8.out))) (Kd.R_lt (Kd.R_o HO128.out))) (below_size (by exact bl_g HB.out)))) (am (blk_below (blk_o BK106.out) hb)) (am (blk_below (blk_o BK124.out) hb)) (am (below_step (by exact bl_g HB.out) hb)) ?_; clear HO_8 HO_9 HO128 BK106 BK124 HB; intro HO_8 HO_9 HO128 HO132 BK106 BK124 HB; obtain ⟨hcz65_0, hcz65_1, hfz65_0, hfz65_1⟩ := cells2 BK106.out; obtain ⟨hcz66_0, hcz66_1, hcz66_2, hcz66_3, hfz66_0, hfz66_1, hfz66_2, hfz66_3⟩ := cells4 BK124.out) | ((with_reducible refine gate_callee (f := 16) rfl ?_); refine goesL_ (some 106) rfl rfl Try.func16 (by kernel_rfl) rfl #[.int .i64 (Go.bits .and .i64 ((rd_T69 l0 x42_2).f0) 15), .int .i64 ((rd_T46 l1 x65_3).f2), .int .i64 0, .int .i64 0] rfl (by simp only [ml]; try rfl) ?_; (with_reducible refine (ehframe_Put.calls k3 (Go.bits .and .i64 ((rd_T69 l0 x42_2).f0) 15) ((rd_T46 l1 x65_3).f2) 0 0 t133 t134 _ A44.out).mono ?_); rintro e w67 ⟨v135, rfl, ho0, hb⟩; refine ⟨_, rfl, ?_⟩; refine mv8 (am (Kd.R_elder' (Kd.R_o HO_8.out) (Kd.R_base ho0) hb)) (am (Kd.R_below (Kd.R_o HO_9.out) hb)) (am (Kd.R_elder' (Kd.R_o HO128.out) (Kd.R_base ho0) hb)) (am (Kd.R_elder' (Kd.R_o HO132.out) (Kd.R_base ho0) hb)) (am (Kd.R_lower (Kd.R_new' (Kd.R_new' (Kd.R_new' ho0 (Kd.R_lt (Kd.R_o HO_8.out))) (Kd.R_lt (Kd.R_o HO128.out))) (Kd.R_lt (Kd.R_o HO132.out))) (below_size (by exact bl_g HB.out)))) (am (blk_below (blk_o BK106.out) hb)) (am (blk_below (blk_o BK124.out) hb)) (am (below_step (by exact bl_g HB.out) hb)) ?_; clear HO_8 HO_9 HO128 HO132 BK106 BK124 HB; intro HO_8 HO_9 HO128 HO132 HO136 BK106 BK124 HB; obtain ⟨hcz68_0, hcz68_1, hcz68_2, hcz68_3, hfz68_0, hfz68_1, hfz68_2, hfz68_3⟩ := cells4 BK124.out) | ((with_reducible refine gate_callee (f := 23) rfl ?_); refine goesL_ (some 114) rfl rfl Try.func23 (by kernel_rfl) rfl #[.slice A123_3 ((rd_T46 l1 x65_3).f3).length c123_3] rfl (by simp only [ml]; try rfl) ?_; (with_reducible refine (cfa_Write.calls k3 _ _ ((rd_T46 l1 x65_3).f3) t137 t138 _ ?side1 ?side2 A46.out).mono ?_); (case side1 => exact Kd.C_o (Kd.C_below HR123_3.out HB.out)); (case side2 => exact HC123_3.out); rintro e w69 ⟨v139, rfl, ho0, hb⟩; refine ⟨_, rfl, ?_⟩; refine mv9 (am (Kd.R_elder' (Kd.R_o HO_8.out) (Kd.R_base ho0) hb)) (am (Kd.R_below (Kd.R_o HO_9.out) hb)) (am (Kd.R_elder' (Kd.R_o HO128.out) (Kd.R_base ho0) hb)) (am (Kd.R_elder' (Kd.R_o HO132.out) (Kd.R_base ho0) hb)) (am (Kd.R_elder' (Kd.R_o HO136.out) (Kd.R_base ho0) hb)) (am (Kd.R_lower (Kd.R_new' (Kd.R_new' (Kd.R_new' (Kd.R_new' ho0 (Kd.R_lt (Kd.R_o HO_8.out))) (Kd.R_lt (Kd.R_o HO128.out))) (Kd.R_lt (Kd.R_o HO132.out))) (Kd.R_lt (Kd.R_o HO136.out))) (below_size (by exact bl_g HB.out)))) (am (blk_below (blk_o BK106.out) hb)) (am (blk_below (blk_o BK124.out) hb)) (am (below_step (by exact bl_g HB.out) hb)) ?_; clear HO_8 HO_9 HO128 HO132 HO136 BK106 BK124 HB; intro HO_8 HO_9 HO128 HO132 HO136 HO140 BK106 BK124 HB; obtain ⟨Ao71, co71, eo71⟩ := Kd.R_slice HO132.out; subst eo71) | ((with_reducible refine gate_builtin (b := .append) (xs := #[.tmp 117, .tmp 118]) rfl ?_); at_builtin; refine Kd.R_append_rows (Kd.int .u8) (w0 := w) w.heap.size rfl (.tmp 117) (.tmp 118) 28 5 (.int .u8 0) 1 rfl Try.underlying28 info5 rfl (by decide) (by omega) v127 t126 t129 _ _ _ (fun k_ => some k_ ≠ (.slice Ao58 x8_3.length co58 : Value).ownBlock ∧ some k_ ≠ (.slice Ao71 t129.length co71 : Value).ownBlock ∧ some k_ ≠ (v135 : Value).ownBlock ∧ some k_ ≠ (v139 : Value).ownBlock) (fun _ => False) rfl rfl ?aO ?aR (fun _ _ h => h) (fun _ h => h.elim) ?aF ?aB ?aS ?aL ?_; (case aR => exact Kd.C_o ((Kd.R_reads' HO132.out).2.2)); (case aB => exact (by exact bl_g HB.out)); (case aF => exact (fun k_ hk => ⟨Kd.fresh' (Kd.R_lt (Kd.R_o HO_8.out)) k_ hk, Kd.fresh' (Kd.R_lt (Kd.R_o HO132.out)) k_ hk, Kd.fresh' (Kd.R_lt (Kd.R_o HO136.out)) k_ hk, Kd.fresh' (Kd.R_lt (Kd.R_o HO140.out)) k_ hk⟩)); (case aO => exact (Kd.R_o (Kd.R_mono HO128.out (fun _ hk => ⟨hk.1.1.1.2, ⟨hk.1.1.2, ⟨hk.1.2, hk.2⟩⟩⟩)))); (case aS => exact (below_size (by exact bl_g HB.out))); (case aL => have := LMc47.out; omega); intro v142 w70 ho hb hg hat; rw [← Ny141.out] at ho; refine mv9 (am (Kd.R_after (ok := (fun k_ => some k_ ≠ (.slice Ao71 t129.length co71 : Value).ownBlock ∧ some k_ ≠ (v135 : Value).ownBlock ∧ some k_ ≠ (v139 : Value).ownBlock)) (Kd.R_o (Kd.R_mono HO_8.out (fun _ hk => ⟨⟨hk.1.1.2, ⟨hk.1.2, hk.2⟩⟩, hk.1.1.1.2⟩))) hg hat)) (am (Kd.R_over' (Kd.R_o HO_9.out) (Kd.R_typed (Kd.R_o HO128.out)) (by decide) hg)) (am (blk_grown (g := gb106) (o := .cells #[.int .i64 ((rd_T69 l0 x42_2).f0), .slice A105_1 ((rd_T69 l0 x42_2).f1).length c105_1] 69 (0, 0)) (blk_o BK106.out) hg (Kd.R_ne HO128.out BK106.out (by decide)))) (am (blk_grown (g := gb124) (o := .cells #[.int .i64 ((rd_T46 l1 x65_3).f0), .int .i64 ((rd_T46 l1 x65_3).f1), .int .i64 ((rd_T46 l1 x65_3).f2), .slice A123_3 ((rd_T46 l1 x65_3).f3).length c123_3] 46 (0, 0)) (blk_o BK124.out) hg (Kd.R_ne HO128.out BK124.out (by decide)))) (am (Kd.R_after (ok := (fun k_ => some k_ ≠ (.slice Ao58 x8_3.length co58 : Value).ownBlock ∧ some k_ ≠ (v135 : Value).ownBlock ∧ some k_ ≠ (v139 : Value).ownBlock)) (Kd.R_o (Kd.R_mono HO132.out (fun _ hk => ⟨⟨hk.1.1.1.2, ⟨hk.1.2, hk.2⟩⟩, hk.1.1.2⟩))) hg hat)) (am (Kd.R_after (ok := (fun k_ => some k_ ≠ (.slice Ao58 x8_3.length co58 : Value).ownBlock ∧ some k_ ≠ (.slice Ao71 t129.length co71 : Value).ownBlock ∧ some k_ ≠ (v139 : Value).ownBlock)) (Kd.R_o (Kd.R_mono HO136.out (fun _ hk => ⟨⟨hk.1.1.1.2, ⟨hk.1.2, hk.2⟩⟩, hk.1.1.2⟩))) hg hat)) (am (Kd.R_after (ok := (fun k_ => some k_ ≠ (.slice Ao58 x8_3.length co58 : Value).ownBlock ∧ some k_ ≠ (.slice Ao71 t129.length co71 : Value).ownBlock ∧ some k_ ≠ (v135 : Value).ownBlock)) (Kd.R_o (Kd.R_mono HO140.out (fun _ hk => ⟨⟨hk.1.1.1.2, ⟨hk.1.2, hk.2⟩⟩, hk.1.1.2⟩))) hg hat)) (am (hb)) (am (ho)) ?_; clear HO_8 HO_9 BK106 BK124 HO132 HO136 HO140 HB HO128; intro HO_8 HO_9 BK106 BK124 HO132 HO136 HO140 HB HO143; clear ho hb hg hat; obtain ⟨Ao73, co73, eo73⟩ := Kd.R_slice HO136.out; subst eo73) | ((with_reducible refine gate_builtin (b := .append) (xs := #[.tmp 119, .tmp 120]) rfl ?_); at_builtin; refine Kd.R_append_rows (Kd.int .u8) (w0 := w) w.heap.size rfl (.tmp 119) (.tmp 120) 28 5 (.int .u8 0) 1 rfl Try.underlying28 info5 rfl (by decide) (by omega) v142 y141 t133 _ _ _ (fun k_ => some k_ ≠ (.slice Ao58 x8_3.length co58 : Value).ownBlock ∧ some k_ ≠ (.slice Ao71 t129.length co71 : Value).ownBlock ∧ some k_ ≠ (.slice Ao73 t133.length co73 : Value).ownBlock ∧ some k_ ≠ (v139 : Value).ownBlock) (fun _ => False) rfl rfl ?aO ?aR (fun _ _ h => h) (fun _ h => h.elim) ?aF ?aB ?aS ?aL ?_; (case aR => exact Kd.C_o ((Kd.R_reads' HO136.out).2.2)); (case aB => exact (by exact bl_g HB.out)); (case aF => exact (fun k_ hk => ⟨Kd.fresh' (Kd.R_lt (Kd.R_o HO_8.out)) k_ hk, Kd.fresh' (Kd.R_lt (Kd.R_o HO132.out)) k_ hk, Kd.fresh' (Kd.R_lt (Kd.R_o HO136.out)) k_ hk, Kd.fresh' (Kd.R_lt (Kd.R_o HO140.out)) k_ hk⟩)); (case aO => exact (Kd.R_o HO143.out)); (case aS => exact (below_size (by exact bl_g HB.out))); (case aL => have := LMc48.out; omega); intro v145 w72 ho hb hg hat; rw [← Ny144.out] at ho; refine mv9 (am (Kd.R_after (ok := (fun k_ => some k_ ≠ (.slice Ao71 t129.length co71 : Value).ownBlock ∧ some k_ ≠ (.slice Ao73 t133.length co73 : Value).ownBlock ∧ some k_ ≠ (v139 : Value).ownBlock)) (Kd.R_o HO_8.out) hg hat)) (am (Kd.R_over' (Kd.R_o HO_9.out) (Kd.R_typed (Kd.R_o HO143.out)) (by decide) hg)) (am (blk_grown (g := gb106) (o := .cells #[.int .i64 ((rd_T69 l0 x42_2).f0), .slice A105_1 ((rd_T69 l0 x42_2).f1).length c105_1] 69 (0, 0)) (blk_o BK106.out) hg (Kd.R_ne HO143.out BK106.out (by decide)))) (am (blk_grown (g := gb124) (o := .cells #[.int .i64 ((rd_T46 l1 x65_3).f0), .int .i64 ((rd_T46 l1 x65_3).f1), .int .i64 ((rd_T46 l1 x65_3).f2), .slice A123_3 ((rd_T46 l1 x65_3).f3).length c123_3] 46 (0, 0)) (blk_o BK124.out) hg (Kd.R_ne HO143.out BK124.out (by decide)))) (am (Kd.R_after (ok := (fun k_ => some k_ ≠ (.slice Ao58 x8_3.length co58 : Value).ownBlock ∧ some k_ ≠ (.slice Ao73 t133.length co73 : Value).ownBlock ∧ some k_ ≠ (v139 : Value).ownBlock)) (Kd.R_o HO132.out) hg hat)) (am (Kd.R_after (ok := (fun k_ => some k_ ≠ (.slice Ao58 x8_3.length co58 : Value).ownBlock ∧ some k_ ≠ (.slice Ao71 t129.length co71 : Value).ownBlock ∧ some k_ ≠ (v139 : Value).ownBlock)) (Kd.R_o HO136.out) hg hat)) (am (Kd.R_after (ok := (fun k_ => some k_ ≠ (.slice Ao58 x8_3.length co58 : Value).ownBlock ∧ some k_ ≠ (.slice Ao71 t129.length co71 : Value).ownBlock ∧ some k_ ≠ (.slice Ao73 t133.length co73 : Value).ownBlock)) (Kd.R_o HO140.out) hg hat)) (am (hb)) (am (ho)) ?_; clear HO_8 HO_9 BK106 BK124 HO132 HO136 HO140 HB HO143; intro HO_8 HO_9 BK106 BK124 HO132 HO136 HO140 HB HO146; clear ho hb hg hat) | ((with_reducible refine gate_builtin (b := .append) (xs := #[.tmp 121, .tmp 122]) rfl ?_); at_builtin; refine Kd.R_append (Kd.int .u8) (w0 := w) w.heap.size rfl (.tmp 121) (.tmp 122) 28 5 (.int .u8 0) 1 rfl Try.underlying28 info5 rfl (by decide) (by omega) v145 y144 0 [.int .u8 0] (fun k_ => some k_ ≠ (.slice Ao58 x8_3.length co58 : Value).ownBlock ∧ some k_ ≠ (.slice Ao71 t129.length co71 : Value).ownBlock ∧ some k_ ≠ (.slice Ao73 t133.length co73 : Value).ownBlock ∧ some k_ ≠ (v139 : Value).ownBlock) (fun _ => False) rfl rfl ?aP (fun _ hk => hk.elim) ?aF ?aO ?aB ?aS ?aL ?_; (case aP => exact rfl); (case aB => exact (by exact bl_g HB.out)); (case aF => exact (fun k_ hk => ⟨Kd.fresh' (Kd.R_lt (Kd.R_o HO_8.out)) k_ hk, Kd.fresh' (Kd.R_lt (Kd.R_o HO132.out)) k_ hk, Kd.fresh' (Kd.R_lt (Kd.R_o HO136.out)) k_ hk, Kd.fresh' (Kd.R_lt (Kd.R_o HO140.out)) k_ hk⟩)); (case aO => exact (Kd.R_o HO146.out)); (case aS => exact (below_size (by exact bl_g HB.out))); (case aL => have := LMc49.out; omega); intro v148 w74 ho hb hg hat; rw [← Ny147.out] at ho; refine mv9 (am (Kd.R_after (ok := (fun k_ => some k_ ≠ (.slice Ao71 t129.length co71 : Value).ownBlock ∧ some k_ ≠ (.slice Ao73 t133.length co73 : Value).ownBlock ∧ some k_ ≠ (v139 : Value).ownBlock)) (Kd.R_o HO_8.out) hg hat)) (am (Kd.R_over' (Kd.R_o HO_9.out) (Kd.R_typed (Kd.R_o HO146.out)) (by decide) hg)) (am (blk_grown (g := gb106) (o := .cells #[.int .i64 ((rd_T69 l0 x42_2).f0), .slice A105_1 ((rd_T69 l0 x42_2).f1).length c105_1] 69 (0, 0)) (blk_o BK106.out) hg (Kd.R_ne HO146.out BK106.out (by decide)))) (am (blk_grown (g := gb124) (o := .cells #[.int .i64 ((rd_T46 l1 x65_3).f0), .int .i64 ((rd_T46 l1 x65_3).f1), .int .i64 ((rd_T46 l1 x65_3).f2), .slice A123_3 ((rd_T46 l1 x65_3).f3).length c123_3] 46 (0, 0)) (blk_o BK124.out) hg (Kd.R_ne HO146.out BK124.out (by decide)))) (am (Kd.R_after (ok := (fun k_ => some k_ ≠ (.slice Ao58 x8_3.length co58 : Value).ownBlock ∧ some k_ ≠ (.slice Ao73 t133.length co73 : Value).ownBlock ∧ some k_ ≠ (v139 : Value).ownBlock)) (Kd.R_o HO132.out) hg hat)) (am (Kd.R_after (ok := (fun k_ => some k_ ≠ (.slice Ao58 x8_3.length co58 : Value).ownBlock ∧ some k_ ≠ (.slice Ao71 t129.length co71 : Value).ownBlock ∧ some k_ ≠ (v139 : Value).ownBlock)) (Kd.R_o HO136.out) hg hat)) (am (Kd.R_after (ok := (fun k_ => some k_ ≠ (.slice Ao58 x8_3.length co58 : Value).ownBlock ∧ some k_ ≠ (.slice Ao71 t129.length co71 : Value).ownBlock ∧ some k_ ≠ (.slice Ao73 t133.length co73 : Value).ownBlock)) (Kd.R_o HO140.out) hg hat)) (am (hb)) (am (ho)) ?_; clear HO_8 HO_9 BK106 BK124 HO132 HO136 HO140 HB HO146; intro HO_8 HO_9 BK106 BK124 HO132 HO136 HO140 HB HO149; clear ho hb hg hat; obtain ⟨Ao76, co76, eo76⟩ := Kd.R_slice HO140.out; subst eo76) | ((with_reducible refine gate_builtin (b := .append) (xs := #[.tmp 123, .tmp 124]) rfl ?_); at_builtin; refine Kd.R_append_rows (Kd.int .u8) (w0 := w) w.heap.size rfl (.tmp 123) (.tmp 124) 28 5 (.int .u8 0) 1 rfl Try.underlying28 info5 rfl (by decide) (by omega) v148 y147 t137 _ _ _ (fun k_ => some k_ ≠ (.slice Ao58 x8_3.length co58 : Value).ownBlock ∧ some k_ ≠ (.slice Ao71 t129.length co71 : Value).ownBlock ∧ some k_ ≠ (.slice Ao73 t133.length co73 : Value).ownBlock ∧ some k_ ≠ (.slice Ao76 t137.length co76 : Value).ownBlock) (fun _ => False) rfl rfl ?aO ?aR (fun _ _ h => h) (fun _ h => h.elim) ?aF ?aB ?aS ?aL ?_; (case aR => exact Kd.C_o ((Kd.R_reads' HO140.out).2.2)); (case aB => exact (by exact bl_g HB.out)); (case aF => exact (fun k_ hk => ⟨Kd.fresh' (Kd.R_lt (Kd.R_o HO_8.out)) k_ hk, Kd.fresh' (Kd.R_lt (Kd.R_o HO132.out)) k_ hk, Kd.fresh' (Kd.R_lt (Kd.R_o HO136.out)) k_ hk, Kd.fresh' (Kd.R_lt (Kd.R_o HO140.out)) k_ hk⟩)); (case aO => exact (Kd.R_o HO149.out)); (case aS => exact (below_size (by exact bl_g HB.out))); (case aL => have := LMc50.out; omega); intro v151 w75 ho hb hg hat; rw [← Ny150.out] at ho; refine mv9 (am (Kd.R_after (ok := (fun k_ => some k_ ≠ (.slice Ao71 t129.length co71 : Value).ownBlock ∧ some k_ ≠ (.slice Ao73 t133.length co73 : Value).ownBlock ∧ some k_ ≠ (.slice Ao76 t137.length co76 : Value).ownBlock)) (Kd.R_o HO_8.out) hg hat)) (am (Kd.R_over' (Kd.R_o HO_9.out) (Kd.R_typed (Kd.R_o HO149.out)) (by decide) hg)) (am (blk_grown (g := gb106) (o := .cells #[.int .i64 ((rd_T69 l0 x42_2).f0), .slice A105_1 ((rd_T69 l0 x42_2).f1).length c105_1] 69 (0, 0)) (blk_o BK106.out) hg (Kd.R_ne HO149.out BK106.out (by decide)))) (am (blk_grown (g := gb124) (o := .cells #[.int .i64 ((rd_T46 l1 x65_3).f0), .int .i64 ((rd_T46 l1 x65_3).f1), .int .i64 ((rd_T46 l1 x65_3).f2), .slice A123_3 ((rd_T46 l1 x65_3).f3).length c123_3] 46 (0, 0)) (blk_o BK124.out) hg (Kd.R_ne HO149.out BK124.out (by decide)))) (am (Kd.R_after (ok := (fun k_ => some k_ ≠ (.slice Ao58 x8_3.length co58 : Value).ownBlock ∧ some k_ ≠ (.slice Ao73 t133.length co73 : Value).ownBlock ∧ some k_ ≠ (.slice Ao76 t137.length co76 : Value).ownBlock)) (Kd.R_o HO132.out) hg hat)) (am (Kd.R_after (ok := (fun k_ => some k_ ≠ (.slice Ao58 x8_3.length co58 : Value).ownBlock ∧ some k_ ≠ (.slice Ao71 t129.length co71 : Value).ownBlock ∧ some k_ ≠ (.slice Ao76 t137.length co76 : Value).ownBlock)) (Kd.R_o HO136.out) hg hat)) (am (Kd.R_after (ok := (fun k_ => some k_ ≠ (.slice Ao58 x8_3.length co58 : Value).ownBlock ∧ some k_ ≠ (.slice Ao71 t129.length co71 : Value).ownBlock ∧ some k_ ≠ (.slice Ao73 t133.length co73 : Value).ownBlock)) (Kd.R_o HO140.out) hg hat)) (am (hb)) (am (ho)) ?_; clear HO_8 HO_9 BK106 BK124 HO132 HO136 HO140 HB HO149; intro HO_8 HO_9 BK106 BK124 HO132 HO136 HO140 HB HO152; clear ho hb hg hat; obtain ⟨Ao77, co77, eo77⟩ := Kd.R_slice HO152.out; subst eo77) | ((with_reducible refine gate_callee (f := 24) rfl ?_); refine goesL_ (some 128) rfl rfl Try.func24 (by kernel_rfl) rfl #[.slice Ao77 y150.length co77] rfl (by simp only [ml]; try rfl) ?_; (with_reducible refine (ehframe_record.calls k3 (fun k_ => some k_ = (.slice Ao77 y150.length co77 : Value).ownBlock) (.slice Ao77 y150.length co77) y150 t153 w _ ?side1 ?side2 A51.out).mono ?_); (case side1 => repeat (first | (with_reducible first | exact HB.out | apply below_alloc | apply pw_below_drewN | apply below_drew1 | refine below_set ?_ GE106.out | refine below_set ?_ GE124.out) | exact HB.out)); (case side2 => exact Kd.R_tight rfl HO152.out); rintro e w78 ⟨v154, rfl, ho0, hb, hkp⟩; refine ⟨_, rfl, ?_⟩; refine mv9 (am (Kd.R_mono (ok' := fun k_ => some k_ ≠ (.slice Ao71 t129.length co71 : Value).ownBlock ∧ some k_ ≠ (.slice Ao73 t133.length co73 : Value).ownBlock ∧ some k_ ≠ (.slice Ao76 t137.length co76 : Value).ownBlock ∧ some k_ ≠ (v154 : Value).ownBlock) (Kd.R_keptB (HO_8.out) hkp (fun k_ hk_ hs_ => (hk_.2) hs_)) (fun k_ hk_ => ⟨hk_.1.1.1, hk_.1.1.2.1, hk_.1.1.2.2, fun e_ => Or.elim (ho0.1 k_ e_.symm) (fun hs_ => hk_.2.1 hs_) (fun hn_ => Nat.not_le.2 hk_.2.2 hn_)⟩))) (am (Kd.R_mono (ok' := fun k_ => True) (Kd.R_keptB ((Kd.R_apart' HO_9.out (Kd.R_typed HO152.out) (by decide))) hkp (fun k_ hk_ hs_ => (hk_.2) hs_)) (fun k_ hk_ => trivial))) (am (blk_kept (blk_o BK106.out) hkp (fun hs_ => (fun e_ => (Kd.R_ne HO152.out BK106.out (by decide)) e_) hs_))) (am (blk_kept (blk_o BK124.out) hkp (fun hs_ => (fun e_ => (Kd.R_ne HO152.out BK124.out (by decide)) e_) hs_))) (am (Kd.R_mono (ok' := fun k_ => some k_ ≠ (.slice Ao58 x8_3.length co58 : Value).ownBlock ∧ some k_ ≠ (.slice Ao73 t133.length co73 : Value).ownBlock ∧ some k_ ≠ (.slice Ao76 t137.length co76 : Value).ownBlock ∧ some k_ ≠ (v154 : Value).ownBlock) (Kd.R_keptB (HO132.out) hkp (fun k_ hk_ hs_ => (hk_.2) hs_)) (fun k_ hk_ => ⟨hk_.1.1.1, hk_.1.1.2.1, hk_.1.1.2.2, fun e_ => Or.elim (ho0.1 k_ e_.symm) (fun hs_ => hk_.2.1 hs_) (fun hn_ => Nat.not_le.2 hk_.2.2 hn_)⟩))) (am (Kd.R_mono (ok' := fun k_ => some k_ ≠ (.slice Ao58 x8_3.length co58 : Value).ownBlock ∧ some k_ ≠ (.slice Ao71 t129.length co71 : Value).ownBlock ∧ some k_ ≠ (.slice Ao76 t137.length co76 : Value).ownBlock ∧ some k_ ≠ (v154 : Value).ownBlock) (Kd.R_keptB (HO136.out) hkp (fun k_ hk_ hs_ => (hk_.2) hs_)) (fun k_ hk_ => ⟨hk_.1.1.1, hk_.1.1.2.1, hk_.1.1.2.2, fun e_ => Or.elim (ho0.1 k_ e_.symm) (fun hs_ => hk_.2.1 hs_) (fun hn_ => Nat.not_le.2 hk_.2.2 hn_)⟩))) (am (Kd.R_mono (ok' := fun k_ => some k_ ≠ (.slice Ao58 x8_3.length co58 : Value).ownBlock ∧ some k_ ≠ (.slice Ao71 t129.length co71 : Value).ownBlock ∧ some k_ ≠ (.slice Ao73 t133.length co73 : Value).ownBlock ∧ some k_ ≠ (v154 : Value).ownBlock) (Kd.R_keptB (HO140.out) hkp (fun k_ hk_ hs_ => (hk_.2) hs_)) (fun k_ hk_ => ⟨hk_.1.1.1, hk_.1.1.2.1, hk_.1.1.2.2, fun e_ => Or.elim (ho0.1 k_ e_.symm) (fun hs_ => hk_.2.1 hs_) (fun hn_ => Nat.not_le.2 hk_.2.2 hn_)⟩))) (am (Kd.R_mono (ok' := fun k_ => some k_ ≠ (.slice Ao58 x8_3.length co58 : Value).ownBlock ∧ some k_ ≠ (.slice Ao71 t129.length co71 : Value).ownBlock ∧ some k_ ≠ (.slice Ao73 t133.length co73 : Value).ownBlock ∧ some k_ ≠ (.slice Ao76 t137.length co76 : Value).ownBlock) ho0 (fun k_ hk_ => ⟨Or.elim hk_ (fun hs_ => fun e_ => (((HO_8.out).1 k_ e_.symm).2) hs_) (fun hn_ => (Kd.fresh' (Kd.R_lt (Kd.R_o HO_8.out)) k_ hn_)), Or.elim hk_ (fun hs_ => fun e_ => (((HO132.out).1 k_ e_.symm).2) hs_) (fun hn_ => (Kd.fresh' (Kd.R_lt (Kd.R_o HO132.out)) k_ hn_)), Or.elim hk_ (fun hs_ => fun e_ => (((HO136.out).1 k_ e_.symm).2) hs_) (fun hn_ => (Kd.fresh' (Kd.R_lt (Kd.R_o HO136.out)) k_ hn_)), Or.elim hk_ (fun hs_ => fun e_ => (((HO140.out).1 k_ e_.symm).2) hs_) (fun hn_ => (Kd.fresh' (Kd.R_lt (Kd.R_o HO140.out)) k_ hn_))⟩))) (am (hb)) ?_; clear HO_8 HO_9 BK106 BK124 HO132 HO136 HO140 HB HO152; intro HO_8 HO_9 BK106 BK124 HO132 HO136 HO140 HO155 HB; (try clear hb); (try clear hkp); (try clear ho0); obtain ⟨Ao80, co80, eo80⟩ := Kd.R_slice HO155.out; subst eo80) | ((with_reducible refine gate_builtin (b := .append) (xs := #[.tmp 126, .tmp 128]) rfl ?_); at_builtin; refine Kd.R_append_rows (Kd.int .u8) (w0 := w) w.heap.size rfl (.tmp 126) (.tmp 128) 28 5 (.int .u8 0) 1 rfl Try.underlying28 info5 rfl (by decide) (by omega) (.slice Ao58 x8_3.length co58) x8_3 t153 _ _ _ (fun k_ => some k_ ≠ (.slice Ao71 t129.length co71 : Value).ownBlock ∧ some k_ ≠ (.slice Ao73 t133.length co73 : Value).ownBlock ∧ some k_ ≠ (.slice Ao76 t137.length co76 : Value).ownBlock ∧ some k_ ≠ (.slice Ao80 t153.length co80 : Value).ownBlock) (fun _ => False) rfl rfl ?aO ?aR (fun _ _ h => h) (fun _ h => h.elim) ?aF ?aB ?aS ?aL ?_; (case aR => exact Kd.C_o ((Kd.R_reads' HO155.out).2.2)); (case aB => exact (by exact bl_g HB.out)); (case aF => exact (fun k_ hk => ⟨Kd.fresh' (Kd.R_lt (Kd.R_o HO132.out)) k_ hk, Kd.fresh' (Kd.R_lt (Kd.R_o HO136.out)) k_ hk, Kd.fresh' (Kd.R_lt (Kd.R_o HO140.out)) k_ hk, Kd.fresh' (Kd.R_lt (Kd.R_o HO155.out)) k_ hk⟩)); (case aO => exact (Kd.R_o HO_8.out)); (case aS => exact (below_size (by exact bl_g HB.out))); (case aL => have := LMc52.out; omega); intro v157 w79 ho hb hg hat; rw [← Ny156.out] at ho; refine mv9 (am (Kd.R_over' (Kd.R_o HO_9.out) (Kd.R_typed (Kd.R_o HO_8.out)) (by decide) hg)) (am (blk_grown (g := gb106) (o := .cells #[.int .i64 ((rd_T69 l0 x42_2).f0), .slice A105_1 ((rd_T69 l0 x42_2).f1).length c105_1] 69 (0, 0)) (blk_o BK106.out) hg (Kd.R_ne HO_8.out BK106.out (by decide)))) (am (blk_grown (g := gb124) (o := .cells #[.int .i64 ((rd_T46 l1 x65_3).f0), .int .i64 ((rd_T46 l1 x65_3).f1), .int .i64 ((rd_T46 l1 x65_3).f2), .slice A123_3 ((rd_T46 l1 x65_3).f3).length c123_3] 46 (0, 0)) (blk_o BK124.out) hg (Kd.R_ne HO_8.out BK124.out (by decide)))) (am (Kd.R_after (ok := (fun k_ => some k_ ≠ (.slice Ao73 t133.length co73 : Value).ownBlock ∧ some k_ ≠ (.slice Ao76 t137.length co76 : Value).ownBlock ∧ some k_ ≠ (.slice Ao80 t153.length co80 : Value).ownBlock)) (Kd.R_o (Kd.R_mono HO132.out (fun _ hk => ⟨⟨hk.2.1, ⟨hk.2.2.1, hk.2.2.2⟩⟩, hk.1⟩))) hg hat)) (am (Kd.R_after (ok := (fun k_ => some k_ ≠ (.slice Ao71 t129.length co71 : Value).ownBlock ∧ some k_ ≠ (.slice Ao76 t137.length co76 : Value).ownBlock ∧ some k_ ≠ (.slice Ao80 t153.length co80 : Value).ownBlock)) (Kd.R_o (Kd.R_mono HO136.out (fun _ hk => ⟨⟨hk.2.1, ⟨hk.2.2.1, hk.2.2.2⟩⟩, hk.1⟩))) hg hat)) (am (Kd.R_after (ok := (fun k_ => some k_ ≠ (.slice Ao71 t129.length co71 : Value).ownBlock ∧ some k_ ≠ (.slice Ao73 t133.length co73 : Value).ownBlock ∧ some k_ ≠ (.slice Ao80 t153.length co80 : Value).ownBlock)) (Kd.R_o (Kd.R_mono HO140.out (fun _ hk => ⟨⟨hk.2.1, ⟨hk.2.2.1, hk.2.2.2⟩⟩, hk.1⟩))) hg hat)) (am (Kd.R_after (ok := (fun k_ => some k_ ≠ (.slice Ao71 t129.length co71 : Value).ownBlock ∧ some k_ ≠ (.slice Ao73 t133.length co73 : Value).ownBlock ∧ some k_ ≠ (.slice Ao76 t137.length co76 : Value).ownBlock)) (Kd.R_o (Kd.R_mono HO155.out (fun _ hk => ⟨⟨hk.2.1, ⟨hk.2.2.1, hk.2.2.2⟩⟩, hk.1⟩))) hg hat)) (am (hb)) (am (ho)) ?_; clear HO_9 BK106 BK124 HO132 HO136 HO140 HO155 HB HO_8; intro HO_9 BK106 BK124 HO132 HO136 HO140 HO155 HB HO158; clear ho hb hg hat))
       go_roundg k3
       case measure => have := HJ6.out; have := HK2.out; have := HK3.out; omega
       case rel => exact ⟨(y156), (y125), (wrap64 (x65_3 + 1)), (by first | rfl | (simp; done) | (simp [*]; done)), H', ⟨by have := HJ6.out; have := HK2.out; have := HK3.out; omega⟩, ⟨by (with_reducible repeat (first | apply Kd.R_alloc | apply Kd.R_drewN | apply Kd.R_drew)); exact Kd.R_mono HO158.out (fun _ hk => trivial)⟩, ⟨by (with_reducible repeat (first | apply Kd.R_alloc | apply Kd.R_drewN | apply Kd.R_drew)); exact HO_9.out⟩, ⟨by (with_reducible repeat (first | refine blk_drewN ?_ _ | refine blk_drew ?_ | refine blk_alloc ?_ _)); exact BK106.out⟩, ⟨by exact bl_g HB.out⟩⟩
def gangwaylaw14_num.f (a0 : Int) : Option (Int) := some a0
set_option maxHeartbeats 8000000 in
theorem gangwaylaw14_num.calls (a0 : Int) (r : Int) (w : World) (h : gangwaylaw14_num.f a0 = some r) :
    Calls Try.prog 11 #[.int .i64 a0] w fun e w' => e = .returned (.int .i64 r) ∧ Drawn0 w w' := by
 have H : (some a0) = some r := h
 clear h
 obtain rfl := Option.some.inj H
 go_enter Try.func11, Try.ntmps11
 go_wp2
 go_ret
 exact ⟨by first | rfl | (simp; done) | (simp [*]; done), by repeat (first | exact Drawn0.refl _ | apply Drawn0.step)⟩
def gangwaylaw14_sameOps.l0 : Nat → List (S105) → List (S97) → Int → Option (Bool)
  | 0, _, _, _ => none
  | k + 1, x0, x1, x5 => if x5 < (x0.length : Int) then (if 0 ≤ x5 then (if x5 < (x1.length : Int) then (if ((rd_T105 x0 x5).f0) = ((rd_T97 x1 x5).f0) then (if ((rd_T105 x0 x5).f1) = ((rd_T97 x1 x5).f1) then (if ((rd_T105 x0 x5).f2) = ((rd_T97 x1 x5).f2) then (gangwaylaw14_sameOps.l0 k x0 x1 (wrap64 (x5 + 1))) else (none)) else (none)) else (none)) else (none)) else (none)) else (some true)
def gangwaylaw14_sameOps.f (k : Nat) (l0 : List (S105)) (l1 : List (S97)) : Option (Bool) := if (l0.length : Int) = (l1.length : Int) then (gangwaylaw14_sameOps.l0 k l0 l1 0) else (none)
set_option maxHeartbeats 8000000 in
theorem gangwaylaw14_sameOps.calls (k : Nat) (A0 : Option Addr) (c0 : Nat) (l0 : List (S105)) (A1 : Option Addr) (c1 : Nat) (l1 : List (S97)) (r : Bool) (w : World) (hr0 : Kd.C k105 w A0 l0.length l0) (hc0 : l0.length ≤ c0) (hr1 : Kd.C k97 w A1 l1.length l1) (hc1 : l1.length ≤ c1) (h : gangwaylaw14_sameOps.f k l0 l1 = some r) :
    Calls Try.prog 35 #[.slice A0 l0.length c0, .slice A1 l1.length c1] w fun e w' => e = .returned (.bool r) ∧ Drawn0 w w' := by
 have HR0 := am hr0
 have HC0 := am hc0
 clear hr0 hc0
 have HR1 := am hr1
 have HC1 := am hc1
 clear hr1 hc1
 have H : (if (l0.length : Int) = (l1.length : Int) then (gangwaylaw14_sameOps.l0 k l0 l1 0) else (none)) = some r := h
 clear h
 by_cases c3 : (l0.length : Int) = (l1.length : Int)
 rotate_left
 ·
  rw [if_neg c3] at H
  exact absurd H (by simp)
 rw [if_pos c3] at H
 have c3b0 : ((l0.length : Int) == (l1.length : Int)) = true := beq_iff_eq.mpr c3
 have c3b1 : ((l0.length : Int) != (l1.length : Int)) = false := bne_eq_false_iff_eq.mpr c3
 have c3b2 : (l0.length == l1.length) = true := by first | simpa using c3 | (simp at c3 ⊢; omega)
 clear c3
 have H' := am H
 clear H
 go_enter Try.func35, Try.ntmps35
 go_wp2
 repeat (go_quiet (fail); try go_wp2)
 go_loopg [5] k (fun kq v5 w' => ∃ (x5_1 : Int), v5 = .int .i64 x5_1 ∧ Aside0 (gangwaylaw14_sameOps.l0 kq l0 l1 x5_1 = some r) ∧ Aside0 (kq ≤ k) ∧ Drawn0 w w')
 case atStart => exact ⟨(0), (by first | rfl | (simp; done) | (simp [*]; done)), H', ⟨Nat.le_refl _⟩, by repeat (first | exact Drawn0.refl _ | apply Drawn0.step)⟩
 case round =>
  clear H'
  try clear c1
  try clear p2
  try clear c3
  try clear c3b0
  try clear c3b1
  try clear c3b2
  obtain ⟨x5_1, rfl, HA, HK1, ⟨m1, rfl⟩⟩ := hrel
  cases gk with
  | zero => exact absurd HA.out (by simp [gangwaylaw14_sameOps.l0])
  | succ k1 =>
   have H := HA.out
   clear HA
   simp only [gangwaylaw14_sameOps.l0] at H
   by_cases c4 : x5_1 < (l0.length : Int)
   rotate_left
   ·
    rw [if_neg c4] at H
    have c4b0 : decide (x5_1 < (l0.length : Int)) = false := decide_eq_false c4
    clear c4
    obtain rfl := Option.some.inj H
    go_wp2
    repeat (go_quiet (fail); try go_wp2)
    go_ret
    exact ⟨by first | rfl | (simp; done) | (simp [*]; done), by repeat (first | exact Drawn0.refl _ | apply Drawn0.step)⟩
   rw [if_pos c4] at H
   have c4b0 : decide (x5_1 < (l0.length : Int)) = true := decide_eq_true c4
   clear c4
   by_cases c5 : 0 ≤ x5_1
   rotate_left
   ·
    rw [if_neg c5] at H
    exact absurd H (by simp)
   rw [if_pos c5] at H
   have c5b0 : decide (0 ≤ x5_1) = true := decide_eq_true c5
   clear c5
   by_cases c6 : x5_1 < (l1.length : Int)
   rotate_left
   ·
    rw [if_neg c6] at H
    exact absurd H (by simp)
   rw [if_pos c6] at H
   have c6b0 : decide (x5_1 < (l1.length : Int)) = true := decide_eq_true c6
   clear c6
   by_cases c7 : ((rd_T105 l0 x5_1).f0) = ((rd_T97 l1 x5_1).f0)
   rotate_left
   ·
    rw [if_neg c7] at H
    exact absurd H (by simp)
   rw [if_pos c7] at H
   have c7b0 : (((rd_T105 l0 x5_1).f0) == ((rd_T97 l1 x5_1).f0)) = true := beq_iff_eq.mpr c7
   have c7b1 : (((rd_T105 l0 x5_1).f0) != ((rd_T97 l1 x5_1).f0)) = false := bne_eq_false_iff_eq.mpr c7
   clear c7
   by_cases c8 : ((rd_T105 l0 x5_1).f1) = ((rd_T97 l1 x5_1).f1)
   rotate_left
   ·
    rw [if_neg c8] at H
    exact absurd H (by simp)
   rw [if_pos c8] at H
   have c8b0 : (((rd_T105 l0 x5_1).f1) == ((rd_T97 l1 x5_1).f1)) = true := beq_iff_eq.mpr c8
   have c8b1 : (((rd_T105 l0 x5_1).f1) != ((rd_T97 l1 x5_1).f1)) = false := bne_eq_false_iff_eq.mpr c8
   clear c8
   by_cases c9 : ((rd_T105 l0 x5_1).f2) = ((rd_T97 l1 x5_1).f2)
   rotate_left
   ·
    rw [if_neg c9] at H
    exact absurd H (by simp)
   rw [if_pos c9] at H
   have c9b0 : (((rd_T105 l0 x5_1).f2) == ((rd_T97 l1 x5_1).f2)) = true := beq_iff_eq.mpr c9
   have c9b1 : (((rd_T105 l0 x5_1).f2) != ((rd_T97 l1 x5_1).f2)) = false := bne_eq_false_iff_eq.mpr c9
   clear c9
   have H' := am H
   clear H
   have p101 : 0 ≤ (x5_1 : Int) := od
   have q101 : x5_1 < (l0.length : Int) := od
   obtain ⟨ad101, e101, hx101_0, hx101_1, hx101_2⟩ := at_T105 HR0.out x5_1 p101 q101
   cases e101
   replace p101 := eq_true p101
   replace q101 := eq_true q101
   have p102 : 0 ≤ (x5_1 : Int) := od
   have q102 : x5_1 < (l1.length : Int) := od
   obtain ⟨ad102, e102, hx102_0, hx102_1, hx102_2⟩ := at_T97 HR1.out x5_1 p102 q102
   cases e102
   replace p102 := eq_true p102
   replace q102 := eq_true q102
   have p103 : 0 ≤ (x5_1 : Int) := od
   have q103 : x5_1 < (l0.length : Int) := od
   obtain ⟨ad103, e103, hx103_0, hx103_1, hx103_2⟩ := at_T105 HR0.out x5_1 p103 q103
   obtain rfl : ad101 = ad103 := (by injection e103)
   replace p103 := eq_true p103
   replace q103 := eq_true q103
   have p104 : 0 ≤ (x5_1 : Int) := od
   have q104 : x5_1 < (l1.length : Int) := od
   obtain ⟨ad104, e104, hx104_0, hx104_1, hx104_2⟩ := at_T97 HR1.out x5_1 p104 q104
   obtain rfl : ad102 = ad104 := (by injection e104)
   replace p104 := eq_true p104
   replace q104 := eq_true q104
   have p105 : 0 ≤ (x5_1 : Int) := od
   have q105 : x5_1 < (l0.length : Int) := od
   obtain ⟨ad105, e105, hx105_0, hx105_1, hx105_2⟩ := at_T105 HR0.out x5_1 p105 q105
   obtain rfl : ad101 = ad105 := (by injection e105)
   replace p105 := eq_true p105
   replace q105 := eq_true q105
   have p106 : 0 ≤ (x5_1 : Int) := od
   have q106 : x5_1 < (l1.length : Int) := od
   obtain ⟨ad106, e106, hx106_0, hx106_1, hx106_2⟩ := at_T97 HR1.out x5_1 p106 q106
   obtain rfl : ad102 = ad106 := (by injection e106)
   replace p106 := eq_true p106
   replace q106 := eq_true q106
   go_wp2
   repeat (go_quiet (fail); try go_wp2)
   go_roundg k1
   case measure => have := HK1.out; omega
   case rel => exact ⟨(wrap64 (x5_1 + 1)), (by first | rfl | (simp; done) | (simp [*]; done)), H', ⟨by have := HK1.out; omega⟩, by repeat (first | exact Drawn0.refl _ | apply Drawn0.step)⟩
mutual
def gangwaylaw14_same.j0 : Nat → List (S69) → List (S46) → List (S43) → List (S61) → Bool → Option (Bool)
  | 0, _, _, _, _, _ => none
  | k + 1, x0, x1, x2, x3, x22 => if x22 = true then (none) else (gangwaylaw14_same.l0 k x0 x1 x2 x3 0)
def gangwaylaw14_same.l0 : Nat → List (S69) → List (S46) → List (S43) → List (S61) → Int → Option (Bool)
  | 0, _, _, _, _, _ => none
  | k + 1, x0, x1, x2, x3, x9 => if x9 < (x2.length : Int) then (if 0 ≤ x9 then (if x9 < (x0.length : Int) then (if ((rd_T69 x0 x9).f0) = ((rd_T43 x2 x9).f0) then ((gangwaylaw14_sameOps.f k ((rd_T69 x0 x9).f1) ((rd_T43 x2 x9).f1)).bind fun t105 => (if t105 = true then (gangwaylaw14_same.l0 k x0 x1 x2 x3 (wrap64 (x9 + 1))) else (none))) else (none)) else (none)) else (none)) else (gangwaylaw14_same.l1 k x1 x3 0)
def gangwaylaw14_same.l1 : Nat → List (S46) → List (S61) → Int → Option (Bool)
  | 0, _, _, _ => none
  | k + 1, x1, x3, x10 => if x10 < (x3.length : Int) then (if 0 ≤ x10 then (if x10 < (x1.length : Int) then (if ((rd_T46 x1 x10).f0) = ((rd_T61 x3 x10).f0) then (if ((rd_T46 x1 x10).f1) = ((rd_T61 x3 x10).f1) then (if ((rd_T46 x1 x10).f2) = ((rd_T61 x3 x10).f2) then ((gangwaylaw14_sameOps.f k ((rd_T46 x1 x10).f3) ((rd_T61 x3 x10).f3)).bind fun t114 => (if t114 = true then (gangwaylaw14_same.l1 k x1 x3 (wrap64 (x10 + 1))) else (none))) else (none)) else (none)) else (none)) else (none)) else (none)) else (some true)
end
def gangwaylaw14_same.f (k : Nat) (l0 : List (S69)) (l1 : List (S46)) (l2 : List (S43)) (l3 : List (S61)) : Option (Bool) := if (l0.length : Int) = (l2.length : Int) then (gangwaylaw14_same.j0 k l0 l1 l2 l3 ((l1.length : Int) != (l3.length : Int))) else (gangwaylaw14_same.j0 k l0 l1 l2 l3 true)
def gangwaylaw14_same.T6 : Bool × List (List Nat × List Nat) := (true, [([], []), ([], []), ([0, 1], [0, 1]), ([2], [2]), ([3], [3]), ([], []), ([], []), ([5, 6], [5, 6]), ([7], [7]), ([8], [8]), ([4, 9], [4, 9]), ([10], [10]), ([11], [11]), ([11], [11]), ([12, 13, 11], [11, 12, 13]), ([14, 11], [11, 14]), ([15, 11], [11, 15]), ([11], [11]), ([11], [11]), ([17, 18, 11], [11, 17, 18]), ([19, 11], [11, 19]), ([20, 11], [11, 20]), ([16, 21, 11, 11], [11, 16, 21]), ([22, 11], [11, 22]), ([11, 23], [11, 23])])
def gangwaylaw14_same.B6 : List Nat := [0, 0, 3, 7, 15, 0, 0, 96, 224, 480, 1023, 2047, 4095, 4095, 16383, 32767, 65535, 4095, 4095, 397311, 921599, 1970175, 4194303, 8388607, 16777215]
theorem gangwaylaw14_same.tab6 : rtab .any (opsOf Try.f14 6) = gangwaylaw14_same.T6 := by kernel_rfl
theorem gangwaylaw14_same.bits6 : waitsOk gangwaylaw14_same.T6.2 gangwaylaw14_same.B6 = true := by kernel_rfl
def gangwaylaw14_same.T11 : Bool × List (List Nat × List Nat) := (true, [([], []), ([], []), ([0, 1], [0, 1]), ([2], [2]), ([3], [3]), ([], []), ([], []), ([5, 6], [5, 6]), ([7], [7]), ([8], [8]), ([4, 9], [4, 9]), ([10], [10]), ([11], [11]), ([11], [11]), ([12, 13, 11], [11, 12, 13]), ([14, 11], [11, 14]), ([15, 11], [11, 15]), ([11], [11]), ([11], [11]), ([17, 18, 11], [11, 17, 18]), ([19, 11], [11, 19]), ([20, 11], [11, 20]), ([16, 21, 11], [11, 16, 21]), ([11, 22], [11, 22]), ([23, 11], [23]), ([24], [24]), ([24], [24]), ([25, 26, 24], [24, 25, 26]), ([27, 24], [24, 27]), ([28, 24], [24, 28]), ([24], [24]), ([24], [24]), ([30, 31, 24], [24, 30, 31]), ([32, 24], [24, 32]), ([33, 24], [24, 33]), ([29, 34, 24], [24, 29, 34]), ([24, 35], [24, 35]), ([36, 24], [36]), ([37], [37]), ([37], [37]), ([38, 39, 37], [37, 38, 39]), ([40, 37], [37, 40]), ([41, 37], [37, 41]), ([37], [37]), ([37], [37]), ([43, 44, 37], [37, 43, 44]), ([45, 37], [37, 45]), ([46, 37], [37, 46]), ([42, 47, 37, 37], [37, 42, 47]), ([48, 37], [37, 48]), ([37, 49], [37, 49])])
def gangwaylaw14_same.B11 : List Nat := [0, 0, 3, 7, 15, 0, 0, 96, 224, 480, 1023, 2047, 4095, 4095, 16383, 32767, 65535, 4095, 4095, 397311, 921599, 1970175, 4194303, 8388607, 16777215, 33554431, 33554431, 134217727, 268435455, 536870911, 33554431, 33554431, 3254779903, 7549747199, 16139681791, 34359738367, 68719476735, 137438953471, 274877906943, 274877906943, 1099511627775, 2199023255551, 4398046511103, 274877906943, 274877906943, 26663156973567, 61847529062399, 132216273240063, 281474976710655, 562949953421311, 1125899906842623]
theorem gangwaylaw14_same.tab11 : rtab .any (opsOf Try.f14 11) = gangwaylaw14_same.T11 := by kernel_rfl
theorem gangwaylaw14_same.bits11 : waitsOk gangwaylaw14_same.T11.2 gangwaylaw14_same.B11 = true := by kernel_rfl
set_option maxHeartbeats 8000000 in
theorem gangwaylaw14_same.calls (k : Nat) (A0 : Option Addr) (c0 : Nat) (l0 : List (S69)) (A1 : Option Addr) (c1 : Nat) (l1 : List (S46)) (A2 : Option Addr) (c2 : Nat) (l2 : List (S43)) (A3 : Option Addr) (c3 : Nat) (l3 : List (S61)) (r : Bool) (w : World) (hr0 : Kd.C k69 w A0 l0.length l0) (hc0 : l0.length ≤ c0) (hr1 : Kd.C k46 w A1 l1.length l1) (hc1 : l1.length ≤ c1) (hr2 : Kd.C k43 w A2 l2.length l2) (hc2 : l2.length ≤ c2) (hr3 : Kd.C k61 w A3 l3.length l3) (hc3 : l3.length ≤ c3) (h : gangwaylaw14_same.f k l0 l1 l2 l3 = some r) :
    Calls Try.prog 14 #[.slice A0 l0.length c0, .slice A1 l1.length c1, .slice A2 l2.length c2, .slice A3 l3.length c3] w fun e w' => e = .returned (.bool r) ∧ Below w.heap.size w w' := by
 have HR0 := am hr0
 have HC0 := am hc0
 clear hr0 hc0
 have HR1 := am hr1
 have HC1 := am hc1
 clear hr1 hc1
 have HR2 := am hr2
 have HC2 := am hc2
 clear hr2 hc2
 have HR3 := am hr3
 have HC3 := am hc3
 clear hr3 hc3
 have HB := am (Below.refl w.heap.size w)
 have H : (if (l0.length : Int) = (l2.length : Int) then (gangwaylaw14_same.j0 k l0 l1 l2 l3 ((l1.length : Int) != (l3.length : Int))) else (gangwaylaw14_same.j0 k l0 l1 l2 l3 true)) = some r := h
 clear h
 have HC5 := am H
 clear H
 go_enter Try.func14, Try.ntmps14
 go_upto_region 1 with (fail)
 go_cut [22] (fun v22 wc => ∃ (kq : Nat) (x22_4 : Bool), v22 = .bool x22_4 ∧ Aside0 (gangwaylaw14_same.j0 kq l0 l1 l2 l3 x22_4 = some r) ∧ Aside0 (kq ≤ k) ∧ Aside0 (Below w.heap.size w wc))
 case first =>
  have H := HC5.out
  clear HC5
  by_cases c6 : (l0.length : Int) = (l2.length : Int)
  ·
   rw [if_pos c6] at H
   have c6b0 : ((l0.length : Int) == (l2.length : Int)) = true := beq_iff_eq.mpr c6
   have c6b1 : ((l0.length : Int) != (l2.length : Int)) = false := bne_eq_false_iff_eq.mpr c6
   have c6b2 : (l0.length == l2.length) = true := by first | simpa using c6 | (simp at c6 ⊢; omega)
   clear c6
   (first | rw [c6b0] | (simp only [i64_w, i32_w]; rw [c6b0]) | skip)
   have H' := am H
   clear H
   go_wp2
   go_meet
   case rel => exact ⟨_, (((l1.length : Int) != (l3.length : Int))), (by first | rfl | (simp; done) | (simp [*]; done)), H', ⟨by first | omega | exact Nat.le_refl _⟩, ⟨by exact bl_g HB.out⟩⟩
  rw [if_neg c6] at H
  have c6b0 : ((l0.length : Int) == (l2.length : Int)) = false := beq_eq_false_iff_ne.mpr c6
  have c6b1 : ((l0.length : Int) != (l2.length : Int)) = true := bne_iff_ne.mpr c6
  have c6b2 : (l0.length == l2.length) = false := by first | simpa using c6 | (simp at c6 ⊢; omega)
  (first | rw [c6b0] | (simp only [i64_w, i32_w]; rw [c6b0]) | skip)
  have H' := am H
  clear H
  go_wp2
  go_meet
  case rel => exact ⟨_, (true), (by first | rfl | (simp; done) | (simp [*]; done)), H', ⟨by first | omega | exact Nat.le_refl _⟩, ⟨by exact bl_g HB.out⟩⟩
 case rest =>
  clear HC5
  try clear c1
  try clear c2
  try clear p2
  try clear c3
  try clear c6
  try clear c6b0
  try clear c6b1
  try clear c6b2
  obtain ⟨kq, x22_4, rfl, HA, HJ4, HB⟩ := hcut
  cases kq with
  | zero => exact absurd HA.out (by simp [gangwaylaw14_same.j0])
  | succ kj4 =>
   have H := HA.out
   clear HA
   simp only [gangwaylaw14_same.j0] at H
   by_cases c7 : x22_4 = true
   ·
    subst c7
    replace H : (none) = some r := by rw [if_pos rfl] at H; exact H
    exact absurd H (by simp)
   replace c7 := Bool.eq_false_iff.mpr c7
   subst c7
   replace H : (gangwaylaw14_same.l0 kj4 l0 l1 l2 l3 0) = some r := by rw [if_neg (show ¬ (false = true) by decide)] at H; exact H
   have H' := am H
   clear H
   go_wp2
   go_loopg [9] kj4 (fun kq v9 w' => ∃ (x9_2 : Int), v9 = .int .i64 x9_2 ∧ Aside0 (gangwaylaw14_same.l0 kq l0 l1 l2 l3 x9_2 = some r) ∧ Aside0 (kq ≤ kj4) ∧ Aside0 (Below w.heap.size w w'))
   case atStart => exact ⟨(0), (by first | rfl | (simp; done) | (simp [*]; done)), H', ⟨Nat.le_refl _⟩, ⟨by exact bl_g HB.out⟩⟩
   case round =>
    clear H'
    try clear c1
    try clear c2
    try clear p2
    try clear c3
    try clear c6
    try clear c6b0
    try clear c6b1
    try clear c6b2
    try clear c7
    try clear p2
    obtain ⟨x9_2, rfl, HA, HK2, HB⟩ := hrel
    cases gk with
    | zero => exact absurd HA.out (by simp [gangwaylaw14_same.l0])
    | succ k2 =>
     have H := HA.out
     clear HA
     simp only [gangwaylaw14_same.l0] at H
     by_cases c8 : x9_2 < (l2.length : Int)
     ·
      rw [if_pos c8] at H
      have c8b0 : decide (x9_2 < (l2.length : Int)) = true := decide_eq_true c8
      clear c8
      by_cases c9 : 0 ≤ x9_2
      rotate_left
      ·
       rw [if_neg c9] at H
       exact absurd H (by simp)
      rw [if_pos c9] at H
      have c9b0 : decide (0 ≤ x9_2) = true := decide_eq_true c9
      clear c9
      by_cases c10 : x9_2 < (l0.length : Int)
      rotate_left
      ·
       rw [if_neg c10] at H
       exact absurd H (by simp)
      rw [if_pos c10] at H
      have c10b0 : decide (x9_2 < (l0.length : Int)) = true := decide_eq_true c10
      clear c10
      by_cases c11 : ((rd_T69 l0 x9_2).f0) = ((rd_T43 l2 x9_2).f0)
      rotate_left
      ·
       rw [if_neg c11] at H
       have c11b0 : (((rd_T69 l0 x9_2).f0) == ((rd_T43 l2 x9_2).f0)) = false := beq_eq_false_iff_ne.mpr c11
       have c11b1 : (((rd_T69 l0 x9_2).f0) != ((rd_T43 l2 x9_2).f0)) = true := bne_iff_ne.mpr c11
       exact absurd H (by simp)
      rw [if_pos c11] at H
      have c11b0 : (((rd_T69 l0 x9_2).f0) == ((rd_T43 l2 x9_2).f0)) = true := beq_iff_eq.mpr c11
      have c11b1 : (((rd_T69 l0 x9_2).f0) != ((rd_T43 l2 x9_2).f0)) = false := bne_eq_false_iff_eq.mpr c11
      clear c11
      replace H := Option.bind_eq_some_iff.mp H
      obtain ⟨t105, A120, H⟩ := H
      replace H : (if t105 = true then (gangwaylaw14_same.l0 k2 l0 l1 l2 l3 (wrap64 (x9_2 + 1))) else (none)) = some r := H
      have A12 := am A120
      clear A120
      by_cases c13 : t105 = true
      rotate_left
      ·
       replace c13 := Bool.eq_false_iff.mpr c13
       subst c13
       replace H : (none) = some r := by rw [if_neg (show ¬ (false = true) by decide)] at H; exact H
       exact absurd H (by simp)
      subst c13
      replace H : (gangwaylaw14_same.l0 k2 l0 l1 l2 l3 (wrap64 (x9_2 + 1))) = some r := by rw [if_pos rfl] at H; exact H
      have H' := am H
      clear H
      try go_wp2
      have n0_ := am (below_drew1 HB.out)
      clear HB
      have HB := n0_
      clear n0_
      have p101 : 0 ≤ (x9_2 : Int) := od
      have q101 : x9_2 < (l0.length : Int) := od
      obtain ⟨ad101, A101_1, c101_1, e101, hx101_0, hx101_1, hl101_1, hi101_1⟩ := at_T69 HR0.out x9_2 p101 q101
      have hw101_1 := hx101_1
      have hw101_0 := hx101_0
      cases e101
      replace hx101_0 := oc HB.out hx101_0
      replace hx101_1 := oc HB.out hx101_1
      have HR101_1 := am hi101_1
      have HC101_1 := am hl101_1
      clear hi101_1 hl101_1
      replace p101 := eq_true p101
      replace q101 := eq_true q101
      have p102 : 0 ≤ (x9_2 : Int) := od
      have q102 : x9_2 < (l2.length : Int) := od
      obtain ⟨ad102, A102_1, c102_1, e102, hx102_0, hx102_1, hl102_1, hi102_1⟩ := at_T43 HR2.out x9_2 p102 q102
      have hw102_1 := hx102_1
      have hw102_0 := hx102_0
      cases e102
      replace hx102_0 := oc HB.out hx102_0
      replace hx102_1 := oc HB.out hx102_1
      have HR102_1 := am hi102_1
      have HC102_1 := am hl102_1
      clear hi102_1 hl102_1
      replace p102 := eq_true p102
      replace q102 := eq_true q102
      have p103 : 0 ≤ (x9_2 : Int) := od
      have q103 : x9_2 < (l0.length : Int) := od
      obtain ⟨ad103, A103_1, c103_1, e103, hx103_0, hx103_1, hl103_1, hi103_1⟩ := at_T69 HR0.out x9_2 p103 q103
      have hw103_1 := hx103_1
      have hw103_0 := hx103_0
      obtain rfl : ad101 = ad103 := (by injection e103)
      replace hx103_0 := oc HB.out hx103_0
      replace hx103_1 := oc HB.out hx103_1
      have HR103_1 := am hi103_1
      have HC103_1 := am hl103_1
      clear hi103_1 hl103_1
      replace p103 := eq_true p103
      replace q103 := eq_true q103
      have ea_ := Option.some.inj (hx101_1.symm.trans hx103_1)
      injection ea_ with ea_ en_ ec_
      subst ea_
      subst ec_
      clear en_
      have p104 : 0 ≤ (x9_2 : Int) := od
      have q104 : x9_2 < (l2.length : Int) := od
      obtain ⟨ad104, A104_1, c104_1, e104, hx104_0, hx104_1, hl104_1, hi104_1⟩ := at_T43 HR2.out x9_2 p104 q104
      have hw104_1 := hx104_1
      have hw104_0 := hx104_0
      obtain rfl : ad102 = ad104 := (by injection e104)
      replace hx104_0 := oc HB.out hx104_0
      replace hx104_1 := oc HB.out hx104_1
      have HR104_1 := am hi104_1
      have HC104_1 := am hl104_1
      clear hi104_1 hl104_1
      replace p104 := eq_true p104
      replace q104 := eq_true q104
      have ea_ := Option.some.inj (hx102_1.symm.trans hx104_1)
      injection ea_ with ea_ en_ ec_
      subst ea_
      subst ec_
      clear en_
      refine start_ (n := 25) (S := fun w' => w'.cell? (ad101.add ((x9_2).toNat * 2)) = some (.int .i64 ((rd_T69 l0 x9_2).f0)) ∧ w'.cell? ⟨(ad101.add ((x9_2).toNat * 2)).block, (ad101.add ((x9_2).toNat * 2)).off + 1, none⟩ = some (.slice A101_1 ((rd_T69 l0 x9_2).f1).length c101_1) ∧ w'.cell? (ad102.add ((x9_2).toNat * 2)) = some (.int .i64 ((rd_T43 l2 x9_2).f0)) ∧ w'.cell? ⟨(ad102.add ((x9_2).toNat * 2)).block, (ad102.add ((x9_2).toNat * 2)).off + 1, none⟩ = some (.slice A102_1 ((rd_T43 l2 x9_2).f1).length c102_1) ∧ w'.cell? (ad101.add ((x9_2).toNat * 2)) = some (.int .i64 ((rd_T69 l0 x9_2).f0)) ∧ w'.cell? ⟨(ad101.add ((x9_2).toNat * 2)).block, (ad101.add ((x9_2).toNat * 2)).off + 1, none⟩ = some (.slice A101_1 ((rd_T69 l0 x9_2).f1).length c101_1) ∧ w'.cell? (ad102.add ((x9_2).toNat * 2)) = some (.int .i64 ((rd_T43 l2 x9_2).f0)) ∧ w'.cell? ⟨(ad102.add ((x9_2).toNat * 2)).block, (ad102.add ((x9_2).toNat * 2)).off + 1, none⟩ = some (.slice A102_1 ((rd_T43 l2 x9_2).f1).length c102_1)) (ds := []) (bm 25 0) (by kernel_rfl) rfl rfl ⟨(oc HB.out hw101_0 :), (oc HB.out hw101_1 :), (oc HB.out hw102_0 :), (oc HB.out hw102_1 :), (oc HB.out hw103_0 :), (oc HB.out hw103_1 :), (oc HB.out hw104_0 :), (oc HB.out hw104_1 :)⟩ (fun hHeld => ?_); refine with_tabW gangwaylaw14_same.tab6 gangwaylaw14_same.bits6 (fun HT_ HW_ => ?_)
      generalize wr.drew = w14 at HB HR101_1 HR102_1 HR103_1 HR104_1 hx101_0 hx101_1 hx102_0 hx102_1 hx103_0 hx103_1 hx104_0 hx104_1 hHeld ⊢
      refine pure_ (i := 0) (N := some 29) (v := ?_) (a' := ?_) (bm 25 1) rfl rfl (any_of HT_.out (by kernel_rfl)) (fun _ _ _ h => h) (Or.inl ⟨by rfl, ?_⟩) ?_ ?_
      rotate_left
      ·
       intro w'
       go_simp
       with_reducible rfl
      rotate_left
      ·
       simp only [pz]
       rfl
      refine pure_ (i := 1) (N := some 30) (v := ?_) (a' := ?_) (bm 25 3) rfl rfl (any_of HT_.out (by kernel_rfl)) (fun _ _ _ h => h) (Or.inl ⟨by rfl, ?_⟩) ?_ ?_
      rotate_left
      ·
       intro w'
       go_simp
       with_reducible rfl
      rotate_left
      ·
       simp only [pz]
       rfl
      refine pure_ (i := 2) (N := some 31) (v := ?_) (a' := ?_) (bm 25 7) rfl rfl (any_of HT_.out (by kernel_rfl)) (fun _ _ _ h => h) (Or.inl ⟨by rfl, ?_⟩) ?_ ?_
      rotate_left
      ·
       intro w'
       go_simp
       with_reducible rfl
      rotate_left
      ·
       simp only [pz]
       rfl
      refine pure_ (i := 3) (N := some 32) (v := ?_) (a' := ?_) (bm 25 15) rfl rfl (any_of HT_.out (by kernel_rfl)) (fun _ _ _ h => h) (Or.inl ⟨by rfl, ?_⟩) ?_ ?_
      rotate_left
      ·
       intro w'
       go_simp
       with_reducible rfl
      rotate_left
      ·
       simp only [pz]
       rfl
      refine pure_ (i := 5) (N := some 34) (v := ?_) (a' := ?_) (bm 25 47) rfl rfl (any_of HT_.out (by kernel_rfl)) (fun _ _ _ h => h) (Or.inl ⟨by rfl, ?_⟩) ?_ ?_
      rotate_left
      ·
       intro w'
       go_simp
       with_reducible rfl
      rotate_left
      ·
       simp only [pz]
       rfl
      refine pure_ (i := 6) (N := some 35) (v := ?_) (a' := ?_) (bm 25 111) rfl rfl (any_of HT_.out (by kernel_rfl)) (fun _ _ _ h => h) (Or.inl ⟨by rfl, ?_⟩) ?_ ?_
      rotate_left
      ·
       intro w'
       go_simp
       with_reducible rfl
      rotate_left
      ·
       simp only [pz]
       rfl
      refine pure_ (i := 7) (N := some 36) (v := ?_) (a' := ?_) (bm 25 239) rfl rfl (any_of HT_.out (by kernel_rfl)) (fun _ _ _ h => h) (Or.inl ⟨by rfl, ?_⟩) ?_ ?_
      rotate_left
      ·
       intro w'
       go_simp
       with_reducible rfl
      rotate_left
      ·
       simp only [pz]
       rfl
      refine pure_ (i := 8) (N := some 37) (v := ?_) (a' := ?_) (bm 25 495) rfl rfl (any_of HT_.out (by kernel_rfl)) (fun _ _ _ h => h) (Or.inl ⟨by rfl, ?_⟩) ?_ ?_
      rotate_left
      ·
       intro w'
       go_simp
       with_reducible rfl
      rotate_left
      ·
       simp only [pz]
       rfl
      refine take_ (i := 4) (N := some 33) (v := ?_) (a' := ?_) (bm 25 511) rfl rfl (take_ofW HT_.out HW_.out (by kernel_rfl)) (fun _ _ _ h => h) (Or.inl ⟨by rfl, ?_⟩) hHeld ?_ ?_
      rotate_left
      ·
       rintro w' ⟨s0, s1, s2, s3, s4, s5, s6, s7⟩
       go_simp
       with_reducible rfl
      rotate_left
      ·
       simp only [pz]
       rfl
      refine take_ (i := 9) (N := some 38) (v := ?_) (a' := ?_) (bm 25 1023) rfl rfl (take_ofW HT_.out HW_.out (by kernel_rfl)) (fun _ _ _ h => h) (Or.inl ⟨by rfl, ?_⟩) hHeld ?_ ?_
      rotate_left
      ·
       rintro w' ⟨s0, s1, s2, s3, s4, s5, s6, s7⟩
       go_simp
       with_reducible rfl
      rotate_left
      ·
       simp only [pz]
       rfl
      refine pure_ (i := 10) (N := some 39) (v := ?_) (a' := ?_) (bm 25 2047) rfl rfl (any_of HT_.out (by kernel_rfl)) (fun _ _ _ h => h) (Or.inl ⟨by rfl, ?_⟩) ?_ ?_
      rotate_left
      ·
       intro w'
       go_simp
       with_reducible rfl
      rotate_left
      ·
       simp only [pz]
       rfl
      refine pure_ (i := 11) (N := some 40) (v := ?_) (a' := ?_) (bm 25 4095) rfl rfl (any_of HT_.out (by kernel_rfl)) (fun _ _ _ h => h) (Or.inl ⟨by rfl, ?_⟩) ?_ ?_
      rotate_left
      ·
       intro w'
       go_simp
       with_reducible rfl
      rotate_left
      ·
       simp only [pz]
       rfl
      refine pure_ (i := 12) (N := some 41) (v := ?_) (a' := ?_) (bm 25 8191) rfl rfl (any_of HT_.out (by kernel_rfl)) (fun _ _ _ h => h) (Or.inl ⟨by rfl, ?_⟩) ?_ ?_
      rotate_left
      ·
       intro w'
       go_simp
       with_reducible rfl
      rotate_left
      ·
       simp only [pz]
       rfl
      refine pure_ (i := 13) (N := some 42) (v := ?_) (a' := ?_) (bm 25 16383) rfl rfl (any_of HT_.out (by kernel_rfl)) (fun _ _ _ h => h) (Or.inl ⟨by rfl, ?_⟩) ?_ ?_
      rotate_left
      ·
       intro w'
       go_simp
       with_reducible rfl
      rotate_left
      ·
       simp only [pz]
       rfl
      refine pure_ (i := 14) (N := some 43) (v := ?_) (a' := ?_) (bm 25 32767) rfl rfl (any_of HT_.out (by kernel_rfl)) (fun _ _ _ h => h) (Or.inl ⟨by rfl, ?_⟩) ?_ ?_
      rotate_left
      ·
       intro w'
       go_simp
       with_reducible rfl
      rotate_left
      ·
       simp only [pz]
       rfl
      refine pure_ (i := 15) (N := some 44) (v := ?_) (a' := ?_) (bm 25 65535) rfl rfl (any_of HT_.out (by kernel_rfl)) (fun _ _ _ h => h) (Or.inl ⟨by rfl, ?_⟩) ?_ ?_
      rotate_left
      ·
       intro w'
       go_simp
       with_reducible rfl
      rotate_left
      ·
       simp only [pz]
       rfl
      refine pure_ (i := 17) (N := some 46) (v := ?_) (a' := ?_) (bm 25 196607) rfl rfl (any_of HT_.out (by kernel_rfl)) (fun _ _ _ h => h) (Or.inl ⟨by rfl, ?_⟩) ?_ ?_
      rotate_left
      ·
       intro w'
       go_simp
       with_reducible rfl
      rotate_left
      ·
       simp only [pz]
       rfl
      refine pure_ (i := 18) (N := some 47) (v := ?_) (a' := ?_) (bm 25 458751) rfl rfl (any_of HT_.out (by kernel_rfl)) (fun _ _ _ h => h) (Or.inl ⟨by rfl, ?_⟩) ?_ ?_
      rotate_left
      ·
       intro w'
       go_simp
       with_reducible rfl
      rotate_left
      ·
       simp only [pz]
       rfl
      refine pure_ (i := 19) (N := some 48) (v := ?_) (a' := ?_) (bm 25 983039) rfl rfl (any_of HT_.out (by kernel_rfl)) (fun _ _ _ h => h) (Or.inl ⟨by rfl, ?_⟩) ?_ ?_
      rotate_left
      ·
       intro w'
       go_simp
       with_reducible rfl
      rotate_left
      ·
       simp only [pz]
       rfl
      refine pure_ (i := 20) (N := some 49) (v := ?_) (a' := ?_) (bm 25 2031615) rfl rfl (any_of HT_.out (by kernel_rfl)) (fun _ _ _ h => h) (Or.inl ⟨by rfl, ?_⟩) ?_ ?_
      rotate_left
      ·
       intro w'
       go_simp
       with_reducible rfl
      rotate_left
      ·
       simp only [pz]
       rfl
      refine take_ (i := 16) (N := some 45) (v := ?_) (a' := ?_) (bm 25 2097151) rfl rfl (take_ofW HT_.out HW_.out (by kernel_rfl)) (fun _ _ _ h => h) (Or.inl ⟨by rfl, ?_⟩) hHeld ?_ ?_
      rotate_left
      ·
       rintro w' ⟨s0, s1, s2, s3, s4, s5, s6, s7⟩
       go_simp
       with_reducible rfl
      rotate_left
      ·
       simp only [pz]
       rfl
      refine take_ (i := 21) (N := some 50) (v := ?_) (a' := ?_) (bm 25 4194303) rfl rfl (take_ofW HT_.out HW_.out (by kernel_rfl)) (fun _ _ _ h => h) (Or.inl ⟨by rfl, ?_⟩) hHeld ?_ ?_
      rotate_left
      ·
       rintro w' ⟨s0, s1, s2, s3, s4, s5, s6, s7⟩
       go_simp
       with_reducible rfl
      rotate_left
      ·
       simp only [pz]
       rfl
      refine one_ (i := 22) (N := some 51) (bm 25 8388607) rfl rfl (one_of HT_.out (by kernel_rfl)) (by decide) (fun K hK => ?_)
      refine goes_ Try.func35 (by kernel_rfl) rfl #[.slice A101_1 ((rd_T69 l0 x9_2).f1).length c101_1, .slice A102_1 ((rd_T43 l2 x9_2).f1).length c102_1] (by rfl) rfl rfl (by simp only [ml]; try rfl) ?_
      with_reducible refine (gangwaylaw14_sameOps.calls k2 _ _ ((rd_T69 l0 x9_2).f1) _ _ ((rd_T43 l2 x9_2).f1) true _ ?side1 ?side2 ?side3 ?side4 A12.out).mono ?_
      (case side1 => exact Kd.C_o (Kd.C_below HR103_1.out HB.out))
      (case side2 => exact HC103_1.out)
      (case side3 => exact Kd.C_o (Kd.C_below HR104_1.out HB.out))
      (case side4 => exact HC104_1.out)
      rintro e w' ⟨rfl, ⟨nd, rfl⟩⟩
      refine ⟨_, rfl, ?_⟩
      refine hK.out _ _ ⟨(oc HB.out hw101_0 :), (oc HB.out hw101_1 :), (oc HB.out hw102_0 :), (oc HB.out hw102_1 :), (oc HB.out hw103_0 :), (oc HB.out hw103_1 :), (oc HB.out hw104_0 :), (oc HB.out hw104_1 :)⟩ (fun hHeld => ?_)
      clear hK K
      refine norm_ (a' := ?_) ?_ ?_
      rotate_left
      ·
       show Act.put _ (some 51) _ = _
       simp only [pz]
       rfl
      refine pure_ (i := 23) (N := some 52) (v := ?_) (a' := ?_) (bm 25 16777215) rfl rfl (any_of HT_.out (by kernel_rfl)) (fun _ _ _ h => h) (Or.inl ⟨by rfl, ?_⟩) ?_ ?_
      rotate_left
      ·
       intro w'
       go_simp
       with_reducible rfl
      rotate_left
      ·
       simp only [pz]
       rfl
      refine pure_ (i := 24) (N := some 53) (v := ?_) (a' := ?_) (bm 25 33554431) rfl rfl (any_of HT_.out (by kernel_rfl)) (fun _ _ _ h => h) (Or.inl ⟨by rfl, ?_⟩) ?_ ?_
      rotate_left
      ·
       intro w'
       go_simp
       with_reducible rfl
      rotate_left
      ·
       simp only [pz]
       rfl
      refine done_ (done_of HT_.out (by kernel_rfl)) ?_
      try go_wp2
      go_roundg k2
      case measure => have := HJ4.out; have := HK2.out; omega
      case rel => exact ⟨(wrap64 (x9_2 + 1)), (by first | rfl | (simp; done) | (simp [*]; done)), H', ⟨by have := HJ4.out; have := HK2.out; omega⟩, ⟨by exact bl_g HB.out⟩⟩
     rw [if_neg c8] at H
     have c8b0 : decide (x9_2 < (l2.length : Int)) = false := decide_eq_false c8
     clear c8
     have H' := am H
     clear H
     go_wp2
     go_loopg [10] k2 (fun kq v10 w' => ∃ (x10_3 : Int), v10 = .int .i64 x10_3 ∧ Aside0 (gangwaylaw14_same.l1 kq l1 l3 x10_3 = some r) ∧ Aside0 (kq ≤ k2) ∧ Aside0 (Below w.heap.size w w'))
     case atStart => exact ⟨(0), (by first | rfl | (simp; done) | (simp [*]; done)), H', ⟨Nat.le_refl _⟩, ⟨by exact bl_g HB.out⟩⟩
     case round =>
      clear H'
      try clear c1
      try clear p1
      try clear q1
      try clear hx1
      try clear c2
      try clear p2
      try clear c3
      try clear c6
      try clear c6b0
      try clear c6b1
      try clear c6b2
      try clear p6
      try clear c7
      try clear c8
      try clear c8b0
      try clear c9
      try clear c9b0
      try clear c10
      try clear c10b0
      try clear p10
      try clear q10
      try clear hx10
      try clear c11
      try clear c11b0
      try clear c11b1
      try clear c13
      try clear c14
      try clear hx101_0
      try clear hx101_1
      try clear hx102_0
      try clear hx102_1
      try clear hx103_0
      try clear hx103_1
      try clear hx104_0
      try clear hx104_1
      try clear p101
      try clear p102
      try clear p103
      try clear p104
      try clear p2
      try clear q101
      try clear q102
      try clear q103
      try clear q104
      obtain ⟨x10_3, rfl, HA, HK3, HB⟩ := hrel
      cases gk with
      | zero => exact absurd HA.out (by simp [gangwaylaw14_same.l1])
      | succ k3 =>
       have H := HA.out
       clear HA
       simp only [gangwaylaw14_same.l1] at H
       by_cases c15 : x10_3 < (l3.length : Int)
       rotate_left
       ·
        rw [if_neg c15] at H
        have c15b0 : decide (x10_3 < (l3.length : Int)) = false := decide_eq_false c15
        clear c15
        obtain rfl := Option.some.inj H
        go_wp2
        go_ret
        exact ⟨rfl, by exact bl_g HB.out⟩
       rw [if_pos c15] at H
       have c15b0 : decide (x10_3 < (l3.length : Int)) = true := decide_eq_true c15
       clear c15
       by_cases c16 : 0 ≤ x10_3
       rotate_left
       ·
        rw [if_neg c16] at H
        exact absurd H (by simp)
       rw [if_pos c16] at H
       have c16b0 : decide (0 ≤ x10_3) = true := decide_eq_true c16
       clear c16
       by_cases c17 : x10_3 < (l1.length : Int)
       rotate_left
       ·
        rw [if_neg c17] at H
        exact absurd H (by simp)
       rw [if_pos c17] at H
       have c17b0 : decide (x10_3 < (l1.length : Int)) = true := decide_eq_true c17
       clear c17
       by_cases c18 : ((rd_T46 l1 x10_3).f0) = ((rd_T61 l3 x10_3).f0)
       rotate_left
       ·
        rw [if_neg c18] at H
        have c18b0 : (((rd_T46 l1 x10_3).f0) == ((rd_T61 l3 x10_3).f0)) = false := beq_eq_false_iff_ne.mpr c18
        have c18b1 : (((rd_T46 l1 x10_3).f0) != ((rd_T61 l3 x10_3).f0)) = true := bne_iff_ne.mpr c18
        exact absurd H (by simp)
       rw [if_pos c18] at H
       have c18b0 : (((rd_T46 l1 x10_3).f0) == ((rd_T61 l3 x10_3).f0)) = true := beq_iff_eq.mpr c18
       have c18b1 : (((rd_T46 l1 x10_3).f0) != ((rd_T61 l3 x10_3).f0)) = false := bne_eq_false_iff_eq.mpr c18
       clear c18
       by_cases c19 : ((rd_T46 l1 x10_3).f1) = ((rd_T61 l3 x10_3).f1)
       rotate_left
       ·
        rw [if_neg c19] at H
        have c19b0 : (((rd_T46 l1 x10_3).f1) == ((rd_T61 l3 x10_3).f1)) = false := beq_eq_false_iff_ne.mpr c19
        have c19b1 : (((rd_T46 l1 x10_3).f1) != ((rd_T61 l3 x10_3).f1)) = true := bne_iff_ne.mpr c19
        exact absurd H (by simp)
       rw [if_pos c19] at H
       have c19b0 : (((rd_T46 l1 x10_3).f1) == ((rd_T61 l3 x10_3).f1)) = true := beq_iff_eq.mpr c19
       have c19b1 : (((rd_T46 l1 x10_3).f1) != ((rd_T61 l3 x10_3).f1)) = false := bne_eq_false_iff_eq.mpr c19
       clear c19
       by_cases c20 : ((rd_T46 l1 x10_3).f2) = ((rd_T61 l3 x10_3).f2)
       rotate_left
       ·
        rw [if_neg c20] at H
        have c20b0 : (((rd_T46 l1 x10_3).f2) == ((rd_T61 l3 x10_3).f2)) = false := beq_eq_false_iff_ne.mpr c20
        have c20b1 : (((rd_T46 l1 x10_3).f2) != ((rd_T61 l3 x10_3).f2)) = true := bne_iff_ne.mpr c20
        exact absurd H (by simp)
       rw [if_pos c20] at H
       have c20b0 : (((rd_T46 l1 x10_3).f2) == ((rd_T61 l3 x10_3).f2)) = true := beq_iff_eq.mpr c20
       have c20b1 : (((rd_T46 l1 x10_3).f2) != ((rd_T61 l3 x10_3).f2)) = false := bne_eq_false_iff_eq.mpr c20
       clear c20
       replace H := Option.bind_eq_some_iff.mp H
       obtain ⟨t114, A210, H⟩ := H
       replace H : (if t114 = true then (gangwaylaw14_same.l1 k3 l1 l3 (wrap64 (x10_3 + 1))) else (none)) = some r := H
       have A21 := am A210
       clear A210
       by_cases c22 : t114 = true
       rotate_left
       ·
        replace c22 := Bool.eq_false_iff.mpr c22
        subst c22
        replace H : (none) = some r := by rw [if_neg (show ¬ (false = true) by decide)] at H; exact H
        exact absurd H (by simp)
       subst c22
       replace H : (gangwaylaw14_same.l1 k3 l1 l3 (wrap64 (x10_3 + 1))) = some r := by rw [if_pos rfl] at H; exact H
       have H' := am H
       clear H
       try go_wp2
       have n0_ := am (below_drew1 HB.out)
       clear HB
       have HB := n0_
       clear n0_
       have p106 : 0 ≤ (x10_3 : Int) := od
       have q106 : x10_3 < (l1.length : Int) := od
       obtain ⟨ad106, A106_3, c106_3, e106, hx106_0, hx106_1, hx106_2, hx106_3, hl106_3, hi106_3⟩ := at_T46 HR1.out x10_3 p106 q106
       have hw106_3 := hx106_3
       have hw106_2 := hx106_2
       have hw106_1 := hx106_1
       have hw106_0 := hx106_0
       cases e106
       replace hx106_0 := oc HB.out hx106_0
       replace hx106_1 := oc HB.out hx106_1
       replace hx106_2 := oc HB.out hx106_2
       replace hx106_3 := oc HB.out hx106_3
       have HR106_3 := am hi106_3
       have HC106_3 := am hl106_3
       clear hi106_3 hl106_3
       replace p106 := eq_true p106
       replace q106 := eq_true q106
       have p107 : 0 ≤ (x10_3 : Int) := od
       have q107 : x10_3 < (l3.length : Int) := od
       obtain ⟨ad107, A107_3, c107_3, e107, hx107_0, hx107_1, hx107_2, hx107_3, hl107_3, hi107_3⟩ := at_T61 HR3.out x10_3 p107 q107
       have hw107_3 := hx107_3
       have hw107_2 := hx107_2
       have hw107_1 := hx107_1
       have hw107_0 := hx107_0
       cases e107
       replace hx107_0 := oc HB.out hx107_0
       replace hx107_1 := oc HB.out hx107_1
       replace hx107_2 := oc HB.out hx107_2
       replace hx107_3 := oc HB.out hx107_3
       have HR107_3 := am hi107_3
       have HC107_3 := am hl107_3
       clear hi107_3 hl107_3
       replace p107 := eq_true p107
       replace q107 := eq_true q107
       have p108 : 0 ≤ (x10_3 : Int) := od
       have q108 : x10_3 < (l1.length : Int) := od
       obtain ⟨ad108, A108_3, c108_3, e108, hx108_0, hx108_1, hx108_2, hx108_3, hl108_3, hi108_3⟩ := at_T46 HR1.out x10_3 p108 q108
       have hw108_3 := hx108_3
       have hw108_2 := hx108_2
       have hw108_1 := hx108_1
       have hw108_0 := hx108_0
       obtain rfl : ad106 = ad108 := (by injection e108)
       replace hx108_0 := oc HB.out hx108_0
       replace hx108_1 := oc HB.out hx108_1
       replace hx108_2 := oc HB.out hx108_2
       replace hx108_3 := oc HB.out hx108_3
       have HR108_3 := am hi108_3
       have HC108_3 := am hl108_3
       clear hi108_3 hl108_3
       replace p108 := eq_true p108
       replace q108 := eq_true q108
       have ea_ := Option.some.inj (hx106_3.symm.trans hx108_3)
       injection ea_ with ea_ en_ ec_
       subst ea_
       subst ec_
       clear en_
       have p109 : 0 ≤ (x10_3 : Int) := od
       have q109 : x10_3 < (l3.length : Int) := od
       obtain ⟨ad109, A109_3, c109_3, e109, hx109_0, hx109_1, hx109_2, hx109_3, hl109_3, hi109_3⟩ := at_T61 HR3.out x10_3 p109 q109
       have hw109_3 := hx109_3
       have hw109_2 := hx109_2
       have hw109_1 := hx109_1
       have hw109_0 := hx109_0
       obtain rfl : ad107 = ad109 := (by injection e109)
       replace hx109_0 := oc HB.out hx109_0
       replace hx109_1 := oc HB.out hx109_1
       replace hx109_2 := oc HB.out hx109_2
       replace hx109_3 := oc HB.out hx109_3
       have HR109_3 := am hi109_3
       have HC109_3 := am hl109_3
       clear hi109_3 hl109_3
       replace p109 := eq_true p109
       replace q109 := eq_true q109
       have ea_ := Option.some.inj (hx107_3.symm.trans hx109_3)
       injection ea_ with ea_ en_ ec_
       subst ea_
       subst ec_
       clear en_
       have p110 : 0 ≤ (x10_3 : Int) := od
       have q110 : x10_3 < (l1.length : Int) := od
       obtain ⟨ad110, A110_3, c110_3, e110, hx110_0, hx110_1, hx110_2, hx110_3, hl110_3, hi110_3⟩ := at_T46 HR1.out x10_3 p110 q110
       have hw110_3 := hx110_3
       have hw110_2 := hx110_2
       have hw110_1 := hx110_1
       have hw110_0 := hx110_0
       obtain rfl : ad106 = ad110 := (by injection e110)
       replace hx110_0 := oc HB.out hx110_0
       replace hx110_1 := oc HB.out hx110_1
       replace hx110_2 := oc HB.out hx110_2
       replace hx110_3 := oc HB.out hx110_3
       have HR110_3 := am hi110_3
       have HC110_3 := am hl110_3
       clear hi110_3 hl110_3
       replace p110 := eq_true p110
       replace q110 := eq_true q110
       have ea_ := Option.some.inj (hx106_3.symm.trans hx110_3)
       injection ea_ with ea_ en_ ec_
       subst ea_
       subst ec_
       clear en_
       have p111 : 0 ≤ (x10_3 : Int) := od
       have q111 : x10_3 < (l3.length : Int) := od
       obtain ⟨ad111, A111_3, c111_3, e111, hx111_0, hx111_1, hx111_2, hx111_3, hl111_3, hi111_3⟩ := at_T61 HR3.out x10_3 p111 q111
       have hw111_3 := hx111_3
       have hw111_2 := hx111_2
       have hw111_1 := hx111_1
       have hw111_0 := hx111_0
       obtain rfl : ad107 = ad111 := (by injection e111)
       replace hx111_0 := oc HB.out hx111_0
       replace hx111_1 := oc HB.out hx111_1
       replace hx111_2 := oc HB.out hx111_2
       replace hx111_3 := oc HB.out hx111_3
       have HR111_3 := am hi111_3
       have HC111_3 := am hl111_3
       clear hi111_3 hl111_3
       replace p111 := eq_true p111
       replace q111 := eq_true q111
       have ea_ := Option.some.inj (hx107_3.symm.trans hx111_3)
       injection ea_ with ea_ en_ ec_
       subst ea_
       subst ec_
       clear en_
       have p112 : 0 ≤ (x10_3 : Int) := od
       have q112 : x10_3 < (l1.length : Int) := od
       obtain ⟨ad112, A112_3, c112_3, e112, hx112_0, hx112_1, hx112_2, hx112_3, hl112_3, hi112_3⟩ := at_T46 HR1.out x10_3 p112 q112
       have hw112_3 := hx112_3
       have hw112_2 := hx112_2
       have hw112_1 := hx112_1
       have hw112_0 := hx112_0
       obtain rfl : ad106 = ad112 := (by injection e112)
       replace hx112_0 := oc HB.out hx112_0
       replace hx112_1 := oc HB.out hx112_1
       replace hx112_2 := oc HB.out hx112_2
       replace hx112_3 := oc HB.out hx112_3
       have HR112_3 := am hi112_3
       have HC112_3 := am hl112_3
       clear hi112_3 hl112_3
       replace p112 := eq_true p112
       replace q112 := eq_true q112
       have ea_ := Option.some.inj (hx106_3.symm.trans hx112_3)
       injection ea_ with ea_ en_ ec_
       subst ea_
       subst ec_
       clear en_
       have p113 : 0 ≤ (x10_3 : Int) := od
       have q113 : x10_3 < (l3.length : Int) := od
       obtain ⟨ad113, A113_3, c113_3, e113, hx113_0, hx113_1, hx113_2, hx113_3, hl113_3, hi113_3⟩ := at_T61 HR3.out x10_3 p113 q113
       have hw113_3 := hx113_3
       have hw113_2 := hx113_2
       have hw113_1 := hx113_1
       have hw113_0 := hx113_0
       obtain rfl : ad107 = ad113 := (by injection e113)
       replace hx113_0 := oc HB.out hx113_0
       replace hx113_1 := oc HB.out hx113_1
       replace hx113_2 := oc HB.out hx113_2
       replace hx113_3 := oc HB.out hx113_3
       have HR113_3 := am hi113_3
       have HC113_3 := am hl113_3
       clear hi113_3 hl113_3
       replace p113 := eq_true p113
       replace q113 := eq_true q113
       have ea_ := Option.some.inj (hx107_3.symm.trans hx113_3)
       injection ea_ with ea_ en_ ec_
       subst ea_
       subst ec_
       clear en_
       refine start_ (n := 51) (S := fun w' => w'.cell? (ad106.add ((x10_3).toNat * 4)) = some (.int .i64 ((rd_T46 l1 x10_3).f0)) ∧ w'.cell? ⟨(ad106.add ((x10_3).toNat * 4)).block, (ad106.add ((x10_3).toNat * 4)).off + 1, none⟩ = some (.int .i64 ((rd_T46 l1 x10_3).f1)) ∧ w'.cell? ⟨(ad106.add ((x10_3).toNat * 4)).block, (ad106.add ((x10_3).toNat * 4)).off + 2, none⟩ = some (.int .i64 ((rd_T46 l1 x10_3).f2)) ∧ w'.cell? ⟨(ad106.add ((x10_3).toNat * 4)).block, (ad106.add ((x10_3).toNat * 4)).off + 3, none⟩ = some (.slice A106_3 ((rd_T46 l1 x10_3).f3).length c106_3) ∧ w'.cell? (ad107.add ((x10_3).toNat * 4)) = some (.int .i64 ((rd_T61 l3 x10_3).f0)) ∧ w'.cell? ⟨(ad107.add ((x10_3).toNat * 4)).block, (ad107.add ((x10_3).toNat * 4)).off + 1, none⟩ = some (.int .i64 ((rd_T61 l3 x10_3).f1)) ∧ w'.cell? ⟨(ad107.add ((x10_3).toNat * 4)).block, (ad107.add ((x10_3).toNat * 4)).off + 2, none⟩ = some (.int .i64 ((rd_T61 l3 x10_3).f2)) ∧ w'.cell? ⟨(ad107.add ((x10_3).toNat * 4)).block, (ad107.add ((x10_3).toNat * 4)).off + 3, none⟩ = some (.slice A107_3 ((rd_T61 l3 x10_3).f3).length c107_3) ∧ w'.cell? (ad106.add ((x10_3).toNat * 4)) = some (.int .i64 ((rd_T46 l1 x10_3).f0)) ∧ w'.cell? ⟨(ad106.add ((x10_3).toNat * 4)).block, (ad106.add ((x10_3).toNat * 4)).off + 1, none⟩ = some (.int .i64 ((rd_T46 l1 x10_3).f1)) ∧ w'.cell? ⟨(ad106.add ((x10_3).toNat * 4)).block, (ad106.add ((x10_3).toNat * 4)).off + 2, none⟩ = some (.int .i64 ((rd_T46 l1 x10_3).f2)) ∧ w'.cell? ⟨(ad106.add ((x10_3).toNat * 4)).block, (ad106.add ((x10_3).toNat * 4)).off + 3, none⟩ = some (.slice A106_3 ((rd_T46 l1 x10_3).f3).length c106_3) ∧ w'.cell? (ad107.add ((x10_3).toNat * 4)) = some (.int .i64 ((rd_T61 l3 x10_3).f0)) ∧ w'.cell? ⟨(ad107.add ((x10_3).toNat * 4)).block, (ad107.add ((x10_3).toNat * 4)).off + 1, none⟩ = some (.int .i64 ((rd_T61 l3 x10_3).f1)) ∧ w'.cell? ⟨(ad107.add ((x10_3).toNat * 4)).block, (ad107.add ((x10_3).toNat * 4)).off + 2, none⟩ = some (.int .i64 ((rd_T61 l3 x10_3).f2)) ∧ w'.cell? ⟨(ad107.add ((x10_3).toNat * 4)).block, (ad107.add ((x10_3).toNat * 4)).off + 3, none⟩ = some (.slice A107_3 ((rd_T61 l3 x10_3).f3).length c107_3) ∧ w'.cell? (ad106.add ((x10_3).toNat * 4)) = some (.int .i64 ((rd_T46 l1 x10_3).f0)) ∧ w'.cell? ⟨(ad106.add ((x10_3).toNat * 4)).block, (ad106.add ((x10_3).toNat * 4)).off + 1, none⟩ = some (.int .i64 ((rd_T46 l1 x10_3).f1)) ∧ w'.cell? ⟨(ad106.add ((x10_3).toNat * 4)).block, (ad106.add ((x10_3).toNat * 4)).off + 2, none⟩ = some (.int .i64 ((rd_T46 l1 x10_3).f2)) ∧ w'.cell? ⟨(ad106.add ((x10_3).toNat * 4)).block, (ad106.add ((x10_3).toNat * 4)).off + 3, none⟩ = some (.slice A106_3 ((rd_T46 l1 x10_3).f3).length c106_3) ∧ w'.cell? (ad107.add ((x10_3).toNat * 4)) = some (.int .i64 ((rd_T61 l3 x10_3).f0)) ∧ w'.cell? ⟨(ad107.add ((x10_3).toNat * 4)).block, (ad107.add ((x10_3).toNat * 4)).off + 1, none⟩ = some (.int .i64 ((rd_T61 l3 x10_3).f1)) ∧ w'.cell? ⟨(ad107.add ((x10_3).toNat * 4)).block, (ad107.add ((x10_3).toNat * 4)).off + 2, none⟩ = some (.int .i64 ((rd_T61 l3 x10_3).f2)) ∧ w'.cell? ⟨(ad107.add ((x10_3).toNat * 4)).block, (ad107.add ((x10_3).toNat * 4)).off + 3, none⟩ = some (.slice A107_3 ((rd_T61 l3 x10_3).f3).length c107_3) ∧ w'.cell? (ad106.add ((x10_3).toNat * 4)) = some (.int .i64 ((rd_T46 l1 x10_3).f0)) ∧ w'.cell? ⟨(ad106.add ((x10_3).toNat * 4)).block, (ad106.add ((x10_3).toNat * 4)).off + 1, none⟩ = some (.int .i64 ((rd_T46 l1 x10_3).f1)) ∧ w'.cell? ⟨(ad106.add ((x10_3).toNat * 4)).block, (ad106.add ((x10_3).toNat * 4)).off + 2, none⟩ = some (.int .i64 ((rd_T46 l1 x10_3).f2)) ∧ w'.cell? ⟨(ad106.add ((x10_3).toNat * 4)).block, (ad106.add ((x10_3).toNat * 4)).off + 3, none⟩ = some (.slice A106_3 ((rd_T46 l1 x10_3).f3).length c106_3) ∧ w'.cell? (ad107.add ((x10_3).toNat * 4)) = some (.int .i64 ((rd_T61 l3 x10_3).f0)) ∧ w'.cell? ⟨(ad107.add ((x10_3).toNat * 4)).block, (ad107.add ((x10_3).toNat * 4)).off + 1, none⟩ = some (.int .i64 ((rd_T61 l3 x10_3).f1)) ∧ w'.cell? ⟨(ad107.add ((x10_3).toNat * 4)).block, (ad107.add ((x10_3).toNat * 4)).off + 2, none⟩ = some (.int .i64 ((rd_T61 l3 x10_3).f2)) ∧ w'.cell? ⟨(ad107.add ((x10_3).toNat * 4)).block, (ad107.add ((x10_3).toNat * 4)).off + 3, none⟩ = some (.slice A107_3 ((rd_T61 l3 x10_3).f3).length c107_3)) (ds := []) (bm 51 0) (by kernel_rfl) rfl rfl ⟨(oc HB.out hw106_0 :), (oc HB.out hw106_1 :), (oc HB.out hw106_2 :), (oc HB.out hw106_3 :), (oc HB.out hw107_0 :), (oc HB.out hw107_1 :), (oc HB.out hw107_2 :), (oc HB.out hw107_3 :), (oc HB.out hw108_0 :), (oc HB.out hw108_1 :), (oc HB.out hw108_2 :), (oc HB.out hw108_3 :), (oc HB.out hw109_0 :), (oc HB.out hw109_1 :), (oc HB.out hw109_2 :), (oc HB.out hw109_3 :), (oc HB.out hw110_0 :), (oc HB.out hw110_1 :), (oc HB.out hw110_2 :), (oc HB.out hw110_3 :), (oc HB.out hw111_0 :), (oc HB.out hw111_1 :), (oc HB.out hw111_2 :), (oc HB.out hw111_3 :), (oc HB.out hw112_0 :), (oc HB.out hw112_1 :), (oc HB.out hw112_2 :), (oc HB.out hw112_3 :), (oc HB.out hw113_0 :), (oc HB.out hw113_1 :), (oc HB.out hw113_2 :), (oc HB.out hw113_3 :)⟩ (fun hHeld => ?_); refine with_tabW gangwaylaw14_same.tab11 gangwaylaw14_same.bits11 (fun HT_ HW_ => ?_)
       generalize wr.drew = w23 at HB HR106_3 HR107_3 HR108_3 HR109_3 HR110_3 HR111_3 HR112_3 HR113_3 hx106_0 hx106_1 hx106_2 hx106_3 hx107_0 hx107_1 hx107_2 hx107_3 hx108_0 hx108_1 hx108_2 hx108_3 hx109_0 hx109_1 hx109_2 hx109_3 hx110_0 hx110_1 hx110_2 hx110_3 hx111_0 hx111_1 hx111_2 hx111_3 hx112_0 hx112_1 hx112_2 hx112_3 hx113_0 hx113_1 hx113_2 hx113_3 hHeld ⊢
       refine pure_ (i := 0) (N := some 60) (v := ?_) (a' := ?_) (bm 51 1) rfl rfl (any_of HT_.out (by kernel_rfl)) (fun _ _ _ h => h) (Or.inl ⟨by rfl, ?_⟩) ?_ ?_
       rotate_left
       ·
        intro w'
        go_simp
        with_reducible rfl
       rotate_left
       ·
        simp only [pz]
        rfl
       refine pure_ (i := 1) (N := some 61) (v := ?_) (a' := ?_) (bm 51 3) rfl rfl (any_of HT_.out (by kernel_rfl)) (fun _ _ _ h => h) (Or.inl ⟨by rfl, ?_⟩) ?_ ?_
       rotate_left
       ·
        intro w'
        go_simp
        with_reducible rfl
       rotate_left
       ·
        simp only [pz]
        rfl
       refine pure_ (i := 2) (N := some 62) (v := ?_) (a' := ?_) (bm 51 7) rfl rfl (any_of HT_.out (by kernel_rfl)) (fun _ _ _ h => h) (Or.inl ⟨by rfl, ?_⟩) ?_ ?_
       rotate_left
       ·
        intro w'
        go_simp
        with_reducible rfl
       rotate_left
       ·
        simp only [pz]
        rfl
       refine pure_ (i := 3) (N := some 63) (v := ?_) (a' := ?_) (bm 51 15) rfl rfl (any_of HT_.out (by kernel_rfl)) (fun _ _ _ h => h) (Or.inl ⟨by rfl, ?_⟩) ?_ ?_
       rotate_left
       ·
        intro w'
        go_simp
        with_reducible rfl
       rotate_left
       ·
        simp only [pz]
        rfl
       refine pure_ (i := 5) (N := some 65) (v := ?_) (a' := ?_) (bm 51 47) rfl rfl (any_of HT_.out (by kernel_rfl)) (fun _ _ _ h => h) (Or.inl ⟨by rfl, ?_⟩) ?_ ?_
       rotate_left
       ·
        intro w'
        go_simp
        with_reducible rfl
       rotate_left
       ·
        simp only [pz]
        rfl
       refine pure_ (i := 6) (N := some 66) (v := ?_) (a' := ?_) (bm 51 111) rfl rfl (any_of HT_.out (by kernel_rfl)) (fun _ _ _ h => h) (Or.inl ⟨by rfl, ?_⟩) ?_ ?_
       rotate_left
       ·
        intro w'
        go_simp
        with_reducible rfl
       rotate_left
       ·
        simp only [pz]
        rfl
       refine pure_ (i := 7) (N := some 67) (v := ?_) (a' := ?_) (bm 51 239) rfl rfl (any_of HT_.out (by kernel_rfl)) (fun _ _ _ h => h) (Or.inl ⟨by rfl, ?_⟩) ?_ ?_
       rotate_left
       ·
        intro w'
        go_simp
        with_reducible rfl
       rotate_left
       ·
        simp only [pz]
        rfl
       refine pure_ (i := 8) (N := some 68) (v := ?_) (a' := ?_) (bm 51 495) rfl rfl (any_of HT_.out (by kernel_rfl)) (fun _ _ _ h => h) (Or.inl ⟨by rfl, ?_⟩) ?_ ?_
       rotate_left
       ·
        intro w'
        go_simp
        with_reducible rfl
       rotate_left
       ·
        simp only [pz]
        rfl
       refine take_ (i := 4) (N := some 64) (v := ?_) (a' := ?_) (bm 51 511) rfl rfl (take_ofW HT_.out HW_.out (by kernel_rfl)) (fun _ _ _ h => h) (Or.inl ⟨by rfl, ?_⟩) hHeld ?_ ?_
       rotate_left
       ·
        rintro w' ⟨s0, s1, s2, s3, s4, s5, s6, s7, s8, s9, s10, s11, s12, s13, s14, s15, s16, s17, s18, s19, s20, s21, s22, s23, s24, s25, s26, s27, s28, s29, s30, s31⟩
        go_simp
        with_reducible rfl
       rotate_left
       ·
        simp only [pz]
        rfl
       refine take_ (i := 9) (N := some 69) (v := ?_) (a' := ?_) (bm 51 1023) rfl rfl (take_ofW HT_.out HW_.out (by kernel_rfl)) (fun _ _ _ h => h) (Or.inl ⟨by rfl, ?_⟩) hHeld ?_ ?_
       rotate_left
       ·
        rintro w' ⟨s0, s1, s2, s3, s4, s5, s6, s7, s8, s9, s10, s11, s12, s13, s14, s15, s16, s17, s18, s19, s20, s21, s22, s23, s24, s25, s26, s27, s28, s29, s30, s31⟩
        go_simp
        with_reducible rfl
       rotate_left
       ·
        simp only [pz]
        rfl
       refine pure_ (i := 10) (N := some 70) (v := ?_) (a' := ?_) (bm 51 2047) rfl rfl (any_of HT_.out (by kernel_rfl)) (fun _ _ _ h => h) (Or.inl ⟨by rfl, ?_⟩) ?_ ?_
       rotate_left
       ·
        intro w'
        go_simp
        with_reducible rfl
       rotate_left
       ·
        simp only [pz]
        rfl
       refine pure_ (i := 11) (N := some 71) (v := ?_) (a' := ?_) (bm 51 4095) rfl rfl (any_of HT_.out (by kernel_rfl)) (fun _ _ _ h => h) (Or.inl ⟨by rfl, ?_⟩) ?_ ?_
       rotate_left
       ·
        intro w'
        go_simp
        with_reducible rfl
       rotate_left
       ·
        simp only [pz]
        rfl
       refine pure_ (i := 12) (N := some 72) (v := ?_) (a' := ?_) (bm 51 8191) rfl rfl (any_of HT_.out (by kernel_rfl)) (fun _ _ _ h => h) (Or.inl ⟨by rfl, ?_⟩) ?_ ?_
       rotate_left
       ·
        intro w'
        go_simp
        with_reducible rfl
       rotate_left
       ·
        simp only [pz]
        rfl
       refine pure_ (i := 13) (N := some 73) (v := ?_) (a' := ?_) (bm 51 16383) rfl rfl (any_of HT_.out (by kernel_rfl)) (fun _ _ _ h => h) (Or.inl ⟨by rfl, ?_⟩) ?_ ?_
       rotate_left
       ·
        intro w'
        go_simp
        with_reducible rfl
       rotate_left
       ·
        simp only [pz]
        rfl
       refine pure_ (i := 14) (N := some 74) (v := ?_) (a' := ?_) (bm 51 32767) rfl rfl (any_of HT_.out (by kernel_rfl)) (fun _ _ _ h => h) (Or.inl ⟨by rfl, ?_⟩) ?_ ?_
       rotate_left
       ·
        intro w'
        go_simp
        with_reducible rfl
       rotate_left
       ·
        simp only [pz]
        rfl
       refine pure_ (i := 15) (N := some 75) (v := ?_) (a' := ?_) (bm 51 65535) rfl rfl (any_of HT_.out (by kernel_rfl)) (fun _ _ _ h => h) (Or.inl ⟨by rfl, ?_⟩) ?_ ?_
       rotate_left
       ·
        intro w'
        go_simp
        with_reducible rfl
       rotate_left
       ·
        simp only [pz]
        rfl
       refine pure_ (i := 17) (N := some 77) (v := ?_) (a' := ?_) (bm 51 196607) rfl rfl (any_of HT_.out (by kernel_rfl)) (fun _ _ _ h => h) (Or.inl ⟨by rfl, ?_⟩) ?_ ?_
       rotate_left
       ·
        intro w'
        go_simp
        with_reducible rfl
       rotate_left
       ·
        simp only [pz]
        rfl
       refine pure_ (i := 18) (N := some 78) (v := ?_) (a' := ?_) (bm 51 458751) rfl rfl (any_of HT_.out (by kernel_rfl)) (fun _ _ _ h => h) (Or.inl ⟨by rfl, ?_⟩) ?_ ?_
       rotate_left
       ·
        intro w'
        go_simp
        with_reducible rfl
       rotate_left
       ·
        simp only [pz]
        rfl
       refine pure_ (i := 19) (N := some 79) (v := ?_) (a' := ?_) (bm 51 983039) rfl rfl (any_of HT_.out (by kernel_rfl)) (fun _ _ _ h => h) (Or.inl ⟨by rfl, ?_⟩) ?_ ?_
       rotate_left
       ·
        intro w'
        go_simp
        with_reducible rfl
       rotate_left
       ·
        simp only [pz]
        rfl
       refine pure_ (i := 20) (N := some 80) (v := ?_) (a' := ?_) (bm 51 2031615) rfl rfl (any_of HT_.out (by kernel_rfl)) (fun _ _ _ h => h) (Or.inl ⟨by rfl, ?_⟩) ?_ ?_
       rotate_left
       ·
        intro w'
        go_simp
        with_reducible rfl
       rotate_left
       ·
        simp only [pz]
        rfl
       refine take_ (i := 16) (N := some 76) (v := ?_) (a' := ?_) (bm 51 2097151) rfl rfl (take_ofW HT_.out HW_.out (by kernel_rfl)) (fun _ _ _ h => h) (Or.inl ⟨by rfl, ?_⟩) hHeld ?_ ?_
       rotate_left
       ·
        rintro w' ⟨s0, s1, s2, s3, s4, s5, s6, s7, s8, s9, s10, s11, s12, s13, s14, s15, s16, s17, s18, s19, s20, s21, s22, s23, s24, s25, s26, s27, s28, s29, s30, s31⟩
        go_simp
        with_reducible rfl
       rotate_left
       ·
        simp only [pz]
        rfl
       refine take_ (i := 21) (N := some 81) (v := ?_) (a' := ?_) (bm 51 4194303) rfl rfl (take_ofW HT_.out HW_.out (by kernel_rfl)) (fun _ _ _ h => h) (Or.inl ⟨by rfl, ?_⟩) hHeld ?_ ?_
       rotate_left
       ·
        rintro w' ⟨s0, s1, s2, s3, s4, s5, s6, s7, s8, s9, s10, s11, s12, s13, s14, s15, s16, s17, s18, s19, s20, s21, s22, s23, s24, s25, s26, s27, s28, s29, s30, s31⟩
        go_simp
        with_reducible rfl
       rotate_left
       ·
        simp only [pz]
        rfl
       refine pure_ (i := 22) (N := some 82) (v := ?_) (a' := ?_) (bm 51 8388607) rfl rfl (any_of HT_.out (by kernel_rfl)) (fun _ _ _ h => h) (Or.inl ⟨by rfl, ?_⟩) ?_ ?_
       rotate_left
       ·
        intro w'
        go_simp
        with_reducible rfl
       rotate_left
       ·
        simp only [pz]
        rfl
       refine pure_ (i := 23) (N := some 83) (v := ?_) (a' := ?_) (bm 51 16777215) rfl rfl (any_of HT_.out (by kernel_rfl)) (fun _ _ _ h => h) (Or.inl ⟨by rfl, ?_⟩) ?_ ?_
       rotate_left
       ·
        intro w'
        go_simp
        with_reducible rfl
       rotate_left
       ·
        simp only [pz]
        rfl
       refine pure_ (i := 24) (N := some 84) (v := ?_) (a' := ?_) (bm 51 33554431) rfl rfl (any_of HT_.out (by kernel_rfl)) (fun _ _ _ h => h) (Or.inl ⟨by rfl, ?_⟩) ?_ ?_
       rotate_left
       ·
        intro w'
        go_simp
        with_reducible rfl
       rotate_left
       ·
        simp only [pz]
        rfl
       refine pure_ (i := 25) (N := some 85) (v := ?_) (a' := ?_) (bm 51 67108863) rfl rfl (any_of HT_.out (by kernel_rfl)) (fun _ _ _ h => h) (Or.inl ⟨by rfl, ?_⟩) ?_ ?_
       rotate_left
       ·
        intro w'
        go_simp
        with_reducible rfl
       rotate_left
       ·
        simp only [pz]
        rfl
       refine pure_ (i := 26) (N := some 86) (v := ?_) (a' := ?_) (bm 51 134217727) rfl rfl (any_of HT_.out (by kernel_rfl)) (fun _ _ _ h => h) (Or.inl ⟨by rfl, ?_⟩) ?_ ?_
       rotate_left
       ·
        intro w'
        go_simp
        with_reducible rfl
       rotate_left
       ·
        simp only [pz]
        rfl
       refine pure_ (i := 27) (N := some 87) (v := ?_) (a' := ?_) (bm 51 268435455) rfl rfl (any_of HT_.out (by kernel_rfl)) (fun _ _ _ h => h) (Or.inl ⟨by rfl, ?_⟩) ?_ ?_
       rotate_left
       ·
        intro w'
        go_simp
        with_reducible rfl
       rotate_left
       ·
        simp only [pz]
        rfl
       refine pure_ (i := 28) (N := some 88) (v := ?_) (a' := ?_) (bm 51 536870911) rfl rfl (any_of HT_.out (by kernel_rfl)) (fun _ _ _ h => h) (Or.inl ⟨by rfl, ?_⟩) ?_ ?_
       rotate_left
       ·
        intro w'
        go_simp
        with_reducible rfl
       rotate_left
       ·
        simp only [pz]
        rfl
       refine pure_ (i := 30) (N := some 90) (v := ?_) (a' := ?_) (bm 51 1610612735) rfl rfl (any_of HT_.out (by kernel_rfl)) (fun _ _ _ h => h) (Or.inl ⟨by rfl, ?_⟩) ?_ ?_
       rotate_left
       ·
        intro w'
        go_simp
        with_reducible rfl
       rotate_left
       ·
        simp only [pz]
        rfl
       refine pure_ (i := 31) (N := some 91) (v := ?_) (a' := ?_) (bm 51 3758096383) rfl rfl (any_of HT_.out (by kernel_rfl)) (fun _ _ _ h => h) (Or.inl ⟨by rfl, ?_⟩) ?_ ?_
       rotate_left
       ·
        intro w'
        go_simp
        with_reducible rfl
       rotate_left
       ·
        simp only [pz]
        rfl
       refine pure_ (i := 32) (N := some 92) (v := ?_) (a' := ?_) (bm 51 8053063679) rfl rfl (any_of HT_.out (by kernel_rfl)) (fun _ _ _ h => h) (Or.inl ⟨by rfl, ?_⟩) ?_ ?_
       rotate_left
       ·
        intro w'
        go_simp
        with_reducible rfl
       rotate_left
       ·
        simp only [pz]
        rfl
       refine pure_ (i := 33) (N := some 93) (v := ?_) (a' := ?_) (bm 51 16642998271) rfl rfl (any_of HT_.out (by kernel_rfl)) (fun _ _ _ h => h) (Or.inl ⟨by rfl, ?_⟩) ?_ ?_
       rotate_left
       ·
        intro w'
        go_simp
        with_reducible rfl
       rotate_left
       ·
        simp only [pz]
        rfl
       refine take_ (i := 29) (N := some 89) (v := ?_) (a' := ?_) (bm 51 17179869183) rfl rfl (take_ofW HT_.out HW_.out (by kernel_rfl)) (fun _ _ _ h => h) (Or.inl ⟨by rfl, ?_⟩) hHeld ?_ ?_
       rotate_left
       ·
        rintro w' ⟨s0, s1, s2, s3, s4, s5, s6, s7, s8, s9, s10, s11, s12, s13, s14, s15, s16, s17, s18, s19, s20, s21, s22, s23, s24, s25, s26, s27, s28, s29, s30, s31⟩
        go_simp
        with_reducible rfl
       rotate_left
       ·
        simp only [pz]
        rfl
       refine take_ (i := 34) (N := some 94) (v := ?_) (a' := ?_) (bm 51 34359738367) rfl rfl (take_ofW HT_.out HW_.out (by kernel_rfl)) (fun _ _ _ h => h) (Or.inl ⟨by rfl, ?_⟩) hHeld ?_ ?_
       rotate_left
       ·
        rintro w' ⟨s0, s1, s2, s3, s4, s5, s6, s7, s8, s9, s10, s11, s12, s13, s14, s15, s16, s17, s18, s19, s20, s21, s22, s23, s24, s25, s26, s27, s28, s29, s30, s31⟩
        go_simp
        with_reducible rfl
       rotate_left
       ·
        simp only [pz]
        rfl
       refine pure_ (i := 35) (N := some 95) (v := ?_) (a' := ?_) (bm 51 68719476735) rfl rfl (any_of HT_.out (by kernel_rfl)) (fun _ _ _ h => h) (Or.inl ⟨by rfl, ?_⟩) ?_ ?_
       rotate_left
       ·
        intro w'
        go_simp
        with_reducible rfl
       rotate_left
       ·
        simp only [pz]
        rfl
       refine pure_ (i := 36) (N := some 96) (v := ?_) (a' := ?_) (bm 51 137438953471) rfl rfl (any_of HT_.out (by kernel_rfl)) (fun _ _ _ h => h) (Or.inl ⟨by rfl, ?_⟩) ?_ ?_
       rotate_left
       ·
        intro w'
        go_simp
        with_reducible rfl
       rotate_left
       ·
        simp only [pz]
        rfl
       refine pure_ (i := 37) (N := some 97) (v := ?_) (a' := ?_) (bm 51 274877906943) rfl rfl (any_of HT_.out (by kernel_rfl)) (fun _ _ _ h => h) (Or.inl ⟨by rfl, ?_⟩) ?_ ?_
       rotate_left
       ·
        intro w'
        go_simp
        with_reducible rfl
       rotate_left
       ·
        simp only [pz]
        rfl
       refine pure_ (i := 38) (N := some 98) (v := ?_) (a' := ?_) (bm 51 549755813887) rfl rfl (any_of HT_.out (by kernel_rfl)) (fun _ _ _ h => h) (Or.inl ⟨by rfl, ?_⟩) ?_ ?_
       rotate_left
       ·
        intro w'
        go_simp
        with_reducible rfl
       rotate_left
       ·
        simp only [pz]
        rfl
       refine pure_ (i := 39) (N := some 99) (v := ?_) (a' := ?_) (bm 51 1099511627775) rfl rfl (any_of HT_.out (by kernel_rfl)) (fun _ _ _ h => h) (Or.inl ⟨by rfl, ?_⟩) ?_ ?_
       rotate_left
       ·
        intro w'
        go_simp
        with_reducible rfl
       rotate_left
       ·
        simp only [pz]
        rfl
       refine pure_ (i := 40) (N := some 100) (v := ?_) (a' := ?_) (bm 51 2199023255551) rfl rfl (any_of HT_.out (by kernel_rfl)) (fun _ _ _ h => h) (Or.inl ⟨by rfl, ?_⟩) ?_ ?_
       rotate_left
       ·
        intro w'
        go_simp
        with_reducible rfl
       rotate_left
       ·
        simp only [pz]
        rfl
       refine pure_ (i := 41) (N := some 101) (v := ?_) (a' := ?_) (bm 51 4398046511103) rfl rfl (any_of HT_.out (by kernel_rfl)) (fun _ _ _ h => h) (Or.inl ⟨by rfl, ?_⟩) ?_ ?_
       rotate_left
       ·
        intro w'
        go_simp
        with_reducible rfl
       rotate_left
       ·
        simp only [pz]
        rfl
       refine pure_ (i := 43) (N := some 103) (v := ?_) (a' := ?_) (bm 51 13194139533311) rfl rfl (any_of HT_.out (by kernel_rfl)) (fun _ _ _ h => h) (Or.inl ⟨by rfl, ?_⟩) ?_ ?_
       rotate_left
       ·
        intro w'
        go_simp
        with_reducible rfl
       rotate_left
       ·
        simp only [pz]
        rfl
       refine pure_ (i := 44) (N := some 104) (v := ?_) (a' := ?_) (bm 51 30786325577727) rfl rfl (any_of HT_.out (by kernel_rfl)) (fun _ _ _ h => h) (Or.inl ⟨by rfl, ?_⟩) ?_ ?_
       rotate_left
       ·
        intro w'
        go_simp
        with_reducible rfl
       rotate_left
       ·
        simp only [pz]
        rfl
       refine pure_ (i := 45) (N := some 105) (v := ?_) (a' := ?_) (bm 51 65970697666559) rfl rfl (any_of HT_.out (by kernel_rfl)) (fun _ _ _ h => h) (Or.inl ⟨by rfl, ?_⟩) ?_ ?_
       rotate_left
       ·
        intro w'
        go_simp
        with_reducible rfl
       rotate_left
       ·
        simp only [pz]
        rfl
       refine pure_ (i := 46) (N := some 106) (v := ?_) (a' := ?_) (bm 51 136339441844223) rfl rfl (any_of HT_.out (by kernel_rfl)) (fun _ _ _ h => h) (Or.inl ⟨by rfl, ?_⟩) ?_ ?_
       rotate_left
       ·
        intro w'
        go_simp
        with_reducible rfl
       rotate_left
       ·
        simp only [pz]
        rfl
       refine take_ (i := 42) (N := some 102) (v := ?_) (a' := ?_) (bm 51 140737488355327) rfl rfl (take_ofW HT_.out HW_.out (by kernel_rfl)) (fun _ _ _ h => h) (Or.inl ⟨by rfl, ?_⟩) hHeld ?_ ?_
       rotate_left
       ·
        rintro w' ⟨s0, s1, s2, s3, s4, s5, s6, s7, s8, s9, s10, s11, s12, s13, s14, s15, s16, s17, s18, s19, s20, s21, s22, s23, s24, s25, s26, s27, s28, s29, s30, s31⟩
        go_simp
        with_reducible rfl
       rotate_left
       ·
        simp only [pz]
        rfl
       refine take_ (i := 47) (N := some 107) (v := ?_) (a' := ?_) (bm 51 281474976710655) rfl rfl (take_ofW HT_.out HW_.out (by kernel_rfl)) (fun _ _ _ h => h) (Or.inl ⟨by rfl, ?_⟩) hHeld ?_ ?_
       rotate_left
       ·
        rintro w' ⟨s0, s1, s2, s3, s4, s5, s6, s7, s8, s9, s10, s11, s12, s13, s14, s15, s16, s17, s18, s19, s20, s21, s22, s23, s24, s25, s26, s27, s28, s29, s30, s31⟩
        go_simp
        with_reducible rfl
       rotate_left
       ·
        simp only [pz]
        rfl
       refine one_ (i := 48) (N := some 108) (bm 51 562949953421311) rfl rfl (one_of HT_.out (by kernel_rfl)) (by decide) (fun K hK => ?_)
       refine goes_ Try.func35 (by kernel_rfl) rfl #[.slice A106_3 ((rd_T46 l1 x10_3).f3).length c106_3, .slice A107_3 ((rd_T61 l3 x10_3).f3).length c107_3] (by rfl) rfl rfl (by simp only [ml]; try rfl) ?_
       with_reducible refine (gangwaylaw14_sameOps.calls k3 _ _ ((rd_T46 l1 x10_3).f3) _ _ ((rd_T61 l3 x10_3).f3) true _ ?side1 ?side2 ?side3 ?side4 A21.out).mono ?_
       (case side1 => exact Kd.C_o (Kd.C_below HR112_3.out HB.out))
       (case side2 => exact HC112_3.out)
       (case side3 => exact Kd.C_o (Kd.C_below HR113_3.out HB.out))
       (case side4 => exact HC113_3.out)
       rintro e w' ⟨rfl, ⟨nd, rfl⟩⟩
       refine ⟨_, rfl, ?_⟩
       refine hK.out _ _ ⟨(oc HB.out hw106_0 :), (oc HB.out hw106_1 :), (oc HB.out hw106_2 :), (oc HB.out hw106_3 :), (oc HB.out hw107_0 :), (oc HB.out hw107_1 :), (oc HB.out hw107_2 :), (oc HB.out hw107_3 :), (oc HB.out hw108_0 :), (oc HB.out hw108_1 :), (oc HB.out hw108_2 :), (oc HB.out hw108_3 :), (oc HB.out hw109_0 :), (oc HB.out hw109_1 :), (oc HB.out hw109_2 :), (oc HB.out hw109_3 :), (oc HB.out hw110_0 :), (oc HB.out hw110_1 :), (oc HB.out hw110_2 :), (oc HB.out hw110_3 :), (oc HB.out hw111_0 :), (oc HB.out hw111_1 :), (oc HB.out hw111_2 :), (oc HB.out hw111_3 :), (oc HB.out hw112_0 :), (oc HB.out hw112_1 :), (oc HB.out hw112_2 :), (oc HB.out hw112_3 :), (oc HB.out hw113_0 :), (oc HB.out hw113_1 :), (oc HB.out hw113_2 :), (oc HB.out hw113_3 :)⟩ (fun hHeld => ?_)
       clear hK K
       refine norm_ (a' := ?_) ?_ ?_
       rotate_left
       ·
        show Act.put _ (some 108) _ = _
        simp only [pz]
        rfl
       refine pure_ (i := 49) (N := some 109) (v := ?_) (a' := ?_) (bm 51 1125899906842623) rfl rfl (any_of HT_.out (by kernel_rfl)) (fun _ _ _ h => h) (Or.inl ⟨by rfl, ?_⟩) ?_ ?_
       rotate_left
       ·
        intro w'
        go_simp
        with_reducible rfl
       rotate_left
       ·
        simp only [pz]
        rfl
       refine pure_ (i := 50) (N := some 110) (v := ?_) (a' := ?_) (bm 51 2251799813685247) rfl rfl (any_of HT_.out (by kernel_rfl)) (fun _ _ _ h => h) (Or.inl ⟨by rfl, ?_⟩) ?_ ?_
       rotate_left
       ·
        intro w'
        go_simp
        with_reducible rfl
       rotate_left
       ·
        simp only [pz]
        rfl
       refine done_ (done_of HT_.out (by kernel_rfl)) ?_
       try go_wp2
       go_roundg k3
       case measure => have := HJ4.out; have := HK2.out; have := HK3.out; omega
       case rel => exact ⟨(wrap64 (x10_3 + 1)), (by first | rfl | (simp; done) | (simp [*]; done)), H', ⟨by have := HJ4.out; have := HK2.out; have := HK3.out; omega⟩, ⟨by exact bl_g HB.out⟩⟩
def cfa_Usual.f  : Option ((List (S105))) := some (([(⟨2, 7, 8⟩ : S105), (⟨5, 16, (-8)⟩ : S105)] : List (S105)))
set_option maxHeartbeats 8000000 in
theorem cfa_Usual.calls  (r : List (S105)) (w : World) (h : cfa_Usual.f  = some r) :
    Calls Try.prog 36 #[] w fun e w' => ∃ v0_ : Value, e = .returned (v0_) ∧ Kd.R k105 105 w' w.heap.size (fun _ => True) v0_ r ∧ Below w.heap.size w w' := by
 have hu105 := Try.underlying105
 have HB := am (Below.refl w.heap.size w)
 have H : (some (([(⟨2, 7, 8⟩ : S105), (⟨5, 16, (-8)⟩ : S105)] : List (S105)))) = some r := h
 clear h
 obtain ⟨y101, hy101⟩ : ∃ y_ : List (S105), y_ = (([(⟨2, 7, 8⟩ : S105), (⟨5, 16, (-8)⟩ : S105)] : List (S105))) := ⟨_, rfl⟩
 replace H : (some y101) = some r := by first | (rw [hy101]; with_reducible exact H) | (have H2_ := (Option.bind_some _ _).symm.trans H; rw [hy101]; with_reducible exact H2_)
 have Ny101 := am hy101
 clear hy101
 obtain rfl := Option.some.inj H
 go_enter Try.func36, Try.ntmps36
 go_wp2_with (first | ((with_reducible refine gate_dst (N := 3) rfl ?_); refine Kd.R_lit k105 _ 105 ?hg (N := 3) ?hd (xs := ([(⟨2, 7, 8⟩ : S105), (⟨5, 16, (-8)⟩ : S105)] : List (S105))) (inner := [.int .i64 2, .int .i64 7, .int .i64 8, .int .i64 5, .int .i64 16, .int .i64 (-8)]) (ok := fun _ => True) (okp := fun _ => True) ?hr ?hp (fun _ hk => hk) trivial (Below.refl _ _) (Nat.le_refl _) (by simp) ?_; (case hd => rfl); (case hg => rfl); (case hr => go_simp; try rfl); (case hp => exact (Reps.c3 (show Kd.M k105 _ _ _ (⟨2, 7, 8⟩ : S105) [.int .i64 2, .int .i64 7, .int .i64 8] from (k105_mkM _ _ _ (⟨2, 7, 8⟩ : S105) )) (Reps.c3 (show Kd.M k105 _ _ _ (⟨5, 16, (-8)⟩ : S105) [.int .i64 5, .int .i64 16, .int .i64 (-8)] from (k105_mkM _ _ _ (⟨5, 16, (-8)⟩ : S105) )) (Reps.none _ _)))); intro v102 w1 ho2 hb hg_ hnew_; clear hg_ hnew_; (first | rw [← Ny101.out] at ho2 | (simp only [Int.reduceToNat] at ho2; rw [← Ny101.out] at ho2)); refine mv2 (am (Kd.R_lower ho2 (below_size (by exact bl_o HB.out)))) (am (below_step (by exact bl_o HB.out) hb)) ?_; clear HB; intro HO103 HB; clear hb ho2))
 go_ret
 exact ⟨_, rfl, by (with_reducible repeat (first | apply Kd.R_alloc | apply Kd.R_drewN | apply Kd.R_drew)); exact HO103.out, by exact bl_g HB.out⟩
end Go.Proofs.Ytfgfnflhdabmcaa.G
end
