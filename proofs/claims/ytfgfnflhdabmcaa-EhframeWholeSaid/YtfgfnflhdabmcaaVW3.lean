/- Lemmas and contracts, one text behind the other: what the row of this claim needs; no conditions beyond those that each theorem names. -/
import Derived.Maps.OwnSet
import Derived.Laws.EntriesVeiled
import Derived.Lib.Hide
import Derived.Test.YtfgfnflhdabmcaaVW2
set_option linter.unusedVariables false
set_option linter.unusedSimpArgs false
set_option maxRecDepth 100000
section
namespace Go.Proofs.Ytfgfnflhdabmcaa.G
open Go.RowKit Go.Proofs.YtfgfnflhdabmcaaW.PrintWords Go.Proofs.YtfgfnflhdabmcaaW.PrintLast Go.Proofs.YtfgfnflhdabmcaaW.PrintMore
attribute [local go_sem] max2_int min2_int max_two min_two max_three min_three max_four min_four
def cfa_Write.l0 : Nat → List Int → List (S105) → Int → Int → Option (List Int × Int)
  | 0, _, _, _, _ => none
  | k + 1, x4, x10, x11, x12 => if x12 < x11 then (if 0 ≤ x12 then (if x12 < (x10.length : Int) then ((cfa_Op_may.f ((rd_T105 x10 x12).f0) ((rd_T105 x10 x12).f1) ((rd_T105 x10 x12).f2)).bind fun t103 => (if t103 = true then ((cfa_Op_bytes.f k ((rd_T105 x10 x12).f0) ((rd_T105 x10 x12).f1) ((rd_T105 x10 x12).f2)).bind fun t104 => (if x4.length + t104.length < 140737488355328 then (cfa_Write.l0 k (x4 ++ t104) x10 x11 (wrap64 (x12 + 1))) else (none))) else (some (([] : List Int), 130)))) else (none)) else (none)) else (some (x4, 0))
def cfa_Write.f (k : Nat) (l0 : List (S105)) : Option (List Int × Int) := if (l0.length : Int) > 4000 then (some (([] : List Int), 6)) else (cfa_Write.l0 k ([] : List Int) l0 (l0.length : Int) 0)
theorem cfa_Write.mono_l : ∀ k, (∀ y0 y1 y2 y3, LeO (cfa_Write.l0 k y0 y1 y2 y3) (cfa_Write.l0 (k + 1) y0 y1 y2 y3))
  | 0 => fun _ _ _ _ r h => by simp [cfa_Write.l0] at h
  | k + 1 => by
    have ih0 := cfa_Write.mono_l k
    · intro y0 y1 y2 y3
      unfold cfa_Write.l0
      repeat' first
      | (with_reducible exact ih0 _ _ _ _)
      | (with_reducible exact cfa_Op_bytes.mono _ _ _ _)
      | (with_reducible exact LeO.refl _)
      | (with_reducible exact LeO.none _)
      | (with_reducible refine LeO.ite ?_ ?_)
      | (with_reducible refine LeO.bind ?_ (fun _ => ?_))
      | exact ih0 _ _ _ _
      | exact cfa_Op_bytes.mono _ _ _ _
      | exact LeO.none _
      | refine LeO.ite ?_ ?_
      | refine LeO.bind ?_ (fun _ => ?_)
theorem cfa_Write.mono : ∀ a0 k, LeO (cfa_Write.f k a0) (cfa_Write.f (k + 1) a0) := by
 intro a0 k
 have ih0 := cfa_Write.mono_l k
 unfold cfa_Write.f
 repeat' first
     | (with_reducible exact ih0 _ _ _ _)
     | (with_reducible exact cfa_Op_bytes.mono _ _ _ _)
     | (with_reducible exact LeO.refl _)
     | (with_reducible exact LeO.none _)
     | (with_reducible refine LeO.ite ?_ ?_)
     | (with_reducible refine LeO.bind ?_ (fun _ => ?_))
     | exact ih0 _ _ _ _
     | exact cfa_Op_bytes.mono _ _ _ _
     | exact LeO.none _
     | refine LeO.ite ?_ ?_
     | refine LeO.bind ?_ (fun _ => ?_)
set_option maxHeartbeats 8000000 in
theorem cfa_Write.calls (k : Nat) (A0 : Option Addr) (c0 : Nat) (l0 : List (S105)) (r1 : List Int) (r2 : Int) (w : World) (hr0 : Kd.C k105 w A0 l0.length l0) (hc0 : l0.length ≤ c0) (h : cfa_Write.f k l0 = some (r1, r2)) :
    Calls Try.prog 23 #[.slice A0 l0.length c0] w fun e w' => ∃ v0_ : Value, e = .returned (.tuple #[v0_, .int .i64 r2]) ∧ Kd.R (Kd.int .u8) 5 w' w.heap.size (fun _ => True) v0_ r1 ∧ Below w.heap.size w w' := by
 have hu105 := Try.underlying105
 have HR0 := am hr0
 have HC0 := am hc0
 clear hr0 hc0
 have HB := am (Below.refl w.heap.size w)
 have H : (if (l0.length : Int) > 4000 then (some (([] : List Int), 6)) else (cfa_Write.l0 k ([] : List Int) l0 (l0.length : Int) 0)) = some (r1, r2) := h
 clear h
 by_cases c2 : (l0.length : Int) > 4000
 ·
  rw [if_pos c2] at H
  have c2b0 : decide (4000 < (l0.length : Int)) = true := decide_eq_true c2
  have c2b1 : decide (4000 < l0.length) = true := decide_eq_true (by omega)
  clear c2
  simp only [Option.some.injEq, Prod.mk.injEq] at H
  obtain ⟨rfl, rfl⟩ := H
  go_enter Try.func23, Try.ntmps23
  go_wp2
  go_ret2
  exact ⟨_, rfl, by first | exact Kd.R_nil _ _ _ _ _ | exact Kd.N_nil _ _ _ _ _, by exact bl_g HB.out⟩
 rw [if_neg c2] at H
 have c2b0 : decide (4000 < (l0.length : Int)) = false := decide_eq_false c2
 have c2b1 : decide (4000 < l0.length) = false := decide_eq_false (by omega)
 clear c2
 have H' := am H
 clear H
 go_enter Try.func23, Try.ntmps23
 go_wp2
 go_loopg [4, 12] k (fun kq v4 v12 w' => ∃ (x4_1 : List Int) (x12_1 : Int), v12 = .int .i64 x12_1 ∧ Aside0 (cfa_Write.l0 kq x4_1 l0 (l0.length : Int) x12_1 = some (r1, r2)) ∧ Aside0 (kq ≤ k) ∧ Aside0 (Kd.R (Kd.int .u8) 5 w' w.heap.size (fun _ => True) v4 x4_1) ∧ Aside0 (Below w.heap.size w w'))
 case atStart => exact ⟨(([] : List Int)), (0), (by first | rfl | (simp; done) | (simp [*]; done)), H', ⟨Nat.le_refl _⟩, ⟨by first | exact Kd.R_nil _ _ _ _ _ | exact Kd.N_nil _ _ _ _ _⟩, ⟨by exact bl_g HB.out⟩⟩
 case round =>
  clear H'
  try clear c2
  try clear c2b0
  try clear c2b1
  try clear p2
  obtain ⟨x4_1, x12_1, rfl, HA, HK1, HO_4, HB⟩ := hrel
  cases gk with
  | zero => exact absurd HA.out (by simp [cfa_Write.l0])
  | succ k1 =>
   have H := HA.out
   clear HA
   simp only [cfa_Write.l0] at H
   by_cases c3 : x12_1 < (l0.length : Int)
   rotate_left
   ·
    rw [if_neg c3] at H
    have c3b0 : decide (x12_1 < (l0.length : Int)) = false := decide_eq_false c3
    clear c3
    simp only [Option.some.injEq, Prod.mk.injEq] at H
    obtain ⟨rfl, rfl⟩ := H
    go_wp2
    go_ret2
    exact ⟨_, rfl, by (with_reducible repeat (first | apply Kd.R_alloc | apply Kd.R_drewN | apply Kd.R_drew)); exact HO_4.out, by exact bl_g HB.out⟩
   rw [if_pos c3] at H
   have c3b0 : decide (x12_1 < (l0.length : Int)) = true := decide_eq_true c3
   clear c3
   by_cases c4 : 0 ≤ x12_1
   rotate_left
   ·
    rw [if_neg c4] at H
    exact absurd H (by simp)
   rw [if_pos c4] at H
   have c4b0 : decide (0 ≤ x12_1) = true := decide_eq_true c4
   clear c4
   by_cases c5 : x12_1 < (l0.length : Int)
   rotate_left
   ·
    rw [if_neg c5] at H
    exact absurd H (by simp)
   rw [if_pos c5] at H
   have c5b0 : decide (x12_1 < (l0.length : Int)) = true := decide_eq_true c5
   clear c5
   replace H := Option.bind_eq_some_iff.mp H
   obtain ⟨t103, A60, H⟩ := H
   replace H : (if t103 = true then ((cfa_Op_bytes.f k1 ((rd_T105 l0 x12_1).f0) ((rd_T105 l0 x12_1).f1) ((rd_T105 l0 x12_1).f2)).bind fun t104 => (if x4_1.length + t104.length < 140737488355328 then (cfa_Write.l0 k1 (x4_1 ++ t104) l0 (l0.length : Int) (wrap64 (x12_1 + 1))) else (none))) else (some (([] : List Int), 130))) = some (r1, r2) := H
   have A6 := am A60
   clear A60
   by_cases c7 : t103 = true
   rotate_left
   ·
    replace c7 := Bool.eq_false_iff.mpr c7
    subst c7
    replace H : (some (([] : List Int), 130)) = some (r1, r2) := by rw [if_neg (show ¬ (false = true) by decide)] at H; exact H
    simp only [Option.some.injEq, Prod.mk.injEq] at H
    obtain ⟨rfl, rfl⟩ := H
    have p101 : 0 ≤ (x12_1 : Int) := od
    have q101 : x12_1 < (l0.length : Int) := od
    obtain ⟨ad101, e101, hx101_0, hx101_1, hx101_2⟩ := at_T105 HR0.out x12_1 p101 q101
    cases e101
    replace hx101_0 := oc HB.out hx101_0
    replace hx101_1 := oc HB.out hx101_1
    replace hx101_2 := oc HB.out hx101_2
    replace p101 := eq_true p101
    replace q101 := eq_true q101
    go_wp2_with (first | ((with_reducible refine gate_dst (N := 6) rfl ?_); refine box_event ?hg (N := 6) ?hd (cs := #[.int .i64 0, .int .i64 0, .int .i64 0]) (t := 105) ?hr ?_; (case hd => rfl); (case hg => rfl); (case hr => go_simp; try rfl); intro gb102 hg w17 hbox hb; refine mv4 (am (Kd.R_below (Kd.R_o HO_4.out) hb)) (am (below_step (by exact bl_o HB.out) hb)) (am (hbox)) (lei (by rw [hg]; exact (below_size (by exact bl_o HB.out)) : w.heap.size ≤ gb102)) ?_; clear HO_4 HB; intro HO_4 HB BK102 GW102; have GE102 := GW102; clear hb hbox hg; obtain ⟨hcz18_0, hcz18_1, hcz18_2, hfz18_0, hfz18_1, hfz18_2⟩ := cells3 BK102.out) | ((with_reducible refine gate_callee (f := 58) rfl ?_); refine goesL_ (some 17) rfl rfl Try.func58 (by kernel_rfl) rfl #[.agg #[.int .i64 ((rd_T105 l0 x12_1).f0), .int .i64 ((rd_T105 l0 x12_1).f1), .int .i64 ((rd_T105 l0 x12_1).f2)]] rfl (by simp only [ml]; try rfl) ?_; (with_reducible refine (cfa_Op_may.calls ((rd_T105 l0 x12_1).f0) ((rd_T105 l0 x12_1).f1) ((rd_T105 l0 x12_1).f2) false _ A6.out).mono ?_); rintro e w19 ⟨rfl, hb⟩; refine ⟨_, rfl, ?_⟩; refine mv3 (am (Kd.R_below (Kd.R_o (Kd.R_mono (Kd.R_far (p := ⟨gb102, 2, none⟩) (Kd.R_far (p := ⟨gb102, 1, none⟩) (Kd.R_far (p := ⟨gb102, 0, none⟩) (Kd.R_types HO_4.out BK102.out (by decide)) (fun _ hk => hk.2) (.int .i64 ((rd_T105 l0 x12_1).f0))) (fun _ hk => hk.2) (.int .i64 ((rd_T105 l0 x12_1).f1))) (fun _ hk => hk.2) (.int .i64 ((rd_T105 l0 x12_1).f2))) (fun _ h_ => h_.1))) hb)) (am (blk_below (g := gb102) (o := .cells #[.int .i64 ((rd_T105 l0 x12_1).f0), .int .i64 ((rd_T105 l0 x12_1).f1), .int .i64 ((rd_T105 l0 x12_1).f2)] 105 (0, 0)) (bps BK102.out rfl) hb)) (am (below_step (by exact bl_g HB.out) hb)) ?_; clear HO_4 BK102 HB; intro HO_4 BK102 HB))
    go_ret2
    exact ⟨_, rfl, by first | exact Kd.R_nil _ _ _ _ _ | exact Kd.N_nil _ _ _ _ _, by exact bl_g HB.out⟩
   subst c7
   replace H : ((cfa_Op_bytes.f k1 ((rd_T105 l0 x12_1).f0) ((rd_T105 l0 x12_1).f1) ((rd_T105 l0 x12_1).f2)).bind fun t104 => (if x4_1.length + t104.length < 140737488355328 then (cfa_Write.l0 k1 (x4_1 ++ t104) l0 (l0.length : Int) (wrap64 (x12_1 + 1))) else (none))) = some (r1, r2) := by rw [if_pos rfl] at H; exact H
   replace H := Option.bind_eq_some_iff.mp H
   obtain ⟨t104, A80, H⟩ := H
   replace H : (if x4_1.length + t104.length < 140737488355328 then (cfa_Write.l0 k1 (x4_1 ++ t104) l0 (l0.length : Int) (wrap64 (x12_1 + 1))) else (none)) = some (r1, r2) := H
   have A8 := am A80
   clear A80
   by_cases c9 : x4_1.length + t104.length < 140737488355328
   rotate_left
   ·
    rw [if_neg c9] at H
    exact absurd H (by simp)
   rw [if_pos c9] at H
   have LMc9 := am c9
   clear c9
   obtain ⟨y107, hy107⟩ : ∃ y_ : List Int, y_ = (x4_1 ++ t104) := ⟨_, rfl⟩
   replace H : (cfa_Write.l0 k1 y107 l0 (l0.length : Int) (wrap64 (x12_1 + 1))) = some (r1, r2) := by first | (rw [hy107]; with_reducible exact H) | (have H2_ := (Option.bind_some _ _).symm.trans H; rw [hy107]; with_reducible exact H2_)
   have Ny107 := am hy107
   clear hy107
   have H' := am H
   clear H
   have p101 : 0 ≤ (x12_1 : Int) := od
   have q101 : x12_1 < (l0.length : Int) := od
   obtain ⟨ad101, e101, hx101_0, hx101_1, hx101_2⟩ := at_T105 HR0.out x12_1 p101 q101
   cases e101
   replace hx101_0 := oc HB.out hx101_0
   replace hx101_1 := oc HB.out hx101_1
   replace hx101_2 := oc HB.out hx101_2
   replace p101 := eq_true p101
   replace q101 := eq_true q101
   go_wp2_with (first | ((with_reducible refine gate_dst (N := 6) rfl ?_); refine box_event ?hg (N := 6) ?hd (cs := #[.int .i64 0, .int .i64 0, .int .i64 0]) (t := 105) ?hr ?_; (case hd => rfl); (case hg => rfl); (case hr => go_simp; try rfl); intro gb102 hg w10 hbox hb; refine mv4 (am (Kd.R_below (Kd.R_o HO_4.out) hb)) (am (below_step (by exact bl_o HB.out) hb)) (am (hbox)) (lei (by rw [hg]; exact (below_size (by exact bl_o HB.out)) : w.heap.size ≤ gb102)) ?_; clear HO_4 HB; intro HO_4 HB BK102 GW102; have GE102 := GW102; clear hb hbox hg; obtain ⟨hcz11_0, hcz11_1, hcz11_2, hfz11_0, hfz11_1, hfz11_2⟩ := cells3 BK102.out) | ((with_reducible refine gate_callee (f := 58) rfl ?_); refine goesL_ (some 17) rfl rfl Try.func58 (by kernel_rfl) rfl #[.agg #[.int .i64 ((rd_T105 l0 x12_1).f0), .int .i64 ((rd_T105 l0 x12_1).f1), .int .i64 ((rd_T105 l0 x12_1).f2)]] rfl (by simp only [ml]; try rfl) ?_; (with_reducible refine (cfa_Op_may.calls ((rd_T105 l0 x12_1).f0) ((rd_T105 l0 x12_1).f1) ((rd_T105 l0 x12_1).f2) true _ A6.out).mono ?_); rintro e w12 ⟨rfl, hb⟩; refine ⟨_, rfl, ?_⟩; refine mv3 (am (Kd.R_below (Kd.R_o (Kd.R_mono (Kd.R_far (p := ⟨gb102, 2, none⟩) (Kd.R_far (p := ⟨gb102, 1, none⟩) (Kd.R_far (p := ⟨gb102, 0, none⟩) (Kd.R_types HO_4.out BK102.out (by decide)) (fun _ hk => hk.2) (.int .i64 ((rd_T105 l0 x12_1).f0))) (fun _ hk => hk.2) (.int .i64 ((rd_T105 l0 x12_1).f1))) (fun _ hk => hk.2) (.int .i64 ((rd_T105 l0 x12_1).f2))) (fun _ h_ => h_.1))) hb)) (am (blk_below (g := gb102) (o := .cells #[.int .i64 ((rd_T105 l0 x12_1).f0), .int .i64 ((rd_T105 l0 x12_1).f1), .int .i64 ((rd_T105 l0 x12_1).f2)] 105 (0, 0)) (bps BK102.out rfl) hb)) (am (below_step (by exact bl_g HB.out) hb)) ?_; clear HO_4 BK102 HB; intro HO_4 BK102 HB; obtain ⟨hcz13_0, hcz13_1, hcz13_2, hfz13_0, hfz13_1, hfz13_2⟩ := cells3 BK102.out) | ((with_reducible refine gate_callee (f := 59) rfl ?_); refine goesL_ (some 21) rfl rfl Try.func59 (by kernel_rfl) rfl #[.agg #[.int .i64 ((rd_T105 l0 x12_1).f0), .int .i64 ((rd_T105 l0 x12_1).f1), .int .i64 ((rd_T105 l0 x12_1).f2)]] rfl (by simp only [ml]; try rfl) ?_; (with_reducible refine (cfa_Op_bytes.calls k1 ((rd_T105 l0 x12_1).f0) ((rd_T105 l0 x12_1).f1) ((rd_T105 l0 x12_1).f2) t104 _ A8.out).mono ?_); rintro e w14 ⟨v105, rfl, ho0, hb⟩; refine ⟨_, rfl, ?_⟩; refine mv4 (am (Kd.R_elder' (Kd.R_o HO_4.out) (Kd.R_base ho0) hb)) (am (Kd.R_lower (Kd.R_new' ho0 (Kd.R_lt (Kd.R_o HO_4.out))) (below_size (by exact bl_g HB.out)))) (am (blk_below (blk_o BK102.out) hb)) (am (below_step (by exact bl_g HB.out) hb)) ?_; clear HO_4 BK102 HB; intro HO_4 HO106 BK102 HB; obtain ⟨Ao16, co16, eo16⟩ := Kd.R_slice HO106.out; subst eo16) | ((with_reducible refine gate_builtin (b := .append) (xs := #[.tmp 19, .tmp 21]) rfl ?_); at_builtin; refine Kd.R_append_rows (Kd.int .u8) (w0 := w) w.heap.size rfl (.tmp 19) (.tmp 21) 28 5 (.int .u8 0) 1 rfl Try.underlying28 info5 rfl (by decide) (by omega) u4 x4_1 t104 _ _ _ (fun k_ => some k_ ≠ (.slice Ao16 t104.length co16 : Value).ownBlock) (fun _ => False) rfl rfl ?aO ?aR (fun _ _ h => h) (fun _ h => h.elim) ?aF ?aB ?aS ?aL ?_; (case aR => exact Kd.C_o ((Kd.R_reads' HO106.out).2.2)); (case aB => exact (by exact bl_g HB.out)); (case aF => exact (fun k_ hk => Kd.fresh' (Kd.R_lt (Kd.R_o HO106.out)) k_ hk)); (case aO => exact (Kd.R_o (Kd.R_mono HO_4.out (fun _ hk => hk.2)))); (case aS => exact (below_size (by exact bl_g HB.out))); (case aL => have := LMc9.out; omega); intro v108 w15 ho hb hg hat; rw [← Ny107.out] at ho; refine mv4 (am (blk_grown (g := gb102) (o := .cells #[.int .i64 ((rd_T105 l0 x12_1).f0), .int .i64 ((rd_T105 l0 x12_1).f1), .int .i64 ((rd_T105 l0 x12_1).f2)] 105 (0, 0)) (blk_o BK102.out) hg (Kd.R_ne HO_4.out BK102.out (by decide)))) (am (Kd.R_after (ok := (fun _ => True)) (Kd.R_o HO106.out) hg hat)) (am (hb)) (am (ho)) ?_; clear BK102 HO106 HB HO_4; intro BK102 HO106 HB HO109; clear ho hb hg hat))
   go_roundg k1
   case measure => have := HK1.out; omega
   case rel => exact ⟨(y107), (wrap64 (x12_1 + 1)), (by first | rfl | (simp; done) | (simp [*]; done)), H', ⟨by have := HK1.out; omega⟩, ⟨by (with_reducible repeat (first | apply Kd.R_alloc | apply Kd.R_drewN | apply Kd.R_drew)); exact Kd.R_mono HO109.out (fun _ hk => trivial)⟩, ⟨by exact bl_g HB.out⟩⟩
def ehframe_low.f (k : Nat) (a0 : Int) : Option (List Int) := (leb_Put.f k a0 8).bind fun bt101 => (if 4 ≤ (bt101.1.length : Int) then (some (bt101.1.take (4 : Int).toNat)) else (none))
theorem ehframe_low.mono : ∀ a0 k, LeO (ehframe_low.f k a0) (ehframe_low.f (k + 1) a0) := by
 intro a0 k
 unfold ehframe_low.f
 repeat' first
     | (with_reducible exact leb_Put.mono _ _ _)
     | (with_reducible exact LeO.refl _)
     | (with_reducible exact LeO.none _)
     | (with_reducible refine LeO.ite ?_ ?_)
     | (with_reducible refine LeO.bind ?_ (fun _ => ?_))
     | exact leb_Put.mono _ _ _
     | exact LeO.none _
     | refine LeO.ite ?_ ?_
     | refine LeO.bind ?_ (fun _ => ?_)
set_option maxHeartbeats 8000000 in
theorem ehframe_low.calls (k : Nat) (a0 : Int) (r : List Int) (w : World) (h : ehframe_low.f k a0 = some r) :
    Calls Try.prog 26 #[.int .i64 a0] w fun e w' => ∃ v0_ : Value, e = .returned (v0_) ∧ Kd.R (Kd.int .u8) 5 w' w.heap.size (fun _ => True) v0_ r ∧ Below w.heap.size w w' := by
 have HB := am (Below.refl w.heap.size w)
 have H : ((leb_Put.f k a0 8).bind fun bt101 => (if 4 ≤ (bt101.1.length : Int) then (some (bt101.1.take (4 : Int).toNat)) else (none))) = some r := h
 clear h
 replace H := Option.bind_eq_some_iff.mp H
 obtain ⟨⟨t101, t102⟩, A20, H⟩ := H
 replace H : (if 4 ≤ (t101.length : Int) then (some (t101.take (4 : Int).toNat)) else (none)) = some r := H
 have A2 := am A20
 clear A20
 by_cases c3 : 4 ≤ (t101.length : Int)
 rotate_left
 ·
  rw [if_neg c3] at H
  exact absurd H (by simp)
 rw [if_pos c3] at H
 have c3b0 := eq_true c3
 have c3b1 : decide (4 ≤ (t101.length : Int)) = true := decide_eq_true c3
 clear c3
 obtain ⟨y105, hy105⟩ : ∃ y_ : List Int, y_ = (t101.take (4 : Int).toNat) := ⟨_, rfl⟩
 replace H : (some y105) = some r := by first | (rw [hy105]; with_reducible exact H) | (have H2_ := (Option.bind_some _ _).symm.trans H; rw [hy105]; with_reducible exact H2_)
 have Ny105 := am hy105
 clear hy105
 obtain rfl := Option.some.inj H
 go_enter Try.func26, Try.ntmps26
 go_wp2_with (first | ((with_reducible refine gate_callee (f := 40) rfl ?_); refine goesL_ (some 7) rfl rfl Try.func40 (by kernel_rfl) rfl #[.int .i64 a0, .int .i64 8] rfl (by simp only [ml]; try rfl) ?_; (with_reducible refine (leb_Put.calls k a0 8 t101 t102 _ A2.out).mono ?_); rintro e w4 ⟨v103, rfl, ho0, hb⟩; refine ⟨_, rfl, ?_⟩; refine mv2 (am (Kd.R_lower ho0 (below_size (by exact bl_o HB.out)))) (am (below_step (by exact bl_o HB.out) hb)) ?_; clear HB; intro HO104 HB; obtain ⟨Ao5, co5, eo5⟩ := Kd.R_slice HO104.out; subst eo5; have q6 : (4 : Int) ≤ ((t101.length : Int) : Int) := od; obtain ⟨i06, hi06, _, hsz6, _⟩ := info_parts info5; have hcut6 := cut_to (P := Try.prog) 28 5 .i64 Try.underlying28 hi06 Ao5 t101.length co5 4 (by omega) q6 (Kd.R_reads' HO104.out).2.1; have hr6 := Kd.R_take (m := (4 : Int).toNat) HO104.out (by omega); have hy6 : y105.length = (4 : Int).toNat := (by rw [Ny105.out, List.length_take]; omega); rw [← Ny105.out] at hr6; rw [← hy6] at hr6 hcut6; clear hy6 hi06 hsz6 HO104; have HO107 := am hr6; clear hr6; replace q6 := eq_true q6))
 go_ret
 exact ⟨_, rfl, by (with_reducible repeat (first | apply Kd.R_alloc | apply Kd.R_drewN | apply Kd.R_drew)); exact HO107.out, by exact bl_g HB.out⟩
def ehframe_record.l0 : Nat → List Int → Option (List Int)
  | 0, _ => none
  | k + 1, x0 => if ((x0.length : Int) % 8) = 4 then ((ehframe_low.f k (x0.length : Int)).bind fun t101 => (if t101.length + x0.length < 140737488355328 then (some (t101 ++ x0)) else (none))) else (if x0.length < 140737488355328 then (ehframe_record.l0 k (x0 ++ [0])) else (none))
def ehframe_record.f (k : Nat) (l0 : List Int) : Option (List Int) := ehframe_record.l0 k l0
theorem ehframe_record.mono_l : ∀ k, (∀ y0, LeO (ehframe_record.l0 k y0) (ehframe_record.l0 (k + 1) y0))
  | 0 => fun _ r h => by simp [ehframe_record.l0] at h
  | k + 1 => by
    have ih0 := ehframe_record.mono_l k
    · intro y0
      unfold ehframe_record.l0
      repeat' first
      | (with_reducible exact ih0 _)
      | (with_reducible exact ehframe_low.mono _ _)
      | (with_reducible exact LeO.refl _)
      | (with_reducible exact LeO.none _)
      | (with_reducible refine LeO.ite ?_ ?_)
      | (with_reducible refine LeO.bind ?_ (fun _ => ?_))
      | exact ih0 _
      | exact ehframe_low.mono _ _
      | exact LeO.none _
      | refine LeO.ite ?_ ?_
      | refine LeO.bind ?_ (fun _ => ?_)
theorem ehframe_record.mono : ∀ a0 k, LeO (ehframe_record.f k a0) (ehframe_record.f (k + 1) a0) := by
 intro a0 k
 have ih0 := ehframe_record.mono_l k
 unfold ehframe_record.f
 repeat' first
     | (with_reducible exact ih0 _)
     | (with_reducible exact ehframe_low.mono _ _)
     | (with_reducible exact LeO.refl _)
     | (with_reducible exact LeO.none _)
     | (with_reducible refine LeO.ite ?_ ?_)
     | (with_reducible refine LeO.bind ?_ (fun _ => ?_))
     | exact ih0 _
     | exact ehframe_low.mono _ _
     | exact LeO.none _
     | refine LeO.ite ?_ ?_
     | refine LeO.bind ?_ (fun _ => ?_)
set_option maxHeartbeats 8000000 in
theorem ehframe_record.calls (k : Nat) (P0_ : Nat → Prop) (u9000_ : Value) (l0 : List Int) (r : List Int) (w0 w : World) (hB : Below w0.heap.size w0 w) (ho0 : Kd.R (Kd.int .u8) 5 w w0.heap.size P0_ u9000_ l0) (h : ehframe_record.f k l0 = some r) :
    Calls Try.prog 24 #[u9000_] w fun e w' => ∃ v0_ : Value, e = .returned (v0_) ∧ Kd.R (Kd.int .u8) 5 w' w0.heap.size (fun k_ => (P0_ k_ ∨ w.heap.size ≤ k_)) v0_ r ∧ Below w0.heap.size w0 w' ∧ Kept w w' (fun k_ => P0_ k_) := by
 have HO0 := am (show Kd.R (Kd.int .u8) 5 w w0.heap.size (fun k_ => (P0_ k_ ∨ w.heap.size ≤ k_)) u9000_ l0 from Kd.R_mono ho0 (fun k_ hk => (.inl hk)))
 have HK := am (Kept.refl w (fun k_ => P0_ k_))
 have HW0 := am hB.size
 have HB := am hB
 clear hB
 have H : (ehframe_record.l0 k l0) = some r := h
 clear h
 have H' := am H
 clear H
 go_enter Try.func24, Try.ntmps24
 go_wp2
 go_loopg [0] k (fun kq v0 w' => ∃ (x0_1 : List Int), Aside0 (ehframe_record.l0 kq x0_1 = some r) ∧ Aside0 (kq ≤ k) ∧ Aside0 (Kd.R (Kd.int .u8) 5 w' w0.heap.size (fun k_ => (P0_ k_ ∨ w.heap.size ≤ k_)) v0 x0_1) ∧ Aside0 (Kept w w' (fun k_ => P0_ k_)) ∧ Aside0 (Below w0.heap.size w0 w'))
 case atStart => exact ⟨(l0), H', ⟨Nat.le_refl _⟩, ⟨by (with_reducible repeat (first | apply Kd.R_alloc | apply Kd.R_drewN | apply Kd.R_drew)); exact HO0.out⟩, ⟨by repeat (first | (with_reducible first | exact HK.out | apply Kept.alloc | apply Kept.drewN | apply Kept.drew) | exact HK.out)⟩, ⟨by exact bl_g HB.out⟩⟩
 case round =>
  clear H'
  obtain ⟨x0_1, HA, HK1, HO_0, HK, HB⟩ := hrel
  cases gk with
  | zero => exact absurd HA.out (by simp [ehframe_record.l0])
  | succ k1 =>
   have H := HA.out
   clear HA
   simp only [ehframe_record.l0] at H
   by_cases c2 : ((x0_1.length : Int) % 8) = 4
   ·
    rw [if_pos c2] at H
    have c2b0 : (((x0_1.length : Int) % 8) == 4) = true := beq_iff_eq.mpr c2
    have c2b1 : (((x0_1.length : Int) % 8) != 4) = false := bne_eq_false_iff_eq.mpr c2
    clear c2
    replace H := Option.bind_eq_some_iff.mp H
    obtain ⟨t101, A30, H⟩ := H
    replace H : (if t101.length + x0_1.length < 140737488355328 then (some (t101 ++ x0_1)) else (none)) = some r := H
    have A3 := am A30
    clear A30
    by_cases c4 : t101.length + x0_1.length < 140737488355328
    rotate_left
    ·
     rw [if_neg c4] at H
     exact absurd H (by simp)
    rw [if_pos c4] at H
    have LMc4 := am c4
    clear c4
    obtain ⟨y104, hy104⟩ : ∃ y_ : List Int, y_ = (t101 ++ x0_1) := ⟨_, rfl⟩
    replace H : (some y104) = some r := by first | (rw [hy104]; with_reducible exact H) | (have H2_ := (Option.bind_some _ _).symm.trans H; rw [hy104]; with_reducible exact H2_)
    have Ny104 := am hy104
    clear hy104
    obtain rfl := Option.some.inj H
    obtain ⟨Ao5, co5, eo5⟩ := Kd.R_slice HO_0.out
    subst eo5
    go_wp2_with (first | ((with_reducible refine gate_callee (f := 26) rfl ?_); refine goesL_ (some 12) rfl rfl Try.func26 (by kernel_rfl) rfl #[.int .i64 (x0_1.length : Int)] rfl (by simp only [ml]; try rfl) ?_; (with_reducible refine (ehframe_low.calls k1 (x0_1.length : Int) t101 _ A3.out).mono ?_); rintro e w6 ⟨v102, rfl, ho0, hb⟩; refine ⟨_, rfl, ?_⟩; refine mv4 (am (Kd.R_elder' (Kd.R_o HO_0.out) (Kd.R_base ho0) hb)) (am (Kd.R_lower (Kd.R_new' (Kd.R_newM (M := fun k_ => (P0_ k_ ∨ w.heap.size ≤ k_)) ho0 (by first | exact HK.out.1 | exact (show Kept w _ (fun k_ => P0_ k_) from by repeat (first | (with_reducible first | exact HK.out | apply Kept.alloc | apply Kept.drewN | apply Kept.drew) | exact HK.out)).1) (fun k_ h_ => .inr h_)) (Kd.R_lt (Kd.R_o HO_0.out))) (below_size (by exact bl_o HB.out)))) (am (Kept.below (S := (fun k_ => P0_ k_)) (by repeat (first | (with_reducible first | exact HK.out | apply Kept.alloc | apply Kept.drewN | apply Kept.drew) | exact HK.out)) hb)) (am (below_step (by exact bl_o HB.out) hb)) ?_; clear HO_0 HK HB; intro HO_0 HO103 HK HB) | ((with_reducible refine gate_builtin (b := .append) (xs := #[.tmp 12, .tmp 13]) rfl ?_); at_builtin; refine Kd.R_append_rows (Kd.int .u8) (w0 := w0) w0.heap.size rfl (.tmp 12) (.tmp 13) 28 5 (.int .u8 0) 1 rfl Try.underlying28 info5 rfl (by decide) (by omega) v102 t101 x0_1 _ _ _ (fun k_ => (P0_ k_ ∨ w.heap.size ≤ k_) ∧ some k_ ≠ (.slice Ao5 x0_1.length co5 : Value).ownBlock) (fun _ => False) rfl rfl ?aO ?aR (fun _ _ h => h) (fun _ h => h.elim) ?aF ?aB ?aS ?aL ?_; (case aR => exact Kd.C_o ((Kd.R_reads' HO_0.out).2.2)); (case aB => exact (by exact bl_o HB.out)); (case aF => exact (fun k_ hk => ⟨(.inr (Nat.le_trans (by first | exact HK.out.1 | exact (show Kept w _ (fun k_ => P0_ k_) from by repeat (first | (with_reducible first | exact HK.out | apply Kept.alloc | apply Kept.drewN | apply Kept.drew) | exact HK.out)).1) hk)), Kd.fresh' (Kd.R_lt (Kd.R_o HO_0.out)) k_ hk⟩)); (case aO => exact (Kd.R_o (Kd.R_mono HO103.out (fun _ hk => ⟨hk.1.1, hk.2⟩)))); (case aS => exact (below_size (by exact bl_o HB.out))); (case aL => have := LMc4.out; omega); intro v105 w7 ho hb hg hat; rw [← Ny104.out] at ho; refine mv4 (am (Kd.R_after (ok := (fun k_ => (P0_ k_ ∨ w.heap.size ≤ k_))) (Kd.R_o HO_0.out) hg hat)) (am (hb)) (am (Kept.of_grown (S := (fun k_ => P0_ k_)) hg (by repeat (first | (with_reducible first | exact HK.out | apply Kept.alloc | apply Kept.drewN | apply Kept.drew) | exact HK.out)) (fun k_ e_ => (HO103.out.1 k_ e_).1.1))) (am (ho)) ?_; clear HO_0 HB HK HO103; intro HO_0 HB HK HO106; clear ho hb hg hat))
    go_ret
    exact ⟨_, rfl, by (with_reducible repeat (first | apply Kd.R_alloc | apply Kd.R_drewN | apply Kd.R_drew)); exact Kd.R_mono HO106.out (fun _ hk => hk.1), by exact bl_g HB.out, by repeat (first | (with_reducible first | exact HK.out | apply Kept.alloc | apply Kept.drewN | apply Kept.drew) | exact HK.out)⟩
   rw [if_neg c2] at H
   have c2b0 : (((x0_1.length : Int) % 8) == 4) = false := beq_eq_false_iff_ne.mpr c2
   have c2b1 : (((x0_1.length : Int) % 8) != 4) = true := bne_iff_ne.mpr c2
   by_cases c8 : x0_1.length < 140737488355328
   rotate_left
   ·
    rw [if_neg c8] at H
    exact absurd H (by simp)
   rw [if_pos c8] at H
   have LMc8 := am c8
   clear c8
   obtain ⟨y107, hy107⟩ : ∃ y_ : List Int, y_ = (x0_1 ++ [0]) := ⟨_, rfl⟩
   replace H : (ehframe_record.l0 k1 y107) = some r := by first | (rw [hy107]; with_reducible exact H) | (have H2_ := (Option.bind_some _ _).symm.trans H; rw [hy107]; with_reducible exact H2_)
   have Ny107 := am hy107
   clear hy107
   have H' := am H
   clear H
   obtain ⟨Ao9, co9, eo9⟩ := Kd.R_slice HO_0.out
   subst eo9
   go_wp2_with (first | ((with_reducible refine gate_builtin (b := .append) (xs := #[.tmp 7, .tmp 8]) rfl ?_); at_builtin; refine Kd.R_append (Kd.int .u8) (w0 := w0) w0.heap.size rfl (.tmp 7) (.tmp 8) 28 5 (.int .u8 0) 1 rfl Try.underlying28 info5 rfl (by decide) (by omega) (.slice Ao9 x0_1.length co9) x0_1 0 [.int .u8 0] (fun k_ => (P0_ k_ ∨ w.heap.size ≤ k_)) (fun _ => False) rfl rfl ?aP (fun _ hk => hk.elim) ?aF ?aO ?aB ?aS ?aL ?_; (case aP => exact rfl); (case aB => exact (by exact bl_o HB.out)); (case aF => exact (fun k_ hk => (.inr (Nat.le_trans (by first | exact HK.out.1 | exact (show Kept w _ (fun k_ => P0_ k_) from by repeat (first | (with_reducible first | exact HK.out | apply Kept.alloc | apply Kept.drewN | apply Kept.drew) | exact HK.out)).1) hk)))); (case aO => exact (Kd.R_o HO_0.out)); (case aS => exact (below_size (by exact bl_o HB.out))); (case aL => have := LMc8.out; omega); intro v108 w10 ho hb hg hat; rw [← Ny107.out] at ho; refine mv3 (am (hb)) (am (Kept.of_grown (S := (fun k_ => P0_ k_)) hg (by repeat (first | (with_reducible first | exact HK.out | apply Kept.alloc | apply Kept.drewN | apply Kept.drew) | exact HK.out)) (fun k_ e_ => (HO_0.out.1 k_ e_)))) (am (ho)) ?_; clear HB HK HO_0; intro HB HK HO109; clear ho hb hg hat))
   go_roundg k1
   case measure => have := HK1.out; omega
   case rel => exact ⟨(y107), H', ⟨by have := HK1.out; omega⟩, ⟨by (with_reducible repeat (first | apply Kd.R_alloc | apply Kd.R_drewN | apply Kd.R_drew)); exact HO109.out⟩, ⟨by repeat (first | (with_reducible first | exact HK.out | apply Kept.alloc | apply Kept.drewN | apply Kept.drew) | exact HK.out)⟩, ⟨by exact bl_g HB.out⟩⟩
def ehframe_head.f (a0 : Int) : Option (List Int) := some (([0, 0, 0, 0, 1, 122, 82, 0, 1, 120, 16, 1, (a0) % 256] : List Int))
set_option maxHeartbeats 8000000 in
theorem ehframe_head.calls (a0 : Int) (r : List Int) (w : World) (h : ehframe_head.f a0 = some r) :
    Calls Try.prog 25 #[.int .i64 a0] w fun e w' => ∃ v0_ : Value, e = .returned (v0_) ∧ Kd.R (Kd.int .u8) 5 w' w.heap.size (fun _ => True) v0_ r ∧ Below w.heap.size w w' := by
 have HB := am (Below.refl w.heap.size w)
 have H : (some (([0, 0, 0, 0, 1, 122, 82, 0, 1, 120, 16, 1, (a0) % 256] : List Int))) = some r := h
 clear h
 obtain ⟨y101, hy101⟩ : ∃ y_ : List Int, y_ = (([0, 0, 0, 0, 1, 122, 82, 0, 1, 120, 16, 1, (a0) % 256] : List Int)) := ⟨_, rfl⟩
 replace H : (some y101) = some r := by first | (rw [hy101]; with_reducible exact H) | (have H2_ := (Option.bind_some _ _).symm.trans H; rw [hy101]; with_reducible exact H2_)
 have Ny101 := am hy101
 clear hy101
 obtain rfl := Option.some.inj H
 go_enter Try.func25, Try.ntmps25
 go_wp2_with (first | ((with_reducible refine gate_dst (N := 5) rfl ?_); refine Kd.R_lit (Kd.int .u8) _ 5 ?hg (N := 5) ?hd (xs := ([0, 0, 0, 0, 1, 122, 82, 0, 1, 120, 16, 1, (a0) % 256] : List Int)) (inner := [.int .u8 0, .int .u8 0, .int .u8 0, .int .u8 0, .int .u8 1, .int .u8 122, .int .u8 82, .int .u8 0, .int .u8 1, .int .u8 120, .int .u8 16, .int .u8 1, .int .u8 ((a0) % 256)]) (ok := fun _ => True) (okp := fun _ => True) ?hr ?hp (fun _ hk => hk) trivial (Below.refl _ _) (Nat.le_refl _) (by simp) ?_; (case hd => rfl); (case hg => rfl); (case hr => go_simp; try rfl); (case hp => exact (Reps.one (show Kd.M (Kd.int .u8) _ _ _ 0 [.int .u8 0] from rfl) (Reps.one (show Kd.M (Kd.int .u8) _ _ _ 0 [.int .u8 0] from rfl) (Reps.one (show Kd.M (Kd.int .u8) _ _ _ 0 [.int .u8 0] from rfl) (Reps.one (show Kd.M (Kd.int .u8) _ _ _ 0 [.int .u8 0] from rfl) (Reps.one (show Kd.M (Kd.int .u8) _ _ _ 1 [.int .u8 1] from rfl) (Reps.one (show Kd.M (Kd.int .u8) _ _ _ 122 [.int .u8 122] from rfl) (Reps.one (show Kd.M (Kd.int .u8) _ _ _ 82 [.int .u8 82] from rfl) (Reps.one (show Kd.M (Kd.int .u8) _ _ _ 0 [.int .u8 0] from rfl) (Reps.one (show Kd.M (Kd.int .u8) _ _ _ 1 [.int .u8 1] from rfl) (Reps.one (show Kd.M (Kd.int .u8) _ _ _ 120 [.int .u8 120] from rfl) (Reps.one (show Kd.M (Kd.int .u8) _ _ _ 16 [.int .u8 16] from rfl) (Reps.one (show Kd.M (Kd.int .u8) _ _ _ 1 [.int .u8 1] from rfl) (Reps.one (show Kd.M (Kd.int .u8) _ _ _ ((a0) % 256) [.int .u8 ((a0) % 256)] from rfl) (Reps.none _ _))))))))))))))); intro v102 w2 ho3 hb hg_ hnew_; clear hg_ hnew_; (first | rw [← Ny101.out] at ho3 | (simp only [Int.reduceToNat] at ho3; rw [← Ny101.out] at ho3)); refine mv2 (am (Kd.R_lower ho3 (below_size (by exact bl_o HB.out)))) (am (below_step (by exact bl_o HB.out) hb)) ?_; clear HB; intro HO103 HB; clear hb ho3))
 go_ret
 exact ⟨_, rfl, by (with_reducible repeat (first | apply Kd.R_alloc | apply Kd.R_drewN | apply Kd.R_drew)); exact HO103.out, by exact bl_g HB.out⟩
mutual
def ehframe_Write.j0 : Nat → List (S69) → List (S46) → Int → Bool → List Int → Bool → Option (List Int × List Int × Int)
  | 0, _, _, _, _, _, _ => none
  | k + 1, x0, x1, x2, x3, x8, x36 => if x36 = true then (some (([] : List Int), ([] : List Int), 11)) else (if 0 ≤ (x1.length : Int) then (if ((x1.length : Int) : Int).toNat ≤ 35184372088832 then (ehframe_Write.l0 k x1 x2 x3 x8 (List.replicate ((x1.length : Int) : Int).toNat 0) x0 (x0.length : Int) 0) else (none)) else (none))
def ehframe_Write.l0 : Nat → List (S46) → Int → Bool → List Int → List Int → List (S69) → Int → Int → Option (List Int × List Int × Int)
  | 0, _, _, _, _, _, _, _, _ => none
  | k + 1, x1, x2, x3, x8, x9, x40, x41, x42 => if x42 < x41 then (if 0 ≤ x42 then (if x42 < (x40.length : Int) then ((cfa_Write.f k ((rd_T69 x40 x42).f1)).bind fun bt107 => ((ehframe_head.f ((rd_T69 x40 x42).f0)).bind fun t111 => (if t111.length + bt107.1.length < 140737488355328 then ((ehframe_record.f k (t111 ++ bt107.1)).bind fun t117 => (if x8.length + t117.length < 140737488355328 then (ehframe_Write.l1 k x1 x2 x3 (x8 ++ t117) x9 x42 (x8.length : Int) x40 x41 x42 x1 (x1.length : Int) 0 ((rd_T69 x40 x42).f0) ((rd_T69 x40 x42).f1)) else (none))) else (none)))) else (none)) else (none)) else (if x3 = true then ((some (([0, 0, 0, 0] : List Int) : List Int)).bind fun y159 => (if x8.length + y159.length < 140737488355328 then ((some (x8 ++ y159 : List Int)).bind fun y162 => (if (y162.length : Int) > 1048576 then (some (([] : List Int), ([] : List Int), 6)) else (some (y162, x9, 0)))) else (none))) else (if (x8.length : Int) > 1048576 then (some (([] : List Int), ([] : List Int), 6)) else (some (x8, x9, 0))))
def ehframe_Write.l1 : Nat → List (S46) → Int → Bool → List Int → List Int → Int → Int → List (S69) → Int → Int → List (S46) → Int → Int → Int → List (S105) → Option (List Int × List Int × Int)
  | 0, _, _, _, _, _, _, _, _, _, _, _, _, _, _, _ => none
  | k + 1, x1, x2, x3, x8, x9, x12, x14, x40, x41, x42, x63, x64, x65, x107000, x107001 => if x65 < x64 then (if 0 ≤ x65 then (if x65 < (x63.length : Int) then (if ((rd_T46 x63 x65).f0) = x12 then (if x65 < (x9.length : Int) then ((ehframe_low.f k (wrap64 ((wrap64 ((x8.length : Int) + 4)) - x14))).bind fun t126 => ((ehframe_Put.f k x107000 ((rd_T46 x63 x65).f1) (wrap64 ((wrap64 (x2 + (x8.length : Int))) + 8)) 0).bind fun bt129 => (if bt129.2 = 0 then ((ehframe_Put.f k (Go.bits .and .i64 x107000 15) ((rd_T46 x63 x65).f2) 0 0).bind fun bt133 => (if bt133.2 = 0 then ((cfa_Write.f k ((rd_T46 x63 x65).f3)).bind fun bt137 => (if t126.length + bt129.1.length < 140737488355328 then ((some (t126 ++ bt129.1 : List Int)).bind fun y141 => (if y141.length + bt133.1.length < 140737488355328 then ((some (y141 ++ bt133.1 : List Int)).bind fun y144 => (if y144.length < 140737488355328 then ((some (y144 ++ [0] : List Int)).bind fun y147 => (if y147.length + bt137.1.length < 140737488355328 then ((ehframe_record.f k (y147 ++ bt137.1)).bind fun t153 => (if x8.length + t153.length < 140737488355328 then (ehframe_Write.l1 k x1 x2 x3 (x8 ++ t153) (x9.set (x65 : Int).toNat (x8.length : Int)) x12 x14 x40 x41 x42 x63 x64 (wrap64 (x65 + 1)) x107000 x107001) else (none))) else (none))) else (none))) else (none))) else (none))) else (some (([] : List Int), ([] : List Int), 11)))) else (some (([] : List Int), ([] : List Int), 11))))) else (none)) else (ehframe_Write.l1 k x1 x2 x3 x8 x9 x12 x14 x40 x41 x42 x63 x64 (wrap64 (x65 + 1)) x107000 x107001)) else (none)) else (none)) else (ehframe_Write.l0 k x1 x2 x3 x8 x9 x40 x41 (wrap64 (x42 + 1)))
end
def ehframe_Write.f (k : Nat) (l0 : List (S69)) (l1 : List (S46)) (a2 : Int) (a3 : Bool) : Option (List Int × List Int × Int) := (ehframe_Check.f k l0 l1).bind fun t101 => (if t101 = 0 then (if a2 < 0 then (ehframe_Write.j0 k l0 l1 a2 a3 ([] : List Int) true) else (ehframe_Write.j0 k l0 l1 a2 a3 ([] : List Int) (decide (a2 > 576460752303423488)))) else (some (([] : List Int), ([] : List Int), t101)))
theorem ehframe_Write.mono_l : ∀ k, (∀ y0 y1 y2 y3 y4 y5, LeO (ehframe_Write.j0 k y0 y1 y2 y3 y4 y5) (ehframe_Write.j0 (k + 1) y0 y1 y2 y3 y4 y5)) ∧ (∀ y0 y1 y2 y3 y4 y5 y6 y7, LeO (ehframe_Write.l0 k y0 y1 y2 y3 y4 y5 y6 y7) (ehframe_Write.l0 (k + 1) y0 y1 y2 y3 y4 y5 y6 y7)) ∧ (∀ y0 y1 y2 y3 y4 y5 y6 y7 y8 y9 y10 y11 y12 y13 y14, LeO (ehframe_Write.l1 k y0 y1 y2 y3 y4 y5 y6 y7 y8 y9 y10 y11 y12 y13 y14) (ehframe_Write.l1 (k + 1) y0 y1 y2 y3 y4 y5 y6 y7 y8 y9 y10 y11 y12 y13 y14))
  | 0 => ⟨fun _ _ _ _ _ _ r h => by simp [ehframe_Write.j0] at h, fun _ _ _ _ _ _ _ _ r h => by simp [ehframe_Write.l0] at h, fun _ _ _ _ _ _ _ _ _ _ _ _ _ _ _ r h => by simp [ehframe_Write.l1] at h⟩
  | k + 1 => by
    obtain ⟨ih0, ih1, ih2⟩ := ehframe_Write.mono_l k
    refine ⟨?_, ?_, ?_⟩
    · intro y0 y1 y2 y3 y4 y5
      unfold ehframe_Write.j0
      repeat' first
      | (with_reducible exact ih0 _ _ _ _ _ _)
      | (with_reducible exact ih1 _ _ _ _ _ _ _ _)
      | (with_reducible exact ih2 _ _ _ _ _ _ _ _ _ _ _ _ _ _ _)
      | (with_reducible exact cfa_Write.mono _ _)
      | (with_reducible exact ehframe_Check.mono _ _ _)
      | (with_reducible exact ehframe_Put.mono _ _ _ _ _)
      | (with_reducible exact ehframe_low.mono _ _)
      | (with_reducible exact ehframe_record.mono _ _)
      | (with_reducible exact LeO.refl _)
      | (with_reducible exact LeO.none _)
      | (with_reducible refine LeO.ite ?_ ?_)
      | (with_reducible refine LeO.bind ?_ (fun _ => ?_))
      | exact ih0 _ _ _ _ _ _
      | exact ih1 _ _ _ _ _ _ _ _
      | exact ih2 _ _ _ _ _ _ _ _ _ _ _ _ _ _ _
      | exact cfa_Write.mono _ _
      | exact ehframe_Check.mono _ _ _
      | exact ehframe_Put.mono _ _ _ _ _
      | exact ehframe_low.mono _ _
      | exact ehframe_record.mono _ _
      | exact LeO.none _
      | refine LeO.ite ?_ ?_
      | refine LeO.bind ?_ (fun _ => ?_)
    · intro y0 y1 y2 y3 y4 y5 y6 y7
      unfold ehframe_Write.l0
      repeat' first
      | (with_reducible exact ih0 _ _ _ _ _ _)
      | (with_reducible exact ih1 _ _ _ _ _ _ _ _)
      | (with_reducible exact ih2 _ _ _ _ _ _ _ _ _ _ _ _ _ _ _)
      | (with_reducible exact cfa_Write.mono _ _)
      | (with_reducible exact ehframe_Check.mono _ _ _)
      | (with_reducible exact ehframe_Put.mono _ _ _ _ _)
      | (with_reducible exact ehframe_low.mono _ _)
      | (with_reducible exact ehframe_record.mono _ _)
      | (with_reducible exact LeO.refl _)
      | (with_reducible exact LeO.none _)
      | (with_reducible refine LeO.ite ?_ ?_)
      | (with_reducible refine LeO.bind ?_ (fun _ => ?_))
      | exact ih0 _ _ _ _ _ _
      | exact ih1 _ _ _ _ _ _ _ _
      | exact ih2 _ _ _ _ _ _ _ _ _ _ _ _ _ _ _
      | exact cfa_Write.mono _ _
      | exact ehframe_Check.mono _ _ _
      | exact ehframe_Put.mono _ _ _ _ _
      | exact ehframe_low.mono _ _
      | exact ehframe_record.mono _ _
      | exact LeO.none _
      | refine LeO.ite ?_ ?_
      | refine LeO.bind ?_ (fun _ => ?_)
    · intro y0 y1 y2 y3 y4 y5 y6 y7 y8 y9 y10 y11 y12 y13 y14
      unfold ehframe_Write.l1
      repeat' first
      | (with_reducible exact ih0 _ _ _ _ _ _)
      | (with_reducible exact ih1 _ _ _ _ _ _ _ _)
      | (with_reducible exact ih2 _ _ _ _ _ _ _ _ _ _ _ _ _ _ _)
      | (with_reducible exact cfa_Write.mono _ _)
      | (with_reducible exact ehframe_Check.mono _ _ _)
      | (with_reducible exact ehframe_Put.mono _ _ _ _ _)
      | (with_reducible exact ehframe_low.mono _ _)
      | (with_reducible exact ehframe_record.mono _ _)
      | (with_reducible exact LeO.refl _)
      | (with_reducible exact LeO.none _)
      | (with_reducible refine LeO.ite ?_ ?_)
      | (with_reducible refine LeO.bind ?_ (fun _ => ?_))
      | exact ih0 _ _ _ _ _ _
      | exact ih1 _ _ _ _ _ _ _ _
      | exact ih2 _ _ _ _ _ _ _ _ _ _ _ _ _ _ _
      | exact cfa_Write.mono _ _
      | exact ehframe_Check.mono _ _ _
      | exact ehframe_Put.mono _ _ _ _ _
      | exact ehframe_low.mono _ _
      | exact ehframe_record.mono _ _
      | exact LeO.none _
      | refine LeO.ite ?_ ?_
      | refine LeO.bind ?_ (fun _ => ?_)
theorem ehframe_Write.mono : ∀ a0 a1 a2 a3 k, LeO (ehframe_Write.f k a0 a1 a2 a3) (ehframe_Write.f (k + 1) a0 a1 a2 a3) := by
 intro a0 a1 a2 a3 k
 obtain ⟨ih0, ih1, ih2⟩ := ehframe_Write.mono_l k
 unfold ehframe_Write.f
 repeat' first
     | (with_reducible exact ih0 _ _ _ _ _ _)
     | (with_reducible exact ih1 _ _ _ _ _ _ _ _)
     | (with_reducible exact ih2 _ _ _ _ _ _ _ _ _ _ _ _ _ _ _)
     | (with_reducible exact cfa_Write.mono _ _)
     | (with_reducible exact ehframe_Check.mono _ _ _)
     | (with_reducible exact ehframe_Put.mono _ _ _ _ _)
     | (with_reducible exact ehframe_low.mono _ _)
     | (with_reducible exact ehframe_record.mono _ _)
     | (with_reducible exact LeO.refl _)
     | (with_reducible exact LeO.none _)
     | (with_reducible refine LeO.ite ?_ ?_)
     | (with_reducible refine LeO.bind ?_ (fun _ => ?_))
     | exact ih0 _ _ _ _ _ _
     | exact ih1 _ _ _ _ _ _ _ _
     | exact ih2 _ _ _ _ _ _ _ _ _ _ _ _ _ _ _
     | exact cfa_Write.mono _ _
     | exact ehframe_Check.mono _ _ _
     | exact ehframe_Put.mono _ _ _ _ _
     | exact ehframe_low.mono _ _
     | exact ehframe_record.mono _ _
     | exact LeO.none _
     | refine LeO.ite ?_ ?_
     | refine LeO.bind ?_ (fun _ => ?_)
set_option maxHeartbeats 8000000 in
theorem ehframe_Write.calls (k : Nat) (A0 : Option Addr) (c0 : Nat) (l0 : List (S69)) (A1 : Option Addr) (c1 : Nat) (l1 : List (S46)) (a2 : Int) (a3 : Bool) (r1 : List Int) (r2 : List Int) (r3 : Int) (w : World) (hr0 : Kd.C k69 w A0 l0.length l0) (hc0 : l0.length ≤ c0) (hr1 : Kd.C k46 w A1 l1.length l1) (hc1 : l1.length ≤ c1) (h : ehframe_Write.f k l0 l1 a2 a3 = some (r1, r2, r3)) :
    Calls Try.prog 9 #[.slice A0 l0.length c0, .slice A1 l1.length c1, .int .i64 a2, .bool a3] w fun e w' => ∃ v0_ v1_ : Value, e = .returned (.tuple #[v0_, v1_, .int .i64 r3]) ∧ Kd.R (Kd.int .u8) 5 w' w.heap.size (fun _ => True) v0_ r1 ∧ Kd.R (Kd.int .i64) 3 w' w.heap.size (fun _ => True) v1_ r2 ∧ Below w.heap.size w w' := by
 have hu69 := Try.underlying69
 have hu46 := Try.underlying46
 have HR0 := am hr0
 have HC0 := am hc0
 clear hr0 hc0
 have HR1 := am hr1
 have HC1 := am hc1
 clear hr1 hc1
 have HB := am (Below.refl w.heap.size w)
 have H : ((ehframe_Check.f k l0 l1).bind fun t101 => (if t101 = 0 then (if a2 < 0 then (ehframe_Write.j0 k l0 l1 a2 a3 ([] : List Int) true) else (ehframe_Write.j0 k l0 l1 a2 a3 ([] : List Int) (decide (a2 > 576460752303423488)))) else (some (([] : List Int), ([] : List Int), t101)))) = some (r1, r2, r3) := h
 clear h
 replace H := Option.bind_eq_some_iff.mp H
 obtain ⟨t101, A50, H⟩ := H
 replace H : (if t101 = 0 then (if a2 < 0 then (ehframe_Write.j0 k l0 l1 a2 a3 ([] : List Int) true) else (ehframe_Write.j0 k l0 l1 a2 a3 ([] : List Int) (decide (a2 > 576460752303423488)))) else (some (([] : List Int), ([] : List Int), t101))) = some (r1, r2, r3) := H
 have A5 := am A50
 clear A50
 by_cases c6 : t101 = 0
 rotate_left
 ·
  rw [if_neg c6] at H
  have c6b0 : (t101 == 0) = false := beq_eq_false_iff_ne.mpr c6
  have c6b1 : (t101 != 0) = true := bne_iff_ne.mpr c6
  simp only [Option.some.injEq, Prod.mk.injEq] at H
  obtain ⟨rfl, rfl, rfl⟩ := H
  go_enter Try.func9, Try.ntmps9
  go_wp2_with (first | ((with_reducible refine gate_callee (f := 12) rfl ?_); refine goesL_ (some 27) rfl rfl Try.func12 (by kernel_rfl) rfl #[.slice A0 l0.length c0, .slice A1 l1.length c1] rfl (by simp only [ml]; try rfl) ?_; (with_reducible refine (ehframe_Check.calls k _ _ l0 _ _ l1 t101 _ ?side1 ?side2 ?side3 ?side4 A5.out).mono ?_); (case side1 => exact Kd.C_o HR0.out); (case side2 => exact HC0.out); (case side3 => exact Kd.C_o HR1.out); (case side4 => exact HC1.out); rintro e w127 ⟨rfl, hb⟩; refine ⟨_, rfl, ?_⟩; have n0_ := am (below_step (by exact bl_o HB.out) hb); clear HB; have HB := n0_; clear n0_))
  go_ret3
  exact ⟨_, _, rfl, by first | exact Kd.R_nil _ _ _ _ _ | exact Kd.N_nil _ _ _ _ _, by first | exact Kd.R_nil _ _ _ _ _ | exact Kd.N_nil _ _ _ _ _, by exact bl_g HB.out⟩
 rw [if_pos c6] at H
 have c6b0 : (t101 == 0) = true := beq_iff_eq.mpr c6
 have c6b1 : (t101 != 0) = false := bne_eq_false_iff_eq.mpr c6
 clear c6
 have HC7 := am H
 clear H
 go_enter Try.func9, Try.ntmps9
 go_upto_region 4 with (first | ((with_reducible refine gate_callee (f := 12) rfl ?_); refine goesL_ (some 27) rfl rfl Try.func12 (by kernel_rfl) rfl #[.slice A0 l0.length c0, .slice A1 l1.length c1] rfl (by simp only [ml]; try rfl) ?_; (with_reducible refine (ehframe_Check.calls k _ _ l0 _ _ l1 t101 _ ?side1 ?side2 ?side3 ?side4 A5.out).mono ?_); (case side1 => exact Kd.C_o HR0.out); (case side2 => exact HC0.out); (case side3 => exact Kd.C_o HR1.out); (case side4 => exact HC1.out); rintro e w8 ⟨rfl, hb⟩; refine ⟨_, rfl, ?_⟩; have n0_ := am (below_step (by exact bl_o HB.out) hb); clear HB; have HB := n0_; clear n0_))
 (try simp only [Act.put, List.setIfInBounds_toArray, List.set_cons_zero, List.set_cons_succ])
 go_cut [36] (fun v36 wc => ∃ (kq : Nat) (x36_6 : Bool), v36 = .bool x36_6 ∧ Aside0 (ehframe_Write.j0 kq l0 l1 a2 a3 ([] : List Int) x36_6 = some (r1, r2, r3)) ∧ Aside0 (kq ≤ k) ∧ Aside0 (Kd.R (Kd.int .u8) 5 wc w.heap.size (fun _ => True) (.slice none 0 0) ([] : List Int)) ∧ Aside0 (Below w.heap.size w wc))
 case first =>
  have H := HC7.out
  clear HC7
  by_cases c9 : a2 < 0
  ·
   rw [if_pos c9] at H
   have c9b0 : decide (a2 < 0) = true := decide_eq_true c9
   clear c9
   (first | rw [c9b0] | (simp only [i64_w, i32_w]; rw [c9b0]) | skip)
   have H' := am H
   clear H
   go_wp2
   go_meet
   case rel => exact ⟨_, (true), (by first | rfl | (simp; done) | (simp [*]; done)), H', ⟨by first | omega | exact Nat.le_refl _⟩, ⟨by first | exact Kd.R_nil _ _ _ _ _ | exact Kd.N_nil _ _ _ _ _⟩, ⟨by exact bl_g HB.out⟩⟩
  rw [if_neg c9] at H
  have c9b0 : decide (a2 < 0) = false := decide_eq_false c9
  clear c9
  (first | rw [c9b0] | (simp only [i64_w, i32_w]; rw [c9b0]) | skip)
  have H' := am H
  clear H
  go_wp2
  go_meet
  case rel => exact ⟨_, (decide (a2 > 576460752303423488)), (by first | rfl | (simp; done) | (simp [*]; done)), H', ⟨by first | omega | exact Nat.le_refl _⟩, ⟨by first | exact Kd.R_nil _ _ _ _ _ | exact Kd.N_nil _ _ _ _ _⟩, ⟨by exact bl_g HB.out⟩⟩
 case rest =>
  clear HC7
  try clear c1
  try clear p2
  try clear c6
  try clear c6b0
  try clear c6b1
  try clear c9
  try clear c9b0
  obtain ⟨kq, x36_6, rfl, HA, HJ6, HO_8, HB⟩ := hcut
  cases kq with
  | zero => exact absurd HA.out (by simp [ehframe_Write.j0])
  | succ kj6 =>
   have H := HA.out
   clear HA
   simp only [ehframe_Write.j0] at H
   by_cases c10 : x36_6 = true
   ·
    subst c10
    replace H : (some (([] : List Int), ([] : List Int), 11)) = some (r1, r2, r3) := by rw [if_pos rfl] at H; exact H
    simp only [Option.some.injEq, Prod.mk.injEq] at H
    obtain ⟨rfl, rfl, rfl⟩ := H
    go_wp2
    go_ret3
    exact ⟨_, _, rfl, by first | exact Kd.R_nil _ _ _ _ _ | exact Kd.N_nil _ _ _ _ _, by first | exact Kd.R_nil _ _ _ _ _ | exact Kd.N_nil _ _ _ _ _, by exact bl_g HB.out⟩
   replace c10 := Bool.eq_false_iff.mpr c10
   subst c10
   replace H : (if 0 ≤ (l1.length : Int) then (if ((l1.length : Int) : Int).toNat ≤ 35184372088832 then (ehframe_Write.l0 kj6 l1 a2 a3 ([] : List Int) (List.replicate ((l1.length : Int) : Int).toNat 0) l0 (l0.length : Int) 0) else (none)) else (none)) = some (r1, r2, r3) := by rw [if_neg (show ¬ (false = true) by decide)] at H; exact H
   by_cases c11 : 0 ≤ (l1.length : Int)
   rotate_left
   ·
    rw [if_neg c11] at H
    exact absurd H (by simp)
   rw [if_pos c11] at H
   have c11b0 := eq_true c11
   have c11b1 : decide (0 ≤ (l1.length : Int)) = true := decide_eq_true c11
   clear c11
   by_cases c12 : ((l1.length : Int) : Int).toNat ≤ 35184372088832
   rotate_left
   ·
    rw [if_neg c12] at H
    exact absurd H (by simp)
   rw [if_pos c12] at H
   have c12b0 := eq_true c12
   have c12b1 : decide (((l1.length : Int) : Int).toNat ≤ 35184372088832) = true := decide_eq_true c12
   clear c12
   obtain ⟨y102, hy102⟩ : ∃ y_ : List Int, y_ = (List.replicate ((l1.length : Int) : Int).toNat 0) := ⟨_, rfl⟩
   replace H : (ehframe_Write.l0 kj6 l1 a2 a3 ([] : List Int) y102 l0 (l0.length : Int) 0) = some (r1, r2, r3) := by first | (rw [hy102]; with_reducible exact H) | (have H2_ := (Option.bind_some _ _).symm.trans H; rw [hy102]; with_reducible exact H2_)
   have Ny102 := am hy102
   clear hy102
   have H' := am H
   clear H
   go_wp2_with (first | ((with_reducible refine gate_dst (N := 39) rfl ?_); refine Kd.R_make (Kd.int .i64) _ 3 rfl (N := 39) rfl 29 _ _ rfl (l1.length : Int) rfl rfl Try.underlying29 (.int .i64 0) 8 info3 rfl (by decide) (by omega) 0 (ok := fun _ => True) (okp := fun _ => True) rfl (fun _ hk => hk) trivial (od) (Nat.le_trans (Nat.mul_le_mul_right _ (od : (l1.length : Int).toNat ≤ 35184372088832)) (by omega)) (Below.refl _ _) (Nat.le_refl _) ?_; intro v103 w13 ho14 hb hg_ hnew_; clear hg_ hnew_; (first | rw [← Ny102.out] at ho14 | (simp only [Int.reduceToNat] at ho14; rw [← Ny102.out] at ho14)); refine mv3 (am (Kd.R_below (Kd.R_o HO_8.out) hb)) (am (Kd.R_lower ho14 (below_size (by exact bl_o HB.out)))) (am (below_step (by exact bl_o HB.out) hb)) ?_; clear HO_8 HB; intro HO_8 HO104 HB; clear hb ho14))
   go_loopg [8, 9, 42] kj6 (fun kq v8 v9 v42 w' => ∃ (x8_2 : List Int) (x9_2 : List Int) (x42_2 : Int), v42 = .int .i64 x42_2 ∧ Aside0 (ehframe_Write.l0 kq l1 a2 a3 x8_2 x9_2 l0 (l0.length : Int) x42_2 = some (r1, r2, r3)) ∧ Aside0 (kq ≤ kj6) ∧ Aside0 (Kd.R (Kd.int .u8) 5 w' w.heap.size (fun _ => True) v8 x8_2) ∧ Aside0 (Kd.R (Kd.int .i64) 3 w' w.heap.size (fun _ => True) v9 x9_2) ∧ Aside0 (Below w.heap.size w w'))
   case atStart => exact ⟨(([] : List Int)), (y102), (0), (by first | rfl | (simp; done) | (simp [*]; done)), H', ⟨Nat.le_refl _⟩, ⟨by (with_reducible repeat (first | apply Kd.R_alloc | apply Kd.R_drewN | apply Kd.R_drew)); exact HO_8.out⟩, ⟨by (with_reducible repeat (first | apply Kd.R_alloc | apply Kd.R_drewN | apply Kd.R_drew)); exact HO104.out⟩, ⟨by exact bl_g HB.out⟩⟩
   case round =>
    clear H'
    try clear c1
    try clear p2
    try clear c6
    try clear c6b0
    try clear c6b1
    try clear c9
    try clear c9b0
    try clear c10
    try clear c11
    try clear c11b0
    try clear c11b1
    try clear c12
    try clear c12b0
    try clear c12b1
    try clear p2
    obtain ⟨x8_2, x9_2, x42_2, rfl, HA, HK2, HO_8, HO_9, HB⟩ := hrel
    cases gk with
    | zero => exact absurd HA.out (by simp [ehframe_Write.l0])
    | succ k2 =>
     have H := HA.out
     clear HA
     simp only [ehframe_Write.l0] at H
     by_cases c15 : x42_2 < (l0.length : Int)
     rotate_left
     ·
      rw [if_neg c15] at H
      have c15b0 : decide (x42_2 < (l0.length : Int)) = false := decide_eq_false c15
      clear c15
      by_cases c111 : a3 = true
      rotate_left
      ·
       replace c111 := Bool.eq_false_iff.mpr c111
       subst c111
       replace H : (if (x8_2.length : Int) > 1048576 then (some (([] : List Int), ([] : List Int), 6)) else (some (x8_2, x9_2, 0))) = some (r1, r2, r3) := by rw [if_neg (show ¬ (false = true) by decide)] at H; exact H
       by_cases c124 : (x8_2.length : Int) > 1048576
       ·
        rw [if_pos c124] at H
        have c124b0 : decide (1048576 < (x8_2.length : Int)) = true := decide_eq_true c124
        have c124b1 : decide (1048576 < x8_2.length) = true := decide_eq_true (by omega)
        clear c124
        simp only [Option.some.injEq, Prod.mk.injEq] at H
        obtain ⟨rfl, rfl, rfl⟩ := H
        obtain ⟨Ao125, co125, eo125⟩ := Kd.R_slice HO_8.out
        subst eo125
        go_wp2
        go_ret3
        exact ⟨_, _, rfl, by first | exact Kd.R_nil _ _ _ _ _ | exact Kd.N_nil _ _ _ _ _, by first | exact Kd.R_nil _ _ _ _ _ | exact Kd.N_nil _ _ _ _ _, by exact bl_g HB.out⟩
       rw [if_neg c124] at H
       have c124b0 : decide (1048576 < (x8_2.length : Int)) = false := decide_eq_false c124
       have c124b1 : decide (1048576 < x8_2.length) = false := decide_eq_false (by omega)
       clear c124
       simp only [Option.some.injEq, Prod.mk.injEq] at H
       obtain ⟨rfl, rfl, rfl⟩ := H
       obtain ⟨Ao126, co126, eo126⟩ := Kd.R_slice HO_8.out
       subst eo126
       go_wp2
       go_ret3
       exact ⟨_, _, rfl, by (with_reducible repeat (first | apply Kd.R_alloc | apply Kd.R_drewN | apply Kd.R_drew)); exact HO_8.out, by (with_reducible repeat (first | apply Kd.R_alloc | apply Kd.R_drewN | apply Kd.R_drew)); exact HO_9.out, by exact bl_g HB.out⟩
      subst c111
      replace H : ((some (([0, 0, 0, 0] : List Int) : List Int)).bind fun y159 => (if x8_2.length + y159.length < 140737488355328 then ((some (x8_2 ++ y159 : List Int)).bind fun y162 => (if (y162.length : Int) > 1048576 then (some (([] : List Int), ([] : List Int), 6)) else (some (y162, x9_2, 0)))) else (none))) = some (r1, r2, r3) := by rw [if_pos rfl] at H; exact H
      obtain ⟨y159, hy159⟩ : ∃ y_ : List Int, y_ = (([0, 0, 0, 0] : List Int)) := ⟨_, rfl⟩
      replace H : (if x8_2.length + y159.length < 140737488355328 then ((some (x8_2 ++ y159 : List Int)).bind fun y162 => (if (y162.length : Int) > 1048576 then (some (([] : List Int), ([] : List Int), 6)) else (some (y162, x9_2, 0)))) else (none)) = some (r1, r2, r3) := by first | (rw [hy159]; with_reducible exact H) | (have H2_ := (Option.bind_some _ _).symm.trans H; rw [hy159]; with_reducible exact H2_)
      have Ny159 := am hy159
      clear hy159
      by_cases c112 : x8_2.length + y159.length < 140737488355328
      rotate_left
      ·
       rw [if_neg c112] at H
       exact absurd H (by simp)
      rw [if_pos c112] at H
      have LMc112 := am c112
      clear c112
      obtain ⟨y162, hy162⟩ : ∃ y_ : List Int, y_ = (x8_2 ++ y159) := ⟨_, rfl⟩
      replace H : (if (y162.length : Int) > 1048576 then (some (([] : List Int), ([] : List Int), 6)) else (some (y162, x9_2, 0))) = some (r1, r2, r3) := by first | (rw [hy162]; with_reducible exact H) | (have H2_ := (Option.bind_some _ _).symm.trans H; rw [hy162]; with_reducible exact H2_)
      have Ny162 := am hy162
      clear hy162
      by_cases c113 : (y162.length : Int) > 1048576
      ·
       rw [if_pos c113] at H
       have c113b0 : decide (1048576 < (y162.length : Int)) = true := decide_eq_true c113
       have c113b1 : decide (1048576 < y162.length) = true := decide_eq_true (by omega)
       clear c113
       simp only [Option.some.injEq, Prod.mk.injEq] at H
       obtain ⟨rfl, rfl, rfl⟩ := H
       go_wp2_with (first | ((with_reducible refine gate_dst (N := 134) rfl ?_); refine Kd.R_lit (Kd.int .u8) _ 5 ?hg (N := 134) ?hd (xs := ([0, 0, 0, 0] : List Int)) (inner := [.int .u8 0, .int .u8 0, .int .u8 0, .int .u8 0]) (ok := fun _ => True) (okp := fun _ => True) ?hr ?hp (fun _ hk => hk) trivial (Below.refl _ _) (Nat.le_refl _) (by simp) ?_; (case hd => rfl); (case hg => rfl); (case hr => go_simp; try rfl); (case hp => exact (Reps.one (show Kd.M (Kd.int .u8) _ _ _ 0 [.int .u8 0] from rfl) (Reps.one (show Kd.M (Kd.int .u8) _ _ _ 0 [.int .u8 0] from rfl) (Reps.one (show Kd.M (Kd.int .u8) _ _ _ 0 [.int .u8 0] from rfl) (Reps.one (show Kd.M (Kd.int .u8) _ _ _ 0 [.int .u8 0] from rfl) (Reps.none _ _)))))); intro v160 w114 ho115 hb hg_ hnew_; clear hg_ hnew_; (first | rw [← Ny159.out] at ho115 | (simp only [Int.reduceToNat] at ho115; rw [← Ny159.out] at ho115)); refine mv4 (am (Kd.R_elder' (Kd.R_o HO_8.out) (Kd.R_base ho115) hb)) (am (Kd.R_below (Kd.R_o HO_9.out) hb)) (am (Kd.R_lower (Kd.R_new' ho115 (Kd.R_lt (Kd.R_o HO_8.out))) (below_size (by exact bl_o HB.out)))) (am (below_step (by exact bl_o HB.out) hb)) ?_; clear HO_8 HO_9 HB; intro HO_8 HO_9 HO161 HB; clear hb ho115; obtain ⟨Ao117, co117, eo117⟩ := Kd.R_slice HO161.out; subst eo117) | ((with_reducible refine gate_builtin (b := .append) (xs := #[.tmp 133, .tmp 134]) rfl ?_); at_builtin; refine Kd.R_append_rows (Kd.int .u8) (w0 := w) w.heap.size rfl (.tmp 133) (.tmp 134) 28 5 (.int .u8 0) 1 rfl Try.underlying28 info5 rfl (by decide) (by omega) u8 x8_2 y159 _ _ _ (fun k_ => some k_ ≠ (.slice Ao117 y159.length co117 : Value).ownBlock) (fun _ => False) rfl rfl ?aO ?aR (fun _ _ h => h) (fun _ h => h.elim) ?aF ?aB ?aS ?aL ?_; (case aR => exact Kd.C_o ((Kd.R_reads' HO161.out).2.2)); (case aB => exact (by exact bl_o HB.out)); (case aF => exact (fun k_ hk => Kd.fresh' (Kd.R_lt (Kd.R_o HO161.out)) k_ hk)); (case aO => exact (Kd.R_o (Kd.R_mono HO_8.out (fun _ hk => hk.2)))); (case aS => exact (below_size (by exact bl_o HB.out))); (case aL => have := LMc112.out; omega); intro v163 w116 ho hb hg hat; rw [← Ny162.out] at ho; refine mv4 (am (Kd.R_over' (Kd.R_o HO_9.out) (Kd.R_typed (Kd.R_o HO_8.out)) (by decide) hg)) (am (Kd.R_after (ok := (fun _ => True)) (Kd.R_o HO161.out) hg hat)) (am (hb)) (am (ho)) ?_; clear HO_9 HO161 HB HO_8; intro HO_9 HO161 HB HO164; clear ho hb hg hat; obtain ⟨Ao118, co118, eo118⟩ := Kd.R_slice HO164.out; subst eo118))
       go_ret3
       exact ⟨_, _, rfl, by first | exact Kd.R_nil _ _ _ _ _ | exact Kd.N_nil _ _ _ _ _, by first | exact Kd.R_nil _ _ _ _ _ | exact Kd.N_nil _ _ _ _ _, by exact bl_g HB.out⟩
      rw [if_neg c113] at H
      have c113b0 : decide (1048576 < (y162.length : Int)) = false := decide_eq_false c113
      have c113b1 : decide (1048576 < y162.length) = false := decide_eq_false (by omega)
      clear c113
      simp only [Option.some.injEq, Prod.mk.injEq] at H
      obtain ⟨rfl, rfl, rfl⟩ := H
      go_wp2_with (first | ((with_reducible refine gate_dst (N := 134) rfl ?_); refine Kd.R_lit (Kd.int .u8) _ 5 ?hg (N := 134) ?hd (xs := ([0, 0, 0, 0] : List Int)) (inner := [.int .u8 0, .int .u8 0, .int .u8 0, .int .u8 0]) (ok := fun _ => True) (okp := fun _ => True) ?hr ?hp (fun _ hk => hk) trivial (Below.refl _ _) (Nat.le_refl _) (by simp) ?_; (case hd => rfl); (case hg => rfl); (case hr => go_simp; try rfl); (case hp => exact (Reps.one (show Kd.M (Kd.int .u8) _ _ _ 0 [.int .u8 0] from rfl) (Reps.one (show Kd.M (Kd.int .u8) _ _ _ 0 [.int .u8 0] from rfl) (Reps.one (show Kd.M (Kd.int .u8) _ _ _ 0 [.int .u8 0] from rfl) (Reps.one (show Kd.M (Kd.int .u8) _ _ _ 0 [.int .u8 0] from rfl) (Reps.none _ _)))))); intro v160 w119 ho120 hb hg_ hnew_; clear hg_ hnew_; (first | rw [← Ny159.out] at ho120 | (simp only [Int.reduceToNat] at ho120; rw [← Ny159.out] at ho120)); refine mv4 (am (Kd.R_elder' (Kd.R_o HO_8.out) (Kd.R_base ho120) hb)) (am (Kd.R_below (Kd.R_o HO_9.out) hb)) (am (Kd.R_lower (Kd.R_new' ho120 (Kd.R_lt (Kd.R_o HO_8.out))) (below_size (by exact bl_o HB.out)))) (am (below_step (by exact bl_o HB.out) hb)) ?_; clear HO_8 HO_9 HB; intro HO_8 HO_9 HO161 HB; clear hb ho120; obtain ⟨Ao122, co122, eo122⟩ := Kd.R_slice HO161.out; subst eo122) | ((with_reducible refine gate_builtin (b := .append) (xs := #[.tmp 133, .tmp 134]) rfl ?_); at_builtin; refine Kd.R_append_rows (Kd.int .u8) (w0 := w) w.heap.size rfl (.tmp 133) (.tmp 134) 28 5 (.int .u8 0) 1 rfl Try.underlying28 info5 rfl (by decide) (by omega) u8 x8_2 y159 _ _ _ (fun k_ => some k_ ≠ (.slice Ao122 y159.length co122 : Value).ownBlock) (fun _ => False) rfl rfl ?aO ?aR (fun _ _ h => h) (fun _ h => h.elim) ?aF ?aB ?aS ?aL ?_; (case aR => exact Kd.C_o ((Kd.R_reads' HO161.out).2.2)); (case aB => exact (by exact bl_o HB.out)); (case aF => exact (fun k_ hk => Kd.fresh' (Kd.R_lt (Kd.R_o HO161.out)) k_ hk)); (case aO => exact (Kd.R_o (Kd.R_mono HO_8.out (fun _ hk => hk.2)))); (case aS => exact (below_size (by exact bl_o HB.out))); (case aL => have := LMc112.out; omega); intro v163 w121 ho hb hg hat; rw [← Ny162.out] at ho; refine mv4 (am (Kd.R_over' (Kd.R_o HO_9.out) (Kd.R_typed (Kd.R_o HO_8.out)) (by decide) hg)) (am (Kd.R_after (ok := (fun _ => True)) (Kd.R_o HO161.out) hg hat)) (am (hb)) (am (ho)) ?_; clear HO_9 HO161 HB HO_8; intro HO_9 HO161 HB HO164; clear ho hb hg hat; obtain ⟨Ao123, co123, eo123⟩ := Kd.R_slice HO164.out; subst eo123))
      go_ret3
      exact ⟨_, _, rfl, by (with_reducible repeat (first | apply Kd.R_alloc | apply Kd.R_drewN | apply Kd.R_drew)); exact Kd.R_mono HO164.out (fun _ hk => trivial), by (with_reducible repeat (first | apply Kd.R_alloc | apply Kd.R_drewN | apply Kd.R_drew)); exact HO_9.out, by exact bl_g HB.out⟩
     rw [if_pos c15] at H
     have c15b0 : decide (x42_2 < (l0.length : Int)) = true := decide_eq_true c15
     clear c15
     by_cases c16 : 0 ≤ x42_2
     rotate_left
     ·
      rw [if_neg c16] at H
      exact absurd H (by simp)
     rw [if_pos c16] at H
     have c16b0 : decide (0 ≤ x42_2) = true := decide_eq_true c16
     clear c16
     by_cases c17 : x42_2 < (l0.length : Int)
     rotate_left
     ·
      rw [if_neg c17] at H
      exact absurd H (by simp)
     rw [if_pos c17] at H
     have c17b0 : decide (x42_2 < (l0.length : Int)) = true := decide_eq_true c17
     clear c17
     replace H := Option.bind_eq_some_iff.mp H
     obtain ⟨⟨t107, t108⟩, A180, H⟩ := H
     replace H : ((ehframe_head.f ((rd_T69 l0 x42_2).f0)).bind fun t111 => (if t111.length + t107.length < 140737488355328 then ((ehframe_record.f k2 (t111 ++ t107)).bind fun t117 => (if x8_2.length + t117.length < 140737488355328 then (ehframe_Write.l1 k2 l1 a2 a3 (x8_2 ++ t117) x9_2 x42_2 (x8_2.length : Int) l0 (l0.length : Int) x42_2 l1 (l1.length : Int) 0 ((rd_T69 l0 x42_2).f0) ((rd_T69 l0 x42_2).f1)) else (none))) else (none))) = some (r1, r2, r3) := H
     have A18 := am A180
     clear A180
     replace H := Option.bind_eq_some_iff.mp H
     obtain ⟨t111, A190, H⟩ := H
     replace H : (if t111.length + t107.length < 140737488355328 then ((ehframe_record.f k2 (t111 ++ t107)).bind fun t117 => (if x8_2.length + t117.length < 140737488355328 then (ehframe_Write.l1 k2 l1 a2 a3 (x8_2 ++ t117) x9_2 x42_2 (x8_2.length : Int) l0 (l0.length : Int) x42_2 l1 (l1.length : Int) 0 ((rd_T69 l0 x42_2).f0) ((rd_T69 l0 x42_2).f1)) else (none))) else (none)) = some (r1, r2, r3) := H
     have A19 := am A190
     clear A190
     by_cases c20 : t111.length + t107.length < 140737488355328
     rotate_left
     ·
      rw [if_neg c20] at H
      exact absurd H (by simp)
     rw [if_pos c20] at H
     have LMc20 := am c20
     clear c20
     obtain ⟨y114, hy114⟩ : ∃ y_ : List Int, y_ = (t111 ++ t107) := ⟨_, rfl⟩
     replace H : ((ehframe_record.f k2 y114).bind fun t117 => (if x8_2.length + t117.length < 140737488355328 then (ehframe_Write.l1 k2 l1 a2 a3 (x8_2 ++ t117) x9_2 x42_2 (x8_2.length : Int) l0 (l0.length : Int) x42_2 l1 (l1.length : Int) 0 ((rd_T69 l0 x42_2).f0) ((rd_T69 l0 x42_2).f1)) else (none))) = some (r1, r2, r3) := by first | (rw [hy114]; with_reducible exact H) | (have H2_ := (Option.bind_some _ _).symm.trans H; rw [hy114]; with_reducible exact H2_)
     have Ny114 := am hy114
     clear hy114
     replace H := Option.bind_eq_some_iff.mp H
     obtain ⟨t117, A210, H⟩ := H
     replace H : (if x8_2.length + t117.length < 140737488355328 then (ehframe_Write.l1 k2 l1 a2 a3 (x8_2 ++ t117) x9_2 x42_2 (x8_2.length : Int) l0 (l0.length : Int) x42_2 l1 (l1.length : Int) 0 ((rd_T69 l0 x42_2).f0) ((rd_T69 l0 x42_2).f1)) else (none)) = some (r1, r2, r3) := H
     have A21 := am A210
     clear A210
     by_cases c22 : x8_2.length + t117.length < 140737488355328
     rotate_left
     ·
      rw [if_neg c22] at H
      exact absurd H (by simp)
     rw [if_pos c22] at H
     have LMc22 := am c22
     clear c22
     obtain ⟨y120, hy120⟩ : ∃ y_ : List Int, y_ = (x8_2 ++ t117) := ⟨_, rfl⟩
     replace H : (ehframe_Write.l1 k2 l1 a2 a3 y120 x9_2 x42_2 (x8_2.length : Int) l0 (l0.length : Int) x42_2 l1 (l1.length : Int) 0 ((rd_T69 l0 x42_2).f0) ((rd_T69 l0 x42_2).f1)) = some (r1, r2, r3) := by first | (rw [hy120]; with_reducible exact H) | (have H2_ := (Option.bind_some _ _).symm.trans H; rw [hy120]; with_reducible exact H2_)
     have Ny120 := am hy120
     clear hy120
     have H' := am H
     clear H
     have p105 : 0 ≤ (x42_2 : Int) := od
     have q105 : x42_2 < (l0.length : Int) := od
     obtain ⟨ad105, A105_1, c105_1, e105, hx105_0, hx105_1, hl105_1, hi105_1⟩ := at_T69 HR0.out x42_2 p105 q105
     cases e105
     replace hx105_0 := oc HB.out hx105_0
     replace hx105_1 := oc HB.out hx105_1
     have HR105_1 := am hi105_1
     have HC105_1 := am hl105_1
     clear hi105_1 hl105_1
     replace p105 := eq_true p105
     replace q105 := eq_true q105
     go_wp2_with (first | ((with_reducible refine gate_dst (N := 13) rfl ?_); refine box_event ?hg (N := 13) ?hd (cs := #[.int .i64 0, .slice none 0 0]) (t := 69) ?hr ?_; (case hd => rfl); (case hg => rfl); (case hr => go_simp; try rfl); intro gb106 hg w23 hbox hb; refine mv5 (am (Kd.R_below (Kd.R_o HO_8.out) hb)) (am (Kd.R_below (Kd.R_o HO_9.out) hb)) (am (below_step (by exact bl_o HB.out) hb)) (am (hbox)) (lei (by rw [hg]; exact (below_size (by exact bl_o HB.out)) : w.heap.size ≤ gb106)) ?_; clear HO_8 HO_9 HB; intro HO_8 HO_9 HB BK106 GW106; have GE106 := GW106; clear hb hbox hg; obtain ⟨hcz24_0, hcz24_1, hfz24_0, hfz24_1⟩ := cells2 BK106.out; obtain ⟨Ao25, co25, eo25⟩ := Kd.R_slice HO_8.out; subst eo25) | ((with_reducible refine gate_callee (f := 23) rfl ?_); refine goesL_ (some 52) rfl rfl Try.func23 (by kernel_rfl) rfl #[.slice A105_1 ((rd_T69 l0 x42_2).f1).length c105_1] rfl (by simp only [ml]; try rfl) ?_; (with_reducible refine (cfa_Write.calls k2 _ _ ((rd_T69 l0 x42_2).f1) t107 t108 _ ?side1 ?side2 A18.out).mono ?_); (case side1 => exact Kd.C_below HR105_1.out (by exact bl_g HB.out)); (case side2 => exact HC105_1.out); rintro e w26 ⟨v109, rfl, ho0, hb⟩; refine ⟨_, rfl, ?_⟩; refine mv5 (am (Kd.R_elder' (Kd.R_o (Kd.R_mono (Kd.R_far (p := ⟨gb106, 1, none⟩) (Kd.R_far (p := ⟨gb106, 0, none⟩) (Kd.R_types HO_8.out BK106.out (by decide)) (fun _ hk => hk.2) (.int .i64 ((rd_T69 l0 x42_2).f0))) (fun _ hk => hk.2) (.slice A105_1 ((rd_T69 l0 x42_2).f1).length c105_1)) (fun _ h_ => h_.1))) (Kd.R_base ho0) hb)) (am (Kd.R_below (Kd.R_o (Kd.R_mono (Kd.R_far (p := ⟨gb106, 1, none⟩) (Kd.R_far (p := ⟨gb106, 0, none⟩) (Kd.R_types HO_9.out BK106.out (by decide)) (fun _ hk => hk.2) (.int .i64 ((rd_T69 l0 x42_2).f0))) (fun _ hk => hk.2) (.slice A105_1 ((rd_T69 l0 x42_2).f1).length c105_1)) (fun _ h_ => h_.1))) hb)) (am (Kd.R_lower (Kd.R_new' ho0 (Kd.R_lt (Kd.R_o (Kd.R_mono (Kd.R_far (p := ⟨gb106, 1, none⟩) (Kd.R_far (p := ⟨gb106, 0, none⟩) (Kd.R_types HO_8.out BK106.out (by decide)) (fun _ hk => hk.2) (.int .i64 ((rd_T69 l0 x42_2).f0))) (fun _ hk => hk.2) (.slice A105_1 ((rd_T69 l0 x42_2).f1).length c105_1)) (fun _ h_ => h_.1))))) (below_size (by exact bl_g HB.out)))) (am (blk_below (g := gb106) (o := .cells #[.int .i64 ((rd_T69 l0 x42_2).f0), .slice A105_1 ((rd_T69 l0 x42_2).f1).length c105_1] 69 (0, 0)) (bps BK106.out rfl) hb)) (am (below_step (by exact bl_g HB.out) hb)) ?_; clear HO_8 HO_9 BK106 HB; intro HO_8 HO_9 HO110 BK106 HB; obtain ⟨hcz27_0, hcz27_1, hfz27_0, hfz27_1⟩ := cells2 BK106.out) | ((with_reducible refine gate_callee (f := 25) rfl ?_); refine goesL_ (some 58) rfl rfl Try.func25 (by kernel_rfl) rfl #[.int .i64 ((rd_T69 l0 x42_2).f0)] rfl (by simp only [ml]; try rfl) ?_; (with_reducible refine (ehframe_head.calls ((rd_T69 l0 x42_2).f0) t111 _ A19.out).mono ?_); rintro e w28 ⟨v112, rfl, ho0, hb⟩; refine ⟨_, rfl, ?_⟩; refine mv6 (am (Kd.R_elder' (Kd.R_o HO_8.out) (Kd.R_base ho0) hb)) (am (Kd.R_below (Kd.R_o HO_9.out) hb)) (am (Kd.R_elder' (Kd.R_o HO110.out) (Kd.R_base ho0) hb)) (am (Kd.R_lower (Kd.R_new' (Kd.R_new' ho0 (Kd.R_lt (Kd.R_o HO_8.out))) (Kd.R_lt (Kd.R_o HO110.out))) (below_size (by exact bl_g HB.out)))) (am (blk_below (blk_o BK106.out) hb)) (am (below_step (by exact bl_g HB.out) hb)) ?_; clear HO_8 HO_9 HO110 BK106 HB; intro HO_8 HO_9 HO110 HO113 BK106 HB; obtain ⟨Ao30, co30, eo30⟩ := Kd.R_slice HO110.out; subst eo30) | ((with_reducible refine gate_builtin (b := .append) (xs := #[.tmp 58, .tmp 59]) rfl ?_); at_builtin; refine Kd.R_append_rows (Kd.int .u8) (w0 := w) w.heap.size rfl (.tmp 58) (.tmp 59) 28 5 (.int .u8 0) 1 rfl Try.underlying28 info5 rfl (by decide) (by omega) v112 t111 t107 _ _ _ (fun k_ => some k_ ≠ (.slice Ao25 x8_2.length co25 : Value).ownBlock ∧ some k_ ≠ (.slice Ao30 t107.length co30 : Value).ownBlock) (fun _ => False) rfl rfl ?aO ?aR (fun _ _ h => h) (fun _ h => h.elim) ?aF ?aB ?aS ?aL ?_; (case aR => exact Kd.C_o ((Kd.R_reads' HO110.out).2.2)); (case aB => exact (by exact bl_g HB.out)); (case aF => exact (fun k_ hk => ⟨Kd.fresh' (Kd.R_lt (Kd.R_o HO_8.out)) k_ hk, Kd.fresh' (Kd.R_lt (Kd.R_o HO110.out)) k_ hk⟩)); (case aO => exact (Kd.R_o (Kd.R_mono HO113.out (fun _ hk => ⟨hk.1.2, hk.2⟩)))); (case aS => exact (below_size (by exact bl_g HB.out))); (case aL => have := LMc20.out; omega); intro v115 w29 ho hb hg hat; rw [← Ny114.out] at ho; refine mv6 (am (Kd.R_after (ok := (fun k_ => some k_ ≠ (.slice Ao30 t107.length co30 : Value).ownBlock)) (Kd.R_o (Kd.R_mono HO_8.out (fun _ hk => ⟨hk.1.2, hk.2⟩))) hg hat)) (am (Kd.R_over' (Kd.R_o HO_9.out) (Kd.R_typed (Kd.R_o HO113.out)) (by decide) hg)) (am (blk_grown (g := gb106) (o := .cells #[.int .i64 ((rd_T69 l0 x42_2).f0), .slice A105_1 ((rd_T69 l0 x42_2).f1).length c105_1] 69 (0, 0)) (blk_o BK106.out) hg (Kd.R_ne HO113.out BK106.out (by decide)))) (am (Kd.R_after (ok := (fun k_ => some k_ ≠ (.slice Ao25 x8_2.length co25 : Value).ownBlock)) (Kd.R_o (Kd.R_mono HO110.out (fun _ hk => ⟨hk.1.2, hk.2⟩))) hg hat)) (am (hb)) (am (ho)) ?_; clear HO_8 HO_9 BK106 HO110 HB HO113; intro HO_8 HO_9 BK106 HO110 HB HO116; clear ho hb hg hat; obtain ⟨Ao31, co31, eo31⟩ := Kd.R_slice HO116.out; subst eo31) | ((with_reducible refine gate_callee (f := 24) rfl ?_); refine goesL_ (some 61) rfl rfl Try.func24 (by kernel_rfl) rfl #[.slice Ao31 y114.length co31] rfl (by simp only [ml]; try rfl) ?_; (with_reducible refine (ehframe_record.calls k2 (fun k_ => some k_ = (.slice Ao31 y114.length co31 : Value).ownBlock) (.slice Ao31 y114.length co31) y114 t117 w _ ?side1 ?side2 A21.out).mono ?_); (case side1 => repeat (first | (with_reducible first | exact HB.out | apply below_alloc | apply pw_below_drewN | apply below_drew1 | refine below_set ?_ GE106.out) | exact HB.out)); (case side2 => exact Kd.R_tight rfl HO116.out); rintro e w32 ⟨v118, rfl, ho0, hb, hkp⟩; refine ⟨_, rfl, ?_⟩; refine mv6 (am (Kd.R_mono (ok' := fun k_ => some k_ ≠ (.slice Ao30 t107.length co30 : Value).ownBlock ∧ some k_ ≠ (v118 : Value).ownBlock) (Kd.R_keptB (HO_8.out) hkp (fun k_ hk_ hs_ => (hk_.2) hs_)) (fun k_ hk_ => ⟨hk_.1.1, fun e_ => Or.elim (ho0.1 k_ e_.symm) (fun hs_ => hk_.2.1 hs_) (fun hn_ => Nat.not_le.2 hk_.2.2 hn_)⟩))) (am (Kd.R_mono (ok' := fun k_ => True) (Kd.R_keptB ((Kd.R_apart' HO_9.out (Kd.R_typed HO116.out) (by decide))) hkp (fun k_ hk_ hs_ => (hk_.2) hs_)) (fun k_ hk_ => trivial))) (am (blk_kept (blk_o BK106.out) hkp (fun hs_ => (fun e_ => (Kd.R_ne HO116.out BK106.out (by decide)) e_) hs_))) (am (Kd.R_mono (ok' := fun k_ => some k_ ≠ (.slice Ao25 x8_2.length co25 : Value).ownBlock ∧ some k_ ≠ (v118 : Value).ownBlock) (Kd.R_keptB (HO110.out) hkp (fun k_ hk_ hs_ => (hk_.2) hs_)) (fun k_ hk_ => ⟨hk_.1.1, fun e_ => Or.elim (ho0.1 k_ e_.symm) (fun hs_ => hk_.2.1 hs_) (fun hn_ => Nat.not_le.2 hk_.2.2 hn_)⟩))) (am (Kd.R_mono (ok' := fun k_ => some k_ ≠ (.slice Ao25 x8_2.length co25 : Value).ownBlock ∧ some k_ ≠ (.slice Ao30 t107.length co30 : Value).ownBlock) ho0 (fun k_ hk_ => ⟨Or.elim hk_ (fun hs_ => fun e_ => (((HO_8.out).1 k_ e_.symm).2) hs_) (fun hn_ => (Kd.fresh' (Kd.R_lt (Kd.R_o HO_8.out)) k_ hn_)), Or.elim hk_ (fun hs_ => fun e_ => (((HO110.out).1 k_ e_.symm).2) hs_) (fun hn_ => (Kd.fresh' (Kd.R_lt (Kd.R_o HO110.out)) k_ hn_))⟩))) (am (hb)) ?_; clear HO_8 HO_9 BK106 HO110 HB HO116; intro HO_8 HO_9 BK106 HO110 HO119 HB; (try clear hb); (try clear hkp); (try clear ho0); obtain ⟨Ao34, co34, eo34⟩ := Kd.R_slice HO119.out; subst eo34) | ((with_reducible refine gate_builtin (b := .append) (xs := #[.tmp 55, .tmp 61]) rfl ?_); at_builtin; refine Kd.R_append_rows (Kd.int .u8) (w0 := w) w.heap.size rfl (.tmp 55) (.tmp 61) 28 5 (.int .u8 0) 1 rfl Try.underlying28 info5 rfl (by decide) (by omega) (.slice Ao25 x8_2.length co25) x8_2 t117 _ _ _ (fun k_ => some k_ ≠ (.slice Ao30 t107.length co30 : Value).ownBlock ∧ some k_ ≠ (.slice Ao34 t117.length co34 : Value).ownBlock) (fun _ => False) rfl rfl ?aO ?aR (fun _ _ h => h) (fun _ h => h.elim) ?aF ?aB ?aS ?aL ?_; (case aR => exact Kd.C_o ((Kd.R_reads' HO119.out).2.2)); (case aB => exact (by exact bl_g HB.out)); (case aF => exact (fun k_ hk => ⟨Kd.fresh' (Kd.R_lt (Kd.R_o HO110.out)) k_ hk, Kd.fresh' (Kd.R_lt (Kd.R_o HO119.out)) k_ hk⟩)); (case aO => exact (Kd.R_o HO_8.out)); (case aS => exact (below_size (by exact bl_g HB.out))); (case aL => have := LMc22.out; omega); intro v121 w33 ho hb hg hat; rw [← Ny120.out] at ho; refine mv6 (am (Kd.R_over' (Kd.R_o HO_9.out) (Kd.R_typed (Kd.R_o HO_8.out)) (by decide) hg)) (am (blk_grown (g := gb106) (o := .cells #[.int .i64 ((rd_T69 l0 x42_2).f0), .slice A105_1 ((rd_T69 l0 x42_2).f1).length c105_1] 69 (0, 0)) (blk_o BK106.out) hg (Kd.R_ne HO_8.out BK106.out (by decide)))) (am (Kd.R_after (ok := (fun k_ => some k_ ≠ (.slice Ao34 t117.length co34 : Value).ownBlock)) (Kd.R_o (Kd.R_mono HO110.out (fun _ hk => ⟨hk.2, hk.1⟩))) hg hat)) (am (Kd.R_after (ok := (fun k_ => some k_ ≠ (.slice Ao30 t107.length co30 : Value).ownBlock)) (Kd.R_o (Kd.R_mono HO119.out (fun _ hk => ⟨hk.2, hk.1⟩))) hg hat)) (am (hb)) (am (ho)) ?_; clear HO_9 BK106 HO110 HO119 HB HO_8; intro HO_9 BK106 HO110 HO119 HB HO122; clear ho hb hg hat))
     go_loopg [8, 9, 65] k2 (fun kq v8 v9 v65 w' => ∃ (x8_3 : List Int) (x9_3 : List Int) (x65_3 : Int), v65 = .int .i64 x65_3 ∧ Aside0 (ehframe_Write.l1 kq l1 a2 a3 x8_3 x9_3 x42_2 (x8_2.length : Int) l0 (l0.length : Int) x42_2 l1 (l1.length : Int) x65_3 ((rd_T69 l0 x42_2).f0) ((rd_T69 l0 x42_2).f1) = some (r1, r2, r3)) ∧ Aside0 (kq ≤ k2) ∧ Aside0 (Kd.R (Kd.int .u8) 5 w' w.heap.size (fun _ => True) v8 x8_3) ∧ Aside0 (Kd.R (Kd.int .i64) 3 w' w.heap.size (fun _ => True) v9 x9_3) ∧ Aside0 (w'.heap[gb106]? = some (.cells #[.int .i64 ((rd_T69 l0 x42_2).f0), (.slice A105_1 ((rd_T69 l0 x42_2).f1).length c105_1)] 69 (0, 0))) ∧ Aside0 (Below w.heap.size w w'))
     case atStart => exact ⟨(y120), (x9_2), (0), (by first | rfl | (simp; done) | (simp [*]; done)), H', ⟨Nat.le_refl _⟩, ⟨by (with_reducible repeat (first | apply Kd.R_alloc | apply Kd.R_drewN | apply Kd.R_drew)); exact Kd.R_mono HO122.out (fun _ hk => trivial)⟩, ⟨by (with_reducible repeat (first | apply Kd.R_alloc | apply Kd.R_drewN | apply Kd.R_drew)); exact HO_9.out⟩, ⟨by (with_reducible repeat (first | refine blk_drewN ?_ _ | refine blk_drew ?_ | refine blk_alloc ?_ _)); exact BK106.out⟩, ⟨by exact bl_g HB.out⟩⟩
     case round =>
      clear H'
      try clear c1
      try clear p1
      try clear q1
      try clear hx1
      try clear c2
      try clear p2
      try clear c6
      try clear c6b0
      try clear c6b1
      try clear c9
      try clear c9b0
      try clear c10
      try clear p10
      try clear q10
      try clear hx10
      try clear c11
      try clear c11b0
      try clear c11b1
      try clear c12
      try clear c12b0
      try clear c12b1
      try clear c15
      try clear c15b0
      try clear c16
      try clear c16b0
      try clear c17
      try clear c17b0
      try clear c20
      try clear c22
      try clear c23
      try clear c24
      try clear c25
      try clear hcz24_0
      try clear hcz24_1
      try clear hcz27_0
      try clear hcz27_1
      try clear hfz24_0
      try clear hfz24_1
      try clear hfz27_0
      try clear hfz27_1
      try clear hx105_0
      try clear hx105_1
      try clear p105
      try clear p2
      try clear q105
      obtain ⟨x8_3, x9_3, x65_3, rfl, HA, HK3, HO_8, HO_9, BK106, HB⟩ := hrel
      cases gk with
      | zero => exact absurd HA.out (by simp [ehframe_Write.l1])
      | succ k3 =>
       have H := HA.out
       clear HA
       simp only [ehframe_Write.l1] at H
       by_cases c35 : x65_3 < (l1.length : Int)
       rotate_left
       ·
        rw [if_neg c35] at H
        have c35b0 : decide (x65_3 < (l1.length : Int)) = false := decide_eq_false c35
        clear c35
        have H' := am H
        clear H
        go_wp2
        go_roundg k3
        case measure => have := HJ6.out; have := HK2.out; have := HK3.out; omega
        case rel => exact ⟨(x8_3), (x9_3), (wrap64 (x42_2 + 1)), (by first | rfl | (simp; done) | (simp [*]; done)), H', ⟨by have := HJ6.out; have := HK2.out; have := HK3.out; omega⟩, ⟨by (with_reducible repeat (first | apply Kd.R_alloc | apply Kd.R_drewN | apply Kd.R_drew)); exact HO_8.out⟩, ⟨by (with_reducible repeat (first | apply Kd.R_alloc | apply Kd.R_drewN | apply Kd.R_drew)); exact HO_9.out⟩, ⟨by exact bl_g HB.out⟩⟩
       rw [if_pos c35] at H
       have c35b0 : decide (x65_3 < (l1.length : Int)) = true := decide_eq_true c35
       clear c35
       by_cases c36 : 0 ≤ x65_3
       rotate_left
       ·
        rw [if_neg c36] at H
        exact absurd H (by simp)
       rw [if_pos c36] at H
       have c36b0 : decide (0 ≤ x65_3) = true := decide_eq_true c36
       clear c36
       by_cases c37 : x65_3 < (l1.length : Int)
       rotate_left
       ·
        rw [if_neg c37] at H
        exact absurd H (by simp)
       rw [if_pos c37] at H
       have c37b0 : decide (x65_3 < (l1.length : Int)) = true := decide_eq_true c37
       clear c37
       by_cases c38 : ((rd_T46 l1 x65_3).f0) = x42_2
       rotate_left
       ·
        rw [if_neg c38] at H
        have c38b0 : (((rd_T46 l1 x65_3).f0) == x42_2) = false := beq_eq_false_iff_ne.mpr c38
        have c38b1 : (((rd_T46 l1 x65_3).f0) != x42_2) = true := bne_iff_ne.mpr c38
        have H' := am H
        clear H
        have p123 : 0 ≤ (x65_3 : Int) := od
        have q123 : x65_3 < (l1.length : Int) := od
        obtain ⟨ad123, A123_3, c123_3, e123, hx123_0, hx123_1, hx123_2, hx123_3, hl123_3, hi123_3⟩ := at_T46 HR1.out x65_3 p123 q123
        cases e123
        replace hx123_0 := oc HB.out hx123_0
        replace hx123_1 := oc HB.out hx123_1
        replace hx123_2 := oc HB.out hx123_2
        replace hx123_3 := oc HB.out hx123_3
        have HR123_3 := am hi123_3
        have HC123_3 := am hl123_3
        clear hi123_3 hl123_3
        replace p123 := eq_true p123
        replace q123 := eq_true q123
        go_wp2_with (first | ((with_reducible refine gate_dst (N := 18) rfl ?_); refine box_event ?hg (N := 18) ?hd (cs := #[.int .i64 0, .int .i64 0, .int .i64 0, .slice none 0 0]) (t := 46) ?hr ?_; (case hd => rfl); (case hg => rfl); (case hr => go_simp; try rfl); intro gb124 hg w108 hbox hb; refine mv8 (am (Kd.R_below (Kd.R_o HO_8.out) hb)) (am (Kd.R_below (Kd.R_o HO_9.out) hb)) (am (blk_below (blk_o BK106.out) hb)) (am (below_step (by exact bl_g HB.out) hb)) (am (hbox)) (lei (by rw [hg]; exact (below_size (by exact bl_g HB.out)) : w.heap.size ≤ gb124)) (am ((by rw [hg]; exact Nat.ne_of_lt (blk_lt (g := gb106) (o := .cells #[.int .i64 ((rd_T69 l0 x42_2).f0), .slice A105_1 ((rd_T69 l0 x42_2).f1).length c105_1] 69 (0, 0)) (blk_o BK106.out)) : gb106 ≠ gb124))) (am ((by rw [hg]; exact Nat.ne_of_gt (blk_lt (g := gb106) (o := .cells #[.int .i64 ((rd_T69 l0 x42_2).f0), .slice A105_1 ((rd_T69 l0 x42_2).f1).length c105_1] 69 (0, 0)) (blk_o BK106.out)) : gb124 ≠ gb106))) ?_; clear HO_8 HO_9 BK106 HB; intro HO_8 HO_9 BK106 HB BK124 GW124 NB106_124 NB124_106; have GE124 := GW124; clear hb hbox hg; have hnb109 := NB124_106.out; have hnc109 := NB106_124.out; obtain ⟨hcz110_0, hcz110_1, hcz110_2, hcz110_3, hfz110_0, hfz110_1, hfz110_2, hfz110_3⟩ := cells4 BK124.out))
        go_roundg k3
        case measure => have := HJ6.out; have := HK2.out; have := HK3.out; omega
        case rel => exact ⟨(x8_3), (x9_3), (wrap64 (x65_3 + 1)), (by first | rfl | (simp; done) | (simp [*]; done)), H', ⟨by have := HJ6.out; have := HK2.out; have := HK3.out; omega⟩, ⟨by (with_reducible repeat (first | apply Kd.R_alloc | apply Kd.R_drewN | apply Kd.R_drew)); exact Kd.R_mono (Kd.R_far (p := ⟨gb124, 3, none⟩) (Kd.R_far (p := ⟨gb124, 2, none⟩) (Kd.R_far (p := ⟨gb124, 1, none⟩) (Kd.R_far (p := ⟨gb124, 0, none⟩) (Kd.R_types HO_8.out BK124.out (by decide)) (fun _ hk => hk.2) (.int .i64 ((rd_T46 l1 x65_3).f0))) (fun _ hk => hk.2) (.int .i64 ((rd_T46 l1 x65_3).f1))) (fun _ hk => hk.2) (.int .i64 ((rd_T46 l1 x65_3).f2))) (fun _ hk => hk.2) (.slice A123_3 ((rd_T46 l1 x65_3).f3).length c123_3)) (fun _ hk => trivial)⟩, ⟨by (with_reducible repeat (first | apply Kd.R_alloc | apply Kd.R_drewN | apply Kd.R_drew)); exact Kd.R_mono (Kd.R_far (p := ⟨gb124, 3, none⟩) (Kd.R_far (p := ⟨gb124, 2, none⟩) (Kd.R_far (p := ⟨gb124, 1, none⟩) (Kd.R_far (p := ⟨gb124, 0, none⟩) (Kd.R_types HO_9.out BK124.out (by decide)) (fun _ hk => hk.2) (.int .i64 ((rd_T46 l1 x65_3).f0))) (fun _ hk => hk.2) (.int .i64 ((rd_T46 l1 x65_3).f1))) (fun _ hk => hk.2) (.int .i64 ((rd_T46 l1 x65_3).f2))) (fun _ hk => hk.2) (.slice A123_3 ((rd_T46 l1 x65_3).f3).length c123_3)) (fun _ hk => trivial)⟩, ⟨by (with_reducible repeat (first | refine blk_drewN ?_ _ | refine blk_drew ?_ | refine blk_alloc ?_ _)); refine blk_far ?_ NB106_124.out _; (with_reducible repeat (first | refine blk_drewN ?_ _ | refine blk_drew ?_ | refine blk_alloc ?_ _)); refine blk_far ?_ NB106_124.out _; (with_reducible repeat (first | refine blk_drewN ?_ _ | refine blk_drew ?_ | refine blk_alloc ?_ _)); refine blk_far ?_ NB106_124.out _; (with_reducible repeat (first | refine blk_drewN ?_ _ | refine blk_drew ?_ | refine blk_alloc ?_ _)); refine blk_far ?_ NB106_124.out _; (with_reducible repeat (first | refine blk_drewN ?_ _ | refine blk_drew ?_ | refine blk_alloc ?_ _)); exact BK106.out⟩, ⟨by exact bl_g HB.out⟩⟩
       rw [if_pos c38] at H
       have c38b0 : (((rd_T46 l1 x65_3).f0) == x42_2) = true := beq_iff_eq.mpr c38
       have c38b1 : (((rd_T46 l1 x65_3).f0) != x42_2) = false := bne_eq_false_iff_eq.mpr c38
       clear c38
       by_cases c39 : x65_3 < (x9_3.length : Int)
       rotate_left
       ·
        rw [if_neg c39] at H
        exact absurd H (by simp)
       rw [if_pos c39] at H
       have c39b0 : decide (x65_3 < (x9_3.length : Int)) = true := decide_eq_true c39
       clear c39
       obtain ⟨y125, hy125⟩ : ∃ y_ : List Int, y_ = (x9_3.set (x65_3 : Int).toNat (x8_3.length : Int)) := ⟨_, rfl⟩
       replace H : ((ehframe_low.f k3 (wrap64 ((wrap64 ((x8_3.length : Int) + 4)) - (x8_2.length : Int)))).bind fun t126 => ((ehframe_Put.f k3 ((rd_T69 l0 x42_2).f0) ((rd_T46 l1 x65_3).f1) (wrap64 ((wrap64 (a2 + (x8_3.length : Int))) + 8)) 0).bind fun bt129 => (if bt129.2 = 0 then ((ehframe_Put.f k3 (Go.bits .and .i64 ((rd_T69 l0 x42_2).f0) 15) ((rd_T46 l1 x65_3).f2) 0 0).bind fun bt133 => (if bt133.2 = 0 then ((cfa_Write.f k3 ((rd_T46 l1 x65_3).f3)).bind fun bt137 => (if t126.length + bt129.1.length < 140737488355328 then ((some (t126 ++ bt129.1 : List Int)).bind fun y141 => (if y141.length + bt133.1.length < 140737488355328 then ((some (y141 ++ bt133.1 : List Int)).bind fun y144 => (if y144.length < 140737488355328 then ((some (y144 ++ [0] : List Int)).bind fun y147 => (if y147.length + bt137.1.length < 140737488355328 then ((ehframe_record.f k3 (y147 ++ bt137.1)).bind fun t153 => (if x8_3.length + t153.length < 140737488355328 then (ehframe_Write.l1 k3 l1 a2 a3 (x8_3 ++ t153) y125 x42_2 (x8_2.length : Int) l0 (l0.length : Int) x42_2 l1 (l1.length : Int) (wrap64 (x65_3 + 1)) ((rd_T69 l0 x42_2).f0) ((rd_T69 l0 x42_2).f1)) else (none))) else (none))) else (none))) else (none))) else (none))) else (some (([] : List Int), ([] : List Int), 11)))) else (some (([] : List Int), ([] : List Int), 11))))) = some (r1, r2, r3) := by first | (rw [hy125]; with_reducible exact H) | (have H2_ := (Option.bind_some _ _).symm.trans H; rw [hy125]; with_reducible exact H2_)
       have Ny125 := am hy125
       clear hy125
       replace H := Option.bind_eq_some_iff.mp H
       obtain ⟨t126, A410, H⟩ := H
       replace H : ((ehframe_Put.f k3 ((rd_T69 l0 x42_2).f0) ((rd_T46 l1 x65_3).f1) (wrap64 ((wrap64 (a2 + (x8_3.length : Int))) + 8)) 0).bind fun bt129 => (if bt129.2 = 0 then ((ehframe_Put.f k3 (Go.bits .and .i64 ((rd_T69 l0 x42_2).f0) 15) ((rd_T46 l1 x65_3).f2) 0 0).bind fun bt133 => (if bt133.2 = 0 then ((cfa_Write.f k3 ((rd_T46 l1 x65_3).f3)).bind fun bt137 => (if t126.length + bt129.1.length < 140737488355328 then ((some (t126 ++ bt129.1 : List Int)).bind fun y141 => (if y141.length + bt133.1.length < 140737488355328 then ((some (y141 ++ bt133.1 : List Int)).bind fun y144 => (if y144.length < 140737488355328 then ((some (y144 ++ [0] : List Int)).bind fun y147 => (if y147.length + bt137.1.length < 140737488355328 then ((ehframe_record.f k3 (y147 ++ bt137.1)).bind fun t153 => (if x8_3.length + t153.length < 140737488355328 then (ehframe_Write.l1 k3 l1 a2 a3 (x8_3 ++ t153) y125 x42_2 (x8_2.length : Int) l0 (l0.length : Int) x42_2 l1 (l1.length : Int) (wrap64 (x65_3 + 1)) ((rd_T69 l0 x42_2).f0) ((rd_T69 l0 x42_2).f1)) else (none))) else (none))) else (none))) else (none))) else (none))) else (some (([] : List Int), ([] : List Int), 11)))) else (some (([] : List Int), ([] : List Int), 11)))) = some (r1, r2, r3) := H
       have A41 := am A410
       clear A410
       replace H := Option.bind_eq_some_iff.mp H
       obtain ⟨⟨t129, t130⟩, A420, H⟩ := H
       replace H : (if t130 = 0 then ((ehframe_Put.f k3 (Go.bits .and .i64 ((rd_T69 l0 x42_2).f0) 15) ((rd_T46 l1 x65_3).f2) 0 0).bind fun bt133 => (if bt133.2 = 0 then ((cfa_Write.f k3 ((rd_T46 l1 x65_3).f3)).bind fun bt137 => (if t126.length + t129.length < 140737488355328 then ((some (t126 ++ t129 : List Int)).bind fun y141 => (if y141.length + bt133.1.length < 140737488355328 then ((some (y141 ++ bt133.1 : List Int)).bind fun y144 => (if y144.length < 140737488355328 then ((some (y144 ++ [0] : List Int)).bind fun y147 => (if y147.length + bt137.1.length < 140737488355328 then ((ehframe_record.f k3 (y147 ++ bt137.1)).bind fun t153 => (if x8_3.length + t153.length < 140737488355328 then (ehframe_Write.l1 k3 l1 a2 a3 (x8_3 ++ t153) y125 x42_2 (x8_2.length : Int) l0 (l0.length : Int) x42_2 l1 (l1.length : Int) (wrap64 (x65_3 + 1)) ((rd_T69 l0 x42_2).f0) ((rd_T69 l0 x42_2).f1)) else (none))) else (none))) else (none))) else (none))) else (none))) else (some (([] : List Int), ([] : List Int), 11)))) else (some (([] : List Int), ([] : List Int), 11))) = some (r1, r2, r3) := H
       have A42 := am A420
       clear A420
       by_cases c43 : t130 = 0
       rotate_left
       ·
        rw [if_neg c43] at H
        have c43b0 : (t130 == 0) = false := beq_eq_false_iff_ne.mpr c43
        have c43b1 : (t130 != 0) = true := bne_iff_ne.mpr c43
        simp only [Option.some.injEq, Prod.mk.injEq] at H
        obtain ⟨rfl, rfl, rfl⟩ := H
        have p123 : 0 ≤ (x65_3 : Int) := od
        have q123 : x65_3 < (l1.length : Int) := od
        obtain ⟨ad123, A123_3, c123_3, e123, hx123_0, hx123_1, hx123_2, hx123_3, hl123_3, hi123_3⟩ := at_T46 HR1.out x65_3 p123 q123
        cases e123
        replace hx123_0 := oc HB.out hx123_0
        replace hx123_1 := oc HB.out hx123_1
        replace hx123_2 := oc HB.out hx123_2
        replace hx123_3 := oc HB.out hx123_3
        have HR123_3 := am hi123_3
        have HC123_3 := am hl123_3
        clear hi123_3 hl123_3
        replace p123 := eq_true p123
        replace q123 := eq_true q123
        go_wp2_with (first | ((with_reducible refine gate_dst (N := 18) rfl ?_); refine box_event ?hg (N := 18) ?hd (cs := #[.int .i64 0, .int .i64 0, .int .i64 0, .slice none 0 0]) (t := 46) ?hr ?_; (case hd => rfl); (case hg => rfl); (case hr => go_simp; try rfl); intro gb124 hg w96 hbox hb; refine mv8 (am (Kd.R_below (Kd.R_o HO_8.out) hb)) (am (Kd.R_below (Kd.R_o HO_9.out) hb)) (am (blk_below (blk_o BK106.out) hb)) (am (below_step (by exact bl_g HB.out) hb)) (am (hbox)) (lei (by rw [hg]; exact (below_size (by exact bl_g HB.out)) : w.heap.size ≤ gb124)) (am ((by rw [hg]; exact Nat.ne_of_lt (blk_lt (g := gb106) (o := .cells #[.int .i64 ((rd_T69 l0 x42_2).f0), .slice A105_1 ((rd_T69 l0 x42_2).f1).length c105_1] 69 (0, 0)) (blk_o BK106.out)) : gb106 ≠ gb124))) (am ((by rw [hg]; exact Nat.ne_of_gt (blk_lt (g := gb106) (o := .cells #[.int .i64 ((rd_T69 l0 x42_2).f0), .slice A105_1 ((rd_T69 l0 x42_2).f1).length c105_1] 69 (0, 0)) (blk_o BK106.out)) : gb124 ≠ gb106))) ?_; clear HO_8 HO_9 BK106 HB; intro HO_8 HO_9 BK106 HB BK124 GW124 NB106_124 NB124_106; have GE124 := GW124; clear hb hbox hg; have hnb97 := NB124_106.out; have hnc97 := NB106_124.out; obtain ⟨hcz98_0, hcz98_1, hcz98_2, hcz98_3, hfz98_0, hfz98_1, hfz98_2, hfz98_3⟩ := cells4 BK124.out) | ((with_reducible refine gate_store (t := 46) (p := 18) rfl ?_); refine store_event (t := 46) (p := 18) (v := ?vo_w99) (w1 := ((((w96.setCell ⟨gb124, 0, none⟩ (.int .i64 ((rd_T46 l1 x65_3).f0))).setCell ⟨gb124, 1, none⟩ (.int .i64 ((rd_T46 l1 x65_3).f1))).setCell ⟨gb124, 2, none⟩ (.int .i64 ((rd_T46 l1 x65_3).f2))).setCell ⟨gb124, 3, none⟩ (.slice A123_3 ((rd_T46 l1 x65_3).f3).length c123_3))) ?hg ?ho ?hn ?hr ?_; (case ho => rfl); (case hg => rfl); (case hn => rfl); (case hr => go_simp; try rfl); intro w99 hw; refine mv5 (⟨(by rw [hw]; exact (Kd.R_o (Kd.R_mono (Kd.R_far (p := ⟨gb124, 3, none⟩) (Kd.R_far (p := ⟨gb124, 2, none⟩) (Kd.R_far (p := ⟨gb124, 1, none⟩) (Kd.R_far (p := ⟨gb124, 0, none⟩) (Kd.R_types HO_8.out BK124.out (by decide)) (fun _ hk => hk.2) (.int .i64 ((rd_T46 l1 x65_3).f0))) (fun _ hk => hk.2) (.int .i64 ((rd_T46 l1 x65_3).f1))) (fun _ hk => hk.2) (.int .i64 ((rd_T46 l1 x65_3).f2))) (fun _ hk => hk.2) (.slice A123_3 ((rd_T46 l1 x65_3).f3).length c123_3)) (fun _ hk => trivial))))⟩ : Aside0 (Kd.R (Kd.int .u8) 5 w99 w.heap.size (fun _ => True) u8 x8_3)) (⟨(by rw [hw]; exact (Kd.R_o (Kd.R_mono (Kd.R_far (p := ⟨gb124, 3, none⟩) (Kd.R_far (p := ⟨gb124, 2, none⟩) (Kd.R_far (p := ⟨gb124, 1, none⟩) (Kd.R_far (p := ⟨gb124, 0, none⟩) (Kd.R_types HO_9.out BK124.out (by decide)) (fun _ hk => hk.2) (.int .i64 ((rd_T46 l1 x65_3).f0))) (fun _ hk => hk.2) (.int .i64 ((rd_T46 l1 x65_3).f1))) (fun _ hk => hk.2) (.int .i64 ((rd_T46 l1 x65_3).f2))) (fun _ hk => hk.2) (.slice A123_3 ((rd_T46 l1 x65_3).f3).length c123_3)) (fun _ hk => trivial))))⟩ : Aside0 (Kd.R (Kd.int .i64) 3 w99 w.heap.size (fun _ => True) u9 x9_3)) (⟨(by rw [hw]; exact (by (with_reducible repeat (first | refine blk_drewN ?_ _ | refine blk_drew ?_ | refine blk_alloc ?_ _)); refine blk_far ?_ NB106_124.out _; (with_reducible repeat (first | refine blk_drewN ?_ _ | refine blk_drew ?_ | refine blk_alloc ?_ _)); refine blk_far ?_ NB106_124.out _; (with_reducible repeat (first | refine blk_drewN ?_ _ | refine blk_drew ?_ | refine blk_alloc ?_ _)); refine blk_far ?_ NB106_124.out _; (with_reducible repeat (first | refine blk_drewN ?_ _ | refine blk_drew ?_ | refine blk_alloc ?_ _)); refine blk_far ?_ NB106_124.out _; (with_reducible repeat (first | refine blk_drewN ?_ _ | refine blk_drew ?_ | refine blk_alloc ?_ _)); exact BK106.out))⟩ : Aside0 (w99.heap[gb106]? = some (.cells #[.int .i64 ((rd_T69 l0 x42_2).f0), .slice A105_1 ((rd_T69 l0 x42_2).f1).length c105_1] 69 (0, 0)))) (⟨(by rw [hw]; exact (bps BK124.out rfl))⟩ : Aside0 (w99.heap[gb124]? = some (.cells #[.int .i64 ((rd_T46 l1 x65_3).f0), .int .i64 ((rd_T46 l1 x65_3).f1), .int .i64 ((rd_T46 l1 x65_3).f2), .slice A123_3 ((rd_T46 l1 x65_3).f3).length c123_3] 46 (0, 0)))) (⟨(by rw [hw]; exact (by exact bl_g HB.out))⟩ : Aside0 (Below w.heap.size w w99)) ?_; clear hw HO_8 HO_9 BK106 BK124 HB; intro HO_8 HO_9 BK106 BK124 HB; obtain ⟨hcz100_0, hcz100_1, hcz100_2, hcz100_3, hfz100_0, hfz100_1, hfz100_2, hfz100_3⟩ := cells4 BK124.out; obtain ⟨Ao101, co101, eo101⟩ := Kd.R_slice HO_8.out; subst eo101; have p40 : 0 ≤ (x65_3 : Int) := od; have q40 : (x65_3 : Int) < ((x9_3.length : Int) : Int) := od; obtain ⟨go40, co40, eo40, gb40, gl40, cl40, HG40⟩ := Kd.R_form HO_9.out (by omega); (first | cases eo40 | (injection eo40 with ea_ en_ ec_; (first | subst ea_ | (injection ea_ with ea_; subst ea_)); subst ec_; clear en_)); have GB40 := am gb40; have GG40 := am HG40; clear gb40 gl40 HG40; obtain ⟨hx40_0, hf40_0⟩ := Kd.R_celln 0 HO_9.out (x65_3 : Int) p40 q40; replace p40 := eq_true p40; replace q40 := eq_true q40; obtain ⟨hy102_, hz102_⟩ := Kd.R_celln 0 HO_9.out (x65_3 : Int) (od) (od); have HP102 := Kd.R_putg HO_9.out (x65_3 : Int) (x8_3.length : Int)) | ((with_reducible refine gate_store (t := 3) (p := 78) rfl ?_); refine store_event (t := 3) (p := 78) (v := ?vo_w103) (w1 := (w99.setCell ⟨go40, (x65_3 : Int).toNat, none⟩ (.int .i64 (x8_3.length : Int)))) ?hg ?ho ?hn ?hr ?_; (case ho => rfl); (case hg => rfl); (case hn => rfl); (case hr => go_simp; try rfl); intro w103 hw; have hg : w99.grownBy w103 (some go40) := (by rw [hw]; exact HP102.2); have hp_ : Kd.R (Kd.int .i64) 3 w103 w.heap.size (fun _ => True) (.slice (some ⟨go40, 0, none⟩) x9_3.length co40) y125 := (by rw [hw, Ny125.out]; exact HP102.1); clear HP102; refine mv5 (am (Kd.R_over' (v := (.slice (some ⟨go40, 0, none⟩) x9_3.length co40)) (Kd.R_o HO_8.out) (Kd.R_typed HO_9.out) (by decide) hg)) (am (hp_)) (am (blk_grown (g := gb106) (o := .cells #[.int .i64 ((rd_T69 l0 x42_2).f0), .slice A105_1 ((rd_T69 l0 x42_2).f1).length c105_1] 69 (0, 0)) (blk_o BK106.out) hg (Kd.R_ne HO_9.out BK106.out (by decide)))) (am (blk_grown (g := gb124) (o := .cells #[.int .i64 ((rd_T46 l1 x65_3).f0), .int .i64 ((rd_T46 l1 x65_3).f1), .int .i64 ((rd_T46 l1 x65_3).f2), .slice A123_3 ((rd_T46 l1 x65_3).f3).length c123_3] 46 (0, 0)) (blk_o BK124.out) hg (Kd.R_ne HO_9.out BK124.out (by decide)))) (am ((by rw [hw]; exact below_set (HB.out) GB40.out : Below w.heap.size w w103))) ?_; clear HO_8 HO_9 BK106 BK124 HB; intro HO_8 HO_9 BK106 BK124 HB; clear hg hw hp_) | ((with_reducible refine gate_callee (f := 26) rfl ?_); refine goesL_ (some 84) rfl rfl Try.func26 (by kernel_rfl) rfl #[.int .i64 (wrap64 ((wrap64 ((x8_3.length : Int) + 4)) - (x8_2.length : Int)))] rfl (by simp only [ml]; try rfl) ?_; (with_reducible refine (ehframe_low.calls k3 (wrap64 ((wrap64 ((x8_3.length : Int) + 4)) - (x8_2.length : Int))) t126 _ A41.out).mono ?_); rintro e w104 ⟨v127, rfl, ho0, hb⟩; refine ⟨_, rfl, ?_⟩; refine mv6 (am (Kd.R_elder' (Kd.R_o HO_8.out) (Kd.R_base ho0) hb)) (am (Kd.R_below (Kd.R_o HO_9.out) hb)) (am (Kd.R_lower (Kd.R_new' ho0 (Kd.R_lt (Kd.R_o HO_8.out))) (below_size (by exact bl_g HB.out)))) (am (blk_below (blk_o BK106.out) hb)) (am (blk_below (blk_o BK124.out) hb)) (am (below_step (by exact bl_g HB.out) hb)) ?_; clear HO_8 HO_9 BK106 BK124 HB; intro HO_8 HO_9 HO128 BK106 BK124 HB; obtain ⟨hcz105_0, hcz105_1, hfz105_0, hfz105_1⟩ := cells2 BK106.out; obtain ⟨hcz106_0, hcz106_1, hcz106_2, hcz106_3, hfz106_0, hfz106_1, hfz106_2, hfz106_3⟩ := cells4 BK124.out) | ((with_reducible refine gate_callee (f := 16) rfl ?_); refine goesL_ (some 95) rfl rfl Try.func16 (by kernel_rfl) rfl #[.int .i64 ((rd_T69 l0 x42_2).f0), .int .i64 ((rd_T46 l1 x65_3).f1), .int .i64 (wrap64 ((wrap64 (a2 + (x8_3.length : Int))) + 8)), .int .i64 0] rfl (by simp only [ml]; try rfl) ?_; (with_reducible refine (ehframe_Put.calls k3 ((rd_T69 l0 x42_2).f0) ((rd_T46 l1 x65_3).f1) (wrap64 ((wrap64 (a2 + (x8_3.length : Int))) + 8)) 0 t129 t130 _ A42.out).mono ?_); rintro e w107 ⟨v131, rfl, ho0, hb⟩; refine ⟨_, rfl, ?_⟩; refine mv7 (am (Kd.R_elder' (Kd.R_o HO_8.out) (Kd.R_base ho0) hb)) (am (Kd.R_below (Kd.R_o HO_9.out) hb)) (am (Kd.R_elder' (Kd.R_o HO128.out) (Kd.R_base ho0) hb)) (am (Kd.R_lower (Kd.R_new' (Kd.R_new' ho0 (Kd.R_lt (Kd.R_o HO_8.out))) (Kd.R_lt (Kd.R_o HO128.out))) (below_size (by exact bl_g HB.out)))) (am (blk_below (blk_o BK106.out) hb)) (am (blk_below (blk_o BK124.out) hb)) (am (below_step (by exact bl_g HB.out) hb)) ?_; clear HO_8 HO_9 HO128 BK106 BK124 HB; intro HO_8 HO_9 HO128 HO132 BK106 BK124 HB))
        go_ret3
        exact ⟨_, _, rfl, by first | exact Kd.R_nil _ _ _ _ _ | exact Kd.N_nil _ _ _ _ _, by first | exact Kd.R_nil _ _ _ _ _ | exact Kd.N_nil _ _ _ _ _, by exact bl_g HB.out⟩
       rw [if_pos c43] at H
       have c43b0 : (t130 == 0) = true := beq_iff_eq.mpr c43
       have c43b1 : (t130 != 0) = false := bne_eq_false_iff_eq.mpr c43
       clear c43
       replace H := Option.bind_eq_some_iff.mp H
       obtain ⟨⟨t133, t134⟩, A440, H⟩ := H
       replace H : (if t134 = 0 then ((cfa_Write.f k3 ((rd_T46 l1 x65_3).f3)).bind fun bt137 => (if t126.length + t129.length < 140737488355328 then ((some (t126 ++ t129 : List Int)).bind fun y141 => (if y141.length + t133.length < 140737488355328 then ((some (y141 ++ t133 : List Int)).bind fun y144 => (if y144.length < 140737488355328 then ((some (y144 ++ [0] : List Int)).bind fun y147 => (if y147.length + bt137.1.length < 140737488355328 then ((ehframe_record.f k3 (y147 ++ bt137.1)).bind fun t153 => (if x8_3.length + t153.length < 140737488355328 then (ehframe_Write.l1 k3 l1 a2 a3 (x8_3 ++ t153) y125 x42_2 (x8_2.length : Int) l0 (l0.length : Int) x42_2 l1 (l1.length : Int) (wrap64 (x65_3 + 1)) ((rd_T69 l0 x42_2).f0) ((rd_T69 l0 x42_2).f1)) else (none))) else (none))) else (none))) else (none))) else (none))) else (some (([] : List Int), ([] : List Int), 11))) = some (r1, r2, r3) := H
       have A44 := am A440
       clear A440
       by_cases c45 : t134 = 0
       rotate_left
       ·
        rw [if_neg c45] at H
        have c45b0 : (t134 == 0) = false := beq_eq_false_iff_ne.mpr c45
        have c45b1 : (t134 != 0) = true := bne_iff_ne.mpr c45
        simp only [Option.some.injEq, Prod.mk.injEq] at H
        obtain ⟨rfl, rfl, rfl⟩ := H
        have p123 : 0 ≤ (x65_3 : Int) := od
        have q123 : x65_3 < (l1.length : Int) := od
        obtain ⟨ad123, A123_3, c123_3, e123, hx123_0, hx123_1, hx123_2, hx123_3, hl123_3, hi123_3⟩ := at_T46 HR1.out x65_3 p123 q123
        cases e123
        replace hx123_0 := oc HB.out hx123_0
        replace hx123_1 := oc HB.out hx123_1
        replace hx123_2 := oc HB.out hx123_2
        replace hx123_3 := oc HB.out hx123_3
        have HR123_3 := am hi123_3
        have HC123_3 := am hl123_3
        clear hi123_3 hl123_3
        replace p123 := eq_true p123
        replace q123 := eq_true q123
        go_wp2_with (first | ((with_reducible refine gate_dst (N := 18) rfl ?_); refine box_event ?hg (N := 18) ?hd (cs := #[.int .i64 0, .int .i64 0, .int .i64 0, .slice none 0 0]) (t := 46) ?hr ?_; (case hd => rfl); (case hg => rfl); (case hr => go_simp; try rfl); intro gb124 hg w81 hbox hb; refine mv8 (am (Kd.R_below (Kd.R_o HO_8.out) hb)) (am (Kd.R_below (Kd.R_o HO_9.out) hb)) (am (blk_below (blk_o BK106.out) hb)) (am (below_step (by exact bl_g HB.out) hb)) (am (hbox)) (lei (by rw [hg]; exact (below_size (by exact bl_g HB.out)) : w.heap.size ≤ gb124)) (am ((by rw [hg]; exact Nat.ne_of_lt (blk_lt (g := gb106) (o := .cells #[.int .i64 ((rd_T69 l0 x42_2).f0), .slice A105_1 ((rd_T69 l0 x42_2).f1).length c105_1] 69 (0, 0)) (blk_o BK106.out)) : gb106 ≠ gb124))) (am ((by rw [hg]; exact Nat.ne_of_gt (blk_lt (g := gb106) (o := .cells #[.int .i64 ((rd_T69 l0 x42_2).f0), .slice A105_1 ((rd_T69 l0 x42_2).f1).length c105_1] 69 (0, 0)) (blk_o BK106.out)) : gb124 ≠ gb106))) ?_; clear HO_8 HO_9 BK106 HB; intro HO_8 HO_9 BK106 HB BK124 GW124 NB106_124 NB124_106; have GE124 := GW124; clear hb hbox hg; have hnb82 := NB124_106.out; have hnc82 := NB106_124.out; obtain ⟨hcz83_0, hcz83_1, hcz83_2, hcz83_3, hfz83_0, hfz83_1, hfz83_2, hfz83_3⟩ := cells4 BK124.out) | ((with_reducible refine gate_store (t := 46) (p := 18) rfl ?_); refine store_event (t := 46) (p := 18) (v := ?vo_w84) (w1 := ((((w81.setCell ⟨gb124, 0, none⟩ (.int .i64 ((rd_T46 l1 x65_3).f0))).setCell ⟨gb124, 1, none⟩ (.int .i64 ((rd_T46 l1 x65_3).f1))).setCell ⟨gb124, 2, none⟩ (.int .i64 ((rd_T46 l1 x65_3).f2))).setCell ⟨gb124, 3, none⟩ (.slice A123_3 ((rd_T46 l1 x65_3).f3).length c123_3))) ?hg ?ho ?hn ?hr ?_; (case ho => rfl); (case hg => rfl); (case hn => rfl); (case hr => go_simp; try rfl); intro w84 hw; refine mv5 (⟨(by rw [hw]; exact (Kd.R_o (Kd.R_mono (Kd.R_far (p := ⟨gb124, 3, none⟩) (Kd.R_far (p := ⟨gb124, 2, none⟩) (Kd.R_far (p := ⟨gb124, 1, none⟩) (Kd.R_far (p := ⟨gb124, 0, none⟩) (Kd.R_types HO_8.out BK124.out (by decide)) (fun _ hk => hk.2) (.int .i64 ((rd_T46 l1 x65_3).f0))) (fun _ hk => hk.2) (.int .i64 ((rd_T46 l1 x65_3).f1))) (fun _ hk => hk.2) (.int .i64 ((rd_T46 l1 x65_3).f2))) (fun _ hk => hk.2) (.slice A123_3 ((rd_T46 l1 x65_3).f3).length c123_3)) (fun _ hk => trivial))))⟩ : Aside0 (Kd.R (Kd.int .u8) 5 w84 w.heap.size (fun _ => True) u8 x8_3)) (⟨(by rw [hw]; exact (Kd.R_o (Kd.R_mono (Kd.R_far (p := ⟨gb124, 3, none⟩) (Kd.R_far (p := ⟨gb124, 2, none⟩) (Kd.R_far (p := ⟨gb124, 1, none⟩) (Kd.R_far (p := ⟨gb124, 0, none⟩) (Kd.R_types HO_9.out BK124.out (by decide)) (fun _ hk => hk.2) (.int .i64 ((rd_T46 l1 x65_3).f0))) (fun _ hk => hk.2) (.int .i64 ((rd_T46 l1 x65_3).f1))) (fun _ hk => hk.2) (.int .i64 ((rd_T46 l1 x65_3).f2))) (fun _ hk => hk.2) (.slice A123_3 ((rd_T46 l1 x65_3).f3).length c123_3)) (fun _ hk => trivial))))⟩ : Aside0 (Kd.R (Kd.int .i64) 3 w84 w.heap.size (fun _ => True) u9 x9_3)) (⟨(by rw [hw]; exact (by (with_reducible repeat (first | refine blk_drewN ?_ _ | refine blk_drew ?_ | refine blk_alloc ?_ _)); refine blk_far ?_ NB106_124.out _; (with_reducible repeat (first | refine blk_drewN ?_ _ | refine blk_drew ?_ | refine blk_alloc ?_ _)); refine blk_far ?_ NB106_124.out _; (with_reducible repeat (first | refine blk_drewN ?_ _ | refine blk_drew ?_ | refine blk_alloc ?_ _)); refine blk_far ?_ NB106_124.out _; (with_reducible repeat (first | refine blk_drewN ?_ _ | refine blk_drew ?_ | refine blk_alloc ?_ _)); refine blk_far ?_ NB106_124.out _; (with_reducible repeat (first | refine blk_drewN ?_ _ | refine blk_drew ?_ | refine blk_alloc ?_ _)); exact BK106.out))⟩ : Aside0 (w84.heap[gb106]? = some (.cells #[.int .i64 ((rd_T69 l0 x42_2).f0), .slice A105_1 ((rd_T69 l0 x42_2).f1).length c105_1] 69 (0, 0)))) (⟨(by rw [hw]; exact (bps BK124.out rfl))⟩ : Aside0 (w84.heap[gb124]? = some (.cells #[.int .i64 ((rd_T46 l1 x65_3).f0), .int .i64 ((rd_T46 l1 x65_3).f1), .int .i64 ((rd_T46 l1 x65_3).f2), .slice A123_3 ((rd_T46 l1 x65_3).f3).length c123_3] 46 (0, 0)))) (⟨(by rw [hw]; exact (by exact bl_g HB.out))⟩ : Aside0 (Below w.heap.size w w84)) ?_; clear hw HO_8 HO_9 BK106 BK124 HB; intro HO_8 HO_9 BK106 BK124 HB; obtain ⟨hcz85_0, hcz85_1, hcz85_2, hcz85_3, hfz85_0, hfz85_1, hfz85_2, hfz85_3⟩ := cells4 BK124.out; obtain ⟨Ao86, co86, eo86⟩ := Kd.R_slice HO_8.out; subst eo86; have p40 : 0 ≤ (x65_3 : Int) := od; have q40 : (x65_3 : Int) < ((x9_3.length : Int) : Int) := od; obtain ⟨go40, co40, eo40, gb40, gl40, cl40, HG40⟩ := Kd.R_form HO_9.out (by omega); (first | cases eo40 | (injection eo40 with ea_ en_ ec_; (first | subst ea_ | (injection ea_ with ea_; subst ea_)); subst ec_; clear en_)); have GB40 := am gb40; have GG40 := am HG40; clear gb40 gl40 HG40; obtain ⟨hx40_0, hf40_0⟩ := Kd.R_celln 0 HO_9.out (x65_3 : Int) p40 q40; replace p40 := eq_true p40; replace q40 := eq_true q40; obtain ⟨hy87_, hz87_⟩ := Kd.R_celln 0 HO_9.out (x65_3 : Int) (od) (od); have HP87 := Kd.R_putg HO_9.out (x65_3 : Int) (x8_3.length : Int)) | ((with_reducible refine gate_store (t := 3) (p := 78) rfl ?_); refine store_event (t := 3) (p := 78) (v := ?vo_w88) (w1 := (w84.setCell ⟨go40, (x65_3 : Int).toNat, none⟩ (.int .i64 (x8_3.length : Int)))) ?hg ?ho ?hn ?hr ?_; (case ho => rfl); (case hg => rfl); (case hn => rfl); (case hr => go_simp; try rfl); intro w88 hw; have hg : w84.grownBy w88 (some go40) := (by rw [hw]; exact HP87.2); have hp_ : Kd.R (Kd.int .i64) 3 w88 w.heap.size (fun _ => True) (.slice (some ⟨go40, 0, none⟩) x9_3.length co40) y125 := (by rw [hw, Ny125.out]; exact HP87.1); clear HP87; refine mv5 (am (Kd.R_over' (v := (.slice (some ⟨go40, 0, none⟩) x9_3.length co40)) (Kd.R_o HO_8.out) (Kd.R_typed HO_9.out) (by decide) hg)) (am (hp_)) (am (blk_grown (g := gb106) (o := .cells #[.int .i64 ((rd_T69 l0 x42_2).f0), .slice A105_1 ((rd_T69 l0 x42_2).f1).length c105_1] 69 (0, 0)) (blk_o BK106.out) hg (Kd.R_ne HO_9.out BK106.out (by decide)))) (am (blk_grown (g := gb124) (o := .cells #[.int .i64 ((rd_T46 l1 x65_3).f0), .int .i64 ((rd_T46 l1 x65_3).f1), .int .i64 ((rd_T46 l1 x65_3).f2), .slice A123_3 ((rd_T46 l1 x65_3).f3).length c123_3] 46 (0, 0)) (blk_o BK124.out) hg (Kd.R_ne HO_9.out BK124.out (by decide)))) (am ((by rw [hw]; exact below_set (HB.out) GB40.out : Below w.heap.size w w88))) ?_; clear HO_8 HO_9 BK106 BK124 HB; intro HO_8 HO_9 BK106 BK124 HB; clear hg hw hp_) | ((with_reducible refine gate_callee (f := 26) rfl ?_); refine goesL_ (some 84) rfl rfl Try.func26 (by kernel_rfl) rfl #[.int .i64 (wrap64 ((wrap64 ((x8_3.length : Int) + 4)) - (x8_2.length : Int)))] rfl (by simp only [ml]; try rfl) ?_; (with_reducible refine (ehframe_low.calls k3 (wrap64 ((wrap64 ((x8_3.length : Int) + 4)) - (x8_2.length : Int))) t126 _ A41.out).mono ?_); rintro e w89 ⟨v127, rfl, ho0, hb⟩; refine ⟨_, rfl, ?_⟩; refine mv6 (am (Kd.R_elder' (Kd.R_o HO_8.out) (Kd.R_base ho0) hb)) (am (Kd.R_below (Kd.R_o HO_9.out) hb)) (am (Kd.R_lower (Kd.R_new' ho0 (Kd.R_lt (Kd.R_o HO_8.out))) (below_size (by exact bl_g HB.out)))) (am (blk_below (blk_o BK106.out) hb)) (am (blk_below (blk_o BK124.out) hb)) (am (below_step (by exact bl_g HB.out) hb)) ?_; clear HO_8 HO_9 BK106 BK124 HB; intro HO_8 HO_9 HO128 BK106 BK124 HB; obtain ⟨hcz90_0, hcz90_1, hfz90_0, hfz90_1⟩ := cells2 BK106.out; obtain ⟨hcz91_0, hcz91_1, hcz91_2, hcz91_3, hfz91_0, hfz91_1, hfz91_2, hfz91_3⟩ := cells4 BK124.out) | ((with_reducible refine gate_callee (f := 16) rfl ?_); refine goesL_ (some 95) rfl rfl Try.func16 (by kernel_rfl) rfl #[.int .i64 ((rd_T69 l0 x42_2).f0), .int .i64 ((rd_T46 l1 x65_3).f1), .int .i64 (wrap64 ((wrap64 (a2 + (x8_3.length : Int))) + 8)), .int .i64 0] rfl (by simp only [ml]; try rfl) ?_; (with_reducible refine (ehframe_Put.calls k3 ((rd_T69 l0 x42_2).f0) ((rd_T46 l1 x65_3).f1) (wrap64 ((wrap64 (a2 + (x8_3.length : Int))) + 8)) 0 t129 t130 _ A42.out).mono ?_); rintro e w92 ⟨v131, rfl, ho0, hb⟩; refine ⟨_, rfl, ?_⟩; refine mv7 (am (Kd.R_elder' (Kd.R_o HO_8.out) (Kd.R_base ho0) hb)) (am (Kd.R_below (Kd.R_o HO_9.out) hb)) (am (Kd.R_elder' (Kd.R_o HO128.out) (Kd.R_base ho0) hb)) (am (Kd.R_lower (Kd.R_new' (Kd.R_new' ho0 (Kd.R_lt (Kd.R_o HO_8.out))) (Kd.R_lt (Kd.R_o HO128.out))) (below_size (by exact bl_g HB.out)))) (am (blk_below (blk_o BK106.out) hb)) (am (blk_below (blk_o BK124.out) hb)) (am (below_step (by exact bl_g HB.out) hb)) ?_; clear HO_8 HO_9 HO128 BK106 BK124 HB; intro HO_8 HO_9 HO128 HO132 BK106 BK124 HB; obtain ⟨hcz93_0, hcz93_1, hfz93_0, hfz93_1⟩ := cells2 BK106.out; obtain ⟨hcz94_0, hcz94_1, hcz94_2, hcz94_3, hfz94_0, hfz94_1, hfz94_2, hfz94_3⟩ := cells4 BK124.out) | ((with_reducible refine gate_callee (f := 16) rfl ?_); refine goesL_ (some 106) rfl rfl Try.func16 (by kernel_rfl) rfl #[.int .i64 (Go.bits .and .i64 ((rd_T69 l0 x42_2).f0) 15), .int .i64 ((rd_T46 l1 x65_3).f2), .int .i64 0, .int .i64 0] rfl (by simp only [ml]; try rfl) ?_; (with_reducible refine (ehframe_Put.calls k3 (Go.bits .and .i64 ((rd_T69 l0 x42_2).f0) 15) ((rd_T46 l1 x65_3).f2) 0 0 t133 t134 _ A44.out).mono ?_); rintro e w95 ⟨v135, rfl, ho0, hb⟩; refine ⟨_, rfl, ?_⟩; refine mv8 (am (Kd.R_elder' (Kd.R_o HO_8.out) (Kd.R_base ho0) hb)) (am (Kd.R_below (Kd.R_o HO_9.out) hb)) (am (Kd.R_elder' (Kd.R_o HO128.out) (Kd.R_base ho0) hb)) (am (Kd.R_elder' (Kd.R_o HO132.out) (Kd.R_base ho0) hb)) (am (Kd.R_lower (Kd.R_new' (Kd.R_new' (Kd.R_new' ho0 (Kd.R_lt (Kd.R_o HO_8.out))) (Kd.R_lt (Kd.R_o HO128.out))) (Kd.R_lt (Kd.R_o HO132.out))) (below_size (by exact bl_g HB.out)))) (am (blk_below (blk_o BK106.out) hb)) (am (blk_below (blk_o BK124.out) hb)) (am (below_step (by exact bl_g HB.out) hb)) ?_; clear HO_8 HO_9 HO128 HO132 BK106 BK124 HB; intro HO_8 HO_9 HO128 HO132 HO136 BK106 BK124 HB))
        go_ret3
        exact ⟨_, _, rfl, by first | exact Kd.R_nil _ _ _ _ _ | exact Kd.N_nil _ _ _ _ _, by first | exact Kd.R_nil _ _ _ _ _ | exact Kd.N_nil _ _ _ _ _, by exact bl_g HB.out⟩
       rw [if_pos c45] at H
       have c45b0 : (t134 == 0) = true := beq_iff_eq.mpr c45
       have c45b1 : (t134 != 0) = false := bne_eq_false_iff_eq.mpr c45
       clear c45
       replace H := Option.bind_eq_some_iff.mp H
       obtain ⟨⟨t137, t138⟩, A460, H⟩ := H
       replace H : (if t126.length + t129.length < 140737488355328 then ((some (t126 ++ t129 : List Int)).bind fun y141 => (if y141.length + t133.length < 140737488355328 then ((some (y141 ++ t133 : List Int)).bind fun y144 => (if y144.length < 140737488355328 then ((some (y144 ++ [0] : List Int)).bind fun y147 => (if y147.length + t137.length < 140737488355328 then ((ehframe_record.f k3 (y147 ++ t137)).bind fun t153 => (if x8_3.length + t153.length < 140737488355328 then (ehframe_Write.l1 k3 l1 a2 a3 (x8_3 ++ t153) y125 x42_2 (x8_2.length : Int) l0 (l0.length : Int) x42_2 l1 (l1.length : Int) (wrap64 (x65_3 + 1)) ((rd_T69 l0 x42_2).f0) ((rd_T69 l0 x42_2).f1)) else (none))) else (none))) else (none))) else (none))) else (none)) = some (r1, r2, r3) := H
       have A46 := am A460
       clear A460
       by_cases c47 : t126.length + t129.length < 140737488355328
       rotate_left
       ·
        rw [if_neg c47] at H
        exact absurd H (by simp)
       rw [if_pos c47] at H
       have LMc47 := am c47
       clear c47
       obtain ⟨y141, hy141⟩ : ∃ y_ : List Int, y_ = (t126 ++ t129) := ⟨_, rfl⟩
       replace H : (if y141.length + t133.length < 140737488355328 then ((some (y141 ++ t133 : List Int)).bind fun y144 => (if y144.length < 140737488355328 then ((some (y144 ++ [0] : List Int)).bind fun y147 => (if y147.length + t137.length < 140737488355328 then ((ehframe_record.f k3 (y147 ++ t137)).bind fun t153 => (if x8_3.length + t153.length < 140737488355328 then (ehframe_Write.l1 k3 l1 a2 a3 (x8_3 ++ t153) y125 x42_2 (x8_2.length : Int) l0 (l0.length : Int) x42_2 l1 (l1.length : Int) (wrap64 (x65_3 + 1)) ((rd_T69 l0 x42_2).f0) ((rd_T69 l0 x42_2).f1)) else (none))) else (none))) else (none))) else (none)) = some (r1, r2, r3) := by first | (rw [hy141]; with_reducible exact H) | (have H2_ := (Option.bind_some _ _).symm.trans H; rw [hy141]; with_reducible exact H2_)
       have Ny141 := am hy141
       clear hy141
       by_cases c48 : y141.length + t133.length < 140737488355328
       rotate_left
       ·
        rw [if_neg c48] at H
        exact absurd H (by simp)
       rw [if_pos c48] at H
       have LMc48 := am c48
       clear c48
       obtain ⟨y144, hy144⟩ : ∃ y_ : List Int, y_ = (y141 ++ t133) := ⟨_, rfl⟩
       replace H : (if y144.length < 140737488355328 then ((some (y144 ++ [0] : List Int)).bind fun y147 => (if y147.length + t137.length < 140737488355328 then ((ehframe_record.f k3 (y147 ++ t137)).bind fun t153 => (if x8_3.length + t153.length < 140737488355328 then (ehframe_Write.l1 k3 l1 a2 a3 (x8_3 ++ t153) y125 x42_2 (x8_2.length : Int) l0 (l0.length : Int) x42_2 l1 (l1.length : Int) (wrap64 (x65_3 + 1)) ((rd_T69 l0 x42_2).f0) ((rd_T69 l0 x42_2).f1)) else (none))) else (none))) else (none)) = some (r1, r2, r3) := by first | (rw [hy144]; with_reducible exact H) | (have H2_ := (Option.bind_some _ _).symm.trans H; rw [hy144]; with_reducible exact H2_)
       have Ny144 := am hy144
       clear hy144
       by_cases c49 : y144.length < 140737488355328
       rotate_left
       ·
        rw [if_neg c49] at H
        exact absurd H (by simp)
       rw [if_pos c49] at H
       have LMc49 := am c49
       clear c49
       obtain ⟨y147, hy147⟩ : ∃ y_ : List Int, y_ = (y144 ++ [0]) := ⟨_, rfl⟩
       replace H : (if y147.length + t137.length < 140737488355328 then ((ehframe_record.f k3 (y147 ++ t137)).bind fun t153 => (if x8_3.length + t153.length < 140737488355328 then (ehframe_Write.l1 k3 l1 a2 a3 (x8_3 ++ t153) y125 x42_2 (x8_2.length : Int) l0 (l0.length : Int) x42_2 l1 (l1.length : Int) (wrap64 (x65_3 + 1)) ((rd_T69 l0 x42_2).f0) ((rd_T69 l0 x42_2).f1)) else (none))) else (none)) = some (r1, r2, r3) := by first | (rw [hy147]; with_reducible exact H) | (have H2_ := (Option.bind_some _ _).symm.trans H; rw [hy147]; with_reducible exact H2_)
       have Ny147 := am hy147
       clear hy147
       by_cases c50 : y147.length + t137.length < 140737488355328
       rotate_left
       ·
        rw [if_neg c50] at H
        exact absurd H (by simp)
       rw [if_pos c50] at H
       have LMc50 := am c50
       clear c50
       obtain ⟨y150, hy150⟩ : ∃ y_ : List Int, y_ = (y147 ++ t137) := ⟨_, rfl⟩
       replace H : ((ehframe_record.f k3 y150).bind fun t153 => (if x8_3.length + t153.length < 140737488355328 then (ehframe_Write.l1 k3 l1 a2 a3 (x8_3 ++ t153) y125 x42_2 (x8_2.length : Int) l0 (l0.length : Int) x42_2 l1 (l1.length : Int) (wrap64 (x65_3 + 1)) ((rd_T69 l0 x42_2).f0) ((rd_T69 l0 x42_2).f1)) else (none))) = some (r1, r2, r3) := by first | (rw [hy150]; with_reducible exact H) | (have H2_ := (Option.bind_some _ _).symm.trans H; rw [hy150]; with_reducible exact H2_)
       have Ny150 := am hy150
       clear hy150
       replace H := Option.bind_eq_some_iff.mp H
       obtain ⟨t153, A510, H⟩ := H
       replace H : (if x8_3.length + t153.length < 140737488355328 then (ehframe_Write.l1 k3 l1 a2 a3 (x8_3 ++ t153) y125 x42_2 (x8_2.length : Int) l0 (l0.length : Int) x42_2 l1 (l1.length : Int) (wrap64 (x65_3 + 1)) ((rd_T69 l0 x42_2).f0) ((rd_T69 l0 x42_2).f1)) else (none)) = some (r1, r2, r3) := H
       have A51 := am A510
       clear A510
       by_cases c52 : x8_3.length + t153.length < 140737488355328
       rotate_left
       ·
        rw [if_neg c52] at H
        exact absurd H (by simp)
       rw [if_pos c52] at H
       have LMc52 := am c52
       clear c52
       obtain ⟨y156, hy156⟩ : ∃ y_ : List Int, y_ = (x8_3 ++ t153) := ⟨_, rfl⟩
       replace H : (ehframe_Write.l1 k3 l1 a2 a3 y156 y125 x42_2 (x8_2.length : Int) l0 (l0.length : Int) x42_2 l1 (l1.length : Int) (wrap64 (x65_3 + 1)) ((rd_T69 l0 x42_2).f0) ((rd_T69 l0 x42_2).f1)) = some (r1, r2, r3) := by first | (rw [hy156]; with_reducible exact H) | (have H2_ := (Option.bind_some _ _).symm.trans H; rw [hy156]; with_reducible exact H2_)
       have Ny156 := am hy156
       clear hy156
       have H' := am H
       clear H
       have p123 : 0 ≤ (x65_3 : Int) := od
       have q123 : x65_3 < (l1.length : Int) := od
       obtain ⟨ad123, A123_3, c123_3, e123, hx123_0, hx123_1, hx123_2, hx123_3, hl123_3, hi123_3⟩ := at_T46 HR1.out x65_3 p123 q123
       cases e123
       replace hx123_0 := oc HB.out hx123_0
       replace hx123_1 := oc HB.out hx123_1
       replace hx123_2 := oc HB.out hx123_2
       replace hx123_3 := oc HB.out hx123_3
       have HR123_3 := am hi123_3
       have HC123_3 := am hl123_3
       clear hi123_3 hl123_3
       replace p123 := eq_true p123
       replace q123 := eq_true q123
       go_wp2_with (first | ((with_reducible refine gate_dst (N := 18) rfl ?_); refine box_event ?hg (N := 18) ?hd (cs := #[.int .i64 0, .int .i64 0, .int .i64 0, .slice none 0 0]) (t := 46) ?hr ?_; (case hd => rfl); (case hg => rfl); (case hr => go_simp; try rfl); intro gb124 hg w53 hbox hb; refine mv8 (am (Kd.R_below (Kd.R_o HO_8.out) hb)) (am (Kd.R_below (Kd.R_o HO_9.out) hb)) (am (blk_below (blk_o BK106.out) hb)) (am (below_step (by exact bl_g HB.out) hb)) (am (hbox)) (lei (by rw [hg]; exact (below_size (by exact bl_g HB.out)) : w.heap.size ≤ gb124)) (am ((by rw [hg]; exact Nat.ne_of_lt (blk_lt (g := gb106) (o := .cells #[.int .i64 ((rd_T69 l0 x42_2).f0), .slice A105_1 ((rd_T69 l0 x42_2).f1).length c105_1] 69 (0, 0)) (blk_o BK106.out)) : gb106 ≠ gb124))) (am ((by rw [hg]; exact Nat.ne_of_gt (blk_lt (g := gb106) (o := .cells #[.int .i64 ((rd_T69 l0 x42_2).f0), .slice A105_1 ((rd_T69 l0 x42_2).f1).length c105_1] 69 (0, 0)) (blk_o BK106.out)) : gb124 ≠ gb106))) ?_; clear HO_8 HO_9 BK106 HB; intro HO_8 HO_9 BK106 HB BK124 GW124 NB106_124 NB124_106; have GE124 := GW124; clear hb hbox hg; have hnb54 := NB124_106.out; have hnc54 := NB106_124.out; obtain ⟨hcz55_0, hcz55_1, hcz55_2, hcz55_3, hfz55_0, hfz55_1, hfz55_2, hfz55_3⟩ := cells4 BK124.out) | ((with_reducible refine gate_store (t := 46) (p := 18) rfl ?_); refine store_event (t := 46) (p := 18) (v := ?vo_w56) (w1 := ((((w53.setCell ⟨gb124, 0, none⟩ (.int .i64 ((rd_T46 l1 x65_3).f0))).setCell ⟨gb124, 1, none⟩ (.int .i64 ((rd_T46 l1 x65_3).f1))).setCell ⟨gb124, 2, none⟩ (.int .i64 ((rd_T46 l1 x65_3).f2))).setCell ⟨gb124, 3, none⟩ (.slice A123_3 ((rd_T46 l1 x65_3).f3).length c123_3))) ?hg ?ho ?hn ?hr ?_; (case ho => rfl); (case hg => rfl); (case hn => rfl); (case hr => go_simp; try rfl); intro w56 hw; refine mv5 (⟨(by rw [hw]; exact (Kd.R_o (Kd.R_mono (Kd.R_far (p := ⟨gb124, 3, none⟩) (Kd.R_far (p := ⟨gb124, 2, none⟩) (Kd.R_far (p := ⟨gb124, 1, none⟩) (Kd.R_far (p := ⟨gb124, 0, none⟩) (Kd.R_types HO_8.out BK124.out (by decide)) (fun _ hk => hk.2) (.int .i64 ((rd_T46 l1 x65_3).f0))) (fun _ hk => hk.2) (.int .i64 ((rd_T46 l1 x65_3).f1))) (fun _ hk => hk.2) (.int .i64 ((rd_T46 l1 x65_3).f2))) (fun _ hk => hk.2) (.slice A123_3 ((rd_T46 l1 x65_3).f3).length c123_3)) (fun _ hk => trivial))))⟩ : Aside0 (Kd.R (Kd.int .u8) 5 w56 w.heap.size (fun _ => True) u8 x8_3)) (⟨(by rw [hw]; exact (Kd.R_o (Kd.R_mono (Kd.R_far (p := ⟨gb124, 3, none⟩) (Kd.R_far (p := ⟨gb124, 2, none⟩) (Kd.R_far (p := ⟨gb124, 1, none⟩) (Kd.R_far (p := ⟨gb124, 0, none⟩) (Kd.R_types HO_9.out BK124.out (by decide)) (fun _ hk => hk.2) (.int .i64 ((rd_T46 l1 x65_3).f0))) (fun _ hk => hk.2) (.int .i64 ((rd_T46 l1 x65_3).f1))) (fun _ hk => hk.2) (.int .i64 ((rd_T46 l1 x65_3).f2))) (fun _ hk => hk.2) (.slice A123_3 ((rd_T46 l1 x65_3).f3).length c123_3)) (fun _ hk => trivial))))⟩ : Aside0 (Kd.R (Kd.int .i64) 3 w56 w.heap.size (fun _ => True) u9 x9_3)) (⟨(by rw [hw]; exact (by (with_reducible repeat (first | refine blk_drewN ?_ _ | refine blk_drew ?_ | refine blk_alloc ?_ _)); refine blk_far ?_ NB106_124.out _; (with_reducible repeat (first | refine blk_drewN ?_ _ | refine blk_drew ?_ | refine blk_alloc ?_ _)); refine blk_far ?_ NB106_124.out _; (with_reducible repeat (first | refine blk_drewN ?_ _ | refine blk_drew ?_ | refine blk_alloc ?_ _)); refine blk_far ?_ NB106_124.out _; (with_reducible repeat (first | refine blk_drewN ?_ _ | refine blk_drew ?_ | refine blk_alloc ?_ _)); refine blk_far ?_ NB106_124.out _; (with_reducible repeat (first | refine blk_drewN ?_ _ | refine blk_drew ?_ | refine blk_alloc ?_ _)); exact BK106.out))⟩ : Aside0 (w56.heap[gb106]? = some (.cells #[.int .i64 ((rd_T69 l0 x42_2).f0), .slice A105_1 ((rd_T69 l0 x42_2).f1).length c105_1] 69 (0, 0)))) (⟨(by rw [hw]; exact (bps BK124.out rfl))⟩ : Aside0 (w56.heap[gb124]? = some (.cells #[.int .i64 ((rd_T46 l1 x65_3).f0), .int .i64 ((rd_T46 l1 x65_3).f1), .int .i64 ((rd_T46 l1 x65_3).f2), .slice A123_3 ((rd_T46 l1 x65_3).f3).length c123_3] 46 (0, 0)))) (⟨(by rw [hw]; exact (by exact bl_g HB.out))⟩ : Aside0 (Below w.heap.size w w56)) ?_; clear hw HO_8 HO_9 BK106 BK124 HB; intro HO_8 HO_9 BK106 BK124 HB; obtain ⟨hcz57_0, hcz57_1, hcz57_2, hcz57_3, hfz57_0, hfz57_1, hfz57_2, hfz57_3⟩ := cells4 BK124.out; obtain ⟨Ao58, co58, eo58⟩ := Kd.R_slice HO_8.out; subst eo58; have p40 : 0 ≤ (x65_3 : Int) := od; have q40 : (x65_3 : Int) < ((x9_3.length : Int) : Int) := od; obtain ⟨go40, co40, eo40, gb40, gl40, cl40, HG40⟩ := Kd.R_form HO_9.out (by omega); (first | cases eo40 | (injection eo40 with ea_ en_ ec_; (first | subst ea_ | (injection ea_ with ea_; subst ea_)); subst ec_; clear en_)); have GB40 := am gb40; have GG40 := am HG40; clear gb40 gl40 HG40; obtain ⟨hx40_0, hf40_0⟩ := Kd.R_celln 0 HO_9.out (x65_3 : Int) p40 q40; replace p40 := eq_true p40; replace q40 := eq_true q40; obtain ⟨hy59_, hz59_⟩ := Kd.R_celln 0 HO_9.out (x65_3 : Int) (od) (od); have HP59 := Kd.R_putg HO_9.out (x65_3 : Int) (x8_3.length : Int)) | ((with_reducible refine gate_store (t := 3) (p := 78) rfl ?_); refine store_event (t := 3) (p := 78) (v := ?vo_w60) (w1 := (w56.setCell ⟨go40, (x65_3 : Int).toNat, none⟩ (.int .i64 (x8_3.length : Int)))) ?hg ?ho ?hn ?hr ?_; (case ho => rfl); (case hg => rfl); (case hn => rfl); (case hr => go_simp; try rfl); intro w60 hw; have hg : w56.grownBy w60 (some go40) := (by rw [hw]; exact HP59.2); have hp_ : Kd.R (Kd.int .i64) 3 w60 w.heap.size (fun _ => True) (.slice (some ⟨go40, 0, none⟩) x9_3.length co40) y125 := (by rw [hw, Ny125.out]; exact HP59.1); clear HP59; refine mv5 (am (Kd.R_over' (v := (.slice (some ⟨go40, 0, none⟩) x9_3.length co40)) (Kd.R_o HO_8.out) (Kd.R_typed HO_9.out) (by decide) hg)) (am (hp_)) (am (blk_grown (g := gb106) (o := .cells #[.int .i64 ((rd_T69 l0 x42_2).f0), .slice A105_1 ((rd_T69 l0 x42_2).f1).length c105_1] 69 (0, 0)) (blk_o BK106.out) hg (Kd.R_ne HO_9.out BK106.out (by decide)))) (am (blk_grown (g := gb124) (o := .cells #[.int .i64 ((rd_T46 l1 x65_3).f0), .int .i64 ((rd_T46 l1 x65_3).f1), .int .i64 ((rd_T46 l1 x65_3).f2), .slice A123_3 ((rd_T46 l1 x65_3).f3).length c123_3] 46 (0, 0)) (blk_o BK124.out) hg (Kd.R_ne HO_9.out BK124.out (by decide)))) (am ((by rw [hw]; exact below_set (HB.out) GB40.out : Below w.heap.size w w60))) ?_; clear HO_8 HO_9 BK106 BK124 HB; intro HO_8 HO_9 BK106 BK124 HB; clear hg hw hp_) | ((with_reducible refine gate_callee (f := 26) rfl ?_); refine goesL_ (some 84) rfl rfl Try.func26 (by kernel_rfl) rfl #[.int .i64 (wrap64 ((wrap64 ((x8_3.length : Int) + 4)) - (x8_2.length : Int)))] rfl (by simp only [ml]; try rfl) ?_; (with_reducible refine (ehframe_low.calls k3 (wrap64 ((wrap64 ((x8_3.length : Int) + 4)) - (x8_2.length : Int))) t126 _ A41.out).mono ?_); rintro e w61 ⟨v127, rfl, ho0, hb⟩; refine ⟨_, rfl, ?_⟩; refine mv6 (am (Kd.R_elder' (Kd.R_o HO_8.out) (Kd.R_base ho0) hb)) (am (Kd.R_below (Kd.R_o HO_9.out) hb)) (am (Kd.R_lower (Kd.R_new' ho0 (Kd.R_lt (Kd.R_o HO_8.out))) (below_size (by exact bl_g HB.out)))) (am (blk_below (blk_o BK106.out) hb)) (am (blk_below (blk_o BK124.out) hb)) (am (below_step (by exact bl_g HB.out) hb)) ?_; clear HO_8 HO_9 BK106 BK124 HB; intro HO_8 HO_9 HO128 BK106 BK124 HB; obtain ⟨hcz62_0, hcz62_1, hfz62_0, hfz62_1⟩ := cells2 BK106.out; obtain ⟨hcz63_0, hcz63_1, hcz63_2, hcz63_3, hfz63_0, hfz63_1, hfz63_2, hfz63_3⟩ := cells4 BK124.out) | ((with_reducible refine gate_callee (f := 16) rfl ?_); refine goesL_ (some 95) rfl rfl Try.func16 (by kernel_rfl) rfl #[.int .i64 ((rd_T69 l0 x42_2).f0), .int .i64 ((rd_T46 l1 x65_3).f1), .int .i64 (wrap64 ((wrap64 (a2 + (x8_3.length : Int))) + 8)), .int .i64 0] rfl (by simp only [ml]; try rfl) ?_; (with_reducible refine (ehframe_Put.calls k3 ((rd_T69 l0 x42_2).f0) ((rd_T46 l1 x65_3).f1) (wrap64 ((wrap64 (a2 + (x8_3.length : Int))) + 8)) 0 t129 t130 _ A42.out).mono ?_); rintro e w64 ⟨v131, rfl, ho0, hb⟩; refine ⟨_, rfl, ?_⟩; refine mv7 (am (Kd.R_elder' (Kd.R_o HO_8.out) (Kd.R_base ho0) hb)) (am (Kd.R_below (Kd.R_o HO_9.out) hb)) (am (Kd.R_elder' (Kd.R_o HO128.out) (Kd.R_base ho0) hb)) (am (Kd.R_lower (Kd.R_new' (Kd.R_new' ho0 (Kd.R_lt (Kd.R_o HO_8.out))) (Kd.R_lt (Kd.R_o HO128.out))) (below_size (by exact bl_g HB.out)))) (am (blk_below (blk_o BK106.out) hb)) (am (blk_below (blk_o BK124.out) hb)) (am (below_step (by exact bl_g HB.out) hb)) ?_; clear HO_8 HO_9 HO128 BK106 BK124 HB; intro HO_8 HO_9 HO128 HO132 BK106 BK124 HB; obtain ⟨hcz65_0, hcz65_1, hfz65_0, hfz65_1⟩ := cells2 BK106.out; obtain ⟨hcz66_0, hcz66_1, hcz66_2, hcz66_3, hfz66_0, hfz66_1, hfz66_2, hfz66_3⟩ := cells4 BK124.out) | ((with_reducible refine gate_callee (f := 16) rfl ?_); refine goesL_ (some 106) rfl rfl Try.func16 (by kernel_rfl) rfl #[.int .i64 (Go.bits .and .i64 ((rd_T69 l0 x42_2).f0) 15), .int .i64 ((rd_T46 l1 x65_3).f2), .int .i64 0, .int .i64 0] rfl (by simp only [ml]; try rfl) ?_; (with_reducible refine (ehframe_Put.calls k3 (Go.bits .and .i64 ((rd_T69 l0 x42_2).f0) 15) ((rd_T46 l1 x65_3).f2) 0 0 t133 t134 _ A44.out).mono ?_); rintro e w67 ⟨v135, rfl, ho0, hb⟩; refine ⟨_, rfl, ?_⟩; refine mv8 (am (Kd.R_elder' (Kd.R_o HO_8.out) (Kd.R_base ho0) hb)) (am (Kd.R_below (Kd.R_o HO_9.out) hb)) (am (Kd.R_elder' (Kd.R_o HO128.out) (Kd.R_base ho0) hb)) (am (Kd.R_elder' (Kd.R_o HO132.out) (Kd.R_base ho0) hb)) (am (Kd.R_lower (Kd.R_new' (Kd.R_new' (Kd.R_new' ho0 (Kd.R_lt (Kd.R_o HO_8.out))) (Kd.R_lt (Kd.R_o HO128.out))) (Kd.R_lt (Kd.R_o HO132.out))) (below_size (by exact bl_g HB.out)))) (am (blk_below (blk_o BK106.out) hb)) (am (blk_below (blk_o BK124.out) hb)) (am (below_step (by exact bl_g HB.out) hb)) ?_; clear HO_8 HO_9 HO128 HO132 BK106 BK124 HB; intro HO_8 HO_9 HO128 HO132 HO136 BK106 BK124 HB; obtain ⟨hcz68_0, hcz68_1, hcz68_2, hcz68_3, hfz68_0, hfz68_1, hfz68_2, hfz68_3⟩ := cells4 BK124.out) | ((with_reducible refine gate_callee (f := 23) rfl ?_); refine goesL_ (some 114) rfl rfl Try.func23 (by kernel_rfl) rfl #[.slice A123_3 ((rd_T46 l1 x65_3).f3).length c123_3] rfl (by simp only [ml]; try rfl) ?_; (with_reducible refine (cfa_Write.calls k3 _ _ ((rd_T46 l1 x65_3).f3) t137 t138 _ ?side1 ?side2 A46.out).mono ?_); (case side1 => exact Kd.C_o (Kd.C_below HR123_3.out HB.out)); (case side2 => exact HC123_3.out); rintro e w69 ⟨v139, rfl, ho0, hb⟩; refine ⟨_, rfl, ?_⟩; refine mv9 (am (Kd.R_elder' (Kd.R_o HO_8.out) (Kd.R_base ho0) hb)) (am (Kd.R_below (Kd.R_o HO_9.out) hb)) (am (Kd.R_elder' (Kd.R_o HO128.out) (Kd.R_base ho0) hb)) (am (Kd.R_elder' (Kd.R_o HO132.out) (Kd.R_base ho0) hb)) (am (Kd.R_elder' (Kd.R_o HO136.out) (Kd.R_base ho0) hb)) (am (Kd.R_lower (Kd.R_new' (Kd.R_new' (Kd.R_new' (Kd.R_new' ho0 (Kd.R_lt (Kd.R_o HO_8.out))) (Kd.R_lt (Kd.R_o HO128.out))) (Kd.R_lt (Kd.R_o HO132.out))) (Kd.R_lt (Kd.R_o HO136.out))) (below_size (by exact bl_g HB.out)))) (am (blk_below (blk_o BK106.out) hb)) (am (blk_below (blk_o BK124.out) hb)) (am (below_step (by exact bl_g HB.out) hb)) ?_; clear HO_8 HO_9 HO128 HO132 HO136 BK106 BK124 HB; intro HO_8 HO_9 HO128 HO132 HO136 HO140 BK106 BK124 HB; obtain ⟨Ao71, co71, eo71⟩ := Kd.R_slice HO132.out; subst eo71) | ((with_reducible refine gate_builtin (b := .append) (xs := #[.tmp 117, .tmp 118]) rfl ?_); at_builtin; refine Kd.R_append_rows (Kd.int .u8) (w0 := w) w.heap.size rfl (.tmp 117) (.tmp 118) 28 5 (.int .u8 0) 1 rfl Try.underlying28 info5 rfl (by decide) (by omega) v127 t126 t129 _ _ _ (fun k_ => some k_ ≠ (.slice Ao58 x8_3.length co58 : Value).ownBlock ∧ some k_ ≠ (.slice Ao71 t129.length co71 : Value).ownBlock ∧ some k_ ≠ (v135 : Value).ownBlock ∧ some k_ ≠ (v139 : Value).ownBlock) (fun _ => False) rfl rfl ?aO ?aR (fun _ _ h => h) (fun _ h => h.elim) ?aF ?aB ?aS ?aL ?_; (case aR => exact Kd.C_o ((Kd.R_reads' HO132.out).2.2)); (case aB => exact (by exact bl_g HB.out)); (case aF => exact (fun k_ hk => ⟨Kd.fresh' (Kd.R_lt (Kd.R_o HO_8.out)) k_ hk, Kd.fresh' (Kd.R_lt (Kd.R_o HO132.out)) k_ hk, Kd.fresh' (Kd.R_lt (Kd.R_o HO136.out)) k_ hk, Kd.fresh' (Kd.R_lt (Kd.R_o HO140.out)) k_ hk⟩)); (case aO => exact (Kd.R_o (Kd.R_mono HO128.out (fun _ hk => ⟨hk.1.1.1.2, ⟨hk.1.1.2, ⟨hk.1.2, hk.2⟩⟩⟩)))); (case aS => exact (below_size (by exact bl_g HB.out))); (case aL => have := LMc47.out; omega); intro v142 w70 ho hb hg hat; rw [← Ny141.out] at ho; refine mv9 (am (Kd.R_after (ok := (fun k_ => some k_ ≠ (.slice Ao71 t129.length co71 : Value).ownBlock ∧ some k_ ≠ (v135 : Value).ownBlock ∧ some k_ ≠ (v139 : Value).ownBlock)) (Kd.R_o (Kd.R_mono HO_8.out (fun _ hk => ⟨⟨hk.1.1.2, ⟨hk.1.2, hk.2⟩⟩, hk.1.1.1.2⟩))) hg hat)) (am (Kd.R_over' (Kd.R_o HO_9.out) (Kd.R_typed (Kd.R_o HO128.out)) (by decide) hg)) (am (blk_grown (g := gb106) (o := .cells #[.int .i64 ((rd_T69 l0 x42_2).f0), .slice A105_1 ((rd_T69 l0 x42_2).f1).length c105_1] 69 (0, 0)) (blk_o BK106.out) hg (Kd.R_ne HO128.out BK106.out (by decide)))) (am (blk_grown (g := gb124) (o := .cells #[.int .i64 ((rd_T46 l1 x65_3).f0), .int .i64 ((rd_T46 l1 x65_3).f1), .int .i64 ((rd_T46 l1 x65_3).f2), .slice A123_3 ((rd_T46 l1 x65_3).f3).length c123_3] 46 (0, 0)) (blk_o BK124.out) hg (Kd.R_ne HO128.out BK124.out (by decide)))) (am (Kd.R_after (ok := (fun k_ => some k_ ≠ (.slice Ao58 x8_3.length co58 : Value).ownBlock ∧ some k_ ≠ (v135 : Value).ownBlock ∧ some k_ ≠ (v139 : Value).ownBlock)) (Kd.R_o (Kd.R_mono HO132.out (fun _ hk => ⟨⟨hk.1.1.1.2, ⟨hk.1.2, hk.2⟩⟩, hk.1.1.2⟩))) hg hat)) (am (Kd.R_after (ok := (fun k_ => some k_ ≠ (.slice Ao58 x8_3.length co58 : Value).ownBlock ∧ some k_ ≠ (.slice Ao71 t129.length co71 : Value).ownBlock ∧ some k_ ≠ (v139 : Value).ownBlock)) (Kd.R_o (Kd.R_mono HO136.out (fun _ hk => ⟨⟨hk.1.1.1.2, ⟨hk.1.2, hk.2⟩⟩, hk.1.1.2⟩))) hg hat)) (am (Kd.R_after (ok := (fun k_ => some k_ ≠ (.slice Ao58 x8_3.length co58 : Value).ownBlock ∧ some k_ ≠ (.slice Ao71 t129.length co71 : Value).ownBlock ∧ some k_ ≠ (v135 : Value).ownBlock)) (Kd.R_o (Kd.R_mono HO140.out (fun _ hk => ⟨⟨hk.1.1.1.2, ⟨hk.1.2, hk.2⟩⟩, hk.1.1.2⟩))) hg hat)) (am (hb)) (am (ho)) ?_; clear HO_8 HO_9 BK106 BK124 HO132 HO136 HO140 HB HO128; intro HO_8 HO_9 BK106 BK124 HO132 HO136 HO140 HB HO143; clear ho hb hg hat; obtain ⟨Ao73, co73, eo73⟩ := Kd.R_slice HO136.out; subst eo73) | ((with_reducible refine gate_builtin (b := .append) (xs := #[.tmp 119, .tmp 120]) rfl ?_); at_builtin; refine Kd.R_append_rows (Kd.int .u8) (w0 := w) w.heap.size rfl (.tmp 119) (.tmp 120) 28 5 (.int .u8 0) 1 rfl Try.underlying28 info5 rfl (by decide) (by omega) v142 y141 t133 _ _ _ (fun k_ => some k_ ≠ (.slice Ao58 x8_3.length co58 : Value).ownBlock ∧ some k_ ≠ (.slice Ao71 t129.length co71 : Value).ownBlock ∧ some k_ ≠ (.slice Ao73 t133.length co73 : Value).ownBlock ∧ some k_ ≠ (v139 : Value).ownBlock) (fun _ => False) rfl rfl ?aO ?aR (fun _ _ h => h) (fun _ h => h.elim) ?aF ?aB ?aS ?aL ?_; (case aR => exact Kd.C_o ((Kd.R_reads' HO136.out).2.2)); (case aB => exact (by exact bl_g HB.out)); (case aF => exact (fun k_ hk => ⟨Kd.fresh' (Kd.R_lt (Kd.R_o HO_8.out)) k_ hk, Kd.fresh' (Kd.R_lt (Kd.R_o HO132.out)) k_ hk, Kd.fresh' (Kd.R_lt (Kd.R_o HO136.out)) k_ hk, Kd.fresh' (Kd.R_lt (Kd.R_o HO140.out)) k_ hk⟩)); (case aO => exact (Kd.R_o HO143.out)); (case aS => exact (below_size (by exact bl_g HB.out))); (case aL => have := LMc48.out; omega); intro v145 w72 ho hb hg hat; rw [← Ny144.out] at ho; refine mv9 (am (Kd.R_after (ok := (fun k_ => some k_ ≠ (.slice Ao71 t129.length co71 : Value).ownBlock ∧ some k_ ≠ (.slice Ao73 t133.length co73 : Value).ownBlock ∧ some k_ ≠ (v139 : Value).ownBlock)) (Kd.R_o HO_8.out) hg hat)) (am (Kd.R_over' (Kd.R_o HO_9.out) (Kd.R_typed (Kd.R_o HO143.out)) (by decide) hg)) (am (blk_grown (g := gb106) (o := .cells #[.int .i64 ((rd_T69 l0 x42_2).f0), .slice A105_1 ((rd_T69 l0 x42_2).f1).length c105_1] 69 (0, 0)) (blk_o BK106.out) hg (Kd.R_ne HO143.out BK106.out (by decide)))) (am (blk_grown (g := gb124) (o := .cells #[.int .i64 ((rd_T46 l1 x65_3).f0), .int .i64 ((rd_T46 l1 x65_3).f1), .int .i64 ((rd_T46 l1 x65_3).f2), .slice A123_3 ((rd_T46 l1 x65_3).f3).length c123_3] 46 (0, 0)) (blk_o BK124.out) hg (Kd.R_ne HO143.out BK124.out (by decide)))) (am (Kd.R_after (ok := (fun k_ => some k_ ≠ (.slice Ao58 x8_3.length co58 : Value).ownBlock ∧ some k_ ≠ (.slice Ao73 t133.length co73 : Value).ownBlock ∧ some k_ ≠ (v139 : Value).ownBlock)) (Kd.R_o HO132.out) hg hat)) (am (Kd.R_after (ok := (fun k_ => some k_ ≠ (.slice Ao58 x8_3.length co58 : Value).ownBlock ∧ some k_ ≠ (.slice Ao71 t129.length co71 : Value).ownBlock ∧ some k_ ≠ (v139 : Value).ownBlock)) (Kd.R_o HO136.out) hg hat)) (am (Kd.R_after (ok := (fun k_ => some k_ ≠ (.slice Ao58 x8_3.length co58 : Value).ownBlock ∧ some k_ ≠ (.slice Ao71 t129.length co71 : Value).ownBlock ∧ some k_ ≠ (.slice Ao73 t133.length co73 : Value).ownBlock)) (Kd.R_o HO140.out) hg hat)) (am (hb)) (am (ho)) ?_; clear HO_8 HO_9 BK106 BK124 HO132 HO136 HO140 HB HO143; intro HO_8 HO_9 BK106 BK124 HO132 HO136 HO140 HB HO146; clear ho hb hg hat) | ((with_reducible refine gate_builtin (b := .append) (xs := #[.tmp 121, .tmp 122]) rfl ?_); at_builtin; refine Kd.R_append (Kd.int .u8) (w0 := w) w.heap.size rfl (.tmp 121) (.tmp 122) 28 5 (.int .u8 0) 1 rfl Try.underlying28 info5 rfl (by decide) (by omega) v145 y144 0 [.int .u8 0] (fun k_ => some k_ ≠ (.slice Ao58 x8_3.length co58 : Value).ownBlock ∧ some k_ ≠ (.slice Ao71 t129.length co71 : Value).ownBlock ∧ some k_ ≠ (.slice Ao73 t133.length co73 : Value).ownBlock ∧ some k_ ≠ (v139 : Value).ownBlock) (fun _ => False) rfl rfl ?aP (fun _ hk => hk.elim) ?aF ?aO ?aB ?aS ?aL ?_; (case aP => exact rfl); (case aB => exact (by exact bl_g HB.out)); (case aF => exact (fun k_ hk => ⟨Kd.fresh' (Kd.R_lt (Kd.R_o HO_8.out)) k_ hk, Kd.fresh' (Kd.R_lt (Kd.R_o HO132.out)) k_ hk, Kd.fresh' (Kd.R_lt (Kd.R_o HO136.out)) k_ hk, Kd.fresh' (Kd.R_lt (Kd.R_o HO140.out)) k_ hk⟩)); (case aO => exact (Kd.R_o HO146.out)); (case aS => exact (below_size (by exact bl_g HB.out))); (case aL => have := LMc49.out; omega); intro v148 w74 ho hb hg hat; rw [← Ny147.out] at ho; refine mv9 (am (Kd.R_after (ok := (fun k_ => some k_ ≠ (.slice Ao71 t129.length co71 : Value).ownBlock ∧ some k_ ≠ (.slice Ao73 t133.length co73 : Value).ownBlock ∧ some k_ ≠ (v139 : Value).ownBlock)) (Kd.R_o HO_8.out) hg hat)) (am (Kd.R_over' (Kd.R_o HO_9.out) (Kd.R_typed (Kd.R_o HO146.out)) (by decide) hg)) (am (blk_grown (g := gb106) (o := .cells #[.int .i64 ((rd_T69 l0 x42_2).f0), .slice A105_1 ((rd_T69 l0 x42_2).f1).length c105_1] 69 (0, 0)) (blk_o BK106.out) hg (Kd.R_ne HO146.out BK106.out (by decide)))) (am (blk_grown (g := gb124) (o := .cells #[.int .i64 ((rd_T46 l1 x65_3).f0), .int .i64 ((rd_T46 l1 x65_3).f1), .int .i64 ((rd_T46 l1 x65_3).f2), .slice A123_3 ((rd_T46 l1 x65_3).f3).length c123_3] 46 (0, 0)) (blk_o BK124.out) hg (Kd.R_ne HO146.out BK124.out (by decide)))) (am (Kd.R_after (ok := (fun k_ => some k_ ≠ (.slice Ao58 x8_3.length co58 : Value).ownBlock ∧ some k_ ≠ (.slice Ao73 t133.length co73 : Value).ownBlock ∧ some k_ ≠ (v139 : Value).ownBlock)) (Kd.R_o HO132.out) hg hat)) (am (Kd.R_after (ok := (fun k_ => some k_ ≠ (.slice Ao58 x8_3.length co58 : Value).ownBlock ∧ some k_ ≠ (.slice Ao71 t129.length co71 : Value).ownBlock ∧ some k_ ≠ (v139 : Value).ownBlock)) (Kd.R_o HO136.out) hg hat)) (am (Kd.R_after (ok := (fun k_ => some k_ ≠ (.slice Ao58 x8_3.length co58 : Value).ownBlock ∧ some k_ ≠ (.slice Ao71 t129.length co71 : Value).ownBlock ∧ some k_ ≠ (.slice Ao73 t133.length co73 : Value).ownBlock)) (Kd.R_o HO140.out) hg hat)) (am (hb)) (am (ho)) ?_; clear HO_8 HO_9 BK106 BK124 HO132 HO136 HO140 HB HO146; intro HO_8 HO_9 BK106 BK124 HO132 HO136 HO140 HB HO149; clear ho hb hg hat; obtain ⟨Ao76, co76, eo76⟩ := Kd.R_slice HO140.out; subst eo76) | ((with_reducible refine gate_builtin (b := .append) (xs := #[.tmp 123, .tmp 124]) rfl ?_); at_builtin; refine Kd.R_append_rows (Kd.int .u8) (w0 := w) w.heap.size rfl (.tmp 123) (.tmp 124) 28 5 (.int .u8 0) 1 rfl Try.underlying28 info5 rfl (by decide) (by omega) v148 y147 t137 _ _ _ (fun k_ => some k_ ≠ (.slice Ao58 x8_3.length co58 : Value).ownBlock ∧ some k_ ≠ (.slice Ao71 t129.length co71 : Value).ownBlock ∧ some k_ ≠ (.slice Ao73 t133.length co73 : Value).ownBlock ∧ some k_ ≠ (.slice Ao76 t137.length co76 : Value).ownBlock) (fun _ => False) rfl rfl ?aO ?aR (fun _ _ h => h) (fun _ h => h.elim) ?aF ?aB ?aS ?aL ?_; (case aR => exact Kd.C_o ((Kd.R_reads' HO140.out).2.2)); (case aB => exact (by exact bl_g HB.out)); (case aF => exact (fun k_ hk => ⟨Kd.fresh' (Kd.R_lt (Kd.R_o HO_8.out)) k_ hk, Kd.fresh' (Kd.R_lt (Kd.R_o HO132.out)) k_ hk, Kd.fresh' (Kd.R_lt (Kd.R_o HO136.out)) k_ hk, Kd.fresh' (Kd.R_lt (Kd.R_o HO140.out)) k_ hk⟩)); (case aO => exact (Kd.R_o HO149.out)); (case aS => exact (below_size (by exact bl_g HB.out))); (case aL => have := LMc50.out; omega); intro v151 w75 ho hb hg hat; rw [← Ny150.out] at ho; refine mv9 (am (Kd.R_after (ok := (fun k_ => some k_ ≠ (.slice Ao71 t129.length co71 : Value).ownBlock ∧ some k_ ≠ (.slice Ao73 t133.length co73 : Value).ownBlock ∧ some k_ ≠ (.slice Ao76 t137.length co76 : Value).ownBlock)) (Kd.R_o HO_8.out) hg hat)) (am (Kd.R_over' (Kd.R_o HO_9.out) (Kd.R_typed (Kd.R_o HO149.out)) (by decide) hg)) (am (blk_grown (g := gb106) (o := .cells #[.int .i64 ((rd_T69 l0 x42_2).f0), .slice A105_1 ((rd_T69 l0 x42_2).f1).length c105_1] 69 (0, 0)) (blk_o BK106.out) hg (Kd.R_ne HO149.out BK106.out (by decide)))) (am (blk_grown (g := gb124) (o := .cells #[.int .i64 ((rd_T46 l1 x65_3).f0), .int .i64 ((rd_T46 l1 x65_3).f1), .int .i64 ((rd_T46 l1 x65_3).f2), .slice A123_3 ((rd_T46 l1 x65_3).f3).length c123_3] 46 (0, 0)) (blk_o BK124.out) hg (Kd.R_ne HO149.out BK124.out (by decide)))) (am (Kd.R_after (ok := (fun k_ => some k_ ≠ (.slice Ao58 x8_3.length co58 : Value).ownBlock ∧ some k_ ≠ (.slice Ao73 t133.length co73 : Value).ownBlock ∧ some k_ ≠ (.slice Ao76 t137.length co76 : Value).ownBlock)) (Kd.R_o HO132.out) hg hat)) (am (Kd.R_after (ok := (fun k_ => some k_ ≠ (.slice Ao58 x8_3.length co58 : Value).ownBlock ∧ some k_ ≠ (.slice Ao71 t129.length co71 : Value).ownBlock ∧ some k_ ≠ (.slice Ao76 t137.length co76 : Value).ownBlock)) (Kd.R_o HO136.out) hg hat)) (am (Kd.R_after (ok := (fun k_ => some k_ ≠ (.slice Ao58 x8_3.length co58 : Value).ownBlock ∧ some k_ ≠ (.slice Ao71 t129.length co71 : Value).ownBlock ∧ some k_ ≠ (.slice Ao73 t133.length co73 : Value).ownBlock)) (Kd.R_o HO140.out) hg hat)) (am (hb)) (am (ho)) ?_; clear HO_8 HO_9 BK106 BK124 HO132 HO136 HO140 HB HO149; intro HO_8 HO_9 BK106 BK124 HO132 HO136 HO140 HB HO152; clear ho hb hg hat; obtain ⟨Ao77, co77, eo77⟩ := Kd.R_slice HO152.out; subst eo77) | ((with_reducible refine gate_callee (f := 24) rfl ?_); refine goesL_ (some 128) rfl rfl Try.func24 (by kernel_rfl) rfl #[.slice Ao77 y150.length co77] rfl (by simp only [ml]; try rfl) ?_; (with_reducible refine (ehframe_record.calls k3 (fun k_ => some k_ = (.slice Ao77 y150.length co77 : Value).ownBlock) (.slice Ao77 y150.length co77) y150 t153 w _ ?side1 ?side2 A51.out).mono ?_); (case side1 => repeat (first | (with_reducible first | exact HB.out | apply below_alloc | apply pw_below_drewN | apply below_drew1 | refine below_set ?_ GE106.out | refine below_set ?_ GE124.out) | exact HB.out)); (case side2 => exact Kd.R_tight rfl HO152.out); rintro e w78 ⟨v154, rfl, ho0, hb, hkp⟩; refine ⟨_, rfl, ?_⟩; refine mv9 (am (Kd.R_mono (ok' := fun k_ => some k_ ≠ (.slice Ao71 t129.length co71 : Value).ownBlock ∧ some k_ ≠ (.slice Ao73 t133.length co73 : Value).ownBlock ∧ some k_ ≠ (.slice Ao76 t137.length co76 : Value).ownBlock ∧ some k_ ≠ (v154 : Value).ownBlock) (Kd.R_keptB (HO_8.out) hkp (fun k_ hk_ hs_ => (hk_.2) hs_)) (fun k_ hk_ => ⟨hk_.1.1.1, hk_.1.1.2.1, hk_.1.1.2.2, fun e_ => Or.elim (ho0.1 k_ e_.symm) (fun hs_ => hk_.2.1 hs_) (fun hn_ => Nat.not_le.2 hk_.2.2 hn_)⟩))) (am (Kd.R_mono (ok' := fun k_ => True) (Kd.R_keptB ((Kd.R_apart' HO_9.out (Kd.R_typed HO152.out) (by decide))) hkp (fun k_ hk_ hs_ => (hk_.2) hs_)) (fun k_ hk_ => trivial))) (am (blk_kept (blk_o BK106.out) hkp (fun hs_ => (fun e_ => (Kd.R_ne HO152.out BK106.out (by decide)) e_) hs_))) (am (blk_kept (blk_o BK124.out) hkp (fun hs_ => (fun e_ => (Kd.R_ne HO152.out BK124.out (by decide)) e_) hs_))) (am (Kd.R_mono (ok' := fun k_ => some k_ ≠ (.slice Ao58 x8_3.length co58 : Value).ownBlock ∧ some k_ ≠ (.slice Ao73 t133.length co73 : Value).ownBlock ∧ some k_ ≠ (.slice Ao76 t137.length co76 : Value).ownBlock ∧ some k_ ≠ (v154 : Value).ownBlock) (Kd.R_keptB (HO132.out) hkp (fun k_ hk_ hs_ => (hk_.2) hs_)) (fun k_ hk_ => ⟨hk_.1.1.1, hk_.1.1.2.1, hk_.1.1.2.2, fun e_ => Or.elim (ho0.1 k_ e_.symm) (fun hs_ => hk_.2.1 hs_) (fun hn_ => Nat.not_le.2 hk_.2.2 hn_)⟩))) (am (Kd.R_mono (ok' := fun k_ => some k_ ≠ (.slice Ao58 x8_3.length co58 : Value).ownBlock ∧ some k_ ≠ (.slice Ao71 t129.length co71 : Value).ownBlock ∧ some k_ ≠ (.slice Ao76 t137.length co76 : Value).ownBlock ∧ some k_ ≠ (v154 : Value).ownBlock) (Kd.R_keptB (HO136.out) hkp (fun k_ hk_ hs_ => (hk_.2) hs_)) (fun k_ hk_ => ⟨hk_.1.1.1, hk_.1.1.2.1, hk_.1.1.2.2, fun e_ => Or.elim (ho0.1 k_ e_.symm) (fun hs_ => hk_.2.1 hs_) (fun hn_ => Nat.not_le.2 hk_.2.2 hn_)⟩))) (am (Kd.R_mono (ok' := fun k_ => some k_ ≠ (.slice Ao58 x8_3.length co58 : Value).ownBlock ∧ some k_ ≠ (.slice Ao71 t129.length co71 : Value).ownBlock ∧ some k_ ≠ (.slice Ao73 t133.length co73 : Value).ownBlock ∧ some k_ ≠ (v154 : Value).ownBlock) (Kd.R_keptB (HO140.out) hkp (fun k_ hk_ hs_ => (hk_.2) hs_)) (fun k_ hk_ => ⟨hk_.1.1.1, hk_.1.1.2.1, hk_.1.1.2.2, fun e_ => Or.elim (ho0.1 k_ e_.symm) (fun hs_ => hk_.2.1 hs_) (fun hn_ => Nat.not_le.2 hk_.2.2 hn_)⟩))) (am (Kd.R_mono (ok' := fun k_ => some k_ ≠ (.slice Ao58 x8_3.length co58 : Value).ownBlock ∧ some k_ ≠ (.slice Ao71 t129.length co71 : Value).ownBlock ∧ some k_ ≠ (.slice Ao73 t133.length co73 : Value).ownBlock ∧ some k_ ≠ (.slice Ao76 t137.length co76 : Value).ownBlock) ho0 (fun k_ hk_ => ⟨Or.elim hk_ (fun hs_ => fun e_ => (((HO_8.out).1 k_ e_.symm).2) hs_) (fun hn_ => (Kd.fresh' (Kd.R_lt (Kd.R_o HO_8.out)) k_ hn_)), Or.elim hk_ (fun hs_ => fun e_ => (((HO132.out).1 k_ e_.symm).2) hs_) (fun hn_ => (Kd.fresh' (Kd.R_lt (Kd.R_o HO132.out)) k_ hn_)), Or.elim hk_ (fun hs_ => fun e_ => (((HO136.out).1 k_ e_.symm).2) hs_) (fun hn_ => (Kd.fresh' (Kd.R_lt (Kd.R_o HO136.out)) k_ hn_)), Or.elim hk_ (fun hs_ => fun e_ => (((HO140.out).1 k_ e_.symm).2) hs_) (fun hn_ => (Kd.fresh' (Kd.R_lt (Kd.R_o HO140.out)) k_ hn_))⟩))) (am (hb)) ?_; clear HO_8 HO_9 BK106 BK124 HO132 HO136 HO140 HB HO152; intro HO_8 HO_9 BK106 BK124 HO132 HO136 HO140 HO155 HB; (try clear hb); (try clear hkp); (try clear ho0); obtain ⟨Ao80, co80, eo80⟩ := Kd.R_slice HO155.out; subst eo80) | ((with_reducible refine gate_builtin (b := .append) (xs := #[.tmp 126, .tmp 128]) rfl ?_); at_builtin; refine Kd.R_append_rows (Kd.int .u8) (w0 := w) w.heap.size rfl (.tmp 126) (.tmp 128) 28 5 (.int .u8 0) 1 rfl Try.underlying28 info5 rfl (by decide) (by omega) (.slice Ao58 x8_3.length co58) x8_3 t153 _ _ _ (fun k_ => some k_ ≠ (.slice Ao71 t129.length co71 : Value).ownBlock ∧ some k_ ≠ (.slice Ao73 t133.length co73 : Value).ownBlock ∧ some k_ ≠ (.slice Ao76 t137.length co76 : Value).ownBlock ∧ some k_ ≠ (.slice Ao80 t153.length co80 : Value).ownBlock) (fun _ => False) rfl rfl ?aO ?aR (fun _ _ h => h) (fun _ h => h.elim) ?aF ?aB ?aS ?aL ?_; (case aR => exact Kd.C_o ((Kd.R_reads' HO155.out).2.2)); (case aB => exact (by exact bl_g HB.out)); (case aF => exact (fun k_ hk => ⟨Kd.fresh' (Kd.R_lt (Kd.R_o HO132.out)) k_ hk, Kd.fresh' (Kd.R_lt (Kd.R_o HO136.out)) k_ hk, Kd.fresh' (Kd.R_lt (Kd.R_o HO140.out)) k_ hk, Kd.fresh' (Kd.R_lt (Kd.R_o HO155.out)) k_ hk⟩)); (case aO => exact (Kd.R_o HO_8.out)); (case aS => exact (below_size (by exact bl_g HB.out))); (case aL => have := LMc52.out; omega); intro v157 w79 ho hb hg hat; rw [← Ny156.out] at ho; refine mv9 (am (Kd.R_over' (Kd.R_o HO_9.out) (Kd.R_typed (Kd.R_o HO_8.out)) (by decide) hg)) (am (blk_grown (g := gb106) (o := .cells #[.int .i64 ((rd_T69 l0 x42_2).f0), .slice A105_1 ((rd_T69 l0 x42_2).f1).length c105_1] 69 (0, 0)) (blk_o BK106.out) hg (Kd.R_ne HO_8.out BK106.out (by decide)))) (am (blk_grown (g := gb124) (o := .cells #[.int .i64 ((rd_T46 l1 x65_3).f0), .int .i64 ((rd_T46 l1 x65_3).f1), .int .i64 ((rd_T46 l1 x65_3).f2), .slice A123_3 ((rd_T46 l1 x65_3).f3).length c123_3] 46 (0, 0)) (blk_o BK124.out) hg (Kd.R_ne HO_8.out BK124.out (by decide)))) (am (Kd.R_after (ok := (fun k_ => some k_ ≠ (.slice Ao73 t133.length co73 : Value).ownBlock ∧ some k_ ≠ (.slice Ao76 t137.length co76 : Value).ownBlock ∧ some k_ ≠ (.slice Ao80 t153.length co80 : Value).ownBlock)) (Kd.R_o (Kd.R_mono HO132.out (fun _ hk => ⟨⟨hk.2.1, ⟨hk.2.2.1, hk.2.2.2⟩⟩, hk.1⟩))) hg hat)) (am (Kd.R_after (ok := (fun k_ => some k_ ≠ (.slice Ao71 t129.length co71 : Value).ownBlock ∧ some k_ ≠ (.slice Ao76 t137.length co76 : Value).ownBlock ∧ some k_ ≠ (.slice Ao80 t153.length co80 : Value).ownBlock)) (Kd.R_o (Kd.R_mono HO136.out (fun _ hk => ⟨⟨hk.2.1, ⟨hk.2.2.1, hk.2.2.2⟩⟩, hk.1⟩))) hg hat)) (am (Kd.R_after (ok := (fun k_ => some k_ ≠ (.slice Ao71 t129.length co71 : Value).ownBlock ∧ some k_ ≠ (.slice Ao73 t133.length co73 : Value).ownBlock ∧ some k_ ≠ (.slice Ao80 t153.length co80 : Value).ownBlock)) (Kd.R_o (Kd.R_mono HO140.out (fun _ hk => ⟨⟨hk.2.1, ⟨hk.2.2.1, hk.2.2.2⟩⟩, hk.1⟩))) hg hat)) (am (Kd.R_after (ok := (fun k_ => some k_ ≠ (.slice Ao71 t129.length co71 : Value).ownBlock ∧ some k_ ≠ (.slice Ao73 t133.length co73 : Value).ownBlock ∧ some k_ ≠ (.slice Ao76 t137.length co76 : Value).ownBlock)) (Kd.R_o (Kd.R_mono HO155.out (fun _ hk => ⟨⟨hk.2.1, ⟨hk.2.2.1, hk.2.2.2⟩⟩, hk.1⟩))) hg hat)) (am (hb)) (am (ho)) ?_; clear HO_9 BK106 BK124 HO132 HO136 HO140 HO155 HB HO_8; intro HO_9 BK106 BK124 HO132 HO136 HO140 HO155 HB HO158; clear ho hb hg hat))
       go_roundg k3
       case measure => have := HJ6.out; have := HK2.out; have := HK3.out; omega
       case rel => exact ⟨(y156), (y125), (wrap64 (x65_3 + 1)), (by first | rfl | (simp; done) | (simp [*]; done)), H', ⟨by have := HJ6.out; have := HK2.out; have := HK3.out; omega⟩, ⟨by (with_reducible repeat (first | apply Kd.R_alloc | apply Kd.R_drewN | apply Kd.R_drew)); exact Kd.R_mono HO158.out (fun _ hk => trivial)⟩, ⟨by (with_reducible repeat (first | apply Kd.R_alloc | apply Kd.R_drewN | apply Kd.R_drew)); exact HO_9.out⟩, ⟨by (with_reducible repeat (first | refine blk_drewN ?_ _ | refine blk_drew ?_ | refine blk_alloc ?_ _)); exact BK106.out⟩, ⟨by exact bl_g HB.out⟩⟩
def gangwaylaw14_num.f (a0 : Int) : Option (Int) := some a0
set_option maxHeartbeats 8000000 in
theorem gangwaylaw14_num.calls (a0 : Int) (r : Int) (w : World) (h : gangwaylaw14_num.f a0 = some r) :
    Calls Try.prog 11 #[.int .i64 a0] w fun e w' => e = .returned (.int .i64 r) ∧ Drawn0 w w' := by
 have H : (some a0) = some r := h
 clear h
 obtain rfl := Option.some.inj H
 go_enter Try.func11, Try.ntmps11
 go_wp2
 go_ret
 exact ⟨by first | rfl | (simp; done) | (simp [*]; done), by repeat (first | exact Drawn0.refl _ | apply Drawn0.step)⟩
def cfa_Usual.f  : Option ((List (S105))) := some (([(⟨2, 7, 8⟩ : S105), (⟨5, 16, (-8)⟩ : S105)] : List (S105)))
set_option maxHeartbeats 8000000 in
theorem cfa_Usual.calls  (r : List (S105)) (w : World) (h : cfa_Usual.f  = some r) :
    Calls Try.prog 36 #[] w fun e w' => ∃ v0_ : Value, e = .returned (v0_) ∧ Kd.R k105 105 w' w.heap.size (fun _ => True) v0_ r ∧ Below w.heap.size w w' := by
 have hu105 := Try.underlying105
 have HB := am (Below.refl w.heap.size w)
 have H : (some (([(⟨2, 7, 8⟩ : S105), (⟨5, 16, (-8)⟩ : S105)] : List (S105)))) = some r := h
 clear h
 obtain ⟨y101, hy101⟩ : ∃ y_ : List (S105), y_ = (([(⟨2, 7, 8⟩ : S105), (⟨5, 16, (-8)⟩ : S105)] : List (S105))) := ⟨_, rfl⟩
 replace H : (some y101) = some r := by first | (rw [hy101]; with_reducible exact H) | (have H2_ := (Option.bind_some _ _).symm.trans H; rw [hy101]; with_reducible exact H2_)
 have Ny101 := am hy101
 clear hy101
 obtain rfl := Option.some.inj H
 go_enter Try.func36, Try.ntmps36
 go_wp2_with (first | ((with_reducible refine gate_dst (N := 3) rfl ?_); refine Kd.R_lit k105 _ 105 ?hg (N := 3) ?hd (xs := ([(⟨2, 7, 8⟩ : S105), (⟨5, 16, (-8)⟩ : S105)] : List (S105))) (inner := [.int .i64 2, .int .i64 7, .int .i64 8, .int .i64 5, .int .i64 16, .int .i64 (-8)]) (ok := fun _ => True) (okp := fun _ => True) ?hr ?hp (fun _ hk => hk) trivial (Below.refl _ _) (Nat.le_refl _) (by simp) ?_; (case hd => rfl); (case hg => rfl); (case hr => go_simp; try rfl); (case hp => exact (Reps.c3 (show Kd.M k105 _ _ _ (⟨2, 7, 8⟩ : S105) [.int .i64 2, .int .i64 7, .int .i64 8] from (k105_mkM _ _ _ (⟨2, 7, 8⟩ : S105) )) (Reps.c3 (show Kd.M k105 _ _ _ (⟨5, 16, (-8)⟩ : S105) [.int .i64 5, .int .i64 16, .int .i64 (-8)] from (k105_mkM _ _ _ (⟨5, 16, (-8)⟩ : S105) )) (Reps.none _ _)))); intro v102 w1 ho2 hb hg_ hnew_; clear hg_ hnew_; (first | rw [← Ny101.out] at ho2 | (simp only [Int.reduceToNat] at ho2; rw [← Ny101.out] at ho2)); refine mv2 (am (Kd.R_lower ho2 (below_size (by exact bl_o HB.out)))) (am (below_step (by exact bl_o HB.out) hb)) ?_; clear HB; intro HO103 HB; clear hb ho2))
 go_ret
 exact ⟨_, rfl, by (with_reducible repeat (first | apply Kd.R_alloc | apply Kd.R_drewN | apply Kd.R_drew)); exact HO103.out, by exact bl_g HB.out⟩
def gangwaylaw14_live.f (k : Nat)  : Option (Bool) := (ehframe_Put.f k 27 4096 4100 0).bind fun bt101 => ((cfa_Usual.f).bind fun t105 => ((ehframe_Write.f k (([(⟨27, t105⟩ : S69)] : List (S69))) ([] : List (S46)) 0 false).bind fun bt111 => ((gangwaylaw14_num.f bt101.2).bind fun t118 => ((gangwaylaw14_num.f bt111.2.2).bind fun t119 => (if (wrap64 (t118 + t119)) = 0 then (if (strOfNums bt101.1).toList = ([252, 255, 255, 255] : List UInt8) then (if (bt111.1.length : Int) = 24 then (if 16 < (bt111.1.length : Int) then (some ((rd bt111.1 16) == 27)) else (none)) else (none)) else (none)) else (none))))))
theorem gangwaylaw14_live.mono : ∀ k, LeO (gangwaylaw14_live.f k ) (gangwaylaw14_live.f (k + 1) ) := by
 intro  k
 unfold gangwaylaw14_live.f
 repeat' first
     | (with_reducible exact ehframe_Put.mono _ _ _ _ _)
     | (with_reducible exact ehframe_Write.mono _ _ _ _ _)
     | (with_reducible exact LeO.refl _)
     | (with_reducible exact LeO.none _)
     | (with_reducible refine LeO.ite ?_ ?_)
     | (with_reducible refine LeO.bind ?_ (fun _ => ?_))
     | exact ehframe_Put.mono _ _ _ _ _
     | exact ehframe_Write.mono _ _ _ _ _
     | exact LeO.none _
     | refine LeO.ite ?_ ?_
     | refine LeO.bind ?_ (fun _ => ?_)
set_option maxHeartbeats 8000000 in
theorem gangwaylaw14_live.calls (k : Nat)  (r : Bool) (w : World) (h : gangwaylaw14_live.f k  = some r) :
    Calls Try.prog 15 #[] w fun e w' => e = .returned (.bool r) ∧ Below w.heap.size w w' := by
 have hu69 := Try.underlying69
 have HB := am (Below.refl w.heap.size w)
 have H : ((ehframe_Put.f k 27 4096 4100 0).bind fun bt101 => ((cfa_Usual.f).bind fun t105 => ((ehframe_Write.f k (([(⟨27, t105⟩ : S69)] : List (S69))) ([] : List (S46)) 0 false).bind fun bt111 => ((gangwaylaw14_num.f bt101.2).bind fun t118 => ((gangwaylaw14_num.f bt111.2.2).bind fun t119 => (if (wrap64 (t118 + t119)) = 0 then (if (strOfNums bt101.1).toList = ([252, 255, 255, 255] : List UInt8) then (if (bt111.1.length : Int) = 24 then (if 16 < (bt111.1.length : Int) then (some ((rd bt111.1 16) == 27)) else (none)) else (none)) else (none)) else (none))))))) = some r := h
 clear h
 replace H := Option.bind_eq_some_iff.mp H
 obtain ⟨⟨t101, t102⟩, A10, H⟩ := H
 replace H : ((cfa_Usual.f).bind fun t105 => ((ehframe_Write.f k (([(⟨27, t105⟩ : S69)] : List (S69))) ([] : List (S46)) 0 false).bind fun bt111 => ((gangwaylaw14_num.f t102).bind fun t118 => ((gangwaylaw14_num.f bt111.2.2).bind fun t119 => (if (wrap64 (t118 + t119)) = 0 then (if (strOfNums t101).toList = ([252, 255, 255, 255] : List UInt8) then (if (bt111.1.length : Int) = 24 then (if 16 < (bt111.1.length : Int) then (some ((rd bt111.1 16) == 27)) else (none)) else (none)) else (none)) else (none)))))) = some r := H
 have A1 := am A10
 clear A10
 replace H := Option.bind_eq_some_iff.mp H
 obtain ⟨t105, A20, H⟩ := H
 replace H : ((ehframe_Write.f k (([(⟨27, t105⟩ : S69)] : List (S69))) ([] : List (S46)) 0 false).bind fun bt111 => ((gangwaylaw14_num.f t102).bind fun t118 => ((gangwaylaw14_num.f bt111.2.2).bind fun t119 => (if (wrap64 (t118 + t119)) = 0 then (if (strOfNums t101).toList = ([252, 255, 255, 255] : List UInt8) then (if (bt111.1.length : Int) = 24 then (if 16 < (bt111.1.length : Int) then (some ((rd bt111.1 16) == 27)) else (none)) else (none)) else (none)) else (none))))) = some r := H
 have A2 := am A20
 clear A20
 obtain ⟨y108, hy108⟩ : ∃ y_ : List (S69), y_ = (([(⟨27, t105⟩ : S69)] : List (S69))) := ⟨_, rfl⟩
 replace H : ((ehframe_Write.f k y108 ([] : List (S46)) 0 false).bind fun bt111 => ((gangwaylaw14_num.f t102).bind fun t118 => ((gangwaylaw14_num.f bt111.2.2).bind fun t119 => (if (wrap64 (t118 + t119)) = 0 then (if (strOfNums t101).toList = ([252, 255, 255, 255] : List UInt8) then (if (bt111.1.length : Int) = 24 then (if 16 < (bt111.1.length : Int) then (some ((rd bt111.1 16) == 27)) else (none)) else (none)) else (none)) else (none))))) = some r := by first | (rw [hy108]; with_reducible exact H) | (have H2_ := (Option.bind_some _ _).symm.trans H; rw [hy108]; with_reducible exact H2_)
 have Ny108 := am hy108
 clear hy108
 replace H := Option.bind_eq_some_iff.mp H
 obtain ⟨⟨t111, t112, t113⟩, A30, H⟩ := H
 replace H : ((gangwaylaw14_num.f t102).bind fun t118 => ((gangwaylaw14_num.f t113).bind fun t119 => (if (wrap64 (t118 + t119)) = 0 then (if (strOfNums t101).toList = ([252, 255, 255, 255] : List UInt8) then (if (t111.length : Int) = 24 then (if 16 < (t111.length : Int) then (some ((rd t111 16) == 27)) else (none)) else (none)) else (none)) else (none)))) = some r := H
 have A3 := am A30
 clear A30
 replace H := Option.bind_eq_some_iff.mp H
 obtain ⟨t118, A40, H⟩ := H
 replace H : ((gangwaylaw14_num.f t113).bind fun t119 => (if (wrap64 (t118 + t119)) = 0 then (if (strOfNums t101).toList = ([252, 255, 255, 255] : List UInt8) then (if (t111.length : Int) = 24 then (if 16 < (t111.length : Int) then (some ((rd t111 16) == 27)) else (none)) else (none)) else (none)) else (none))) = some r := H
 have A4 := am A40
 clear A40
 replace H := Option.bind_eq_some_iff.mp H
 obtain ⟨t119, A50, H⟩ := H
 replace H : (if (wrap64 (t118 + t119)) = 0 then (if (strOfNums t101).toList = ([252, 255, 255, 255] : List UInt8) then (if (t111.length : Int) = 24 then (if 16 < (t111.length : Int) then (some ((rd t111 16) == 27)) else (none)) else (none)) else (none)) else (none)) = some r := H
 have A5 := am A50
 clear A50
 by_cases c6 : (wrap64 (t118 + t119)) = 0
 rotate_left
 ·
  rw [if_neg c6] at H
  exact absurd H (by simp)
 rw [if_pos c6] at H
 have c6b0 : ((wrap64 (t118 + t119)) == 0) = true := beq_iff_eq.mpr c6
 have c6b1 : ((wrap64 (t118 + t119)) != 0) = false := bne_eq_false_iff_eq.mpr c6
 clear c6
 by_cases c7 : (strOfNums t101).toList = ([252, 255, 255, 255] : List UInt8)
 rotate_left
 ·
  rw [if_neg c7] at H
  exact absurd H (by simp)
 rw [if_pos c7] at H
 have c7b0 : ((strOfNums t101).toList == ([252, 255, 255, 255] : List UInt8)) = true := beq_iff_eq.mpr c7
 have c7b1 : ((strOfNums t101).toList != ([252, 255, 255, 255] : List UInt8)) = false := bne_eq_false_iff_eq.mpr c7
 clear c7
 by_cases c8 : (t111.length : Int) = 24
 rotate_left
 ·
  rw [if_neg c8] at H
  exact absurd H (by simp)
 rw [if_pos c8] at H
 have c8b0 : ((t111.length : Int) == 24) = true := beq_iff_eq.mpr c8
 have c8b1 : ((t111.length : Int) != 24) = false := bne_eq_false_iff_eq.mpr c8
 clear c8
 by_cases c9 : 16 < (t111.length : Int)
 rotate_left
 ·
  rw [if_neg c9] at H
  exact absurd H (by simp)
 rw [if_pos c9] at H
 have c9b0 : decide (16 < (t111.length : Int)) = true := decide_eq_true c9
 have c9b1 : decide (16 < t111.length) = true := decide_eq_true (by omega)
 clear c9
 obtain rfl := Option.some.inj H
 go_enter Try.func15, Try.ntmps15
 go_wp2_with (first | ((with_reducible refine gate_callee (f := 16) rfl ?_); refine goesL_ (some 7) rfl rfl Try.func16 (by kernel_rfl) rfl #[.int .i64 27, .int .i64 4096, .int .i64 4100, .int .i64 0] rfl (by simp only [ml]; try rfl) ?_; (with_reducible refine (ehframe_Put.calls k 27 4096 4100 0 t101 t102 _ A1.out).mono ?_); rintro e w10 ⟨v103, rfl, ho0, hb⟩; refine ⟨_, rfl, ?_⟩; refine mv2 (am (Kd.R_lower ho0 (below_size (by exact bl_o HB.out)))) (am (below_step (by exact bl_o HB.out) hb)) ?_; clear HB; intro HO104 HB) | ((with_reducible refine gate_callee (f := 36) rfl ?_); refine goesL_ (some 11) rfl rfl Try.func36 (by kernel_rfl) rfl #[] rfl (by simp only [ml]; try rfl) ?_; (with_reducible refine (cfa_Usual.calls  t105 _ A2.out).mono ?_); rintro e w11 ⟨v106, rfl, ho0, hb⟩; refine ⟨_, rfl, ?_⟩; refine mv3 (am (Kd.R_below (Kd.R_o HO104.out) hb)) (am (Kd.R_lower ho0 (below_size (by exact bl_o HB.out)))) (am (below_step (by exact bl_o HB.out) hb)) ?_; clear HO104 HB; intro HO104 HO107 HB; obtain ⟨Ao12, co12, eo12⟩ := Kd.R_slice HO107.out; subst eo12) | ((with_reducible refine gate_dst (N := 13) rfl ?_); (try (refine gate_guard (by rfl) ?_; dsimp only)); refine Kd.N_lit k69 _ 69 ?hg (N' := 13) ?hd (xs := ([(⟨27, t105⟩ : S69)] : List (S69))) (inner := [.int .i64 27, .slice Ao12 t105.length co12]) (ok := (fun k_ => some k_ ≠ (v103 : Value).ownBlock)) (okp := (fun k_ => some k_ ≠ (v103 : Value).ownBlock)) ?hr ?hp (fun _ hk => hk) ((show ∀ k_, w11.heap.size ≤ k_ → (fun k_ => some k_ ≠ (v103 : Value).ownBlock) k_ from fun k_ hk => Kd.fresh' (Kd.R_lt (Kd.R_o HO104.out)) k_ hk) _ (Nat.le_refl _)) (Below.refl _ _) (Nat.le_refl _) (by simp) ?_; (case hd => rfl); (case hg => rfl); (case hr => go_simp; try rfl); (case hp => exact (Reps.c2 (show Kd.FK k69 _ _ (⟨27, t105⟩ : S69) [.int .i64 27, .slice Ao12 t105.length co12] from (k69_mkF _ _ (⟨27, t105⟩ : S69) (Kd.R_reads' (Kd.R_mono (ok' := (fun k_ => some k_ ≠ (v103 : Value).ownBlock)) (Kd.R_apart' (HO107.out) (Kd.R_typed HO104.out) (by decide)) (fun k_ hk => hk.2))).2.1 (Kd.R_F (Kd.R_mono (ok' := (fun k_ => some k_ ≠ (v103 : Value).ownBlock)) (Kd.R_apart' (HO107.out) (Kd.R_typed HO104.out) (by decide)) (fun k_ hk => hk.2))))) (Reps.none _ _))); intro v109 w13 ho14 hb hg_ hnew_; clear hg_ hnew_; (first | rw [← Ny108.out] at ho14 | (simp only [Int.reduceToNat] at ho14; rw [← Ny108.out] at ho14)); refine mv3 (am (Kd.R_below (Kd.R_o HO104.out) hb)) (am (Kd.N_lower ho14 (below_size (by exact bl_o HB.out)))) (am (below_step (by exact bl_o HB.out) hb)) ?_; clear HO104 HB HO107; intro HO104 HO110 HB; clear hb ho14; obtain ⟨Ao15, co15, eo15⟩ := Kd.N_slice HO110.out; subst eo15) | ((with_reducible refine gate_callee (f := 9) rfl ?_); refine goesL_ (some 14) rfl rfl Try.func9 (by kernel_rfl) rfl #[.slice Ao15 y108.length co15, .slice none 0 0, .int .i64 0, .bool false] rfl (by simp only [ml]; try rfl) ?_; (refine (ehframe_Write.calls k _ _ y108 _ _ ([] : List (S46)) 0 false t111 t112 t113 _ ?side1 ?side2 ?side3 ?side4 A3.out).mono ?_); (case side1 => exact Kd.C_o ((Kd.N_reads' HO110.out).2.2)); (case side2 => exact (Kd.N_reads' HO110.out).2.1); (case side3 => exact Kd.C_nil _ _); (case side4 => exact Nat.le_refl _); rintro e w16 ⟨v114, v116, rfl, ho0, ho1, hb⟩; refine ⟨_, rfl, ?_⟩; refine mv5 (am (Kd.R_elder' (Kd.R_o HO104.out) (Kd.R_base ho0) hb)) (am (Kd.N_mono (Kd.N_told (Kd.N_told (Kd.N_old (by (with_reducible repeat (first | apply Kd.N_alloc | apply Kd.N_drewN | apply Kd.N_drew)); exact HO110.out) hb) (Kd.R_base ho0)) (Kd.R_base ho1)) (fun _ h_ => h_.1))) (am (Kd.R_lower (Kd.R_new' ho0 (Kd.R_lt (Kd.R_o HO104.out))) (below_size (by exact bl_o HB.out)))) (am (Kd.R_lower ho1 (below_size (by exact bl_o HB.out)))) (am (below_step (by exact bl_o HB.out) hb)) ?_; clear HO104 HO110 HB; intro HO104 HO110 HO115 HO117 HB; (try clear ho1)) | ((with_reducible refine gate_callee (f := 11) rfl ?_); refine goesL_ (some 19) rfl rfl Try.func11 (by kernel_rfl) rfl #[.int .i64 t102] rfl (by simp only [ml]; try rfl) ?_; (with_reducible refine (gangwaylaw14_num.calls t102 t118 _ A4.out).mono ?_); rintro e w' ⟨rfl, ⟨nd, rfl⟩⟩; refine ⟨_, rfl, ?_⟩) | ((with_reducible refine gate_callee (f := 11) rfl ?_); refine goesL_ (some 21) rfl rfl Try.func11 (by kernel_rfl) rfl #[.int .i64 t113] rfl (by simp only [ml]; try rfl) ?_; (with_reducible refine (gangwaylaw14_num.calls t113 t119 _ A5.out).mono ?_); rintro e w' ⟨rfl, ⟨nd, rfl⟩⟩; refine ⟨_, rfl, ?_⟩; have hcv17 := own_string (P := Try.prog) Try.underlying28 Try.underlying5 Try.underlying9 (Kd.own_of_R HO104.out); have hcv18 := fun (m_ : Nat) => own_string (P := Try.prog) Try.underlying28 Try.underlying5 Try.underlying9 (Kd.own_of_R (Kd.R_drewN HO104.out m_)); obtain ⟨Ao19, co19, eo19⟩ := Kd.R_slice HO115.out; subst eo19; have p120 : 0 ≤ (16 : Int) := (by omega); have q120 : 16 < (t111.length : Int) := od; obtain ⟨ad120, e120, hx120_0⟩ := Kd.at_int (Kd.R_reads' HO115.out).2.2 16 p120 q120; cases e120; (try simp only [show (16 : Int).toNat = 16 from rfl, Nat.reduceMul, Nat.reduceEqDiff, Go.Addr.add, ↓reduceIte] at hx120_0); have qi120 : (16 < t111.length) = True := eq_true (by omega); (try rw [show ((16 : Int)).toNat = 16 from rfl] at hx120_0); replace p120 := eq_true p120; replace q120 := eq_true q120))
 go_ret
 exact ⟨rfl, by exact bl_g HB.out⟩
end Go.Proofs.Ytfgfnflhdabmcaa.G
end
section
namespace Go.Proofs.Ytfgfnflhdabmcaa.Own
open Go.ChangeMaps Go.MapKept Go.WideShapes
open Go.Maps (Keyed IsMap)
theorem wf64 {a : Int} (h0 : 0 ≤ a) (h1 : a ≤ 9223372036854775807) : (Lit.int .i64 a).wf = true := by
  simp [Lit.wf, IntKind.min, IntKind.max, IntKind.signed, IntKind.bits]
  omega
/-- block b is a map of at most n entries that answers as f -/
def MapF (P : Program) (k e : TypeId) (w : World) (b n : Nat) (f : Lit → Option Int) : Prop :=
  ∃ D : DataW Unit, w.ownsMap P k (plainElem P e) b n D ∧ (∀ kl, Maps.has D kl = (f kl).isSome) ∧ ∀ kl c, f kl = some c → ∀ z, D.atKey kl z = .lit (.int .i64 c)
open Classical in
/-- one entry more, or another -/
noncomputable def putF (f : Lit → Option Int) (k : Lit) (c : Int) : Lit → Option Int := fun k' => if k' = k then some c else f k'
theorem MapF.made (P : Program) (k e : TypeId) (w : World) : MapF P k e (w.alloc (.map #[] 0)) w.heap.size 0 (fun _ => none) :=
  ⟨.map [], World.ownsMap_made w P k _, fun _ => rfl, fun _ _ h => by cases h⟩
theorem MapF.mono {P : Program} {k e : TypeId} {w : World} {b n n' : Nat} {f : Lit → Option Int} (h : MapF P k e w b n f) (hn : n ≤ n') : MapF P k e w b n' f := by
  obtain ⟨D, h1, h2⟩ := h
  exact ⟨D, h1.mono hn, h2⟩
theorem MapF.kept {P : Program} {k e : TypeId} {w w' : World} {b n : Nat} {f : Lit → Option Int} {row : Option Nat} (h : MapF P k e w b n f) (hg : w.grownBy w' row) (hne : some b ≠ row) : MapF P k e w' b n f := by
  obtain ⟨D, h1, h2⟩ := h
  exact ⟨D, h1.kept hg hne, h2⟩
theorem MapF.drewN {P : Program} {k e : TypeId} {w : World} {b n : Nat} {f : Lit → Option Int} (h : MapF P k e w b n f) (m : Nat) : MapF P k e (w.drewN m) b n f := by
  obtain ⟨D, h1, h2⟩ := h
  exact ⟨D, h1, h2⟩
theorem MapF.look_ok {P : Program} {t k e : TypeId} {w : World} {b n : Nat} {f : Lit → Option Int} (h : MapF P k e w b n f) (K : Keyed P k) (ht : P.underlying t = some (.map k e)) (he : P.underlying e = some (.int .i64))
    (hz : (zeroValue e).run P w = .ok (.int .i64 0) w) {key : Value} {kl : Lit} (hkey : keyOf P k key = some kl) :
    (Instr.lookup t (.map (some b)) key true).run P w = .ok (.tuple #[.int .i64 ((f kl).getD 0), .bool (f kl).isSome]) w := by
  obtain ⟨D, h1, h2, h3⟩ := h
  obtain ⟨v, ps, hrun, hv⟩ := h1.look_ok K ht hz (plainElem_int he (by decide)) hkey
  obtain ⟨c, rfl, hc, hwc⟩ := plainElem_int_inv he hv
  rw [hrun, h2 kl]
  have hc1 := congrArg Prod.fst hc
  simp only at hc1
  cases hf : f kl with
  | none =>
    have hh : Maps.has D kl = false := by rw [h2, hf]; rfl
    rw [Maps.atKey_of_not_has hh] at hc1
    cases hc1
    rfl
  | some c' =>
    rw [h3 kl c' hf] at hc1
    cases hc1
    rfl
theorem MapF.put {P : Program} {t k e : TypeId} {w : World} {b n : Nat} {f : Lit → Option Int} (h : MapF P k e w b n f) (K : Keyed P k) (ht : P.underlying t = some (.map k e)) (he : P.underlying e = some (.int .i64)) (hn : n < maxLen)
    {key : Value} {kl : Lit} (hkey : keyOf P k key = some kl) {c : Int} (hc : (Lit.int .i64 c).wf = true) :
    ∃ w', (Instr.mapUpdate t (.map (some b)) key (.int .i64 c)).run P w = .ok () w' ∧ MapF P k e w' b (n + 1) (putF f kl c) ∧ w.grownBy w' (some b) := by
  obtain ⟨D, h1, h2, h3⟩ := h
  obtain ⟨w', hrun, hown, hg⟩ := h1.update K ht hn hkey (plainElem_int he hc)
  refine ⟨w', hrun, ⟨_, hown, fun kl' => ?_, fun kl' c' hf z => ?_⟩, hg⟩
  · unfold putF
    by_cases e1 : kl' = kl
    · subst e1
      rw [if_pos rfl, Maps.has_put_same h1.isMap (K.key hkey)]
      rfl
    · rw [if_neg e1, Maps.has_put_other e1, h2]
  · unfold putF at hf
    by_cases e1 : kl' = kl
    · subst e1
      rw [if_pos rfl] at hf
      cases hf
      exact Maps.atKey_put_same h1.isMap (K.key hkey) _ _
    · rw [if_neg e1] at hf
      rw [Maps.atKey_put_other e1, h3 _ _ hf]
theorem MapF.over {P : Program} {k e : TypeId} {w w1 : World} {b n : Nat} {f : Lit → Option Int} {v : Value} {e' : TypeId} (h : MapF P k e w b n f) (hty : ∀ j, v.ownBlock = some j → ∃ cells, w.heap[j]? = some (.cells cells e' (0, 0))) (hg : w.grownBy w1 v.ownBlock) : MapF P k e w1 b n f := by
  refine h.kept hg fun he => ?_
  obtain ⟨D, ⟨es, clock, hb, _⟩, _⟩ := h
  obtain ⟨cells, hc⟩ := hty b he.symm
  rw [hb] at hc
  cases hc
theorem R_overMap {P : Program} {k e : TypeId} {W w1 : World} {b n : Nat} {f : Lit → Option Int} {α : Type} {d : Go.Proofs.YtfgfnflhdabmcaaW.PrintWords.Kd α} {t base : Nat} {ok : Nat → Prop} {u : Value} {xs : List α} (hR : d.R t W base ok u xs) (h : MapF P k e W b n f) (hg : W.grownBy w1 (some b)) : d.R t w1 base ok u xs := by
  refine Go.Proofs.YtfgfnflhdabmcaaW.PrintWords.Kd.R_mono (Go.Proofs.YtfgfnflhdabmcaaW.PrintWords.Kd.R_move (Go.Proofs.YtfgfnflhdabmcaaW.PrintWords.Kd.R_bound hR) (fun j hj => hg.block j hj.2.2.1 (fun he => ?_))) (fun _ hj => hj.1)
  obtain ⟨_, _, _, q, hq, cells, hc⟩ := hj
  obtain ⟨D, ⟨es, clock, hb, _⟩, _⟩ := h
  cases he
  rw [hb] at hc
  cases hc
/-- at the operation, for the walk -/
theorem wp_put {P : Program} (w : World) {ops : Array Oper} {rest : List Oper} {o : Oper} {a : Act} {Q : Exit → Act → World → Prop}
    (hg : o.guard = none) (m x v : Operand) (t : TypeId) (hop : o.op = Op.mapUpdate t m x v ∨ o.op = Op.insert t m x v)
    (k e : TypeId) (K : Keyed P k) (ht : P.underlying t = some (.map k e)) (he : P.underlying e = some (.int .i64)) (b n : Nat) (f : Lit → Option Int)
    (hm : a.eval m = .map (some b)) (hown : MapF P k e w b n f) (hn : n < maxLen) (key : Value) (kl : Lit) (c : Int) (hx : a.eval x = key) (hv : a.eval v = .int .i64 c) (hkey : keyOf P k key = some kl) (hc : (Lit.int .i64 c).wf = true)
    (hK : ∀ w', MapF P k e w' b (n + 1) (putF f kl c) → w.grownBy w' (some b) → wpList P ops Q rest (a.put o.dst undef) w') :
    wpList P ops Q (o :: rest) a w := by
  refine wpList_plain hg fun K' hK' => ?_
  obtain ⟨w', hrun, r1, r2⟩ := hown.put K ht he hn hkey hc
  unfold Oper.wp
  rcases hop with hop | hop <;>
  · simp [execOp, hop, hm, hx, hv, hrun, Result.andThen]
    exact hK' _ _ (hK w' r1 r2)
end Go.Proofs.Ytfgfnflhdabmcaa.Own
end
section
namespace Go.Proofs.Ytfgfnflhdabmcaa.G
open Go.RowKit Go.Proofs.YtfgfnflhdabmcaaW.PrintWords Go.Proofs.YtfgfnflhdabmcaaW.PrintLast Go.Proofs.YtfgfnflhdabmcaaW.PrintMore
attribute [local go_sem] max2_int min2_int max_two min_two max_three min_three max_four min_four
def leb_joined.l0 : Nat → Int → List Int → Int → Int → Option (Int)
  | 0, _, _, _, _ => none
  | k + 1, x3, x6, x7, x8 => if x8 < x7 then (if 0 ≤ x8 then (if x8 < (x6.length : Int) then (if 0 ≤ (wrap64 (7 * x8)) then (leb_joined.l0 k (Go.bits .or .u64 x3 (shl .u64 (IntKind.u64.wrap (Go.bits .and .u8 (rd x6 x8) 127)) (wrap64 (7 * x8)))) x6 x7 (wrap64 (x8 + 1))) else (none)) else (none)) else (none)) else (some x3)
def leb_joined.f (k : Nat) (l0 : List Int) : Option (Int) := leb_joined.l0 k 0 l0 (l0.length : Int) 0
set_option maxHeartbeats 8000000 in
theorem leb_joined.calls (k : Nat) (A0 : Option Addr) (c0 : Nat) (l0 : List Int) (r : Int) (w : World) (hr0 : Kd.C (Kd.int .u8) w A0 l0.length l0) (hc0 : l0.length ≤ c0) (h : leb_joined.f k l0 = some r) :
    Calls Try.prog 70 #[.slice A0 l0.length c0] w fun e w' => e = .returned (.int .u64 r) ∧ Drawn0 w w' := by
 have HR0 := am hr0
 have HC0 := am hc0
 clear hr0 hc0
 have H : (leb_joined.l0 k 0 l0 (l0.length : Int) 0) = some r := h
 clear h
 have H' := am H
 clear H
 go_enter Try.func70, Try.ntmps70
 go_wp2
 go_loopg [3, 8] k (fun kq v3 v8 w' => ∃ (x3_1 : Int) (x8_1 : Int), v3 = .int .u64 x3_1 ∧ v8 = .int .i64 x8_1 ∧ Aside0 (leb_joined.l0 kq x3_1 l0 (l0.length : Int) x8_1 = some r) ∧ Aside0 (kq ≤ k) ∧ Drawn0 w w')
 case atStart => exact ⟨(0), (0), (by first | rfl | (simp; done) | (simp [*]; done)), (by first | rfl | (simp; done) | (simp [*]; done)), H', ⟨Nat.le_refl _⟩, by repeat (first | exact Drawn0.refl _ | apply Drawn0.step)⟩
 case round =>
  clear H'
  obtain ⟨x3_1, x8_1, rfl, rfl, HA, HK1, ⟨m1, rfl⟩⟩ := hrel
  cases gk with
  | zero => exact absurd HA.out (by simp [leb_joined.l0])
  | succ k1 =>
   have H := HA.out
   clear HA
   simp only [leb_joined.l0] at H
   by_cases c2 : x8_1 < (l0.length : Int)
   rotate_left
   ·
    rw [if_neg c2] at H
    have c2b0 : decide (x8_1 < (l0.length : Int)) = false := decide_eq_false c2
    clear c2
    obtain rfl := Option.some.inj H
    go_wp2
    go_ret
    exact ⟨by first | rfl | (simp; done) | (simp [*]; done), by repeat (first | exact Drawn0.refl _ | apply Drawn0.step)⟩
   rw [if_pos c2] at H
   have c2b0 : decide (x8_1 < (l0.length : Int)) = true := decide_eq_true c2
   clear c2
   by_cases c3 : 0 ≤ x8_1
   rotate_left
   ·
    rw [if_neg c3] at H
    exact absurd H (by simp)
   rw [if_pos c3] at H
   have c3b0 : decide (0 ≤ x8_1) = true := decide_eq_true c3
   clear c3
   by_cases c4 : x8_1 < (l0.length : Int)
   rotate_left
   ·
    rw [if_neg c4] at H
    exact absurd H (by simp)
   rw [if_pos c4] at H
   have c4b0 : decide (x8_1 < (l0.length : Int)) = true := decide_eq_true c4
   clear c4
   obtain ⟨ji5, hji5⟩ : ∃ j_ : Int, (wrap64 (7 * x8_1)) = j_ := ⟨_, rfl⟩
   replace H : (if 0 ≤ (ji5) then (leb_joined.l0 k1 (Go.bits .or .u64 x3_1 (shl .u64 (IntKind.u64.wrap (Go.bits .and .u8 (rd l0 x8_1) 127)) (ji5))) l0 (l0.length : Int) (wrap64 (x8_1 + 1))) else (none)) = some r := by first | (rw [hji5] at H; exact H) | (simp only [hji5] at H ⊢; exact H)
   have hji5w : (IntKind.i64.wrap (7 * x8_1)) = ji5 := (i64_w _).trans hji5
   by_cases c6 : 0 ≤ (ji5)
   rotate_left
   ·
    rw [if_neg c6] at H
    exact absurd H (by simp)
   rw [if_pos c6] at H
   have c6b0 := eq_true c6
   have c6b1 : decide (0 ≤ (ji5)) = true := decide_eq_true c6
   clear c6
   obtain ⟨ji7, hji7⟩ : ∃ j_ : Int, (shl .u64 (IntKind.u64.wrap (Go.bits .and .u8 (rd l0 x8_1) 127)) (ji5)) = j_ := ⟨_, rfl⟩
   replace H : (leb_joined.l0 k1 (Go.bits .or .u64 x3_1 (ji7)) l0 (l0.length : Int) (wrap64 (x8_1 + 1))) = some r := by first | (rw [hji7] at H; exact H) | (simp only [hji7] at H ⊢; exact H)
   have hji7_ : (IntKind.u64.wrap ((IntKind.u64.wrap (Go.bits .and .u8 (rd l0 x8_1) 127)) * 2 ^ min (ji5).toNat 64)) = ji7 := hji7
   have hji7z : (ji5) ≤ 64 → (IntKind.u64.wrap ((IntKind.u64.wrap (Go.bits .and .u8 (rd l0 x8_1) 127)) * 2 ^ (ji5).toNat)) = ji7 := shl_small hji7
   have H' := am H
   clear H
   have p101 : 0 ≤ (x8_1 : Int) := od
   have q101 : x8_1 < (l0.length : Int) := od
   obtain ⟨ad101, e101, hx101_0⟩ := Kd.at_int HR0.out x8_1 p101 q101
   cases e101
   replace p101 := eq_true p101
   replace q101 := eq_true q101
   go_wp2
   go_roundg k1
   case measure => have := HK1.out; omega
   case rel => exact ⟨(Go.bits .or .u64 x3_1 (ji7)), (wrap64 (x8_1 + 1)), (by first | rfl | (simp; done) | (simp only [← hji7] <;> (first | rfl | simp)) | (simp [*]; done)), (by first | rfl | (simp; done) | (simp [*]; done)), H', ⟨by have := HK1.out; omega⟩, by repeat (first | exact Drawn0.refl _ | apply Drawn0.step)⟩
def leb_ReadUleb_1.f (k : Nat) (l0 : List Int) : Option (Int × Bool) := (leb_joined.f k l0).bind fun t101 => (if (l0.length : Int) < 10 then (some (t101, true)) else (if 9 < (l0.length : Int) then (some (t101, decide ((rd l0 9) ≤ 1))) else (none)))
set_option maxHeartbeats 8000000 in
theorem leb_ReadUleb_1.calls (k : Nat) (A0 : Option Addr) (c0 : Nat) (l0 : List Int) (r1 : Int) (r2 : Bool) (w : World) (hr0 : Kd.C (Kd.int .u8) w A0 l0.length l0) (hc0 : l0.length ≤ c0) (h : leb_ReadUleb_1.f k l0 = some (r1, r2)) :
    Calls Try.prog 72 #[.slice A0 l0.length c0] w fun e w' => e = .returned (.tuple #[.int .u64 r1, .bool r2]) ∧ Drawn0 w w' := by
 have HR0 := am hr0
 have HC0 := am hc0
 clear hr0 hc0
 have H : ((leb_joined.f k l0).bind fun t101 => (if (l0.length : Int) < 10 then (some (t101, true)) else (if 9 < (l0.length : Int) then (some (t101, decide ((rd l0 9) ≤ 1))) else (none)))) = some (r1, r2) := h
 clear h
 replace H := Option.bind_eq_some_iff.mp H
 obtain ⟨t101, A20, H⟩ := H
 replace H : (if (l0.length : Int) < 10 then (some (t101, true)) else (if 9 < (l0.length : Int) then (some (t101, decide ((rd l0 9) ≤ 1))) else (none))) = some (r1, r2) := H
 have A2 := am A20
 clear A20
 by_cases c3 : (l0.length : Int) < 10
 ·
  rw [if_pos c3] at H
  have c3b0 : decide ((l0.length : Int) < 10) = true := decide_eq_true c3
  have c3b1 : decide (l0.length < 10) = true := decide_eq_true (by omega)
  clear c3
  simp only [Option.some.injEq, Prod.mk.injEq] at H
  obtain ⟨rfl, rfl⟩ := H
  go_enter Try.func72, Try.ntmps72
  go_wp2_with (first | (go_at_call 70; (with_reducible refine (leb_joined.calls k _ _ l0 t101 _ ?side1 ?side2 A2.out).mono ?_); (case side1 => exact Kd.C_o HR0.out); (case side2 => exact HC0.out); rintro e w' ⟨rfl, ⟨nd, rfl⟩⟩; (try first | exact ⟨rfl, _, World.drewN_drewN _ _ _⟩ | exact ⟨rfl, _, Eq.trans (World.drewN_drewN _ _ _) (congrArg (World.drewN _) (Nat.add_assoc _ _ _))⟩)))
  repeat (go_quiet (first | (go_at_call 70; (with_reducible refine (leb_joined.calls k _ _ l0 t101 _ ?side1 ?side2 A2.out).mono ?_); (case side1 => exact Kd.C_o HR0.out); (case side2 => exact HC0.out); rintro e w' ⟨rfl, ⟨nd, rfl⟩⟩; (try first | exact ⟨rfl, _, World.drewN_drewN _ _ _⟩ | exact ⟨rfl, _, Eq.trans (World.drewN_drewN _ _ _) (congrArg (World.drewN _) (Nat.add_assoc _ _ _))⟩))); try go_wp2_with (first | (go_at_call 70; (with_reducible refine (leb_joined.calls k _ _ l0 t101 _ ?side1 ?side2 A2.out).mono ?_); (case side1 => exact Kd.C_o HR0.out); (case side2 => exact HC0.out); rintro e w' ⟨rfl, ⟨nd, rfl⟩⟩; (try first | exact ⟨rfl, _, World.drewN_drewN _ _ _⟩ | exact ⟨rfl, _, Eq.trans (World.drewN_drewN _ _ _) (congrArg (World.drewN _) (Nat.add_assoc _ _ _))⟩))))
  go_ret2
  exact ⟨by first | rfl | (simp; done) | (simp [*]; done), by repeat (first | exact Drawn0.refl _ | apply Drawn0.step)⟩
 rw [if_neg c3] at H
 have c3b0 : decide ((l0.length : Int) < 10) = false := decide_eq_false c3
 have c3b1 : decide (l0.length < 10) = false := decide_eq_false (by omega)
 clear c3
 by_cases c4 : 9 < (l0.length : Int)
 rotate_left
 ·
  rw [if_neg c4] at H
  exact absurd H (by simp)
 rw [if_pos c4] at H
 have c4b0 : decide (9 < (l0.length : Int)) = true := decide_eq_true c4
 have c4b1 : decide (9 < l0.length) = true := decide_eq_true (by omega)
 clear c4
 simp only [Option.some.injEq, Prod.mk.injEq] at H
 obtain ⟨rfl, rfl⟩ := H
 go_enter Try.func72, Try.ntmps72
 go_wp2_with (first | (go_at_call 70; (with_reducible refine (leb_joined.calls k _ _ l0 t101 _ ?side1 ?side2 A2.out).mono ?_); (case side1 => exact Kd.C_o HR0.out); (case side2 => exact HC0.out); rintro e w' ⟨rfl, ⟨nd, rfl⟩⟩; (try first | exact ⟨rfl, _, World.drewN_drewN _ _ _⟩ | exact ⟨rfl, _, Eq.trans (World.drewN_drewN _ _ _) (congrArg (World.drewN _) (Nat.add_assoc _ _ _))⟩); have p102 : 0 ≤ (9 : Int) := (by omega); have q102 : 9 < (l0.length : Int) := od; obtain ⟨ad102, e102, hx102_0⟩ := Kd.at_int HR0.out 9 p102 q102; cases e102; (try simp only [show (9 : Int).toNat = 9 from rfl, Nat.reduceMul, Nat.reduceEqDiff, Go.Addr.add, ↓reduceIte] at hx102_0); have qi102 : (9 < l0.length) = True := eq_true (by omega); (try rw [show ((9 : Int)).toNat = 9 from rfl] at hx102_0); replace p102 := eq_true p102; replace q102 := eq_true q102))
 repeat (go_quiet (first | (go_at_call 70; (with_reducible refine (leb_joined.calls k _ _ l0 t101 _ ?side1 ?side2 A2.out).mono ?_); (case side1 => exact Kd.C_o HR0.out); (case side2 => exact HC0.out); rintro e w' ⟨rfl, ⟨nd, rfl⟩⟩; (try first | exact ⟨rfl, _, World.drewN_drewN _ _ _⟩ | exact ⟨rfl, _, Eq.trans (World.drewN_drewN _ _ _) (congrArg (World.drewN _) (Nat.add_assoc _ _ _))⟩); have p102 : 0 ≤ (9 : Int) := (by omega); have q102 : 9 < (l0.length : Int) := od; obtain ⟨ad102, e102, hx102_0⟩ := Kd.at_int HR0.out 9 p102 q102; cases e102; (try simp only [show (9 : Int).toNat = 9 from rfl, Nat.reduceMul, Nat.reduceEqDiff, Go.Addr.add, ↓reduceIte] at hx102_0); have qi102 : (9 < l0.length) = True := eq_true (by omega); (try rw [show ((9 : Int)).toNat = 9 from rfl] at hx102_0); replace p102 := eq_true p102; replace q102 := eq_true q102)); try go_wp2_with (first | (go_at_call 70; (with_reducible refine (leb_joined.calls k _ _ l0 t101 _ ?side1 ?side2 A2.out).mono ?_); (case side1 => exact Kd.C_o HR0.out); (case side2 => exact HC0.out); rintro e w' ⟨rfl, ⟨nd, rfl⟩⟩; (try first | exact ⟨rfl, _, World.drewN_drewN _ _ _⟩ | exact ⟨rfl, _, Eq.trans (World.drewN_drewN _ _ _) (congrArg (World.drewN _) (Nat.add_assoc _ _ _))⟩); have p102 : 0 ≤ (9 : Int) := (by omega); have q102 : 9 < (l0.length : Int) := od; obtain ⟨ad102, e102, hx102_0⟩ := Kd.at_int HR0.out 9 p102 q102; cases e102; (try simp only [show (9 : Int).toNat = 9 from rfl, Nat.reduceMul, Nat.reduceEqDiff, Go.Addr.add, ↓reduceIte] at hx102_0); have qi102 : (9 < l0.length) = True := eq_true (by omega); (try rw [show ((9 : Int)).toNat = 9 from rfl] at hx102_0); replace p102 := eq_true p102; replace q102 := eq_true q102)))
 go_ret2
 exact ⟨by first | rfl | (simp; done) | (simp [*]; done), by repeat (first | exact Drawn0.refl _ | apply Drawn0.step)⟩
/-- how many bytes the number that begins here has; or why it is none -/
def lebGrp : List Int → Nat → Nat ⊕ Int
  | [], _ => .inr 20
  | x :: xs, n => if n = 10 then .inr 21 else if x < 128 then .inl (n + 1) else lebGrp xs (n + 1)
theorem lebGrp_drop (l : List Int) (i : Nat) (hi : i < l.length) (n : Nat) : lebGrp (l.drop i) n = if n = 10 then .inr 21 else if rd l i < 128 then .inl (n + 1) else lebGrp (l.drop (i + 1)) (n + 1) := by
 rw [List.drop_eq_getElem_cons hi]
 simp only [lebGrp]
 have : rd l i = l[i] := by simp [rd, List.getD, hi]
 rw [this]
def lebAt (l0 : List Int) (a1 : Int) : Nat ⊕ Int := if a1 < 0 ∨ (l0.length : Int) ≤ a1 then .inr 20 else lebGrp (l0.drop a1.toNat) 0
/-- what 'groups' returns, as a value -/
def lebGrpOut (A0 : Option Addr) (c0 : Nat) (l0 : List Int) (a1 : Int) (e : Ending) : Prop :=
  match lebAt l0 a1 with
  | .inr er => e = .returned (.tuple #[.slice none 0 0, .int .i64 0, .int .i64 er])
  | .inl n => ∃ ad, A0 = some ad ∧ e = .returned (.tuple #[.slice (some (ad.add a1.toNat)) n (c0 - a1.toNat), .int .i64 (a1 + n), .int .i64 0])
theorem lebGroups_calls (A0 : Option Addr) (c0 : Nat) (l0 : List Int) (a1 : Int) (w : World) (hr0 : Kd.C (Kd.int .u8) w A0 l0.length l0) (hc0 : l0.length ≤ c0) :
    Calls Try.prog 89 #[.slice A0 l0.length c0, .int .i64 a1] w fun e w' => lebGrpOut A0 c0 l0 a1 e ∧ w = w' := by
 have hll : l0.length ≤ 9223372036854775807 := hr0.2.1
 have HR0 := am hr0
 clear hr0
 by_cases h0 : a1 < 0
 ·
  have h0b : decide (a1 < 0) = true := by simpa using h0
  go_enter Try.func89, Try.ntmps89
  go_wp2
  go_ret3
  refine ⟨?_, rfl⟩
  simp [lebGrpOut, lebAt, h0]
 have h0b : decide (a1 < 0) = false := by simpa using h0
 by_cases h1 : (l0.length : Int) ≤ a1
 ·
  have h1b : decide ((l0.length : Int) ≤ a1) = true := by simpa using h1
  go_enter Try.func89, Try.ntmps89
  go_wp2
  go_ret3
  refine ⟨?_, rfl⟩
  simp [lebGrpOut, lebAt, h1]
 clear h0b
 obtain ⟨m, rfl⟩ := Int.eq_ofNat_of_zero_le (show 0 ≤ a1 by omega)
 have hm : m < l0.length := by omega
 have h0b : decide ((m : Int) < 0) = false := by simp
 have h1b : decide ((l0.length : Int) ≤ (m : Int)) = false := by simp; omega
 have h1c : decide (l0.length ≤ m) = false := by simp; omega
 go_enter Try.func89, Try.ntmps89
 go_wp2
 go_loop [7] (fun v => ∃ n : Nat, n ≤ 10 ∧ m + n ≤ l0.length ∧ v = .int .i64 ((m : Int) + n) ∧ Aside0 (lebGrp (l0.drop m) 0 = lebGrp (l0.drop (m + n)) n)) (fun v => l0.length - (intOf v).toNat)
 case atStart => exact ⟨0, by omega, by omega, by simp, ⟨rfl⟩⟩
 case round =>
  obtain ⟨n, hn, hmn, rfl, HA⟩ := hrel
  by_cases hlt : m + n < l0.length
  rotate_left
  ·
   have hltb : decide ((m : Int) + n < (l0.length : Int)) = false := by simp; omega
   have hlen : m + n = l0.length := by omega
   have h : Aside0 (lebGrp (l0.drop m) 0 = .inr 20) := ⟨by rw [HA.out, hlen]; simp [lebGrp]⟩
   clear hlen
   go_wp2
   go_ret3
   refine ⟨?_, rfl⟩
   simp only [lebGrpOut, lebAt]
   rw [if_neg (by omega), Int.toNat_natCast, h.out]
   rfl
  have hltb : decide ((m : Int) + n < (l0.length : Int)) = true := by simp; omega
  by_cases h10 : n = 10
  ·
   subst h10
   go_wp2
   go_ret3
   refine ⟨?_, rfl⟩
   have h := HA.out
   rw [lebGrp_drop _ _ hlt, if_pos rfl] at h
   simp only [lebGrpOut, lebAt]
   rw [if_neg (by omega), Int.toNat_natCast, h]
   rfl
  have h10b : ((m : Int) + n - m == 10) = false := by simp; omega
  obtain ⟨ad, rfl, hx⟩ := Kd.at_int HR0.out ((m : Int) + n) (by omega) (by omega)
  have hxn : rd l0 ((m : Int) + n) = rd l0 ((m + n : Nat) : Int) := by simp
  rw [show ((m : Int) + n).toNat = m + n from by omega, hxn] at hx
  clear hxn
  have h := HA.out
  rw [lebGrp_drop _ _ hlt, if_neg h10] at h
  generalize rd l0 ((m + n : Nat) : Int) = b at hx h
  by_cases h128 : b < 128
  ·
   have hb : decide (b < 128) = true := by simpa using h128
   rw [if_pos h128] at h
   replace h := am h
   go_wp2
   go_ret3
   refine ⟨?_, rfl⟩
   simp only [lebGrpOut, lebAt]
   rw [if_neg (by omega), Int.toNat_natCast, h.out]
   refine ⟨ad, rfl, ?_⟩
   simp
   omega
  have hb : decide (b < 128) = false := by simpa using h128
  rw [if_neg h128] at h
  replace h := am h
  go_wp2
  go_round
  case rel => exact ⟨n + 1, by omega, by omega, by go_num, ⟨by rw [h.out]; rfl⟩⟩
  case measure => simp [intOf]; omega
/-- the bits of groups, joined -/
def lebJn : List Int → Nat → Int → Int
  | [], _, u => u
  | x :: xs, i, u => lebJn xs (i + 1) (Go.bits .or .u64 u (shl .u64 (IntKind.u64.wrap (Go.bits .and .u8 x 127)) (7 * (i : Int))))
theorem lebJoined_ev (g : List Int) (hg : g.length ≤ 1000) (d : Nat) : ∀ (k i : Nat) (u : Int), i ≤ g.length → g.length - i = d → d < k →
    leb_joined.l0 k u g (g.length : Int) (i : Int) = some (lebJn (g.drop i) i u) := by
 induction d with
 | zero =>
  intro k i u hi hd hk
  obtain ⟨k, rfl⟩ : ∃ m, k = m + 1 := ⟨k - 1, by omega⟩
  have : i = g.length := by omega
  subst this
  simp only [leb_joined.l0]
  rw [if_neg (by omega), List.drop_length]
  rfl
 | succ d ih =>
  intro k i u hi hd hk
  obtain ⟨k, rfl⟩ : ∃ m, k = m + 1 := ⟨k - 1, by omega⟩
  have hlt : i < g.length := by omega
  have w7 : wrap64 (7 * (i : Int)) = 7 * (i : Int) := by unfold wrap64; omega
  have w1 : wrap64 ((i : Int) + 1) = ((i + 1 : Nat) : Int) := by unfold wrap64; omega
  simp only [leb_joined.l0]
  rw [if_pos (by omega), if_pos (by omega), if_pos (by omega), w7, if_pos (by omega), w1, ih k (i + 1) _ (by omega) (by omega) (by omega)]
  rw [List.drop_eq_getElem_cons hlt]
  have : rd g (i : Int) = g[i] := by simp [rd, List.getD, hlt]
  rw [this]
  rfl
theorem lebJoined_some (g : List Int) (hg : g.length ≤ 1000) : leb_joined.f 1001 g = some (lebJn g 0 0) := by
 unfold leb_joined.f
 have := lebJoined_ev g hg g.length 1001 0 0 (by omega) (by omega) (by omega)
 simpa using this
theorem lebGrp_le (l : List Int) : ∀ n m, lebGrp l n = .inl m → n < m ∧ m ≤ n + l.length := by
 induction l with
 | nil => intro n m h; simp [lebGrp] at h
 | cons x xs ih =>
  intro n m h
  simp only [lebGrp] at h
  split at h
  ·
   cases h
  split at h
  ·
   cases h
   simp
  have := ih _ _ h
  simp
  omega
theorem lebGrp_10 (l : List Int) : ∀ n m, n ≤ 10 → lebGrp l n = .inl m → m ≤ 10 := by
 induction l with
 | nil => intro n m _ h; simp [lebGrp] at h
 | cons x xs ih =>
  intro n m hn h
  simp only [lebGrp] at h
  split at h
  ·
   cases h
  split at h
  ·
   cases h
   omega
  exact ih _ _ (by omega) h
theorem lebGrp_err (l : List Int) : ∀ n er, lebGrp l n = .inr er → er = 20 ∨ er = 21 := by
 induction l with
 | nil => intro n er h; simp [lebGrp] at h; exact .inl h.symm
 | cons x xs ih =>
  intro n er h
  simp only [lebGrp] at h
  split at h
  ·
   cases h; exact .inr rfl
  split at h
  ·
   cases h
  exact ih _ _ h
theorem lebAt_err {l : List Int} {a1 er : Int} (h : lebAt l a1 = .inr er) : er = 20 ∨ er = 21 := by
 unfold lebAt at h
 split at h
 ·
  cases h; exact .inl rfl
 exact lebGrp_err _ _ _ h
theorem lebAt_ok {l : List Int} {a1 : Int} {n : Nat} (h : lebAt l a1 = .inl n) : 0 ≤ a1 ∧ 0 < n ∧ n ≤ 10 ∧ a1.toNat + n ≤ l.length := by
 unfold lebAt at h
 split at h
 ·
  cases h
 have h1 := lebGrp_le _ _ _ h
 have h2 := lebGrp_10 _ _ _ (by omega) h
 rw [List.length_drop] at h1
 omega
theorem lebGrpOut_err {A0 : Option Addr} {c0 : Nat} {l0 : List Int} {a1 er : Int} {e : Ending} (hL : lebAt l0 a1 = .inr er) (h : lebGrpOut A0 c0 l0 a1 e) : e = .returned (.tuple #[.slice none 0 0, .int .i64 0, .int .i64 er]) := by
 unfold lebGrpOut at h
 rw [hL] at h
 exact h
theorem lebGrpOut_ok {A0 : Option Addr} {c0 : Nat} {l0 : List Int} {a1 : Int} {n : Nat} {e : Ending} (hL : lebAt l0 a1 = .inl n) (h : lebGrpOut A0 c0 l0 a1 e) : ∃ ad, A0 = some ad ∧ e = .returned (.tuple #[.slice (some (ad.add a1.toNat)) n (c0 - a1.toNat), .int .i64 (a1 + n), .int .i64 0]) := by
 unfold lebGrpOut at h
 rw [hL] at h
 exact h
/-- the groups' own bytes -/
def lebCut (l0 : List Int) (a1 : Int) (n : Nat) : List Int := (l0.take (a1.toNat + n)).drop a1.toNat
theorem lebCut_length {l0 : List Int} {a1 : Int} {n : Nat} (h : a1.toNat + n ≤ l0.length) : (lebCut l0 a1 n).length = n := by
 unfold lebCut
 rw [List.length_drop, List.length_take]
 omega
theorem lebCut_reads {w : World} {ad : Addr} {c0 : Nat} {l0 : List Int} {a1 : Int} {n : Nat} (hr0 : Kd.C (Kd.int .u8) w (some ad) l0.length l0) (hc0 : l0.length ≤ c0) (hn : 0 < n) (h : a1.toNat + n ≤ l0.length) :
    Kd.C (Kd.int .u8) w (some (ad.add a1.toNat)) (lebCut l0 a1 n).length (lebCut l0 a1 n) := by
 have := Kd.C_mid (lo := a1.toNat) (hi := a1.toNat + n) (c := c0) hr0 (by omega) h hc0
 rw [if_neg (by omega)] at this
 unfold lebCut
 simpa [Kd.int, Kd.scalar] using this
def lebReadU (l0 : List Int) (a1 : Int) : Int × Int × Int :=
  match lebAt l0 a1 with
  | .inr er => (0, 0, er)
  | .inl n => if n < 10 ∨ rd (lebCut l0 a1 n) 9 ≤ 1 then (lebJn (lebCut l0 a1 n) 0 0, a1 + n, 0) else (0, 0, 21)
theorem lebReadU_calls (A0 : Option Addr) (c0 : Nat) (l0 : List Int) (a1 : Int) (w : World) (hr0 : Kd.C (Kd.int .u8) w A0 l0.length l0) (hc0 : l0.length ≤ c0) :
    Calls Try.prog 73 #[.agg #[.func (.func 72) #[] #[]], .slice A0 l0.length c0, .int .i64 a1] w fun e w' =>
      e = .returned (.tuple #[.int .u64 (lebReadU l0 a1).1, .int .i64 (lebReadU l0 a1).2.1, .int .i64 (lebReadU l0 a1).2.2]) ∧ Below w.heap.size w w' := by
 have HR0 := am hr0
 have hb0 := Below.refl w.heap.size w
 cases hL : lebAt l0 a1 with
 | inr er =>
  have hf : lebReadU l0 a1 = (0, 0, er) := by unfold lebReadU; rw [hL]
  rw [hf]
  have her := lebAt_err hL
  have HL := Lib.hid hL
  clear hL hf hr0
  have hu := Try.underlying125
  rcases her with rfl | rfl
  all_goals
    go_enter Try.func73, Try.ntmps73
    go_wp2_with fail
    refine (lebGroups_calls A0 c0 l0 a1 _ (Kd.C_alloc HR0.out _) hc0).mono ?_
    rintro e w' ⟨hg, rfl⟩
    obtain rfl := lebGrpOut_err HL.out hg
    clear hg
    go_wp2
    go_ret3
    exact ⟨rfl, below_alloc hb0 _⟩
 | inl n =>
  obtain ⟨h0, hn, hn10, hln⟩ := lebAt_ok hL
  have hf : lebReadU l0 a1 = if n < 10 ∨ rd (lebCut l0 a1 n) 9 ≤ 1 then (lebJn (lebCut l0 a1 n) 0 0, a1 + n, 0) else (0, 0, 21) := by unfold lebReadU; rw [hL]
  rw [hf]
  have hlen := lebCut_length (l0 := l0) (a1 := a1) hln
  have HLN := Lib.hid hlen
  have hone : leb_ReadUleb_1.f 1001 (lebCut l0 a1 n) = some (lebJn (lebCut l0 a1 n) 0 0, decide (n < 10 ∨ rd (lebCut l0 a1 n) 9 ≤ 1)) := by
   unfold leb_ReadUleb_1.f
   rw [lebJoined_some _ (by rw [hlen]; omega), Option.bind_some, hlen]
   by_cases h10 : n < 10
   ·
    rw [if_pos (by omega)]
    simp [h10]
   rw [if_neg (by omega), if_pos (by omega)]
   simp [h10]
  have HL := Lib.hid hL
  have HF := Lib.hid hf
  have HONE := Lib.hid hone
  clear hL hf hr0 hone hlen
  have hu := Try.underlying125
  by_cases hok : n < 10 ∨ rd (lebCut l0 a1 n) 9 ≤ 1
  ·
   have HOK := Lib.hid hok
   clear hok
   go_enter Try.func73, Try.ntmps73
   go_wp2_with fail
   refine (lebGroups_calls A0 c0 l0 a1 _ (Kd.C_alloc HR0.out _) hc0).mono ?_
   rintro e w' ⟨hg, rfl⟩
   obtain ⟨ad, rfl, rfl⟩ := lebGrpOut_ok HL.out hg
   clear hg
   have hr1 := lebCut_reads (n := n) HR0.out hc0 hn hln
   go_wp2_with fail
   have hc := leb_ReadUleb_1.calls 1001 (some (ad.add a1.toNat)) (c0 - a1.toNat) (lebCut l0 a1 n) _ _ _ (Kd.C_alloc hr1 (Obj.cells #[Value.func (Fn.func 72) #[] #[]] 125)) (by rw [HLN.out]; omega) HONE.out
   rw [HLN.out] at hc
   refine hc.mono ?_
   clear hc hr1
   rintro e w' ⟨rfl, ⟨nd, rfl⟩⟩
   have hd : decide (n < 10 ∨ rd (lebCut l0 a1 n) 9 ≤ 1) = true := by simp [HOK.out]
   rw [hd]
   clear hd
   go_wp2
   go_ret3
   refine ⟨?_, by repeat (first | exact hb0 | apply below_alloc | apply pw_below_drewN | apply below_drew1)⟩
   have hok := HOK.out
   simp [hok]
  have HOK := Lib.hid hok
  clear hok
  go_enter Try.func73, Try.ntmps73
  go_wp2_with fail
  refine (lebGroups_calls A0 c0 l0 a1 _ (Kd.C_alloc HR0.out _) hc0).mono ?_
  rintro e w' ⟨hg, rfl⟩
  obtain ⟨ad, rfl, rfl⟩ := lebGrpOut_ok HL.out hg
  clear hg
  have hr1 := lebCut_reads (n := n) HR0.out hc0 hn hln
  go_wp2_with fail
  have hc := leb_ReadUleb_1.calls 1001 (some (ad.add a1.toNat)) (c0 - a1.toNat) (lebCut l0 a1 n) _ _ _ (Kd.C_alloc hr1 (Obj.cells #[Value.func (Fn.func 72) #[] #[]] 125)) (by rw [HLN.out]; omega) HONE.out
  rw [HLN.out] at hc
  refine hc.mono ?_
  clear hc hr1
  rintro e w' ⟨rfl, ⟨nd, rfl⟩⟩
  have hd : decide (n < 10 ∨ rd (lebCut l0 a1 n) 9 ≤ 1) = false := by simp [HOK.out]
  rw [hd]
  clear hd
  go_wp2
  go_ret3
  refine ⟨?_, by repeat (first | exact hb0 | apply below_alloc | apply pw_below_drewN | apply below_drew1)⟩
  have hok := HOK.out
  simp [hok]
def leb_ReadUleb.f (l0 : List Int) (a1 : Int) : Option (Int × Int × Int) := some (wrap64 (lebReadU l0 a1).1, (lebReadU l0 a1).2.1, (lebReadU l0 a1).2.2)
set_option maxHeartbeats 1000000 in
theorem leb_ReadUleb.calls (A0 : Option Addr) (c0 : Nat) (l0 : List Int) (a1 : Int) (r1 : Int) (r2 : Int) (r3 : Int) (w : World) (hr0 : Kd.C (Kd.int .u8) w A0 l0.length l0) (hc0 : l0.length ≤ c0) (h : leb_ReadUleb.f l0 a1 = some (r1, r2, r3)) :
    Calls Try.prog 50 #[.slice A0 l0.length c0, .int .i64 a1] w fun e w' => e = .returned (.tuple #[.int .i64 r1, .int .i64 r2, .int .i64 r3]) ∧ Below w.heap.size w w' := by
 have HR0 := am hr0
 have hb0 := Below.refl w.heap.size w
 unfold leb_ReadUleb.f at h
 simp only [Option.some.injEq, Prod.mk.injEq] at h
 obtain ⟨rfl, rfl, rfl⟩ := h
 have hu := Try.underlying125
 clear hr0
 obtain ⟨⟨x1, x2, x3⟩, hx⟩ : ∃ x, lebReadU l0 a1 = x := ⟨_, rfl⟩
 rw [hx]
 have HX := Lib.hid hx
 clear hx
 go_enter Try.func50, Try.ntmps50
 go_wp2_with fail
 have hc := lebReadU_calls A0 c0 l0 a1 _ (Kd.C_alloc HR0.out (Obj.cells #[Value.func (Fn.func 72) #[] #[]] 125)) hc0
 rw [HX.out] at hc
 refine hc.mono ?_
 clear hc
 rintro e w' ⟨rfl, hb1⟩
 have hb2 : Below w.heap.size w w' := below_then (below_alloc hb0 _) (by simp) hb1
 clear hb1
 replace hb2 := am hb2
 go_wp2
 go_ret3
 exact ⟨rfl, hb2.out⟩
end Go.Proofs.Ytfgfnflhdabmcaa.G
end
