/- Lemmas and contracts, one text behind the other: what the row of this claim needs; no conditions beyond those that each theorem names. -/
import Derived.Test.YtejdnanhnkjaoaaRows
import Derived.ChangeArms
import Derived.DataReads
import Derived.SizedLaws
import Derived.Test.YtejdnanhnkjaoaaV6
section
namespace Go.Proofs.Ytejdnanhnkjaoaa.G
open Go.RowKit Go.Proofs.YtejdnanhnkjaoaaW.PrintWords Go.Proofs.YtejdnanhnkjaoaaW.PrintLast Go.Proofs.YtejdnanhnkjaoaaW.PrintMore
attribute [local go_sem] max2_int min2_int max_two min_two max_three min_three max_four min_four   -- for this text's walks alone
set_option linter.unusedVariables false
set_option linter.unusedSimpArgs false
def gangwaylaw08_SymtabReads.j0 : Nat → List Int → List Int → List (S58) → List (S58) → Bool → Option (Bool)
 | 0, _, _, _, _, _ => none
 | k + 1, x9, x10, x11, x13, x60 => if x60 = true then (some false) else ((gangwaylaw08_spoil.f k x9).bind fun t123 => ((gangwaylaw08_spoil.f k x10).bind fun t124 => ((gangwaylaw08_symbols.f k x11 x13).bind fun t125 => (if t125 = true then ((gangwaylaw08_live.f).bind fun t126 => (some t126)) else (some false)))))
def gangwaylaw08_SymtabReads.f (k : Nat) (l0 : List Int) (l1 : List Int) (a2 : Int) (l3 : List ByteArray) : Option (Bool) := (some (([] : List Int) : List Int)).bind fun y101 => (if y101.length + l0.length < 140737488355328 then ((some (y101 ++ l0 : List Int)).bind fun y104 => ((some (([] : List Int) : List Int)).bind fun y107 => (if y107.length + l1.length < 140737488355328 then ((some (y107 ++ l1 : List Int)).bind fun y110 => ((symtab_Read.f y104 y110 a2 l3).bind fun bt113 => ((gangwayref08_Read.f k l0 l1 a2 l3).bind fun bt117 => ((gangwaylaw08_symbols.f k bt113.1 bt117.1).bind fun t121 => (if t121 = true then ((gangwaylaw08_num.f bt113.2).bind fun t122 => (if t122 = bt117.2 then (if (strOfNums y104).toList = (strOfNums l0).toList then (gangwaylaw08_SymtabReads.j0 k y104 y110 bt113.1 bt117.1 ((strOfNums y110).toList != (strOfNums l1).toList)) else (gangwaylaw08_SymtabReads.j0 k y104 y110 bt113.1 bt117.1 true)) else (gangwaylaw08_SymtabReads.j0 k y104 y110 bt113.1 bt117.1 true))) else (gangwaylaw08_SymtabReads.j0 k y104 y110 bt113.1 bt117.1 true)))))) else (none)))) else (none))
theorem gangwaylaw08_SymtabReads.mono_l : ∀ k, (∀ y0 y1 y2 y3 y4, LeO (gangwaylaw08_SymtabReads.j0 k y0 y1 y2 y3 y4) (gangwaylaw08_SymtabReads.j0 (k + 1) y0 y1 y2 y3 y4))
 | 0 => fun _ _ _ _ _ r h => by simp [gangwaylaw08_SymtabReads.j0] at h
 | k + 1 => by
  have ih0 := gangwaylaw08_SymtabReads.mono_l k
  ·
   intro y0 y1 y2 y3 y4
   unfold gangwaylaw08_SymtabReads.j0
   repeat' first
   | (with_reducible exact ih0 _ _ _ _ _)
   | (with_reducible exact gangwaylaw08_spoil.mono _ _)
   | (with_reducible exact gangwaylaw08_symbols.mono _ _ _)
   | (with_reducible exact gangwayref08_Read.mono _ _ _ _ _)
   | (with_reducible exact LeO.refl _)
   | (with_reducible exact LeO.none _)
   | (with_reducible refine LeO.ite ?_ ?_)
   | (with_reducible refine LeO.bind ?_ (fun _ => ?_))
   | exact ih0 _ _ _ _ _
   | exact gangwaylaw08_spoil.mono _ _
   | exact gangwaylaw08_symbols.mono _ _ _
   | exact gangwayref08_Read.mono _ _ _ _ _
   | exact LeO.none _
   | refine LeO.ite ?_ ?_
   | refine LeO.bind ?_ (fun _ => ?_)
theorem gangwaylaw08_SymtabReads.mono : ∀ a0 a1 a2 a3 k, LeO (gangwaylaw08_SymtabReads.f k a0 a1 a2 a3) (gangwaylaw08_SymtabReads.f (k + 1) a0 a1 a2 a3) := by
 intro a0 a1 a2 a3 k
 have ih0 := gangwaylaw08_SymtabReads.mono_l k
 unfold gangwaylaw08_SymtabReads.f
 repeat' first
   | (with_reducible exact ih0 _ _ _ _ _)
   | (with_reducible exact gangwaylaw08_spoil.mono _ _)
   | (with_reducible exact gangwaylaw08_symbols.mono _ _ _)
   | (with_reducible exact gangwayref08_Read.mono _ _ _ _ _)
   | (with_reducible exact LeO.refl _)
   | (with_reducible exact LeO.none _)
   | (with_reducible refine LeO.ite ?_ ?_)
   | (with_reducible refine LeO.bind ?_ (fun _ => ?_))
   | exact ih0 _ _ _ _ _
   | exact gangwaylaw08_spoil.mono _ _
   | exact gangwaylaw08_symbols.mono _ _ _
   | exact gangwayref08_Read.mono _ _ _ _ _
   | exact LeO.none _
   | refine LeO.ite ?_ ?_
   | refine LeO.bind ?_ (fun _ => ?_)
set_option maxHeartbeats 8000000 in
set_option maxRecDepth 100000 in
theorem gangwaylaw08_SymtabReads.calls (k : Nat) (A0 : Option Addr) (c0 : Nat) (l0 : List Int) (A1 : Option Addr) (c1 : Nat) (l1 : List Int) (a2 : Int) (A3 : Option Addr) (c3 : Nat) (l3 : List ByteArray) (r : Bool) (w : World) (hr0 : Kd.C (Kd.int .u8) w A0 l0.length l0) (hc0 : l0.length ≤ c0) (hr1 : Kd.C (Kd.int .u8) w A1 l1.length l1) (hc1 : l1.length ≤ c1) (hr3 : Kd.C Kd.string w A3 l3.length l3) (hc3 : l3.length ≤ c3) (h : gangwaylaw08_SymtabReads.f k l0 l1 a2 l3 = some r) :
  Calls Try.prog 7 #[.slice A0 l0.length c0, .slice A1 l1.length c1, .int .i64 a2, .slice A3 l3.length c3] w fun e w' => e = .returned (.bool r) ∧ Below w.heap.size w w' := by
 have HR0 := Aside0.mk hr0
 have HC0 := Aside0.mk hc0
 clear hr0 hc0
 have HR1 := Aside0.mk hr1
 have HC1 := Aside0.mk hc1
 clear hr1 hc1
 have HR3 := Aside0.mk hr3
 have HC3 := Aside0.mk hc3
 clear hr3 hc3
 have HB := Aside0.mk (Below.refl w.heap.size w)
 have H : ((some (([] : List Int) : List Int)).bind fun y101 => (if y101.length + l0.length < 140737488355328 then ((some (y101 ++ l0 : List Int)).bind fun y104 => ((some (([] : List Int) : List Int)).bind fun y107 => (if y107.length + l1.length < 140737488355328 then ((some (y107 ++ l1 : List Int)).bind fun y110 => ((symtab_Read.f y104 y110 a2 l3).bind fun bt113 => ((gangwayref08_Read.f k l0 l1 a2 l3).bind fun bt117 => ((gangwaylaw08_symbols.f k bt113.1 bt117.1).bind fun t121 => (if t121 = true then ((gangwaylaw08_num.f bt113.2).bind fun t122 => (if t122 = bt117.2 then (if (strOfNums y104).toList = (strOfNums l0).toList then (gangwaylaw08_SymtabReads.j0 k y104 y110 bt113.1 bt117.1 ((strOfNums y110).toList != (strOfNums l1).toList)) else (gangwaylaw08_SymtabReads.j0 k y104 y110 bt113.1 bt117.1 true)) else (gangwaylaw08_SymtabReads.j0 k y104 y110 bt113.1 bt117.1 true))) else (gangwaylaw08_SymtabReads.j0 k y104 y110 bt113.1 bt117.1 true)))))) else (none)))) else (none))) = some r := h
 clear h
 obtain ⟨y101, hy101⟩ : ∃ y_ : List Int, y_ = (([] : List Int)) := ⟨_, rfl⟩
 replace H : (if y101.length + l0.length < 140737488355328 then ((some (y101 ++ l0 : List Int)).bind fun y104 => ((some (([] : List Int) : List Int)).bind fun y107 => (if y107.length + l1.length < 140737488355328 then ((some (y107 ++ l1 : List Int)).bind fun y110 => ((symtab_Read.f y104 y110 a2 l3).bind fun bt113 => ((gangwayref08_Read.f k l0 l1 a2 l3).bind fun bt117 => ((gangwaylaw08_symbols.f k bt113.1 bt117.1).bind fun t121 => (if t121 = true then ((gangwaylaw08_num.f bt113.2).bind fun t122 => (if t122 = bt117.2 then (if (strOfNums y104).toList = (strOfNums l0).toList then (gangwaylaw08_SymtabReads.j0 k y104 y110 bt113.1 bt117.1 ((strOfNums y110).toList != (strOfNums l1).toList)) else (gangwaylaw08_SymtabReads.j0 k y104 y110 bt113.1 bt117.1 true)) else (gangwaylaw08_SymtabReads.j0 k y104 y110 bt113.1 bt117.1 true))) else (gangwaylaw08_SymtabReads.j0 k y104 y110 bt113.1 bt117.1 true)))))) else (none)))) else (none)) = some r := by first | (rw [hy101]; with_reducible exact H) | (have H2_ := (Option.bind_some _ _).symm.trans H; rw [hy101]; with_reducible exact H2_) | (have H2_ := (Option.bind_some _ _).symm.trans H; with_reducible exact H2_) | with_reducible exact H | (rw [hy101]; exact H) | exact H
 have Ny101 := Aside0.mk hy101
 clear hy101
 by_cases c5 : y101.length + l0.length < 140737488355328
 ·
  rw [if_pos c5] at H
  have LMc5 := Aside0.mk c5
  clear c5
  obtain ⟨y104, hy104⟩ : ∃ y_ : List Int, y_ = (y101 ++ l0) := ⟨_, rfl⟩
  replace H : ((some (([] : List Int) : List Int)).bind fun y107 => (if y107.length + l1.length < 140737488355328 then ((some (y107 ++ l1 : List Int)).bind fun y110 => ((symtab_Read.f y104 y110 a2 l3).bind fun bt113 => ((gangwayref08_Read.f k l0 l1 a2 l3).bind fun bt117 => ((gangwaylaw08_symbols.f k bt113.1 bt117.1).bind fun t121 => (if t121 = true then ((gangwaylaw08_num.f bt113.2).bind fun t122 => (if t122 = bt117.2 then (if (strOfNums y104).toList = (strOfNums l0).toList then (gangwaylaw08_SymtabReads.j0 k y104 y110 bt113.1 bt117.1 ((strOfNums y110).toList != (strOfNums l1).toList)) else (gangwaylaw08_SymtabReads.j0 k y104 y110 bt113.1 bt117.1 true)) else (gangwaylaw08_SymtabReads.j0 k y104 y110 bt113.1 bt117.1 true))) else (gangwaylaw08_SymtabReads.j0 k y104 y110 bt113.1 bt117.1 true)))))) else (none))) = some r := by first | (rw [hy104]; with_reducible exact H) | (have H2_ := (Option.bind_some _ _).symm.trans H; rw [hy104]; with_reducible exact H2_) | (have H2_ := (Option.bind_some _ _).symm.trans H; with_reducible exact H2_) | with_reducible exact H | (rw [hy104]; exact H) | exact H
  have Ny104 := Aside0.mk hy104
  clear hy104
  obtain ⟨y107, hy107⟩ : ∃ y_ : List Int, y_ = (([] : List Int)) := ⟨_, rfl⟩
  replace H : (if y107.length + l1.length < 140737488355328 then ((some (y107 ++ l1 : List Int)).bind fun y110 => ((symtab_Read.f y104 y110 a2 l3).bind fun bt113 => ((gangwayref08_Read.f k l0 l1 a2 l3).bind fun bt117 => ((gangwaylaw08_symbols.f k bt113.1 bt117.1).bind fun t121 => (if t121 = true then ((gangwaylaw08_num.f bt113.2).bind fun t122 => (if t122 = bt117.2 then (if (strOfNums y104).toList = (strOfNums l0).toList then (gangwaylaw08_SymtabReads.j0 k y104 y110 bt113.1 bt117.1 ((strOfNums y110).toList != (strOfNums l1).toList)) else (gangwaylaw08_SymtabReads.j0 k y104 y110 bt113.1 bt117.1 true)) else (gangwaylaw08_SymtabReads.j0 k y104 y110 bt113.1 bt117.1 true))) else (gangwaylaw08_SymtabReads.j0 k y104 y110 bt113.1 bt117.1 true)))))) else (none)) = some r := by first | (rw [hy107]; with_reducible exact H) | (have H2_ := (Option.bind_some _ _).symm.trans H; rw [hy107]; with_reducible exact H2_) | (have H2_ := (Option.bind_some _ _).symm.trans H; with_reducible exact H2_) | with_reducible exact H | (rw [hy107]; exact H) | exact H
  have Ny107 := Aside0.mk hy107
  clear hy107
  by_cases c6 : y107.length + l1.length < 140737488355328
  ·
   rw [if_pos c6] at H
   have LMc6 := Aside0.mk c6
   clear c6
   obtain ⟨y110, hy110⟩ : ∃ y_ : List Int, y_ = (y107 ++ l1) := ⟨_, rfl⟩
   replace H : ((symtab_Read.f y104 y110 a2 l3).bind fun bt113 => ((gangwayref08_Read.f k l0 l1 a2 l3).bind fun bt117 => ((gangwaylaw08_symbols.f k bt113.1 bt117.1).bind fun t121 => (if t121 = true then ((gangwaylaw08_num.f bt113.2).bind fun t122 => (if t122 = bt117.2 then (if (strOfNums y104).toList = (strOfNums l0).toList then (gangwaylaw08_SymtabReads.j0 k y104 y110 bt113.1 bt117.1 ((strOfNums y110).toList != (strOfNums l1).toList)) else (gangwaylaw08_SymtabReads.j0 k y104 y110 bt113.1 bt117.1 true)) else (gangwaylaw08_SymtabReads.j0 k y104 y110 bt113.1 bt117.1 true))) else (gangwaylaw08_SymtabReads.j0 k y104 y110 bt113.1 bt117.1 true))))) = some r := by first | (rw [hy110]; with_reducible exact H) | (have H2_ := (Option.bind_some _ _).symm.trans H; rw [hy110]; with_reducible exact H2_) | (have H2_ := (Option.bind_some _ _).symm.trans H; with_reducible exact H2_) | with_reducible exact H | (rw [hy110]; exact H) | exact H
   have Ny110 := Aside0.mk hy110
   clear hy110
   replace H := Option.bind_eq_some_iff.mp H
   obtain ⟨⟨t113, t114⟩, A70, H⟩ := H
   replace H : ((gangwayref08_Read.f k l0 l1 a2 l3).bind fun bt117 => ((gangwaylaw08_symbols.f k t113 bt117.1).bind fun t121 => (if t121 = true then ((gangwaylaw08_num.f t114).bind fun t122 => (if t122 = bt117.2 then (if (strOfNums y104).toList = (strOfNums l0).toList then (gangwaylaw08_SymtabReads.j0 k y104 y110 t113 bt117.1 ((strOfNums y110).toList != (strOfNums l1).toList)) else (gangwaylaw08_SymtabReads.j0 k y104 y110 t113 bt117.1 true)) else (gangwaylaw08_SymtabReads.j0 k y104 y110 t113 bt117.1 true))) else (gangwaylaw08_SymtabReads.j0 k y104 y110 t113 bt117.1 true)))) = some r := H
   have A7 := Aside0.mk A70
   clear A70
   replace H := Option.bind_eq_some_iff.mp H
   obtain ⟨⟨t117, t118⟩, A80, H⟩ := H
   replace H : ((gangwaylaw08_symbols.f k t113 t117).bind fun t121 => (if t121 = true then ((gangwaylaw08_num.f t114).bind fun t122 => (if t122 = t118 then (if (strOfNums y104).toList = (strOfNums l0).toList then (gangwaylaw08_SymtabReads.j0 k y104 y110 t113 t117 ((strOfNums y110).toList != (strOfNums l1).toList)) else (gangwaylaw08_SymtabReads.j0 k y104 y110 t113 t117 true)) else (gangwaylaw08_SymtabReads.j0 k y104 y110 t113 t117 true))) else (gangwaylaw08_SymtabReads.j0 k y104 y110 t113 t117 true))) = some r := H
   have A8 := Aside0.mk A80
   clear A80
   have HC9 := Aside0.mk H
   clear H
   go_enter Try.func7, Try.ntmps7
   go_upto_region 5 with (first | ((with_reducible refine gate_dst (N := 15) rfl ?_); refine Kd.R_lit (Kd.int .u8) _ 5 ?hg (N := 15) ?hd (xs := ([] : List Int)) (inner := []) (ok := fun _ => True) (okp := fun _ => True) ?hr ?hp (fun _ hk => hk) trivial (Below.refl _ _) (Nat.le_refl _) (by simp) ?_; (case hd => rfl); (case hg => rfl); (case hr => first | (go_simp; done) | (go_simp; rfl)); (case hp => exact (Reps.none _ _)); intro v102 w10 ho11 hb hg_ hnew_; clear hg_ hnew_; (first | rw [← Ny101.out] at ho11 | (simp only [Int.reduceToNat] at ho11; rw [← Ny101.out] at ho11)); have n0_ := Aside0.mk (Kd.R_lower ho11 (below_size (by repeat (with_reducible first | exact HB.out | apply below_alloc | apply pw_below_drewN | apply below_drew1)))); have n1_ := Aside0.mk (below_step (by repeat (with_reducible first | exact HB.out | apply below_alloc | apply pw_below_drewN | apply below_drew1)) hb); clear HB; have HO103 := n0_; have HB := n1_; clear n0_ n1_; clear hb ho11) | ((with_reducible refine gate_builtin (b := .append) (xs := #[.tmp 15, .tmp 16]) rfl ?_); at_builtin; refine Kd.R_append_rows (Kd.int .u8) (w0 := w) w.heap.size rfl (.tmp 15) (.tmp 16) 24 5 (.int .u8 0) 1 rfl Try.underlying24 info5 rfl (by decide) (by omega) v102 y101 l0 _ _ _ (fun _ => True) (fun _ => False) rfl rfl ?aO ?aR (fun _ _ h => h) (fun _ h => h.elim) ?aF ?aB ?aS ?aL ?_; (case aR => repeat (first | exact (Kd.C_below HR0.out HB.out) | (with_reducible refine Kd.C_alloc ?_ _) | (with_reducible refine Kd.C_drewN ?_ _) | (with_reducible refine Kd.C_drew ?_))); (case aB => exact (by repeat (with_reducible first | exact HB.out | apply below_alloc | apply pw_below_drewN | apply below_drew1))); (case aF => exact (fun _ _ => trivial)); (case aO => exact (by (with_reducible repeat (first | apply Kd.R_alloc | apply Kd.R_drewN | apply Kd.R_drew)); exact HO103.out)); (case aS => exact (below_size (by repeat (with_reducible first | exact HB.out | apply below_alloc | apply pw_below_drewN | apply below_drew1)))); (case aL => have := LMc5.out; omega); intro v105 w12 ho hb hg hat; rw [← Ny104.out] at ho; have n0_ := Aside0.mk (hb); have n1_ := Aside0.mk (ho); clear HB; clear HO103; have HB := n0_; have HO106 := n1_; clear n0_ n1_; clear ho hb hg hat) | ((with_reducible refine gate_dst (N := 18) rfl ?_); refine Kd.R_lit (Kd.int .u8) _ 5 ?hg (N := 18) ?hd (xs := ([] : List Int)) (inner := []) (ok := fun _ => True) (okp := fun _ => True) ?hr ?hp (fun _ hk => hk) trivial (Below.refl _ _) (Nat.le_refl _) (by simp) ?_; (case hd => rfl); (case hg => rfl); (case hr => first | (go_simp; done) | (go_simp; rfl)); (case hp => exact (Reps.none _ _)); intro v108 w13 ho14 hb hg_ hnew_; clear hg_ hnew_; (first | rw [← Ny107.out] at ho14 | (simp only [Int.reduceToNat] at ho14; rw [← Ny107.out] at ho14)); have n0_ := Aside0.mk (Kd.R_elder' (by (with_reducible repeat (first | apply Kd.R_alloc | apply Kd.R_drewN | apply Kd.R_drew)); exact HO106.out) (Kd.R_base ho14) hb); have n1_ := Aside0.mk (Kd.R_lower (Kd.R_new' ho14 (Kd.R_lt (by (with_reducible repeat (first | apply Kd.R_alloc | apply Kd.R_drewN | apply Kd.R_drew)); exact HO106.out))) (below_size (by repeat (with_reducible first | exact HB.out | apply below_alloc | apply pw_below_drewN | apply below_drew1)))); have n2_ := Aside0.mk (below_step (by repeat (with_reducible first | exact HB.out | apply below_alloc | apply pw_below_drewN | apply below_drew1)) hb); clear HO106; clear HB; have HO106 := n0_; have HO109 := n1_; have HB := n2_; clear n0_ n1_ n2_; clear hb ho14) | ((with_reducible refine gate_builtin (b := .append) (xs := #[.tmp 18, .tmp 19]) rfl ?_); at_builtin; refine Kd.R_append_rows (Kd.int .u8) (w0 := w) w.heap.size rfl (.tmp 18) (.tmp 19) 24 5 (.int .u8 0) 1 rfl Try.underlying24 info5 rfl (by decide) (by omega) v108 y107 l1 _ _ _ (fun k_ => some k_ ≠ (v105 : Value).ownBlock) (fun _ => False) rfl rfl ?aO ?aR (fun _ _ h => h) (fun _ h => h.elim) ?aF ?aB ?aS ?aL ?_; (case aR => repeat (first | exact (Kd.C_below HR1.out HB.out) | (with_reducible refine Kd.C_alloc ?_ _) | (with_reducible refine Kd.C_drewN ?_ _) | (with_reducible refine Kd.C_drew ?_))); (case aB => exact (by repeat (with_reducible first | exact HB.out | apply below_alloc | apply pw_below_drewN | apply below_drew1))); (case aF => exact (fun k_ hk => Kd.fresh' (Kd.R_lt (by (with_reducible repeat (first | apply Kd.R_alloc | apply Kd.R_drewN | apply Kd.R_drew)); exact HO106.out)) k_ hk)); (case aO => exact (by (with_reducible repeat (first | apply Kd.R_alloc | apply Kd.R_drewN | apply Kd.R_drew)); exact Kd.R_mono HO109.out (fun _ hk => hk.2))); (case aS => exact (below_size (by repeat (with_reducible first | exact HB.out | apply below_alloc | apply pw_below_drewN | apply below_drew1)))); (case aL => have := LMc6.out; omega); intro v111 w15 ho hb hg hat; rw [← Ny110.out] at ho; have n0_ := Aside0.mk (Kd.R_after (ok := (fun _ => True)) (by (with_reducible repeat (first | apply Kd.R_alloc | apply Kd.R_drewN | apply Kd.R_drew)); exact HO106.out) hg hat); have n1_ := Aside0.mk (hb); have n2_ := Aside0.mk (ho); clear HO106; clear HB; clear HO109; have HO106 := n0_; have HB := n1_; have HO112 := n2_; clear n0_ n1_ n2_; clear ho hb hg hat; obtain ⟨Ao16, co16, eo16⟩ := Kd.R_slice HO106.out; subst eo16; obtain ⟨Ao17, co17, eo17⟩ := Kd.R_slice HO112.out; subst eo17) | ((with_reducible refine gate_callee (f := 26) rfl ?_); refine goesL_ (some 26) rfl rfl Try.func26 (by kernel_rfl) rfl #[.slice Ao16 y104.length co16, .slice Ao17 y110.length co17, .int .i64 a2, .slice A3 l3.length c3] rfl (by (try simp only [List.map_toArray, List.map_cons, List.map_nil]); first | done | rfl | (simp only [List.length_drop, List.length_take]; rfl)) ?_; (with_reducible refine (symtab_Read.calls _ _ y104 _ _ y110 a2 _ _ l3 t113 t114 _ ?side1 ?side2 ?side3 ?side4 ?side5 ?side6 A7.out).mono ?_); (case side1 => repeat (first | exact (Kd.R_reads' HO106.out).2.2 | (with_reducible refine Kd.C_alloc ?_ _) | (with_reducible refine Kd.C_drewN ?_ _) | (with_reducible refine Kd.C_drew ?_))); (case side2 => exact (Kd.R_reads' HO106.out).2.1); (case side3 => repeat (first | exact (Kd.R_reads' HO112.out).2.2 | (with_reducible refine Kd.C_alloc ?_ _) | (with_reducible refine Kd.C_drewN ?_ _) | (with_reducible refine Kd.C_drew ?_))); (case side4 => exact (Kd.R_reads' HO112.out).2.1); (case side5 => repeat (first | exact (Kd.C_below HR3.out HB.out) | (with_reducible refine Kd.C_alloc ?_ _) | (with_reducible refine Kd.C_drewN ?_ _) | (with_reducible refine Kd.C_drew ?_))); (case side6 => exact HC3.out); rintro e w18 ⟨v115, rfl, ho0, hb⟩; refine ⟨_, rfl, ?_⟩; have n0_ := Aside0.mk (Kd.R_below (by (with_reducible repeat (first | apply Kd.R_alloc | apply Kd.R_drewN | apply Kd.R_drew)); exact HO106.out) hb); have n1_ := Aside0.mk (Kd.R_below (by (with_reducible repeat (first | apply Kd.R_alloc | apply Kd.R_drewN | apply Kd.R_drew)); exact HO112.out) hb); have n2_ := Aside0.mk (Kd.R_lower ho0 (below_size (by repeat (with_reducible first | exact HB.out | apply below_alloc | apply pw_below_drewN | apply below_drew1)))); have n3_ := Aside0.mk (below_step (by repeat (with_reducible first | exact HB.out | apply below_alloc | apply pw_below_drewN | apply below_drew1)) hb); clear HO106; clear HO112; clear HB; have HO106 := n0_; have HO112 := n1_; have HO116 := n2_; have HB := n3_; clear n0_ n1_ n2_ n3_; (try clear hb); (try clear hb2); (try clear hk); (try clear hi); (try clear ho0)) | ((with_reducible refine gate_callee (f := 27) rfl ?_); refine goesL_ (some 34) rfl rfl Try.func27 (by kernel_rfl) rfl #[.slice A0 l0.length c0, .slice A1 l1.length c1, .int .i64 a2, .slice A3 l3.length c3] rfl (by (try simp only [List.map_toArray, List.map_cons, List.map_nil]); first | done | rfl | (simp only [List.length_drop, List.length_take]; rfl)) ?_; (with_reducible refine (gangwayref08_Read.calls k _ _ l0 _ _ l1 a2 _ _ l3 t117 t118 _ ?side1 ?side2 ?side3 ?side4 ?side5 ?side6 A8.out).mono ?_); (case side1 => repeat (first | exact (Kd.C_below HR0.out HB.out) | (with_reducible refine Kd.C_alloc ?_ _) | (with_reducible refine Kd.C_drewN ?_ _) | (with_reducible refine Kd.C_drew ?_))); (case side2 => exact HC0.out); (case side3 => repeat (first | exact (Kd.C_below HR1.out HB.out) | (with_reducible refine Kd.C_alloc ?_ _) | (with_reducible refine Kd.C_drewN ?_ _) | (with_reducible refine Kd.C_drew ?_))); (case side4 => exact HC1.out); (case side5 => repeat (first | exact (Kd.C_below HR3.out HB.out) | (with_reducible refine Kd.C_alloc ?_ _) | (with_reducible refine Kd.C_drewN ?_ _) | (with_reducible refine Kd.C_drew ?_))); (case side6 => exact HC3.out); rintro e w19 ⟨v119, rfl, ho0, hb⟩; refine ⟨_, rfl, ?_⟩; have n0_ := Aside0.mk (Kd.R_below (by (with_reducible repeat (first | apply Kd.R_alloc | apply Kd.R_drewN | apply Kd.R_drew)); exact HO106.out) hb); have n1_ := Aside0.mk (Kd.R_below (by (with_reducible repeat (first | apply Kd.R_alloc | apply Kd.R_drewN | apply Kd.R_drew)); exact HO112.out) hb); have n2_ := Aside0.mk (Kd.R_elder' (by (with_reducible repeat (first | apply Kd.R_alloc | apply Kd.R_drewN | apply Kd.R_drew)); exact HO116.out) (Kd.R_base ho0) hb); have n3_ := Aside0.mk (Kd.R_lower (Kd.R_new' ho0 (Kd.R_lt (by (with_reducible repeat (first | apply Kd.R_alloc | apply Kd.R_drewN | apply Kd.R_drew)); exact HO116.out))) (below_size (by repeat (with_reducible first | exact HB.out | apply below_alloc | apply pw_below_drewN | apply below_drew1)))); have n4_ := Aside0.mk (below_step (by repeat (with_reducible first | exact HB.out | apply below_alloc | apply pw_below_drewN | apply below_drew1)) hb); clear HO106; clear HO112; clear HO116; clear HB; have HO106 := n0_; have HO112 := n1_; have HO116 := n2_; have HO120 := n3_; have HB := n4_; clear n0_ n1_ n2_ n3_ n4_; (try clear hb); (try clear hb2); (try clear hk); (try clear hi); (try clear ho0)))
   (try simp only [Act.put, List.setIfInBounds_toArray, List.set_cons_zero, List.set_cons_succ])
   go_cut [60] (fun v60 wc => ∃ (kq : Nat) (x60_8 : Bool), v60 = .bool x60_8 ∧ Aside0 (gangwaylaw08_SymtabReads.j0 kq y104 y110 t113 t117 x60_8 = some r) ∧ Aside0 (kq ≤ k) ∧ Aside0 (Kd.R (Kd.int .u8) 5 wc w.heap.size (fun k_ => some k_ ≠ ((.slice Ao17 y110.length co17) : Value).ownBlock) (.slice Ao16 y104.length co16) y104) ∧ Aside0 (Kd.R (Kd.int .u8) 5 wc w.heap.size (fun k_ => some k_ ≠ ((.slice Ao16 y104.length co16) : Value).ownBlock) (.slice Ao17 y110.length co17) y110) ∧ Aside0 (Kd.R k58 58 wc w.heap.size (fun k_ => some k_ ≠ (v119 : Value).ownBlock) v115 t113) ∧ Aside0 (Kd.R k58 58 wc w.heap.size (fun k_ => some k_ ≠ (v115 : Value).ownBlock) v119 t117) ∧ Aside0 (Below w.heap.size w wc))
   case first =>
    have H := HC9.out
    clear HC9
    replace H := Option.bind_eq_some_iff.mp H
    obtain ⟨t121, A200, H⟩ := H
    replace H : (if t121 = true then ((gangwaylaw08_num.f t114).bind fun t122 => (if t122 = t118 then (if (strOfNums y104).toList = (strOfNums l0).toList then (gangwaylaw08_SymtabReads.j0 k y104 y110 t113 t117 ((strOfNums y110).toList != (strOfNums l1).toList)) else (gangwaylaw08_SymtabReads.j0 k y104 y110 t113 t117 true)) else (gangwaylaw08_SymtabReads.j0 k y104 y110 t113 t117 true))) else (gangwaylaw08_SymtabReads.j0 k y104 y110 t113 t117 true)) = some r := H
    have A20 := Aside0.mk A200
    clear A200
    by_cases c21 : t121 = true
    ·
     subst c21
     have H1 : ((gangwaylaw08_num.f t114).bind fun t122 => (if t122 = t118 then (if (strOfNums y104).toList = (strOfNums l0).toList then (gangwaylaw08_SymtabReads.j0 k y104 y110 t113 t117 ((strOfNums y110).toList != (strOfNums l1).toList)) else (gangwaylaw08_SymtabReads.j0 k y104 y110 t113 t117 true)) else (gangwaylaw08_SymtabReads.j0 k y104 y110 t113 t117 true))) = some r := by rw [if_pos rfl] at H; exact H
     clear H
     have H := H1
     clear H1
     replace H := Option.bind_eq_some_iff.mp H
     obtain ⟨t122, A220, H⟩ := H
     replace H : (if t122 = t118 then (if (strOfNums y104).toList = (strOfNums l0).toList then (gangwaylaw08_SymtabReads.j0 k y104 y110 t113 t117 ((strOfNums y110).toList != (strOfNums l1).toList)) else (gangwaylaw08_SymtabReads.j0 k y104 y110 t113 t117 true)) else (gangwaylaw08_SymtabReads.j0 k y104 y110 t113 t117 true)) = some r := H
     have A22 := Aside0.mk A220
     clear A220
     by_cases c23 : t122 = t118
     ·
      rw [if_pos c23] at H
      have c23b0 : (t122 == t118) = true := beq_iff_eq.mpr c23
      have c23b1 : (t122 != t118) = false := bne_eq_false_iff_eq.mpr c23
      clear c23
      (first | rw [c23b0] | (simp only [i64_w, i32_w]; rw [c23b0]) | skip)
      by_cases c24 : (strOfNums y104).toList = (strOfNums l0).toList
      ·
       rw [if_pos c24] at H
       have c24b0 : ((strOfNums y104).toList == (strOfNums l0).toList) = true := beq_iff_eq.mpr c24
       have c24b1 : ((strOfNums y104).toList != (strOfNums l0).toList) = false := bne_eq_false_iff_eq.mpr c24
       clear c24
       have H' := Aside0.mk H
       clear H
       obtain ⟨Ao25, co25, eo25⟩ := Kd.R_slice HO116.out
       subst eo25
       obtain ⟨Ao26, co26, eo26⟩ := Kd.R_slice HO120.out
       subst eo26
       go_wp2_with (first | ((with_reducible refine gate_callee (f := 25) rfl ?_); refine goesL_ (some 39) rfl rfl Try.func25 (by kernel_rfl) rfl #[.slice Ao25 t113.length co25, .slice Ao26 t117.length co26] rfl (by (try simp only [List.map_toArray, List.map_cons, List.map_nil]); first | done | rfl | (simp only [List.length_drop, List.length_take]; rfl)) ?_; (with_reducible refine (gangwaylaw08_symbols.calls k _ _ t113 _ _ t117 true _ ?side1 ?side2 ?side3 ?side4 A20.out).mono ?_); (case side1 => repeat (first | exact (Kd.R_reads' HO116.out).2.2 | (with_reducible refine Kd.C_alloc ?_ _) | (with_reducible refine Kd.C_drewN ?_ _) | (with_reducible refine Kd.C_drew ?_))); (case side2 => exact (Kd.R_reads' HO116.out).2.1); (case side3 => repeat (first | exact (Kd.R_reads' HO120.out).2.2 | (with_reducible refine Kd.C_alloc ?_ _) | (with_reducible refine Kd.C_drewN ?_ _) | (with_reducible refine Kd.C_drew ?_))); (case side4 => exact (Kd.R_reads' HO120.out).2.1); rintro e w' ⟨rfl, ⟨nd, rfl⟩⟩; refine ⟨_, rfl, ?_⟩) | (go_at_call 17; (with_reducible refine (gangwaylaw08_num.calls t114 t122 _ A22.out).mono ?_); rintro e w' ⟨rfl, ⟨nd, rfl⟩⟩; have hcv27 := own_string (P := Try.prog) Try.underlying24 Try.underlying5 Try.underlying9 (Kd.own_of_R HO106.out); have hcv28 := fun (m_ : Nat) => own_string (P := Try.prog) Try.underlying24 Try.underlying5 Try.underlying9 (Kd.own_of_R (Kd.R_drewN HO106.out m_)); have hcv29 := Kd.C_string (P := Try.prog) (A := A0) (c := c0) Try.underlying24 Try.underlying5 Try.underlying9 (Kd.C_below HR0.out HB.out); have hcv30 := fun (m_ : Nat) => Kd.C_string (P := Try.prog) (A := A0) (c := c0) Try.underlying24 Try.underlying5 Try.underlying9 (Kd.C_drewN (Kd.C_below HR0.out HB.out) m_); have hcv31 := hcv29; have hcv32 := hcv30; (try simp only [List.length_drop, List.length_take] at hcv31); (try simp only [List.length_drop, List.length_take] at hcv32); have hcv34 := own_string (P := Try.prog) Try.underlying24 Try.underlying5 Try.underlying9 (Kd.own_of_R HO112.out); have hcv35 := fun (m_ : Nat) => own_string (P := Try.prog) Try.underlying24 Try.underlying5 Try.underlying9 (Kd.own_of_R (Kd.R_drewN HO112.out m_)); have hcv36 := Kd.C_string (P := Try.prog) (A := A1) (c := c1) Try.underlying24 Try.underlying5 Try.underlying9 (Kd.C_below HR1.out HB.out); have hcv37 := fun (m_ : Nat) => Kd.C_string (P := Try.prog) (A := A1) (c := c1) Try.underlying24 Try.underlying5 Try.underlying9 (Kd.C_drewN (Kd.C_below HR1.out HB.out) m_); have hcv38 := hcv36; have hcv39 := hcv37; (try simp only [List.length_drop, List.length_take] at hcv38); (try simp only [List.length_drop, List.length_take] at hcv39)))
       go_meet
       case rel => exact ⟨_, (((strOfNums y110).toList != (strOfNums l1).toList)), (by first | rfl | (simp; done) | (simp [*]; done) | (simp [show ∀ l_ : List UInt8, (l_ != []) = !l_.isEmpty from fun l_ => by cases l_ <;> rfl]; done) | (congr 1; refine congr (congrArg (Go.bits _ _) ?_) ?_ <;> omega)), H', ⟨by first | omega | exact Nat.le_refl _⟩, ⟨by (with_reducible repeat (first | apply Kd.R_alloc | apply Kd.R_drewN | apply Kd.R_drew)); exact Kd.R_mono HO106.out (fun _ hk => hk.2)⟩, ⟨by (with_reducible repeat (first | apply Kd.R_alloc | apply Kd.R_drewN | apply Kd.R_drew)); exact HO112.out⟩, ⟨by (with_reducible repeat (first | apply Kd.R_alloc | apply Kd.R_drewN | apply Kd.R_drew)); exact Kd.R_mono HO116.out (fun _ hk => hk.2)⟩, ⟨by (with_reducible repeat (first | apply Kd.R_alloc | apply Kd.R_drewN | apply Kd.R_drew)); exact Kd.R_mono HO120.out (fun _ hk => hk.2)⟩, ⟨by repeat (with_reducible first | exact HB.out | apply below_alloc | apply pw_below_drewN | apply below_drew1)⟩⟩
      ·
       rw [if_neg c24] at H
       have c24b0 : ((strOfNums y104).toList == (strOfNums l0).toList) = false := beq_eq_false_iff_ne.mpr c24
       have c24b1 : ((strOfNums y104).toList != (strOfNums l0).toList) = true := bne_iff_ne.mpr c24
       have H' := Aside0.mk H
       clear H
       obtain ⟨Ao41, co41, eo41⟩ := Kd.R_slice HO116.out
       subst eo41
       obtain ⟨Ao42, co42, eo42⟩ := Kd.R_slice HO120.out
       subst eo42
       go_wp2_with (first | ((with_reducible refine gate_callee (f := 25) rfl ?_); refine goesL_ (some 39) rfl rfl Try.func25 (by kernel_rfl) rfl #[.slice Ao41 t113.length co41, .slice Ao42 t117.length co42] rfl (by (try simp only [List.map_toArray, List.map_cons, List.map_nil]); first | done | rfl | (simp only [List.length_drop, List.length_take]; rfl)) ?_; (with_reducible refine (gangwaylaw08_symbols.calls k _ _ t113 _ _ t117 true _ ?side1 ?side2 ?side3 ?side4 A20.out).mono ?_); (case side1 => repeat (first | exact (Kd.R_reads' HO116.out).2.2 | (with_reducible refine Kd.C_alloc ?_ _) | (with_reducible refine Kd.C_drewN ?_ _) | (with_reducible refine Kd.C_drew ?_))); (case side2 => exact (Kd.R_reads' HO116.out).2.1); (case side3 => repeat (first | exact (Kd.R_reads' HO120.out).2.2 | (with_reducible refine Kd.C_alloc ?_ _) | (with_reducible refine Kd.C_drewN ?_ _) | (with_reducible refine Kd.C_drew ?_))); (case side4 => exact (Kd.R_reads' HO120.out).2.1); rintro e w' ⟨rfl, ⟨nd, rfl⟩⟩; refine ⟨_, rfl, ?_⟩) | (go_at_call 17; (with_reducible refine (gangwaylaw08_num.calls t114 t122 _ A22.out).mono ?_); rintro e w' ⟨rfl, ⟨nd, rfl⟩⟩; have hcv43 := own_string (P := Try.prog) Try.underlying24 Try.underlying5 Try.underlying9 (Kd.own_of_R HO106.out); have hcv44 := fun (m_ : Nat) => own_string (P := Try.prog) Try.underlying24 Try.underlying5 Try.underlying9 (Kd.own_of_R (Kd.R_drewN HO106.out m_)); have hcv45 := Kd.C_string (P := Try.prog) (A := A0) (c := c0) Try.underlying24 Try.underlying5 Try.underlying9 (Kd.C_below HR0.out HB.out); have hcv46 := fun (m_ : Nat) => Kd.C_string (P := Try.prog) (A := A0) (c := c0) Try.underlying24 Try.underlying5 Try.underlying9 (Kd.C_drewN (Kd.C_below HR0.out HB.out) m_); have hcv47 := hcv45; have hcv48 := hcv46; (try simp only [List.length_drop, List.length_take] at hcv47); (try simp only [List.length_drop, List.length_take] at hcv48)))
       go_meet
       case rel => exact ⟨_, (true), (by first | rfl | (simp; done) | (simp [*]; done) | (simp [show ∀ l_ : List UInt8, (l_ != []) = !l_.isEmpty from fun l_ => by cases l_ <;> rfl]; done) | (congr 1; refine congr (congrArg (Go.bits _ _) ?_) ?_ <;> omega)), H', ⟨by first | omega | exact Nat.le_refl _⟩, ⟨by (with_reducible repeat (first | apply Kd.R_alloc | apply Kd.R_drewN | apply Kd.R_drew)); exact Kd.R_mono HO106.out (fun _ hk => hk.2)⟩, ⟨by (with_reducible repeat (first | apply Kd.R_alloc | apply Kd.R_drewN | apply Kd.R_drew)); exact HO112.out⟩, ⟨by (with_reducible repeat (first | apply Kd.R_alloc | apply Kd.R_drewN | apply Kd.R_drew)); exact Kd.R_mono HO116.out (fun _ hk => hk.2)⟩, ⟨by (with_reducible repeat (first | apply Kd.R_alloc | apply Kd.R_drewN | apply Kd.R_drew)); exact Kd.R_mono HO120.out (fun _ hk => hk.2)⟩, ⟨by repeat (with_reducible first | exact HB.out | apply below_alloc | apply pw_below_drewN | apply below_drew1)⟩⟩
     ·
      rw [if_neg c23] at H
      have c23b0 : (t122 == t118) = false := beq_eq_false_iff_ne.mpr c23
      have c23b1 : (t122 != t118) = true := bne_iff_ne.mpr c23
      (first | rw [c23b0] | (simp only [i64_w, i32_w]; rw [c23b0]) | skip)
      have H' := Aside0.mk H
      clear H
      obtain ⟨Ao50, co50, eo50⟩ := Kd.R_slice HO116.out
      subst eo50
      obtain ⟨Ao51, co51, eo51⟩ := Kd.R_slice HO120.out
      subst eo51
      go_wp2_with (first | ((with_reducible refine gate_callee (f := 25) rfl ?_); refine goesL_ (some 39) rfl rfl Try.func25 (by kernel_rfl) rfl #[.slice Ao50 t113.length co50, .slice Ao51 t117.length co51] rfl (by (try simp only [List.map_toArray, List.map_cons, List.map_nil]); first | done | rfl | (simp only [List.length_drop, List.length_take]; rfl)) ?_; (with_reducible refine (gangwaylaw08_symbols.calls k _ _ t113 _ _ t117 true _ ?side1 ?side2 ?side3 ?side4 A20.out).mono ?_); (case side1 => repeat (first | exact (Kd.R_reads' HO116.out).2.2 | (with_reducible refine Kd.C_alloc ?_ _) | (with_reducible refine Kd.C_drewN ?_ _) | (with_reducible refine Kd.C_drew ?_))); (case side2 => exact (Kd.R_reads' HO116.out).2.1); (case side3 => repeat (first | exact (Kd.R_reads' HO120.out).2.2 | (with_reducible refine Kd.C_alloc ?_ _) | (with_reducible refine Kd.C_drewN ?_ _) | (with_reducible refine Kd.C_drew ?_))); (case side4 => exact (Kd.R_reads' HO120.out).2.1); rintro e w' ⟨rfl, ⟨nd, rfl⟩⟩; refine ⟨_, rfl, ?_⟩) | (go_at_call 17; (with_reducible refine (gangwaylaw08_num.calls t114 t122 _ A22.out).mono ?_); rintro e w' ⟨rfl, ⟨nd, rfl⟩⟩))
      go_meet
      case rel => exact ⟨_, (true), (by first | rfl | (simp; done) | (simp [*]; done) | (simp [show ∀ l_ : List UInt8, (l_ != []) = !l_.isEmpty from fun l_ => by cases l_ <;> rfl]; done) | (congr 1; refine congr (congrArg (Go.bits _ _) ?_) ?_ <;> omega)), H', ⟨by first | omega | exact Nat.le_refl _⟩, ⟨by (with_reducible repeat (first | apply Kd.R_alloc | apply Kd.R_drewN | apply Kd.R_drew)); exact Kd.R_mono HO106.out (fun _ hk => hk.2)⟩, ⟨by (with_reducible repeat (first | apply Kd.R_alloc | apply Kd.R_drewN | apply Kd.R_drew)); exact HO112.out⟩, ⟨by (with_reducible repeat (first | apply Kd.R_alloc | apply Kd.R_drewN | apply Kd.R_drew)); exact Kd.R_mono HO116.out (fun _ hk => hk.2)⟩, ⟨by (with_reducible repeat (first | apply Kd.R_alloc | apply Kd.R_drewN | apply Kd.R_drew)); exact Kd.R_mono HO120.out (fun _ hk => hk.2)⟩, ⟨by repeat (with_reducible first | exact HB.out | apply below_alloc | apply pw_below_drewN | apply below_drew1)⟩⟩
    ·
     replace c21 := Bool.eq_false_iff.mpr c21
     subst c21
     have H1 : (gangwaylaw08_SymtabReads.j0 k y104 y110 t113 t117 true) = some r := by rw [if_neg (show ¬ (false = true) by decide)] at H; exact H
     clear H
     have H := H1
     clear H1
     have H' := Aside0.mk H
     clear H
     obtain ⟨Ao52, co52, eo52⟩ := Kd.R_slice HO116.out
     subst eo52
     obtain ⟨Ao53, co53, eo53⟩ := Kd.R_slice HO120.out
     subst eo53
     go_wp2_with (first | ((with_reducible refine gate_callee (f := 25) rfl ?_); refine goesL_ (some 39) rfl rfl Try.func25 (by kernel_rfl) rfl #[.slice Ao52 t113.length co52, .slice Ao53 t117.length co53] rfl (by (try simp only [List.map_toArray, List.map_cons, List.map_nil]); first | done | rfl | (simp only [List.length_drop, List.length_take]; rfl)) ?_; (with_reducible refine (gangwaylaw08_symbols.calls k _ _ t113 _ _ t117 false _ ?side1 ?side2 ?side3 ?side4 A20.out).mono ?_); (case side1 => repeat (first | exact (Kd.R_reads' HO116.out).2.2 | (with_reducible refine Kd.C_alloc ?_ _) | (with_reducible refine Kd.C_drewN ?_ _) | (with_reducible refine Kd.C_drew ?_))); (case side2 => exact (Kd.R_reads' HO116.out).2.1); (case side3 => repeat (first | exact (Kd.R_reads' HO120.out).2.2 | (with_reducible refine Kd.C_alloc ?_ _) | (with_reducible refine Kd.C_drewN ?_ _) | (with_reducible refine Kd.C_drew ?_))); (case side4 => exact (Kd.R_reads' HO120.out).2.1); rintro e w' ⟨rfl, ⟨nd, rfl⟩⟩; refine ⟨_, rfl, ?_⟩))
     go_meet
     case rel => exact ⟨_, (true), (by first | rfl | (simp; done) | (simp [*]; done) | (simp [show ∀ l_ : List UInt8, (l_ != []) = !l_.isEmpty from fun l_ => by cases l_ <;> rfl]; done) | (congr 1; refine congr (congrArg (Go.bits _ _) ?_) ?_ <;> omega)), H', ⟨by first | omega | exact Nat.le_refl _⟩, ⟨by (with_reducible repeat (first | apply Kd.R_alloc | apply Kd.R_drewN | apply Kd.R_drew)); exact Kd.R_mono HO106.out (fun _ hk => hk.2)⟩, ⟨by (with_reducible repeat (first | apply Kd.R_alloc | apply Kd.R_drewN | apply Kd.R_drew)); exact HO112.out⟩, ⟨by (with_reducible repeat (first | apply Kd.R_alloc | apply Kd.R_drewN | apply Kd.R_drew)); exact Kd.R_mono HO116.out (fun _ hk => hk.2)⟩, ⟨by (with_reducible repeat (first | apply Kd.R_alloc | apply Kd.R_drewN | apply Kd.R_drew)); exact Kd.R_mono HO120.out (fun _ hk => hk.2)⟩, ⟨by repeat (with_reducible first | exact HB.out | apply below_alloc | apply pw_below_drewN | apply below_drew1)⟩⟩
   case rest =>
    clear HC9
    try clear c1
    try clear c2
    try clear p2
    try clear hcv2
    try clear c3
    try clear hcv3
    try clear hcv4
    try clear c5
    try clear c6
    try clear c7
    try clear c21
    try clear c23
    try clear c23b0
    try clear c23b1
    try clear c24
    try clear c24b0
    try clear c24b1
    try clear c25
    try clear c26
    try clear c27
    try clear hcv27
    try clear hcv28
    try clear hcv29
    try clear hcv30
    try clear hcv31
    try clear hcv32
    try clear hcv34
    try clear hcv35
    try clear hcv36
    try clear hcv37
    try clear hcv38
    try clear hcv39
    try clear hcv43
    try clear hcv44
    try clear hcv45
    try clear hcv46
    try clear hcv47
    try clear hcv48
    obtain ⟨kq, x60_8, rfl, HA, HJ8, HO_9, HO_10, HO_11, HO_13, HB⟩ := hcut
    cases kq with
    | zero => exact absurd HA.out (by simp [gangwaylaw08_SymtabReads.j0])
    | succ kj8 =>
     have H := HA.out
     clear HA
     simp only [gangwaylaw08_SymtabReads.j0] at H
     by_cases c54 : x60_8 = true
     ·
      subst c54
      have H1 : (some false) = some r := by rw [if_pos rfl] at H; exact H
      clear H
      have H := H1
      clear H1
      obtain rfl := Option.some.inj H
      go_wp2
      go_ret
      exact ⟨rfl, by repeat (with_reducible first | exact HB.out | apply below_alloc | apply pw_below_drewN | apply below_drew1)⟩
     ·
      replace c54 := Bool.eq_false_iff.mpr c54
      subst c54
      have H1 : ((gangwaylaw08_spoil.f kj8 y104).bind fun t123 => ((gangwaylaw08_spoil.f kj8 y110).bind fun t124 => ((gangwaylaw08_symbols.f kj8 t113 t117).bind fun t125 => (if t125 = true then ((gangwaylaw08_live.f).bind fun t126 => (some t126)) else (some false))))) = some r := by rw [if_neg (show ¬ (false = true) by decide)] at H; exact H
      clear H
      have H := H1
      clear H1
      replace H := Option.bind_eq_some_iff.mp H
      obtain ⟨t123, A550, H⟩ := H
      replace H : ((gangwaylaw08_spoil.f kj8 y110).bind fun t124 => ((gangwaylaw08_symbols.f kj8 t113 t117).bind fun t125 => (if t125 = true then ((gangwaylaw08_live.f).bind fun t126 => (some t126)) else (some false)))) = some r := H
      have A55 := Aside0.mk A550
      clear A550
      replace H := Option.bind_eq_some_iff.mp H
      obtain ⟨t124, A560, H⟩ := H
      replace H : ((gangwaylaw08_symbols.f kj8 t113 t117).bind fun t125 => (if t125 = true then ((gangwaylaw08_live.f).bind fun t126 => (some t126)) else (some false))) = some r := H
      have A56 := Aside0.mk A560
      clear A560
      replace H := Option.bind_eq_some_iff.mp H
      obtain ⟨t125, A570, H⟩ := H
      replace H : (if t125 = true then ((gangwaylaw08_live.f).bind fun t126 => (some t126)) else (some false)) = some r := H
      have A57 := Aside0.mk A570
      clear A570
      by_cases c58 : t125 = true
      ·
       subst c58
       have H1 : ((gangwaylaw08_live.f).bind fun t126 => (some t126)) = some r := by rw [if_pos rfl] at H; exact H
       clear H
       have H := H1
       clear H1
       replace H := Option.bind_eq_some_iff.mp H
       obtain ⟨t126, A590, H⟩ := H
       replace H : (some t126) = some r := H
       have A59 := Aside0.mk A590
       clear A590
       obtain rfl := Option.some.inj H
       go_wp2_with (first | ((with_reducible refine gate_callee (f := 20) rfl ?_); refine goesL_ (some 62) rfl rfl Try.func20 (by kernel_rfl) rfl #[.slice Ao16 y104.length co16] rfl (by (try simp only [List.map_toArray, List.map_cons, List.map_nil]); first | done | rfl | (simp only [List.length_drop, List.length_take]; rfl)) ?_; (with_reducible refine (gangwaylaw08_spoil.calls kj8 (fun k_ => some k_ = (.slice Ao16 y104.length co16 : Value).ownBlock) (.slice Ao16 y104.length co16) y104 t123 w _ ?side1 ?side2 A55.out).mono ?_); (case side1 => repeat (first | (with_reducible first | exact HB.out | apply below_alloc | apply pw_below_drewN | apply below_drew1) | exact HB.out)); (case side2 => exact Kd.R_tight rfl HO_9.out); rintro e w60 ⟨rfl, hy0, hb, hkp⟩; refine ⟨_, rfl, ?_⟩; have n0_ := Aside0.mk (Kd.R_reok rfl hy0 (fun k_ e_ => HO_9.out.1 k_ e_)); have n1_ := Aside0.mk (Kd.R_mono (ok' := fun k_ => some k_ ≠ (.slice Ao16 y104.length co16 : Value).ownBlock) (Kd.R_keptB (HO_10.out) hkp (fun k_ hk_ hs_ => (hk_) hs_)) (fun k_ hk_ => hk_.1)); have n2_ := Aside0.mk (Kd.R_mono (ok' := fun k_ => some k_ ≠ (v119 : Value).ownBlock) (Kd.R_keptB ((Kd.R_apart' HO_11.out (Kd.R_typed HO_9.out) (by decide))) hkp (fun k_ hk_ hs_ => (hk_.2) hs_)) (fun k_ hk_ => hk_.1.1)); have n3_ := Aside0.mk (Kd.R_mono (ok' := fun k_ => some k_ ≠ (v115 : Value).ownBlock) (Kd.R_keptB ((Kd.R_apart' HO_13.out (Kd.R_typed HO_9.out) (by decide))) hkp (fun k_ hk_ hs_ => (hk_.2) hs_)) (fun k_ hk_ => hk_.1.1)); have n4_ := Aside0.mk (hb); clear HO_9; clear HO_10; clear HO_11; clear HO_13; clear HB; have HO_9 := n0_; have HO_10 := n1_; have HO_11 := n2_; have HO_13 := n3_; have HB := n4_; clear n0_ n1_ n2_ n3_ n4_; (try clear hb); (try clear hkp); (try clear hy0)) | ((with_reducible refine gate_callee (f := 20) rfl ?_); refine goesL_ (some 64) rfl rfl Try.func20 (by kernel_rfl) rfl #[.slice Ao17 y110.length co17] rfl (by (try simp only [List.map_toArray, List.map_cons, List.map_nil]); first | done | rfl | (simp only [List.length_drop, List.length_take]; rfl)) ?_; (with_reducible refine (gangwaylaw08_spoil.calls kj8 (fun k_ => some k_ = (.slice Ao17 y110.length co17 : Value).ownBlock) (.slice Ao17 y110.length co17) y110 t124 w _ ?side1 ?side2 A56.out).mono ?_); (case side1 => repeat (first | (with_reducible first | exact HB.out | apply below_alloc | apply pw_below_drewN | apply below_drew1) | exact HB.out)); (case side2 => exact Kd.R_tight rfl HO_10.out); rintro e w61 ⟨rfl, hy0, hb, hkp⟩; refine ⟨_, rfl, ?_⟩; have n0_ := Aside0.mk (Kd.R_mono (ok' := fun k_ => some k_ ≠ (.slice Ao17 y110.length co17 : Value).ownBlock) (Kd.R_keptB (HO_9.out) hkp (fun k_ hk_ hs_ => (hk_) hs_)) (fun k_ hk_ => hk_.1)); have n1_ := Aside0.mk (Kd.R_reok rfl hy0 (fun k_ e_ => HO_10.out.1 k_ e_)); have n2_ := Aside0.mk (Kd.R_mono (ok' := fun k_ => some k_ ≠ (v119 : Value).ownBlock) (Kd.R_keptB ((Kd.R_apart' HO_11.out (Kd.R_typed HO_10.out) (by decide))) hkp (fun k_ hk_ hs_ => (hk_.2) hs_)) (fun k_ hk_ => hk_.1.1)); have n3_ := Aside0.mk (Kd.R_mono (ok' := fun k_ => some k_ ≠ (v115 : Value).ownBlock) (Kd.R_keptB ((Kd.R_apart' HO_13.out (Kd.R_typed HO_10.out) (by decide))) hkp (fun k_ hk_ hs_ => (hk_.2) hs_)) (fun k_ hk_ => hk_.1.1)); have n4_ := Aside0.mk (hb); clear HO_9; clear HO_10; clear HO_11; clear HO_13; clear HB; have HO_9 := n0_; have HO_10 := n1_; have HO_11 := n2_; have HO_13 := n3_; have HB := n4_; clear n0_ n1_ n2_ n3_ n4_; (try clear hb); (try clear hkp); (try clear hy0); obtain ⟨Ao62, co62, eo62⟩ := Kd.R_slice HO_11.out; subst eo62; obtain ⟨Ao63, co63, eo63⟩ := Kd.R_slice HO_13.out; subst eo63) | ((with_reducible refine gate_callee (f := 25) rfl ?_); refine goesL_ (some 67) rfl rfl Try.func25 (by kernel_rfl) rfl #[.slice Ao62 t113.length co62, .slice Ao63 t117.length co63] rfl (by (try simp only [List.map_toArray, List.map_cons, List.map_nil]); first | done | rfl | (simp only [List.length_drop, List.length_take]; rfl)) ?_; (with_reducible refine (gangwaylaw08_symbols.calls kj8 _ _ t113 _ _ t117 true _ ?side1 ?side2 ?side3 ?side4 A57.out).mono ?_); (case side1 => repeat (first | exact (Kd.R_reads' HO_11.out).2.2 | (with_reducible refine Kd.C_alloc ?_ _) | (with_reducible refine Kd.C_drewN ?_ _) | (with_reducible refine Kd.C_drew ?_))); (case side2 => exact (Kd.R_reads' HO_11.out).2.1); (case side3 => repeat (first | exact (Kd.R_reads' HO_13.out).2.2 | (with_reducible refine Kd.C_alloc ?_ _) | (with_reducible refine Kd.C_drewN ?_ _) | (with_reducible refine Kd.C_drew ?_))); (case side4 => exact (Kd.R_reads' HO_13.out).2.1); rintro e w' ⟨rfl, ⟨nd, rfl⟩⟩; refine ⟨_, rfl, ?_⟩) | (go_at_call 11; (with_reducible refine (gangwaylaw08_live.calls  t126 _ A59.out).mono ?_); rintro e w64 ⟨rfl, hb⟩; have n0_ := Aside0.mk (Kd.R_below (by (with_reducible repeat (first | apply Kd.R_alloc | apply Kd.R_drewN | apply Kd.R_drew)); exact HO_9.out) hb); have n1_ := Aside0.mk (Kd.R_below (by (with_reducible repeat (first | apply Kd.R_alloc | apply Kd.R_drewN | apply Kd.R_drew)); exact HO_10.out) hb); have n2_ := Aside0.mk (Kd.R_below (by (with_reducible repeat (first | apply Kd.R_alloc | apply Kd.R_drewN | apply Kd.R_drew)); exact HO_11.out) hb); have n3_ := Aside0.mk (Kd.R_below (by (with_reducible repeat (first | apply Kd.R_alloc | apply Kd.R_drewN | apply Kd.R_drew)); exact HO_13.out) hb); have n4_ := Aside0.mk (below_step (by repeat (with_reducible first | exact HB.out | apply below_alloc | apply pw_below_drewN | apply below_drew1)) hb); clear HO_9; clear HO_10; clear HO_11; clear HO_13; clear HB; have HO_9 := n0_; have HO_10 := n1_; have HO_11 := n2_; have HO_13 := n3_; have HB := n4_; clear n0_ n1_ n2_ n3_ n4_; (try clear hb); (try clear hb2); (try clear hk); (try clear hi)))
       go_ret
       exact ⟨rfl, by repeat (with_reducible first | exact HB.out | apply below_alloc | apply pw_below_drewN | apply below_drew1)⟩
      ·
       replace c58 := Bool.eq_false_iff.mpr c58
       subst c58
       have H1 : (some false) = some r := by rw [if_neg (show ¬ (false = true) by decide)] at H; exact H
       clear H
       have H := H1
       clear H1
       obtain rfl := Option.some.inj H
       go_wp2_with (first | ((with_reducible refine gate_callee (f := 20) rfl ?_); refine goesL_ (some 62) rfl rfl Try.func20 (by kernel_rfl) rfl #[.slice Ao16 y104.length co16] rfl (by (try simp only [List.map_toArray, List.map_cons, List.map_nil]); first | done | rfl | (simp only [List.length_drop, List.length_take]; rfl)) ?_; (with_reducible refine (gangwaylaw08_spoil.calls kj8 (fun k_ => some k_ = (.slice Ao16 y104.length co16 : Value).ownBlock) (.slice Ao16 y104.length co16) y104 t123 w _ ?side1 ?side2 A55.out).mono ?_); (case side1 => repeat (first | (with_reducible first | exact HB.out | apply below_alloc | apply pw_below_drewN | apply below_drew1) | exact HB.out)); (case side2 => exact Kd.R_tight rfl HO_9.out); rintro e w65 ⟨rfl, hy0, hb, hkp⟩; refine ⟨_, rfl, ?_⟩; have n0_ := Aside0.mk (Kd.R_reok rfl hy0 (fun k_ e_ => HO_9.out.1 k_ e_)); have n1_ := Aside0.mk (Kd.R_mono (ok' := fun k_ => some k_ ≠ (.slice Ao16 y104.length co16 : Value).ownBlock) (Kd.R_keptB (HO_10.out) hkp (fun k_ hk_ hs_ => (hk_) hs_)) (fun k_ hk_ => hk_.1)); have n2_ := Aside0.mk (Kd.R_mono (ok' := fun k_ => some k_ ≠ (v119 : Value).ownBlock) (Kd.R_keptB ((Kd.R_apart' HO_11.out (Kd.R_typed HO_9.out) (by decide))) hkp (fun k_ hk_ hs_ => (hk_.2) hs_)) (fun k_ hk_ => hk_.1.1)); have n3_ := Aside0.mk (Kd.R_mono (ok' := fun k_ => some k_ ≠ (v115 : Value).ownBlock) (Kd.R_keptB ((Kd.R_apart' HO_13.out (Kd.R_typed HO_9.out) (by decide))) hkp (fun k_ hk_ hs_ => (hk_.2) hs_)) (fun k_ hk_ => hk_.1.1)); have n4_ := Aside0.mk (hb); clear HO_9; clear HO_10; clear HO_11; clear HO_13; clear HB; have HO_9 := n0_; have HO_10 := n1_; have HO_11 := n2_; have HO_13 := n3_; have HB := n4_; clear n0_ n1_ n2_ n3_ n4_; (try clear hb); (try clear hkp); (try clear hy0)) | ((with_reducible refine gate_callee (f := 20) rfl ?_); refine goesL_ (some 64) rfl rfl Try.func20 (by kernel_rfl) rfl #[.slice Ao17 y110.length co17] rfl (by (try simp only [List.map_toArray, List.map_cons, List.map_nil]); first | done | rfl | (simp only [List.length_drop, List.length_take]; rfl)) ?_; (with_reducible refine (gangwaylaw08_spoil.calls kj8 (fun k_ => some k_ = (.slice Ao17 y110.length co17 : Value).ownBlock) (.slice Ao17 y110.length co17) y110 t124 w _ ?side1 ?side2 A56.out).mono ?_); (case side1 => repeat (first | (with_reducible first | exact HB.out | apply below_alloc | apply pw_below_drewN | apply below_drew1) | exact HB.out)); (case side2 => exact Kd.R_tight rfl HO_10.out); rintro e w66 ⟨rfl, hy0, hb, hkp⟩; refine ⟨_, rfl, ?_⟩; have n0_ := Aside0.mk (Kd.R_mono (ok' := fun k_ => some k_ ≠ (.slice Ao17 y110.length co17 : Value).ownBlock) (Kd.R_keptB (HO_9.out) hkp (fun k_ hk_ hs_ => (hk_) hs_)) (fun k_ hk_ => hk_.1)); have n1_ := Aside0.mk (Kd.R_reok rfl hy0 (fun k_ e_ => HO_10.out.1 k_ e_)); have n2_ := Aside0.mk (Kd.R_mono (ok' := fun k_ => some k_ ≠ (v119 : Value).ownBlock) (Kd.R_keptB ((Kd.R_apart' HO_11.out (Kd.R_typed HO_10.out) (by decide))) hkp (fun k_ hk_ hs_ => (hk_.2) hs_)) (fun k_ hk_ => hk_.1.1)); have n3_ := Aside0.mk (Kd.R_mono (ok' := fun k_ => some k_ ≠ (v115 : Value).ownBlock) (Kd.R_keptB ((Kd.R_apart' HO_13.out (Kd.R_typed HO_10.out) (by decide))) hkp (fun k_ hk_ hs_ => (hk_.2) hs_)) (fun k_ hk_ => hk_.1.1)); have n4_ := Aside0.mk (hb); clear HO_9; clear HO_10; clear HO_11; clear HO_13; clear HB; have HO_9 := n0_; have HO_10 := n1_; have HO_11 := n2_; have HO_13 := n3_; have HB := n4_; clear n0_ n1_ n2_ n3_ n4_; (try clear hb); (try clear hkp); (try clear hy0); obtain ⟨Ao67, co67, eo67⟩ := Kd.R_slice HO_11.out; subst eo67; obtain ⟨Ao68, co68, eo68⟩ := Kd.R_slice HO_13.out; subst eo68) | ((with_reducible refine gate_callee (f := 25) rfl ?_); refine goesL_ (some 67) rfl rfl Try.func25 (by kernel_rfl) rfl #[.slice Ao67 t113.length co67, .slice Ao68 t117.length co68] rfl (by (try simp only [List.map_toArray, List.map_cons, List.map_nil]); first | done | rfl | (simp only [List.length_drop, List.length_take]; rfl)) ?_; (with_reducible refine (gangwaylaw08_symbols.calls kj8 _ _ t113 _ _ t117 false _ ?side1 ?side2 ?side3 ?side4 A57.out).mono ?_); (case side1 => repeat (first | exact (Kd.R_reads' HO_11.out).2.2 | (with_reducible refine Kd.C_alloc ?_ _) | (with_reducible refine Kd.C_drewN ?_ _) | (with_reducible refine Kd.C_drew ?_))); (case side2 => exact (Kd.R_reads' HO_11.out).2.1); (case side3 => repeat (first | exact (Kd.R_reads' HO_13.out).2.2 | (with_reducible refine Kd.C_alloc ?_ _) | (with_reducible refine Kd.C_drewN ?_ _) | (with_reducible refine Kd.C_drew ?_))); (case side4 => exact (Kd.R_reads' HO_13.out).2.1); rintro e w' ⟨rfl, ⟨nd, rfl⟩⟩; refine ⟨_, rfl, ?_⟩))
       go_ret
       exact ⟨rfl, by repeat (with_reducible first | exact HB.out | apply below_alloc | apply pw_below_drewN | apply below_drew1)⟩
  ·
   rw [if_neg c6] at H
   exact absurd H (by simp)
 ·
  rw [if_neg c5] at H
  exact absurd H (by simp)
end Go.Proofs.Ytejdnanhnkjaoaa.G
end
section
namespace Go.Proofs.Ytejdnanhnkjaoaa.Stmt
open Go.RowKit Go.Proofs.Ytejdnanhnkjaoaa.G Go.Proofs.YtejdnanhnkjaoaaW.PrintWords
set_option linter.unusedVariables false
def SymtabReads : Prop := ∀ (l0 : List Int) (l1 : List Int) (a2 : Int) (l3 : List ByteArray), (l0.length * 1 ≤ 140737488351232 ∧ l0.length ≤ 9223372036854775807 ∧ ∀ y1 ∈ l0, (Lit.int .u8 y1).wf = true) → (l1.length * 1 ≤ 140737488351232 ∧ l1.length ≤ 9223372036854775807 ∧ ∀ y1 ∈ l1, (Lit.int .u8 y1).wf = true) → ((Lit.int .i64 a2).wf = true) → (l3.length * 16 ≤ 140737488351232 ∧ l3.length ≤ 9223372036854775807 ∧ ∀ y1 ∈ l3, y1.size ≤ 140737488351232) → ∃ k, G.gangwaylaw08_SymtabReads.f k l0 l1 a2 l3 = some true
end Go.Proofs.Ytejdnanhnkjaoaa.Stmt
end
section
namespace Go.Proofs.Ytejdnanhnkjaoaa.SymN
set_option linter.unusedVariables false
set_option linter.unusedSimpArgs false
open Go.RowKit Go.Proofs.Ytejdnanhnkjaoaa.G Go.Proofs.YtejdnanhnkjaoaaW.PrintWords Go.Proofs.YtejdnanhnkjaoaaW.PrintLast Go.Proofs.YtejdnanhnkjaoaaW.PrintMore Go.Proofs.Ytejdnanhnkjaoaa.Bit Go.Proofs.Ytejdnanhnkjaoaa.Sym
theorem rd_at (l : List Int) (i : Nat) (h : i < l.length) : rd l (i : Int) = l[i] := by simp [rd, List.getD, h]
theorem i64_join (x b : Int) (hb0 : 0 ≤ b) (hb1 : b ≤ 255) : Go.bits .or .i64 (wrap64 (x * 256)) (wrap64 b) = wrap64 (x * 256 + b) := by
  rw [wrap64_id (n := b) (by omega) (by omega)]
  show IntKind.i64.wrap ((BitVec.ofInt 64 (wrap64 (x * 256)) ||| BitVec.ofInt 64 b).toNat : Int) = _
  rw [BitVec.toNat_or]
  have e1 := ofInt_toNat 64 (wrap64 (x * 256))
  have e2 := ofInt_toNat 64 b
  generalize (BitVec.ofInt 64 (wrap64 (x * 256))).toNat = A at e1 ⊢
  generalize (BitVec.ofInt 64 b).toNat = B at e2 ⊢
  have hp : ((2 ^ 64 : Nat) : Int) = 18446744073709551616 := by decide
  rw [hp] at e1 e2
  rw [wrap64_eq] at e1 ⊢
  have hB : B < 2 ^ 8 := by omega
  obtain ⟨a, ha⟩ : ∃ a, A = 2 ^ 8 * a := ⟨A / 256, by omega⟩
  have := Nat.two_pow_add_eq_or_of_lt hB a
  rw [ha, ← this, IntKind.wrap_i64]
  omega
theorem leN_take_succ (l : List Int) (i : Nat) (hi : i < l.length) : Leb.leN (l.drop i) = l[i] + 256 * Leb.leN (l.drop (i + 1)) := by
  rw [List.drop_eq_getElem_cons hi]
  rfl
/-- from the byte i - 1 down -/
theorem num_l0 (l : List Int) (a : Nat) (c : List Int) (hl : ∀ b ∈ l, 0 ≤ b ∧ b ≤ 255) (hm : l.length ≤ 1048576) (hc : a + c.length ≤ l.length) (he : ∀ j (h : j < c.length), rd l ((a + j : Nat) : Int) = c[j]) (h8 : c.length ≤ 8) (d : Nat) : ∀ k i : Nat, i = d → i ≤ c.length → d < k → gangwayref08_number.l0 k l (a : Int) (wrap64 (Leb.leN (c.drop i))) ((i : Int) - 1) = some (wrap64 (Leb.leN c)) := by
  induction d with
  | zero =>
    intro k i hi hic hk
    obtain ⟨k, rfl⟩ : ∃ m, k = m + 1 := ⟨k - 1, by omega⟩
    subst hi
    rw [gangwayref08_number.l0, if_neg (by omega)]
    rfl
  | succ d ih =>
    intro k i hi hic hk
    obtain ⟨k, rfl⟩ : ∃ m, k = m + 1 := ⟨k - 1, by omega⟩
    subst hi
    rw [gangwayref08_number.l0, if_pos (by omega), wrap64_id (n := (a : Int) + (((d + 1 : Nat) : Int) - 1)) (by omega) (by omega), if_pos (by omega), if_pos (by omega), show (a : Int) + (((d + 1 : Nat) : Int) - 1) = ((a + d : Nat) : Int) from by omega]
    have hr : 0 ≤ rd l ((a + d : Nat) : Int) ∧ rd l ((a + d : Nat) : Int) ≤ 255 := by
      rw [rd_at l (a + d) (by omega)]
      exact hl _ (List.getElem_mem _)
    have hw : wrap64 (wrap64 (Leb.leN (c.drop (d + 1))) * 256) = wrap64 (Leb.leN (c.drop (d + 1)) * 256) := by
      rw [wrap64_eq, wrap64_eq, wrap64_eq]
      omega
    rw [hw, i64_join _ _ hr.1 hr.2, he d (by omega), wrap64_id (n := ((d + 1 : Nat) : Int) - 1 - 1) (by omega) (by omega), show Leb.leN (c.drop (d + 1)) * 256 + c[d] = Leb.leN (c.drop d) from by rw [leN_take_succ c d (by omega)]; omega, show (((d + 1 : Nat) : Int) - 1 - 1) = ((d : Nat) : Int) - 1 from by omega]
    exact ih k d rfl (by omega) (by omega)
theorem num_f (l : List Int) (a s : Nat) (hl : ∀ b ∈ l, 0 ≤ b ∧ b ≤ 255) (hm : l.length ≤ 1048576) (hs : s ≤ 8) (ha : a + s ≤ l.length) (k : Nat) (hk : 9 ≤ k) : gangwayref08_number.f k l (a : Int) (s : Int) = some (wrap64 (Leb.leN ((l.drop a).take s))) := by
  have hlen : ((l.drop a).take s).length = s := by rw [List.length_take, List.length_drop]; omega
  have := num_l0 l a ((l.drop a).take s) hl hm (by omega) (fun j h => by
    rw [rd_at l (a + j) (by omega)]
    simp) (by omega) s k s rfl (by omega) (by omega)
  unfold gangwayref08_number.f
  rw [wrap64_id (n := (s : Int) - 1) (by omega) (by omega)]
  rw [List.drop_of_length_le (by omega), show wrap64 (Leb.leN []) = 0 from by simp [Leb.leN, wrap64]] at this
  exact this
theorem rat_l0 (l : List Int) (a : Nat) (hm : l.length ≤ 140737488351232) (d : Nat) : ∀ (k i : Nat), a ≤ i → i ≤ l.length → l.length - i = d → d + 2 ≤ k →
    gangwayref08_At.l0 k l (a : Int) (i : Int) = some (match zeroAt (l.drop i) with | none => (⟨#[]⟩, 20) | some n => if i + n - a > 255 then (⟨#[]⟩, 6) else (strOfNums ((l.take (i + n)).drop a), 0)) := by
  induction d with
  | zero =>
    intro k i h1 h2 h3 h4
    obtain ⟨k, rfl⟩ : ∃ m, k = m + 2 := ⟨k - 2, by omega⟩
    simp only [gangwayref08_At.l0, gangwayref08_At.j2]
    rw [if_neg (by omega), if_pos (by omega), List.drop_of_length_le (by omega)]
    rfl
  | succ d ih =>
    intro k i h1 h2 h3 h4
    obtain ⟨k, rfl⟩ : ∃ m, k = m + 1 := ⟨k - 1, by omega⟩
    have hlt : i < l.length := by omega
    simp only [gangwayref08_At.l0]
    rw [if_pos (by omega), if_pos (by omega), rd_at l i hlt, List.drop_eq_getElem_cons hlt]
    simp only [zeroAt]
    by_cases c : l[i] = 0
    · rw [if_pos c, if_pos c]
      obtain ⟨k, rfl⟩ : ∃ m, k = m + 1 := ⟨k - 1, by omega⟩
      simp only [gangwayref08_At.j2]
      rw [if_neg (by omega), wrap64_id (by omega) (by omega)]
      simp only [Nat.add_zero]
      by_cases c2 : i - a > 255
      · rw [if_pos (by omega), if_pos c2]
      · rw [if_neg (by omega), if_neg c2, if_pos (by omega), if_pos (by omega), if_pos (by omega), Int.toNat_natCast, Int.toNat_natCast]
    · rw [if_neg c, if_neg c, wrap64_id (by omega) (by omega), show (i : Int) + 1 = ((i + 1 : Nat) : Int) from by omega, ih k (i + 1) (by omega) (by omega) (by omega) (by omega)]
      cases zeroAt (l.drop (i + 1)) with
      | none => rfl
      | some n =>
        simp only [Option.map_some]
        rw [show i + (n + 1) = i + 1 + n from by omega]
theorem rat_f (l : List Int) (a : Int) (hm : l.length ≤ 140737488351232) (k : Nat) (hk : l.length + 4 ≤ k) : gangwayref08_At.f k l a = some (atOf l a) := by
  obtain ⟨k, rfl⟩ : ∃ m, k = m + 1 := ⟨k - 1, by omega⟩
  unfold gangwayref08_At.f atOf
  by_cases c1 : a < 0
  · rw [if_pos c1, if_pos (.inl c1)]
    simp only [gangwayref08_At.j0, if_true]
  · rw [if_neg c1]
    by_cases c2 : (l.length : Int) ≤ a
    · rw [decide_eq_true (show a ≥ l.length from c2), if_pos (.inr c2)]
      simp only [gangwayref08_At.j0, if_true]
    · rw [decide_eq_false (show ¬ a ≥ l.length from c2), if_neg (by omega)]
      obtain ⟨m, rfl⟩ := Int.eq_ofNat_of_zero_le (show 0 ≤ a by omega)
      simp only [gangwayref08_At.j0, Bool.false_eq_true, if_false]
      rw [rat_l0 l m hm (l.length - m) k m (by omega) (by omega) rfl (by omega), Int.toNat_natCast]
      cases zeroAt (l.drop m) with
      | none => rfl
      | some n =>
        simp only [Nat.add_sub_cancel_left]
end Go.Proofs.Ytejdnanhnkjaoaa.SymN
end
section
namespace Go.Proofs.Ytejdnanhnkjaoaa.SymN
set_option linter.unusedVariables false
set_option linter.unusedSimpArgs false
open Go.RowKit Go.Proofs.Ytejdnanhnkjaoaa.G Go.Proofs.YtejdnanhnkjaoaaW.PrintWords Go.Proofs.YtejdnanhnkjaoaaW.PrintLast Go.Proofs.YtejdnanhnkjaoaaW.PrintMore Go.Proofs.Ytejdnanhnkjaoaa.Bit Go.Proofs.Ytejdnanhnkjaoaa.Sym Go.Proofs.Ytejdnanhnkjaoaa.SymR
/-- so many bytes as an int -/
def nA (l : List Int) (a s : Nat) : Int := Leb.leN ((l.drop a).take s)
/-- one symbol, its value and its size as the reference reads them -/
def symV (l0 l1 : List Int) (l3 : List ByteArray) (a : Nat) : Option S58 :=
  if (atOf l1 (nA l0 a 4)).2 ≠ 0 ∨ (nA l0 (a + 6) 2 > l3.length ∧ nA l0 (a + 6) 2 ≠ 65521) then none
  else some ⟨(atOf l1 (nA l0 a 4)).1, if nA l0 (a + 6) 2 = 0 then ⟨#[]⟩ else if nA l0 (a + 6) 2 = 65521 then ⟨#[42]⟩ else rdOf ByteArray.empty l3 (nA l0 (a + 6) 2 - 1), wrap64 (nA l0 (a + 8) 8), wrap64 (nA l0 (a + 16) 8), nA l0 (a + 4) 1 / 16, nA l0 (a + 4) 1 % 16⟩
def symsV (l0 l1 : List Int) (l3 : List ByteArray) : Nat → Nat → Option (List S58)
  | 0, _ => some []
  | d + 1, i => (symV l0 l1 l3 (24 * (i + 1))).bind fun x => (symsV l0 l1 l3 d (i + 1)).map (x :: ·)
theorem numR_at (l : List Int) (a s : Nat) (hl : ∀ b ∈ l, 0 ≤ b ∧ b ≤ 255) (hm : l.length ≤ 1048576) (hs : s = 1 ∨ s = 2 ∨ s = 4 ∨ s = 8) (ha : a + s ≤ l.length) : numR l (a : Int) (s : Int) = if 0 ≤ wrap64 (nA l a s) then some (wrap64 (nA l a s)) else none := by
  have hz : Leb.sizedB (s : Int) = true := by rcases hs with rfl | rfl | rfl | rfl <;> decide
  unfold numR nA
  rw [Leb.get_f l _ _ false hl (by omega) 12 (by omega)]
  unfold Leb.getV
  rw [if_pos hz, if_neg (by omega), Int.toNat_natCast, Int.toNat_natCast]
  unfold Leb.sgnV
  simp
theorem small (l : List Int) (a s : Nat) (hl : ∀ b ∈ l, 0 ≤ b ∧ b ≤ 255) (hs : s = 1 ∨ s = 2 ∨ s = 4) (ha : a + s ≤ l.length) : 0 ≤ nA l a s ∧ nA l a s < 256 ^ s ∧ wrap64 (nA l a s) = nA l a s := by
  have hlen : ((l.drop a).take s).length = s := by rw [List.length_take, List.length_drop]; omega
  have h := Leb.leN_range ((l.drop a).take s) (fun b hb => hl b (List.mem_of_mem_drop (List.mem_of_mem_take hb)))
  rw [hlen] at h
  unfold nA
  refine ⟨h.1, h.2, wrap64_id (by omega) ?_⟩
  have h2 := h.2
  rcases hs with rfl | rfl | rfl <;> simp at h2 <;> omega
theorem one_byte (l : List Int) (a : Nat) (ha : a < l.length) : nA l a 1 = l[a] := by
  unfold nA
  rw [List.drop_eq_getElem_cons ha, List.take_succ_cons, List.take_zero]
  unfold Leb.leN Leb.leN
  omega
theorem symR_V (l0 l1 : List Int) (l3 : List ByteArray) (a : Nat) (hl : ∀ b ∈ l0, 0 ≤ b ∧ b ≤ 255) (hm : l0.length ≤ 1048576) (hm1 : l1.length ≤ 1048576) (ha : a + 24 ≤ l0.length) : symR l0 l1 l3 (a : Int) = (symV l0 l1 l3 a).bind fun x => if 0 ≤ x.f2 ∧ 0 ≤ x.f3 then some x else none := by
  obtain ⟨p1, p2, p3⟩ := small l0 a 4 hl (by omega) (by omega)
  obtain ⟨q1, q2, q3⟩ := small l0 (a + 4) 1 hl (by omega) (by omega)
  obtain ⟨r1, r2, r3⟩ := small l0 (a + 6) 2 hl (by omega) (by omega)
  have n4 : numR l0 (a : Int) 4 = some (nA l0 a 4) := by
    have := numR_at l0 a 4 hl hm (by omega) (by omega)
    rw [p3, if_pos p1] at this
    exact this
  have n1 : numR l0 ((a : Int) + 4) 1 = some (nA l0 (a + 4) 1) := by
    have := numR_at l0 (a + 4) 1 hl hm (by omega) (by omega)
    rw [q3, if_pos q1] at this
    exact this
  have n2 : numR l0 ((a : Int) + 6) 2 = some (nA l0 (a + 6) 2) := by
    have := numR_at l0 (a + 6) 2 hl hm (by omega) (by omega)
    rw [r3, if_pos r1] at this
    exact this
  have n8 : numR l0 ((a : Int) + 8) 8 = _ := numR_at l0 (a + 8) 8 hl hm (by omega) (by omega)
  have n16 : numR l0 ((a : Int) + 16) 8 = _ := numR_at l0 (a + 16) 8 hl hm (by omega) (by omega)
  unfold symR symV
  rw [n4, Option.bind_some, at_f l1 _ (by omega) _ (by omega)]
  generalize atOf l1 (nA l0 a 4) = w
  obtain ⟨name, er⟩ := w
  simp only
  by_cases he : er = 0
  · rw [if_neg (by simp [he]), n1, Option.bind_some, n2, Option.bind_some, n8, n16]
    have q2' : nA l0 (a + 4) 1 < 256 := by simpa using q2
    have r2' : nA l0 (a + 6) 2 < 65536 := by simpa using r2
    by_cases hp : nA l0 (a + 6) 2 > l3.length ∧ nA l0 (a + 6) 2 ≠ 65521
    · have hv : er ≠ 0 ∨ (nA l0 (a + 6) 2 > l3.length ∧ nA l0 (a + 6) 2 ≠ 65521) := .inr hp
      have hq : ¬ ((nA l0 (a + 6) 2 = 0 ∨ nA l0 (a + 6) 2 = 65521 ∨ nA l0 (a + 6) 2 ≤ l3.length) ∧ nA l0 (a + 4) 1 ≤ 65535 ∧ nA l0 (a + 6) 2 ≤ 9223372036854775807) := by omega
      rw [if_pos hv]
      simp only [if_neg hq]
      simp
    · have hv : ¬ (er ≠ 0 ∨ (nA l0 (a + 6) 2 > l3.length ∧ nA l0 (a + 6) 2 ≠ 65521)) := by omega
      have hq : (nA l0 (a + 6) 2 = 0 ∨ nA l0 (a + 6) 2 = 65521 ∨ nA l0 (a + 6) 2 ≤ l3.length) ∧ nA l0 (a + 4) 1 ≤ 65535 ∧ nA l0 (a + 6) 2 ≤ 9223372036854775807 := by omega
      rw [if_neg hv]
      simp only [if_pos hq, Option.bind_some]
      by_cases v : 0 ≤ wrap64 (nA l0 (a + 8) 8)
      · by_cases z : 0 ≤ wrap64 (nA l0 (a + 16) 8)
        · rw [if_pos v, if_pos z, if_pos (show 0 ≤ wrap64 (nA l0 (a + 8) 8) ∧ 0 ≤ wrap64 (nA l0 (a + 16) 8) from ⟨v, z⟩)]
          rfl
        · rw [if_pos v, if_neg z, if_neg (show ¬ (0 ≤ wrap64 (nA l0 (a + 8) 8) ∧ 0 ≤ wrap64 (nA l0 (a + 16) 8)) from fun h => z h.2)]
          rfl
      · rw [if_neg v, if_neg (show ¬ (0 ≤ wrap64 (nA l0 (a + 8) 8) ∧ 0 ≤ wrap64 (nA l0 (a + 16) 8)) from fun h => v h.1)]
        rfl
  · rw [if_pos he, if_pos (.inl he)]
    rfl
theorem read_l0 (l0 l1 : List Int) (a2 : Int) (l3 : List ByteArray) (hl : ∀ b ∈ l0, 0 ≤ b ∧ b ≤ 255) (hm : l0.length ≤ 1048576) (hm1 : l1.length ≤ 1048576) (hm3 : l3.length ≤ 140737488351232) (d : Nat) : ∀ k i (acc : List S58), 24 * (i + 1) + 24 * d = l0.length → acc.length = i → l1.length + 20 ≤ k →
    gangwayref08_Read.l0 (k + 2 * d) l0 l1 a2 l3 acc ((24 * (i + 1) : Nat) : Int) = match symsV l0 l1 l3 d i with
      | none => some ([], 80)
      | some ys => gangwayref08_Read.l0 k l0 l1 a2 l3 (acc ++ ys) (l0.length : Int) := by
  induction d with
  | zero =>
    intro k i acc h hi hk
    rw [show 24 * (i + 1) = l0.length from by omega]
    simp [symsV]
  | succ d ih =>
    intro k i acc h hi hk
    obtain ⟨a, ha⟩ : ∃ a, a = 24 * (i + 1) := ⟨_, rfl⟩
    obtain ⟨p1, p2, p3⟩ := small l0 a 4 hl (by omega) (by omega)
    obtain ⟨q1, q2, q3⟩ := small l0 (a + 4) 1 hl (by omega) (by omega)
    obtain ⟨r1, r2, r3⟩ := small l0 (a + 6) 2 hl (by omega) (by omega)
    have q2' : nA l0 (a + 4) 1 < 256 := by simpa using q2
    have r2' : nA l0 (a + 6) 2 < 65536 := by simpa using r2
    have n4 : gangwayref08_number.f (k + 2 * d + 1) l0 (a : Int) 4 = some (nA l0 a 4) := by
      have := num_f l0 a 4 hl hm (by omega) (by omega) (k + 2 * d + 1) (by omega)
      rw [show Leb.leN _ = nA l0 a 4 from rfl, p3] at this
      exact this
    have n2 : gangwayref08_number.f (k + 2 * d + 1) l0 ((a + 6 : Nat) : Int) 2 = some (nA l0 (a + 6) 2) := by
      have := num_f l0 (a + 6) 2 hl hm (by omega) (by omega) (k + 2 * d + 1) (by omega)
      rw [show Leb.leN _ = nA l0 (a + 6) 2 from rfl, r3] at this
      exact this
    have n8 : gangwayref08_number.f (k + 2 * d) l0 ((a + 8 : Nat) : Int) 8 = some (wrap64 (nA l0 (a + 8) 8)) := num_f l0 (a + 8) 8 hl hm (by omega) (by omega) (k + 2 * d) (by omega)
    have n16 : gangwayref08_number.f (k + 2 * d) l0 ((a + 16 : Nat) : Int) 8 = some (wrap64 (nA l0 (a + 16) 8)) := num_f l0 (a + 16) 8 hl hm (by omega) (by omega) (k + 2 * d) (by omega)
    have hb : wrap64 (rd l0 ((a + 4 : Nat) : Int)) = nA l0 (a + 4) 1 := by
      rw [one_byte l0 (a + 4) (by omega), rd_at l0 (a + 4) (by omega)]
      have := hl _ (List.getElem_mem (show a + 4 < l0.length by omega))
      exact wrap64_id (by omega) (by omega)
    have hd1 : wrap64 (Int.tdiv (nA l0 (a + 4) 1) 16) = nA l0 (a + 4) 1 / 16 := by
      rw [Int.tdiv_eq_ediv_of_nonneg q1]
      exact wrap64_id (by omega) (by omega)
    have hd2 : Int.tmod (nA l0 (a + 4) 1) 16 = nA l0 (a + 4) 1 % 16 := Int.tmod_eq_emod_of_nonneg q1
    rw [← ha, show k + 2 * (d + 1) = (k + 2 * d + 1) + 1 from by omega, gangwayref08_Read.l0, if_pos (by omega), n4, Option.bind_some, rat_f l1 _ (by omega) _ (by omega), Option.bind_some, wrap64_id (n := (a : Int) + 6) (by omega) (by omega), show (a : Int) + 6 = ((a + 6 : Nat) : Int) from by omega, n2, Option.bind_some]
    have hstep : ∀ x, symV l0 l1 l3 a = some x → gangwayref08_Read.l0 (k + 2 * d) l0 l1 a2 l3 (acc ++ [x]) (wrap64 ((a : Int) + 24)) = match symsV l0 l1 l3 (d + 1) i with | none => some ([], 80) | some ys => gangwayref08_Read.l0 k l0 l1 a2 l3 (acc ++ ys) (l0.length : Int) := by
      intro x hx
      rw [wrap64_id (by omega) (by omega), show (a : Int) + 24 = ((24 * (i + 1 + 1) : Nat) : Int) from by omega, ih k (i + 1) (acc ++ [x]) (by omega) (by simp [hi]) hk]
      simp only [symsV]
      rw [← ha, hx, Option.bind_some]
      cases symsV l0 l1 l3 d (i + 1) with
      | none => rfl
      | some ys => simp
    have hnone : symV l0 l1 l3 a = none → symsV l0 l1 l3 (d + 1) i = none := by
      intro hx
      simp only [symsV]
      rw [← ha, hx]
      rfl
    unfold symV at hstep hnone
    generalize atOf l1 (nA l0 a 4) = w at hstep hnone ⊢
    obtain ⟨name, er⟩ := w
    simp only at hstep hnone ⊢
    by_cases he : er = 0
    · by_cases hp : nA l0 (a + 6) 2 > l3.length ∧ nA l0 (a + 6) 2 ≠ 65521
      · rw [hnone (if_pos (.inr hp)), if_pos he, if_pos hp.1, show (nA l0 (a + 6) 2 != 65521) = true from by simpa using hp.2, gangwayref08_Read.j3, if_pos rfl]
      · have hc : (if nA l0 (a + 6) 2 > (l3.length : Int) then gangwayref08_Read.j3 (k + 2 * d + 1) l0 l1 a2 l3 acc (a : Int) name (nA l0 (a + 6) 2) (nA l0 (a + 6) 2 != 65521) else gangwayref08_Read.j3 (k + 2 * d + 1) l0 l1 a2 l3 acc (a : Int) name (nA l0 (a + 6) 2) false) = gangwayref08_Read.j3 (k + 2 * d + 1) l0 l1 a2 l3 acc (a : Int) name (nA l0 (a + 6) 2) false := by
          split
          · rw [show nA l0 (a + 6) 2 = 65521 from by omega]
            rfl
          · rfl
        have hv : ¬ (er ≠ 0 ∨ (nA l0 (a + 6) 2 > l3.length ∧ nA l0 (a + 6) 2 ≠ 65521)) := by omega
        have hs := hstep _ (if_neg hv)
        rw [if_pos he, hc, gangwayref08_Read.j3, if_neg (by decide), wrap64_id (n := (a : Int) + 4) (by omega) (by omega), wrap64_id (n := (a : Int) + 8) (by omega) (by omega), wrap64_id (n := (a : Int) + 16) (by omega) (by omega), show (a : Int) + 4 = ((a + 4 : Nat) : Int) from by omega, show (a : Int) + 8 = ((a + 8 : Nat) : Int) from by omega, show (a : Int) + 16 = ((a + 16 : Nat) : Int) from by omega, if_pos (by omega), if_pos (by omega), n8, Option.bind_some, n16, Option.bind_some, hb, hd1, hd2]
        by_cases c1 : nA l0 (a + 6) 2 = 65521
        · rw [if_pos c1, if_pos (by omega)]
          rw [if_neg (by omega), if_pos c1] at hs
          exact hs
        · rw [if_neg c1]
          by_cases c0 : nA l0 (a + 6) 2 = 0
          · rw [if_neg (by omega), if_pos (by omega)]
            rw [if_pos c0] at hs
            exact hs
          · rw [if_pos (by omega), wrap64_id (n := nA l0 (a + 6) 2 - 1) (by omega) (by omega), if_pos (by omega), if_pos (by omega), if_pos (by omega)]
            rw [if_neg c0, if_neg c1] at hs
            exact hs
    · rw [hnone (if_pos (.inl he)), if_neg he, gangwayref08_Read.j3, if_pos rfl]
end Go.Proofs.Ytejdnanhnkjaoaa.SymN
end
section
namespace Go.Proofs.Ytejdnanhnkjaoaa.Sym
set_option linter.unusedVariables false
set_option linter.unusedSimpArgs false
open Go.RowKit Go.Proofs.Ytejdnanhnkjaoaa.G Go.Proofs.YtejdnanhnkjaoaaW.PrintWords Go.Proofs.YtejdnanhnkjaoaaW.PrintLast Go.Proofs.YtejdnanhnkjaoaaW.PrintMore Go.Proofs.Ytejdnanhnkjaoaa.Bit
theorem bt_get (s : ByteArray) (i : Nat) (h : i < s.data.toList.length) : bt s (i : Int) = (s.data.toList[i].toNat : Int) := by
  have h2 : i < s.size := by rw [← data_length]; exact h
  simp only [bt, Int.toNat_natCast, h2, dif_pos]
  rw [Array.getElem_toList]
  rfl
theorem rzero_l0 (s : ByteArray) (hs : s.size ≤ 140737488351232) (d : Nat) : ∀ (k i : Nat), i + d = s.size → d < k → gangwayref08_zero.l0 k s (i : Int) = some (decide ((0 : UInt8) ∈ s.data.toList.drop i)) := by
  have hd := data_length s
  induction d with
  | zero =>
    intro k i h1 h2
    obtain ⟨k, rfl⟩ : ∃ m, k = m + 1 := ⟨k - 1, by omega⟩
    simp only [gangwayref08_zero.l0]
    rw [if_neg (by omega), List.drop_of_length_le (by omega)]
    rfl
  | succ d ih =>
    intro k i h1 h2
    obtain ⟨k, rfl⟩ : ∃ m, k = m + 1 := ⟨k - 1, by omega⟩
    have hlt : i < s.data.toList.length := by omega
    simp only [gangwayref08_zero.l0]
    rw [if_pos (by omega), if_pos (by omega), wrap64_id (by omega) (by omega), show (i : Int) + 1 = ((i + 1 : Nat) : Int) from by omega, ih k (i + 1) (by omega) (by omega), bt_get s i hlt, List.drop_eq_getElem_cons hlt]
    by_cases c : s.data.toList[i] = 0
    · rw [if_pos (by rw [c]; rfl), c, decide_eq_true (by simp)]
    · rw [if_neg (fun e => c (UInt8.toNat_inj.mp (show s.data.toList[i].toNat = 0 by omega)))]
      congr 1
      rw [decide_eq_decide, List.mem_cons]
      exact ⟨fun h => .inr h, fun h => h.resolve_left (fun e => c e.symm)⟩
theorem rzero_f (s : ByteArray) (hs : s.size ≤ 140737488351232) (k : Nat) (hk : s.size < k) : gangwayref08_zero.f k s = some (decide ((0 : UInt8) ∈ s.data.toList)) := rzero_l0 s hs s.size k 0 (by omega) hk
theorem rplace_l0 (names : List ByteArray) (s : ByteArray) (hm : names.length ≤ 140737488351232) (d : Nat) : ∀ (k i : Nat), i + d = names.length → d < k → gangwayref08_place.l0 k names s (i : Int) = some ((i + pos (names.drop i) s.data.toList : Nat) : Int) := by
  induction d with
  | zero =>
    intro k i h1 h2
    obtain ⟨k, rfl⟩ : ∃ m, k = m + 1 := ⟨k - 1, by omega⟩
    simp only [gangwayref08_place.l0]
    rw [if_neg (by omega), List.drop_of_length_le (by omega)]
    rfl
  | succ d ih =>
    intro k i h1 h2
    obtain ⟨k, rfl⟩ : ∃ m, k = m + 1 := ⟨k - 1, by omega⟩
    have hlt : i < names.length := by omega
    simp only [gangwayref08_place.l0]
    rw [if_pos (by omega), if_pos (by omega), rdOf_get names i hlt, List.drop_eq_getElem_cons hlt]
    unfold pos
    rw [List.findIdx_cons]
    by_cases c : names[i].data.toList = s.data.toList
    · rw [if_pos ((same_iff _ _).2 c), show (names[i].data.toList == s.data.toList) = true from by simpa using c]
      simp
    · rw [if_neg (fun e => c ((same_iff _ _).1 e)), show (names[i].data.toList == s.data.toList) = false from by simpa using c, wrap64_id (by omega) (by omega), show (i : Int) + 1 = ((i + 1 : Nat) : Int) from by omega, ih k (i + 1) (by omega) (by omega)]
      simp only [cond_false, pos]
      congr 2
      omega
theorem rplace_f (names : List ByteArray) (s : ByteArray) (hm : names.length ≤ 140737488351232) (k : Nat) (hk : names.length < k) : gangwayref08_place.f k names s = some (pos names s.data.toList : Int) := by
  have := rplace_l0 names s hm names.length k 0 (by omega) hk
  unfold gangwayref08_place.f
  simpa using this
theorem pos_append (names : List ByteArray) (x : ByteArray) (s : List UInt8) : pos (names ++ [x]) s = if pos names s < names.length then pos names s else if x.data.toList = s then names.length else names.length + 1 := by
  unfold pos
  rw [List.findIdx_append]
  split
  · rfl
  · rw [List.findIdx_cons]
    by_cases c : x.data.toList = s
    · rw [if_pos c, show (x.data.toList == s) = true from by simpa using c]
      simp
    · rw [if_neg c, show (x.data.toList == s) = false from by simpa using c]
      simp
      omega
/-- the program's map and the reference's lists say the same -/
structure Rel (m : List (List UInt8 × Int)) (names : List ByteArray) (begins : List Int) : Prop where
  len : begins.length = names.length
  nil : Own.look m [] = some 0
  look : ∀ s, s ≠ [] → Own.look m s = if pos names s < names.length then some (begins.getD (pos names s) 0) else none
theorem rel_new {m : List (List UInt8 × Int)} {names : List ByteArray} {begins : List Int} (h : Rel m names begins) (s : ByteArray) (hs : s.data.toList ≠ []) (hn : ¬ pos names s.data.toList < names.length) (c : Int) : Rel ((s.data.toList, c) :: m) (names ++ [s]) (begins ++ [c]) where
  len := by simp [h.len]
  nil := by rw [Own.look_cons, if_neg hs]; exact h.nil
  look := fun t ht => by
    rw [Own.look_cons, pos_append, List.length_append, List.length_singleton]
    by_cases c1 : s.data.toList = t
    · subst c1
      rw [if_pos rfl, if_neg hn, if_pos rfl, if_pos (by omega), ← h.len]
      simp
    · rw [if_neg c1, if_neg c1, h.look t ht]
      by_cases c2 : pos names t < names.length
      · rw [if_pos c2, if_pos c2, if_pos (by omega), List.getD_eq_getElem?_getD, List.getD_eq_getElem?_getD, List.getElem?_append_left (by rw [h.len]; exact c2)]
      · rw [if_neg c2, if_neg c2, if_neg (by omega)]
theorem symStrs_big (r : List ByteArray) : ∀ m b at_, b.length > 1048576 → symStrs r m b at_ = ([], [], 6) := by
  induction r with
  | nil => intro m b at_ h; simp only [symStrs]; rw [if_pos h]
  | cons s r ih =>
    intro m b at_ h
    simp only [symStrs]
    split
    · rfl
    · split
      · exact ih _ _ _ h
      · exact ih _ _ _ (by rw [List.length_append, List.length_append]; omega)
theorem rstr_l1 (l : List ByteArray) (hl : l.length ≤ 1099511627776) (h255 : ∀ s ∈ l, s.size ≤ 255) (d : Nat) : ∀ k i m b at_ names begins, i + d = l.length → l.length + d + 3 ≤ k → Rel m names begins → b.length ≤ 1048576 → at_.length = i → names.length ≤ i →
    gangwayref08_Strings.l1 k l b at_ names begins (i : Int) = some (symStrs (l.drop i) m b at_) := by
  induction d with
  | zero =>
    intro k i m b at_ names begins h1 h2 hR hb ha hn
    obtain ⟨k, rfl⟩ : ∃ m, k = m + 1 := ⟨k - 1, by omega⟩
    simp only [gangwayref08_Strings.l1]
    rw [if_neg (by omega), List.drop_of_length_le (by omega)]
    simp only [symStrs]
    rw [if_neg (by omega)]
  | succ d ih =>
    intro k i m b at_ names begins h1 h2 hR hb ha hn
    obtain ⟨k, rfl⟩ : ∃ m, k = m + 1 := ⟨k - 1, by omega⟩
    have hlt : i < l.length := by omega
    have hs255 := h255 _ (List.getElem_mem hlt)
    have hlen := hR.len
    simp only [gangwayref08_Strings.l1]
    rw [if_pos (by omega), if_pos (by omega), rdOf_get l i hlt, List.drop_eq_getElem_cons hlt, wrap64_id (n := (i : Int) + 1) (by omega) (by omega), show (i : Int) + 1 = ((i + 1 : Nat) : Int) from by omega]
    simp only [symStrs]
    rw [if_neg (show ¬ l[i].size > 255 by omega)]
    generalize l[i] = s at *
    by_cases c : s.data.toList = []
    · rw [if_pos (by rw [toList_data]; exact c), if_pos (by omega), c, hR.nil]
      exact ih k (i + 1) m b _ names begins (by omega) (by omega) hR hb (by simp [ha]) (by omega)
    · rw [if_neg (by rw [toList_data]; exact c), rplace_f names s (by omega) k (by omega), Option.bind_some, hR.look _ c]
      by_cases c2 : pos names s.data.toList < names.length
      · rw [if_neg (by omega), if_pos (by omega), if_pos (by omega), if_pos (by omega), if_pos c2]
        have hrd : rd begins ((pos names s.data.toList : Nat) : Int) = begins.getD (pos names s.data.toList) 0 := by
          unfold rd
          rw [Int.toNat_natCast]
        rw [hrd]
        exact ih k (i + 1) m b _ names begins (by omega) (by omega) hR hb (by simp [ha]) (by omega)
      · have hle : pos names s.data.toList = names.length := by
          have : pos names s.data.toList ≤ names.length := List.findIdx_le_length
          omega
        rw [hle, if_pos rfl, if_pos (by omega), if_pos (by omega), if_neg (by omega)]
        simp only [Option.bind_some]
        rw [if_pos (by omega), if_pos (by rw [List.length_append, bytesOf_length]; omega)]
        by_cases c3 : (b ++ bytesOf s ++ [0]).length > 1048576
        · rw [if_pos (by omega), symStrs_big _ _ _ _ c3]
        · rw [if_neg (by omega), if_pos (by omega), if_pos (by rw [List.length_append, List.length_singleton]; omega), if_pos (by omega)]
          have hrd : rd (begins ++ [(b.length : Int)]) ((names.length : Nat) : Int) = (b.length : Int) := by
            rw [← hlen]
            simp [rd, List.getD]
          rw [hrd]
          exact ih k (i + 1) _ _ _ (names ++ [s]) _ (by omega) (by omega) (rel_new hR s c c2 _) (by omega) (by simp [ha]) (by rw [List.length_append, List.length_singleton]; omega)
theorem symStrs_long (r : List ByteArray) : ∀ m b at_, (∃ s ∈ r, s.size > 255) → symStrs r m b at_ = ([], [], 6) := by
  induction r with
  | nil => intro m b at_ h; simp at h
  | cons s r ih =>
    intro m b at_ h
    simp only [symStrs]
    split
    · rfl
    · have h2 : ∃ s ∈ r, s.size > 255 := by
        obtain ⟨x, hx, hs⟩ := h
        rcases List.mem_cons.1 hx with rfl | hx
        · omega
        · exact ⟨x, hx, hs⟩
      split
      · exact ih _ _ _ h2
      · exact ih _ _ _ h2
theorem rstr_l0 (l : List ByteArray) (hl : l.length ≤ 1099511627776) (hm : ∀ s ∈ l, s.size ≤ 1048576) (r : List Int × List Int × Int) (hr : r = if symZero l then ([], [], 80) else symStrs l [([], 0)] [0] []) (d : Nat) : ∀ k i long, i + d = l.length → 2 * l.length + d + 1048586 ≤ k →
    symZero (l.take i) = false → (long = true ↔ ∃ s ∈ l.take i, s.size > 255) → gangwayref08_Strings.l0 k l long (i : Int) = some r := by
  induction d with
  | zero =>
    intro k i long h1 h2 hz hlong
    obtain ⟨k, rfl⟩ : ∃ m, k = m + 1 := ⟨k - 1, by omega⟩
    obtain rfl : i = l.length := by omega
    rw [List.take_length] at hz hlong
    rw [hz, if_neg (by decide)] at hr
    simp only [gangwayref08_Strings.l0]
    rw [if_neg (by omega)]
    by_cases c : long = true
    · rw [if_pos c, hr, symStrs_long l _ _ _ (hlong.1 c)]
    · rw [if_neg c, hr]
      have := rstr_l1 l hl (fun s hs => by
        have : ¬ s.size > 255 := fun h => c (hlong.2 ⟨s, hs, h⟩)
        omega) l.length k 0 [([], 0)] [0] [] [] [] (by omega) (by omega) ⟨rfl, rfl, fun s hs => by rw [Own.look_cons, if_neg (fun e => hs e.symm)]; rfl⟩ (by simp) rfl (by simp)
      simpa using this
  | succ d ih =>
    intro k i long h1 h2 hz hlong
    obtain ⟨k, rfl⟩ : ∃ m, k = m + 1 := ⟨k - 1, by omega⟩
    have hlt : i < l.length := by omega
    have hsz := hm _ (List.getElem_mem hlt)
    simp only [gangwayref08_Strings.l0]
    rw [if_pos (by omega), if_pos (by omega), rdOf_get l i hlt, rzero_f l[i] (by omega) k (by omega), Option.bind_some, wrap64_id (n := (i : Int) + 1) (by omega) (by omega), show (i : Int) + 1 = ((i + 1 : Nat) : Int) from by omega]
    by_cases c : (0 : UInt8) ∈ l[i].data.toList
    · rw [decide_eq_true c, if_pos rfl, hr, if_pos ((symZero_iff l).2 ⟨l[i], List.getElem_mem hlt, c⟩)]
    · rw [decide_eq_false c, if_neg (by decide)]
      have hz2 : symZero (l.take (i + 1)) = false := by
        rw [Bool.eq_false_iff]
        intro h
        obtain ⟨s, hs, h0⟩ := (symZero_iff _).1 h
        rw [List.take_succ_eq_append_getElem hlt] at hs
        rcases List.mem_append.1 hs with hs | hs
        · have := (symZero_iff (l.take i)).2 ⟨s, hs, h0⟩
          rw [hz] at this
          cases this
        · rw [List.mem_singleton] at hs
          exact c (hs ▸ h0)
      by_cases c2 : long = true
      · rw [if_pos c2]
        refine ih k (i + 1) true (by omega) (by omega) hz2 ⟨fun _ => ?_, fun _ => rfl⟩
        obtain ⟨s, hs, h⟩ := hlong.1 c2
        exact ⟨s, by rw [List.take_succ_eq_append_getElem hlt]; exact List.mem_append_left _ hs, h⟩
      · rw [if_neg c2]
        refine ih k (i + 1) _ (by omega) (by omega) hz2 ?_
        rw [decide_eq_true_eq, List.take_succ_eq_append_getElem hlt]
        refine ⟨fun h => ⟨l[i], List.mem_append_right _ (List.mem_singleton.2 rfl), by omega⟩, fun ⟨s, hs, h⟩ => ?_⟩
        rcases List.mem_append.1 hs with hs | hs
        · exact absurd (hlong.2 ⟨s, hs, h⟩) c2
        · rw [List.mem_singleton] at hs
          subst hs
          omega
theorem rstr_f (l : List ByteArray) (hl : l.length ≤ 1048576) (hm : ∀ s ∈ l, s.size ≤ 1048576) (hs : (l.map ByteArray.size).sum ≤ 1099511627776) (k : Nat) (hk : 3 * l.length + 1048586 ≤ k) : gangwayref08_Strings.f k l = symtab_Strings.f l := by
  unfold symtab_Strings.f
  rw [if_pos ⟨by omega, hs⟩]
  exact rstr_l0 l (by omega) hm _ rfl l.length k 0 false (by omega) (by omega) rfl (by simp)
end Go.Proofs.Ytejdnanhnkjaoaa.Sym
end
section
namespace Go.Proofs.Ytejdnanhnkjaoaa.Sym
set_option linter.unusedVariables false
set_option linter.unusedSimpArgs false
open Go.RowKit Go.Proofs.Ytejdnanhnkjaoaa.G Go.Proofs.YtejdnanhnkjaoaaW.PrintWords Go.Proofs.YtejdnanhnkjaoaaW.PrintLast Go.Proofs.YtejdnanhnkjaoaaW.PrintMore Go.Proofs.Ytejdnanhnkjaoaa.Bit
theorem plain_zero (s : ByteArray) : plainOf s = !decide ((0 : UInt8) ∈ s.data.toList) := by
  unfold plainOf
  have := indexByte_zero s.data.toList
  by_cases h : (0 : UInt8) ∈ s.data.toList
  · rw [decide_eq_true h, decide_eq_false (by have := this.2 h; omega)]; rfl
  · rw [decide_eq_false h, decide_eq_true (by by_cases c : 0 ≤ Lib.indexByte s.data.toList 0; exact absurd (this.1 c) h; omega)]; rfl
theorem good_j2 (k : Nat) (c : Bool) (x : S58) : gangwayref08_good.j2 (k + 1) c x.f0 x.f1 x.f2 x.f3 x.f4 x.f5 = some (c && (x.f1.toList != [] || decide (x.f4 ≠ 0 ∧ x.f2 = 0 ∧ x.f3 = 0)) && (x.f0.toList != [] || decide (x.f4 = 0))) := by
  simp only [gangwayref08_good.j2]
  cases c
  · simp
  · by_cases h1 : x.f1.toList = [] <;> by_cases h0 : x.f0.toList = [] <;> by_cases h4 : x.f4 = 0 <;> by_cases h2 : x.f2 = 0 <;> by_cases h3 : x.f3 = 0 <;> simp [h1, h0, h4, h2, h3]
theorem good_j1 (k : Nat) (c : Bool) (x : S58) : gangwayref08_good.j1 (k + 2) c x.f0 x.f1 x.f2 x.f3 x.f4 x.f5 = some (!c && decide (x.f5 = 0 ∨ x.f5 = 1 ∨ x.f5 = 2 ∨ x.f5 = 6 ∨ x.f5 = 10) && (x.f1.toList != [] || decide (x.f4 ≠ 0 ∧ x.f2 = 0 ∧ x.f3 = 0)) && (x.f0.toList != [] || decide (x.f4 = 0))) := by
  simp only [gangwayref08_good.j1]
  simp only [good_j2]
  generalize (x.f1.toList != [] || decide (x.f4 ≠ 0 ∧ x.f2 = 0 ∧ x.f3 = 0)) = p
  generalize (x.f0.toList != [] || decide (x.f4 = 0)) = q
  cases c
  · by_cases h0 : x.f5 = 0
    · simp [h0]
    · by_cases h1 : x.f5 = 1
      · simp [h1]
      · by_cases h2 : x.f5 = 2
        · simp [h2]
        · by_cases h6 : x.f5 = 6
          · simp [h6]
          · by_cases h10 : x.f5 = 10
            · simp [h10]
            · simp [h0, h1, h2, h6, h10]
  · simp
theorem good_j0 (k : Nat) (c : Bool) (x : S58) : gangwayref08_good.j0 (k + 3) c x.f0 x.f1 x.f2 x.f3 x.f4 x.f5 = some (!c && decide (0 ≤ x.f4 ∧ x.f4 ≤ 2) && decide (x.f5 = 0 ∨ x.f5 = 1 ∨ x.f5 = 2 ∨ x.f5 = 6 ∨ x.f5 = 10) && (x.f1.toList != [] || decide (x.f4 ≠ 0 ∧ x.f2 = 0 ∧ x.f3 = 0)) && (x.f0.toList != [] || decide (x.f4 = 0))) := by
  simp only [gangwayref08_good.j0]
  simp only [good_j1]
  generalize (x.f1.toList != [] || decide (x.f4 ≠ 0 ∧ x.f2 = 0 ∧ x.f3 = 0)) = p
  generalize (x.f0.toList != [] || decide (x.f4 = 0)) = q
  generalize (decide (x.f5 = 0 ∨ x.f5 = 1 ∨ x.f5 = 2 ∨ x.f5 = 6 ∨ x.f5 = 10)) = r
  cases c
  · rw [if_neg (by decide)]
    by_cases a1 : x.f4 = 0
    · rw [if_pos a1, decide_eq_true (show 0 ≤ x.f4 ∧ x.f4 ≤ 2 by omega)]; simp
    · rw [if_neg a1]
      by_cases a2 : x.f4 = 1
      · rw [if_pos a2, decide_eq_true (show 0 ≤ x.f4 ∧ x.f4 ≤ 2 by omega)]; simp
      · rw [if_neg a2]
        by_cases a3 : x.f4 = 2
        · rw [decide_eq_true (show 0 ≤ x.f4 ∧ x.f4 ≤ 2 by omega), a3]; simp
        · rw [decide_eq_false (show ¬ (0 ≤ x.f4 ∧ x.f4 ≤ 2) by omega), show (x.f4 != 2) = true from bne_iff_ne.2 a3]; simp
  · simp
def valOf (x : S58) : Bool := decide (0 ≤ x.f2 ∧ x.f2 ≤ 4611686018427387904 ∧ 0 ≤ x.f3 ∧ x.f3 ≤ 4611686018427387904)
theorem good_vals (k : Nat) (x : S58) : (if x.f2 < 0 then gangwayref08_good.j0 (k + 3) true x.f0 x.f1 x.f2 x.f3 x.f4 x.f5 else if x.f2 > 4611686018427387904 then gangwayref08_good.j0 (k + 3) true x.f0 x.f1 x.f2 x.f3 x.f4 x.f5 else if x.f3 < 0 then gangwayref08_good.j0 (k + 3) true x.f0 x.f1 x.f2 x.f3 x.f4 x.f5 else gangwayref08_good.j0 (k + 3) (decide (x.f3 > 4611686018427387904)) x.f0 x.f1 x.f2 x.f3 x.f4 x.f5) = gangwayref08_good.j0 (k + 3) (!valOf x) x.f0 x.f1 x.f2 x.f3 x.f4 x.f5 := by
  unfold valOf
  by_cases a1 : x.f2 < 0
  · rw [if_pos a1, decide_eq_false (by omega)]; rfl
  rw [if_neg a1]
  by_cases a2 : x.f2 > 4611686018427387904
  · rw [if_pos a2, decide_eq_false (by omega)]; rfl
  rw [if_neg a2]
  by_cases a3 : x.f3 < 0
  · rw [if_pos a3, decide_eq_false (by omega)]; rfl
  rw [if_neg a3]
  by_cases a4 : x.f3 > 4611686018427387904
  · rw [decide_eq_true a4, decide_eq_false (by omega)]; rfl
  · rw [decide_eq_false a4, decide_eq_true (by omega)]; rfl
theorem good_f (x : S58) (secs : List ByteArray) (h0 : x.f0.size ≤ 255) (hs : secs.length ≤ 64) (k : Nat) (hk : 400 ≤ k) : gangwayref08_good.f k x.f0 x.f1 x.f2 x.f3 x.f4 x.f5 secs = some (rightOf x secs) := by
  have hsplit : decide (0 ≤ x.f2 ∧ x.f2 ≤ 4611686018427387904 ∧ 0 ≤ x.f3 ∧ x.f3 ≤ 4611686018427387904 ∧ 0 ≤ x.f4 ∧ x.f4 ≤ 2) = (valOf x && decide (0 ≤ x.f4 ∧ x.f4 ≤ 2)) := by
    unfold valOf
    rw [← Bool.decide_and]
    congr 1
    apply propext
    constructor <;> intro h <;> omega
  unfold gangwayref08_good.f rightOf
  rw [rzero_f x.f0 (by omega) k (by omega), Option.bind_some, hsplit, plain_zero]
  obtain ⟨m, rfl⟩ : ∃ m, k = m + 3 := ⟨k - 3, by omega⟩
  generalize hz : decide ((0 : UInt8) ∈ x.f0.data.toList) = z
  cases z
  · rw [if_neg (by decide)]
    by_cases h1 : x.f1.toList = []
    · rw [if_pos h1, good_vals, good_j0]; simp [h1]
    · rw [if_neg h1]
      by_cases h2 : x.f1.toList = [42]
      · rw [if_pos h2, good_vals, good_j0]; simp [h2]
      · rw [if_neg h2, rplace_f secs x.f1 (by omega) _ (by omega), Option.bind_some]
        have e1 : (x.f1.toList == []) = false := by simpa using h1
        have e2 : (x.f1.toList == [42]) = false := by simpa using h2
        rw [e1, e2, among_pos]
        have hle := pos_le secs x.f1.data.toList
        by_cases h3 : ((pos secs x.f1.data.toList : Nat) : Int) = (secs.length : Int)
        · rw [if_pos h3, good_j0, decide_eq_false (show ¬ pos secs x.f1.data.toList < secs.length by omega)]; simp
        · rw [if_neg h3, good_vals, good_j0, decide_eq_true (show pos secs x.f1.data.toList < secs.length by omega)]; simp
  · rw [if_pos rfl, good_j0]; simp
theorem named_l0 (l : List ByteArray) (hl : l.length ≤ 64) (h255 : ∀ s ∈ l, s.size ≤ 255) (d : Nat) : ∀ k i, i + d = l.length → d + 400 ≤ k → gangwayref08_named.l0 k l (i : Int) = some (!(List.range' i d).any (secBad l)) := by
  induction d with
  | zero =>
    intro k i h hk
    obtain ⟨k, rfl⟩ : ∃ m, k = m + 1 := ⟨k - 1, by omega⟩
    rw [gangwayref08_named.l0, if_neg (by omega)]
    rfl
  | succ d ih =>
    intro k i h hk
    obtain ⟨k, rfl⟩ : ∃ m, k = m + 1 := ⟨k - 1, by omega⟩
    have hi : i < l.length := by omega
    rw [gangwayref08_named.l0, if_pos (by omega), if_pos (by omega), List.range'_succ, List.any_cons]
    have hz := h255 l[i] (List.getElem_mem hi)
    have hsb : secBad l i = (l[i].toList == [] || l[i].toList == [42] || decide ((0 : UInt8) ∈ l[i].data.toList) || decide (pos l l[i].data.toList < i)) := by
      unfold secBad
      rw [rdOf_get l i hi, plain_zero, Bool.not_not, among_pos]
      congr 1
      have e : pos l l[i].data.toList < i ↔ pos (l.take i) l[i].data.toList < (l.take i).length := by
        rw [List.length_take, Nat.min_eq_left (by omega)]
        unfold pos
        constructor
        · intro hp
          have h1 : l.findIdx (fun x => x.data.toList == l[i].data.toList) < l.length := by omega
          have h2 := List.findIdx_getElem (w := h1)
          have h3 : (l.take i).findIdx (fun x => x.data.toList == l[i].data.toList) < (l.take i).length := by
            apply List.findIdx_lt_length_of_exists
            exact ⟨l[l.findIdx (fun x => x.data.toList == l[i].data.toList)], List.mem_take_iff_getElem.2 ⟨_, by omega, rfl⟩, h2⟩
          rw [List.length_take, Nat.min_eq_left (by omega)] at h3
          exact h3
        · intro hp
          have h1 : (l.take i).findIdx (fun x => x.data.toList == l[i].data.toList) < (l.take i).length := by rw [List.length_take, Nat.min_eq_left (by omega)]; exact hp
          have h2 := List.findIdx_getElem (w := h1)
          have h3 : l.findIdx (fun x => x.data.toList == l[i].data.toList) ≤ (l.take i).findIdx (fun x => x.data.toList == l[i].data.toList) := by
            apply Nat.le_of_not_lt
            intro hc
            have := List.not_of_lt_findIdx hc
            rw [List.getElem_take] at h2
            rw [h2] at this
            cases this
          omega
      by_cases c : pos l l[i].data.toList < i
      · rw [decide_eq_true c, decide_eq_true (e.1 c)]
      · rw [decide_eq_false c, decide_eq_false (fun h => c (e.2 h))]
    rw [hsb, rdOf_get l i hi]
    by_cases h1 : l[i].toList = []
    · rw [if_pos h1]; simp [h1]
    rw [if_neg h1]
    by_cases h2 : l[i].toList = [42]
    · rw [if_pos h2]; simp [h2]
    rw [if_neg h2, rzero_f l[i] (by omega) k (by omega), Option.bind_some]
    have e1 : (l[i].toList == []) = false := by simpa using h1
    have e2 : (l[i].toList == [42]) = false := by simpa using h2
    rw [e1, e2]
    generalize decide ((0 : UInt8) ∈ l[i].data.toList) = z
    cases z
    · rw [if_neg (by decide), rplace_f l l[i] (by omega) k (by omega), Option.bind_some]
      by_cases h3 : pos l l[i].data.toList < i
      · rw [if_pos (by omega), decide_eq_true h3]; simp
      · rw [if_neg (by omega), decide_eq_false h3, wrap64_id (by omega) (by omega), show (i : Int) + 1 = ((i + 1 : Nat) : Int) from by omega, ih k (i + 1) (by omega) (by omega)]; simp
    · rw [if_pos rfl]; simp
theorem named_f (l : List ByteArray) (hl : l.length ≤ 64) (h255 : ∀ s ∈ l, s.size ≤ 255) (k : Nat) (hk : 500 ≤ k) : gangwayref08_named.f k l = some (!someOf (secBad l) l.length) := by
  have := named_l0 l hl h255 l.length k 0 (by omega) (by omega)
  unfold gangwayref08_named.f someOf
  rw [List.range_eq_range']
  exact this
/-- has the symbol at place i the name of that at place j, both Local or both not? -/
def dup (l : List S58) (i j : Nat) : Bool := (rd_T58 l (i : Int)).f0.toList != [] && ((rd_T58 l (i : Int)).f0.toList == (rd_T58 l (j : Int)).f0.toList && (((rd_T58 l (i : Int)).f4 == 0) == ((rd_T58 l (j : Int)).f4 == 0)))
theorem right_bind {x : S58} {secs : List ByteArray} (h : rightOf x secs = true) : 0 ≤ x.f4 ∧ x.f4 ≤ 2 := by
  unfold rightOf at h
  simp only [Bool.and_eq_true, decide_eq_true_eq] at h
  omega
theorem key_iff {x y : S58} (hx : 0 ≤ x.f4 ∧ x.f4 ≤ 2) (hy : 0 ≤ y.f4 ∧ y.f4 ≤ 2) : symKey y = symKey x ↔ (x.f0.toList = y.f0.toList ∧ ((x.f4 == 0) == (y.f4 == 0)) = true) := by
  unfold symKey
  rw [Prod.mk.injEq, same_iff]
  have e : (if 1 < y.f4 then 1 else y.f4) = (if 1 < x.f4 then 1 else x.f4) ↔ (((x.f4 == 0) == (y.f4 == 0)) = true) := by
    generalize x.f4 = a at *
    generalize y.f4 = b at *
    have ha : a = 0 ∨ a = 1 ∨ a = 2 := by omega
    have hb : b = 0 ∨ b = 1 ∨ b = 2 := by omega
    rcases ha with rfl | rfl | rfl <;> rcases hb with rfl | rfl | rfl <;> decide
  rw [e]
  constructor
  · rintro ⟨h1, h2⟩; exact ⟨h1.symm, h2⟩
  · rintro ⟨h1, h2⟩; exact ⟨h1.symm, h2⟩
theorem bad_dup (l : List S58) (secs : List ByteArray) (i : Nat) (hi : i < l.length) (hr : ∀ j (h : j < l.length), j ≤ i → rightOf l[j] secs = true) : symBad l secs i = (List.range' 0 i).any (dup l i) := by
  unfold symBad
  rw [rd_sym l i hi, hr i hi (Nat.le_refl _)]
  simp only [Bool.not_true, Bool.false_or]
  have hb := right_bind (hr i hi (Nat.le_refl _))
  by_cases hn : l[i].f0.toList = []
  · have : ∀ j, dup l i j = false := fun j => by unfold dup; rw [rd_sym l i hi, hn]; rfl
    rw [hn]
    rw [show (([] : List UInt8) != []) = false from rfl, Bool.false_and]
    symm
    rw [List.any_eq_false]
    intro j _
    rw [this]; decide
  · have hn' : (l[i].f0.toList != []) = true := bne_iff_ne.2 hn
    rw [hn', Bool.true_and]
    rw [Bool.eq_iff_iff, decide_eq_true_eq, List.count_pos_iff, List.mem_map, List.any_eq_true]
    constructor
    · rintro ⟨y, hy, he⟩
      obtain ⟨j, hj, rfl⟩ := List.mem_take_iff_getElem.1 hy
      have hj2 : j < l.length := by omega
      refine ⟨j, by simp; omega, ?_⟩
      have := (key_iff hb (right_bind (hr j hj2 (by omega)))).1 he
      unfold dup
      rw [rd_sym l i hi, rd_sym l j hj2, hn', this.2, beq_iff_eq.2 this.1]
      rfl
    · rintro ⟨j, hj, he⟩
      have hj1 : j < i := by simp at hj; omega
      have hj2 : j < l.length := by omega
      refine ⟨l[j], List.mem_take_iff_getElem.2 ⟨j, by omega, rfl⟩, ?_⟩
      unfold dup at he
      rw [rd_sym l i hi, rd_sym l j hj2, hn'] at he
      simp only [Bool.true_and, Bool.and_eq_true] at he
      exact (key_iff hb (right_bind (hr j hj2 (by omega)))).2 ⟨beq_iff_eq.1 he.1, he.2⟩
theorem check_l3 (l : List S58) (secs : List ByteArray) (hl : l.length ≤ 2000) (i : Nat) (hi : i < l.length) (r : Int) (h : ∃ k, gangwayref08_Check.l2 k l secs ((i + 1 : Nat) : Int) = some r) (d : Nat) : ∀ j, j + d = i → ∃ k, gangwayref08_Check.l3 k l secs (i : Int) (j : Int) = some (if (List.range' j d).any (dup l i) then 80 else r) := by
  induction d with
  | zero =>
    intro j hj
    obtain ⟨k, hk⟩ := h
    refine ⟨k + 1, ?_⟩
    rw [gangwayref08_Check.l3, if_neg (by omega), wrap64_id (by omega) (by omega), show (i : Int) + 1 = ((i + 1 : Nat) : Int) from by omega, hk]
    rfl
  | succ d ih =>
    intro j hj
    obtain ⟨k, hk⟩ := ih (j + 1) (by omega)
    refine ⟨k + 1, ?_⟩
    rw [gangwayref08_Check.l3, if_pos (by omega), if_pos (by omega), if_pos (by omega), wrap64_id (by omega) (by omega), show (j : Int) + 1 = ((j + 1 : Nat) : Int) from by omega, hk, List.range'_succ, List.any_cons]
    have hd : dup l i j = ((rd_T58 l (i : Int)).f0.toList != [] && ((rd_T58 l (i : Int)).f0.toList == (rd_T58 l (j : Int)).f0.toList && (((rd_T58 l (i : Int)).f4 == 0) == ((rd_T58 l (j : Int)).f4 == 0)))) := rfl
    rw [hd]
    by_cases h1 : (rd_T58 l (i : Int)).f0.toList = []
    · rw [if_pos h1, show ((rd_T58 l (i : Int)).f0.toList != []) = false from by rw [h1]; rfl]; rfl
    · rw [if_neg h1, if_pos (by omega), if_pos (by omega), show ((rd_T58 l (i : Int)).f0.toList != []) = true from bne_iff_ne.2 h1]
      by_cases h2 : (rd_T58 l (i : Int)).f0.toList = (rd_T58 l (j : Int)).f0.toList
      · rw [if_pos h2, beq_iff_eq.2 h2]
        generalize (((rd_T58 l (i : Int)).f4 == 0) == ((rd_T58 l (j : Int)).f4 == 0)) = q
        cases q <;> rfl
      · rw [if_neg h2, beq_eq_false_iff_ne.2 h2]; rfl
theorem check_l2 (l : List S58) (secs : List ByteArray) (hl : l.length ≤ 2000) (hs : secs.length ≤ 64) (h255 : ∀ x ∈ l, x.f0.size ≤ 255) (d : Nat) : ∀ i, i + d = l.length → (∀ j (h : j < l.length), j < i → rightOf l[j] secs = true) → ∃ k, gangwayref08_Check.l2 k l secs (i : Int) = some (if (List.range' i d).any (symBad l secs) then 80 else 0) := by
  induction d with
  | zero =>
    intro i hi _
    refine ⟨1, ?_⟩
    rw [gangwayref08_Check.l2, if_neg (by omega)]
    rfl
  | succ d ih =>
    intro i hi hr
    have hil : i < l.length := by omega
    have hx := h255 l[i] (List.getElem_mem hil)
    cases hg : rightOf l[i] secs with
    | false =>
      refine ⟨401, ?_⟩
      have hb : symBad l secs i = true := by unfold symBad; rw [rd_sym l i hil, hg]; rfl
      rw [gangwayref08_Check.l2, if_pos (by omega), if_pos (by omega), rd_sym l i hil, good_f l[i] secs hx hs 400 (by omega), Option.bind_some, hg, if_neg (by decide), List.range'_succ, List.any_cons, hb]
      rfl
    | true =>
      have hr2 : ∀ j (h : j < l.length), j < i + 1 → rightOf l[j] secs = true := fun j h hj => by
        rcases Nat.lt_or_ge j i with c | c
        · exact hr j h c
        · have : j = i := by omega
          subst this; exact hg
      obtain ⟨k0, hk0⟩ := ih (i + 1) (by omega) hr2
      obtain ⟨k1, hk1⟩ := check_l3 l secs hl i hil _ ⟨k0, hk0⟩ i 0 (by omega)
      refine ⟨k1 + 400 + 1, ?_⟩
      rw [gangwayref08_Check.l2, if_pos (by omega), if_pos (by omega), rd_sym l i hil, good_f l[i] secs hx hs _ (by omega), Option.bind_some, hg, if_pos rfl, List.range'_succ, List.any_cons, bad_dup l secs i hil (fun j h hj => hr2 j h (by omega))]
      have := rounds_to (g := fun k => gangwayref08_Check.l3 k l secs (i : Int) 0) (fun k => (gangwayref08_Check.mono_l k).2.2.2.2 _ _ _ _) (show k1 ≤ k1 + 400 by omega) hk1
      refine this.trans ?_
      cases (List.range' 0 i).any (dup l i) <;> rfl
theorem check_l1 (l : List S58) (secs : List ByteArray) (hs : secs.length * 16 ≤ 140737488351232) (d : Nat) : ∀ k i (long : Bool), i + d = secs.length → gangwayref08_Check.l1 (k + d + 1) l secs long (i : Int) = (if (long || (List.range' i d).any (longSec secs)) = true then some 6 else (gangwayref08_named.f k secs).bind fun t103 => if t103 = true then gangwayref08_Check.l2 k l secs 0 else some 80) := by
  induction d with
  | zero =>
    intro k i long h
    rw [gangwayref08_Check.l1, if_neg (by omega)]
    cases long <;> rfl
  | succ d ih =>
    intro k i long h
    rw [show k + (d + 1) + 1 = (k + d + 1) + 1 from by omega, gangwayref08_Check.l1, if_pos (by omega), wrap64_id (by omega) (by omega), show (i : Int) + 1 = ((i + 1 : Nat) : Int) from by omega, ih k (i + 1) _ (by omega), List.range'_succ, List.any_cons]
    cases long with
    | true => rfl
    | false =>
      rw [if_neg (by decide), if_pos (by omega), ih k (i + 1) _ (by omega)]
      rw [show decide (((rdOf ByteArray.empty secs (i : Int)).size : Int) > 255) = longSec secs i from by unfold longSec; congr 1; apply propext; constructor <;> intro h <;> omega]
      rfl
theorem check_l0 (l : List S58) (secs : List ByteArray) (hl : l.length * 64 ≤ 140737488351232) (d : Nat) : ∀ k i (long : Bool), i + d = l.length → gangwayref08_Check.l0 (k + d + 1) l secs long (i : Int) = gangwayref08_Check.l1 k l secs (long || (List.range' i d).any (longName l)) 0 := by
  induction d with
  | zero =>
    intro k i long h
    rw [gangwayref08_Check.l0, if_neg (by omega)]
    cases long <;> rfl
  | succ d ih =>
    intro k i long h
    rw [show k + (d + 1) + 1 = (k + d + 1) + 1 from by omega, gangwayref08_Check.l0, if_pos (by omega), wrap64_id (by omega) (by omega), show (i : Int) + 1 = ((i + 1 : Nat) : Int) from by omega, ih k (i + 1) _ (by omega), List.range'_succ, List.any_cons]
    cases long with
    | true => rfl
    | false =>
      rw [if_neg (by decide), if_pos (by omega), ih k (i + 1) _ (by omega)]
      rw [show decide (((rd_T58 l (i : Int)).f0.size : Int) > 255) = longName l i from by unfold longName; congr 1; apply propext; constructor <;> intro h <;> omega]
      rfl
theorem rcheck_f (l : List S58) (secs : List ByteArray) (hl : l.length * 64 ≤ 140737488351232) (hs : secs.length * 16 ≤ 140737488351232) : ∃ k, gangwayref08_Check.f k l secs = some (symCheck l secs) := by
  have h1 : ∀ k (b : Bool), gangwayref08_Check.j0 (k + secs.length + 1 + l.length + 1 + 1) l secs b = (if ((b || (List.range' 0 l.length).any (longName l)) || (List.range' 0 secs.length).any (longSec secs)) = true then some 6 else (gangwayref08_named.f k secs).bind fun t103 => if t103 = true then gangwayref08_Check.l2 k l secs 0 else some 80) := by
    intro k b
    rw [gangwayref08_Check.j0]
    have e0 := check_l0 l secs hl l.length (k + secs.length + 1) 0 b (by omega)
    have e1 := check_l1 l secs hs secs.length k 0 (b || (List.range' 0 l.length).any (longName l)) (by omega)
    exact e0.trans e1
  unfold symCheck
  rw [show someOf (longName l) l.length = (List.range' 0 l.length).any (longName l) from by unfold someOf; rw [List.range_eq_range'], show someOf (longSec secs) secs.length = (List.range' 0 secs.length).any (longSec secs) from by unfold someOf; rw [List.range_eq_range']]
  by_cases c1 : l.length > 2000
  · refine ⟨0 + secs.length + 1 + l.length + 1 + 1, ?_⟩
    unfold gangwayref08_Check.f
    rw [if_pos (by omega), h1, if_pos (show l.length > 2000 ∨ secs.length > 64 from .inl c1)]
    exact if_pos rfl
  by_cases c2 : secs.length > 64
  · refine ⟨0 + secs.length + 1 + l.length + 1 + 1, ?_⟩
    unfold gangwayref08_Check.f
    rw [if_neg (by omega), decide_eq_true (by omega), h1, if_pos (show l.length > 2000 ∨ secs.length > 64 from .inr c2)]
    exact if_pos rfl
  rw [if_neg (by omega)]
  by_cases c3 : ((List.range' 0 l.length).any (longName l) || (List.range' 0 secs.length).any (longSec secs)) = true
  · refine ⟨0 + secs.length + 1 + l.length + 1 + 1, ?_⟩
    unfold gangwayref08_Check.f
    rw [if_neg (by omega), decide_eq_false (by omega), h1, Bool.false_or, if_pos c3, if_pos c3]
  rw [if_neg c3]
  have c3' := Bool.eq_false_iff.2 c3
  rw [Bool.or_eq_false_iff] at c3'
  have hn : ∀ x ∈ l, x.f0.size ≤ 255 := by
    intro x hx
    obtain ⟨i, hi, rfl⟩ := List.mem_iff_getElem.1 hx
    have := List.any_eq_false.1 c3'.1 i (by simp; omega)
    unfold longName at this
    rw [rd_sym l i hi] at this
    simp at this
    exact this
  have hsn : ∀ x ∈ secs, x.size ≤ 255 := by
    intro x hx
    obtain ⟨i, hi, rfl⟩ := List.mem_iff_getElem.1 hx
    have := List.any_eq_false.1 c3'.2 i (by simp; omega)
    unfold longSec at this
    rw [rdOf_get secs i hi] at this
    simp at this
    exact this
  obtain ⟨k2, hk2⟩ := check_l2 l secs (by omega) (by omega) hn l.length 0 (by omega) (fun j _ h => absurd h (by omega))
  refine ⟨(k2 + 500) + secs.length + 1 + l.length + 1 + 1, ?_⟩
  unfold gangwayref08_Check.f
  rw [if_neg (by omega), decide_eq_false (by omega), h1, Bool.false_or, if_neg c3, named_f secs (by omega) hsn _ (by omega), Option.bind_some]
  have := rounds_to (g := fun k => gangwayref08_Check.l2 k l secs 0) (fun k => (gangwayref08_Check.mono_l k).2.2.2.1 _ _ _) (show k2 ≤ k2 + 500 by omega) hk2
  rw [show someOf (symBad l secs) l.length = (List.range' 0 l.length).any (symBad l secs) from by unfold someOf; rw [List.range_eq_range']]
  cases hsb : someOf (secBad secs) secs.length with
  | true => rfl
  | false =>
    rw [if_neg (show ¬ (false = true) by decide)]
    exact (if_pos rfl).trans this
end Go.Proofs.Ytejdnanhnkjaoaa.Sym
end
section
namespace Go.Proofs.Ytejdnanhnkjaoaa.SymW
set_option linter.unusedVariables false
set_option linter.unusedSimpArgs false
open Go.RowKit Go.Proofs.Ytejdnanhnkjaoaa.G Go.Proofs.YtejdnanhnkjaoaaW.PrintWords Go.Proofs.YtejdnanhnkjaoaaW.PrintLast Go.Proofs.YtejdnanhnkjaoaaW.PrintMore Go.Proofs.Ytejdnanhnkjaoaa.Bit Go.Proofs.Ytejdnanhnkjaoaa.Sym
theorem ord_l1 (l : List S58) (hl : l.length ≤ 1000000) (d : Nat) : ∀ k i (acc : List S58) (n : Int), i + d = l.length → acc.length ≤ 1000000 + i → gangwayref08_Ordered.l1 (k + d + 1) l acc n (i : Int) = some (acc ++ globals (l.drop i), n) := by
  induction d with
  | zero =>
    intro k i acc n h ha
    rw [gangwayref08_Ordered.l1, if_neg (by omega), List.drop_of_length_le (by omega)]
    simp [globals]
  | succ d ih =>
    intro k i acc n h ha
    have hi : i < l.length := by omega
    have hd : globals (l.drop i) = (if l[i].f4 = 0 then [] else [l[i]]) ++ globals (l.drop (i + 1)) := by
      rw [List.drop_eq_getElem_cons hi]
      unfold globals
      rw [List.filter_cons]
      by_cases c : l[i].f4 = 0 <;> simp [c]
    rw [show k + (d + 1) + 1 = (k + d + 1) + 1 from by omega, gangwayref08_Ordered.l1, if_pos (by omega), if_pos (by omega), wrap64_id (by omega) (by omega), show (i : Int) + 1 = ((i + 1 : Nat) : Int) from by omega, rd_sym l i hi, hd]
    by_cases c : l[i].f4 = 0
    · rw [if_pos c, if_pos c, ih k (i + 1) acc n (by omega) (by omega)]
      rfl
    · rw [if_neg c, if_neg c, if_pos (by omega), ih k (i + 1) _ n (by omega) (by simp; omega), List.append_assoc]
theorem ord_l0 (l : List S58) (hl : l.length ≤ 1000000) (d : Nat) : ∀ k i (acc : List S58), i + d = l.length → acc.length ≤ i → gangwayref08_Ordered.l0 (k + d + 1) l acc (i : Int) = gangwayref08_Ordered.l1 k l (acc ++ locals (l.drop i)) ((acc ++ locals (l.drop i)).length : Int) 0 := by
  induction d with
  | zero =>
    intro k i acc h ha
    rw [gangwayref08_Ordered.l0, if_neg (by omega), List.drop_of_length_le (by omega)]
    simp [locals]
  | succ d ih =>
    intro k i acc h ha
    have hi : i < l.length := by omega
    have hd : locals (l.drop i) = (if l[i].f4 = 0 then [l[i]] else []) ++ locals (l.drop (i + 1)) := by
      rw [List.drop_eq_getElem_cons hi]
      unfold locals
      rw [List.filter_cons]
      by_cases c : l[i].f4 = 0 <;> simp [c]
    rw [show k + (d + 1) + 1 = (k + d + 1) + 1 from by omega, gangwayref08_Ordered.l0, if_pos (by omega), if_pos (by omega), wrap64_id (by omega) (by omega), show (i : Int) + 1 = ((i + 1 : Nat) : Int) from by omega, rd_sym l i hi, hd]
    by_cases c : l[i].f4 = 0
    · rw [if_pos c, if_pos c, if_pos (by omega), ih k (i + 1) _ (by omega) (by simp; omega), List.append_assoc]
    · rw [if_neg c, if_neg c, ih k (i + 1) acc (by omega) (by omega)]
      rfl
theorem ord_f (l : List S58) (hl : l.length ≤ 1000000) (k : Nat) : gangwayref08_Ordered.f (k + l.length + 1 + l.length + 1) l = some (ordered l, ((locals l).length : Int)) := by
  unfold gangwayref08_Ordered.f
  have h0 := ord_l0 l hl l.length (k + l.length + 1) 0 [] (by omega) (by simp)
  have hle := locals_le l
  have h1 := ord_l1 l hl l.length k 0 ([] ++ locals (l.drop 0)) (([] ++ locals (l.drop 0)).length : Int) (by omega) (by simp; omega)
  refine h0.trans (h1.trans ?_)
  simp [ordered]
theorem leB_get (s : Nat) : ∀ (u : Int) (m : Nat), m < s → (Leb.leB u s)[m]? = some (u / 256 ^ m % 256) := by
  induction s with
  | zero => intro u m h; omega
  | succ s ih =>
    intro u m h
    cases m with
    | zero => simp [Leb.leB]
    | succ m =>
      simp only [Leb.leB, List.getElem?_cons_succ]
      rw [ih _ m (by omega), Leb.pow256, Int.ediv_ediv_of_nonneg (by omega)]
theorem putL_zero (n : Int) : putL n 0 = [] := by simp [putL]
theorem putL_succ (n : Int) (m : Nat) (h : m < 8) : putL n (m + 1) = putL n m ++ [n / 256 ^ m % 256] := by
  unfold putL
  rw [List.take_add_one, leB_get 8 _ m h]
  have e : n % 18446744073709551616 / 256 ^ m % 256 = n / 256 ^ m % 256 := by
    have hm : m = 0 ∨ m = 1 ∨ m = 2 ∨ m = 3 ∨ m = 4 ∨ m = 5 ∨ m = 6 ∨ m = 7 := by omega
    rcases hm with rfl | rfl | rfl | rfl | rfl | rfl | rfl | rfl <;> simp only [Int.pow_zero, Int.pow_succ, Int.one_mul] <;> omega
  rw [e]
  rfl
theorem shr_i64 (u : Int) (i : Nat) (hi : i ≤ 7) : shr .i64 u (IntKind.u64.wrap (wrap64 (8 * (i : Int)))) = u / 256 ^ i := by
  unfold shr
  rw [wrap64_id (by omega) (by omega), wrap_u64, Int.emod_eq_of_lt (by omega) (by omega), show (8 * (i : Int)).toNat = 8 * i from by omega, Nat.min_eq_left (by simp [IntKind.bits]; omega), show (2 : Int) ^ (8 * i) = 256 ^ i from by rw [Int.pow_mul]; rfl]
theorem low_l0 (n : Int) (s : Nat) (hs : s ≤ 8) (b : List Int) (hb : b.length ≤ 1000000) (d : Nat) : ∀ k i, i + d = s → d < k → gangwayref08_low.l0 k (b ++ putL n i) n (s : Int) (i : Int) = some (b ++ putL n s) := by
  induction d with
  | zero =>
    intro k i h hk
    obtain ⟨k, rfl⟩ : ∃ m, k = m + 1 := ⟨k - 1, by omega⟩
    obtain rfl : i = s := by omega
    rw [gangwayref08_low.l0, if_neg (by omega)]
  | succ d ih =>
    intro k i h hk
    obtain ⟨k, rfl⟩ : ∃ m, k = m + 1 := ⟨k - 1, by omega⟩
    have hp := putL_le n i
    rw [gangwayref08_low.l0, if_pos (by omega), shr_i64 n i (by omega), if_pos (by rw [wrap_u64]; omega), if_pos (by rw [List.length_append]; omega), wrap64_id (n := (i : Int) + 1) (by omega) (by omega), show (i : Int) + 1 = ((i + 1 : Nat) : Int) from by omega, List.append_assoc, ← putL_succ n i (by omega), ih k (i + 1) (by omega) (by omega)]
theorem low_f (n : Int) (s : Nat) (hs : s ≤ 8) (b : List Int) (hb : b.length ≤ 1000000) (k : Nat) (hk : 10 ≤ k) : gangwayref08_low.f k b n (s : Int) = some (b ++ putL n s) := by
  have := low_l0 n s hs b hb s k 0 (by omega) (by omega)
  rw [putL_zero, List.append_nil] at this
  exact this
theorem putL_one (n : Int) : putL n 1 = [n % 256] := by
  rw [putL_succ n 0 (by omega), putL_zero]
  simp
theorem names_l (l : List ByteArray) (o : List S58) (n : Int) (ho : o.length ≤ 1000000) (d : Nat) : ∀ k i, i + d = o.length → gangwayref08_Write.l0 (k + d + 1) l o n (namesOf (o.take i)) (i : Int) = ((gangwayref08_Strings.f k (namesOf o)).bind fun bt110 => (if bt110.2.2 = 0 then (if 24 ≤ 281474976710656 then (gangwayref08_Write.l1 k l o n bt110.1 bt110.2.1 (List.replicate 24 0) 0) else (none)) else (some (([] : List Int), ([] : List Int), 0, bt110.2.2)))) := by
  induction d with
  | zero =>
    intro k i h
    rw [gangwayref08_Write.l0, if_neg (by omega), List.take_of_length_le (by omega)]
  | succ d ih =>
    intro k i h
    have hi : i < o.length := by omega
    have e : namesOf (o.take i) ++ [o[i].f0] = namesOf (o.take (i + 1)) := by
      unfold namesOf
      rw [← List.take_append_getElem (l := o) (i := i) hi, List.map_append]
      rfl
    rw [show k + (d + 1) + 1 = (k + d + 1) + 1 from by omega, gangwayref08_Write.l0, if_pos (by omega), if_pos (by omega), if_pos (by simp [namesOf]; omega), wrap64_id (by omega) (by omega), show (i : Int) + 1 = ((i + 1 : Nat) : Int) from by omega, rd_sym o i hi, e, ih k (i + 1) (by omega)]
theorem entries_l (secs : List ByteArray) (o : List S58) (n : Int) (strs at_ : List Int) (ho : o.length ≤ 2000) (hs : secs.length ≤ 64) (ha : at_.length = o.length) (hr : ∀ x ∈ o, rightOf x secs = true) (d : Nat) : ∀ k i, i + d = o.length → 2 * d + 200 ≤ k → gangwayref08_Write.l1 k secs o n strs at_ (List.replicate 24 0 ++ symsOf secs (o.take i) (at_.take i)) (i : Int) = some (List.replicate 24 0 ++ symsOf secs o at_, strs, wrap64 (1 + n), 0) := by
  induction d with
  | zero =>
    intro k i h hk
    obtain ⟨k, rfl⟩ : ∃ m, k = m + 1 := ⟨k - 1, by omega⟩
    rw [gangwayref08_Write.l1, if_neg (by omega), List.take_of_length_le (by omega), List.take_of_length_le (by omega)]
  | succ d ih =>
    intro k i h hk
    obtain ⟨k, rfl⟩ : ∃ m, k = m + 2 := ⟨k - 2, by omega⟩
    have hi : i < o.length := by omega
    have hra := hr o[i] (List.getElem_mem hi)
    have hlen : (List.replicate 24 (0 : Int) ++ symsOf secs (o.take i) (at_.take i)).length ≤ 200000 := by
      have h1 := symsOf_le secs (o.take i) (at_.take i)
      have h2 : (o.take i).length ≤ i := by rw [List.length_take]; omega
      rw [List.length_append, List.length_replicate]
      omega
    have hstep : ∀ P : Int, placeOf secs o[i].f1 = P → gangwayref08_Write.j2 (k + 1) secs o n strs at_ (List.replicate 24 0 ++ symsOf secs (o.take i) (at_.take i)) (i : Int) P o[i].f0 o[i].f1 o[i].f2 o[i].f3 o[i].f4 o[i].f5 = some (List.replicate 24 0 ++ symsOf secs o at_, strs, wrap64 (1 + n), 0) := by
      intro P hP
      have hih := ih k (i + 1) (by omega) (by omega)
      rw [symsOf_step secs o at_ i hi (by omega), ← List.append_assoc] at hih
      unfold entryB at hih
      rw [hP, putL_one, putL_one 0] at hih
      generalize List.replicate 24 (0 : Int) ++ symsOf secs (o.take i) (at_.take i) = B at *
      have hrd : rd at_ (i : Int) = at_[i] := rd_get at_ i (by omega)
      have p1 := putL_le at_[i] 4
      have p2 := putL_le P 2
      have p3 := putL_le o[i].f2 8
      rw [gangwayref08_Write.j2, if_pos (by omega), if_pos (by omega), hrd]
      have e1 := low_f at_[i] 4 (by omega) B (by omega) k (by omega)
      have e2 := low_f P 2 (by omega) (B ++ putL at_[i] 4 ++ [wrap64 (wrap64 (16 * o[i].f4) + o[i].f5) % 256, 0]) (by simp; omega) k (by omega)
      have e3 := low_f o[i].f2 8 (by omega) (B ++ putL at_[i] 4 ++ [wrap64 (wrap64 (16 * o[i].f4) + o[i].f5) % 256, 0] ++ putL P 2) (by simp; omega) k (by omega)
      have e4 := low_f o[i].f3 8 (by omega) (B ++ putL at_[i] 4 ++ [wrap64 (wrap64 (16 * o[i].f4) + o[i].f5) % 256, 0] ++ putL P 2 ++ putL o[i].f2 8) (by simp; omega) k (by omega)
      rw [show gangwayref08_low.f k B at_[i] 4 = _ from e1, Option.bind_some, Option.bind_some, if_pos (by simp; omega), show gangwayref08_low.f k _ P 2 = _ from e2, Option.bind_some, show gangwayref08_low.f k _ o[i].f2 8 = _ from e3, Option.bind_some, show gangwayref08_low.f k _ o[i].f3 8 = _ from e4, Option.bind_some, wrap64_id (n := (i : Int) + 1) (by omega) (by omega), show (i : Int) + 1 = ((i + 1 : Nat) : Int) from by omega, ← hih]
      congr 1
      simp
    rw [gangwayref08_Write.l1, if_pos (by omega), if_pos (by omega), rd_sym o i hi]
    by_cases c2 : o[i].f1.toList = [42]
    · rw [if_pos c2]
      exact hstep 65521 (by unfold placeOf; rw [if_neg (by rw [c2]; decide), if_pos c2])
    rw [if_neg c2]
    by_cases c1 : o[i].f1.toList = []
    · rw [if_pos c1]
      exact hstep 0 (by unfold placeOf; rw [if_pos c1])
    rw [if_neg c1, rplace_f secs o[i].f1 (by omega) _ (by omega), Option.bind_some]
    refine hstep _ ?_
    unfold placeOf
    rw [if_neg c1, if_neg c2, idxL_pos]
    have ham : among secs o[i].f1 = true := by
      unfold rightOf at hra
      simp only [Bool.and_eq_true, Bool.or_eq_true, beq_iff_eq] at hra
      rcases hra.1.1.1.1.2 with (h | h) | h
      · exact absurd h c1
      · exact absurd h c2
      · exact h
    rw [among_pos, decide_eq_true_eq] at ham
    rw [if_pos ham, Int.zero_add]
/-- What Write answers, and that the reference answers the same. -/
theorem write_same (l : List S58) (secs : List ByteArray) (hl : l.length * 64 ≤ 140737488351232) (hs : secs.length * 16 ≤ 140737488351232) : ∃ r, writeF l secs = some r ∧ ∃ k, gangwayref08_Write.f k l secs = some r := by
  obtain ⟨k0, hk0⟩ := rcheck_f l secs hl hs
  by_cases hc : symCheck l secs = 0
  · obtain ⟨h1, h2, h3, h4⟩ := check_ok hc
    have hol := ordered_length l
    have hnl : (namesOf (ordered l)).length = l.length := by unfold namesOf; rw [List.length_map, hol]
    have hsz : ∀ s ∈ namesOf (ordered l), s.size ≤ 255 := by
      intro s hs
      obtain ⟨x, hx, rfl⟩ := List.mem_map.1 hs
      exact h3 x (ordered_mem hx)
    have hsum := sum_le _ hsz
    rw [hnl] at hsum
    have hro : ∀ x ∈ ordered l, rightOf x secs = true := fun x hx => h4 x (ordered_mem hx)
    have hle := locals_le l
    obtain ⟨K, hK⟩ : ∃ K, K = k0 + 2000000 := ⟨_, rfl⟩
    have href : ∀ r, symtab_Strings.f (namesOf (ordered l)) = some r → gangwayref08_Write.f K l secs = (if r.2.2 = 0 then gangwayref08_Write.l1 (K - l.length - 1) secs (ordered l) ((locals l).length : Int) r.1 r.2.1 (List.replicate 24 0) 0 else some ([], [], 0, r.2.2)) := by
      intro r hr
      unfold gangwayref08_Write.f
      rw [rounds_to (g := fun k => gangwayref08_Check.f k l secs) (gangwayref08_Check.mono l secs) (show k0 ≤ K by omega) hk0, Option.bind_some, hc, if_pos rfl]
      have ho := ord_f l (by omega) (K - l.length - 1 - l.length - 1)
      rw [show K - l.length - 1 - l.length - 1 + l.length + 1 + l.length + 1 = K from by omega] at ho
      rw [ho, Option.bind_some]
      have hn := names_l secs (ordered l) ((locals l).length : Int) (by omega) l.length (K - l.length - 1) 0 (by omega)
      rw [show K - l.length - 1 + l.length + 1 = K from by omega, List.take_zero] at hn
      refine hn.trans ?_
      rw [rstr_f (namesOf (ordered l)) (by omega) (fun s hs => by have := hsz s hs; omega) (by omega) _ (by omega), hr, Option.bind_some]
      rfl
    unfold writeF
    rw [if_neg (fun h => h hc), if_pos ⟨h1, h2⟩]
    rcases strings_table (namesOf (ordered l)) (by omega) (by omega) with h | h | ⟨b, a, h, ht⟩
    · rw [h]
      exact ⟨_, if_pos (by decide), _, (href _ h).trans (if_neg (by decide))⟩
    · rw [h]
      exact ⟨_, if_pos (by decide), _, (href _ h).trans (if_neg (by decide))⟩
    · have hal : a.length = l.length := by rw [ht.len, hnl]
      rw [h]
      refine ⟨(List.replicate 24 0 ++ symsOf secs (ordered l) a, b, 1 + ((locals l).length : Int), 0), ?_, K, ?_⟩
      · show (if (0 : Int) ≠ 0 then _ else _) = _
        rw [if_neg (by decide), if_pos hal]
      · rw [href _ h, if_pos rfl]
        have := entries_l secs (ordered l) ((locals l).length : Int) b a (by omega) h2 (by omega) hro l.length (K - l.length - 1) 0 (by omega) (by omega)
        rw [List.take_zero, List.take_zero] at this
        simp only [symsOf, List.append_nil] at this
        rw [wrap64_id (by omega) (by omega)] at this
        exact this
  · refine ⟨([], [], 0, symCheck l secs), ?_, k0, ?_⟩
    · unfold writeF
      rw [if_pos hc]
    · unfold gangwayref08_Write.f
      rw [hk0, Option.bind_some, if_neg hc]
theorem symbols_l0 (l : List S58) (hl : l.length ≤ 140737488351232) (d : Nat) : ∀ k i, i + d = l.length → d < k → gangwaylaw08_symbols.l0 k l l (i : Int) = some true := by
  induction d with
  | zero =>
    intro k i h hk
    obtain ⟨k, rfl⟩ : ∃ m, k = m + 1 := ⟨k - 1, by omega⟩
    rw [gangwaylaw08_symbols.l0, if_neg (by omega)]
  | succ d ih =>
    intro k i h hk
    obtain ⟨k, rfl⟩ : ∃ m, k = m + 1 := ⟨k - 1, by omega⟩
    rw [gangwaylaw08_symbols.l0, if_pos (by omega), if_pos (by omega), if_pos (by omega), wrap64_id (by omega) (by omega), show (i : Int) + 1 = ((i + 1 : Nat) : Int) from by omega, ih k (i + 1) (by omega) (by omega)]
    simp
theorem symbols_f (l : List S58) (hl : l.length ≤ 140737488351232) (k : Nat) (hk : l.length < k) : gangwaylaw08_symbols.f k l l = some true := by
  unfold gangwaylaw08_symbols.f
  rw [if_pos rfl]
  exact symbols_l0 l hl l.length k 0 (by omega) hk
end Go.Proofs.Ytejdnanhnkjaoaa.SymW
end
section
namespace Go.Proofs.Ytejdnanhnkjaoaa.SymB
set_option linter.unusedVariables false
set_option linter.unusedSimpArgs false
open Go.RowKit Go.Proofs.Ytejdnanhnkjaoaa.G Go.Proofs.YtejdnanhnkjaoaaW.PrintWords Go.Proofs.YtejdnanhnkjaoaaW.PrintLast Go.Proofs.YtejdnanhnkjaoaaW.PrintMore Go.Proofs.Ytejdnanhnkjaoaa.Bit Go.Proofs.Ytejdnanhnkjaoaa.Sym Go.Proofs.Ytejdnanhnkjaoaa.SymW Go.Proofs.Ytejdnanhnkjaoaa.SymR
theorem leB_take (s : Nat) : ∀ (u : Int) (k : Nat), k ≤ s → (Leb.leB u s).take k = Leb.leB u k := by
  induction s with
  | zero => intro u k h; obtain rfl : k = 0 := by omega
            rfl
  | succ s ih =>
    intro u k h
    cases k with
    | zero => rfl
    | succ k => simp only [Leb.leB, List.take_succ_cons, ih _ k (by omega)]
theorem putL_eq (n : Int) (k : Nat) (h : k ≤ 8) : putL n k = Leb.leB (n % 18446744073709551616) k := leB_take 8 _ k h
theorem putL_range (n : Int) (k : Nat) (h : k ≤ 8) : ∀ b ∈ putL n k, 0 ≤ b ∧ b ≤ 255 := by rw [putL_eq n k h]; exact Leb.leB_range k _
theorem entryB_range (secs : List ByteArray) (x : S58) (a : Int) : ∀ b ∈ entryB secs x a, 0 ≤ b ∧ b ≤ 255 := by
  intro b hb
  unfold entryB at hb
  simp only [List.mem_append] at hb
  rcases hb with ((((hb | hb) | hb) | hb) | hb) | hb
  · exact putL_range _ 4 (by omega) b hb
  · exact putL_range _ 1 (by omega) b hb
  · exact putL_range _ 1 (by omega) b hb
  · exact putL_range _ 2 (by omega) b hb
  · exact putL_range _ 8 (by omega) b hb
  · exact putL_range _ 8 (by omega) b hb
theorem symsOf_range (secs : List ByteArray) : ∀ (o : List S58) (a : List Int), ∀ b ∈ symsOf secs o a, 0 ≤ b ∧ b ≤ 255
  | [], _ => by simp [symsOf]
  | x :: o, [] => by simp [symsOf]
  | x :: o, y :: a => by
    intro b hb
    simp only [symsOf, List.mem_append] at hb
    rcases hb with hb | hb
    · exact entryB_range secs x y b hb
    · exact symsOf_range secs o a b hb
end Go.Proofs.Ytejdnanhnkjaoaa.SymB
end
section
namespace Go.Proofs.Ytejdnanhnkjaoaa.Sym
open Go.RowKit Go.Proofs.Ytejdnanhnkjaoaa.G Go.Proofs.YtejdnanhnkjaoaaW.PrintWords Go.Proofs.YtejdnanhnkjaoaaW.PrintLast Go.Proofs.YtejdnanhnkjaoaaW.PrintMore
theorem live_true : gangwaylaw08_live.f = some true := by decide +kernel
end Go.Proofs.Ytejdnanhnkjaoaa.Sym
end
section
namespace Go.Proofs.Ytejdnanhnkjaoaa.Pure
set_option linter.unusedVariables false
set_option linter.unusedSimpArgs false
open Go.RowKit Go.Proofs.Ytejdnanhnkjaoaa.G Go.Proofs.Ytejdnanhnkjaoaa.Stmt Go.Proofs.YtejdnanhnkjaoaaW.PrintWords Go.Proofs.YtejdnanhnkjaoaaW.PrintLast Go.Proofs.YtejdnanhnkjaoaaW.PrintMore Go.Proofs.Ytejdnanhnkjaoaa.Bit Go.Proofs.Ytejdnanhnkjaoaa.Sym Go.Proofs.Ytejdnanhnkjaoaa.SymW Go.Proofs.Ytejdnanhnkjaoaa.SymR Go.Proofs.Ytejdnanhnkjaoaa.SymB Go.Proofs.Ytejdnanhnkjaoaa.SymN
theorem symsR_V (l0 l1 : List Int) (l3 : List ByteArray) (hl : ∀ b ∈ l0, 0 ≤ b ∧ b ≤ 255) (hm : l0.length ≤ 1048576) (hm1 : l1.length ≤ 1048576) : ∀ d i, 24 * (i + 1) + 24 * d = l0.length → symsR l0 l1 l3 d i = (symsV l0 l1 l3 d i).bind fun ys => if ∀ y ∈ ys, 0 ≤ y.f2 ∧ 0 ≤ y.f3 then some ys else none
  | 0, i, h => by simp [symsR, symsV]
  | d + 1, i, h => by
    simp only [symsR, symsV]
    rw [show 24 * ((i : Int) + 1) = ((24 * (i + 1) : Nat) : Int) from by omega, symR_V l0 l1 l3 _ hl hm hm1 (by omega), symsR_V l0 l1 l3 hl hm hm1 d (i + 1) (by omega)]
    cases symV l0 l1 l3 (24 * (i + 1)) with
    | none => rfl
    | some x =>
      rw [Option.bind_some, Option.bind_some]
      cases symsV l0 l1 l3 d (i + 1) with
      | none =>
        rw [Option.bind_none, Option.map_none, Option.bind_none]
        split <;> rfl
      | some ys =>
        rw [Option.bind_some, Option.map_some, Option.bind_some]
        by_cases c : 0 ≤ x.f2 ∧ 0 ≤ x.f3
        · rw [if_pos c, Option.bind_some]
          by_cases c2 : ∀ y ∈ ys, 0 ≤ y.f2 ∧ 0 ≤ y.f3
          · rw [if_pos c2, if_pos (by intro y hy; rcases List.mem_cons.1 hy with rfl | hy; exact c; exact c2 y hy)]
            rfl
          · rw [if_neg c2, if_neg (fun h => c2 fun y hy => h y (List.mem_cons_of_mem _ hy))]
            rfl
        · rw [if_neg c, if_neg (show ¬ ∀ y ∈ x :: ys, 0 ≤ y.f2 ∧ 0 ≤ y.f3 from fun h => c (h x List.mem_cons_self))]
          rfl
theorem symsV_length (l0 l1 : List Int) (l3 : List ByteArray) : ∀ d i ys, symsV l0 l1 l3 d i = some ys → ys.length = d
  | 0, i, ys, h => by
    obtain rfl := Option.some.inj h
    rfl
  | d + 1, i, ys, h => by
    obtain ⟨x, h1, h2⟩ := Option.bind_eq_some_iff.1 h
    obtain ⟨zs, h3, rfl⟩ := Option.map_eq_some_iff.1 h2
    simp [symsV_length l0 l1 l3 d (i + 1) zs h3]
theorem str_back (a : List Int) (h : ∀ b ∈ a, 0 ≤ b ∧ b ≤ 255) : (strOfNums a).data.toList.map (fun x => (x.toNat : Int)) = a := by
  show (a.map fun n => UInt8.ofNat n.toNat).map _ = a
  rw [List.map_map]
  refine (List.map_congr_left (g := id) fun b hb => ?_).trans (List.map_id a)
  have := h b hb
  show ((UInt8.ofNat b.toNat).toNat : Int) = b
  rw [UInt8.toNat_ofNat']
  omega
theorem str_inj {a b : List Int} (ha : ∀ x ∈ a, 0 ≤ x ∧ x ≤ 255) (hb : ∀ x ∈ b, 0 ≤ x ∧ x ≤ 255) (h : (strOfNums a).toList = (strOfNums b).toList) : a = b := by
  rw [← str_back a ha, ← str_back b hb, (same_iff _ _).1 h]
theorem symStrs_range : ∀ (r : List ByteArray) m b at_ B A e, (∀ x ∈ b, 0 ≤ x ∧ x ≤ 255) → symStrs r m b at_ = (B, A, e) → ∀ x ∈ B, (0 : Int) ≤ x ∧ x ≤ 255
  | [], m, b, at_, B, A, e, hb, h => by
    simp only [symStrs] at h
    split at h
    · obtain ⟨rfl, -⟩ := Prod.mk.inj h
      intro x hx; cases hx
    · obtain ⟨rfl, -⟩ := Prod.mk.inj h
      exact hb
  | s :: r, m, b, at_, B, A, e, hb, h => by
    simp only [symStrs] at h
    split at h
    · obtain ⟨rfl, -⟩ := Prod.mk.inj h
      intro x hx; cases hx
    · split at h
      · exact symStrs_range r _ _ _ B A e hb h
      · refine symStrs_range r _ _ _ B A e ?_ h
        intro x hx
        rcases List.mem_append.1 hx with hx | hx
        · rcases List.mem_append.1 hx with hx | hx
          · exact hb x hx
          · obtain ⟨c, -, rfl⟩ := List.mem_map.1 hx
            have := c.toNat_lt
            constructor <;> omega
        · rw [List.mem_singleton.1 hx]
          constructor <;> omega
theorem write_range {l : List S58} {secs : List ByteArray} {B S : List Int} {n : Int} (h : writeF l secs = some (B, S, n, 0)) : (∀ x ∈ B, 0 ≤ x ∧ x ≤ 255) ∧ (∀ x ∈ S, (0 : Int) ≤ x ∧ x ≤ 255) ∧ symCheck l secs = 0 := by
  unfold writeF at h
  split at h
  · rename_i hc
    simp only [Option.some.injEq, Prod.mk.injEq] at h
    exact absurd h.2.2.2 hc
  rename_i hc
  split at h
  case isFalse => cases h
  split at h
  · cases h
  rename_i strs at_ e hs
  split at h
  · rename_i he
    simp only [Option.some.injEq, Prod.mk.injEq] at h
    exact absurd h.2.2.2 he
  split at h
  case isFalse => cases h
  simp only [Option.some.injEq, Prod.mk.injEq] at h
  obtain ⟨rfl, rfl, -⟩ := h
  refine ⟨?_, ?_, Classical.not_not.1 hc⟩
  · intro x hx
    rcases List.mem_append.1 hx with hx | hx
    · rw [List.eq_of_mem_replicate hx]
      constructor <;> omega
    · exact symsOf_range secs _ _ x hx
  · unfold symtab_Strings.f at hs
    split at hs
    case isFalse => cases hs
    have hs := Option.some.inj hs
    split at hs
    · obtain ⟨rfl, -⟩ := Prod.mk.inj hs
      intro x hx; cases hx
    · exact symStrs_range _ _ _ _ _ _ _ (by intro x hx; rw [List.mem_singleton.1 hx]; constructor <;> omega) hs
theorem read_same (l0 l1 : List Int) (a2 : Int) (l3 : List ByteArray) (hl : ∀ b ∈ l0, 0 ≤ b ∧ b ≤ 255) (hl1 : ∀ b ∈ l1, 0 ≤ b ∧ b ≤ 255) (hm3 : l3.length * 16 ≤ 140737488351232) : ∃ k, gangwayref08_Read.f k l0 l1 a2 l3 = some (readG l0 l1 a2 l3) := by
  unfold readG
  by_cases c1 : l0.length > 1048576 ∨ l1.length > 1048576
  · refine ⟨1, ?_⟩
    rw [if_pos c1]
    unfold gangwayref08_Read.f
    split
    · rw [gangwayref08_Read.j0, if_pos rfl]
    · rw [decide_eq_true (by omega), gangwayref08_Read.j0, if_pos rfl]
  · rw [if_neg c1]
    have hf : ∀ k, gangwayref08_Read.f (k + 1) l0 l1 a2 l3 = if (l0.length : Int) < 24 then (gangwayref08_Read.j1 k l0 l1 a2 l3 true) else (gangwayref08_Read.j1 k l0 l1 a2 l3 (((l0.length : Int) % 24) != 0)) := by
      intro k
      unfold gangwayref08_Read.f
      rw [if_neg (by omega), decide_eq_false (by omega), gangwayref08_Read.j0, if_neg (by decide)]
    by_cases c2 : l0.length % 24 ≠ 0 ∨ l0.length < 24
    · refine ⟨2, ?_⟩
      rw [if_pos c2, hf]
      split
      · rw [gangwayref08_Read.j1, if_pos rfl]
      · rw [show ((l0.length : Int) % 24 != 0) = true from by simp; omega, gangwayref08_Read.j1, if_pos rfl]
    · rw [if_neg c2]
      have hf2 : ∀ k, gangwayref08_Read.f (k + 2) l0 l1 a2 l3 = gangwayref08_Read.l0 k l0 l1 a2 l3 [] 24 := by
        intro k
        rw [hf, if_neg (by omega), show ((l0.length : Int) % 24 != 0) = false from by simp; omega, gangwayref08_Read.j1, if_neg (by decide)]
      obtain ⟨d, hd⟩ : ∃ d, d = l0.length / 24 - 1 := ⟨_, rfl⟩
      rw [← hd]
      have hlen : 24 * (0 + 1) + 24 * d = l0.length := by omega
      have hV := symsR_V l0 l1 l3 hl (by omega) (by omega) d 0 hlen
      have hL := fun k => read_l0 l0 l1 a2 l3 hl (by omega) (by omega) (by omega) d (k + l1.length + 20) 0 [] hlen rfl (by omega)
      cases hs : symsV l0 l1 l3 d 0 with
      | none =>
        refine ⟨0 + l1.length + 20 + 2 * d + 2, ?_⟩
        have h := hL 0
        rw [hs] at hV h
        rw [hf2, hV]
        exact h
      | some ys =>
        have hyl := symsV_length l0 l1 l3 d 0 ys hs
        obtain ⟨r, hr, k1, hk1⟩ := write_same ys l3 (by omega) hm3
        refine ⟨k1 + 1 + l1.length + 20 + 2 * d + 2, ?_⟩
        have h := hL (k1 + 1)
        rw [hs] at hV h
        rw [hf2, hV]
        refine Eq.trans h ?_
        have hw : gangwayref08_Write.f (k1 + l1.length + 20) ys l3 = some r := rounds_to (fun k => gangwayref08_Write.mono ys l3 k) (by omega) hk1
        simp only [List.nil_append, Option.bind_some]
        rw [show k1 + 1 + l1.length + 20 = (k1 + l1.length + 20) + 1 from by omega, gangwayref08_Read.l0, if_neg (by omega), hw, Option.bind_some]
        obtain ⟨B, S, n, e⟩ := r
        by_cases he : e = 0
        · subst he
          obtain ⟨hB, hS, hc⟩ := write_range hr
          have hall : ∀ y ∈ ys, 0 ≤ y.f2 ∧ 0 ≤ y.f3 := by
            intro y hy
            have h4 := (check_ok hc).2.2.2 y hy
            unfold rightOf at h4
            simp only [Bool.and_eq_true, decide_eq_true_eq] at h4
            omega
          rw [if_pos hall, if_pos rfl]
          simp only [hr, Option.some.injEq, Prod.mk.injEq]
          by_cases e1 : n = a2
          · rw [if_pos e1]
            by_cases e2 : (strOfNums B).toList = (strOfNums l0).toList
            · rw [if_pos e2]
              by_cases e3 : (strOfNums S).toList = (strOfNums l1).toList
              · rw [if_pos e3, if_pos ⟨str_inj hB hl e2, str_inj hS hl1 e3, e1, trivial⟩]
              · rw [if_neg e3, if_neg (fun h => e3 (by rw [h.2.1]))]
            · rw [if_neg e2, if_neg (fun h => e2 (by rw [h.1]))]
          · rw [if_neg e1, if_neg (fun h => e1 h.2.2.1)]
        · rw [if_neg he]
          by_cases hall : ∀ y ∈ ys, 0 ≤ y.f2 ∧ 0 ≤ y.f3
          · rw [if_pos hall]
            simp only [hr, Option.some.injEq, Prod.mk.injEq]
            rw [if_neg (fun h => he h.2.2.2)]
          · rw [if_neg hall]
theorem spoil_l0 (d : Nat) : ∀ k i (a : List Int), a.length ≤ 140737488351232 → i + d = a.length → d < k → ∃ r, gangwaylaw08_spoil.l0 k a (i : Int) = some r := by
  induction d with
  | zero =>
    intro k i a ha h1 h2
    obtain ⟨k, rfl⟩ : ∃ m, k = m + 1 := ⟨k - 1, by omega⟩
    simp only [gangwaylaw08_spoil.l0]
    rw [if_neg (by omega)]
    exact ⟨_, rfl⟩
  | succ d ih =>
    intro k i a ha h1 h2
    obtain ⟨k, rfl⟩ : ∃ m, k = m + 1 := ⟨k - 1, by omega⟩
    simp only [gangwaylaw08_spoil.l0]
    rw [if_pos (by omega), if_pos (by omega), wrap64_id (by omega) (by omega), show (i : Int) + 1 = ((i + 1 : Nat) : Int) from by omega]
    exact ih k (i + 1) _ (by rw [List.length_set]; exact ha) (by rw [List.length_set]; omega) (by omega)
theorem read_len (l0 l1 : List Int) (a2 : Int) (l3 : List ByteArray) : (readG l0 l1 a2 l3).1.length ≤ 2000 := by
  unfold readG
  split
  · simp
  · split
    · simp
    · split
      · simp
      · split
        · rename_i h
          exact (check_ok (write_range h).2.2).1
        · simp
theorem spoil_f (l : List Int) (hl : l.length ≤ 140737488351232) (k : Nat) (hk : l.length < k) : ∃ r, gangwaylaw08_spoil.f k l = some r := by
  obtain ⟨r, hr⟩ := spoil_l0 l.length k 0 l hl (by omega) hk
  exact ⟨r, hr⟩
theorem SymtabReads : Stmt.SymtabReads := by
  intro l0 l1 a2 l3 h0 h1 h2 h3
  have hl : ∀ b ∈ l0, 0 ≤ b ∧ b ≤ 255 := fun b hb => wf_u8 (h0.2.2 b hb)
  have hl1 : ∀ b ∈ l1, 0 ≤ b ∧ b ≤ 255 := fun b hb => wf_u8 (h1.2.2 b hb)
  obtain ⟨k1, hk1⟩ := read_same l0 l1 a2 l3 hl hl1 h3.1
  have hn := read_len l0 l1 a2 l3
  obtain ⟨K, hK⟩ : ∃ K, K = k1 + l0.length + l1.length + 2002 := ⟨_, rfl⟩
  refine ⟨K + 1, ?_⟩
  have hr : gangwayref08_Read.f (K + 1) l0 l1 a2 l3 = some (readG l0 l1 a2 l3) := rounds_to (fun k => gangwayref08_Read.mono l0 l1 a2 l3 k) (by omega) hk1
  have hg : symtab_Read.f l0 l1 a2 l3 = some (readG l0 l1 a2 l3) := by
    show readGF l0 l1 a2 l3 = _
    unfold readGF
    rw [if_pos (by rw [List.all_eq_true]; intro b hb; exact decide_eq_true (hl b hb))]
  obtain ⟨s0, hs0⟩ := spoil_f l0 (by omega) K (by omega)
  obtain ⟨s1, hs1⟩ := spoil_f l1 (by omega) K (by omega)
  unfold gangwaylaw08_SymtabReads.f
  simp only [Option.bind_some, List.nil_append, List.length_nil, Nat.zero_add]
  rw [if_pos (by omega), if_pos (by omega), hg, Option.bind_some, hr, Option.bind_some, symbols_f _ (by omega) _ (by omega), Option.bind_some, if_pos rfl]
  unfold gangwaylaw08_num.f
  rw [Option.bind_some, if_pos rfl, if_pos trivial, show ((strOfNums l1).toList != (strOfNums l1).toList) = false from by simp, gangwaylaw08_SymtabReads.j0, if_neg (by decide), hs0, Option.bind_some, hs1, Option.bind_some, symbols_f _ (by omega) _ (by omega), Option.bind_some, if_pos rfl, live_true]
  rfl
end Go.Proofs.Ytejdnanhnkjaoaa.Pure
end
section
namespace Go.Proofs.Ytejdnanhnkjaoaa.Opening
set_option linter.unusedVariables false
set_option linter.unusedSimpArgs false
open Go.ChangeShapes Go.WideShapes Go.Proofs.YtejdnanhnkjaoaaW.PrintWords
/-- A datum of type t opens as a value of kind d: it is well (wf), and its bulk is at least its weight (wt). -/
structure Opens {α : Type} (P : Program) (t : TypeId) (d : Kd α) (wf : α → Prop) (wt : α → Nat) : Prop where
  cells : P.cellsOf t = d.sz
  op : ∀ {H : Type} {enc : TypeId × Value → H} {w : World} {base : Nat} {spare : Nat → Bool} {held : Bool} {fuel : Nat} {cs : List Value} {x : DataW H × List MemPlace},
    DataW.trod enc P w base spare held fuel t cs = some x → (∀ n ∈ x.1.weights P t, n ≤ 140737488351232) → ∃ a : α, d.K w a cs ∧ wf a ∧ wt a ≤ Rows.uptoBulk x.1
theorem opens_int {P : Program} {t : TypeId} (k : IntKind) (ht : P.underlying t = some (.int k)) (hc : P.cellsOf t = 1) : Opens P t (Kd.int k) (fun a => (Lit.int k a).wf = true) (fun _ => 1) :=
  ⟨hc, fun h _ => by
    obtain ⟨n, rfl, rfl, hw⟩ := DataW.trod_int ht h
    exact ⟨n, rfl, hw, by simp [Rows.uptoBulk]⟩⟩
theorem opens_string {P : Program} {t : TypeId} (ht : P.underlying t = some .string) (hc : P.cellsOf t = 1) : Opens P t Kd.string (fun a => a.size ≤ 140737488351232) (fun a => a.size + 1) :=
  ⟨hc, fun h hz => by
    obtain ⟨s, rfl, rfl, _⟩ := DataW.trod_string ht h
    have e : s.data.toList.length = s.size := by rw [Array.length_toList]; rfl
    refine ⟨s, rfl, ?_, by simp only [Rows.uptoBulk]; omega⟩
    rw [← e]
    exact hz _ (by simp [DataW.weights])⟩
theorem list_of {α : Type} {p : Nat → α → Prop} : ∀ {n : Nat}, (∀ i, i < n → ∃ a, p i a) → ∃ l : List α, l.length = n ∧ ∀ i (h : i < l.length), p i l[i]
  | 0, _ => ⟨[], rfl, fun i h => absurd h (Nat.not_lt_zero _)⟩
  | n + 1, h => by
    obtain ⟨l, hl, hp⟩ := list_of (n := n) (fun i hi => h i (Nat.lt_succ_of_lt hi))
    obtain ⟨a, ha⟩ := h n (Nat.lt_succ_self n)
    refine ⟨l ++ [a], by simp [hl], fun i hi => ?_⟩
    by_cases hlt : i < l.length
    · rw [List.getElem_append_left hlt]
      exact hp i hlt
    · have e : i = n := by simp at hi; omega
      subst e
      rw [List.getElem_append_right (by omega)]
      simpa [hl] using ha
theorem bulk_all {α H : Type} {wt : α → Nat} : ∀ {l : List α} {ds : List (DataW H)}, l.length ≤ ds.length → (∀ i (h : i < l.length) d, ds[i]? = some d → wt l[i] ≤ Rows.uptoBulk d) → (l.map wt).sum ≤ Rows.uptoBulkAll ds
  | [], _, _, _ => by simp
  | a :: l, [], h, _ => by simp at h
  | a :: l, d :: ds, h, hw => by
    have h0 := hw 0 (by simp) d rfl
    have h1 := bulk_all (l := l) (ds := ds) (by simpa using h) (fun i hi d' hd' => hw (i + 1) (by simpa using hi) d' (by simpa using hd'))
    simp only [List.map_cons, List.sum_cons, Rows.uptoBulkAll]
    simp at h0
    omega
theorem weights_all {H : Type} {P : Program} {e : TypeId} : ∀ {ds : List (DataW H)} {d : DataW H}, d ∈ ds → ∀ n ∈ d.weights P e, n ∈ DataW.weightsAll P e ds
  | d0 :: ds, d, h, n, hn => by
    simp only [DataW.weightsAll, List.mem_append]
    cases List.mem_cons.1 h with
    | inl e => subst e; exact .inl hn
    | inr e => exact .inr (weights_all e n hn)
theorem opens_slice {α : Type} {P : Program} {t e : TypeId} {d : Kd α} {wf : α → Prop} {wt : α → Nat} {b : Nat} (ho : Opens P e d wf wt) (ht : P.underlying t = some (.slice e)) (hc : P.cellsOf t = 1) (hb : P.bytesOf e = b) :
    Opens P t (Kd.slice e d) (fun l => l.length * b ≤ 140737488351232 ∧ l.length ≤ 9223372036854775807 ∧ ∀ a ∈ l, wf a) (fun l => (l.map wt).sum + 1) :=
  ⟨hc, fun {H enc w base spare held fuel cs x} h hz => by
    subst hb
    rcases DataW.trod_slice ht h with ⟨rfl, rfl⟩ | ⟨a, len, cap, elems, rest, n, _, rfl, rfl, hb, hl, hm, hlen, hel, hsp, hns⟩
    · exact ⟨[], ⟨none, 0, rfl, Nat.le_refl _, Kd.C_nil d w⟩, ⟨by simp, by simp, by simp⟩, by simp [Rows.uptoBulk]⟩
    · have hm' : cap ≤ 9223372036854775807 := hm
      have hz1 : (elems.length + rest.length) * P.bytesOf e ≤ 140737488351232 := hz _ (by simp [DataW.weights, ht])
      have hz2 : ∀ y ∈ elems, ∀ n ∈ y.1.weights P e, n ≤ 140737488351232 := fun y hy n hn => hz _ (by
        simp only [DataW.weights, ht, List.mem_cons, List.mem_append]
        exact .inr (.inl (weights_all (List.mem_map.2 ⟨y, hy, rfl⟩) n hn)))
      have each : ∀ i, i < len → ∃ a' : α, (∃ cs' y, w.cells? base (a.add (i * P.cellsOf e)) (P.cellsOf e) = some cs' ∧ d.K w a' cs' ∧ elems[i]? = some y ∧ wt a' ≤ Rows.uptoBulk y.1) ∧ wf a' := fun i hi => by
        have h1 := hel i hi
        rw [List.getElem?_eq_getElem (by omega)] at h1
        obtain ⟨cs', h2, h3⟩ := Option.bind_eq_some_iff.1 h1
        obtain ⟨a', k1, k2, k3⟩ := ho.op h3 (hz2 _ (List.getElem_mem _))
        exact ⟨a', ⟨cs', _, h2, k1, List.getElem?_eq_getElem (by omega), k3⟩, k2⟩
      obtain ⟨l, hl1, hl2⟩ := list_of each
      subst hl1
      refine ⟨l, ⟨some a, cap, rfl, hl, rfl, by omega, fun _ => ⟨a, rfl, fun j p hp => ?_⟩⟩, ⟨?_, by omega, fun a' ha' => ?_⟩, ?_⟩
      · obtain ⟨hj, rfl⟩ := List.getElem?_eq_some_iff.1 hp
        obtain ⟨⟨cs', y, h2, k1, _, _⟩, _⟩ := hl2 j hj
        obtain ⟨_, hcl, hcell⟩ := World.cells?_some h2
        refine ⟨cs', by rw [hcl, ho.cells], k1, fun i u hu => ?_⟩
        have hi : i < P.cellsOf e := by rw [← hcl]; exact (List.getElem?_eq_some_iff.1 hu).1
        have := hcell i hi
        rw [hu, ho.cells] at this
        rw [← this]
        congr 1
        unfold Addr.add
        by_cases hi0 : i = 0 <;> by_cases hj0 : j * d.sz = 0 <;> simp [hi0, hj0, Nat.add_assoc]
      · refine Nat.le_trans (Nat.mul_le_mul_right _ ?_) hz1
        omega
      · obtain ⟨j, hj, rfl⟩ := List.getElem_of_mem ha'
        exact (hl2 j hj).2
      · have := bulk_all (l := l) (ds := elems.map (·.1)) (wt := wt) (by simp; omega) (fun i hi dd hd => by
          obtain ⟨⟨_, y, _, _, hy, hw⟩, _⟩ := hl2 i hi
          rw [List.getElem?_map, hy] at hd
          simp at hd
          subst hd
          exact hw)
        simp only [Rows.uptoBulk]
        omega⟩
/-- The size of each part, out of the row's own reach. -/
theorem weights_of {H : Type} {P : Program} {ts : List TypeId} {ds : List (DataW H)} (h : (DataW.weightsEach P ts ds).all (· ≤ reachBytes) = true) {j : Nat} {t : TypeId} {d : DataW H} (ht : ts[j]? = some t) (hd : ds[j]? = some d) : ∀ n ∈ d.weights P t, n ≤ 140737488351232 := fun n hn => by
  have := List.all_eq_true.1 h _ (DataW.weights_mem_each ht hd n hn)
  exact of_decide_eq_true this
end Go.Proofs.Ytejdnanhnkjaoaa.Opening
end
