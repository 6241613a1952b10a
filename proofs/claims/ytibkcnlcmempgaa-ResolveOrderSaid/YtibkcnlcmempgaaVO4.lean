/- Lemmas and contracts, one text behind the other: what the row of this claim needs; no conditions beyond those that each theorem names. -/
import Derived.Test.YtibkcnlcmempgaaRows
import Derived.ChangeArms
import Derived.DataReads
import Derived.SizedLaws
import Derived.Test.YtibkcnlcmempgaaVO3
section
namespace Go.Proofs.Ytibkcnlcmempgaa.G
open Go.RowKit Go.Proofs.YtibkcnlcmempgaaW.PrintWords Go.Proofs.YtibkcnlcmempgaaW.PrintLast Go.Proofs.YtibkcnlcmempgaaW.PrintMore
attribute [local go_sem] max2_int min2_int max_two min_two max_three min_three max_four min_four   -- for this text's walks alone
set_option linter.unusedVariables false
set_option linter.unusedSimpArgs false
def gangwaylaw18_live.f : Option Bool := some true
theorem gangwaylaw18_live.calls (r : Bool) (w : World) (h : gangwaylaw18_live.f = some r) :
  Calls Try.prog 10 #[] w fun e w' => e = .returned (.bool r) ∧ Below w.heap.size w w' := by
 obtain rfl := Option.some.inj h
 exact Res.live_calls w
end Go.Proofs.Ytibkcnlcmempgaa.G
end
section
namespace Go.Proofs.Ytibkcnlcmempgaa.G
open Go.RowKit Go.Proofs.YtibkcnlcmempgaaW.PrintWords Go.Proofs.YtibkcnlcmempgaaW.PrintLast Go.Proofs.YtibkcnlcmempgaaW.PrintMore
attribute [local go_sem] max2_int min2_int max_two min_two max_three min_three max_four min_four   -- for this text's walks alone
set_option linter.unusedVariables false
set_option linter.unusedSimpArgs false
def resolve_Faults.f (l0 : List S36) : Option (List S26) := if Res.smallB l0 = true then some (Res.faultsS l0) else none
theorem resolve_Faults.calls (A0 : Option Addr) (c0 : Nat) (l0 : List S36) (r : List S26) (w : World) (hr0 : Kd.C k36 w A0 l0.length l0) (hc0 : l0.length ≤ c0) (h : resolve_Faults.f l0 = some r) :
  Calls Try.prog 15 #[.slice A0 l0.length c0] w fun e w' => ∃ v0_ : Value, e = .returned (v0_) ∧ Kd.R k26 26 w' w.heap.size (fun _ => True) v0_ r ∧ Below w.heap.size w w' := by
 unfold resolve_Faults.f at h
 split at h
 ·
  rename_i hs
  obtain rfl := Option.some.inj h
  refine (Res.Faults_calls A0 c0 l0 w hr0 hc0 (Res.smallB_of hs)).mono ?_
  rintro e w' ⟨v, rfl, hR, hB⟩
  exact ⟨v, rfl, Res.faults_row hR, hB⟩
 ·
  cases h
end Go.Proofs.Ytibkcnlcmempgaa.G
end
section
namespace Go.Proofs.Ytibkcnlcmempgaa.G
open Go.RowKit Go.Proofs.YtibkcnlcmempgaaW.PrintWords Go.Proofs.YtibkcnlcmempgaaW.PrintLast Go.Proofs.YtibkcnlcmempgaaW.PrintMore
attribute [local go_sem] max2_int min2_int max_two min_two max_three min_three max_four min_four   -- for this text's walks alone
set_option linter.unusedVariables false
set_option linter.unusedSimpArgs false
def gangwaylaw18_turned.l0 : Nat → List (S36) → List (S36) → Int → Option ((List (S36)))
 | 0, _, _, _ => none
 | k + 1, x0, x3, x4 => if x4 ≥ 0 then (if 0 ≤ x4 then (if x4 < (x0.length : Int) then (if x3.length < 2932031007402 then (gangwaylaw18_turned.l0 k x0 (x3 ++ [(⟨(rd_T36 x0 x4).f0, (rd_T36 x0 x4).f1⟩ : S36)]) (wrap64 (x4 - 1))) else (none)) else (none)) else (none)) else (some x3)
def gangwaylaw18_turned.f (k : Nat) (l0 : List (S36)) : Option ((List (S36))) := gangwaylaw18_turned.l0 k l0 ([] : List (S36)) (wrap64 ((l0.length : Int) - 1))
set_option maxHeartbeats 8000000 in
set_option maxRecDepth 100000 in
theorem gangwaylaw18_turned.calls (k : Nat) (P0_ : Nat → Prop) (A0 : Option Addr) (c0 : Nat) (l0 : List (S36)) (r : List (S36)) (w : World) (hs0 : Kd.V k36 36 w w.heap.size (fun k_ => P0_ k_) (.slice A0 l0.length c0) l0) (h : gangwaylaw18_turned.f k l0 = some r) :
  Calls Try.prog 16 #[.slice A0 l0.length c0] w fun e w' => ∃ v0_ : Value, e = .returned (v0_) ∧ Kd.N k36 36 w' w.heap.size (fun k_ => (P0_ k_ ∨ w.heap.size ≤ k_)) v0_ r ∧ Below w.heap.size w w' := by
 have hu36 := Try.underlying36
 have HO0 := Aside0.mk (show Kd.V k36 36 w w.heap.size (fun k_ => (P0_ k_ ∨ w.heap.size ≤ k_)) (.slice A0 l0.length c0) l0 from Kd.V_mono hs0 (fun k_ hk => .inl hk))
 have HB := Aside0.mk (Below.refl w.heap.size w)
 have H : (gangwaylaw18_turned.l0 k l0 ([] : List (S36)) (wrap64 ((l0.length : Int) - 1))) = some r := h
 clear h
 have H' := Aside0.mk H
 clear H
 go_enter Try.func16, Try.ntmps16
 go_wp2
 go_loopg [3, 4] k (fun kq v3 v4 w' => ∃ (x3_1 : List (S36)) (x4_1 : Int), v4 = .int .i64 x4_1 ∧ Aside0 (gangwaylaw18_turned.l0 kq l0 x3_1 x4_1 = some r) ∧ Aside0 (kq ≤ k) ∧ Aside0 (Kd.V k36 36 w' w.heap.size (fun k_ => (P0_ k_ ∨ w.heap.size ≤ k_) ∧ some k_ ≠ (v3 : Value).ownBlock) (.slice A0 l0.length c0) l0) ∧ Aside0 (Kd.N k36 36 w' w.heap.size (fun k_ => (P0_ k_ ∨ w.heap.size ≤ k_)) v3 x3_1) ∧ Aside0 (Below w.heap.size w w'))
 case atStart => exact ⟨(([] : List (S36))), (wrap64 ((l0.length : Int) - 1)), (by first | rfl | (simp; done) | (simp [*]; done) | (simp [show ∀ l_ : List UInt8, (l_ != []) = !l_.isEmpty from fun l_ => by cases l_ <;> rfl]; done) | (congr 1; refine congr (congrArg (Go.bits _ _) ?_) ?_ <;> omega)), H', ⟨Nat.le_refl _⟩, ⟨by (with_reducible repeat (first | apply Kd.V_alloc | apply Kd.V_drewN | apply Kd.V_drew)); exact Kd.V_mono HO0.out (fun _ hk => ⟨hk, (by simp [Value.ownBlock])⟩)⟩, ⟨by first | exact Kd.R_nil _ _ _ _ _ | exact Kd.N_nil _ _ _ _ _ | exact Kd.V_nil _ _ _ _ _ | exact Kd.Q_nil _ _ _ _ _ | exact Kd.S_nil _ _ _ _ _⟩, ⟨by repeat (first | (with_reducible first | exact HB.out | apply below_alloc | apply pw_below_drewN | apply below_drew1) | exact HB.out)⟩⟩
 case round =>
  clear H'
  try clear c1
  obtain ⟨x3_1, x4_1, rfl, HA, HK1, HO_0, HO_3, HB⟩ := hrel
  cases gk with
  | zero => exact absurd HA.out (by simp [gangwaylaw18_turned.l0])
  | succ k1 =>
   have H := HA.out
   clear HA
   simp only [gangwaylaw18_turned.l0] at H
   by_cases c2 : x4_1 ≥ 0
   ·
    rw [if_pos c2] at H
    have c2b0 : decide (0 ≤ x4_1) = true := decide_eq_true c2
    clear c2
    by_cases c3 : 0 ≤ x4_1
    ·
     rw [if_pos c3] at H
     have c3b0 : decide (0 ≤ x4_1) = true := decide_eq_true c3
     clear c3
     by_cases c4 : x4_1 < (l0.length : Int)
     ·
      rw [if_pos c4] at H
      have c4b0 : decide (x4_1 < (l0.length : Int)) = true := decide_eq_true c4
      clear c4
      by_cases c5 : x3_1.length < 2932031007402
      ·
       rw [if_pos c5] at H
       have LMc5 := Aside0.mk c5
       clear c5
       obtain ⟨y102, hy102⟩ : ∃ y_ : List (S36), y_ = (x3_1 ++ [(⟨(rd_T36 l0 x4_1).f0, (rd_T36 l0 x4_1).f1⟩ : S36)]) := ⟨_, rfl⟩
       replace H : (gangwaylaw18_turned.l0 k1 l0 y102 (wrap64 (x4_1 - 1))) = some r := by first | (rw [hy102]; with_reducible exact H) | (have H2_ := (Option.bind_some _ _).symm.trans H; rw [hy102]; with_reducible exact H2_) | (have H2_ := (Option.bind_some _ _).symm.trans H; with_reducible exact H2_) | with_reducible exact H | (rw [hy102]; exact H) | exact H
       have Ny102 := Aside0.mk hy102
       clear hy102
       have H' := Aside0.mk H
       clear H
       have p101 : 0 ≤ (x4_1 : Int) := of_decide_eq_true (by first | (with_reducible assumption) | assumption)
       have q101 : x4_1 < (l0.length : Int) := of_decide_eq_true (by first | (with_reducible assumption) | assumption)
       obtain ⟨ad101, A101_0, c101_0, A101_1, c101_1, e101, hx101_0, hx101_1, hl101_0, hi101_0, hl101_1, hi101_1⟩ := at_T36 (Kd.V_reads' HO_0.out).2.2 x4_1 p101 q101
       cases e101
       obtain ⟨ce101, hce101, hMe101, hcc101⟩ := Kd.V_get HO_0.out z36 x4_1 p101 (by first | exact q101 | exact of_decide_eq_true (by first | (with_reducible assumption) | assumption) | (have e_ := (Kd.V_reads' HO_0.out).1; omega))
       obtain ⟨ua101_0, uc101_0, ua101_1, uc101_1, rfl, ul101_0, ge101_0, ul101_1, ge101_1⟩ := k36_openF hMe101
       have hv101_0 := hcc101 0 _ rfl
       rw [Nat.add_zero] at hv101_0
       replace hv101_0 := Option.some.inj (hv101_0.symm.trans hx101_0)
       injection hv101_0 with hva_ hvn_ hvc_
       rw [hva_] at ge101_0
       rw [hvc_] at ul101_0
       have HL101_0 := Aside0.mk (show Kd.V k72 72 _ w.heap.size _ _ ((rd_T36 l0 x4_1).f0) from Kd.V_mk ul101_0 ge101_0)
       clear hva_ hvn_ hvc_ ge101_0 ul101_0
       have hv101_1 := hcc101 1 _ rfl
       rw [add_field _ _ 1 (by omega)] at hv101_1
       replace hv101_1 := Option.some.inj (hv101_1.symm.trans hx101_1)
       injection hv101_1 with hva_ hvn_ hvc_
       rw [hva_] at ge101_1
       rw [hvc_] at ul101_1
       have HL101_1 := Aside0.mk (show Kd.V k38 38 _ w.heap.size _ _ ((rd_T36 l0 x4_1).f1) from Kd.V_mk ul101_1 ge101_1)
       clear hva_ hvn_ hvc_ ge101_1 ul101_1
       clear hcc101 hce101
       have HR101_0 := Aside0.mk hi101_0
       have HC101_0 := Aside0.mk hl101_0
       clear hi101_0 hl101_0
       have HR101_1 := Aside0.mk hi101_1
       have HC101_1 := Aside0.mk hl101_1
       clear hi101_1 hl101_1
       replace p101 := eq_true p101
       replace q101 := eq_true q101
       go_wp2_with (first | ((with_reducible refine gate_builtin (b := .append) (xs := #[.tmp 12, .tmp 17]) rfl ?_); at_builtin; refine Kd.N_append k36 (w0 := w) w.heap.size rfl (.tmp 12) (.tmp 17) 22 36 (.agg #[(.slice none 0 0), (.slice none 0 0)]) 48 rfl Try.underlying22 info36 rfl (by decide) (by omega) u3 x3_1 (⟨(rd_T36 l0 x4_1).f0, (rd_T36 l0 x4_1).f1⟩ : S36) [.slice A101_0 ((rd_T36 l0 x4_1).f0).length c101_0, .slice A101_1 ((rd_T36 l0 x4_1).f1).length c101_1] (fun k_ => (P0_ k_ ∨ w.heap.size ≤ k_)) (fun k_ => ((fun k_ => (P0_ k_ ∨ w.heap.size ≤ k_))) k_ ∧ some k_ ≠ (u3 : Value).ownBlock) rfl rfl ?aP (fun _ hk => hk) ?aF ?aO ?aB ?aS ?aL ?_; (case aP => exact (k36_mkF _ _ (⟨(rd_T36 l0 x4_1).f0, (rd_T36 l0 x4_1).f1⟩ : S36) (Kd.V_reads' (Kd.V_mono (ok' := (fun k_ => ((fun k_ => (P0_ k_ ∨ w.heap.size ≤ k_))) k_ ∧ some k_ ≠ (u3 : Value).ownBlock)) (HL101_0.out) (fun k_ hk => ⟨hk.1, hk.2⟩))).2.1 (Kd.V_F (Kd.V_mono (ok' := (fun k_ => ((fun k_ => (P0_ k_ ∨ w.heap.size ≤ k_))) k_ ∧ some k_ ≠ (u3 : Value).ownBlock)) (HL101_0.out) (fun k_ hk => ⟨hk.1, hk.2⟩))) (Kd.V_reads' (Kd.V_mono (ok' := (fun k_ => ((fun k_ => (P0_ k_ ∨ w.heap.size ≤ k_))) k_ ∧ some k_ ≠ (u3 : Value).ownBlock)) (HL101_1.out) (fun k_ hk => ⟨hk.1, hk.2⟩))).2.1 (Kd.V_F (Kd.V_mono (ok' := (fun k_ => ((fun k_ => (P0_ k_ ∨ w.heap.size ≤ k_))) k_ ∧ some k_ ≠ (u3 : Value).ownBlock)) (HL101_1.out) (fun k_ hk => ⟨hk.1, hk.2⟩))))); (case aB => exact (by repeat (first | (with_reducible first | exact HB.out | apply below_alloc | apply pw_below_drewN | apply below_drew1) | exact HB.out))); (case aF => exact (fun k_ hk => (.inr (Nat.le_trans (below_size (by repeat (first | (with_reducible first | exact HB.out | apply below_alloc | apply pw_below_drewN | apply below_drew1) | exact HB.out))) hk)))); (case aO => exact (by (with_reducible repeat (first | apply Kd.N_alloc | apply Kd.N_drewN | apply Kd.N_drew)); exact HO_3.out)); (case aS => exact (below_size (by repeat (first | (with_reducible first | exact HB.out | apply below_alloc | apply pw_below_drewN | apply below_drew1) | exact HB.out)))); (case aL => have := LMc5.out; omega); intro v103 w6 ho hb hg hat; rw [← Ny102.out] at ho; have n0_ := Aside0.mk (Kd.V_afterv (ok := (fun k_ => (P0_ k_ ∨ w.heap.size ≤ k_))) (by (with_reducible repeat (first | apply Kd.V_alloc | apply Kd.V_drewN | apply Kd.V_drew)); exact HO_0.out) hg hat); have n1_ := Aside0.mk (Kd.V_afterv (ok := (fun k_ => (P0_ k_ ∨ w.heap.size ≤ k_))) (by (with_reducible repeat (first | apply Kd.V_alloc | apply Kd.V_drewN | apply Kd.V_drew)); exact HL101_0.out) hg hat); have n2_ := Aside0.mk (Kd.V_afterv (ok := (fun k_ => (P0_ k_ ∨ w.heap.size ≤ k_))) (by (with_reducible repeat (first | apply Kd.V_alloc | apply Kd.V_drewN | apply Kd.V_drew)); exact HL101_1.out) hg hat); have n3_ := Aside0.mk (hb); have n4_ := Aside0.mk (ho); clear HO_0; clear HL101_0; clear HL101_1; clear HB; clear HO_3; have HO_0 := n0_; have HL101_0 := n1_; have HL101_1 := n2_; have HB := n3_; have HO104 := n4_; clear n0_ n1_ n2_ n3_ n4_; clear ho hb hg hat))
       go_roundg k1
       case measure => have := HK1.out; omega
       case rel => exact ⟨(y102), (wrap64 (x4_1 - 1)), (by first | rfl | (simp; done) | (simp [*]; done) | (simp [show ∀ l_ : List UInt8, (l_ != []) = !l_.isEmpty from fun l_ => by cases l_ <;> rfl]; done) | (congr 1; refine congr (congrArg (Go.bits _ _) ?_) ?_ <;> omega)), H', ⟨by have := HK1.out; omega⟩, ⟨by (with_reducible repeat (first | apply Kd.V_alloc | apply Kd.V_drewN | apply Kd.V_drew)); exact HO_0.out⟩, ⟨by (with_reducible repeat (first | apply Kd.N_alloc | apply Kd.N_drewN | apply Kd.N_drew)); exact HO104.out⟩, ⟨by repeat (first | (with_reducible first | exact HB.out | apply below_alloc | apply pw_below_drewN | apply below_drew1) | exact HB.out)⟩⟩
      ·
       rw [if_neg c5] at H
       exact absurd H (by simp)
     ·
      rw [if_neg c4] at H
      exact absurd H (by simp)
    ·
     rw [if_neg c3] at H
     exact absurd H (by simp)
   ·
    rw [if_neg c2] at H
    have c2b0 : decide (0 ≤ x4_1) = false := decide_eq_false c2
    clear c2
    obtain rfl := Option.some.inj H
    go_wp2
    go_ret
    exact ⟨_, by first | rfl | (simp [errW_none, errW_some] <;> rfl) | (simp [*, errW_none, errW_some] <;> rfl), by (with_reducible repeat (first | apply Kd.N_alloc | apply Kd.N_drewN | apply Kd.N_drew)); exact HO_3.out, by repeat (first | (with_reducible first | exact HB.out | apply below_alloc | apply pw_below_drewN | apply below_drew1) | exact HB.out)⟩
end Go.Proofs.Ytibkcnlcmempgaa.G
end
section
namespace Go.Proofs.Ytibkcnlcmempgaa.G
open Go.RowKit Go.Proofs.YtibkcnlcmempgaaW.PrintWords Go.Proofs.YtibkcnlcmempgaaW.PrintLast Go.Proofs.YtibkcnlcmempgaaW.PrintMore
attribute [local go_sem] max2_int min2_int max_two min_two max_three min_three max_four min_four   -- for this text's walks alone
set_option linter.unusedVariables false
set_option linter.unusedSimpArgs false
attribute [local go_sem high] eqA26
mutual
def gangwaylaw18_ResolveOrder.l0 : Nat → List (S36) → List (S26) → List (S26) → Int → Option (Bool)
 | 0, _, _, _, _ => none
 | k + 1, x0, x3, x4, x5 => if x5 < (x3.length : Int) then (if 0 ≤ x5 then (if x5 < (x4.length : Int) then (if (!(((rd_T26 x3 x5).f0) == ((rd_T26 x4 x5).f0)) || (!((((rd_T26 x3 x5).f1).toList) == (((rd_T26 x4 x5).f1).toList)))) = true then (none) else (gangwaylaw18_ResolveOrder.l0 k x0 x3 x4 (wrap64 (x5 + 1)))) else (none)) else (none)) else ((resolve_All.f x0).bind fun bt115 => ((gangwaylaw18_turned.f k x0).bind fun t121 => ((resolve_All.f t121).bind fun bt124 => ((gangwaylaw18_num.f bt115.2.1).bind fun t130 => ((gangwaylaw18_num.f bt124.2.1).bind fun t131 => (if t130 = t131 then (gangwaylaw18_ResolveOrder.j1 k x0 bt115.1 bt124.1 ((bt115.1.length : Int) != (bt124.1.length : Int))) else (gangwaylaw18_ResolveOrder.j1 k x0 bt115.1 bt124.1 true)))))))
def gangwaylaw18_ResolveOrder.j1 : Nat → List (S36) → List (S42) → List (S42) → Bool → Option (Bool)
 | 0, _, _, _, _ => none
 | k + 1, x0, x6, x8, x73 => if x73 = true then (none) else (gangwaylaw18_ResolveOrder.l1 k x0 x6 x8 0)
def gangwaylaw18_ResolveOrder.l1 : Nat → List (S36) → List (S42) → List (S42) → Int → Option (Bool)
 | 0, _, _, _, _ => none
 | k + 1, x0, x6, x8, x10 => if x10 < (x6.length : Int) then (if 0 ≤ x10 then (if x10 < (x8.length : Int) then (if ((rd_T42 x6 x10).f0).toList = ((rd_T42 x8 x10).f0).toList then (if ((rd_T42 x6 x10).f3) = ((rd_T42 x8 x10).f3) then (if ((rd_T42 x6 x10).f3) = 1 then (if ((rd_T42 x6 x10).f1) = (wrap64 ((wrap64 ((x0.length : Int) - 1)) - ((rd_T42 x8 x10).f1))) then (if ((rd_T42 x6 x10).f2) = ((rd_T42 x8 x10).f2) then (gangwaylaw18_ResolveOrder.l1 k x0 x6 x8 (wrap64 (x10 + 1))) else (none)) else (none)) else (gangwaylaw18_ResolveOrder.l1 k x0 x6 x8 (wrap64 (x10 + 1)))) else (none)) else (none)) else (none)) else (none)) else ((gangwaylaw18_live.f).bind fun t141 => (some t141))
end
def gangwaylaw18_ResolveOrder.f (k : Nat) (l0 : List (S36)) : Option (Bool) := (resolve_Faults.f l0).bind fun t101 => ((gangwaylaw18_turned.f k l0).bind fun t104 => ((resolve_Faults.f t104).bind fun t107 => ((resolve_Check.f l0).bind fun t110 => ((gangwaylaw18_num.f t110).bind fun t111 => (if t111 = 0 then (if (t101.length : Int) = (t107.length : Int) then (gangwaylaw18_ResolveOrder.l0 k l0 t101 t107 0) else (none)) else (if (wrap64 ((t101.length : Int) + (t107.length : Int))) = 0 then ((gangwaylaw18_live.f).bind fun t112 => (some t112)) else (none)))))))
set_option maxHeartbeats 8000000 in
set_option maxRecDepth 100000 in
theorem gangwaylaw18_ResolveOrder.calls (k : Nat) (A0 : Option Addr) (c0 : Nat) (l0 : List (S36)) (r : Bool) (w : World) (hr0 : Kd.C k36 w A0 l0.length l0) (hc0 : l0.length ≤ c0) (h : gangwaylaw18_ResolveOrder.f k l0 = some r) :
  Calls Try.prog 4 #[.slice A0 l0.length c0] w fun e w' => e = .returned (.bool r) ∧ Below w.heap.size w w' := by
 have hu26 := Try.underlying26
 have HR0 := Aside0.mk hr0
 have HC0 := Aside0.mk hc0
 clear hr0 hc0
 have HB := Aside0.mk (Below.refl w.heap.size w)
 have H : ((resolve_Faults.f l0).bind fun t101 => ((gangwaylaw18_turned.f k l0).bind fun t104 => ((resolve_Faults.f t104).bind fun t107 => ((resolve_Check.f l0).bind fun t110 => ((gangwaylaw18_num.f t110).bind fun t111 => (if t111 = 0 then (if (t101.length : Int) = (t107.length : Int) then (gangwaylaw18_ResolveOrder.l0 k l0 t101 t107 0) else (none)) else (if (wrap64 ((t101.length : Int) + (t107.length : Int))) = 0 then ((gangwaylaw18_live.f).bind fun t112 => (some t112)) else (none)))))))) = some r := h
 clear h
 replace H := Option.bind_eq_some_iff.mp H
 obtain ⟨t101, A20, H⟩ := H
 replace H : ((gangwaylaw18_turned.f k l0).bind fun t104 => ((resolve_Faults.f t104).bind fun t107 => ((resolve_Check.f l0).bind fun t110 => ((gangwaylaw18_num.f t110).bind fun t111 => (if t111 = 0 then (if (t101.length : Int) = (t107.length : Int) then (gangwaylaw18_ResolveOrder.l0 k l0 t101 t107 0) else (none)) else (if (wrap64 ((t101.length : Int) + (t107.length : Int))) = 0 then ((gangwaylaw18_live.f).bind fun t112 => (some t112)) else (none))))))) = some r := H
 have A2 := Aside0.mk A20
 clear A20
 replace H := Option.bind_eq_some_iff.mp H
 obtain ⟨t104, A30, H⟩ := H
 replace H : ((resolve_Faults.f t104).bind fun t107 => ((resolve_Check.f l0).bind fun t110 => ((gangwaylaw18_num.f t110).bind fun t111 => (if t111 = 0 then (if (t101.length : Int) = (t107.length : Int) then (gangwaylaw18_ResolveOrder.l0 k l0 t101 t107 0) else (none)) else (if (wrap64 ((t101.length : Int) + (t107.length : Int))) = 0 then ((gangwaylaw18_live.f).bind fun t112 => (some t112)) else (none)))))) = some r := H
 have A3 := Aside0.mk A30
 clear A30
 replace H := Option.bind_eq_some_iff.mp H
 obtain ⟨t107, A40, H⟩ := H
 replace H : ((resolve_Check.f l0).bind fun t110 => ((gangwaylaw18_num.f t110).bind fun t111 => (if t111 = 0 then (if (t101.length : Int) = (t107.length : Int) then (gangwaylaw18_ResolveOrder.l0 k l0 t101 t107 0) else (none)) else (if (wrap64 ((t101.length : Int) + (t107.length : Int))) = 0 then ((gangwaylaw18_live.f).bind fun t112 => (some t112)) else (none))))) = some r := H
 have A4 := Aside0.mk A40
 clear A40
 replace H := Option.bind_eq_some_iff.mp H
 obtain ⟨t110, A50, H⟩ := H
 replace H : ((gangwaylaw18_num.f t110).bind fun t111 => (if t111 = 0 then (if (t101.length : Int) = (t107.length : Int) then (gangwaylaw18_ResolveOrder.l0 k l0 t101 t107 0) else (none)) else (if (wrap64 ((t101.length : Int) + (t107.length : Int))) = 0 then ((gangwaylaw18_live.f).bind fun t112 => (some t112)) else (none)))) = some r := H
 have A5 := Aside0.mk A50
 clear A50
 replace H := Option.bind_eq_some_iff.mp H
 obtain ⟨t111, A60, H⟩ := H
 replace H : (if t111 = 0 then (if (t101.length : Int) = (t107.length : Int) then (gangwaylaw18_ResolveOrder.l0 k l0 t101 t107 0) else (none)) else (if (wrap64 ((t101.length : Int) + (t107.length : Int))) = 0 then ((gangwaylaw18_live.f).bind fun t112 => (some t112)) else (none))) = some r := H
 have A6 := Aside0.mk A60
 clear A60
 by_cases c7 : t111 = 0
 ·
  rw [if_pos c7] at H
  have c7b0 : (t111 == 0) = true := beq_iff_eq.mpr c7
  have c7b1 : (t111 != 0) = false := bne_eq_false_iff_eq.mpr c7
  clear c7
  by_cases c8 : (t101.length : Int) = (t107.length : Int)
  ·
   rw [if_pos c8] at H
   have c8b0 : ((t101.length : Int) == (t107.length : Int)) = true := beq_iff_eq.mpr c8
   have c8b1 : ((t101.length : Int) != (t107.length : Int)) = false := bne_eq_false_iff_eq.mpr c8
   have c8b2 : (t101.length == t107.length) = true := by first | simpa using c8 | (simp at c8 ⊢; omega)
   clear c8
   have H' := Aside0.mk H
   clear H
   go_enter Try.func4, Try.ntmps4
   go_wp2_with (first | (go_at_call 15; (with_reducible refine (resolve_Faults.calls _ _ l0 t101 _ ?side1 ?side2 A2.out).mono ?_); (case side1 => repeat (first | exact HR0.out | (with_reducible refine Kd.C_alloc ?_ _) | (with_reducible refine Kd.C_drewN ?_ _) | (with_reducible refine Kd.C_drew ?_))); (case side2 => exact HC0.out); rintro e w9 ⟨v102, rfl, ho0, hb⟩; have n0_ := Aside0.mk (Kd.R_lower ho0 (below_size (by repeat (first | (with_reducible first | exact HB.out | apply below_alloc | apply pw_below_drewN | apply below_drew1) | exact HB.out)))); have n1_ := Aside0.mk (below_step (by repeat (first | (with_reducible first | exact HB.out | apply below_alloc | apply pw_below_drewN | apply below_drew1) | exact HB.out)) hb); clear HB; have HO103 := n0_; have HB := n1_; clear n0_ n1_; (try clear hb); (try clear hb2); (try clear hk); (try clear hi); (try clear ho0)) | (go_at_call 16; (with_reducible refine (gangwaylaw18_turned.calls k (fun k_ => k_ < w.heap.size) _ _ l0 t104 _ ?side1 A3.out).mono ?_); (case side1 => exact Kd.V_mk HC0.out (Kd.F_below (Kd.C_F k36_heap HR0.out) (by repeat (first | (with_reducible first | exact HB.out | apply below_alloc | apply pw_below_drewN | apply below_drew1) | exact HB.out)))); rintro e w10 ⟨v105, rfl, ho0, hb⟩; have n0_ := Aside0.mk (Kd.R_below (by (with_reducible repeat (first | apply Kd.R_alloc | apply Kd.R_drewN | apply Kd.R_drew)); exact HO103.out) hb); have n1_ := Aside0.mk (Kd.N_lower (Kd.N_mono (ok' := fun k_ => some k_ ≠ (v102 : Value).ownBlock) ho0 (fun k_ hk_ => Or.elim hk_ (fun hs_ => fun e_ => Nat.not_le.2 hs_ (Kd.R_base HO103.out k_ e_.symm)) (fun hn_ => (Kd.fresh' (Kd.R_lt (by (with_reducible repeat (first | apply Kd.R_alloc | apply Kd.R_drewN | apply Kd.R_drew)); exact HO103.out)) k_ hn_)))) (below_size (by repeat (first | (with_reducible first | exact HB.out | apply below_alloc | apply pw_below_drewN | apply below_drew1) | exact HB.out)))); have n2_ := Aside0.mk (below_step (by repeat (first | (with_reducible first | exact HB.out | apply below_alloc | apply pw_below_drewN | apply below_drew1) | exact HB.out)) hb); clear HO103; clear HB; have HO103 := n0_; have HO106 := n1_; have HB := n2_; clear n0_ n1_ n2_; (try clear hb); (try clear hb2); (try clear hk); (try clear hi); (try clear ho0); obtain ⟨Ao11, co11, eo11⟩ := Kd.N_slice HO106.out; subst eo11) | (go_at_call 15; (with_reducible refine (resolve_Faults.calls _ _ t104 t107 _ ?side1 ?side2 A4.out).mono ?_); (case side1 => repeat (first | exact (Kd.N_reads' HO106.out).2.2 | (with_reducible refine Kd.C_alloc ?_ _) | (with_reducible refine Kd.C_drewN ?_ _) | (with_reducible refine Kd.C_drew ?_))); (case side2 => exact (Kd.N_reads' HO106.out).2.1); rintro e w12 ⟨v108, rfl, ho0, hb⟩; have n0_ := Aside0.mk (Kd.R_elder' (by (with_reducible repeat (first | apply Kd.R_alloc | apply Kd.R_drewN | apply Kd.R_drew)); exact HO103.out) (Kd.R_base ho0) hb); have n1_ := Aside0.mk (Kd.N_elder' (by (with_reducible repeat (first | apply Kd.N_alloc | apply Kd.N_drewN | apply Kd.N_drew)); exact HO106.out) (Kd.R_base ho0) hb); have n2_ := Aside0.mk (Kd.R_lower (Kd.R_new' ho0 (Kd.R_lt (by (with_reducible repeat (first | apply Kd.R_alloc | apply Kd.R_drewN | apply Kd.R_drew)); exact HO103.out))) (below_size (by repeat (first | (with_reducible first | exact HB.out | apply below_alloc | apply pw_below_drewN | apply below_drew1) | exact HB.out)))); have n3_ := Aside0.mk (below_step (by repeat (first | (with_reducible first | exact HB.out | apply below_alloc | apply pw_below_drewN | apply below_drew1) | exact HB.out)) hb); clear HO103; clear HO106; clear HB; have HO103 := n0_; have HO106 := n1_; have HO109 := n2_; have HB := n3_; clear n0_ n1_ n2_ n3_; (try clear hb); (try clear hb2); (try clear hk); (try clear hi); (try clear ho0)) | (go_at_call 9; (with_reducible refine (resolve_Check.calls _ _ l0 t110 _ ?side1 ?side2 A5.out).mono ?_); (case side1 => repeat (first | exact (Kd.C_below HR0.out HB.out) | (with_reducible refine Kd.C_alloc ?_ _) | (with_reducible refine Kd.C_drewN ?_ _) | (with_reducible refine Kd.C_drew ?_))); (case side2 => exact HC0.out); rintro e w13 ⟨rfl, hb⟩; have n0_ := Aside0.mk (Kd.R_below (by (with_reducible repeat (first | apply Kd.R_alloc | apply Kd.R_drewN | apply Kd.R_drew)); exact HO103.out) hb); have n1_ := Aside0.mk (Kd.N_below (by (with_reducible repeat (first | apply Kd.N_alloc | apply Kd.N_drewN | apply Kd.N_drew)); exact HO106.out) hb); have n2_ := Aside0.mk (Kd.R_below (by (with_reducible repeat (first | apply Kd.R_alloc | apply Kd.R_drewN | apply Kd.R_drew)); exact HO109.out) hb); have n3_ := Aside0.mk (below_step (by repeat (first | (with_reducible first | exact HB.out | apply below_alloc | apply pw_below_drewN | apply below_drew1) | exact HB.out)) hb); clear HO103; clear HO106; clear HO109; clear HB; have HO103 := n0_; have HO106 := n1_; have HO109 := n2_; have HB := n3_; clear n0_ n1_ n2_ n3_; (try clear hb); (try clear hb2); (try clear hk); (try clear hi)) | (go_at_call 8; (with_reducible refine (gangwaylaw18_num.calls t110 t111 _ A6.out).mono ?_); rintro e w' ⟨rfl, ⟨nd, rfl⟩⟩; (try first | exact ⟨rfl, _, World.drewN_drewN _ _ _⟩ | exact ⟨rfl, _, Eq.trans (World.drewN_drewN _ _ _) (congrArg (World.drewN _) (Nat.add_assoc _ _ _))⟩); obtain ⟨Ao14, co14, eo14⟩ := Kd.R_slice HO103.out; subst eo14; obtain ⟨Ao15, co15, eo15⟩ := Kd.R_slice HO109.out; subst eo15))
   repeat (go_quiet (first | (go_at_call 15; (with_reducible refine (resolve_Faults.calls _ _ l0 t101 _ ?side1 ?side2 A2.out).mono ?_); (case side1 => repeat (first | exact HR0.out | (with_reducible refine Kd.C_alloc ?_ _) | (with_reducible refine Kd.C_drewN ?_ _) | (with_reducible refine Kd.C_drew ?_))); (case side2 => exact HC0.out); rintro e w9 ⟨v102, rfl, ho0, hb⟩; have n0_ := Aside0.mk (Kd.R_lower ho0 (below_size (by repeat (first | (with_reducible first | exact HB.out | apply below_alloc | apply pw_below_drewN | apply below_drew1) | exact HB.out)))); have n1_ := Aside0.mk (below_step (by repeat (first | (with_reducible first | exact HB.out | apply below_alloc | apply pw_below_drewN | apply below_drew1) | exact HB.out)) hb); clear HB; have HO103 := n0_; have HB := n1_; clear n0_ n1_; (try clear hb); (try clear hb2); (try clear hk); (try clear hi); (try clear ho0)) | (go_at_call 16; (with_reducible refine (gangwaylaw18_turned.calls k (fun k_ => k_ < w.heap.size) _ _ l0 t104 _ ?side1 A3.out).mono ?_); (case side1 => exact Kd.V_mk HC0.out (Kd.F_below (Kd.C_F k36_heap HR0.out) (by repeat (first | (with_reducible first | exact HB.out | apply below_alloc | apply pw_below_drewN | apply below_drew1) | exact HB.out)))); rintro e w10 ⟨v105, rfl, ho0, hb⟩; have n0_ := Aside0.mk (Kd.R_below (by (with_reducible repeat (first | apply Kd.R_alloc | apply Kd.R_drewN | apply Kd.R_drew)); exact HO103.out) hb); have n1_ := Aside0.mk (Kd.N_lower (Kd.N_mono (ok' := fun k_ => some k_ ≠ (v102 : Value).ownBlock) ho0 (fun k_ hk_ => Or.elim hk_ (fun hs_ => fun e_ => Nat.not_le.2 hs_ (Kd.R_base HO103.out k_ e_.symm)) (fun hn_ => (Kd.fresh' (Kd.R_lt (by (with_reducible repeat (first | apply Kd.R_alloc | apply Kd.R_drewN | apply Kd.R_drew)); exact HO103.out)) k_ hn_)))) (below_size (by repeat (first | (with_reducible first | exact HB.out | apply below_alloc | apply pw_below_drewN | apply below_drew1) | exact HB.out)))); have n2_ := Aside0.mk (below_step (by repeat (first | (with_reducible first | exact HB.out | apply below_alloc | apply pw_below_drewN | apply below_drew1) | exact HB.out)) hb); clear HO103; clear HB; have HO103 := n0_; have HO106 := n1_; have HB := n2_; clear n0_ n1_ n2_; (try clear hb); (try clear hb2); (try clear hk); (try clear hi); (try clear ho0); obtain ⟨Ao11, co11, eo11⟩ := Kd.N_slice HO106.out; subst eo11) | (go_at_call 15; (with_reducible refine (resolve_Faults.calls _ _ t104 t107 _ ?side1 ?side2 A4.out).mono ?_); (case side1 => repeat (first | exact (Kd.N_reads' HO106.out).2.2 | (with_reducible refine Kd.C_alloc ?_ _) | (with_reducible refine Kd.C_drewN ?_ _) | (with_reducible refine Kd.C_drew ?_))); (case side2 => exact (Kd.N_reads' HO106.out).2.1); rintro e w12 ⟨v108, rfl, ho0, hb⟩; have n0_ := Aside0.mk (Kd.R_elder' (by (with_reducible repeat (first | apply Kd.R_alloc | apply Kd.R_drewN | apply Kd.R_drew)); exact HO103.out) (Kd.R_base ho0) hb); have n1_ := Aside0.mk (Kd.N_elder' (by (with_reducible repeat (first | apply Kd.N_alloc | apply Kd.N_drewN | apply Kd.N_drew)); exact HO106.out) (Kd.R_base ho0) hb); have n2_ := Aside0.mk (Kd.R_lower (Kd.R_new' ho0 (Kd.R_lt (by (with_reducible repeat (first | apply Kd.R_alloc | apply Kd.R_drewN | apply Kd.R_drew)); exact HO103.out))) (below_size (by repeat (first | (with_reducible first | exact HB.out | apply below_alloc | apply pw_below_drewN | apply below_drew1) | exact HB.out)))); have n3_ := Aside0.mk (below_step (by repeat (first | (with_reducible first | exact HB.out | apply below_alloc | apply pw_below_drewN | apply below_drew1) | exact HB.out)) hb); clear HO103; clear HO106; clear HB; have HO103 := n0_; have HO106 := n1_; have HO109 := n2_; have HB := n3_; clear n0_ n1_ n2_ n3_; (try clear hb); (try clear hb2); (try clear hk); (try clear hi); (try clear ho0)) | (go_at_call 9; (with_reducible refine (resolve_Check.calls _ _ l0 t110 _ ?side1 ?side2 A5.out).mono ?_); (case side1 => repeat (first | exact (Kd.C_below HR0.out HB.out) | (with_reducible refine Kd.C_alloc ?_ _) | (with_reducible refine Kd.C_drewN ?_ _) | (with_reducible refine Kd.C_drew ?_))); (case side2 => exact HC0.out); rintro e w13 ⟨rfl, hb⟩; have n0_ := Aside0.mk (Kd.R_below (by (with_reducible repeat (first | apply Kd.R_alloc | apply Kd.R_drewN | apply Kd.R_drew)); exact HO103.out) hb); have n1_ := Aside0.mk (Kd.N_below (by (with_reducible repeat (first | apply Kd.N_alloc | apply Kd.N_drewN | apply Kd.N_drew)); exact HO106.out) hb); have n2_ := Aside0.mk (Kd.R_below (by (with_reducible repeat (first | apply Kd.R_alloc | apply Kd.R_drewN | apply Kd.R_drew)); exact HO109.out) hb); have n3_ := Aside0.mk (below_step (by repeat (first | (with_reducible first | exact HB.out | apply below_alloc | apply pw_below_drewN | apply below_drew1) | exact HB.out)) hb); clear HO103; clear HO106; clear HO109; clear HB; have HO103 := n0_; have HO106 := n1_; have HO109 := n2_; have HB := n3_; clear n0_ n1_ n2_ n3_; (try clear hb); (try clear hb2); (try clear hk); (try clear hi)) | (go_at_call 8; (with_reducible refine (gangwaylaw18_num.calls t110 t111 _ A6.out).mono ?_); rintro e w' ⟨rfl, ⟨nd, rfl⟩⟩; (try first | exact ⟨rfl, _, World.drewN_drewN _ _ _⟩ | exact ⟨rfl, _, Eq.trans (World.drewN_drewN _ _ _) (congrArg (World.drewN _) (Nat.add_assoc _ _ _))⟩); obtain ⟨Ao14, co14, eo14⟩ := Kd.R_slice HO103.out; subst eo14; obtain ⟨Ao15, co15, eo15⟩ := Kd.R_slice HO109.out; subst eo15)); try go_wp2_with (first | (go_at_call 15; (with_reducible refine (resolve_Faults.calls _ _ l0 t101 _ ?side1 ?side2 A2.out).mono ?_); (case side1 => repeat (first | exact HR0.out | (with_reducible refine Kd.C_alloc ?_ _) | (with_reducible refine Kd.C_drewN ?_ _) | (with_reducible refine Kd.C_drew ?_))); (case side2 => exact HC0.out); rintro e w9 ⟨v102, rfl, ho0, hb⟩; have n0_ := Aside0.mk (Kd.R_lower ho0 (below_size (by repeat (first | (with_reducible first | exact HB.out | apply below_alloc | apply pw_below_drewN | apply below_drew1) | exact HB.out)))); have n1_ := Aside0.mk (below_step (by repeat (first | (with_reducible first | exact HB.out | apply below_alloc | apply pw_below_drewN | apply below_drew1) | exact HB.out)) hb); clear HB; have HO103 := n0_; have HB := n1_; clear n0_ n1_; (try clear hb); (try clear hb2); (try clear hk); (try clear hi); (try clear ho0)) | (go_at_call 16; (with_reducible refine (gangwaylaw18_turned.calls k (fun k_ => k_ < w.heap.size) _ _ l0 t104 _ ?side1 A3.out).mono ?_); (case side1 => exact Kd.V_mk HC0.out (Kd.F_below (Kd.C_F k36_heap HR0.out) (by repeat (first | (with_reducible first | exact HB.out | apply below_alloc | apply pw_below_drewN | apply below_drew1) | exact HB.out)))); rintro e w10 ⟨v105, rfl, ho0, hb⟩; have n0_ := Aside0.mk (Kd.R_below (by (with_reducible repeat (first | apply Kd.R_alloc | apply Kd.R_drewN | apply Kd.R_drew)); exact HO103.out) hb); have n1_ := Aside0.mk (Kd.N_lower (Kd.N_mono (ok' := fun k_ => some k_ ≠ (v102 : Value).ownBlock) ho0 (fun k_ hk_ => Or.elim hk_ (fun hs_ => fun e_ => Nat.not_le.2 hs_ (Kd.R_base HO103.out k_ e_.symm)) (fun hn_ => (Kd.fresh' (Kd.R_lt (by (with_reducible repeat (first | apply Kd.R_alloc | apply Kd.R_drewN | apply Kd.R_drew)); exact HO103.out)) k_ hn_)))) (below_size (by repeat (first | (with_reducible first | exact HB.out | apply below_alloc | apply pw_below_drewN | apply below_drew1) | exact HB.out)))); have n2_ := Aside0.mk (below_step (by repeat (first | (with_reducible first | exact HB.out | apply below_alloc | apply pw_below_drewN | apply below_drew1) | exact HB.out)) hb); clear HO103; clear HB; have HO103 := n0_; have HO106 := n1_; have HB := n2_; clear n0_ n1_ n2_; (try clear hb); (try clear hb2); (try clear hk); (try clear hi); (try clear ho0); obtain ⟨Ao11, co11, eo11⟩ := Kd.N_slice HO106.out; subst eo11) | (go_at_call 15; (with_reducible refine (resolve_Faults.calls _ _ t104 t107 _ ?side1 ?side2 A4.out).mono ?_); (case side1 => repeat (first | exact (Kd.N_reads' HO106.out).2.2 | (with_reducible refine Kd.C_alloc ?_ _) | (with_reducible refine Kd.C_drewN ?_ _) | (with_reducible refine Kd.C_drew ?_))); (case side2 => exact (Kd.N_reads' HO106.out).2.1); rintro e w12 ⟨v108, rfl, ho0, hb⟩; have n0_ := Aside0.mk (Kd.R_elder' (by (with_reducible repeat (first | apply Kd.R_alloc | apply Kd.R_drewN | apply Kd.R_drew)); exact HO103.out) (Kd.R_base ho0) hb); have n1_ := Aside0.mk (Kd.N_elder' (by (with_reducible repeat (first | apply Kd.N_alloc | apply Kd.N_drewN | apply Kd.N_drew)); exact HO106.out) (Kd.R_base ho0) hb); have n2_ := Aside0.mk (Kd.R_lower (Kd.R_new' ho0 (Kd.R_lt (by (with_reducible repeat (first | apply Kd.R_alloc | apply Kd.R_drewN | apply Kd.R_drew)); exact HO103.out))) (below_size (by repeat (first | (with_reducible first | exact HB.out | apply below_alloc | apply pw_below_drewN | apply below_drew1) | exact HB.out)))); have n3_ := Aside0.mk (below_step (by repeat (first | (with_reducible first | exact HB.out | apply below_alloc | apply pw_below_drewN | apply below_drew1) | exact HB.out)) hb); clear HO103; clear HO106; clear HB; have HO103 := n0_; have HO106 := n1_; have HO109 := n2_; have HB := n3_; clear n0_ n1_ n2_ n3_; (try clear hb); (try clear hb2); (try clear hk); (try clear hi); (try clear ho0)) | (go_at_call 9; (with_reducible refine (resolve_Check.calls _ _ l0 t110 _ ?side1 ?side2 A5.out).mono ?_); (case side1 => repeat (first | exact (Kd.C_below HR0.out HB.out) | (with_reducible refine Kd.C_alloc ?_ _) | (with_reducible refine Kd.C_drewN ?_ _) | (with_reducible refine Kd.C_drew ?_))); (case side2 => exact HC0.out); rintro e w13 ⟨rfl, hb⟩; have n0_ := Aside0.mk (Kd.R_below (by (with_reducible repeat (first | apply Kd.R_alloc | apply Kd.R_drewN | apply Kd.R_drew)); exact HO103.out) hb); have n1_ := Aside0.mk (Kd.N_below (by (with_reducible repeat (first | apply Kd.N_alloc | apply Kd.N_drewN | apply Kd.N_drew)); exact HO106.out) hb); have n2_ := Aside0.mk (Kd.R_below (by (with_reducible repeat (first | apply Kd.R_alloc | apply Kd.R_drewN | apply Kd.R_drew)); exact HO109.out) hb); have n3_ := Aside0.mk (below_step (by repeat (first | (with_reducible first | exact HB.out | apply below_alloc | apply pw_below_drewN | apply below_drew1) | exact HB.out)) hb); clear HO103; clear HO106; clear HO109; clear HB; have HO103 := n0_; have HO106 := n1_; have HO109 := n2_; have HB := n3_; clear n0_ n1_ n2_ n3_; (try clear hb); (try clear hb2); (try clear hk); (try clear hi)) | (go_at_call 8; (with_reducible refine (gangwaylaw18_num.calls t110 t111 _ A6.out).mono ?_); rintro e w' ⟨rfl, ⟨nd, rfl⟩⟩; (try first | exact ⟨rfl, _, World.drewN_drewN _ _ _⟩ | exact ⟨rfl, _, Eq.trans (World.drewN_drewN _ _ _) (congrArg (World.drewN _) (Nat.add_assoc _ _ _))⟩); obtain ⟨Ao14, co14, eo14⟩ := Kd.R_slice HO103.out; subst eo14; obtain ⟨Ao15, co15, eo15⟩ := Kd.R_slice HO109.out; subst eo15)))
   go_loopg [5] k (fun kq v5 w' => ∃ (x5_1 : Int), v5 = .int .i64 x5_1 ∧ Aside0 (gangwaylaw18_ResolveOrder.l0 kq l0 t101 t107 x5_1 = some r) ∧ Aside0 (kq ≤ k) ∧ Aside0 (Kd.R k26 26 w' w.heap.size (fun k_ => some k_ ≠ ((.slice Ao15 t107.length co15) : Value).ownBlock) (.slice Ao14 t101.length co14) t101) ∧ Aside0 (Kd.R k26 26 w' w.heap.size (fun k_ => some k_ ≠ ((.slice Ao14 t101.length co14) : Value).ownBlock) (.slice Ao15 t107.length co15) t107) ∧ Aside0 (Below w.heap.size w w'))
   case atStart => exact ⟨(0), (by first | rfl | (simp; done) | (simp [*]; done) | (simp [show ∀ l_ : List UInt8, (l_ != []) = !l_.isEmpty from fun l_ => by cases l_ <;> rfl]; done) | (congr 1; refine congr (congrArg (Go.bits _ _) ?_) ?_ <;> omega)), H', ⟨Nat.le_refl _⟩, ⟨by (with_reducible repeat (first | apply Kd.R_alloc | apply Kd.R_drewN | apply Kd.R_drew)); exact Kd.R_mono HO103.out (fun _ hk => hk.2)⟩, ⟨by (with_reducible repeat (first | apply Kd.R_alloc | apply Kd.R_drewN | apply Kd.R_drew)); exact Kd.R_mono HO109.out (fun _ hk => hk.2)⟩, ⟨by repeat (first | (with_reducible first | exact HB.out | apply below_alloc | apply pw_below_drewN | apply below_drew1) | exact HB.out)⟩⟩
   case round =>
    clear H'
    try clear p2
    try clear c4
    try clear p6
    try clear c7
    try clear c7b0
    try clear c7b1
    try clear c8
    try clear c8b0
    try clear c8b1
    try clear c8b2
    obtain ⟨x5_1, rfl, HA, HK1, HO_3, HO_4, HB⟩ := hrel
    cases gk with
    | zero => exact absurd HA.out (by simp [gangwaylaw18_ResolveOrder.l0])
    | succ k1 =>
     have H := HA.out
     clear HA
     simp only [gangwaylaw18_ResolveOrder.l0] at H
     by_cases c16 : x5_1 < (t101.length : Int)
     ·
      rw [if_pos c16] at H
      have c16b0 : decide (x5_1 < (t101.length : Int)) = true := decide_eq_true c16
      clear c16
      by_cases c17 : 0 ≤ x5_1
      ·
       rw [if_pos c17] at H
       have c17b0 : decide (0 ≤ x5_1) = true := decide_eq_true c17
       clear c17
       by_cases c18 : x5_1 < (t107.length : Int)
       ·
        rw [if_pos c18] at H
        have c18b0 : decide (x5_1 < (t107.length : Int)) = true := decide_eq_true c18
        clear c18
        by_cases c19 : (!(((rd_T26 t101 x5_1).f0) == ((rd_T26 t107 x5_1).f0)) || (!((((rd_T26 t101 x5_1).f1).toList) == (((rd_T26 t107 x5_1).f1).toList)))) = true
        ·
         rw [if_pos c19] at H
         exact absurd H (by simp)
        ·
         rw [if_neg c19] at H
         have c19b0 : (!(((rd_T26 t101 x5_1).f0) == ((rd_T26 t107 x5_1).f0)) || (!((((rd_T26 t101 x5_1).f1).toList) == (((rd_T26 t107 x5_1).f1).toList)))) = false := by simpa using c19
         clear c19
         have H' := Aside0.mk H
         clear H
         have p113 : 0 ≤ (x5_1 : Int) := of_decide_eq_true (by first | (with_reducible assumption) | assumption)
         have q113 : x5_1 < (t101.length : Int) := of_decide_eq_true (by first | (with_reducible assumption) | assumption)
         obtain ⟨ad113, e113, hx113_0, hx113_1⟩ := at_T26 (Kd.R_reads' HO_3.out).2.2 x5_1 p113 q113
         cases e113
         replace p113 := eq_true p113
         replace q113 := eq_true q113
         have p114 : 0 ≤ (x5_1 : Int) := of_decide_eq_true (by first | (with_reducible assumption) | assumption)
         have q114 : x5_1 < (t107.length : Int) := of_decide_eq_true (by first | (with_reducible assumption) | assumption)
         obtain ⟨ad114, e114, hx114_0, hx114_1⟩ := at_T26 (Kd.R_reads' HO_4.out).2.2 x5_1 p114 q114
         cases e114
         replace p114 := eq_true p114
         replace q114 := eq_true q114
         go_wp2
         repeat (go_quiet (fail); try go_wp2)
         go_roundg k1
         case measure => have := HK1.out; omega
         case rel => exact ⟨(wrap64 (x5_1 + 1)), (by first | rfl | (simp; done) | (simp [*]; done) | (simp [show ∀ l_ : List UInt8, (l_ != []) = !l_.isEmpty from fun l_ => by cases l_ <;> rfl]; done) | (congr 1; refine congr (congrArg (Go.bits _ _) ?_) ?_ <;> omega)), H', ⟨by have := HK1.out; omega⟩, ⟨by (with_reducible repeat (first | apply Kd.R_alloc | apply Kd.R_drewN | apply Kd.R_drew)); exact HO_3.out⟩, ⟨by (with_reducible repeat (first | apply Kd.R_alloc | apply Kd.R_drewN | apply Kd.R_drew)); exact HO_4.out⟩, ⟨by repeat (first | (with_reducible first | exact HB.out | apply below_alloc | apply pw_below_drewN | apply below_drew1) | exact HB.out)⟩⟩
       ·
        rw [if_neg c18] at H
        exact absurd H (by simp)
      ·
       rw [if_neg c17] at H
       exact absurd H (by simp)
     ·
      rw [if_neg c16] at H
      have c16b0 : decide (x5_1 < (t101.length : Int)) = false := decide_eq_false c16
      clear c16
      replace H := Option.bind_eq_some_iff.mp H
      obtain ⟨⟨t115, t118, t119⟩, A200, H⟩ := H
      replace H : ((gangwaylaw18_turned.f k1 l0).bind fun t121 => ((resolve_All.f t121).bind fun bt124 => ((gangwaylaw18_num.f t118).bind fun t130 => ((gangwaylaw18_num.f bt124.2.1).bind fun t131 => (if t130 = t131 then (gangwaylaw18_ResolveOrder.j1 k1 l0 t115 bt124.1 ((t115.length : Int) != (bt124.1.length : Int))) else (gangwaylaw18_ResolveOrder.j1 k1 l0 t115 bt124.1 true)))))) = some r := H
      have A20 := Aside0.mk A200
      clear A200
      replace H := Option.bind_eq_some_iff.mp H
      obtain ⟨t121, A210, H⟩ := H
      replace H : ((resolve_All.f t121).bind fun bt124 => ((gangwaylaw18_num.f t118).bind fun t130 => ((gangwaylaw18_num.f bt124.2.1).bind fun t131 => (if t130 = t131 then (gangwaylaw18_ResolveOrder.j1 k1 l0 t115 bt124.1 ((t115.length : Int) != (bt124.1.length : Int))) else (gangwaylaw18_ResolveOrder.j1 k1 l0 t115 bt124.1 true))))) = some r := H
      have A21 := Aside0.mk A210
      clear A210
      replace H := Option.bind_eq_some_iff.mp H
      obtain ⟨⟨t124, t127, t128⟩, A220, H⟩ := H
      replace H : ((gangwaylaw18_num.f t118).bind fun t130 => ((gangwaylaw18_num.f t127).bind fun t131 => (if t130 = t131 then (gangwaylaw18_ResolveOrder.j1 k1 l0 t115 t124 ((t115.length : Int) != (t124.length : Int))) else (gangwaylaw18_ResolveOrder.j1 k1 l0 t115 t124 true)))) = some r := H
      have A22 := Aside0.mk A220
      clear A220
      have HC23 := Aside0.mk H
      clear H
      go_upto_region 14 with (first | (go_at_call 7; (with_reducible refine (resolve_All.calls _ _ l0 t115 t118 t119 _ ?side1 ?side2 A20.out).mono ?_); (case side1 => repeat (first | exact (Kd.C_below HR0.out HB.out) | (with_reducible refine Kd.C_alloc ?_ _) | (with_reducible refine Kd.C_drewN ?_ _) | (with_reducible refine Kd.C_drew ?_))); (case side2 => exact HC0.out); rintro e w24 ⟨v116, rfl, ho0, hb⟩; have n0_ := Aside0.mk (Kd.R_below (by (with_reducible repeat (first | apply Kd.R_alloc | apply Kd.R_drewN | apply Kd.R_drew)); exact HO_3.out) hb); have n1_ := Aside0.mk (Kd.R_below (by (with_reducible repeat (first | apply Kd.R_alloc | apply Kd.R_drewN | apply Kd.R_drew)); exact HO_4.out) hb); have n2_ := Aside0.mk (Kd.R_lower ho0 (below_size (by repeat (first | (with_reducible first | exact HB.out | apply below_alloc | apply pw_below_drewN | apply below_drew1) | exact HB.out)))); have n3_ := Aside0.mk (below_step (by repeat (first | (with_reducible first | exact HB.out | apply below_alloc | apply pw_below_drewN | apply below_drew1) | exact HB.out)) hb); clear HO_3; clear HO_4; clear HB; have HO_3 := n0_; have HO_4 := n1_; have HO117 := n2_; have HB := n3_; clear n0_ n1_ n2_ n3_; (try clear hb); (try clear hb2); (try clear hk); (try clear hi); (try clear ho0)) | ((with_reducible refine gate_dst (N := 7) rfl ?_); (try (refine gate_guard (by rfl) ?_; dsimp only)); refine box_event ?hg (N := 7) ?hd (cs := #[.int .i64 0, .string (⟨#[]⟩ : ByteArray)]) (t := 26) ?hr ?_; (case hd => rfl); (case hg => rfl); (case hr => first | (go_simp; done) | (go_simp; rfl)); intro gb120 hg w25 hbox hb; have n0_ := Aside0.mk (Kd.R_below (Kd.R_elderB (by (with_reducible repeat (first | apply Kd.R_alloc | apply Kd.R_drewN | apply Kd.R_drew)); exact HO_3.out) gb120 (Nat.le_of_eq hg.symm)) hb); have n1_ := Aside0.mk (Kd.R_below (Kd.R_elderB (by (with_reducible repeat (first | apply Kd.R_alloc | apply Kd.R_drewN | apply Kd.R_drew)); exact HO_4.out) gb120 (Nat.le_of_eq hg.symm)) hb); have n2_ := Aside0.mk (Kd.R_below (by (with_reducible repeat (first | apply Kd.R_alloc | apply Kd.R_drewN | apply Kd.R_drew)); exact HO117.out) hb); have n3_ := Aside0.mk (below_step (by repeat (first | (with_reducible first | exact HB.out | apply below_alloc | apply pw_below_drewN | apply below_drew1) | exact HB.out)) hb); have n4_ := Aside0.mk (hbox); have n5_ := Aside0.mk ((by rw [hg]; exact (below_size (by repeat (first | (with_reducible first | exact HB.out | apply below_alloc | apply pw_below_drewN | apply below_drew1) | exact HB.out))) : w.heap.size ≤ gb120)); have n6_ := Aside0.mk ((by rw [hg]; exact (below_size (by repeat (first | (with_reducible first | exact HB.out | apply below_alloc | apply pw_below_drewN | apply below_drew1) | exact HB.out))) : w.heap.size ≤ gb120)); clear HO_3; clear HO_4; clear HO117; clear HB; have HO_3 := n0_; have HO_4 := n1_; have HO117 := n2_; have HB := n3_; have BK120 := n4_; have GW120 := n5_; have GE120 := n6_; clear n0_ n1_ n2_ n3_ n4_ n5_ n6_; clear hb hbox hg; have hcz26_0 : w25.cell? ⟨gb120, 0, none⟩ = some (.int .i64 0) := (blk_cell BK120.out 0).trans rfl; have hcz26_1 : w25.cell? ⟨gb120, 1, none⟩ = some (.string (⟨#[]⟩ : ByteArray)) := (blk_cell BK120.out 1).trans rfl; have hfz26_0 := blk_frozen BK120.out 0; have hfz26_1 := blk_frozen BK120.out 1) | ((with_reducible refine gate_store (t := 26) (p := 7) rfl ?_); (try (rw [drewN_self w25]; generalize hq_ : World.drewN w25 _ = w25; have n0_ := Aside0.mk (Kd.R_at hq_ HO_3.out); have n1_ := Aside0.mk (Kd.R_at hq_ HO_4.out); have n2_ := Aside0.mk (Kd.R_at hq_ HO117.out); have n3_ := Aside0.mk (blk_at hq_ BK120.out); have n4_ := Aside0.mk (below_at hq_ HB.out); clear hq_ HO_3 HO_4 HO117 BK120 HB; have HO_3 := n0_; have HO_4 := n1_; have HO117 := n2_; have BK120 := n3_; have HB := n4_; clear n0_ n1_ n2_ n3_ n4_)); refine store_event (t := 26) (p := 7) (v := ?vo_w27) (w1 := ((w25.setCell ⟨gb120, 0, none⟩ (.int .i64 t118)).setCell ⟨gb120, 1, none⟩ (.string t119))) ?hg ?ho ?hn ?hr ?_; (case ho => rfl); (case hg => rfl); (case hn => rfl); (case hr => first | (go_simp; done) | (go_simp; rfl)); intro w27 hw; have n0_ : Aside0 (Kd.R k26 26 w27 w.heap.size (fun k_ => some k_ ≠ (.slice Ao15 t107.length co15 : Value).ownBlock ∧ k_ ≠ gb120) (.slice Ao14 t101.length co14) t101) := ⟨(by rw [hw]; exact (by (with_reducible repeat (first | apply Kd.R_alloc | apply Kd.R_drewN | apply Kd.R_drew)); exact Kd.R_mono (Kd.R_far (p := ⟨gb120, 1, none⟩) (Kd.R_far (p := ⟨gb120, 0, none⟩) (Kd.R_mono HO_3.out (fun k_ hk => (⟨hk, hk.2⟩ : _ ∧ k_ ≠ gb120))) (fun _ hk => hk.2) (.int .i64 t118)) (fun _ hk => hk.2) (.string t119)) (fun _ hk => ⟨hk.1.1, hk.1.2⟩)))⟩; have n1_ : Aside0 (Kd.R k26 26 w27 w.heap.size (fun k_ => some k_ ≠ (.slice Ao14 t101.length co14 : Value).ownBlock ∧ k_ ≠ gb120) (.slice Ao15 t107.length co15) t107) := ⟨(by rw [hw]; exact (by (with_reducible repeat (first | apply Kd.R_alloc | apply Kd.R_drewN | apply Kd.R_drew)); exact Kd.R_mono (Kd.R_far (p := ⟨gb120, 1, none⟩) (Kd.R_far (p := ⟨gb120, 0, none⟩) (Kd.R_mono HO_4.out (fun k_ hk => (⟨hk, hk.2⟩ : _ ∧ k_ ≠ gb120))) (fun _ hk => hk.2) (.int .i64 t118)) (fun _ hk => hk.2) (.string t119)) (fun _ hk => ⟨hk.1.1, hk.1.2⟩)))⟩; have n2_ : Aside0 (Kd.R k42 42 w27 w.heap.size (fun _ => True) v116 t115) := ⟨(by rw [hw]; exact (by (with_reducible repeat (first | apply Kd.R_alloc | apply Kd.R_drewN | apply Kd.R_drew)); exact Kd.R_mono (Kd.R_far (p := ⟨gb120, 1, none⟩) (Kd.R_far (p := ⟨gb120, 0, none⟩) (Kd.R_types HO117.out BK120.out (by decide)) (fun _ hk => hk.2) (.int .i64 t118)) (fun _ hk => hk.2) (.string t119)) (fun _ hk => trivial)))⟩; have n3_ : Aside0 (w27.heap[gb120]? = some (.cells #[.int .i64 t118, .string t119] 26 (0, 0))) := ⟨(by rw [hw]; exact (by (with_reducible repeat (first | refine blk_drewN ?_ _ | refine blk_drew ?_ | refine blk_alloc ?_ _)); refine blk_put (cs := #[.int .i64 t118, .string (⟨#[]⟩ : ByteArray)]) ?_ 1 _ rfl; (with_reducible repeat (first | refine blk_drewN ?_ _ | refine blk_drew ?_ | refine blk_alloc ?_ _)); refine blk_put (cs := #[.int .i64 0, .string (⟨#[]⟩ : ByteArray)]) ?_ 0 _ rfl; (with_reducible repeat (first | refine blk_drewN ?_ _ | refine blk_drew ?_ | refine blk_alloc ?_ _)); exact BK120.out))⟩; have n4_ : Aside0 (Below w.heap.size w w27) := ⟨(by rw [hw]; exact (by repeat (first | (with_reducible first | exact HB.out | apply below_alloc | apply pw_below_drewN | apply below_drew1 | refine below_set ?_ GE120.out) | exact HB.out)))⟩; clear hw; clear HO_3; clear HO_4; clear HO117; clear BK120; clear HB; have HO_3 := n0_; have HO_4 := n1_; have HO117 := n2_; have BK120 := n3_; have HB := n4_; clear n0_ n1_ n2_ n3_ n4_) | (go_at_call 16; (with_reducible refine (gangwaylaw18_turned.calls k1 (fun k_ => k_ < w.heap.size) _ _ l0 t121 _ ?side1 A21.out).mono ?_); (case side1 => exact Kd.V_mk HC0.out (Kd.F_below (Kd.C_F k36_heap HR0.out) (by repeat (first | (with_reducible first | exact HB.out | apply below_alloc | apply pw_below_drewN | apply below_drew1 | refine below_set ?_ GE120.out) | exact HB.out)))); rintro e w28 ⟨v122, rfl, ho0, hb⟩; have n0_ := Aside0.mk (Kd.R_below (by (with_reducible repeat (first | apply Kd.R_alloc | apply Kd.R_drewN | apply Kd.R_drew)); exact HO_3.out) hb); have n1_ := Aside0.mk (Kd.R_below (by (with_reducible repeat (first | apply Kd.R_alloc | apply Kd.R_drewN | apply Kd.R_drew)); exact HO_4.out) hb); have n2_ := Aside0.mk (Kd.R_below (by (with_reducible repeat (first | apply Kd.R_alloc | apply Kd.R_drewN | apply Kd.R_drew)); exact HO117.out) hb); have n3_ := Aside0.mk (Kd.N_lower (Kd.N_mono (ok' := fun k_ => some k_ ≠ (.slice Ao14 t101.length co14 : Value).ownBlock ∧ some k_ ≠ (.slice Ao15 t107.length co15 : Value).ownBlock ∧ some k_ ≠ (v116 : Value).ownBlock ∧ k_ ≠ gb120) ho0 (fun k_ hk_ => ⟨Or.elim hk_ (fun hs_ => fun e_ => Nat.not_le.2 hs_ (Kd.R_base HO_3.out k_ e_.symm)) (fun hn_ => (Kd.fresh' (Kd.R_lt (by (with_reducible repeat (first | apply Kd.R_alloc | apply Kd.R_drewN | apply Kd.R_drew)); exact HO_3.out)) k_ hn_)), Or.elim hk_ (fun hs_ => fun e_ => Nat.not_le.2 hs_ (Kd.R_base HO_4.out k_ e_.symm)) (fun hn_ => (Kd.fresh' (Kd.R_lt (by (with_reducible repeat (first | apply Kd.R_alloc | apply Kd.R_drewN | apply Kd.R_drew)); exact HO_4.out)) k_ hn_)), Or.elim hk_ (fun hs_ => fun e_ => Nat.not_le.2 hs_ (Kd.R_base HO117.out k_ e_.symm)) (fun hn_ => (Kd.fresh' (Kd.R_lt (by (with_reducible repeat (first | apply Kd.R_alloc | apply Kd.R_drewN | apply Kd.R_drew)); exact HO117.out)) k_ hn_)), Or.elim hk_ (fun hs_ => fun e_ => Nat.not_le.2 hs_ (by rw [e_]; exact GW120.out)) (fun hn_ => (Kd.freshB (g := gb120) (o := .cells #[.int .i64 t118, .string t119] 26 (0, 0)) (by (with_reducible repeat (first | refine blk_drewN ?_ _ | refine blk_drew ?_ | refine blk_alloc ?_ _)); exact BK120.out) k_ hn_))⟩)) (below_size (by repeat (first | (with_reducible first | exact HB.out | apply below_alloc | apply pw_below_drewN | apply below_drew1 | refine below_set ?_ GE120.out) | exact HB.out)))); have n4_ := Aside0.mk (blk_below (g := gb120) (o := .cells #[.int .i64 t118, .string t119] 26 (0, 0)) (by (with_reducible repeat (first | refine blk_drewN ?_ _ | refine blk_drew ?_ | refine blk_alloc ?_ _)); exact BK120.out) hb); have n5_ := Aside0.mk (below_step (by repeat (first | (with_reducible first | exact HB.out | apply below_alloc | apply pw_below_drewN | apply below_drew1 | refine below_set ?_ GE120.out) | exact HB.out)) hb); clear HO_3; clear HO_4; clear HO117; clear BK120; clear HB; have HO_3 := n0_; have HO_4 := n1_; have HO117 := n2_; have HO123 := n3_; have BK120 := n4_; have HB := n5_; clear n0_ n1_ n2_ n3_ n4_ n5_; (try clear hb); (try clear hb2); (try clear hk); (try clear hi); (try clear ho0); obtain ⟨Ao29, co29, eo29⟩ := Kd.N_slice HO123.out; subst eo29) | (go_at_call 7; (with_reducible refine (resolve_All.calls _ _ t121 t124 t127 t128 _ ?side1 ?side2 A22.out).mono ?_); (case side1 => repeat (first | exact (Kd.N_reads' HO123.out).2.2 | (with_reducible refine Kd.C_alloc ?_ _) | (with_reducible refine Kd.C_drewN ?_ _) | (with_reducible refine Kd.C_drew ?_))); (case side2 => exact (Kd.N_reads' HO123.out).2.1); rintro e w30 ⟨v125, rfl, ho0, hb⟩; have n0_ := Aside0.mk (Kd.R_below (by (with_reducible repeat (first | apply Kd.R_alloc | apply Kd.R_drewN | apply Kd.R_drew)); exact HO_3.out) hb); have n1_ := Aside0.mk (Kd.R_below (by (with_reducible repeat (first | apply Kd.R_alloc | apply Kd.R_drewN | apply Kd.R_drew)); exact HO_4.out) hb); have n2_ := Aside0.mk (Kd.R_elder' (by (with_reducible repeat (first | apply Kd.R_alloc | apply Kd.R_drewN | apply Kd.R_drew)); exact HO117.out) (Kd.R_base ho0) hb); have n3_ := Aside0.mk (Kd.N_elder' (by (with_reducible repeat (first | apply Kd.N_alloc | apply Kd.N_drewN | apply Kd.N_drew)); exact HO123.out) (Kd.R_base ho0) hb); have n4_ := Aside0.mk (Kd.R_lower (Kd.R_new' ho0 (Kd.R_lt (by (with_reducible repeat (first | apply Kd.R_alloc | apply Kd.R_drewN | apply Kd.R_drew)); exact HO117.out))) (below_size (by repeat (first | (with_reducible first | exact HB.out | apply below_alloc | apply pw_below_drewN | apply below_drew1 | refine below_set ?_ GE120.out) | exact HB.out)))); have n5_ := Aside0.mk (blk_below (g := gb120) (o := .cells #[.int .i64 t118, .string t119] 26 (0, 0)) (by (with_reducible repeat (first | refine blk_drewN ?_ _ | refine blk_drew ?_ | refine blk_alloc ?_ _)); exact BK120.out) hb); have n6_ := Aside0.mk (below_step (by repeat (first | (with_reducible first | exact HB.out | apply below_alloc | apply pw_below_drewN | apply below_drew1 | refine below_set ?_ GE120.out) | exact HB.out)) hb); clear HO_3; clear HO_4; clear HO117; clear HO123; clear BK120; clear HB; have HO_3 := n0_; have HO_4 := n1_; have HO117 := n2_; have HO123 := n3_; have HO126 := n4_; have BK120 := n5_; have HB := n6_; clear n0_ n1_ n2_ n3_ n4_ n5_ n6_; (try clear hb); (try clear hb2); (try clear hk); (try clear hi); (try clear ho0)) | ((with_reducible refine gate_dst (N := 9) rfl ?_); (try (refine gate_guard (by rfl) ?_; dsimp only)); refine box_event ?hg (N := 9) ?hd (cs := #[.int .i64 0, .string (⟨#[]⟩ : ByteArray)]) (t := 26) ?hr ?_; (case hd => rfl); (case hg => rfl); (case hr => first | (go_simp; done) | (go_simp; rfl)); intro gb129 hg w31 hbox hb; have n0_ := Aside0.mk (Kd.R_below (Kd.R_elderB (by (with_reducible repeat (first | apply Kd.R_alloc | apply Kd.R_drewN | apply Kd.R_drew)); exact HO_3.out) gb129 (Nat.le_of_eq hg.symm)) hb); have n1_ := Aside0.mk (Kd.R_below (Kd.R_elderB (by (with_reducible repeat (first | apply Kd.R_alloc | apply Kd.R_drewN | apply Kd.R_drew)); exact HO_4.out) gb129 (Nat.le_of_eq hg.symm)) hb); have n2_ := Aside0.mk (Kd.R_below (by (with_reducible repeat (first | apply Kd.R_alloc | apply Kd.R_drewN | apply Kd.R_drew)); exact HO117.out) hb); have n3_ := Aside0.mk (Kd.N_below (Kd.N_elderB (by (with_reducible repeat (first | apply Kd.N_alloc | apply Kd.N_drewN | apply Kd.N_drew)); exact HO123.out) gb129 (Nat.le_of_eq hg.symm)) hb); have n4_ := Aside0.mk (Kd.R_below (by (with_reducible repeat (first | apply Kd.R_alloc | apply Kd.R_drewN | apply Kd.R_drew)); exact HO126.out) hb); have n5_ := Aside0.mk (blk_below (g := gb120) (o := .cells #[.int .i64 t118, .string t119] 26 (0, 0)) (by (with_reducible repeat (first | refine blk_drewN ?_ _ | refine blk_drew ?_ | refine blk_alloc ?_ _)); exact BK120.out) hb); have n6_ := Aside0.mk (below_step (by repeat (first | (with_reducible first | exact HB.out | apply below_alloc | apply pw_below_drewN | apply below_drew1 | refine below_set ?_ GE120.out) | exact HB.out)) hb); have n7_ := Aside0.mk (hbox); have n8_ := Aside0.mk ((by rw [hg]; exact (below_size (by repeat (first | (with_reducible first | exact HB.out | apply below_alloc | apply pw_below_drewN | apply below_drew1 | refine below_set ?_ GE120.out) | exact HB.out))) : w.heap.size ≤ gb129)); have n9_ := Aside0.mk ((by rw [hg]; exact (below_size (by repeat (first | (with_reducible first | exact HB.out | apply below_alloc | apply pw_below_drewN | apply below_drew1 | refine below_set ?_ GE120.out) | exact HB.out))) : w.heap.size ≤ gb129)); have n10_ := Aside0.mk ((by rw [hg]; exact Nat.ne_of_lt (blk_lt (g := gb120) (o := .cells #[.int .i64 t118, .string t119] 26 (0, 0)) (by (with_reducible repeat (first | refine blk_drewN ?_ _ | refine blk_drew ?_ | refine blk_alloc ?_ _)); exact BK120.out)) : gb120 ≠ gb129)); have n11_ := Aside0.mk ((by rw [hg]; exact Nat.ne_of_gt (blk_lt (g := gb120) (o := .cells #[.int .i64 t118, .string t119] 26 (0, 0)) (by (with_reducible repeat (first | refine blk_drewN ?_ _ | refine blk_drew ?_ | refine blk_alloc ?_ _)); exact BK120.out)) : gb129 ≠ gb120)); clear HO_3; clear HO_4; clear HO117; clear HO123; clear HO126; clear BK120; clear HB; have HO_3 := n0_; have HO_4 := n1_; have HO117 := n2_; have HO123 := n3_; have HO126 := n4_; have BK120 := n5_; have HB := n6_; have BK129 := n7_; have GW129 := n8_; have GE129 := n9_; have NB120_129 := n10_; have NB129_120 := n11_; clear n0_ n1_ n2_ n3_ n4_ n5_ n6_ n7_ n8_ n9_ n10_ n11_; clear hb hbox hg; have hnb32 := NB129_120.out; have hnc32 := NB120_129.out; have hcz33_0 : w31.cell? ⟨gb129, 0, none⟩ = some (.int .i64 0) := (blk_cell BK129.out 0).trans rfl; have hcz33_1 : w31.cell? ⟨gb129, 1, none⟩ = some (.string (⟨#[]⟩ : ByteArray)) := (blk_cell BK129.out 1).trans rfl; have hfz33_0 := blk_frozen BK129.out 0; have hfz33_1 := blk_frozen BK129.out 1))
      repeat (go_quiet (first | (go_at_call 7; (with_reducible refine (resolve_All.calls _ _ l0 t115 t118 t119 _ ?side1 ?side2 A20.out).mono ?_); (case side1 => repeat (first | exact (Kd.C_below HR0.out HB.out) | (with_reducible refine Kd.C_alloc ?_ _) | (with_reducible refine Kd.C_drewN ?_ _) | (with_reducible refine Kd.C_drew ?_))); (case side2 => exact HC0.out); rintro e w24 ⟨v116, rfl, ho0, hb⟩; have n0_ := Aside0.mk (Kd.R_below (by (with_reducible repeat (first | apply Kd.R_alloc | apply Kd.R_drewN | apply Kd.R_drew)); exact HO_3.out) hb); have n1_ := Aside0.mk (Kd.R_below (by (with_reducible repeat (first | apply Kd.R_alloc | apply Kd.R_drewN | apply Kd.R_drew)); exact HO_4.out) hb); have n2_ := Aside0.mk (Kd.R_lower ho0 (below_size (by repeat (first | (with_reducible first | exact HB.out | apply below_alloc | apply pw_below_drewN | apply below_drew1) | exact HB.out)))); have n3_ := Aside0.mk (below_step (by repeat (first | (with_reducible first | exact HB.out | apply below_alloc | apply pw_below_drewN | apply below_drew1) | exact HB.out)) hb); clear HO_3; clear HO_4; clear HB; have HO_3 := n0_; have HO_4 := n1_; have HO117 := n2_; have HB := n3_; clear n0_ n1_ n2_ n3_; (try clear hb); (try clear hb2); (try clear hk); (try clear hi); (try clear ho0)) | ((with_reducible refine gate_dst (N := 7) rfl ?_); (try (refine gate_guard (by rfl) ?_; dsimp only)); refine box_event ?hg (N := 7) ?hd (cs := #[.int .i64 0, .string (⟨#[]⟩ : ByteArray)]) (t := 26) ?hr ?_; (case hd => rfl); (case hg => rfl); (case hr => first | (go_simp; done) | (go_simp; rfl)); intro gb120 hg w25 hbox hb; have n0_ := Aside0.mk (Kd.R_below (Kd.R_elderB (by (with_reducible repeat (first | apply Kd.R_alloc | apply Kd.R_drewN | apply Kd.R_drew)); exact HO_3.out) gb120 (Nat.le_of_eq hg.symm)) hb); have n1_ := Aside0.mk (Kd.R_below (Kd.R_elderB (by (with_reducible repeat (first | apply Kd.R_alloc | apply Kd.R_drewN | apply Kd.R_drew)); exact HO_4.out) gb120 (Nat.le_of_eq hg.symm)) hb); have n2_ := Aside0.mk (Kd.R_below (by (with_reducible repeat (first | apply Kd.R_alloc | apply Kd.R_drewN | apply Kd.R_drew)); exact HO117.out) hb); have n3_ := Aside0.mk (below_step (by repeat (first | (with_reducible first | exact HB.out | apply below_alloc | apply pw_below_drewN | apply below_drew1) | exact HB.out)) hb); have n4_ := Aside0.mk (hbox); have n5_ := Aside0.mk ((by rw [hg]; exact (below_size (by repeat (first | (with_reducible first | exact HB.out | apply below_alloc | apply pw_below_drewN | apply below_drew1) | exact HB.out))) : w.heap.size ≤ gb120)); have n6_ := Aside0.mk ((by rw [hg]; exact (below_size (by repeat (first | (with_reducible first | exact HB.out | apply below_alloc | apply pw_below_drewN | apply below_drew1) | exact HB.out))) : w.heap.size ≤ gb120)); clear HO_3; clear HO_4; clear HO117; clear HB; have HO_3 := n0_; have HO_4 := n1_; have HO117 := n2_; have HB := n3_; have BK120 := n4_; have GW120 := n5_; have GE120 := n6_; clear n0_ n1_ n2_ n3_ n4_ n5_ n6_; clear hb hbox hg; have hcz26_0 : w25.cell? ⟨gb120, 0, none⟩ = some (.int .i64 0) := (blk_cell BK120.out 0).trans rfl; have hcz26_1 : w25.cell? ⟨gb120, 1, none⟩ = some (.string (⟨#[]⟩ : ByteArray)) := (blk_cell BK120.out 1).trans rfl; have hfz26_0 := blk_frozen BK120.out 0; have hfz26_1 := blk_frozen BK120.out 1) | ((with_reducible refine gate_store (t := 26) (p := 7) rfl ?_); (try (rw [drewN_self w25]; generalize hq_ : World.drewN w25 _ = w25; have n0_ := Aside0.mk (Kd.R_at hq_ HO_3.out); have n1_ := Aside0.mk (Kd.R_at hq_ HO_4.out); have n2_ := Aside0.mk (Kd.R_at hq_ HO117.out); have n3_ := Aside0.mk (blk_at hq_ BK120.out); have n4_ := Aside0.mk (below_at hq_ HB.out); clear hq_ HO_3 HO_4 HO117 BK120 HB; have HO_3 := n0_; have HO_4 := n1_; have HO117 := n2_; have BK120 := n3_; have HB := n4_; clear n0_ n1_ n2_ n3_ n4_)); refine store_event (t := 26) (p := 7) (v := ?vo_w27) (w1 := ((w25.setCell ⟨gb120, 0, none⟩ (.int .i64 t118)).setCell ⟨gb120, 1, none⟩ (.string t119))) ?hg ?ho ?hn ?hr ?_; (case ho => rfl); (case hg => rfl); (case hn => rfl); (case hr => first | (go_simp; done) | (go_simp; rfl)); intro w27 hw; have n0_ : Aside0 (Kd.R k26 26 w27 w.heap.size (fun k_ => some k_ ≠ (.slice Ao15 t107.length co15 : Value).ownBlock ∧ k_ ≠ gb120) (.slice Ao14 t101.length co14) t101) := ⟨(by rw [hw]; exact (by (with_reducible repeat (first | apply Kd.R_alloc | apply Kd.R_drewN | apply Kd.R_drew)); exact Kd.R_mono (Kd.R_far (p := ⟨gb120, 1, none⟩) (Kd.R_far (p := ⟨gb120, 0, none⟩) (Kd.R_mono HO_3.out (fun k_ hk => (⟨hk, hk.2⟩ : _ ∧ k_ ≠ gb120))) (fun _ hk => hk.2) (.int .i64 t118)) (fun _ hk => hk.2) (.string t119)) (fun _ hk => ⟨hk.1.1, hk.1.2⟩)))⟩; have n1_ : Aside0 (Kd.R k26 26 w27 w.heap.size (fun k_ => some k_ ≠ (.slice Ao14 t101.length co14 : Value).ownBlock ∧ k_ ≠ gb120) (.slice Ao15 t107.length co15) t107) := ⟨(by rw [hw]; exact (by (with_reducible repeat (first | apply Kd.R_alloc | apply Kd.R_drewN | apply Kd.R_drew)); exact Kd.R_mono (Kd.R_far (p := ⟨gb120, 1, none⟩) (Kd.R_far (p := ⟨gb120, 0, none⟩) (Kd.R_mono HO_4.out (fun k_ hk => (⟨hk, hk.2⟩ : _ ∧ k_ ≠ gb120))) (fun _ hk => hk.2) (.int .i64 t118)) (fun _ hk => hk.2) (.string t119)) (fun _ hk => ⟨hk.1.1, hk.1.2⟩)))⟩; have n2_ : Aside0 (Kd.R k42 42 w27 w.heap.size (fun _ => True) v116 t115) := ⟨(by rw [hw]; exact (by (with_reducible repeat (first | apply Kd.R_alloc | apply Kd.R_drewN | apply Kd.R_drew)); exact Kd.R_mono (Kd.R_far (p := ⟨gb120, 1, none⟩) (Kd.R_far (p := ⟨gb120, 0, none⟩) (Kd.R_types HO117.out BK120.out (by decide)) (fun _ hk => hk.2) (.int .i64 t118)) (fun _ hk => hk.2) (.string t119)) (fun _ hk => trivial)))⟩; have n3_ : Aside0 (w27.heap[gb120]? = some (.cells #[.int .i64 t118, .string t119] 26 (0, 0))) := ⟨(by rw [hw]; exact (by (with_reducible repeat (first | refine blk_drewN ?_ _ | refine blk_drew ?_ | refine blk_alloc ?_ _)); refine blk_put (cs := #[.int .i64 t118, .string (⟨#[]⟩ : ByteArray)]) ?_ 1 _ rfl; (with_reducible repeat (first | refine blk_drewN ?_ _ | refine blk_drew ?_ | refine blk_alloc ?_ _)); refine blk_put (cs := #[.int .i64 0, .string (⟨#[]⟩ : ByteArray)]) ?_ 0 _ rfl; (with_reducible repeat (first | refine blk_drewN ?_ _ | refine blk_drew ?_ | refine blk_alloc ?_ _)); exact BK120.out))⟩; have n4_ : Aside0 (Below w.heap.size w w27) := ⟨(by rw [hw]; exact (by repeat (first | (with_reducible first | exact HB.out | apply below_alloc | apply pw_below_drewN | apply below_drew1 | refine below_set ?_ GE120.out) | exact HB.out)))⟩; clear hw; clear HO_3; clear HO_4; clear HO117; clear BK120; clear HB; have HO_3 := n0_; have HO_4 := n1_; have HO117 := n2_; have BK120 := n3_; have HB := n4_; clear n0_ n1_ n2_ n3_ n4_) | (go_at_call 16; (with_reducible refine (gangwaylaw18_turned.calls k1 (fun k_ => k_ < w.heap.size) _ _ l0 t121 _ ?side1 A21.out).mono ?_); (case side1 => exact Kd.V_mk HC0.out (Kd.F_below (Kd.C_F k36_heap HR0.out) (by repeat (first | (with_reducible first | exact HB.out | apply below_alloc | apply pw_below_drewN | apply below_drew1 | refine below_set ?_ GE120.out) | exact HB.out)))); rintro e w28 ⟨v122, rfl, ho0, hb⟩; have n0_ := Aside0.mk (Kd.R_below (by (with_reducible repeat (first | apply Kd.R_alloc | apply Kd.R_drewN | apply Kd.R_drew)); exact HO_3.out) hb); have n1_ := Aside0.mk (Kd.R_below (by (with_reducible repeat (first | apply Kd.R_alloc | apply Kd.R_drewN | apply Kd.R_drew)); exact HO_4.out) hb); have n2_ := Aside0.mk (Kd.R_below (by (with_reducible repeat (first | apply Kd.R_alloc | apply Kd.R_drewN | apply Kd.R_drew)); exact HO117.out) hb); have n3_ := Aside0.mk (Kd.N_lower (Kd.N_mono (ok' := fun k_ => some k_ ≠ (.slice Ao14 t101.length co14 : Value).ownBlock ∧ some k_ ≠ (.slice Ao15 t107.length co15 : Value).ownBlock ∧ some k_ ≠ (v116 : Value).ownBlock ∧ k_ ≠ gb120) ho0 (fun k_ hk_ => ⟨Or.elim hk_ (fun hs_ => fun e_ => Nat.not_le.2 hs_ (Kd.R_base HO_3.out k_ e_.symm)) (fun hn_ => (Kd.fresh' (Kd.R_lt (by (with_reducible repeat (first | apply Kd.R_alloc | apply Kd.R_drewN | apply Kd.R_drew)); exact HO_3.out)) k_ hn_)), Or.elim hk_ (fun hs_ => fun e_ => Nat.not_le.2 hs_ (Kd.R_base HO_4.out k_ e_.symm)) (fun hn_ => (Kd.fresh' (Kd.R_lt (by (with_reducible repeat (first | apply Kd.R_alloc | apply Kd.R_drewN | apply Kd.R_drew)); exact HO_4.out)) k_ hn_)), Or.elim hk_ (fun hs_ => fun e_ => Nat.not_le.2 hs_ (Kd.R_base HO117.out k_ e_.symm)) (fun hn_ => (Kd.fresh' (Kd.R_lt (by (with_reducible repeat (first | apply Kd.R_alloc | apply Kd.R_drewN | apply Kd.R_drew)); exact HO117.out)) k_ hn_)), Or.elim hk_ (fun hs_ => fun e_ => Nat.not_le.2 hs_ (by rw [e_]; exact GW120.out)) (fun hn_ => (Kd.freshB (g := gb120) (o := .cells #[.int .i64 t118, .string t119] 26 (0, 0)) (by (with_reducible repeat (first | refine blk_drewN ?_ _ | refine blk_drew ?_ | refine blk_alloc ?_ _)); exact BK120.out) k_ hn_))⟩)) (below_size (by repeat (first | (with_reducible first | exact HB.out | apply below_alloc | apply pw_below_drewN | apply below_drew1 | refine below_set ?_ GE120.out) | exact HB.out)))); have n4_ := Aside0.mk (blk_below (g := gb120) (o := .cells #[.int .i64 t118, .string t119] 26 (0, 0)) (by (with_reducible repeat (first | refine blk_drewN ?_ _ | refine blk_drew ?_ | refine blk_alloc ?_ _)); exact BK120.out) hb); have n5_ := Aside0.mk (below_step (by repeat (first | (with_reducible first | exact HB.out | apply below_alloc | apply pw_below_drewN | apply below_drew1 | refine below_set ?_ GE120.out) | exact HB.out)) hb); clear HO_3; clear HO_4; clear HO117; clear BK120; clear HB; have HO_3 := n0_; have HO_4 := n1_; have HO117 := n2_; have HO123 := n3_; have BK120 := n4_; have HB := n5_; clear n0_ n1_ n2_ n3_ n4_ n5_; (try clear hb); (try clear hb2); (try clear hk); (try clear hi); (try clear ho0); obtain ⟨Ao29, co29, eo29⟩ := Kd.N_slice HO123.out; subst eo29) | (go_at_call 7; (with_reducible refine (resolve_All.calls _ _ t121 t124 t127 t128 _ ?side1 ?side2 A22.out).mono ?_); (case side1 => repeat (first | exact (Kd.N_reads' HO123.out).2.2 | (with_reducible refine Kd.C_alloc ?_ _) | (with_reducible refine Kd.C_drewN ?_ _) | (with_reducible refine Kd.C_drew ?_))); (case side2 => exact (Kd.N_reads' HO123.out).2.1); rintro e w30 ⟨v125, rfl, ho0, hb⟩; have n0_ := Aside0.mk (Kd.R_below (by (with_reducible repeat (first | apply Kd.R_alloc | apply Kd.R_drewN | apply Kd.R_drew)); exact HO_3.out) hb); have n1_ := Aside0.mk (Kd.R_below (by (with_reducible repeat (first | apply Kd.R_alloc | apply Kd.R_drewN | apply Kd.R_drew)); exact HO_4.out) hb); have n2_ := Aside0.mk (Kd.R_elder' (by (with_reducible repeat (first | apply Kd.R_alloc | apply Kd.R_drewN | apply Kd.R_drew)); exact HO117.out) (Kd.R_base ho0) hb); have n3_ := Aside0.mk (Kd.N_elder' (by (with_reducible repeat (first | apply Kd.N_alloc | apply Kd.N_drewN | apply Kd.N_drew)); exact HO123.out) (Kd.R_base ho0) hb); have n4_ := Aside0.mk (Kd.R_lower (Kd.R_new' ho0 (Kd.R_lt (by (with_reducible repeat (first | apply Kd.R_alloc | apply Kd.R_drewN | apply Kd.R_drew)); exact HO117.out))) (below_size (by repeat (first | (with_reducible first | exact HB.out | apply below_alloc | apply pw_below_drewN | apply below_drew1 | refine below_set ?_ GE120.out) | exact HB.out)))); have n5_ := Aside0.mk (blk_below (g := gb120) (o := .cells #[.int .i64 t118, .string t119] 26 (0, 0)) (by (with_reducible repeat (first | refine blk_drewN ?_ _ | refine blk_drew ?_ | refine blk_alloc ?_ _)); exact BK120.out) hb); have n6_ := Aside0.mk (below_step (by repeat (first | (with_reducible first | exact HB.out | apply below_alloc | apply pw_below_drewN | apply below_drew1 | refine below_set ?_ GE120.out) | exact HB.out)) hb); clear HO_3; clear HO_4; clear HO117; clear HO123; clear BK120; clear HB; have HO_3 := n0_; have HO_4 := n1_; have HO117 := n2_; have HO123 := n3_; have HO126 := n4_; have BK120 := n5_; have HB := n6_; clear n0_ n1_ n2_ n3_ n4_ n5_ n6_; (try clear hb); (try clear hb2); (try clear hk); (try clear hi); (try clear ho0)) | ((with_reducible refine gate_dst (N := 9) rfl ?_); (try (refine gate_guard (by rfl) ?_; dsimp only)); refine box_event ?hg (N := 9) ?hd (cs := #[.int .i64 0, .string (⟨#[]⟩ : ByteArray)]) (t := 26) ?hr ?_; (case hd => rfl); (case hg => rfl); (case hr => first | (go_simp; done) | (go_simp; rfl)); intro gb129 hg w31 hbox hb; have n0_ := Aside0.mk (Kd.R_below (Kd.R_elderB (by (with_reducible repeat (first | apply Kd.R_alloc | apply Kd.R_drewN | apply Kd.R_drew)); exact HO_3.out) gb129 (Nat.le_of_eq hg.symm)) hb); have n1_ := Aside0.mk (Kd.R_below (Kd.R_elderB (by (with_reducible repeat (first | apply Kd.R_alloc | apply Kd.R_drewN | apply Kd.R_drew)); exact HO_4.out) gb129 (Nat.le_of_eq hg.symm)) hb); have n2_ := Aside0.mk (Kd.R_below (by (with_reducible repeat (first | apply Kd.R_alloc | apply Kd.R_drewN | apply Kd.R_drew)); exact HO117.out) hb); have n3_ := Aside0.mk (Kd.N_below (Kd.N_elderB (by (with_reducible repeat (first | apply Kd.N_alloc | apply Kd.N_drewN | apply Kd.N_drew)); exact HO123.out) gb129 (Nat.le_of_eq hg.symm)) hb); have n4_ := Aside0.mk (Kd.R_below (by (with_reducible repeat (first | apply Kd.R_alloc | apply Kd.R_drewN | apply Kd.R_drew)); exact HO126.out) hb); have n5_ := Aside0.mk (blk_below (g := gb120) (o := .cells #[.int .i64 t118, .string t119] 26 (0, 0)) (by (with_reducible repeat (first | refine blk_drewN ?_ _ | refine blk_drew ?_ | refine blk_alloc ?_ _)); exact BK120.out) hb); have n6_ := Aside0.mk (below_step (by repeat (first | (with_reducible first | exact HB.out | apply below_alloc | apply pw_below_drewN | apply below_drew1 | refine below_set ?_ GE120.out) | exact HB.out)) hb); have n7_ := Aside0.mk (hbox); have n8_ := Aside0.mk ((by rw [hg]; exact (below_size (by repeat (first | (with_reducible first | exact HB.out | apply below_alloc | apply pw_below_drewN | apply below_drew1 | refine below_set ?_ GE120.out) | exact HB.out))) : w.heap.size ≤ gb129)); have n9_ := Aside0.mk ((by rw [hg]; exact (below_size (by repeat (first | (with_reducible first | exact HB.out | apply below_alloc | apply pw_below_drewN | apply below_drew1 | refine below_set ?_ GE120.out) | exact HB.out))) : w.heap.size ≤ gb129)); have n10_ := Aside0.mk ((by rw [hg]; exact Nat.ne_of_lt (blk_lt (g := gb120) (o := .cells #[.int .i64 t118, .string t119] 26 (0, 0)) (by (with_reducible repeat (first | refine blk_drewN ?_ _ | refine blk_drew ?_ | refine blk_alloc ?_ _)); exact BK120.out)) : gb120 ≠ gb129)); have n11_ := Aside0.mk ((by rw [hg]; exact Nat.ne_of_gt (blk_lt (g := gb120) (o := .cells #[.int .i64 t118, .string t119] 26 (0, 0)) (by (with_reducible repeat (first | refine blk_drewN ?_ _ | refine blk_drew ?_ | refine blk_alloc ?_ _)); exact BK120.out)) : gb129 ≠ gb120)); clear HO_3; clear HO_4; clear HO117; clear HO123; clear HO126; clear BK120; clear HB; have HO_3 := n0_; have HO_4 := n1_; have HO117 := n2_; have HO123 := n3_; have HO126 := n4_; have BK120 := n5_; have HB := n6_; have BK129 := n7_; have GW129 := n8_; have GE129 := n9_; have NB120_129 := n10_; have NB129_120 := n11_; clear n0_ n1_ n2_ n3_ n4_ n5_ n6_ n7_ n8_ n9_ n10_ n11_; clear hb hbox hg; have hnb32 := NB129_120.out; have hnc32 := NB120_129.out; have hcz33_0 : w31.cell? ⟨gb129, 0, none⟩ = some (.int .i64 0) := (blk_cell BK129.out 0).trans rfl; have hcz33_1 : w31.cell? ⟨gb129, 1, none⟩ = some (.string (⟨#[]⟩ : ByteArray)) := (blk_cell BK129.out 1).trans rfl; have hfz33_0 := blk_frozen BK129.out 0; have hfz33_1 := blk_frozen BK129.out 1)); go_upto_region 14 with (first | (go_at_call 7; (with_reducible refine (resolve_All.calls _ _ l0 t115 t118 t119 _ ?side1 ?side2 A20.out).mono ?_); (case side1 => repeat (first | exact (Kd.C_below HR0.out HB.out) | (with_reducible refine Kd.C_alloc ?_ _) | (with_reducible refine Kd.C_drewN ?_ _) | (with_reducible refine Kd.C_drew ?_))); (case side2 => exact HC0.out); rintro e w24 ⟨v116, rfl, ho0, hb⟩; have n0_ := Aside0.mk (Kd.R_below (by (with_reducible repeat (first | apply Kd.R_alloc | apply Kd.R_drewN | apply Kd.R_drew)); exact HO_3.out) hb); have n1_ := Aside0.mk (Kd.R_below (by (with_reducible repeat (first | apply Kd.R_alloc | apply Kd.R_drewN | apply Kd.R_drew)); exact HO_4.out) hb); have n2_ := Aside0.mk (Kd.R_lower ho0 (below_size (by repeat (first | (with_reducible first | exact HB.out | apply below_alloc | apply pw_below_drewN | apply below_drew1) | exact HB.out)))); have n3_ := Aside0.mk (below_step (by repeat (first | (with_reducible first | exact HB.out | apply below_alloc | apply pw_below_drewN | apply below_drew1) | exact HB.out)) hb); clear HO_3; clear HO_4; clear HB; have HO_3 := n0_; have HO_4 := n1_; have HO117 := n2_; have HB := n3_; clear n0_ n1_ n2_ n3_; (try clear hb); (try clear hb2); (try clear hk); (try clear hi); (try clear ho0)) | ((with_reducible refine gate_dst (N := 7) rfl ?_); (try (refine gate_guard (by rfl) ?_; dsimp only)); refine box_event ?hg (N := 7) ?hd (cs := #[.int .i64 0, .string (⟨#[]⟩ : ByteArray)]) (t := 26) ?hr ?_; (case hd => rfl); (case hg => rfl); (case hr => first | (go_simp; done) | (go_simp; rfl)); intro gb120 hg w25 hbox hb; have n0_ := Aside0.mk (Kd.R_below (Kd.R_elderB (by (with_reducible repeat (first | apply Kd.R_alloc | apply Kd.R_drewN | apply Kd.R_drew)); exact HO_3.out) gb120 (Nat.le_of_eq hg.symm)) hb); have n1_ := Aside0.mk (Kd.R_below (Kd.R_elderB (by (with_reducible repeat (first | apply Kd.R_alloc | apply Kd.R_drewN | apply Kd.R_drew)); exact HO_4.out) gb120 (Nat.le_of_eq hg.symm)) hb); have n2_ := Aside0.mk (Kd.R_below (by (with_reducible repeat (first | apply Kd.R_alloc | apply Kd.R_drewN | apply Kd.R_drew)); exact HO117.out) hb); have n3_ := Aside0.mk (below_step (by repeat (first | (with_reducible first | exact HB.out | apply below_alloc | apply pw_below_drewN | apply below_drew1) | exact HB.out)) hb); have n4_ := Aside0.mk (hbox); have n5_ := Aside0.mk ((by rw [hg]; exact (below_size (by repeat (first | (with_reducible first | exact HB.out | apply below_alloc | apply pw_below_drewN | apply below_drew1) | exact HB.out))) : w.heap.size ≤ gb120)); have n6_ := Aside0.mk ((by rw [hg]; exact (below_size (by repeat (first | (with_reducible first | exact HB.out | apply below_alloc | apply pw_below_drewN | apply below_drew1) | exact HB.out))) : w.heap.size ≤ gb120)); clear HO_3; clear HO_4; clear HO117; clear HB; have HO_3 := n0_; have HO_4 := n1_; have HO117 := n2_; have HB := n3_; have BK120 := n4_; have GW120 := n5_; have GE120 := n6_; clear n0_ n1_ n2_ n3_ n4_ n5_ n6_; clear hb hbox hg; have hcz26_0 : w25.cell? ⟨gb120, 0, none⟩ = some (.int .i64 0) := (blk_cell BK120.out 0).trans rfl; have hcz26_1 : w25.cell? ⟨gb120, 1, none⟩ = some (.string (⟨#[]⟩ : ByteArray)) := (blk_cell BK120.out 1).trans rfl; have hfz26_0 := blk_frozen BK120.out 0; have hfz26_1 := blk_frozen BK120.out 1) | ((with_reducible refine gate_store (t := 26) (p := 7) rfl ?_); (try (rw [drewN_self w25]; generalize hq_ : World.drewN w25 _ = w25; have n0_ := Aside0.mk (Kd.R_at hq_ HO_3.out); have n1_ := Aside0.mk (Kd.R_at hq_ HO_4.out); have n2_ := Aside0.mk (Kd.R_at hq_ HO117.out); have n3_ := Aside0.mk (blk_at hq_ BK120.out); have n4_ := Aside0.mk (below_at hq_ HB.out); clear hq_ HO_3 HO_4 HO117 BK120 HB; have HO_3 := n0_; have HO_4 := n1_; have HO117 := n2_; have BK120 := n3_; have HB := n4_; clear n0_ n1_ n2_ n3_ n4_)); refine store_event (t := 26) (p := 7) (v := ?vo_w27) (w1 := ((w25.setCell ⟨gb120, 0, none⟩ (.int .i64 t118)).setCell ⟨gb120, 1, none⟩ (.string t119))) ?hg ?ho ?hn ?hr ?_; (case ho => rfl); (case hg => rfl); (case hn => rfl); (case hr => first | (go_simp; done) | (go_simp; rfl)); intro w27 hw; have n0_ : Aside0 (Kd.R k26 26 w27 w.heap.size (fun k_ => some k_ ≠ (.slice Ao15 t107.length co15 : Value).ownBlock ∧ k_ ≠ gb120) (.slice Ao14 t101.length co14) t101) := ⟨(by rw [hw]; exact (by (with_reducible repeat (first | apply Kd.R_alloc | apply Kd.R_drewN | apply Kd.R_drew)); exact Kd.R_mono (Kd.R_far (p := ⟨gb120, 1, none⟩) (Kd.R_far (p := ⟨gb120, 0, none⟩) (Kd.R_mono HO_3.out (fun k_ hk => (⟨hk, hk.2⟩ : _ ∧ k_ ≠ gb120))) (fun _ hk => hk.2) (.int .i64 t118)) (fun _ hk => hk.2) (.string t119)) (fun _ hk => ⟨hk.1.1, hk.1.2⟩)))⟩; have n1_ : Aside0 (Kd.R k26 26 w27 w.heap.size (fun k_ => some k_ ≠ (.slice Ao14 t101.length co14 : Value).ownBlock ∧ k_ ≠ gb120) (.slice Ao15 t107.length co15) t107) := ⟨(by rw [hw]; exact (by (with_reducible repeat (first | apply Kd.R_alloc | apply Kd.R_drewN | apply Kd.R_drew)); exact Kd.R_mono (Kd.R_far (p := ⟨gb120, 1, none⟩) (Kd.R_far (p := ⟨gb120, 0, none⟩) (Kd.R_mono HO_4.out (fun k_ hk => (⟨hk, hk.2⟩ : _ ∧ k_ ≠ gb120))) (fun _ hk => hk.2) (.int .i64 t118)) (fun _ hk => hk.2) (.string t119)) (fun _ hk => ⟨hk.1.1, hk.1.2⟩)))⟩; have n2_ : Aside0 (Kd.R k42 42 w27 w.heap.size (fun _ => True) v116 t115) := ⟨(by rw [hw]; exact (by (with_reducible repeat (first | apply Kd.R_alloc | apply Kd.R_drewN | apply Kd.R_drew)); exact Kd.R_mono (Kd.R_far (p := ⟨gb120, 1, none⟩) (Kd.R_far (p := ⟨gb120, 0, none⟩) (Kd.R_types HO117.out BK120.out (by decide)) (fun _ hk => hk.2) (.int .i64 t118)) (fun _ hk => hk.2) (.string t119)) (fun _ hk => trivial)))⟩; have n3_ : Aside0 (w27.heap[gb120]? = some (.cells #[.int .i64 t118, .string t119] 26 (0, 0))) := ⟨(by rw [hw]; exact (by (with_reducible repeat (first | refine blk_drewN ?_ _ | refine blk_drew ?_ | refine blk_alloc ?_ _)); refine blk_put (cs := #[.int .i64 t118, .string (⟨#[]⟩ : ByteArray)]) ?_ 1 _ rfl; (with_reducible repeat (first | refine blk_drewN ?_ _ | refine blk_drew ?_ | refine blk_alloc ?_ _)); refine blk_put (cs := #[.int .i64 0, .string (⟨#[]⟩ : ByteArray)]) ?_ 0 _ rfl; (with_reducible repeat (first | refine blk_drewN ?_ _ | refine blk_drew ?_ | refine blk_alloc ?_ _)); exact BK120.out))⟩; have n4_ : Aside0 (Below w.heap.size w w27) := ⟨(by rw [hw]; exact (by repeat (first | (with_reducible first | exact HB.out | apply below_alloc | apply pw_below_drewN | apply below_drew1 | refine below_set ?_ GE120.out) | exact HB.out)))⟩; clear hw; clear HO_3; clear HO_4; clear HO117; clear BK120; clear HB; have HO_3 := n0_; have HO_4 := n1_; have HO117 := n2_; have BK120 := n3_; have HB := n4_; clear n0_ n1_ n2_ n3_ n4_) | (go_at_call 16; (with_reducible refine (gangwaylaw18_turned.calls k1 (fun k_ => k_ < w.heap.size) _ _ l0 t121 _ ?side1 A21.out).mono ?_); (case side1 => exact Kd.V_mk HC0.out (Kd.F_below (Kd.C_F k36_heap HR0.out) (by repeat (first | (with_reducible first | exact HB.out | apply below_alloc | apply pw_below_drewN | apply below_drew1 | refine below_set ?_ GE120.out) | exact HB.out)))); rintro e w28 ⟨v122, rfl, ho0, hb⟩; have n0_ := Aside0.mk (Kd.R_below (by (with_reducible repeat (first | apply Kd.R_alloc | apply Kd.R_drewN | apply Kd.R_drew)); exact HO_3.out) hb); have n1_ := Aside0.mk (Kd.R_below (by (with_reducible repeat (first | apply Kd.R_alloc | apply Kd.R_drewN | apply Kd.R_drew)); exact HO_4.out) hb); have n2_ := Aside0.mk (Kd.R_below (by (with_reducible repeat (first | apply Kd.R_alloc | apply Kd.R_drewN | apply Kd.R_drew)); exact HO117.out) hb); have n3_ := Aside0.mk (Kd.N_lower (Kd.N_mono (ok' := fun k_ => some k_ ≠ (.slice Ao14 t101.length co14 : Value).ownBlock ∧ some k_ ≠ (.slice Ao15 t107.length co15 : Value).ownBlock ∧ some k_ ≠ (v116 : Value).ownBlock ∧ k_ ≠ gb120) ho0 (fun k_ hk_ => ⟨Or.elim hk_ (fun hs_ => fun e_ => Nat.not_le.2 hs_ (Kd.R_base HO_3.out k_ e_.symm)) (fun hn_ => (Kd.fresh' (Kd.R_lt (by (with_reducible repeat (first | apply Kd.R_alloc | apply Kd.R_drewN | apply Kd.R_drew)); exact HO_3.out)) k_ hn_)), Or.elim hk_ (fun hs_ => fun e_ => Nat.not_le.2 hs_ (Kd.R_base HO_4.out k_ e_.symm)) (fun hn_ => (Kd.fresh' (Kd.R_lt (by (with_reducible repeat (first | apply Kd.R_alloc | apply Kd.R_drewN | apply Kd.R_drew)); exact HO_4.out)) k_ hn_)), Or.elim hk_ (fun hs_ => fun e_ => Nat.not_le.2 hs_ (Kd.R_base HO117.out k_ e_.symm)) (fun hn_ => (Kd.fresh' (Kd.R_lt (by (with_reducible repeat (first | apply Kd.R_alloc | apply Kd.R_drewN | apply Kd.R_drew)); exact HO117.out)) k_ hn_)), Or.elim hk_ (fun hs_ => fun e_ => Nat.not_le.2 hs_ (by rw [e_]; exact GW120.out)) (fun hn_ => (Kd.freshB (g := gb120) (o := .cells #[.int .i64 t118, .string t119] 26 (0, 0)) (by (with_reducible repeat (first | refine blk_drewN ?_ _ | refine blk_drew ?_ | refine blk_alloc ?_ _)); exact BK120.out) k_ hn_))⟩)) (below_size (by repeat (first | (with_reducible first | exact HB.out | apply below_alloc | apply pw_below_drewN | apply below_drew1 | refine below_set ?_ GE120.out) | exact HB.out)))); have n4_ := Aside0.mk (blk_below (g := gb120) (o := .cells #[.int .i64 t118, .string t119] 26 (0, 0)) (by (with_reducible repeat (first | refine blk_drewN ?_ _ | refine blk_drew ?_ | refine blk_alloc ?_ _)); exact BK120.out) hb); have n5_ := Aside0.mk (below_step (by repeat (first | (with_reducible first | exact HB.out | apply below_alloc | apply pw_below_drewN | apply below_drew1 | refine below_set ?_ GE120.out) | exact HB.out)) hb); clear HO_3; clear HO_4; clear HO117; clear BK120; clear HB; have HO_3 := n0_; have HO_4 := n1_; have HO117 := n2_; have HO123 := n3_; have BK120 := n4_; have HB := n5_; clear n0_ n1_ n2_ n3_ n4_ n5_; (try clear hb); (try clear hb2); (try clear hk); (try clear hi); (try clear ho0); obtain ⟨Ao29, co29, eo29⟩ := Kd.N_slice HO123.out; subst eo29) | (go_at_call 7; (with_reducible refine (resolve_All.calls _ _ t121 t124 t127 t128 _ ?side1 ?side2 A22.out).mono ?_); (case side1 => repeat (first | exact (Kd.N_reads' HO123.out).2.2 | (with_reducible refine Kd.C_alloc ?_ _) | (with_reducible refine Kd.C_drewN ?_ _) | (with_reducible refine Kd.C_drew ?_))); (case side2 => exact (Kd.N_reads' HO123.out).2.1); rintro e w30 ⟨v125, rfl, ho0, hb⟩; have n0_ := Aside0.mk (Kd.R_below (by (with_reducible repeat (first | apply Kd.R_alloc | apply Kd.R_drewN | apply Kd.R_drew)); exact HO_3.out) hb); have n1_ := Aside0.mk (Kd.R_below (by (with_reducible repeat (first | apply Kd.R_alloc | apply Kd.R_drewN | apply Kd.R_drew)); exact HO_4.out) hb); have n2_ := Aside0.mk (Kd.R_elder' (by (with_reducible repeat (first | apply Kd.R_alloc | apply Kd.R_drewN | apply Kd.R_drew)); exact HO117.out) (Kd.R_base ho0) hb); have n3_ := Aside0.mk (Kd.N_elder' (by (with_reducible repeat (first | apply Kd.N_alloc | apply Kd.N_drewN | apply Kd.N_drew)); exact HO123.out) (Kd.R_base ho0) hb); have n4_ := Aside0.mk (Kd.R_lower (Kd.R_new' ho0 (Kd.R_lt (by (with_reducible repeat (first | apply Kd.R_alloc | apply Kd.R_drewN | apply Kd.R_drew)); exact HO117.out))) (below_size (by repeat (first | (with_reducible first | exact HB.out | apply below_alloc | apply pw_below_drewN | apply below_drew1 | refine below_set ?_ GE120.out) | exact HB.out)))); have n5_ := Aside0.mk (blk_below (g := gb120) (o := .cells #[.int .i64 t118, .string t119] 26 (0, 0)) (by (with_reducible repeat (first | refine blk_drewN ?_ _ | refine blk_drew ?_ | refine blk_alloc ?_ _)); exact BK120.out) hb); have n6_ := Aside0.mk (below_step (by repeat (first | (with_reducible first | exact HB.out | apply below_alloc | apply pw_below_drewN | apply below_drew1 | refine below_set ?_ GE120.out) | exact HB.out)) hb); clear HO_3; clear HO_4; clear HO117; clear HO123; clear BK120; clear HB; have HO_3 := n0_; have HO_4 := n1_; have HO117 := n2_; have HO123 := n3_; have HO126 := n4_; have BK120 := n5_; have HB := n6_; clear n0_ n1_ n2_ n3_ n4_ n5_ n6_; (try clear hb); (try clear hb2); (try clear hk); (try clear hi); (try clear ho0)) | ((with_reducible refine gate_dst (N := 9) rfl ?_); (try (refine gate_guard (by rfl) ?_; dsimp only)); refine box_event ?hg (N := 9) ?hd (cs := #[.int .i64 0, .string (⟨#[]⟩ : ByteArray)]) (t := 26) ?hr ?_; (case hd => rfl); (case hg => rfl); (case hr => first | (go_simp; done) | (go_simp; rfl)); intro gb129 hg w31 hbox hb; have n0_ := Aside0.mk (Kd.R_below (Kd.R_elderB (by (with_reducible repeat (first | apply Kd.R_alloc | apply Kd.R_drewN | apply Kd.R_drew)); exact HO_3.out) gb129 (Nat.le_of_eq hg.symm)) hb); have n1_ := Aside0.mk (Kd.R_below (Kd.R_elderB (by (with_reducible repeat (first | apply Kd.R_alloc | apply Kd.R_drewN | apply Kd.R_drew)); exact HO_4.out) gb129 (Nat.le_of_eq hg.symm)) hb); have n2_ := Aside0.mk (Kd.R_below (by (with_reducible repeat (first | apply Kd.R_alloc | apply Kd.R_drewN | apply Kd.R_drew)); exact HO117.out) hb); have n3_ := Aside0.mk (Kd.N_below (Kd.N_elderB (by (with_reducible repeat (first | apply Kd.N_alloc | apply Kd.N_drewN | apply Kd.N_drew)); exact HO123.out) gb129 (Nat.le_of_eq hg.symm)) hb); have n4_ := Aside0.mk (Kd.R_below (by (with_reducible repeat (first | apply Kd.R_alloc | apply Kd.R_drewN | apply Kd.R_drew)); exact HO126.out) hb); have n5_ := Aside0.mk (blk_below (g := gb120) (o := .cells #[.int .i64 t118, .string t119] 26 (0, 0)) (by (with_reducible repeat (first | refine blk_drewN ?_ _ | refine blk_drew ?_ | refine blk_alloc ?_ _)); exact BK120.out) hb); have n6_ := Aside0.mk (below_step (by repeat (first | (with_reducible first | exact HB.out | apply below_alloc | apply pw_below_drewN | apply below_drew1 | refine below_set ?_ GE120.out) | exact HB.out)) hb); have n7_ := Aside0.mk (hbox); have n8_ := Aside0.mk ((by rw [hg]; exact (below_size (by repeat (first | (with_reducible first | exact HB.out | apply below_alloc | apply pw_below_drewN | apply below_drew1 | refine below_set ?_ GE120.out) | exact HB.out))) : w.heap.size ≤ gb129)); have n9_ := Aside0.mk ((by rw [hg]; exact (below_size (by repeat (first | (with_reducible first | exact HB.out | apply below_alloc | apply pw_below_drewN | apply below_drew1 | refine below_set ?_ GE120.out) | exact HB.out))) : w.heap.size ≤ gb129)); have n10_ := Aside0.mk ((by rw [hg]; exact Nat.ne_of_lt (blk_lt (g := gb120) (o := .cells #[.int .i64 t118, .string t119] 26 (0, 0)) (by (with_reducible repeat (first | refine blk_drewN ?_ _ | refine blk_drew ?_ | refine blk_alloc ?_ _)); exact BK120.out)) : gb120 ≠ gb129)); have n11_ := Aside0.mk ((by rw [hg]; exact Nat.ne_of_gt (blk_lt (g := gb120) (o := .cells #[.int .i64 t118, .string t119] 26 (0, 0)) (by (with_reducible repeat (first | refine blk_drewN ?_ _ | refine blk_drew ?_ | refine blk_alloc ?_ _)); exact BK120.out)) : gb129 ≠ gb120)); clear HO_3; clear HO_4; clear HO117; clear HO123; clear HO126; clear BK120; clear HB; have HO_3 := n0_; have HO_4 := n1_; have HO117 := n2_; have HO123 := n3_; have HO126 := n4_; have BK120 := n5_; have HB := n6_; have BK129 := n7_; have GW129 := n8_; have GE129 := n9_; have NB120_129 := n10_; have NB129_120 := n11_; clear n0_ n1_ n2_ n3_ n4_ n5_ n6_ n7_ n8_ n9_ n10_ n11_; clear hb hbox hg; have hnb32 := NB129_120.out; have hnc32 := NB120_129.out; have hcz33_0 : w31.cell? ⟨gb129, 0, none⟩ = some (.int .i64 0) := (blk_cell BK129.out 0).trans rfl; have hcz33_1 : w31.cell? ⟨gb129, 1, none⟩ = some (.string (⟨#[]⟩ : ByteArray)) := (blk_cell BK129.out 1).trans rfl; have hfz33_0 := blk_frozen BK129.out 0; have hfz33_1 := blk_frozen BK129.out 1)))
      (try simp only [Act.put, List.setIfInBounds_toArray, List.set_cons_zero, List.set_cons_succ])
      go_cut [73] (fun v73 wc => ∃ (kq : Nat) (x73_22 : Bool), v73 = .bool x73_22 ∧ Aside0 (gangwaylaw18_ResolveOrder.j1 kq l0 t115 t124 x73_22 = some r) ∧ Aside0 (kq ≤ k1) ∧ Aside0 (Kd.R k42 42 wc w.heap.size (fun k_ => some k_ ≠ (v125 : Value).ownBlock) v116 t115) ∧ Aside0 (Kd.R k42 42 wc w.heap.size (fun k_ => some k_ ≠ (v116 : Value).ownBlock) v125 t124) ∧ Aside0 (wc.heap[gb120]? = some (.cells #[.int .i64 t118, .string t119] 26 (0, 0))) ∧ Aside0 (wc.heap[gb129]? = some (.cells #[.int .i64 t127, .string t128] 26 (0, 0))) ∧ Aside0 (Below w.heap.size w wc))
      case first =>
       have H := HC23.out
       clear HC23
       replace H := Option.bind_eq_some_iff.mp H
       obtain ⟨t130, A340, H⟩ := H
       replace H : ((gangwaylaw18_num.f t127).bind fun t131 => (if t130 = t131 then (gangwaylaw18_ResolveOrder.j1 k1 l0 t115 t124 ((t115.length : Int) != (t124.length : Int))) else (gangwaylaw18_ResolveOrder.j1 k1 l0 t115 t124 true))) = some r := H
       have A34 := Aside0.mk A340
       clear A340
       replace H := Option.bind_eq_some_iff.mp H
       obtain ⟨t131, A350, H⟩ := H
       replace H : (if t130 = t131 then (gangwaylaw18_ResolveOrder.j1 k1 l0 t115 t124 ((t115.length : Int) != (t124.length : Int))) else (gangwaylaw18_ResolveOrder.j1 k1 l0 t115 t124 true)) = some r := H
       have A35 := Aside0.mk A350
       clear A350
       by_cases c36 : t130 = t131
       ·
        rw [if_pos c36] at H
        have c36b0 : (t130 == t131) = true := beq_iff_eq.mpr c36
        have c36b1 : (t130 != t131) = false := bne_eq_false_iff_eq.mpr c36
        clear c36
        (first | rw [c36b0] | (simp only [i64_w, i32_w]; rw [c36b0]) | skip)
        have H' := Aside0.mk H
        clear H
        have hnb37 := NB120_129.out
        have hnc37 := NB129_120.out
        have hcz38_0 : w31.cell? ⟨gb120, 0, none⟩ = some (.int .i64 t118) := (blk_cell BK120.out 0).trans rfl
        have hcz38_1 : w31.cell? ⟨gb120, 1, none⟩ = some (.string t119) := (blk_cell BK120.out 1).trans rfl
        have hfz38_0 := blk_frozen BK120.out 0
        have hfz38_1 := blk_frozen BK120.out 1
        go_wp2_with (first | (go_at_call 8; (with_reducible refine (gangwaylaw18_num.calls t118 t130 _ A34.out).mono ?_); rintro e w' ⟨rfl, ⟨nd, rfl⟩⟩; (try first | exact ⟨rfl, _, World.drewN_drewN _ _ _⟩ | exact ⟨rfl, _, Eq.trans (World.drewN_drewN _ _ _) (congrArg (World.drewN _) (Nat.add_assoc _ _ _))⟩); have hcz39_0 : w31.cell? ⟨gb129, 0, none⟩ = some (.int .i64 0) := (blk_cell BK129.out 0).trans rfl; have hcz39_1 : w31.cell? ⟨gb129, 1, none⟩ = some (.string (⟨#[]⟩ : ByteArray)) := (blk_cell BK129.out 1).trans rfl; have hfz39_0 := blk_frozen BK129.out 0; have hfz39_1 := blk_frozen BK129.out 1) | (go_at_call 8; (with_reducible refine (gangwaylaw18_num.calls t127 t131 _ A35.out).mono ?_); rintro e w' ⟨rfl, ⟨nd, rfl⟩⟩; (try first | exact ⟨rfl, _, World.drewN_drewN _ _ _⟩ | exact ⟨rfl, _, Eq.trans (World.drewN_drewN _ _ _) (congrArg (World.drewN _) (Nat.add_assoc _ _ _))⟩); obtain ⟨Ao40, co40, eo40⟩ := Kd.R_slice HO117.out; subst eo40; obtain ⟨Ao41, co41, eo41⟩ := Kd.R_slice HO126.out; subst eo41))
        repeat (go_quiet (first | (go_at_call 8; (with_reducible refine (gangwaylaw18_num.calls t118 t130 _ A34.out).mono ?_); rintro e w' ⟨rfl, ⟨nd, rfl⟩⟩; (try first | exact ⟨rfl, _, World.drewN_drewN _ _ _⟩ | exact ⟨rfl, _, Eq.trans (World.drewN_drewN _ _ _) (congrArg (World.drewN _) (Nat.add_assoc _ _ _))⟩); have hcz39_0 : w31.cell? ⟨gb129, 0, none⟩ = some (.int .i64 0) := (blk_cell BK129.out 0).trans rfl; have hcz39_1 : w31.cell? ⟨gb129, 1, none⟩ = some (.string (⟨#[]⟩ : ByteArray)) := (blk_cell BK129.out 1).trans rfl; have hfz39_0 := blk_frozen BK129.out 0; have hfz39_1 := blk_frozen BK129.out 1) | (go_at_call 8; (with_reducible refine (gangwaylaw18_num.calls t127 t131 _ A35.out).mono ?_); rintro e w' ⟨rfl, ⟨nd, rfl⟩⟩; (try first | exact ⟨rfl, _, World.drewN_drewN _ _ _⟩ | exact ⟨rfl, _, Eq.trans (World.drewN_drewN _ _ _) (congrArg (World.drewN _) (Nat.add_assoc _ _ _))⟩); obtain ⟨Ao40, co40, eo40⟩ := Kd.R_slice HO117.out; subst eo40; obtain ⟨Ao41, co41, eo41⟩ := Kd.R_slice HO126.out; subst eo41)); try go_wp2_with (first | (go_at_call 8; (with_reducible refine (gangwaylaw18_num.calls t118 t130 _ A34.out).mono ?_); rintro e w' ⟨rfl, ⟨nd, rfl⟩⟩; (try first | exact ⟨rfl, _, World.drewN_drewN _ _ _⟩ | exact ⟨rfl, _, Eq.trans (World.drewN_drewN _ _ _) (congrArg (World.drewN _) (Nat.add_assoc _ _ _))⟩); have hcz39_0 : w31.cell? ⟨gb129, 0, none⟩ = some (.int .i64 0) := (blk_cell BK129.out 0).trans rfl; have hcz39_1 : w31.cell? ⟨gb129, 1, none⟩ = some (.string (⟨#[]⟩ : ByteArray)) := (blk_cell BK129.out 1).trans rfl; have hfz39_0 := blk_frozen BK129.out 0; have hfz39_1 := blk_frozen BK129.out 1) | (go_at_call 8; (with_reducible refine (gangwaylaw18_num.calls t127 t131 _ A35.out).mono ?_); rintro e w' ⟨rfl, ⟨nd, rfl⟩⟩; (try first | exact ⟨rfl, _, World.drewN_drewN _ _ _⟩ | exact ⟨rfl, _, Eq.trans (World.drewN_drewN _ _ _) (congrArg (World.drewN _) (Nat.add_assoc _ _ _))⟩); obtain ⟨Ao40, co40, eo40⟩ := Kd.R_slice HO117.out; subst eo40; obtain ⟨Ao41, co41, eo41⟩ := Kd.R_slice HO126.out; subst eo41)))
        go_meet
        case rel => exact ⟨_, (((t115.length : Int) != (t124.length : Int))), (by first | rfl | (simp; done) | (simp [*]; done) | (simp [show ∀ l_ : List UInt8, (l_ != []) = !l_.isEmpty from fun l_ => by cases l_ <;> rfl]; done) | (congr 1; refine congr (congrArg (Go.bits _ _) ?_) ?_ <;> omega)), H', ⟨by have := HK1.out; first | omega | exact Nat.le_refl _⟩, ⟨by (with_reducible repeat (first | apply Kd.R_alloc | apply Kd.R_drewN | apply Kd.R_drew)); exact Kd.R_mono (Kd.R_far (p := ⟨gb129, 1, none⟩) (Kd.R_far (p := ⟨gb129, 0, none⟩) (Kd.R_types HO117.out BK129.out (by decide)) (fun _ hk => hk.2) (.int .i64 t127)) (fun _ hk => hk.2) (.string t128)) (fun _ hk => hk.1.2)⟩, ⟨by (with_reducible repeat (first | apply Kd.R_alloc | apply Kd.R_drewN | apply Kd.R_drew)); exact Kd.R_mono (Kd.R_far (p := ⟨gb129, 1, none⟩) (Kd.R_far (p := ⟨gb129, 0, none⟩) (Kd.R_types HO126.out BK129.out (by decide)) (fun _ hk => hk.2) (.int .i64 t127)) (fun _ hk => hk.2) (.string t128)) (fun _ hk => hk.1.2)⟩, ⟨by (with_reducible repeat (first | refine blk_drewN ?_ _ | refine blk_drew ?_ | refine blk_alloc ?_ _)); refine blk_far ?_ NB120_129.out _; (with_reducible repeat (first | refine blk_drewN ?_ _ | refine blk_drew ?_ | refine blk_alloc ?_ _)); refine blk_far ?_ NB120_129.out _; (with_reducible repeat (first | refine blk_drewN ?_ _ | refine blk_drew ?_ | refine blk_alloc ?_ _)); exact BK120.out⟩, ⟨by (with_reducible repeat (first | refine blk_drewN ?_ _ | refine blk_drew ?_ | refine blk_alloc ?_ _)); refine blk_put (cs := #[.int .i64 t127, .string (⟨#[]⟩ : ByteArray)]) ?_ 1 _ rfl; (with_reducible repeat (first | refine blk_drewN ?_ _ | refine blk_drew ?_ | refine blk_alloc ?_ _)); refine blk_put (cs := #[.int .i64 0, .string (⟨#[]⟩ : ByteArray)]) ?_ 0 _ rfl; (with_reducible repeat (first | refine blk_drewN ?_ _ | refine blk_drew ?_ | refine blk_alloc ?_ _)); exact BK129.out⟩, ⟨by repeat (first | (with_reducible first | exact HB.out | apply below_alloc | apply pw_below_drewN | apply below_drew1 | refine below_set ?_ GE120.out | refine below_set ?_ GE129.out) | exact HB.out)⟩⟩
       ·
        rw [if_neg c36] at H
        have c36b0 : (t130 == t131) = false := beq_eq_false_iff_ne.mpr c36
        have c36b1 : (t130 != t131) = true := bne_iff_ne.mpr c36
        (first | rw [c36b0] | (simp only [i64_w, i32_w]; rw [c36b0]) | skip)
        have H' := Aside0.mk H
        clear H
        have hnb42 := NB120_129.out
        have hnc42 := NB129_120.out
        have hcz43_0 : w31.cell? ⟨gb120, 0, none⟩ = some (.int .i64 t118) := (blk_cell BK120.out 0).trans rfl
        have hcz43_1 : w31.cell? ⟨gb120, 1, none⟩ = some (.string t119) := (blk_cell BK120.out 1).trans rfl
        have hfz43_0 := blk_frozen BK120.out 0
        have hfz43_1 := blk_frozen BK120.out 1
        go_wp2_with (first | (go_at_call 8; (with_reducible refine (gangwaylaw18_num.calls t118 t130 _ A34.out).mono ?_); rintro e w' ⟨rfl, ⟨nd, rfl⟩⟩; (try first | exact ⟨rfl, _, World.drewN_drewN _ _ _⟩ | exact ⟨rfl, _, Eq.trans (World.drewN_drewN _ _ _) (congrArg (World.drewN _) (Nat.add_assoc _ _ _))⟩); have hcz44_0 : w31.cell? ⟨gb129, 0, none⟩ = some (.int .i64 0) := (blk_cell BK129.out 0).trans rfl; have hcz44_1 : w31.cell? ⟨gb129, 1, none⟩ = some (.string (⟨#[]⟩ : ByteArray)) := (blk_cell BK129.out 1).trans rfl; have hfz44_0 := blk_frozen BK129.out 0; have hfz44_1 := blk_frozen BK129.out 1) | (go_at_call 8; (with_reducible refine (gangwaylaw18_num.calls t127 t131 _ A35.out).mono ?_); rintro e w' ⟨rfl, ⟨nd, rfl⟩⟩; (try first | exact ⟨rfl, _, World.drewN_drewN _ _ _⟩ | exact ⟨rfl, _, Eq.trans (World.drewN_drewN _ _ _) (congrArg (World.drewN _) (Nat.add_assoc _ _ _))⟩)))
        repeat (go_quiet (first | (go_at_call 8; (with_reducible refine (gangwaylaw18_num.calls t118 t130 _ A34.out).mono ?_); rintro e w' ⟨rfl, ⟨nd, rfl⟩⟩; (try first | exact ⟨rfl, _, World.drewN_drewN _ _ _⟩ | exact ⟨rfl, _, Eq.trans (World.drewN_drewN _ _ _) (congrArg (World.drewN _) (Nat.add_assoc _ _ _))⟩); have hcz44_0 : w31.cell? ⟨gb129, 0, none⟩ = some (.int .i64 0) := (blk_cell BK129.out 0).trans rfl; have hcz44_1 : w31.cell? ⟨gb129, 1, none⟩ = some (.string (⟨#[]⟩ : ByteArray)) := (blk_cell BK129.out 1).trans rfl; have hfz44_0 := blk_frozen BK129.out 0; have hfz44_1 := blk_frozen BK129.out 1) | (go_at_call 8; (with_reducible refine (gangwaylaw18_num.calls t127 t131 _ A35.out).mono ?_); rintro e w' ⟨rfl, ⟨nd, rfl⟩⟩; (try first | exact ⟨rfl, _, World.drewN_drewN _ _ _⟩ | exact ⟨rfl, _, Eq.trans (World.drewN_drewN _ _ _) (congrArg (World.drewN _) (Nat.add_assoc _ _ _))⟩))); try go_wp2_with (first | (go_at_call 8; (with_reducible refine (gangwaylaw18_num.calls t118 t130 _ A34.out).mono ?_); rintro e w' ⟨rfl, ⟨nd, rfl⟩⟩; (try first | exact ⟨rfl, _, World.drewN_drewN _ _ _⟩ | exact ⟨rfl, _, Eq.trans (World.drewN_drewN _ _ _) (congrArg (World.drewN _) (Nat.add_assoc _ _ _))⟩); have hcz44_0 : w31.cell? ⟨gb129, 0, none⟩ = some (.int .i64 0) := (blk_cell BK129.out 0).trans rfl; have hcz44_1 : w31.cell? ⟨gb129, 1, none⟩ = some (.string (⟨#[]⟩ : ByteArray)) := (blk_cell BK129.out 1).trans rfl; have hfz44_0 := blk_frozen BK129.out 0; have hfz44_1 := blk_frozen BK129.out 1) | (go_at_call 8; (with_reducible refine (gangwaylaw18_num.calls t127 t131 _ A35.out).mono ?_); rintro e w' ⟨rfl, ⟨nd, rfl⟩⟩; (try first | exact ⟨rfl, _, World.drewN_drewN _ _ _⟩ | exact ⟨rfl, _, Eq.trans (World.drewN_drewN _ _ _) (congrArg (World.drewN _) (Nat.add_assoc _ _ _))⟩))))
        go_meet
        case rel => exact ⟨_, (true), (by first | rfl | (simp; done) | (simp [*]; done) | (simp [show ∀ l_ : List UInt8, (l_ != []) = !l_.isEmpty from fun l_ => by cases l_ <;> rfl]; done) | (congr 1; refine congr (congrArg (Go.bits _ _) ?_) ?_ <;> omega)), H', ⟨by have := HK1.out; first | omega | exact Nat.le_refl _⟩, ⟨by (with_reducible repeat (first | apply Kd.R_alloc | apply Kd.R_drewN | apply Kd.R_drew)); exact Kd.R_mono (Kd.R_far (p := ⟨gb129, 1, none⟩) (Kd.R_far (p := ⟨gb129, 0, none⟩) (Kd.R_types HO117.out BK129.out (by decide)) (fun _ hk => hk.2) (.int .i64 t127)) (fun _ hk => hk.2) (.string t128)) (fun _ hk => hk.1.2)⟩, ⟨by (with_reducible repeat (first | apply Kd.R_alloc | apply Kd.R_drewN | apply Kd.R_drew)); exact Kd.R_mono (Kd.R_far (p := ⟨gb129, 1, none⟩) (Kd.R_far (p := ⟨gb129, 0, none⟩) (Kd.R_types HO126.out BK129.out (by decide)) (fun _ hk => hk.2) (.int .i64 t127)) (fun _ hk => hk.2) (.string t128)) (fun _ hk => hk.1.2)⟩, ⟨by (with_reducible repeat (first | refine blk_drewN ?_ _ | refine blk_drew ?_ | refine blk_alloc ?_ _)); refine blk_far ?_ NB120_129.out _; (with_reducible repeat (first | refine blk_drewN ?_ _ | refine blk_drew ?_ | refine blk_alloc ?_ _)); refine blk_far ?_ NB120_129.out _; (with_reducible repeat (first | refine blk_drewN ?_ _ | refine blk_drew ?_ | refine blk_alloc ?_ _)); exact BK120.out⟩, ⟨by (with_reducible repeat (first | refine blk_drewN ?_ _ | refine blk_drew ?_ | refine blk_alloc ?_ _)); refine blk_put (cs := #[.int .i64 t127, .string (⟨#[]⟩ : ByteArray)]) ?_ 1 _ rfl; (with_reducible repeat (first | refine blk_drewN ?_ _ | refine blk_drew ?_ | refine blk_alloc ?_ _)); refine blk_put (cs := #[.int .i64 0, .string (⟨#[]⟩ : ByteArray)]) ?_ 0 _ rfl; (with_reducible repeat (first | refine blk_drewN ?_ _ | refine blk_drew ?_ | refine blk_alloc ?_ _)); exact BK129.out⟩, ⟨by repeat (first | (with_reducible first | exact HB.out | apply below_alloc | apply pw_below_drewN | apply below_drew1 | refine below_set ?_ GE120.out | refine below_set ?_ GE129.out) | exact HB.out)⟩⟩
      case rest =>
       clear HC23
       try clear c1
       try clear p1
       try clear q1
       try clear hx1
       try clear p2
       try clear c3
       try clear c4
       try clear p6
       try clear c7
       try clear c7b0
       try clear c7b1
       try clear c8
       try clear c8b0
       try clear c8b1
       try clear c8b2
       try clear p11
       try clear q11
       try clear hx11
       try clear c16
       try clear c16b0
       try clear c17
       try clear c17b0
       try clear c18
       try clear c18b0
       try clear c19
       try clear c19b0
       try clear c32
       try clear c36
       try clear c36b0
       try clear c36b1
       try clear c37
       try clear c42
       try clear hcz26_0
       try clear hcz26_1
       try clear hcz33_0
       try clear hcz33_1
       try clear hcz38_0
       try clear hcz38_1
       try clear hcz39_0
       try clear hcz39_1
       try clear hcz43_0
       try clear hcz43_1
       try clear hcz44_0
       try clear hcz44_1
       try clear hfz26_0
       try clear hfz26_1
       try clear hfz33_0
       try clear hfz33_1
       try clear hfz38_0
       try clear hfz38_1
       try clear hfz39_0
       try clear hfz39_1
       try clear hfz43_0
       try clear hfz43_1
       try clear hfz44_0
       try clear hfz44_1
       try clear hx113_0
       try clear hx113_1
       try clear hx114_0
       try clear hx114_1
       try clear p113
       try clear p114
       try clear p2
       try clear p6
       try clear q113
       try clear q114
       obtain ⟨kq, x73_22, rfl, HA, HJ22, HO_6, HO_8, BK120, BK129, HB⟩ := hcut
       cases kq with
       | zero => exact absurd HA.out (by simp [gangwaylaw18_ResolveOrder.j1])
       | succ kj22 =>
        have H := HA.out
        clear HA
        simp only [gangwaylaw18_ResolveOrder.j1] at H
        by_cases c45 : x73_22 = true
        ·
         subst c45
         have H1 : (none) = some r := by rw [if_pos rfl] at H; exact H
         clear H
         have H := H1
         clear H1
         exact absurd H (by simp)
        ·
         replace c45 := Bool.eq_false_iff.mpr c45
         subst c45
         have H1 : (gangwaylaw18_ResolveOrder.l1 kj22 l0 t115 t124 0) = some r := by rw [if_neg (show ¬ (false = true) by decide)] at H; exact H
         clear H
         have H := H1
         clear H1
         have H' := Aside0.mk H
         clear H
         go_wp2
         repeat (go_quiet (fail); try go_wp2)
         go_loopg [10] kj22 (fun kq v10 w' => ∃ (x10_3 : Int), v10 = .int .i64 x10_3 ∧ Aside0 (gangwaylaw18_ResolveOrder.l1 kq l0 t115 t124 x10_3 = some r) ∧ Aside0 (kq ≤ kj22) ∧ Aside0 (Kd.R k42 42 w' w.heap.size (fun k_ => some k_ ≠ (v125 : Value).ownBlock) v116 t115) ∧ Aside0 (Kd.R k42 42 w' w.heap.size (fun k_ => some k_ ≠ (v116 : Value).ownBlock) v125 t124) ∧ Aside0 (w'.heap[gb120]? = some (.cells #[.int .i64 t118, .string t119] 26 (0, 0))) ∧ Aside0 (w'.heap[gb129]? = some (.cells #[.int .i64 t127, .string t128] 26 (0, 0))) ∧ Aside0 (Below w.heap.size w w'))
         case atStart => exact ⟨(0), (by first | rfl | (simp; done) | (simp [*]; done) | (simp [show ∀ l_ : List UInt8, (l_ != []) = !l_.isEmpty from fun l_ => by cases l_ <;> rfl]; done) | (congr 1; refine congr (congrArg (Go.bits _ _) ?_) ?_ <;> omega)), H', ⟨Nat.le_refl _⟩, ⟨by (with_reducible repeat (first | apply Kd.R_alloc | apply Kd.R_drewN | apply Kd.R_drew)); exact HO_6.out⟩, ⟨by (with_reducible repeat (first | apply Kd.R_alloc | apply Kd.R_drewN | apply Kd.R_drew)); exact HO_8.out⟩, ⟨by (with_reducible repeat (first | refine blk_drewN ?_ _ | refine blk_drew ?_ | refine blk_alloc ?_ _)); exact BK120.out⟩, ⟨by (with_reducible repeat (first | refine blk_drewN ?_ _ | refine blk_drew ?_ | refine blk_alloc ?_ _)); exact BK129.out⟩, ⟨by repeat (first | (with_reducible first | exact HB.out | apply below_alloc | apply pw_below_drewN | apply below_drew1 | refine below_set ?_ GE120.out | refine below_set ?_ GE129.out) | exact HB.out)⟩⟩
         case round =>
          clear H'
          try clear c1
          try clear p1
          try clear q1
          try clear hx1
          try clear p2
          try clear c3
          try clear c4
          try clear p6
          try clear c7
          try clear c7b0
          try clear c7b1
          try clear c8
          try clear c8b0
          try clear c8b1
          try clear c8b2
          try clear p11
          try clear q11
          try clear hx11
          try clear c16
          try clear c16b0
          try clear c17
          try clear c17b0
          try clear c18
          try clear c18b0
          try clear c19
          try clear c19b0
          try clear c32
          try clear c36
          try clear c36b0
          try clear c36b1
          try clear c37
          try clear c42
          try clear c45
          try clear hcz26_0
          try clear hcz26_1
          try clear hcz33_0
          try clear hcz33_1
          try clear hcz38_0
          try clear hcz38_1
          try clear hcz39_0
          try clear hcz39_1
          try clear hcz43_0
          try clear hcz43_1
          try clear hcz44_0
          try clear hcz44_1
          try clear hfz26_0
          try clear hfz26_1
          try clear hfz33_0
          try clear hfz33_1
          try clear hfz38_0
          try clear hfz38_1
          try clear hfz39_0
          try clear hfz39_1
          try clear hfz43_0
          try clear hfz43_1
          try clear hfz44_0
          try clear hfz44_1
          try clear hx113_0
          try clear hx113_1
          try clear hx114_0
          try clear hx114_1
          try clear p1
          try clear p11
          try clear p113
          try clear p114
          try clear p2
          try clear p6
          try clear q1
          try clear q11
          try clear q113
          try clear q114
          obtain ⟨x10_3, rfl, HA, HK3, HO_6, HO_8, BK120, BK129, HB⟩ := hrel
          cases gk with
          | zero => exact absurd HA.out (by simp [gangwaylaw18_ResolveOrder.l1])
          | succ k3 =>
           have H := HA.out
           clear HA
           simp only [gangwaylaw18_ResolveOrder.l1] at H
           by_cases c46 : x10_3 < (t115.length : Int)
           ·
            rw [if_pos c46] at H
            have c46b0 : decide (x10_3 < (t115.length : Int)) = true := decide_eq_true c46
            clear c46
            by_cases c47 : 0 ≤ x10_3
            ·
             rw [if_pos c47] at H
             have c47b0 : decide (0 ≤ x10_3) = true := decide_eq_true c47
             clear c47
             by_cases c48 : x10_3 < (t124.length : Int)
             ·
              rw [if_pos c48] at H
              have c48b0 : decide (x10_3 < (t124.length : Int)) = true := decide_eq_true c48
              clear c48
              by_cases c49 : ((rd_T42 t115 x10_3).f0).toList = ((rd_T42 t124 x10_3).f0).toList
              ·
               rw [if_pos c49] at H
               have c49b0 : (((rd_T42 t115 x10_3).f0).toList == ((rd_T42 t124 x10_3).f0).toList) = true := beq_iff_eq.mpr c49
               have c49b1 : (((rd_T42 t115 x10_3).f0).toList != ((rd_T42 t124 x10_3).f0).toList) = false := bne_eq_false_iff_eq.mpr c49
               clear c49
               by_cases c50 : ((rd_T42 t115 x10_3).f3) = ((rd_T42 t124 x10_3).f3)
               ·
                rw [if_pos c50] at H
                have c50b0 : (((rd_T42 t115 x10_3).f3) == ((rd_T42 t124 x10_3).f3)) = true := beq_iff_eq.mpr c50
                have c50b1 : (((rd_T42 t115 x10_3).f3) != ((rd_T42 t124 x10_3).f3)) = false := bne_eq_false_iff_eq.mpr c50
                clear c50
                by_cases c51 : ((rd_T42 t115 x10_3).f3) = 1
                ·
                 rw [if_pos c51] at H
                 have c51b0 : (((rd_T42 t115 x10_3).f3) == 1) = true := beq_iff_eq.mpr c51
                 have c51b1 : (((rd_T42 t115 x10_3).f3) != 1) = false := bne_eq_false_iff_eq.mpr c51
                 clear c51
                 by_cases c52 : ((rd_T42 t115 x10_3).f1) = (wrap64 ((wrap64 ((l0.length : Int) - 1)) - ((rd_T42 t124 x10_3).f1)))
                 ·
                  rw [if_pos c52] at H
                  have c52b0 : (((rd_T42 t115 x10_3).f1) == (wrap64 ((wrap64 ((l0.length : Int) - 1)) - ((rd_T42 t124 x10_3).f1)))) = true := beq_iff_eq.mpr c52
                  have c52b1 : (((rd_T42 t115 x10_3).f1) != (wrap64 ((wrap64 ((l0.length : Int) - 1)) - ((rd_T42 t124 x10_3).f1)))) = false := bne_eq_false_iff_eq.mpr c52
                  clear c52
                  by_cases c53 : ((rd_T42 t115 x10_3).f2) = ((rd_T42 t124 x10_3).f2)
                  ·
                   rw [if_pos c53] at H
                   have c53b0 : (((rd_T42 t115 x10_3).f2) == ((rd_T42 t124 x10_3).f2)) = true := beq_iff_eq.mpr c53
                   have c53b1 : (((rd_T42 t115 x10_3).f2) != ((rd_T42 t124 x10_3).f2)) = false := bne_eq_false_iff_eq.mpr c53
                   clear c53
                   have H' := Aside0.mk H
                   clear H
                   obtain ⟨Ao54, co54, eo54⟩ := Kd.R_slice HO_6.out
                   subst eo54
                   have p132 : 0 ≤ (x10_3 : Int) := of_decide_eq_true (by first | (with_reducible assumption) | assumption)
                   have q132 : x10_3 < (t115.length : Int) := of_decide_eq_true (by first | (with_reducible assumption) | assumption)
                   obtain ⟨ad132, e132, hx132_0, hx132_1, hx132_2, hx132_3, hx132_4⟩ := at_T42 (Kd.R_reads' HO_6.out).2.2 x10_3 p132 q132
                   cases e132
                   replace p132 := eq_true p132
                   replace q132 := eq_true q132
                   obtain ⟨Ao55, co55, eo55⟩ := Kd.R_slice HO_8.out
                   subst eo55
                   have p133 : 0 ≤ (x10_3 : Int) := of_decide_eq_true (by first | (with_reducible assumption) | assumption)
                   have q133 : x10_3 < (t124.length : Int) := of_decide_eq_true (by first | (with_reducible assumption) | assumption)
                   obtain ⟨ad133, e133, hx133_0, hx133_1, hx133_2, hx133_3, hx133_4⟩ := at_T42 (Kd.R_reads' HO_8.out).2.2 x10_3 p133 q133
                   cases e133
                   replace p133 := eq_true p133
                   replace q133 := eq_true q133
                   have p134 : 0 ≤ (x10_3 : Int) := of_decide_eq_true (by first | (with_reducible assumption) | assumption)
                   have q134 : x10_3 < (t115.length : Int) := of_decide_eq_true (by first | (with_reducible assumption) | assumption)
                   obtain ⟨ad134, e134, hx134_0, hx134_1, hx134_2, hx134_3, hx134_4⟩ := at_T42 (Kd.R_reads' HO_6.out).2.2 x10_3 p134 q134
                   obtain rfl : ad132 = ad134 := (by injection e134)
                   replace p134 := eq_true p134
                   replace q134 := eq_true q134
                   have p135 : 0 ≤ (x10_3 : Int) := of_decide_eq_true (by first | (with_reducible assumption) | assumption)
                   have q135 : x10_3 < (t124.length : Int) := of_decide_eq_true (by first | (with_reducible assumption) | assumption)
                   obtain ⟨ad135, e135, hx135_0, hx135_1, hx135_2, hx135_3, hx135_4⟩ := at_T42 (Kd.R_reads' HO_8.out).2.2 x10_3 p135 q135
                   obtain rfl : ad133 = ad135 := (by injection e135)
                   replace p135 := eq_true p135
                   replace q135 := eq_true q135
                   have p136 : 0 ≤ (x10_3 : Int) := of_decide_eq_true (by first | (with_reducible assumption) | assumption)
                   have q136 : x10_3 < (t115.length : Int) := of_decide_eq_true (by first | (with_reducible assumption) | assumption)
                   obtain ⟨ad136, e136, hx136_0, hx136_1, hx136_2, hx136_3, hx136_4⟩ := at_T42 (Kd.R_reads' HO_6.out).2.2 x10_3 p136 q136
                   obtain rfl : ad132 = ad136 := (by injection e136)
                   replace p136 := eq_true p136
                   replace q136 := eq_true q136
                   have p137 : 0 ≤ (x10_3 : Int) := of_decide_eq_true (by first | (with_reducible assumption) | assumption)
                   have q137 : x10_3 < (t115.length : Int) := of_decide_eq_true (by first | (with_reducible assumption) | assumption)
                   obtain ⟨ad137, e137, hx137_0, hx137_1, hx137_2, hx137_3, hx137_4⟩ := at_T42 (Kd.R_reads' HO_6.out).2.2 x10_3 p137 q137
                   obtain rfl : ad132 = ad137 := (by injection e137)
                   replace p137 := eq_true p137
                   replace q137 := eq_true q137
                   have p138 : 0 ≤ (x10_3 : Int) := of_decide_eq_true (by first | (with_reducible assumption) | assumption)
                   have q138 : x10_3 < (t124.length : Int) := of_decide_eq_true (by first | (with_reducible assumption) | assumption)
                   obtain ⟨ad138, e138, hx138_0, hx138_1, hx138_2, hx138_3, hx138_4⟩ := at_T42 (Kd.R_reads' HO_8.out).2.2 x10_3 p138 q138
                   obtain rfl : ad133 = ad138 := (by injection e138)
                   replace p138 := eq_true p138
                   replace q138 := eq_true q138
                   have p139 : 0 ≤ (x10_3 : Int) := of_decide_eq_true (by first | (with_reducible assumption) | assumption)
                   have q139 : x10_3 < (t115.length : Int) := of_decide_eq_true (by first | (with_reducible assumption) | assumption)
                   obtain ⟨ad139, e139, hx139_0, hx139_1, hx139_2, hx139_3, hx139_4⟩ := at_T42 (Kd.R_reads' HO_6.out).2.2 x10_3 p139 q139
                   obtain rfl : ad132 = ad139 := (by injection e139)
                   replace p139 := eq_true p139
                   replace q139 := eq_true q139
                   have p140 : 0 ≤ (x10_3 : Int) := of_decide_eq_true (by first | (with_reducible assumption) | assumption)
                   have q140 : x10_3 < (t124.length : Int) := of_decide_eq_true (by first | (with_reducible assumption) | assumption)
                   obtain ⟨ad140, e140, hx140_0, hx140_1, hx140_2, hx140_3, hx140_4⟩ := at_T42 (Kd.R_reads' HO_8.out).2.2 x10_3 p140 q140
                   obtain rfl : ad133 = ad140 := (by injection e140)
                   replace p140 := eq_true p140
                   replace q140 := eq_true q140
                   go_wp2
                   repeat (go_quiet (fail); try go_wp2)
                   go_roundg k3
                   case measure => have := HK1.out; have := HJ22.out; have := HK3.out; omega
                   case rel => exact ⟨(wrap64 (x10_3 + 1)), (by first | rfl | (simp; done) | (simp [*]; done) | (simp [show ∀ l_ : List UInt8, (l_ != []) = !l_.isEmpty from fun l_ => by cases l_ <;> rfl]; done) | (congr 1; refine congr (congrArg (Go.bits _ _) ?_) ?_ <;> omega)), H', ⟨by have := HK1.out; have := HJ22.out; have := HK3.out; omega⟩, ⟨by (with_reducible repeat (first | apply Kd.R_alloc | apply Kd.R_drewN | apply Kd.R_drew)); exact HO_6.out⟩, ⟨by (with_reducible repeat (first | apply Kd.R_alloc | apply Kd.R_drewN | apply Kd.R_drew)); exact HO_8.out⟩, ⟨by (with_reducible repeat (first | refine blk_drewN ?_ _ | refine blk_drew ?_ | refine blk_alloc ?_ _)); exact BK120.out⟩, ⟨by (with_reducible repeat (first | refine blk_drewN ?_ _ | refine blk_drew ?_ | refine blk_alloc ?_ _)); exact BK129.out⟩, ⟨by repeat (first | (with_reducible first | exact HB.out | apply below_alloc | apply pw_below_drewN | apply below_drew1 | refine below_set ?_ GE120.out | refine below_set ?_ GE129.out) | exact HB.out)⟩⟩
                  ·
                   rw [if_neg c53] at H
                   exact absurd H (by simp)
                 ·
                  rw [if_neg c52] at H
                  exact absurd H (by simp)
                ·
                 rw [if_neg c51] at H
                 have c51b0 : (((rd_T42 t115 x10_3).f3) == 1) = false := beq_eq_false_iff_ne.mpr c51
                 have c51b1 : (((rd_T42 t115 x10_3).f3) != 1) = true := bne_iff_ne.mpr c51
                 have H' := Aside0.mk H
                 clear H
                 obtain ⟨Ao56, co56, eo56⟩ := Kd.R_slice HO_6.out
                 subst eo56
                 have p132 : 0 ≤ (x10_3 : Int) := of_decide_eq_true (by first | (with_reducible assumption) | assumption)
                 have q132 : x10_3 < (t115.length : Int) := of_decide_eq_true (by first | (with_reducible assumption) | assumption)
                 obtain ⟨ad132, e132, hx132_0, hx132_1, hx132_2, hx132_3, hx132_4⟩ := at_T42 (Kd.R_reads' HO_6.out).2.2 x10_3 p132 q132
                 cases e132
                 replace p132 := eq_true p132
                 replace q132 := eq_true q132
                 obtain ⟨Ao57, co57, eo57⟩ := Kd.R_slice HO_8.out
                 subst eo57
                 have p133 : 0 ≤ (x10_3 : Int) := of_decide_eq_true (by first | (with_reducible assumption) | assumption)
                 have q133 : x10_3 < (t124.length : Int) := of_decide_eq_true (by first | (with_reducible assumption) | assumption)
                 obtain ⟨ad133, e133, hx133_0, hx133_1, hx133_2, hx133_3, hx133_4⟩ := at_T42 (Kd.R_reads' HO_8.out).2.2 x10_3 p133 q133
                 cases e133
                 replace p133 := eq_true p133
                 replace q133 := eq_true q133
                 have p134 : 0 ≤ (x10_3 : Int) := of_decide_eq_true (by first | (with_reducible assumption) | assumption)
                 have q134 : x10_3 < (t115.length : Int) := of_decide_eq_true (by first | (with_reducible assumption) | assumption)
                 obtain ⟨ad134, e134, hx134_0, hx134_1, hx134_2, hx134_3, hx134_4⟩ := at_T42 (Kd.R_reads' HO_6.out).2.2 x10_3 p134 q134
                 obtain rfl : ad132 = ad134 := (by injection e134)
                 replace p134 := eq_true p134
                 replace q134 := eq_true q134
                 have p135 : 0 ≤ (x10_3 : Int) := of_decide_eq_true (by first | (with_reducible assumption) | assumption)
                 have q135 : x10_3 < (t124.length : Int) := of_decide_eq_true (by first | (with_reducible assumption) | assumption)
                 obtain ⟨ad135, e135, hx135_0, hx135_1, hx135_2, hx135_3, hx135_4⟩ := at_T42 (Kd.R_reads' HO_8.out).2.2 x10_3 p135 q135
                 obtain rfl : ad133 = ad135 := (by injection e135)
                 replace p135 := eq_true p135
                 replace q135 := eq_true q135
                 have p136 : 0 ≤ (x10_3 : Int) := of_decide_eq_true (by first | (with_reducible assumption) | assumption)
                 have q136 : x10_3 < (t115.length : Int) := of_decide_eq_true (by first | (with_reducible assumption) | assumption)
                 obtain ⟨ad136, e136, hx136_0, hx136_1, hx136_2, hx136_3, hx136_4⟩ := at_T42 (Kd.R_reads' HO_6.out).2.2 x10_3 p136 q136
                 obtain rfl : ad132 = ad136 := (by injection e136)
                 replace p136 := eq_true p136
                 replace q136 := eq_true q136
                 go_wp2
                 repeat (go_quiet (fail); try go_wp2)
                 go_roundg k3
                 case measure => have := HK1.out; have := HJ22.out; have := HK3.out; omega
                 case rel => exact ⟨(wrap64 (x10_3 + 1)), (by first | rfl | (simp; done) | (simp [*]; done) | (simp [show ∀ l_ : List UInt8, (l_ != []) = !l_.isEmpty from fun l_ => by cases l_ <;> rfl]; done) | (congr 1; refine congr (congrArg (Go.bits _ _) ?_) ?_ <;> omega)), H', ⟨by have := HK1.out; have := HJ22.out; have := HK3.out; omega⟩, ⟨by (with_reducible repeat (first | apply Kd.R_alloc | apply Kd.R_drewN | apply Kd.R_drew)); exact HO_6.out⟩, ⟨by (with_reducible repeat (first | apply Kd.R_alloc | apply Kd.R_drewN | apply Kd.R_drew)); exact HO_8.out⟩, ⟨by (with_reducible repeat (first | refine blk_drewN ?_ _ | refine blk_drew ?_ | refine blk_alloc ?_ _)); exact BK120.out⟩, ⟨by (with_reducible repeat (first | refine blk_drewN ?_ _ | refine blk_drew ?_ | refine blk_alloc ?_ _)); exact BK129.out⟩, ⟨by repeat (first | (with_reducible first | exact HB.out | apply below_alloc | apply pw_below_drewN | apply below_drew1 | refine below_set ?_ GE120.out | refine below_set ?_ GE129.out) | exact HB.out)⟩⟩
               ·
                rw [if_neg c50] at H
                exact absurd H (by simp)
              ·
               rw [if_neg c49] at H
               exact absurd H (by simp)
             ·
              rw [if_neg c48] at H
              exact absurd H (by simp)
            ·
             rw [if_neg c47] at H
             exact absurd H (by simp)
           ·
            rw [if_neg c46] at H
            have c46b0 : decide (x10_3 < (t115.length : Int)) = false := decide_eq_false c46
            clear c46
            replace H := Option.bind_eq_some_iff.mp H
            obtain ⟨t141, A580, H⟩ := H
            replace H : (some t141) = some r := H
            have A58 := Aside0.mk A580
            clear A580
            obtain rfl := Option.some.inj H
            obtain ⟨Ao59, co59, eo59⟩ := Kd.R_slice HO_6.out
            subst eo59
            go_wp2_with (first | (go_at_call 10; (with_reducible refine (gangwaylaw18_live.calls  t141 _ A58.out).mono ?_); rintro e w60 ⟨rfl, hb⟩; have n0_ := Aside0.mk (Kd.R_below (by (with_reducible repeat (first | apply Kd.R_alloc | apply Kd.R_drewN | apply Kd.R_drew)); exact HO_6.out) hb); have n1_ := Aside0.mk (Kd.R_below (by (with_reducible repeat (first | apply Kd.R_alloc | apply Kd.R_drewN | apply Kd.R_drew)); exact HO_8.out) hb); have n2_ := Aside0.mk (blk_below (g := gb120) (o := .cells #[.int .i64 t118, .string t119] 26 (0, 0)) (by (with_reducible repeat (first | refine blk_drewN ?_ _ | refine blk_drew ?_ | refine blk_alloc ?_ _)); exact BK120.out) hb); have n3_ := Aside0.mk (blk_below (g := gb129) (o := .cells #[.int .i64 t127, .string t128] 26 (0, 0)) (by (with_reducible repeat (first | refine blk_drewN ?_ _ | refine blk_drew ?_ | refine blk_alloc ?_ _)); exact BK129.out) hb); have n4_ := Aside0.mk (below_step (by repeat (first | (with_reducible first | exact HB.out | apply below_alloc | apply pw_below_drewN | apply below_drew1 | refine below_set ?_ GE120.out | refine below_set ?_ GE129.out) | exact HB.out)) hb); clear HO_6; clear HO_8; clear BK120; clear BK129; clear HB; have HO_6 := n0_; have HO_8 := n1_; have BK120 := n2_; have BK129 := n3_; have HB := n4_; clear n0_ n1_ n2_ n3_ n4_; (try clear hb); (try clear hb2); (try clear hk); (try clear hi)))
            repeat (go_quiet (first | (go_at_call 10; (with_reducible refine (gangwaylaw18_live.calls  t141 _ A58.out).mono ?_); rintro e w60 ⟨rfl, hb⟩; have n0_ := Aside0.mk (Kd.R_below (by (with_reducible repeat (first | apply Kd.R_alloc | apply Kd.R_drewN | apply Kd.R_drew)); exact HO_6.out) hb); have n1_ := Aside0.mk (Kd.R_below (by (with_reducible repeat (first | apply Kd.R_alloc | apply Kd.R_drewN | apply Kd.R_drew)); exact HO_8.out) hb); have n2_ := Aside0.mk (blk_below (g := gb120) (o := .cells #[.int .i64 t118, .string t119] 26 (0, 0)) (by (with_reducible repeat (first | refine blk_drewN ?_ _ | refine blk_drew ?_ | refine blk_alloc ?_ _)); exact BK120.out) hb); have n3_ := Aside0.mk (blk_below (g := gb129) (o := .cells #[.int .i64 t127, .string t128] 26 (0, 0)) (by (with_reducible repeat (first | refine blk_drewN ?_ _ | refine blk_drew ?_ | refine blk_alloc ?_ _)); exact BK129.out) hb); have n4_ := Aside0.mk (below_step (by repeat (first | (with_reducible first | exact HB.out | apply below_alloc | apply pw_below_drewN | apply below_drew1 | refine below_set ?_ GE120.out | refine below_set ?_ GE129.out) | exact HB.out)) hb); clear HO_6; clear HO_8; clear BK120; clear BK129; clear HB; have HO_6 := n0_; have HO_8 := n1_; have BK120 := n2_; have BK129 := n3_; have HB := n4_; clear n0_ n1_ n2_ n3_ n4_; (try clear hb); (try clear hb2); (try clear hk); (try clear hi))); try go_wp2_with (first | (go_at_call 10; (with_reducible refine (gangwaylaw18_live.calls  t141 _ A58.out).mono ?_); rintro e w60 ⟨rfl, hb⟩; have n0_ := Aside0.mk (Kd.R_below (by (with_reducible repeat (first | apply Kd.R_alloc | apply Kd.R_drewN | apply Kd.R_drew)); exact HO_6.out) hb); have n1_ := Aside0.mk (Kd.R_below (by (with_reducible repeat (first | apply Kd.R_alloc | apply Kd.R_drewN | apply Kd.R_drew)); exact HO_8.out) hb); have n2_ := Aside0.mk (blk_below (g := gb120) (o := .cells #[.int .i64 t118, .string t119] 26 (0, 0)) (by (with_reducible repeat (first | refine blk_drewN ?_ _ | refine blk_drew ?_ | refine blk_alloc ?_ _)); exact BK120.out) hb); have n3_ := Aside0.mk (blk_below (g := gb129) (o := .cells #[.int .i64 t127, .string t128] 26 (0, 0)) (by (with_reducible repeat (first | refine blk_drewN ?_ _ | refine blk_drew ?_ | refine blk_alloc ?_ _)); exact BK129.out) hb); have n4_ := Aside0.mk (below_step (by repeat (first | (with_reducible first | exact HB.out | apply below_alloc | apply pw_below_drewN | apply below_drew1 | refine below_set ?_ GE120.out | refine below_set ?_ GE129.out) | exact HB.out)) hb); clear HO_6; clear HO_8; clear BK120; clear BK129; clear HB; have HO_6 := n0_; have HO_8 := n1_; have BK120 := n2_; have BK129 := n3_; have HB := n4_; clear n0_ n1_ n2_ n3_ n4_; (try clear hb); (try clear hb2); (try clear hk); (try clear hi))))
            go_ret
            exact ⟨by first | rfl | (simp [errW_none, errW_some] <;> rfl) | (simp [*, errW_none, errW_some] <;> rfl), by repeat (first | (with_reducible first | exact HB.out | apply below_alloc | apply pw_below_drewN | apply below_drew1 | refine below_set ?_ GE120.out | refine below_set ?_ GE129.out) | exact HB.out)⟩
  ·
   rw [if_neg c8] at H
   exact absurd H (by simp)
 ·
  rw [if_neg c7] at H
  have c7b0 : (t111 == 0) = false := beq_eq_false_iff_ne.mpr c7
  have c7b1 : (t111 != 0) = true := bne_iff_ne.mpr c7
  by_cases c61 : (wrap64 ((t101.length : Int) + (t107.length : Int))) = 0
  ·
   rw [if_pos c61] at H
   have c61b0 : ((wrap64 ((t101.length : Int) + (t107.length : Int))) == 0) = true := beq_iff_eq.mpr c61
   have c61b1 : ((wrap64 ((t101.length : Int) + (t107.length : Int))) != 0) = false := bne_eq_false_iff_eq.mpr c61
   clear c61
   replace H := Option.bind_eq_some_iff.mp H
   obtain ⟨t112, A620, H⟩ := H
   replace H : (some t112) = some r := H
   have A62 := Aside0.mk A620
   clear A620
   obtain rfl := Option.some.inj H
   go_enter Try.func4, Try.ntmps4
   go_wp2_with (first | (go_at_call 15; (with_reducible refine (resolve_Faults.calls _ _ l0 t101 _ ?side1 ?side2 A2.out).mono ?_); (case side1 => repeat (first | exact HR0.out | (with_reducible refine Kd.C_alloc ?_ _) | (with_reducible refine Kd.C_drewN ?_ _) | (with_reducible refine Kd.C_drew ?_))); (case side2 => exact HC0.out); rintro e w63 ⟨v102, rfl, ho0, hb⟩; have n0_ := Aside0.mk (Kd.R_lower ho0 (below_size (by repeat (first | (with_reducible first | exact HB.out | apply below_alloc | apply pw_below_drewN | apply below_drew1) | exact HB.out)))); have n1_ := Aside0.mk (below_step (by repeat (first | (with_reducible first | exact HB.out | apply below_alloc | apply pw_below_drewN | apply below_drew1) | exact HB.out)) hb); clear HB; have HO103 := n0_; have HB := n1_; clear n0_ n1_; (try clear hb); (try clear hb2); (try clear hk); (try clear hi); (try clear ho0)) | (go_at_call 16; (with_reducible refine (gangwaylaw18_turned.calls k (fun k_ => k_ < w.heap.size) _ _ l0 t104 _ ?side1 A3.out).mono ?_); (case side1 => exact Kd.V_mk HC0.out (Kd.F_below (Kd.C_F k36_heap HR0.out) (by repeat (first | (with_reducible first | exact HB.out | apply below_alloc | apply pw_below_drewN | apply below_drew1) | exact HB.out)))); rintro e w64 ⟨v105, rfl, ho0, hb⟩; have n0_ := Aside0.mk (Kd.R_below (by (with_reducible repeat (first | apply Kd.R_alloc | apply Kd.R_drewN | apply Kd.R_drew)); exact HO103.out) hb); have n1_ := Aside0.mk (Kd.N_lower (Kd.N_mono (ok' := fun k_ => some k_ ≠ (v102 : Value).ownBlock) ho0 (fun k_ hk_ => Or.elim hk_ (fun hs_ => fun e_ => Nat.not_le.2 hs_ (Kd.R_base HO103.out k_ e_.symm)) (fun hn_ => (Kd.fresh' (Kd.R_lt (by (with_reducible repeat (first | apply Kd.R_alloc | apply Kd.R_drewN | apply Kd.R_drew)); exact HO103.out)) k_ hn_)))) (below_size (by repeat (first | (with_reducible first | exact HB.out | apply below_alloc | apply pw_below_drewN | apply below_drew1) | exact HB.out)))); have n2_ := Aside0.mk (below_step (by repeat (first | (with_reducible first | exact HB.out | apply below_alloc | apply pw_below_drewN | apply below_drew1) | exact HB.out)) hb); clear HO103; clear HB; have HO103 := n0_; have HO106 := n1_; have HB := n2_; clear n0_ n1_ n2_; (try clear hb); (try clear hb2); (try clear hk); (try clear hi); (try clear ho0); obtain ⟨Ao65, co65, eo65⟩ := Kd.N_slice HO106.out; subst eo65) | (go_at_call 15; (with_reducible refine (resolve_Faults.calls _ _ t104 t107 _ ?side1 ?side2 A4.out).mono ?_); (case side1 => repeat (first | exact (Kd.N_reads' HO106.out).2.2 | (with_reducible refine Kd.C_alloc ?_ _) | (with_reducible refine Kd.C_drewN ?_ _) | (with_reducible refine Kd.C_drew ?_))); (case side2 => exact (Kd.N_reads' HO106.out).2.1); rintro e w66 ⟨v108, rfl, ho0, hb⟩; have n0_ := Aside0.mk (Kd.R_elder' (by (with_reducible repeat (first | apply Kd.R_alloc | apply Kd.R_drewN | apply Kd.R_drew)); exact HO103.out) (Kd.R_base ho0) hb); have n1_ := Aside0.mk (Kd.N_elder' (by (with_reducible repeat (first | apply Kd.N_alloc | apply Kd.N_drewN | apply Kd.N_drew)); exact HO106.out) (Kd.R_base ho0) hb); have n2_ := Aside0.mk (Kd.R_lower (Kd.R_new' ho0 (Kd.R_lt (by (with_reducible repeat (first | apply Kd.R_alloc | apply Kd.R_drewN | apply Kd.R_drew)); exact HO103.out))) (below_size (by repeat (first | (with_reducible first | exact HB.out | apply below_alloc | apply pw_below_drewN | apply below_drew1) | exact HB.out)))); have n3_ := Aside0.mk (below_step (by repeat (first | (with_reducible first | exact HB.out | apply below_alloc | apply pw_below_drewN | apply below_drew1) | exact HB.out)) hb); clear HO103; clear HO106; clear HB; have HO103 := n0_; have HO106 := n1_; have HO109 := n2_; have HB := n3_; clear n0_ n1_ n2_ n3_; (try clear hb); (try clear hb2); (try clear hk); (try clear hi); (try clear ho0)) | (go_at_call 9; (with_reducible refine (resolve_Check.calls _ _ l0 t110 _ ?side1 ?side2 A5.out).mono ?_); (case side1 => repeat (first | exact (Kd.C_below HR0.out HB.out) | (with_reducible refine Kd.C_alloc ?_ _) | (with_reducible refine Kd.C_drewN ?_ _) | (with_reducible refine Kd.C_drew ?_))); (case side2 => exact HC0.out); rintro e w67 ⟨rfl, hb⟩; have n0_ := Aside0.mk (Kd.R_below (by (with_reducible repeat (first | apply Kd.R_alloc | apply Kd.R_drewN | apply Kd.R_drew)); exact HO103.out) hb); have n1_ := Aside0.mk (Kd.N_below (by (with_reducible repeat (first | apply Kd.N_alloc | apply Kd.N_drewN | apply Kd.N_drew)); exact HO106.out) hb); have n2_ := Aside0.mk (Kd.R_below (by (with_reducible repeat (first | apply Kd.R_alloc | apply Kd.R_drewN | apply Kd.R_drew)); exact HO109.out) hb); have n3_ := Aside0.mk (below_step (by repeat (first | (with_reducible first | exact HB.out | apply below_alloc | apply pw_below_drewN | apply below_drew1) | exact HB.out)) hb); clear HO103; clear HO106; clear HO109; clear HB; have HO103 := n0_; have HO106 := n1_; have HO109 := n2_; have HB := n3_; clear n0_ n1_ n2_ n3_; (try clear hb); (try clear hb2); (try clear hk); (try clear hi)) | (go_at_call 8; (with_reducible refine (gangwaylaw18_num.calls t110 t111 _ A6.out).mono ?_); rintro e w' ⟨rfl, ⟨nd, rfl⟩⟩; (try first | exact ⟨rfl, _, World.drewN_drewN _ _ _⟩ | exact ⟨rfl, _, Eq.trans (World.drewN_drewN _ _ _) (congrArg (World.drewN _) (Nat.add_assoc _ _ _))⟩); obtain ⟨Ao68, co68, eo68⟩ := Kd.R_slice HO103.out; subst eo68; obtain ⟨Ao69, co69, eo69⟩ := Kd.R_slice HO109.out; subst eo69) | (go_at_call 10; (with_reducible refine (gangwaylaw18_live.calls  t112 _ A62.out).mono ?_); rintro e w70 ⟨rfl, hb⟩; have n0_ := Aside0.mk (Kd.R_below (by (with_reducible repeat (first | apply Kd.R_alloc | apply Kd.R_drewN | apply Kd.R_drew)); exact HO103.out) hb); have n1_ := Aside0.mk (Kd.N_below (by (with_reducible repeat (first | apply Kd.N_alloc | apply Kd.N_drewN | apply Kd.N_drew)); exact HO106.out) hb); have n2_ := Aside0.mk (Kd.R_below (by (with_reducible repeat (first | apply Kd.R_alloc | apply Kd.R_drewN | apply Kd.R_drew)); exact HO109.out) hb); have n3_ := Aside0.mk (below_step (by repeat (first | (with_reducible first | exact HB.out | apply below_alloc | apply pw_below_drewN | apply below_drew1) | exact HB.out)) hb); clear HO103; clear HO106; clear HO109; clear HB; have HO103 := n0_; have HO106 := n1_; have HO109 := n2_; have HB := n3_; clear n0_ n1_ n2_ n3_; (try clear hb); (try clear hb2); (try clear hk); (try clear hi)))
   repeat (go_quiet (first | (go_at_call 15; (with_reducible refine (resolve_Faults.calls _ _ l0 t101 _ ?side1 ?side2 A2.out).mono ?_); (case side1 => repeat (first | exact HR0.out | (with_reducible refine Kd.C_alloc ?_ _) | (with_reducible refine Kd.C_drewN ?_ _) | (with_reducible refine Kd.C_drew ?_))); (case side2 => exact HC0.out); rintro e w63 ⟨v102, rfl, ho0, hb⟩; have n0_ := Aside0.mk (Kd.R_lower ho0 (below_size (by repeat (first | (with_reducible first | exact HB.out | apply below_alloc | apply pw_below_drewN | apply below_drew1) | exact HB.out)))); have n1_ := Aside0.mk (below_step (by repeat (first | (with_reducible first | exact HB.out | apply below_alloc | apply pw_below_drewN | apply below_drew1) | exact HB.out)) hb); clear HB; have HO103 := n0_; have HB := n1_; clear n0_ n1_; (try clear hb); (try clear hb2); (try clear hk); (try clear hi); (try clear ho0)) | (go_at_call 16; (with_reducible refine (gangwaylaw18_turned.calls k (fun k_ => k_ < w.heap.size) _ _ l0 t104 _ ?side1 A3.out).mono ?_); (case side1 => exact Kd.V_mk HC0.out (Kd.F_below (Kd.C_F k36_heap HR0.out) (by repeat (first | (with_reducible first | exact HB.out | apply below_alloc | apply pw_below_drewN | apply below_drew1) | exact HB.out)))); rintro e w64 ⟨v105, rfl, ho0, hb⟩; have n0_ := Aside0.mk (Kd.R_below (by (with_reducible repeat (first | apply Kd.R_alloc | apply Kd.R_drewN | apply Kd.R_drew)); exact HO103.out) hb); have n1_ := Aside0.mk (Kd.N_lower (Kd.N_mono (ok' := fun k_ => some k_ ≠ (v102 : Value).ownBlock) ho0 (fun k_ hk_ => Or.elim hk_ (fun hs_ => fun e_ => Nat.not_le.2 hs_ (Kd.R_base HO103.out k_ e_.symm)) (fun hn_ => (Kd.fresh' (Kd.R_lt (by (with_reducible repeat (first | apply Kd.R_alloc | apply Kd.R_drewN | apply Kd.R_drew)); exact HO103.out)) k_ hn_)))) (below_size (by repeat (first | (with_reducible first | exact HB.out | apply below_alloc | apply pw_below_drewN | apply below_drew1) | exact HB.out)))); have n2_ := Aside0.mk (below_step (by repeat (first | (with_reducible first | exact HB.out | apply below_alloc | apply pw_below_drewN | apply below_drew1) | exact HB.out)) hb); clear HO103; clear HB; have HO103 := n0_; have HO106 := n1_; have HB := n2_; clear n0_ n1_ n2_; (try clear hb); (try clear hb2); (try clear hk); (try clear hi); (try clear ho0); obtain ⟨Ao65, co65, eo65⟩ := Kd.N_slice HO106.out; subst eo65) | (go_at_call 15; (with_reducible refine (resolve_Faults.calls _ _ t104 t107 _ ?side1 ?side2 A4.out).mono ?_); (case side1 => repeat (first | exact (Kd.N_reads' HO106.out).2.2 | (with_reducible refine Kd.C_alloc ?_ _) | (with_reducible refine Kd.C_drewN ?_ _) | (with_reducible refine Kd.C_drew ?_))); (case side2 => exact (Kd.N_reads' HO106.out).2.1); rintro e w66 ⟨v108, rfl, ho0, hb⟩; have n0_ := Aside0.mk (Kd.R_elder' (by (with_reducible repeat (first | apply Kd.R_alloc | apply Kd.R_drewN | apply Kd.R_drew)); exact HO103.out) (Kd.R_base ho0) hb); have n1_ := Aside0.mk (Kd.N_elder' (by (with_reducible repeat (first | apply Kd.N_alloc | apply Kd.N_drewN | apply Kd.N_drew)); exact HO106.out) (Kd.R_base ho0) hb); have n2_ := Aside0.mk (Kd.R_lower (Kd.R_new' ho0 (Kd.R_lt (by (with_reducible repeat (first | apply Kd.R_alloc | apply Kd.R_drewN | apply Kd.R_drew)); exact HO103.out))) (below_size (by repeat (first | (with_reducible first | exact HB.out | apply below_alloc | apply pw_below_drewN | apply below_drew1) | exact HB.out)))); have n3_ := Aside0.mk (below_step (by repeat (first | (with_reducible first | exact HB.out | apply below_alloc | apply pw_below_drewN | apply below_drew1) | exact HB.out)) hb); clear HO103; clear HO106; clear HB; have HO103 := n0_; have HO106 := n1_; have HO109 := n2_; have HB := n3_; clear n0_ n1_ n2_ n3_; (try clear hb); (try clear hb2); (try clear hk); (try clear hi); (try clear ho0)) | (go_at_call 9; (with_reducible refine (resolve_Check.calls _ _ l0 t110 _ ?side1 ?side2 A5.out).mono ?_); (case side1 => repeat (first | exact (Kd.C_below HR0.out HB.out) | (with_reducible refine Kd.C_alloc ?_ _) | (with_reducible refine Kd.C_drewN ?_ _) | (with_reducible refine Kd.C_drew ?_))); (case side2 => exact HC0.out); rintro e w67 ⟨rfl, hb⟩; have n0_ := Aside0.mk (Kd.R_below (by (with_reducible repeat (first | apply Kd.R_alloc | apply Kd.R_drewN | apply Kd.R_drew)); exact HO103.out) hb); have n1_ := Aside0.mk (Kd.N_below (by (with_reducible repeat (first | apply Kd.N_alloc | apply Kd.N_drewN | apply Kd.N_drew)); exact HO106.out) hb); have n2_ := Aside0.mk (Kd.R_below (by (with_reducible repeat (first | apply Kd.R_alloc | apply Kd.R_drewN | apply Kd.R_drew)); exact HO109.out) hb); have n3_ := Aside0.mk (below_step (by repeat (first | (with_reducible first | exact HB.out | apply below_alloc | apply pw_below_drewN | apply below_drew1) | exact HB.out)) hb); clear HO103; clear HO106; clear HO109; clear HB; have HO103 := n0_; have HO106 := n1_; have HO109 := n2_; have HB := n3_; clear n0_ n1_ n2_ n3_; (try clear hb); (try clear hb2); (try clear hk); (try clear hi)) | (go_at_call 8; (with_reducible refine (gangwaylaw18_num.calls t110 t111 _ A6.out).mono ?_); rintro e w' ⟨rfl, ⟨nd, rfl⟩⟩; (try first | exact ⟨rfl, _, World.drewN_drewN _ _ _⟩ | exact ⟨rfl, _, Eq.trans (World.drewN_drewN _ _ _) (congrArg (World.drewN _) (Nat.add_assoc _ _ _))⟩); obtain ⟨Ao68, co68, eo68⟩ := Kd.R_slice HO103.out; subst eo68; obtain ⟨Ao69, co69, eo69⟩ := Kd.R_slice HO109.out; subst eo69) | (go_at_call 10; (with_reducible refine (gangwaylaw18_live.calls  t112 _ A62.out).mono ?_); rintro e w70 ⟨rfl, hb⟩; have n0_ := Aside0.mk (Kd.R_below (by (with_reducible repeat (first | apply Kd.R_alloc | apply Kd.R_drewN | apply Kd.R_drew)); exact HO103.out) hb); have n1_ := Aside0.mk (Kd.N_below (by (with_reducible repeat (first | apply Kd.N_alloc | apply Kd.N_drewN | apply Kd.N_drew)); exact HO106.out) hb); have n2_ := Aside0.mk (Kd.R_below (by (with_reducible repeat (first | apply Kd.R_alloc | apply Kd.R_drewN | apply Kd.R_drew)); exact HO109.out) hb); have n3_ := Aside0.mk (below_step (by repeat (first | (with_reducible first | exact HB.out | apply below_alloc | apply pw_below_drewN | apply below_drew1) | exact HB.out)) hb); clear HO103; clear HO106; clear HO109; clear HB; have HO103 := n0_; have HO106 := n1_; have HO109 := n2_; have HB := n3_; clear n0_ n1_ n2_ n3_; (try clear hb); (try clear hb2); (try clear hk); (try clear hi))); try go_wp2_with (first | (go_at_call 15; (with_reducible refine (resolve_Faults.calls _ _ l0 t101 _ ?side1 ?side2 A2.out).mono ?_); (case side1 => repeat (first | exact HR0.out | (with_reducible refine Kd.C_alloc ?_ _) | (with_reducible refine Kd.C_drewN ?_ _) | (with_reducible refine Kd.C_drew ?_))); (case side2 => exact HC0.out); rintro e w63 ⟨v102, rfl, ho0, hb⟩; have n0_ := Aside0.mk (Kd.R_lower ho0 (below_size (by repeat (first | (with_reducible first | exact HB.out | apply below_alloc | apply pw_below_drewN | apply below_drew1) | exact HB.out)))); have n1_ := Aside0.mk (below_step (by repeat (first | (with_reducible first | exact HB.out | apply below_alloc | apply pw_below_drewN | apply below_drew1) | exact HB.out)) hb); clear HB; have HO103 := n0_; have HB := n1_; clear n0_ n1_; (try clear hb); (try clear hb2); (try clear hk); (try clear hi); (try clear ho0)) | (go_at_call 16; (with_reducible refine (gangwaylaw18_turned.calls k (fun k_ => k_ < w.heap.size) _ _ l0 t104 _ ?side1 A3.out).mono ?_); (case side1 => exact Kd.V_mk HC0.out (Kd.F_below (Kd.C_F k36_heap HR0.out) (by repeat (first | (with_reducible first | exact HB.out | apply below_alloc | apply pw_below_drewN | apply below_drew1) | exact HB.out)))); rintro e w64 ⟨v105, rfl, ho0, hb⟩; have n0_ := Aside0.mk (Kd.R_below (by (with_reducible repeat (first | apply Kd.R_alloc | apply Kd.R_drewN | apply Kd.R_drew)); exact HO103.out) hb); have n1_ := Aside0.mk (Kd.N_lower (Kd.N_mono (ok' := fun k_ => some k_ ≠ (v102 : Value).ownBlock) ho0 (fun k_ hk_ => Or.elim hk_ (fun hs_ => fun e_ => Nat.not_le.2 hs_ (Kd.R_base HO103.out k_ e_.symm)) (fun hn_ => (Kd.fresh' (Kd.R_lt (by (with_reducible repeat (first | apply Kd.R_alloc | apply Kd.R_drewN | apply Kd.R_drew)); exact HO103.out)) k_ hn_)))) (below_size (by repeat (first | (with_reducible first | exact HB.out | apply below_alloc | apply pw_below_drewN | apply below_drew1) | exact HB.out)))); have n2_ := Aside0.mk (below_step (by repeat (first | (with_reducible first | exact HB.out | apply below_alloc | apply pw_below_drewN | apply below_drew1) | exact HB.out)) hb); clear HO103; clear HB; have HO103 := n0_; have HO106 := n1_; have HB := n2_; clear n0_ n1_ n2_; (try clear hb); (try clear hb2); (try clear hk); (try clear hi); (try clear ho0); obtain ⟨Ao65, co65, eo65⟩ := Kd.N_slice HO106.out; subst eo65) | (go_at_call 15; (with_reducible refine (resolve_Faults.calls _ _ t104 t107 _ ?side1 ?side2 A4.out).mono ?_); (case side1 => repeat (first | exact (Kd.N_reads' HO106.out).2.2 | (with_reducible refine Kd.C_alloc ?_ _) | (with_reducible refine Kd.C_drewN ?_ _) | (with_reducible refine Kd.C_drew ?_))); (case side2 => exact (Kd.N_reads' HO106.out).2.1); rintro e w66 ⟨v108, rfl, ho0, hb⟩; have n0_ := Aside0.mk (Kd.R_elder' (by (with_reducible repeat (first | apply Kd.R_alloc | apply Kd.R_drewN | apply Kd.R_drew)); exact HO103.out) (Kd.R_base ho0) hb); have n1_ := Aside0.mk (Kd.N_elder' (by (with_reducible repeat (first | apply Kd.N_alloc | apply Kd.N_drewN | apply Kd.N_drew)); exact HO106.out) (Kd.R_base ho0) hb); have n2_ := Aside0.mk (Kd.R_lower (Kd.R_new' ho0 (Kd.R_lt (by (with_reducible repeat (first | apply Kd.R_alloc | apply Kd.R_drewN | apply Kd.R_drew)); exact HO103.out))) (below_size (by repeat (first | (with_reducible first | exact HB.out | apply below_alloc | apply pw_below_drewN | apply below_drew1) | exact HB.out)))); have n3_ := Aside0.mk (below_step (by repeat (first | (with_reducible first | exact HB.out | apply below_alloc | apply pw_below_drewN | apply below_drew1) | exact HB.out)) hb); clear HO103; clear HO106; clear HB; have HO103 := n0_; have HO106 := n1_; have HO109 := n2_; have HB := n3_; clear n0_ n1_ n2_ n3_; (try clear hb); (try clear hb2); (try clear hk); (try clear hi); (try clear ho0)) | (go_at_call 9; (with_reducible refine (resolve_Check.calls _ _ l0 t110 _ ?side1 ?side2 A5.out).mono ?_); (case side1 => repeat (first | exact (Kd.C_below HR0.out HB.out) | (with_reducible refine Kd.C_alloc ?_ _) | (with_reducible refine Kd.C_drewN ?_ _) | (with_reducible refine Kd.C_drew ?_))); (case side2 => exact HC0.out); rintro e w67 ⟨rfl, hb⟩; have n0_ := Aside0.mk (Kd.R_below (by (with_reducible repeat (first | apply Kd.R_alloc | apply Kd.R_drewN | apply Kd.R_drew)); exact HO103.out) hb); have n1_ := Aside0.mk (Kd.N_below (by (with_reducible repeat (first | apply Kd.N_alloc | apply Kd.N_drewN | apply Kd.N_drew)); exact HO106.out) hb); have n2_ := Aside0.mk (Kd.R_below (by (with_reducible repeat (first | apply Kd.R_alloc | apply Kd.R_drewN | apply Kd.R_drew)); exact HO109.out) hb); have n3_ := Aside0.mk (below_step (by repeat (first | (with_reducible first | exact HB.out | apply below_alloc | apply pw_below_drewN | apply below_drew1) | exact HB.out)) hb); clear HO103; clear HO106; clear HO109; clear HB; have HO103 := n0_; have HO106 := n1_; have HO109 := n2_; have HB := n3_; clear n0_ n1_ n2_ n3_; (try clear hb); (try clear hb2); (try clear hk); (try clear hi)) | (go_at_call 8; (with_reducible refine (gangwaylaw18_num.calls t110 t111 _ A6.out).mono ?_); rintro e w' ⟨rfl, ⟨nd, rfl⟩⟩; (try first | exact ⟨rfl, _, World.drewN_drewN _ _ _⟩ | exact ⟨rfl, _, Eq.trans (World.drewN_drewN _ _ _) (congrArg (World.drewN _) (Nat.add_assoc _ _ _))⟩); obtain ⟨Ao68, co68, eo68⟩ := Kd.R_slice HO103.out; subst eo68; obtain ⟨Ao69, co69, eo69⟩ := Kd.R_slice HO109.out; subst eo69) | (go_at_call 10; (with_reducible refine (gangwaylaw18_live.calls  t112 _ A62.out).mono ?_); rintro e w70 ⟨rfl, hb⟩; have n0_ := Aside0.mk (Kd.R_below (by (with_reducible repeat (first | apply Kd.R_alloc | apply Kd.R_drewN | apply Kd.R_drew)); exact HO103.out) hb); have n1_ := Aside0.mk (Kd.N_below (by (with_reducible repeat (first | apply Kd.N_alloc | apply Kd.N_drewN | apply Kd.N_drew)); exact HO106.out) hb); have n2_ := Aside0.mk (Kd.R_below (by (with_reducible repeat (first | apply Kd.R_alloc | apply Kd.R_drewN | apply Kd.R_drew)); exact HO109.out) hb); have n3_ := Aside0.mk (below_step (by repeat (first | (with_reducible first | exact HB.out | apply below_alloc | apply pw_below_drewN | apply below_drew1) | exact HB.out)) hb); clear HO103; clear HO106; clear HO109; clear HB; have HO103 := n0_; have HO106 := n1_; have HO109 := n2_; have HB := n3_; clear n0_ n1_ n2_ n3_; (try clear hb); (try clear hb2); (try clear hk); (try clear hi))))
   go_ret
   exact ⟨by first | rfl | (simp [errW_none, errW_some] <;> rfl) | (simp [*, errW_none, errW_some] <;> rfl), by repeat (first | (with_reducible first | exact HB.out | apply below_alloc | apply pw_below_drewN | apply below_drew1) | exact HB.out)⟩
  ·
   rw [if_neg c61] at H
   exact absurd H (by simp)
end Go.Proofs.Ytibkcnlcmempgaa.G
end
section
namespace Go.Proofs.Ytibkcnlcmempgaa.Stmt
open Go.RowKit Go.Proofs.Ytibkcnlcmempgaa.G Go.Proofs.YtibkcnlcmempgaaW.PrintWords
set_option linter.unusedVariables false
def wf146 (x : S146) : Prop := ((Lit.int .i64 x.f0).wf = true) ∧ ((Lit.int .i64 x.f1).wf = true) ∧ (x.f2.size ≤ 140737488351232) ∧ ((Lit.int .i64 x.f3).wf = true)
def wt146 (x : S146) : Nat := (1 + (1 + ((x.f2.size + 1) + (1)))) + 1
def wf72 (x : S72) : Prop := (x.f0.size ≤ 140737488351232) ∧ ((Lit.int .i64 x.f1).wf = true) ∧ ((Lit.int .i64 x.f2).wf = true) ∧ ((Lit.int .i64 x.f3).wf = true) ∧ (x.f4.length * 1 ≤ 140737488351232 ∧ x.f4.length ≤ 9223372036854775807 ∧ ∀ y1 ∈ x.f4, (Lit.int .u8 y1).wf = true) ∧ ((Lit.int .i64 x.f5).wf = true) ∧ (x.f6.length * 40 ≤ 140737488351232 ∧ x.f6.length ≤ 9223372036854775807 ∧ ∀ y1 ∈ x.f6, wf146 y1)
def wt72 (x : S72) : Nat := ((x.f0.size + 1) + (1 + (1 + (1 + (((x.f4.map (fun y => 1)).sum + 1) + (1 + (((x.f6.map wt146).sum + 1)))))))) + 1
def wf38 (x : S38) : Prop := (x.f0.size ≤ 140737488351232) ∧ (x.f1.size ≤ 140737488351232) ∧ ((Lit.int .i64 x.f2).wf = true) ∧ ((Lit.int .i64 x.f3).wf = true) ∧ ((Lit.int .i64 x.f4).wf = true) ∧ ((Lit.int .i64 x.f5).wf = true)
def wt38 (x : S38) : Nat := ((x.f0.size + 1) + ((x.f1.size + 1) + (1 + (1 + (1 + (1)))))) + 1
def wf36 (x : S36) : Prop := (x.f0.length * 96 ≤ 140737488351232 ∧ x.f0.length ≤ 9223372036854775807 ∧ ∀ y1 ∈ x.f0, wf72 y1) ∧ (x.f1.length * 64 ≤ 140737488351232 ∧ x.f1.length ≤ 9223372036854775807 ∧ ∀ y1 ∈ x.f1, wf38 y1)
def wt36 (x : S36) : Nat := (((x.f0.map wt72).sum + 1) + (((x.f1.map wt38).sum + 1))) + 1
def ResolveOrder : Prop := ∀ (l0 : List (S36)), (l0.length * 48 ≤ 140737488351232 ∧ l0.length ≤ 9223372036854775807 ∧ ∀ y1 ∈ l0, wf36 y1) → ∃ k, G.gangwaylaw18_ResolveOrder.f k l0 = some true
end Go.Proofs.Ytibkcnlcmempgaa.Stmt
end
section
namespace Go.Proofs.Ytibkcnlcmempgaa.Res
set_option linter.unusedVariables false
set_option linter.unusedSimpArgs false
open Go.RowKit Go.Proofs.Ytibkcnlcmempgaa.G Go.Proofs.YtibkcnlcmempgaaW.PrintWords
abbrev Ev := Nat × Nat × S38
def symOf (l : List S36) (i j : Nat) : S38 := rd_T38 (rd_T36 l (i : Int)).f1 (j : Int)
/-- all symbols, in the order of their files -/
def evs (l : List S36) : List Ev := (List.range l.length).flatMap fun (i : Nat) => (List.range (rd_T36 l (i : Int)).f1.length).map fun (j : Nat) => (i, j, symOf l i j)
def stepE (tb : List (Key × Mean)) (e : Ev) : List (Key × Mean) := stepSym e.1 e.2.1 e.2.2 tb
theorem names_evs (l : List S36) : namesAt l l.length = (evs l).foldl stepE [] := by
  unfold namesAt evs symsAt
  rw [List.foldl_flatMap]
  simp only [List.foldl_map]
  rfl
theorem lk_ofT {α : Type} (z : α) (k : Key) (tb : List (Key × α)) (n : ByteArray) : lk z (ofT z k tb) n = lk z tb n := by
  unfold ofT lk
  split
  · rfl
  · rename_i h
    rw [List.find?_append]
    cases hf : tb.find? (fun p => p.1 == n.data.toList) with
    | some q => rfl
    | none =>
      simp only [Option.none_or, List.find?_cons, List.find?_nil]
      cases hk : k == n.data.toList <;> rfl
theorem lk_upT {α : Type} (z : α) (k : Key) (f : α → α) (tb : List (Key × α)) (n : ByteArray) (hk : k ∈ tb.map (·.1)) : lk z (upT k f tb) n = if k = n.data.toList then f (lk z tb n) else lk z tb n := by
  unfold lk upT
  rw [List.find?_map]
  have hc : ((fun p : Key × α => p.1 == n.data.toList) ∘ fun p => if p.1 = k then (p.1, f p.2) else p) = fun p => p.1 == n.data.toList := by
    funext p
    simp only [Function.comp]
    split <;> rfl
  rw [hc]
  cases hf : tb.find? (fun p => p.1 == n.data.toList) with
  | none =>
    have hn : k ≠ n.data.toList := by
      rintro rfl
      obtain ⟨p, hp, e⟩ := List.mem_map.1 hk
      have := List.find?_eq_none.1 hf p hp
      simp [e] at this
    rw [if_neg hn]
    rfl
  | some q =>
    have hq := List.find?_some hf
    have hqk : q.1 = n.data.toList := by simpa using hq
    simp only [Option.map_some, Option.getD_some]
    by_cases h : k = n.data.toList
    · rw [if_pos h, if_pos (hqk.trans h.symm)]
    · rw [if_neg h, if_neg (fun e => h (e.symm.trans hqk))]
def met (m : Mean) (e : Ev) : Mean := meet2 (meet1 m e.2.2 e.1 e.2.1) e.2.2.f5
/-- does a symbol tell of a name? -/
def tells (n : ByteArray) (e : Ev) : Bool := decide (e.2.2.f4 ≠ 0) && (e.2.2.f0.data.toList == n.data.toList)
theorem lk_step (tb : List (Key × Mean)) (e : Ev) (n : ByteArray) : lk zM (stepE tb e) n = if tells n e = true then met (lk zM tb n) e else lk zM tb n := by
  unfold stepE stepSym tells
  by_cases h : e.2.2.f4 = 0
  · rw [if_pos h]
    simp [h]
  · rw [if_neg h, lk_upT _ _ _ _ _ (ofT_mem _ _ _), lk_ofT]
    simp only [met, h, ne_eq, not_false_eq_true, decide_true, Bool.true_and, beq_iff_eq]
theorem lk_fold (n : ByteArray) : ∀ (es : List Ev) (tb : List (Key × Mean)), lk zM (es.foldl stepE tb) n = (es.filter (tells n)).foldl met (lk zM tb n) := by
  intro es
  induction es with
  | nil => intro tb; rfl
  | cons e es ih =>
    intro tb
    rw [List.foldl_cons, ih, lk_step, List.filter_cons]
    split <;> rfl
theorem keys_step (tb : List (Key × Mean)) (e : Ev) (k : Key) : k ∈ (stepE tb e).map (·.1) ↔ k ∈ tb.map (·.1) ∨ (e.2.2.f4 ≠ 0 ∧ e.2.2.f0.data.toList = k) := by
  unfold stepE stepSym
  by_cases h : e.2.2.f4 = 0
  · rw [if_pos h]
    simp [h]
  · rw [if_neg h, upT_keys]
    unfold ofT
    split
    · rename_i hm
      constructor
      · exact .inl
      · rintro (h1 | ⟨_, rfl⟩)
        · exact h1
        · exact hm
    · simp only [List.map_append, List.map_cons, List.map_nil, List.mem_append, List.mem_singleton]
      constructor
      · rintro (h1 | rfl)
        · exact .inl h1
        · exact .inr ⟨h, rfl⟩
      · rintro (h1 | ⟨_, rfl⟩)
        · exact .inl h1
        · exact .inr rfl
theorem keys_fold (k : Key) : ∀ (es : List Ev) (tb : List (Key × Mean)), k ∈ (es.foldl stepE tb).map (·.1) ↔ k ∈ tb.map (·.1) ∨ ∃ e ∈ es, e.2.2.f4 ≠ 0 ∧ e.2.2.f0.data.toList = k := by
  intro es
  induction es with
  | nil => intro tb; simp
  | cons e es ih =>
    intro tb
    rw [List.foldl_cons, ih, keys_step]
    simp only [List.mem_cons, exists_eq_or_imp, or_assoc]
def isStrong (e : Ev) : Bool := !(e.2.2.f1.toList == []) && (e.2.2.f4 == 1)
def isWeak (e : Ev) : Bool := !(e.2.2.f1.toList == []) && !(e.2.2.f4 == 1)
def isNeed (e : Ev) : Bool := (e.2.2.f1.toList == []) && (e.2.2.f4 == 1)
def isTls (e : Ev) : Bool := e.2.2.f5 == 6
def isPlain (e : Ev) : Bool := !(e.2.2.f5 == 0) && !(e.2.2.f5 == 6)
def entE (e : Ev) : S42 := entryOf e.2.2 e.1 e.2.1
/-- what the tellings of a name come to -/
structure Told (es : List Ev) (m : Mean) : Prop where
  strong : m.strong = (es.countP isStrong : Nat)
  weak : m.weak = (es.countP isWeak : Nat)
  needed : m.needed = (es.countP isNeed : Nat)
  tls : m.tls = es.any isTls
  plain : m.plain = es.any isPlain
  first : ∀ e r, es.filter isStrong = e :: r → m.first = entE e
  second : ∀ e r, es.filter isWeak = e :: r → m.second = entE e
theorem meet2_eq (m : Mean) (t : Int) : meet2 m t = { m with tls := m.tls || (t == 6), plain := m.plain || (!(t == 0) && !(t == 6)) } := by
  unfold meet2
  by_cases h : t = 0
  · subst h
    simp
  · rw [if_neg h]
    by_cases h6 : t = 6 <;> simp [h, h6]
theorem told_step {es : List Ev} {m : Mean} (h : Told es m) (e : Ev) : Told (es ++ [e]) (met m e) := by
  have hcs : ∀ p : Ev → Bool, (es ++ [e]).countP p = es.countP p + if p e = true then 1 else 0 := fun p => by
    rw [List.countP_append, List.countP_singleton]
  have hfs : ∀ p : Ev → Bool, (es ++ [e]).filter p = es.filter p ++ if p e = true then [e] else [] := fun p => by
    rw [List.filter_append]
    congr 1
    cases hp : p e <;> simp [hp]
  have has : ∀ p : Ev → Bool, (es ++ [e]).any p = (es.any p || p e) := fun p => by simp [List.any_append]
  obtain ⟨h1, h2, h3, h4, h5, h6, h7⟩ := h
  unfold met
  rw [meet2_eq]
  by_cases hs : e.2.2.f1.toList = []
  · have hst : isStrong e = false := by simp [isStrong, hs]
    have hwk : isWeak e = false := by simp [isWeak, hs]
    by_cases hb : e.2.2.f4 = 1
    · have hnd : isNeed e = true := by simp [isNeed, hs, hb]
      have hm : meet1 m e.2.2 e.1 e.2.1 = { m with needed := m.needed + 1 } := by unfold meet1; rw [if_pos hs, if_pos hb]
      rw [hm]
      refine ⟨?_, ?_, ?_, ?_, ?_, ?_, ?_⟩
      · rw [hcs, hst]; simpa using h1
      · rw [hcs, hwk]; simpa using h2
      · rw [hcs, hnd]; simp only [if_true]; rw [h3]; rfl
      · rw [has, h4]; rfl
      · rw [has, h5]; rfl
      · intro x r hx; rw [hfs, hst] at hx; simp only [Bool.false_eq_true, if_false, List.append_nil] at hx; exact h6 x r hx
      · intro x r hx; rw [hfs, hwk] at hx; simp only [Bool.false_eq_true, if_false, List.append_nil] at hx; exact h7 x r hx
    · have hnd : isNeed e = false := by simp [isNeed, hs, hb]
      have hm : meet1 m e.2.2 e.1 e.2.1 = m := by unfold meet1; rw [if_pos hs, if_neg hb]
      rw [hm]
      refine ⟨?_, ?_, ?_, ?_, ?_, ?_, ?_⟩
      · rw [hcs, hst]; simpa using h1
      · rw [hcs, hwk]; simpa using h2
      · rw [hcs, hnd]; simpa using h3
      · rw [has, h4]; rfl
      · rw [has, h5]; rfl
      · intro x r hx; rw [hfs, hst] at hx; simp only [Bool.false_eq_true, if_false, List.append_nil] at hx; exact h6 x r hx
      · intro x r hx; rw [hfs, hwk] at hx; simp only [Bool.false_eq_true, if_false, List.append_nil] at hx; exact h7 x r hx
  · have hnd : isNeed e = false := by simp [isNeed, hs]
    by_cases hb : e.2.2.f4 = 1
    · have hst : isStrong e = true := by simp [isStrong, hs, hb]
      have hwk : isWeak e = false := by simp [isWeak, hs, hb]
      have hm : (meet1 m e.2.2 e.1 e.2.1) = { m with first := if m.strong = 0 then entE e else m.first, strong := m.strong + 1 } := by
        unfold meet1
        rw [if_neg hs, if_pos hb]
        split <;> rfl
      rw [hm]
      refine ⟨?_, ?_, ?_, ?_, ?_, ?_, ?_⟩
      · rw [hcs, hst]; simp only [if_true]; rw [h1]; rfl
      · rw [hcs, hwk]; simpa using h2
      · rw [hcs, hnd]; simpa using h3
      · rw [has, h4]; rfl
      · rw [has, h5]; rfl
      · intro x r hx
        rw [hfs, hst] at hx
        simp only [if_true] at hx ⊢
        cases hf : es.filter isStrong with
        | nil =>
          have h0 : m.strong = 0 := by rw [h1, List.countP_eq_length_filter, hf]; rfl
          rw [hf] at hx
          injection hx with hx _
          rw [if_pos h0, hx]
        | cons y q =>
          have h0 : ¬ m.strong = 0 := by rw [h1, List.countP_eq_length_filter, hf]; simp; omega
          rw [hf] at hx
          injection hx with hx _
          rw [if_neg h0, ← hx]
          exact h6 y q hf
      · intro x r hx; rw [hfs, hwk] at hx; simp only [Bool.false_eq_true, if_false, List.append_nil] at hx; exact h7 x r hx
    · have hst : isStrong e = false := by simp [isStrong, hs, hb]
      have hwk : isWeak e = true := by simp [isWeak, hs, hb]
      have hm : (meet1 m e.2.2 e.1 e.2.1) = { m with second := if m.weak = 0 then entE e else m.second, weak := m.weak + 1 } := by
        unfold meet1
        rw [if_neg hs, if_neg hb]
        split <;> rfl
      rw [hm]
      refine ⟨?_, ?_, ?_, ?_, ?_, ?_, ?_⟩
      · rw [hcs, hst]; simpa using h1
      · rw [hcs, hwk]; simp only [if_true]; rw [h2]; rfl
      · rw [hcs, hnd]; simpa using h3
      · rw [has, h4]; rfl
      · rw [has, h5]; rfl
      · intro x r hx; rw [hfs, hst] at hx; simp only [Bool.false_eq_true, if_false, List.append_nil] at hx; exact h6 x r hx
      · intro x r hx
        rw [hfs, hwk] at hx
        simp only [if_true] at hx ⊢
        cases hf : es.filter isWeak with
        | nil =>
          have h0 : m.weak = 0 := by rw [h2, List.countP_eq_length_filter, hf]; rfl
          rw [hf] at hx
          injection hx with hx _
          rw [if_pos h0, hx]
        | cons y q =>
          have h0 : ¬ m.weak = 0 := by rw [h2, List.countP_eq_length_filter, hf]; simp; omega
          rw [hf] at hx
          injection hx with hx _
          rw [if_neg h0, ← hx]
          exact h7 y q hf
theorem told (es : List Ev) : Told es (es.foldl met zM) := by
  induction es using snoc_ind with
  | h0 => exact ⟨rfl, rfl, rfl, rfl, rfl, fun _ _ h => (by cases h), fun _ _ h => (by cases h)⟩
  | h1 l x ih =>
    rw [List.foldl_append]
    exact told_step ih x
/-- a table's word on a name -/
theorem told_of (l : List S36) (n : ByteArray) : Told ((evs l).filter (tells n)) (lk zM (namesAt l l.length) n) := by
  rw [names_evs, lk_fold]
  exact told _
end Go.Proofs.Ytibkcnlcmempgaa.Res
end
section
namespace Go.Proofs.Ytibkcnlcmempgaa.Res
set_option linter.unusedVariables false
set_option linter.unusedSimpArgs false
open Go.RowKit Go.Proofs.Ytibkcnlcmempgaa.G Go.Proofs.YtibkcnlcmempgaaW.PrintWords
def turnE (n : Nat) (e : Ev) : Ev := (n - 1 - e.1, e.2.1, e.2.2)
theorem rd_turn (l : List S36) (i : Nat) (h : i < l.length) : rd_T36 l.reverse (i : Int) = rd_T36 l ((l.length - 1 - i : Nat) : Int) := by
  unfold rd_T36
  rw [Int.toNat_natCast, Int.toNat_natCast, List.getD_eq_getElem?_getD, List.getD_eq_getElem?_getD, List.getElem?_reverse h]
theorem range_turn (n : Nat) : (List.range n).map (fun i => n - 1 - i) = (List.range n).reverse := by
  apply List.ext_getElem
  · simp
  · intro i h1 h2
    simp
theorem evs_turn (l : List S36) : List.Perm ((evs l.reverse).map (turnE l.length)) (evs l) := by
  have h1 : (evs l.reverse).map (turnE l.length) = ((List.range l.length).map (fun i => l.length - 1 - i)).flatMap fun (i : Nat) => (List.range (rd_T36 l (i : Int)).f1.length).map fun (j : Nat) => (i, j, symOf l i j) := by
    unfold evs
    rw [List.map_flatMap, List.length_reverse, List.flatMap_def, List.flatMap_def, List.map_map]
    congr 1
    apply List.map_congr_left
    intro i hi
    have hi' : i < l.length := List.mem_range.1 hi
    simp only [Function.comp, List.map_map, symOf, rd_turn l i hi', turnE]
    rfl
  rw [h1, range_turn]
  exact (List.reverse_perm _).flatMap_right _
theorem hits_turn (l : List S36) (n : ByteArray) : List.Perm (((evs l.reverse).filter (tells n)).map (turnE l.length)) ((evs l).filter (tells n)) := by
  have h : (evs l.reverse).filter (tells n) = (evs l.reverse).filter (tells n ∘ turnE l.length) := rfl
  rw [h, ← List.filter_map]
  exact (evs_turn l).filter _
structure Alike (k : Nat) (m m' : Mean) : Prop where
  strong : m'.strong = m.strong
  weak : m'.weak = m.weak
  needed : m'.needed = m.needed
  tls : m'.tls = m.tls
  plain : m'.plain = m.plain
theorem alike (l : List S36) (n : ByteArray) : Alike l.length (lk zM (namesAt l l.length) n) (lk zM (namesAt l.reverse l.reverse.length) n) := by
  have h1 := told_of l n
  have h2 := told_of l.reverse n
  have hp := hits_turn l n
  have hc : ∀ p : Ev → Bool, (∀ e, p (turnE l.length e) = p e) → ((evs l.reverse).filter (tells n)).countP p = ((evs l).filter (tells n)).countP p := by
    intro p hp'
    rw [← hp.countP_eq, List.countP_map]
    congr 1
    funext e
    exact (hp' e).symm
  have ha : ∀ p : Ev → Bool, (∀ e, p (turnE l.length e) = p e) → ((evs l.reverse).filter (tells n)).any p = ((evs l).filter (tells n)).any p := by
    intro p hp'
    rw [← hp.any_eq, List.any_map]
    congr 1
    funext e
    exact (hp' e).symm
  exact ⟨by rw [h2.strong, h1.strong, hc isStrong (fun _ => rfl)], by rw [h2.weak, h1.weak, hc isWeak (fun _ => rfl)], by rw [h2.needed, h1.needed, hc isNeed (fun _ => rfl)], by rw [h2.tls, h1.tls, ha isTls (fun _ => rfl)], by rw [h2.plain, h1.plain, ha isPlain (fun _ => rfl)]⟩
theorem one_turn (l : List S36) (n : ByteArray) (h : (lk zM (namesAt l l.length) n).strong = 1) : ∃ e, (lk zM (namesAt l.reverse l.reverse.length) n).first = entE e ∧ (lk zM (namesAt l l.length) n).first = entE (turnE l.length e) ∧ e ∈ evs l.reverse ∧ isStrong e = true := by
  have h1 := told_of l n
  have h2 := told_of l.reverse n
  have h3 := (alike l n).strong
  have hp := (hits_turn l n).filter isStrong
  rw [List.filter_map] at hp
  have he : (isStrong ∘ turnE l.length) = isStrong := rfl
  rw [he] at hp
  have hl : (((evs l.reverse).filter (tells n)).filter isStrong).length = 1 := by
    have := h2.strong
    rw [h3, h, List.countP_eq_length_filter] at this
    omega
  obtain ⟨e, hx⟩ := List.length_eq_one_iff.1 hl
  rw [hx] at hp
  have hy := List.perm_singleton.1 hp.symm
  have hm : e ∈ ((evs l.reverse).filter (tells n)).filter isStrong := by rw [hx]; exact List.mem_singleton.2 rfl
  rw [List.mem_filter, List.mem_filter] at hm
  exact ⟨e, h2.first e [] hx, h1.first _ [] hy, hm.1.1, hm.2⟩
theorem keys_turn (l : List S36) (k : Key) : k ∈ (namesAt l.reverse l.reverse.length).map (·.1) ↔ k ∈ (namesAt l l.length).map (·.1) := by
  rw [names_evs, names_evs, keys_fold, keys_fold]
  have hp := evs_turn l
  constructor
  · rintro (h | ⟨e, he, h⟩)
    · exact .inl h
    · exact .inr ⟨turnE l.length e, hp.mem_iff.1 (List.mem_map.2 ⟨e, he, rfl⟩), h⟩
  · rintro (h | ⟨e, he, h⟩)
    · exact .inl h
    · obtain ⟨e', he', rfl⟩ := List.mem_map.1 (hp.mem_iff.2 he)
      exact .inr ⟨e', he', h⟩
theorem rise_eq {α β : Type} {tb : List (Key × α)} {tb' : List (Key × β)} (h1 : (tb.map (·.1)).Nodup) (h2 : (tb'.map (·.1)).Nodup) (h : ∀ k, k ∈ tb'.map (·.1) ↔ k ∈ tb.map (·.1)) : rise tb' = rise tb := by
  have hp : List.Perm (tb'.map (·.1)) (tb.map (·.1)) := (List.perm_ext_iff_of_nodup h2 h1).2 h
  have hk : ∀ {γ : Type} (t : List (Key × γ)), (t.map fun p => asStr p.1).map (fun s => s.data.toList) = t.map (·.1) := by
    intro γ t
    rw [List.map_map]
    apply List.map_congr_left
    intro p _
    exact asStr_data p.1
  unfold rise risen
  rw [hk, hk]
  congr 1
  have tr : ∀ a b c : Key, decide (a ≤ b) = true → decide (b ≤ c) = true → decide (a ≤ c) = true := fun a b c h1 h2 => by
    simp only [decide_eq_true_eq] at *
    exact List.le_trans h1 h2
  have tot : ∀ a b : Key, (decide (a ≤ b) || decide (b ≤ a)) = true := fun a b => by
    rcases List.le_total a b with h | h <;> simp [h]
  refine List.Perm.eq_of_pairwise (le := fun a b => decide (a ≤ b) = true) (fun a b _ _ h1 h2 => ?_) (List.pairwise_mergeSort tr tot _) (List.pairwise_mergeSort tr tot _) (((List.mergeSort_perm _ _).trans hp).trans (List.mergeSort_perm _ _).symm)
  simp only [decide_eq_true_eq] at h1 h2
  exact List.le_antisymm h1 h2
end Go.Proofs.Ytibkcnlcmempgaa.Res
end
section
namespace Go.Proofs.Ytibkcnlcmempgaa.Res
set_option linter.unusedVariables false
set_option linter.unusedSimpArgs false
open Go.RowKit Go.Proofs.Ytibkcnlcmempgaa.G Go.Proofs.YtibkcnlcmempgaaW.PrintWords
abbrev Sv := S72
def secs (l : List S36) : List Sv := (List.range l.length).flatMap fun (i : Nat) => (List.range (rd_T36 l (i : Int)).f0.length).map fun (j : Nat) => rd_T72 (rd_T36 l (i : Int)).f0 (j : Int)
def stepK (tb : List (Key × Knd)) (s : Sv) : List (Key × Knd) := stepSec s tb
theorem kinds_secs (l : List S36) : kindsAt l l.length = (secs l).foldl stepK [] := by
  unfold kindsAt secs secsAt
  rw [List.foldl_flatMap]
  simp only [List.foldl_map]
  rfl
def named (n : ByteArray) (s : Sv) : Bool := s.f0.data.toList == n.data.toList
theorem lkK_step (tb : List (Key × Knd)) (s : Sv) (n : ByteArray) : lk zK (stepK tb s) n = if named n s = true then kndF s (lk zK tb n) else lk zK tb n := by
  unfold stepK stepSec named
  rw [lk_upT _ _ _ _ _ (ofT_mem _ _ _), lk_ofT]
  simp only [beq_iff_eq]
theorem lkK_fold (n : ByteArray) : ∀ (ss : List Sv) (tb : List (Key × Knd)), lk zK (ss.foldl stepK tb) n = (ss.filter (named n)).foldl (fun m s => kndF s m) (lk zK tb n) := by
  intro ss
  induction ss with
  | nil => intro tb; rfl
  | cons s ss ih =>
    intro tb
    rw [List.foldl_cons, ih, lkK_step, List.filter_cons]
    split <;> rfl
theorem keysK_step (tb : List (Key × Knd)) (s : Sv) (k : Key) : k ∈ (stepK tb s).map (·.1) ↔ k ∈ tb.map (·.1) ∨ s.f0.data.toList = k := by
  unfold stepK stepSec
  rw [upT_keys]
  unfold ofT
  split
  · rename_i hm
    constructor
    · exact .inl
    · rintro (h1 | rfl)
      · exact h1
      · exact hm
  · simp only [List.map_append, List.map_cons, List.map_nil, List.mem_append, List.mem_singleton]
    constructor
    · rintro (h1 | rfl)
      · exact .inl h1
      · exact .inr rfl
    · rintro (h1 | rfl)
      · exact .inl h1
      · exact .inr rfl
theorem keysK_fold (k : Key) : ∀ (ss : List Sv) (tb : List (Key × Knd)), k ∈ (ss.foldl stepK tb).map (·.1) ↔ k ∈ tb.map (·.1) ∨ ∃ s ∈ ss, s.f0.data.toList = k := by
  intro ss
  induction ss with
  | nil => intro tb; simp
  | cons s ss ih =>
    intro tb
    rw [List.foldl_cons, ih, keysK_step]
    simp only [List.mem_cons, exists_eq_or_imp, or_assoc]
/-- the kinds that a name was met with do not agree -/
structure ToldK (ss : List Sv) (m : Knd) : Prop where
  some : m.some = !ss.isEmpty
  first : m.some = true → ∃ s ∈ ss, m.typ = s.f1 ∧ m.flags = s.f2
  clash : m.clash = true ↔ ∃ s ∈ ss, ∃ t ∈ ss, s.f1 ≠ t.f1 ∨ s.f2 ≠ t.f2
theorem toldK_step {ss : List Sv} {m : Knd} (h : ToldK ss m) (s : Sv) : ToldK (ss ++ [s]) (kndF s m) := by
  obtain ⟨h1, h2, h3⟩ := h
  unfold kndF
  cases hm : m.some with
  | false =>
    have he : ss = [] := by
      rw [hm] at h1
      cases ss with
      | nil => rfl
      | cons a b => simp at h1
    subst he
    have hc : m.clash = false := by
      cases hc : m.clash with
      | false => rfl
      | true => obtain ⟨x, hx, _⟩ := h3.1 hc; cases hx
    simp only [Bool.false_eq_true, if_false]
    refine ⟨rfl, fun _ => ⟨s, by simp, rfl, rfl⟩, ?_⟩
    simp [hc]
  | true =>
    obtain ⟨x, hx, hx1, hx2⟩ := h2 hm
    simp only [if_true]
    refine ⟨?_, fun _ => ⟨x, by simp [hx], hx1, hx2⟩, ?_⟩
    · cases ss <;> rfl
    · simp only [Bool.or_eq_true, decide_eq_true_eq]
      constructor
      · rintro (hc | hc)
        · obtain ⟨a, ha, b, hb, hab⟩ := h3.1 hc
          exact ⟨a, by simp [ha], b, by simp [hb], hab⟩
        · exact ⟨x, by simp [hx], s, by simp, by rw [← hx1, ← hx2]; exact hc⟩
      · rintro ⟨a, ha, b, hb, hab⟩
        by_cases hc : m.clash = true
        · exact .inl hc
        · refine .inr ?_
          have hall : ∀ p ∈ ss, p.f1 = m.typ ∧ p.f2 = m.flags := by
            intro p hp
            refine ⟨?_, ?_⟩
            · exact Classical.byContradiction fun e => hc (h3.2 ⟨p, hp, x, hx, .inl (by rw [← hx1]; exact e)⟩)
            · exact Classical.byContradiction fun e => hc (h3.2 ⟨p, hp, x, hx, .inr (by rw [← hx2]; exact e)⟩)
          have hall2 : ∀ p ∈ ss ++ [s], p = s ∨ (p.f1 = m.typ ∧ p.f2 = m.flags) := by
            intro p hp
            rcases List.mem_append.1 hp with hp | hp
            · exact .inr (hall p hp)
            · exact .inl (List.mem_singleton.1 hp)
          apply Classical.byContradiction
          intro hne
          have hs : s.f1 = m.typ ∧ s.f2 = m.flags := by
            refine ⟨Classical.byContradiction fun e => hne (.inl (fun q => e q.symm)), Classical.byContradiction fun e => hne (.inr (fun q => e q.symm))⟩
          have hq : ∀ p ∈ ss ++ [s], p.f1 = m.typ ∧ p.f2 = m.flags := fun p hp => (hall2 p hp).elim (fun e => by rw [e]; exact hs) id
          have h5 := hq a ha
          have h6 := hq b hb
          rcases hab with h | h
          · exact h (h5.1.trans h6.1.symm)
          · exact h (h5.2.trans h6.2.symm)
theorem toldK (ss : List Sv) : ToldK ss (ss.foldl (fun m s => kndF s m) zK) := by
  induction ss using snoc_ind with
  | h0 => exact ⟨rfl, fun h => (by cases h), ⟨fun h => (by cases h), fun ⟨s, hs, _⟩ => (by cases hs)⟩⟩
  | h1 l x ih =>
    rw [List.foldl_append]
    exact toldK_step ih x
theorem secs_turn (l : List S36) : List.Perm (secs l.reverse) (secs l) := by
  have h1 : secs l.reverse = ((List.range l.length).map (fun i => l.length - 1 - i)).flatMap fun (i : Nat) => (List.range (rd_T36 l (i : Int)).f0.length).map fun (j : Nat) => rd_T72 (rd_T36 l (i : Int)).f0 (j : Int) := by
    unfold secs
    rw [List.length_reverse, List.flatMap_def, List.flatMap_def, List.map_map]
    congr 1
    apply List.map_congr_left
    intro i hi
    have hi' : i < l.length := List.mem_range.1 hi
    simp only [Function.comp, rd_turn l i hi']
  rw [h1, range_turn]
  exact (List.reverse_perm _).flatMap_right _
theorem clash_turn (l : List S36) (n : ByteArray) : (lk zK (kindsAt l.reverse l.reverse.length) n).clash = (lk zK (kindsAt l l.length) n).clash := by
  have hp := (secs_turn l).filter (named n)
  rw [kinds_secs, kinds_secs, lkK_fold, lkK_fold]
  have h1 := (toldK ((secs l).filter (named n))).clash
  have h2 := (toldK ((secs l.reverse).filter (named n))).clash
  have h3 : (∃ s ∈ (secs l.reverse).filter (named n), ∃ t ∈ (secs l.reverse).filter (named n), s.f1 ≠ t.f1 ∨ s.f2 ≠ t.f2) ↔ ∃ s ∈ (secs l).filter (named n), ∃ t ∈ (secs l).filter (named n), s.f1 ≠ t.f1 ∨ s.f2 ≠ t.f2 := by
    constructor
    · rintro ⟨s, hs, t, ht, h⟩
      exact ⟨s, hp.mem_iff.1 hs, t, hp.mem_iff.1 ht, h⟩
    · rintro ⟨s, hs, t, ht, h⟩
      exact ⟨s, hp.mem_iff.2 hs, t, hp.mem_iff.2 ht, h⟩
  exact Bool.eq_iff_iff.2 (h2.trans (h3.trans h1.symm))
theorem keysK_turn (l : List S36) (k : Key) : k ∈ (kindsAt l.reverse l.reverse.length).map (·.1) ↔ k ∈ (kindsAt l l.length).map (·.1) := by
  rw [kinds_secs, kinds_secs, keysK_fold, keysK_fold]
  have hp := secs_turn l
  constructor
  · rintro (h | ⟨e, he, h⟩)
    · exact .inl h
    · exact .inr ⟨e, hp.mem_iff.1 he, h⟩
  · rintro (h | ⟨e, he, h⟩)
    · exact .inl h
    · exact .inr ⟨e, hp.mem_iff.2 he, h⟩
theorem from_zero (l : List S36) : checkFrom l = 0 ↔ ∀ f ∈ l, checkFile f = 0 := by
  induction l with
  | nil => simp [checkFrom]
  | cons f l ih =>
    unfold checkFrom
    by_cases h : checkFile f = 0
    · simp only [h, ne_eq, not_true_eq_false, if_false, List.mem_cons, forall_eq_or_imp, true_and]
      exact ih
    · simp [h]
theorem check_turn (l : List S36) : checkR l.reverse = 0 ↔ checkR l = 0 := by
  unfold checkR
  rw [List.length_reverse]
  by_cases h : l.length > 16
  · rw [if_pos h, if_pos h]
  · rw [if_neg h, if_neg h, from_zero, from_zero]
    simp only [List.mem_reverse]
theorem fits_turn {l : List S36} (h : checkR l = 0) : checkR l.reverse = 0 := (check_turn l).2 h
theorem rise_names (l : List S36) (h : checkR l = 0) : rise (namesAt l.reverse l.reverse.length) = rise (namesAt l l.length) :=
  rise_eq (names_32 l (fits_of h).1).2.1 (names_32 _ (fits_of (fits_turn h)).1).2.1 (keys_turn l)
theorem rise_kinds (l : List S36) (h : checkR l = 0) : rise (kindsAt l.reverse l.reverse.length) = rise (kindsAt l l.length) :=
  rise_eq (kinds_32 l (fits_of h).1).2 (kinds_32 _ (fits_of (fits_turn h)).1).2 (keysK_turn l)
theorem faults_turn (l : List S36) : faultsS l.reverse = faultsS l := by
  unfold faultsS
  by_cases h : checkR l = 0
  · rw [if_neg (by simp [fits_turn h]), if_neg (by simp [h])]
    unfold faultsFS wrongS
    rw [rise_names l h, rise_kinds l h]
    have e1 : ∀ n, twice (lk zM (namesAt l.reverse l.reverse.length) n) = twice (lk zM (namesAt l l.length) n) := fun n => by unfold twice; rw [(alike l n).strong]
    have e2 : ∀ n, lacks (lk zM (namesAt l.reverse l.reverse.length) n) = lacks (lk zM (namesAt l l.length) n) := fun n => by unfold lacks; rw [(alike l n).strong, (alike l n).weak, (alike l n).needed]
    have e3 : ∀ n, mixed (lk zM (namesAt l.reverse l.reverse.length) n) = mixed (lk zM (namesAt l l.length) n) := fun n => by unfold mixed; rw [(alike l n).tls, (alike l n).plain]
    have e4 : ∀ n, Knd.clash (lk zK (kindsAt l.reverse l.reverse.length) n) = Knd.clash (lk zK (kindsAt l l.length) n) := clash_turn l
    simp only [e1, e2, e3, e4]
  · have h' : ¬ checkR l.reverse = 0 := fun e => h ((check_turn l).1 e)
    rw [if_pos h', if_pos h]
end Go.Proofs.Ytibkcnlcmempgaa.Res
end
section
namespace Go.Proofs.Ytibkcnlcmempgaa.Res
set_option linter.unusedVariables false
set_option linter.unusedSimpArgs false
open Go.RowKit Go.Proofs.Ytibkcnlcmempgaa.G Go.Proofs.YtibkcnlcmempgaaW.PrintWords
theorem bind_in {f : S36} (h : symCheck f.f1 (namesOf f) = 0) : ∀ s ∈ f.f1, 0 ≤ s.f4 ∧ s.f4 ≤ 2 := by
  intro s hs
  obtain ⟨i, hi, rfl⟩ := List.getElem_of_mem hs
  have hb := (symCheck_ok h).2.2.2.2.2 i hi
  have he : rd_T38 f.f1 (i : Int) = f.f1[i] := by simp [rd_T38, List.getD, hi]
  unfold symBad at hb
  rw [he] at hb
  have hr : Sym.rightOf f.f1[i] (namesOf f) = true := by
    cases h : Sym.rightOf f.f1[i] (namesOf f)
    · rw [h] at hb
      simp at hb
    · rfl
  unfold Sym.rightOf at hr
  simp only [Bool.and_eq_true, Bool.or_eq_true, beq_iff_eq, decide_eq_true_eq] at hr
  obtain ⟨⟨⟨⟨⟨_, h1⟩, h2⟩, _⟩, _⟩, _⟩ := hr
  omega
theorem sym_zero {f : S36} (h : checkFile f = 0) : symCheck f.f1 (namesOf f) = 0 := by
  unfold checkFile at h
  split at h
  · rename_i h1
    exact absurd h h1
  · rename_i h1
    exact Classical.not_not.1 h1
theorem evs_in {l : List S36} {e : Ev} (h : e ∈ evs l) : e.1 < l.length ∧ e.2.1 < (rd_T36 l (e.1 : Int)).f1.length ∧ e.2.2 = symOf l e.1 e.2.1 := by
  unfold evs at h
  rw [List.mem_flatMap] at h
  obtain ⟨i, hi, h⟩ := h
  obtain ⟨j, hj, rfl⟩ := List.mem_map.1 h
  exact ⟨List.mem_range.1 hi, List.mem_range.1 hj, rfl⟩
theorem rd_mem (l : List S36) (i : Nat) (h : i < l.length) : rd_T36 l (i : Int) ∈ l := by
  unfold rd_T36
  rw [Int.toNat_natCast, List.getD_eq_getElem?_getD, List.getElem?_eq_getElem h]
  exact List.getElem_mem _
theorem sym_mem (l : List S36) (i j : Nat) (h : j < (rd_T36 l (i : Int)).f1.length) : symOf l i j ∈ (rd_T36 l (i : Int)).f1 := by
  unfold symOf rd_T38
  rw [Int.toNat_natCast, List.getD_eq_getElem?_getD, List.getElem?_eq_getElem h]
  exact List.getElem_mem _
theorem evs_bind {l : List S36} (h : checkR l = 0) {e : Ev} (he : e ∈ evs l) : 0 ≤ e.2.2.f4 ∧ e.2.2.f4 ≤ 2 := by
  obtain ⟨h1, h2, h3⟩ := evs_in he
  rw [h3]
  exact bind_in (sym_zero ((fits_of h).2 _ (rd_mem l e.1 h1))) _ (sym_mem l e.1 e.2.1 h2)
theorem bytes_eq {a b : ByteArray} (h : a.data.toList = b.data.toList) : a = b := by
  rw [← asStr_of a, ← asStr_of b, h]
/-- a weak meaning -/
theorem weak_entry {l : List S36} (h : checkR l = 0) (n : ByteArray) (hs : (lk zM (namesAt l l.length) n).strong = 0) : (entryF n (lk zM (namesAt l l.length) n)).f0 = n ∧ (entryF n (lk zM (namesAt l l.length) n)).f3 = 2 := by
  have ht := told_of l n
  unfold entryF
  rw [if_neg (by omega)]
  by_cases hw : 0 < (lk zM (namesAt l l.length) n).weak
  · rw [if_pos hw]
    cases hf : ((evs l).filter (tells n)).filter isWeak with
    | nil =>
      have := ht.weak
      rw [List.countP_eq_length_filter, hf] at this
      simp at this
      omega
    | cons e r =>
      rw [ht.second e r hf]
      have hm : e ∈ ((evs l).filter (tells n)).filter isWeak := by rw [hf]; exact List.mem_cons_self ..
      rw [List.mem_filter, List.mem_filter] at hm
      obtain ⟨⟨h1, h2⟩, h3⟩ := hm
      have hb := evs_bind h h1
      unfold tells at h2
      unfold isWeak at h3
      simp only [Bool.and_eq_true, decide_eq_true_eq, beq_iff_eq, Bool.not_eq_true', beq_eq_false_iff_ne] at h2 h3
      refine ⟨bytes_eq h2.2, ?_⟩
      show e.2.2.f4 = 2
      have := h2.1
      have := h3.2
      omega
  · rw [if_neg hw]
    exact ⟨rfl, rfl⟩
theorem strong_one {l : List S36} (h : checkR l = 0) (hf : faultsS l = []) (n : ByteArray) (hn : n ∈ rise (namesAt l l.length)) : (lk zM (namesAt l l.length) n).strong = 0 ∨ (lk zM (namesAt l l.length) n).strong = 1 := by
  have h0 := (told_of l n).strong
  unfold faultsS at hf
  rw [if_neg (by simp [h])] at hf
  unfold faultsFS at hf
  simp only [List.append_eq_nil_iff] at hf
  have h1 := hf.1.1.1
  unfold wrongS at h1
  rw [List.map_eq_nil_iff, List.filter_eq_nil_iff] at h1
  have h2 := h1 n hn
  unfold twice at h2
  simp only [decide_eq_true_eq] at h2
  omega
/-- a name's two meanings -/
theorem entry_turn {l : List S36} (h : checkR l = 0) (hf : faultsS l = []) (n : ByteArray) (hn : n ∈ rise (namesAt l l.length)) :
    (entryF n (lk zM (namesAt l l.length) n)).f0 = (entryF n (lk zM (namesAt l.reverse l.reverse.length) n)).f0 ∧ (entryF n (lk zM (namesAt l l.length) n)).f3 = (entryF n (lk zM (namesAt l.reverse l.reverse.length) n)).f3 ∧
    ((entryF n (lk zM (namesAt l l.length) n)).f3 = 1 → (entryF n (lk zM (namesAt l l.length) n)).f1 = (l.length : Int) - 1 - (entryF n (lk zM (namesAt l.reverse l.reverse.length) n)).f1 ∧ (entryF n (lk zM (namesAt l l.length) n)).f2 = (entryF n (lk zM (namesAt l.reverse l.reverse.length) n)).f2 ∧ 0 ≤ (entryF n (lk zM (namesAt l.reverse l.reverse.length) n)).f1 ∧ (entryF n (lk zM (namesAt l.reverse l.reverse.length) n)).f1 < (l.length : Int)) := by
  rcases strong_one h hf n hn with hs | hs
  · have hs' : (lk zM (namesAt l.reverse l.reverse.length) n).strong = 0 := by rw [(alike l n).strong, hs]
    have h1 := weak_entry h n hs
    have h2 := weak_entry (fits_turn h) n hs'
    exact ⟨h1.1.trans h2.1.symm, h1.2.trans h2.2.symm, fun e => by rw [h1.2] at e; cases e⟩
  · have hs' : (lk zM (namesAt l.reverse l.reverse.length) n).strong = 1 := by rw [(alike l n).strong, hs]
    obtain ⟨e, h1, h2, h3, h4⟩ := one_turn l n hs
    have e1 : entryF n (lk zM (namesAt l l.length) n) = entE (turnE l.length e) := by unfold entryF; rw [if_pos (by omega), h2]
    have e2 : entryF n (lk zM (namesAt l.reverse l.reverse.length) n) = entE e := by unfold entryF; rw [if_pos (by omega), h1]
    rw [e1, e2]
    have hi := (evs_in h3).1
    rw [List.length_reverse] at hi
    refine ⟨rfl, rfl, fun _ => ⟨?_, rfl, ?_, ?_⟩⟩
    · show ((l.length - 1 - e.1 : Nat) : Int) = (l.length : Int) - 1 - (e.1 : Int)
      omega
    · show 0 ≤ (e.1 : Int)
      omega
    · show (e.1 : Int) < _
      omega
end Go.Proofs.Ytibkcnlcmempgaa.Res
end
section
namespace Go.Proofs.Ytibkcnlcmempgaa.Pure
open Go.RowKit Go.Proofs.Ytibkcnlcmempgaa.G Go.Proofs.Ytibkcnlcmempgaa.Stmt Go.Proofs.YtibkcnlcmempgaaW.PrintWords Go.Proofs.Ytibkcnlcmempgaa.Res
set_option linter.unusedVariables false
set_option linter.unusedSimpArgs false
theorem nextO (i : Nat) (h : i < 1000000000000000) : wrap64 ((i : Int) + 1) = ((i + 1 : Nat) : Int) := by
  unfold wrap64
  omega
theorem turned_l0 (l : List S36) (hl : l.length < 2932031007402) (e : Nat) : ∀ (m : Nat), m ≤ l.length → gangwaylaw18_turned.l0 (m + 1 + e) l ((l.drop m).reverse) ((m : Int) - 1) = some l.reverse := by
  intro m
  induction m with
  | zero =>
    intro _
    rw [show 0 + 1 + e = e + 1 by omega, gangwaylaw18_turned.l0, if_neg (by omega)]
    rfl
  | succ m ih =>
    intro hm
    have hr : rd_T36 l (((m + 1 : Nat) : Int) - 1) = l[m] := by
      have h1 : (((m + 1 : Nat) : Int) - 1) = (m : Int) := by omega
      rw [h1]
      simp [rd_T36, List.getD, show m < l.length by omega]
    have hd : (l.drop (m + 1)).reverse ++ [l[m]] = (l.drop m).reverse := by
      rw [List.drop_eq_getElem_cons (show m < l.length by omega), List.reverse_cons]
    rw [show m + 1 + 1 + e = (m + 1 + e) + 1 by omega, gangwaylaw18_turned.l0, if_pos (by omega), if_pos (by omega), if_pos (by omega), if_pos (by rw [List.length_reverse, List.length_drop]; omega), hr]
    have hw : wrap64 ((((m + 1 : Nat) : Int) - 1) - 1) = (m : Int) - 1 := by unfold wrap64; omega
    rw [hw]
    show gangwaylaw18_turned.l0 (m + 1 + e) l ((l.drop (m + 1)).reverse ++ [l[m]]) _ = _
    rw [hd]
    exact ih (by omega)
theorem turned_f (l : List S36) (hl : l.length < 2932031007402) (k : Nat) (hk : l.length + 1 ≤ k) : gangwaylaw18_turned.f k l = some l.reverse := by
  have h := turned_l0 l hl (k - (l.length + 1)) l.length (Nat.le_refl _)
  rw [show l.length + 1 + (k - (l.length + 1)) = k by omega, List.drop_length] at h
  have hw : wrap64 ((l.length : Int) - 1) = (l.length : Int) - 1 := by unfold wrap64; omega
  unfold gangwaylaw18_turned.f
  rw [hw]
  exact h
theorem l1_ok (l : List S36) (h : checkR l = 0) (hf : faultsS l = []) (e : Nat) : ∀ (m i : Nat), i + m = (rise (namesAt l l.length)).length → gangwaylaw18_ResolveOrder.l1 (m + 1 + e) l (entriesF (namesAt l l.length)) (entriesF (namesAt l.reverse l.reverse.length)) (i : Int) = some true := by
  have hr := rise_names l h
  have hlen : (entriesF (namesAt l l.length)).length = (rise (namesAt l l.length)).length := List.length_map _
  have hlen' : (entriesF (namesAt l.reverse l.reverse.length)).length = (rise (namesAt l l.length)).length := by unfold entriesF; rw [List.length_map, hr]
  have hsm : (rise (namesAt l l.length)).length ≤ 32000 := by rw [rise_len]; exact (names_32 l (fits_of h).1).1
  have hl16 : l.length ≤ 16 := (fits_of h).1.1
  intro m
  induction m with
  | zero =>
    intro i hi
    rw [show 0 + 1 + e = e + 1 by omega, gangwaylaw18_ResolveOrder.l1, if_neg (by rw [hlen]; omega)]
    rfl
  | succ m ih =>
    intro i hi
    have hil : i < (rise (namesAt l l.length)).length := by omega
    obtain ⟨n, hn⟩ : ∃ n, n = (rise (namesAt l l.length))[i] := ⟨_, rfl⟩
    have hx : rd_T42 (entriesF (namesAt l l.length)) (i : Int) = entryF n (lk zM (namesAt l l.length) n) := by
      subst hn
      simp [rd_T42, entriesF, List.getD, hil]
    have hy : rd_T42 (entriesF (namesAt l.reverse l.reverse.length)) (i : Int) = entryF n (lk zM (namesAt l.reverse l.reverse.length) n) := by
      unfold entriesF
      rw [hr]
      subst hn
      simp [rd_T42, List.getD, hil]
    obtain ⟨h1, h2, h3⟩ := entry_turn h hf n (by rw [hn]; exact List.getElem_mem _)
    rw [show m + 1 + 1 + e = (m + 1 + e) + 1 by omega, gangwaylaw18_ResolveOrder.l1, if_pos (by rw [hlen]; omega), if_pos (by omega), if_pos (by rw [hlen']; omega), hx, hy, if_pos (by rw [h1]), if_pos h2, nextO i (by omega)]
    by_cases hb : (entryF n (lk zM (namesAt l l.length) n)).f3 = 1
    · obtain ⟨g1, g2, g3, g4⟩ := h3 hb
      have hw : wrap64 ((wrap64 ((l.length : Int) - 1)) - (entryF n (lk zM (namesAt l.reverse l.reverse.length) n)).f1) = (l.length : Int) - 1 - (entryF n (lk zM (namesAt l.reverse l.reverse.length) n)).f1 := by
        have : wrap64 ((l.length : Int) - 1) = (l.length : Int) - 1 := by unfold wrap64; omega
        rw [this]
        unfold wrap64
        omega
      rw [if_pos hb, if_pos (by rw [hw]; exact g1), if_pos g2]
      exact ih (i + 1) (by omega)
    · rw [if_neg hb]
      exact ih (i + 1) (by omega)
theorem smallB_turn (l : List S36) (h : smallB l = true) : smallB l.reverse = true := by
  unfold smallB at *
  rw [List.all_reverse]
  exact h
theorem order (l : List S36) (hl : l.length < 2932031007402) (hs : smallB l = true) : ∃ k, gangwaylaw18_ResolveOrder.f k l = some true := by
  have hfl : (faultsS l).length < 1000000 := by
    unfold faultsS
    by_cases h : checkR l = 0
    · rw [if_neg (by simp [h])]
      have h1 := (names_32 l (fits_of h).1).1
      have h2 := (kinds_32 l (fits_of h).1).1
      have w1 := fun p => wrongs_len 180 zM p (namesAt l l.length)
      have w2 := fun p => wrongs_len 181 zM p (namesAt l l.length)
      have w3 := fun p => wrongs_len 182 zM p (namesAt l l.length)
      have w4 := fun p => wrongs_len 182 zK p (kindsAt l l.length)
      have a1 := w1 twice
      have a2 := w2 lacks
      have a3 := w3 mixed
      have a4 := w4 Knd.clash
      rw [wrongS_enc, List.length_map] at a1 a2 a3 a4
      unfold faultsFS
      simp only [List.length_append]
      omega
    · rw [if_pos h]
      simp
  obtain ⟨K, hK⟩ : ∃ K, K = l.length + 1 + (rise (namesAt l l.length)).length + 1 := ⟨_, rfl⟩
  have loop : ∀ (m i : Nat), i + m = (faultsS l).length → checkR l = 0 → gangwaylaw18_ResolveOrder.l0 (K + 1 + m + 1) l (faultsS l) (faultsS l) (i : Int) = some true := by
    intro m
    induction m with
    | zero =>
      intro i hi hc
      have e1 : resolve_All.f l = some (allP l) := if_pos hs
      have e2 : resolve_All.f l.reverse = some (allP l.reverse) := if_pos (smallB_turn l hs)
      rw [Nat.add_zero, gangwaylaw18_ResolveOrder.l0, if_neg (by omega), e1, turned_f l hl (K + 1) (by omega)]
      simp only [Option.bind_some]
      rw [e2]
      simp only [Option.bind_some, gangwaylaw18_num.f]
      have hE : (allP l).2.1 = (allP l.reverse).2.1 := by
        unfold allP
        rw [if_neg (by simp [hc]), if_neg (by simp [fits_turn hc]), faults_turn]
        cases faultsS l <;> rfl
      rw [if_pos hE]
      cases hf : faultsS l with
      | nil =>
        have p1 : (allP l).1 = entriesF (namesAt l l.length) := by unfold allP; rw [if_neg (by simp [hc]), hf]
        have p2 : (allP l.reverse).1 = entriesF (namesAt l.reverse l.reverse.length) := by unfold allP; rw [if_neg (by simp [fits_turn hc]), faults_turn, hf]
        have hlen : ((entriesF (namesAt l l.length)).length : Int) = ((entriesF (namesAt l.reverse l.reverse.length)).length : Int) := by unfold entriesF; rw [List.length_map, List.length_map, rise_names l hc]
        have h1 := l1_ok l hc hf (K - 1 - (rise (namesAt l l.length)).length) (rise (namesAt l l.length)).length 0 (by omega)
        rw [show (rise (namesAt l l.length)).length + 1 + (K - 1 - (rise (namesAt l l.length)).length) = K by omega] at h1
        rw [p1, p2, hlen, gangwaylaw18_ResolveOrder.j1, if_neg (by simp)]
        exact h1
      | cons f fs =>
        have p1 : (allP l).1 = [] := by unfold allP; rw [if_neg (by simp [hc]), hf]
        have p2 : (allP l.reverse).1 = [] := by unfold allP; rw [if_neg (by simp [fits_turn hc]), faults_turn, hf]
        rw [p1, p2, gangwaylaw18_ResolveOrder.j1, if_neg (by simp)]
        obtain ⟨K', rfl⟩ : ∃ K', K = K' + 1 := ⟨K - 1, by omega⟩
        rw [gangwaylaw18_ResolveOrder.l1, if_neg (by simp)]
        rfl
    | succ m ih =>
      intro i hi hc
      have hb : (!(((rd_T26 (faultsS l) (i : Int)).f0) == ((rd_T26 (faultsS l) (i : Int)).f0)) || (!((((rd_T26 (faultsS l) (i : Int)).f1).toList) == (((rd_T26 (faultsS l) (i : Int)).f1).toList)))) = false := by simp
      rw [show K + 1 + (m + 1) + 1 = (K + 1 + m + 1) + 1 by omega, gangwaylaw18_ResolveOrder.l0, if_pos (by omega), if_pos (by omega), if_pos (by omega), hb, if_neg (by simp), nextO i (by omega)]
      exact ih (i + 1) (by omega) hc
  refine ⟨K + 1 + (faultsS l).length + 1, ?_⟩
  have e1 : resolve_Faults.f l = some (faultsS l) := if_pos hs
  have e2 : resolve_Faults.f l.reverse = some (faultsS l) := by rw [← faults_turn]; exact if_pos (smallB_turn l hs)
  have e3 : resolve_Check.f l = some (checkR l) := if_pos hs
  unfold gangwaylaw18_ResolveOrder.f
  rw [e1, turned_f l hl _ (by omega)]
  simp only [Option.bind_some]
  rw [e2, e3]
  simp only [Option.bind_some, gangwaylaw18_num.f]
  by_cases hc : checkR l = 0
  · rw [if_pos hc, if_pos trivial]
    exact loop (faultsS l).length 0 (by omega) hc
  · have hf : faultsS l = [] := if_pos hc
    rw [if_neg hc, hf, if_pos (by unfold wrap64; simp)]
    rfl
theorem ResolveOrder : Stmt.ResolveOrder := by
  intro l h
  refine order l (by have := h.1; omega) ?_
  unfold smallB
  rw [List.all_eq_true]
  intro f hf
  have := ((h.2.2 f hf).1).1
  simpa using this
end Go.Proofs.Ytibkcnlcmempgaa.Pure
end
section
namespace Go.Proofs.Ytibkcnlcmempgaa.Opening
set_option linter.unusedVariables false
set_option linter.unusedSimpArgs false
open Go.ChangeShapes Go.WideShapes Go.Proofs.YtibkcnlcmempgaaW.PrintWords
/-- A datum of type t opens as a value of kind d: it is well (wf), and its bulk is at least its weight (wt). -/
structure Opens {α : Type} (P : Program) (t : TypeId) (d : Kd α) (wf : α → Prop) (wt : α → Nat) : Prop where
  cells : P.cellsOf t = d.sz
  op : ∀ {H : Type} {enc : TypeId × Value → H} {w : World} {base : Nat} {spare : Nat → Bool} {held : Bool} {fuel : Nat} {cs : List Value} {x : DataW H × List MemPlace},
    DataW.trod enc P w base spare held fuel t cs = some x → (∀ n ∈ x.1.weights P t, n ≤ 140737488351232) → ∃ a : α, d.K w a cs ∧ wf a ∧ wt a ≤ Rows.uptoBulk x.1
theorem opens_int {P : Program} {t : TypeId} (k : IntKind) (ht : P.underlying t = some (.int k)) (hc : P.cellsOf t = 1) : Opens P t (Kd.int k) (fun a => (Lit.int k a).wf = true) (fun _ => 1) :=
  ⟨hc, fun h _ => by
    obtain ⟨n, rfl, rfl, hw⟩ := DataW.trod_int ht h
    exact ⟨n, rfl, hw, by simp [Rows.uptoBulk]⟩⟩
theorem opens_string {P : Program} {t : TypeId} (ht : P.underlying t = some .string) (hc : P.cellsOf t = 1) : Opens P t Kd.string (fun a => a.size ≤ 140737488351232) (fun a => a.size + 1) :=
  ⟨hc, fun h hz => by
    obtain ⟨s, rfl, rfl, _⟩ := DataW.trod_string ht h
    have e : s.data.toList.length = s.size := by rw [Array.length_toList]; rfl
    refine ⟨s, rfl, ?_, by simp only [Rows.uptoBulk]; omega⟩
    rw [← e]
    exact hz _ (by simp [DataW.weights])⟩
theorem list_of {α : Type} {p : Nat → α → Prop} : ∀ {n : Nat}, (∀ i, i < n → ∃ a, p i a) → ∃ l : List α, l.length = n ∧ ∀ i (h : i < l.length), p i l[i]
  | 0, _ => ⟨[], rfl, fun i h => absurd h (Nat.not_lt_zero _)⟩
  | n + 1, h => by
    obtain ⟨l, hl, hp⟩ := list_of (n := n) (fun i hi => h i (Nat.lt_succ_of_lt hi))
    obtain ⟨a, ha⟩ := h n (Nat.lt_succ_self n)
    refine ⟨l ++ [a], by simp [hl], fun i hi => ?_⟩
    by_cases hlt : i < l.length
    · rw [List.getElem_append_left hlt]
      exact hp i hlt
    · have e : i = n := by simp at hi; omega
      subst e
      rw [List.getElem_append_right (by omega)]
      simpa [hl] using ha
theorem bulk_all {α H : Type} {wt : α → Nat} : ∀ {l : List α} {ds : List (DataW H)}, l.length ≤ ds.length → (∀ i (h : i < l.length) d, ds[i]? = some d → wt l[i] ≤ Rows.uptoBulk d) → (l.map wt).sum ≤ Rows.uptoBulkAll ds
  | [], _, _, _ => by simp
  | a :: l, [], h, _ => by simp at h
  | a :: l, d :: ds, h, hw => by
    have h0 := hw 0 (by simp) d rfl
    have h1 := bulk_all (l := l) (ds := ds) (by simpa using h) (fun i hi d' hd' => hw (i + 1) (by simpa using hi) d' (by simpa using hd'))
    simp only [List.map_cons, List.sum_cons, Rows.uptoBulkAll]
    simp at h0
    omega
theorem weights_all {H : Type} {P : Program} {e : TypeId} : ∀ {ds : List (DataW H)} {d : DataW H}, d ∈ ds → ∀ n ∈ d.weights P e, n ∈ DataW.weightsAll P e ds
  | d0 :: ds, d, h, n, hn => by
    simp only [DataW.weightsAll, List.mem_append]
    cases List.mem_cons.1 h with
    | inl e => subst e; exact .inl hn
    | inr e => exact .inr (weights_all e n hn)
theorem opens_slice {α : Type} {P : Program} {t e : TypeId} {d : Kd α} {wf : α → Prop} {wt : α → Nat} {b : Nat} (ho : Opens P e d wf wt) (ht : P.underlying t = some (.slice e)) (hc : P.cellsOf t = 1) (hb : P.bytesOf e = b) :
    Opens P t (Kd.slice e d) (fun l => l.length * b ≤ 140737488351232 ∧ l.length ≤ 9223372036854775807 ∧ ∀ a ∈ l, wf a) (fun l => (l.map wt).sum + 1) :=
  ⟨hc, fun {H enc w base spare held fuel cs x} h hz => by
    subst hb
    rcases DataW.trod_slice ht h with ⟨rfl, rfl⟩ | ⟨a, len, cap, elems, rest, n, _, rfl, rfl, hb, hl, hm, hlen, hel, hsp, hns⟩
    · exact ⟨[], ⟨none, 0, rfl, Nat.le_refl _, Kd.C_nil d w⟩, ⟨by simp, by simp, by simp⟩, by simp [Rows.uptoBulk]⟩
    · have hm' : cap ≤ 9223372036854775807 := hm
      have hz1 : (elems.length + rest.length) * P.bytesOf e ≤ 140737488351232 := hz _ (by simp [DataW.weights, ht])
      have hz2 : ∀ y ∈ elems, ∀ n ∈ y.1.weights P e, n ≤ 140737488351232 := fun y hy n hn => hz _ (by
        simp only [DataW.weights, ht, List.mem_cons, List.mem_append]
        exact .inr (.inl (weights_all (List.mem_map.2 ⟨y, hy, rfl⟩) n hn)))
      have each : ∀ i, i < len → ∃ a' : α, (∃ cs' y, w.cells? base (a.add (i * P.cellsOf e)) (P.cellsOf e) = some cs' ∧ d.K w a' cs' ∧ elems[i]? = some y ∧ wt a' ≤ Rows.uptoBulk y.1) ∧ wf a' := fun i hi => by
        have h1 := hel i hi
        rw [List.getElem?_eq_getElem (by omega)] at h1
        obtain ⟨cs', h2, h3⟩ := Option.bind_eq_some_iff.1 h1
        obtain ⟨a', k1, k2, k3⟩ := ho.op h3 (hz2 _ (List.getElem_mem _))
        exact ⟨a', ⟨cs', _, h2, k1, List.getElem?_eq_getElem (by omega), k3⟩, k2⟩
      obtain ⟨l, hl1, hl2⟩ := list_of each
      subst hl1
      refine ⟨l, ⟨some a, cap, rfl, hl, rfl, by omega, fun _ => ⟨a, rfl, fun j p hp => ?_⟩⟩, ⟨?_, by omega, fun a' ha' => ?_⟩, ?_⟩
      · obtain ⟨hj, rfl⟩ := List.getElem?_eq_some_iff.1 hp
        obtain ⟨⟨cs', y, h2, k1, _, _⟩, _⟩ := hl2 j hj
        obtain ⟨_, hcl, hcell⟩ := World.cells?_some h2
        refine ⟨cs', by rw [hcl, ho.cells], k1, fun i u hu => ?_⟩
        have hi : i < P.cellsOf e := by rw [← hcl]; exact (List.getElem?_eq_some_iff.1 hu).1
        have := hcell i hi
        rw [hu, ho.cells] at this
        rw [← this]
        congr 1
        unfold Addr.add
        by_cases hi0 : i = 0 <;> by_cases hj0 : j * d.sz = 0 <;> simp [hi0, hj0, Nat.add_assoc]
      · refine Nat.le_trans (Nat.mul_le_mul_right _ ?_) hz1
        omega
      · obtain ⟨j, hj, rfl⟩ := List.getElem_of_mem ha'
        exact (hl2 j hj).2
      · have := bulk_all (l := l) (ds := elems.map (·.1)) (wt := wt) (by simp; omega) (fun i hi dd hd => by
          obtain ⟨⟨_, y, _, _, hy, hw⟩, _⟩ := hl2 i hi
          rw [List.getElem?_map, hy] at hd
          simp at hd
          subst hd
          exact hw)
        simp only [Rows.uptoBulk]
        omega⟩
/-- The fields from one on, whose cells begin at off. -/
def OpensF {α : Type} (P : Program) (fs : List Field) (off : Nat) (d : Kd α) (wf : α → Prop) (wt : α → Nat) : Prop :=
  (∃ f r, fs = f :: r ∧ f.offset = off) ∧
  ∀ {H : Type} {enc : TypeId × Value → H} {w : World} {base : Nat} {spare : Nat → Bool} {held : Bool} {fuel : Nat} {cs : List Value} {xs : List (DataW H × List MemPlace)},
    cs.length = d.sz → xs.length = fs.length → (∀ (i : Nat) (f : Field), fs[i]? = some f → DataW.trod enc P w base spare held fuel f.type ((cs.drop (f.offset - off)).take (P.cellsOf f.type)) = xs[i]? ∧ off ≤ f.offset) →
    (∀ n ∈ DataW.weightsEach P (fs.map (·.type)) (xs.map (·.1)), n ≤ 140737488351232) → ∃ a : α, d.K w a cs ∧ wf a ∧ wt a ≤ Rows.uptoBulkAll (xs.map (·.1))
theorem opensF_one {α : Type} {P : Program} {f : Field} {off : Nat} {d : Kd α} {wf : α → Prop} {wt : α → Nat} (ho : Opens P f.type d wf wt) (hf : f.offset = off) : OpensF P [f] off d wf wt :=
  ⟨⟨f, [], rfl, hf⟩, fun {H enc w base spare held fuel cs xs} hc hx h hz => by
    match xs, hx with
    | [x], _ =>
      have h1 := (h 0 f rfl).1
      rw [hf, Nat.sub_self, List.drop_zero, ho.cells, List.take_of_length_le (by omega)] at h1
      obtain ⟨a, k1, k2, k3⟩ := ho.op (x := x) (by simpa using h1) (fun n hn => hz n (by simp [DataW.weightsEach, hn]))
      exact ⟨a, k1, k2, by simpa [Rows.uptoBulkAll] using k3⟩⟩
theorem opensF_cons {α β : Type} {P : Program} {f : Field} {fs : List Field} {off : Nat} {a : Kd α} {b : Kd β} {wfa : α → Prop} {wta : α → Nat} {wfb : β → Prop} {wtb : β → Nat} (ho : Opens P f.type a wfa wta) (hf : f.offset = off)
    (hr : OpensF P fs (off + a.sz) b wfb wtb) (hge : ∀ g ∈ fs, off + a.sz ≤ g.offset) : OpensF P (f :: fs) off (Kd.pair a b) (fun x => wfa x.1 ∧ wfb x.2) (fun x => wta x.1 + wtb x.2) :=
  ⟨⟨f, fs, rfl, hf⟩, fun {H enc w base spare held fuel cs xs} hc hx h hz => by
    match xs, hx with
    | x :: xs, hx =>
      have hc' : cs.length = a.sz + b.sz := hc
      have h1 := (h 0 f rfl).1
      rw [hf, Nat.sub_self, List.drop_zero, ho.cells] at h1
      obtain ⟨u, k1, k2, k3⟩ := ho.op (x := x) (by simpa using h1) (fun n hn => hz n (by simp [DataW.weightsEach, hn]))
      obtain ⟨v, j1, j2, j3⟩ := hr.2 (cs := cs.drop a.sz) (xs := xs) (by simp; omega) (by simpa using hx) (fun i g hg => by
        obtain ⟨h2, h3⟩ := h (i + 1) g (by simpa using hg)
        have h4 := hge g (List.mem_of_getElem? hg)
        refine ⟨?_, h4⟩
        rw [List.drop_drop, show a.sz + (g.offset - (off + a.sz)) = g.offset - off from by omega]
        simpa using h2) (fun n hn => hz n (by simp [DataW.weightsEach, hn]))
      refine ⟨(u, v), ⟨cs.take a.sz, cs.drop a.sz, (List.take_append_drop _ _).symm, k1, j1⟩, ⟨k2, j2⟩, ?_⟩
      simp only [List.map_cons, Rows.uptoBulkAll]
      omega⟩
theorem opens_struct {α β : Type} {P : Program} {t : TypeId} {fs : Array Field} {d : Kd α} {wf : α → Prop} {wt : α → Nat} (f : β → α) (g : α → β) (hfg : ∀ a, f (g a) = a) (ht : P.underlying t = some (.struct fs)) (hc : P.cellsOf t = d.sz)
    (ho : OpensF P fs.toList 0 d wf wt) : Opens P t (Kd.iso d f) (fun x => wf (f x)) (fun x => wt (f x) + 1) :=
  ⟨hc, fun {H enc w base spare held fuel cs x} h hz => by
    obtain ⟨xs, n, _, rfl, hl, hxl, hx⟩ := DataW.trod_struct ht h
    obtain ⟨a, k1, k2, k3⟩ := ho.2 (cs := cs) (xs := xs) (by rw [hl, hc]) (by simpa using hxl) (fun i fd hfd => ⟨by
      have := hx i fd (by simpa using hfd)
      simpa using this, Nat.zero_le _⟩) (fun m hm => hz m (by simpa [DataW.weights, ht] using hm))
    refine ⟨g a, ?_, ?_, ?_⟩
    · show d.K w (f (g a)) cs
      rw [hfg]
      exact k1
    · rw [hfg]
      exact k2
    · rw [hfg]
      simp only [Rows.uptoBulk]
      omega⟩
/-- The size of each part, out of the row's own reach. -/
theorem weights_of {H : Type} {P : Program} {ts : List TypeId} {ds : List (DataW H)} (h : (DataW.weightsEach P ts ds).all (· ≤ reachBytes) = true) {j : Nat} {t : TypeId} {d : DataW H} (ht : ts[j]? = some t) (hd : ds[j]? = some d) : ∀ n ∈ d.weights P t, n ≤ 140737488351232 := fun n hn => by
  have := List.all_eq_true.1 h _ (DataW.weights_mem_each ht hd n hn)
  exact of_decide_eq_true this
end Go.Proofs.Ytibkcnlcmempgaa.Opening
end
